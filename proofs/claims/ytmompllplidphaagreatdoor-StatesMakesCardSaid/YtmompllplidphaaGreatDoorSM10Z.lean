/- Part of the proofs over this seat: see the text that holds the theorem. Conditions: each theorem bears its own. -/
import Derived.Test.YtmompllplidphaaGreatDoorSM8Z
import Derived.Test.YtmompllplidphaaGreatDoorSM1Z
import Derived.Test.YtmompllplidphaaGreatDoorGSW4Z
import Derived.Test.YtmompllplidphaaGreatDoorHlB
import Derived.Test.YtmompllplidphaaGreatDoorHTZ
import Derived.Test.YtmompllplidphaaGreatDoorGSC1Z
import Derived.Test.YtmompllplidphaaGreatDoorGSN4Z
namespace Go.HL.cm
open Go Go.HL Go.HL.Kl Go.HL.Kl.Mc
theorem ig (l:List Kl.Cl):0<(atoms l).length∧(atoms l).length≤256:=by
 refine⟨?_,(lu l).dj.len⟩
 rcases Nat.eq_zero_or_pos (atoms l).length with h|h
 · have h0:=List.eq_nil_of_length_eq_zero h
   have h1:=yd l
   rw[h0] at h1
   have h2:=congrArg (fun c=>BitVec.getLsbD c 0) h1
   simp only[nG (x:=0) (by omega)] at h2
   simp[orA] at h2
 · exact h
theorem qY (l:List Kl.Cl):MZ (atoms l):=by
 have hd:=(lu l).dj
 refine⟨hd.ne,hd.ap,?_,fun b hb=>?_⟩
 · have h1:=(oH l).2
   have h2:=hd.ap
   have h3:(atoms l).Pairwise fun a b=>least a≤least b∧a &&& b=0#256:=h1.and h2
   refine h3.imp_of_mem ?_
   intro a b ha hb ⟨h,h'⟩
   rcases Nat.lt_or_ge (least a) (least b) with h3|h3
   · exact h3
   · exfalso
     have s1:=(et (hd.ne a ha)).1
     have s2:=(et (hd.ne b hb)).1
     rw[show least b=least a by omega] at s2
     exact qF h' s1 s2
 · have h1:=congrArg (fun c=>BitVec.getLsbD c b) (yd l)
   simp only[nG hb] at h1
   rw[FT,List.any_eq_true] at h1
   exact h1
theorem uB {re:List Nd}{k:Nat}{n:Nd}(h:re[k]?=some n)(h1:n.op=1):bB (re.take (k+1))=bB (re.take k)++[n.set]:=by
 rw[aY h];simp[bB,h1]
theorem xp {re:List Nd}{k:Nat}{n:Nd}(h:re[k]?=some n)(h1:n.op≠1):bB (re.take (k+1))=bB (re.take k):=by
 rw[aY h];simp[bB,h1]
theorem uz (re:List Nd)(k:Nat):(bB (re.take k)).length≤k:=by
 have h1:=List.length_filter_le (fun n:Nd=>decide (n.op=1)) (re.take k)
 have h2:(re.take k).length≤k:=by simp;omega
 simp only[bB,List.length_map];omega
theorem vX {next:List (List Nat)}{K:Nat}:∀ (f many:Nat)(part:List Nat),part.length=next.length→(iT next K f many part).length=next.length
 | 0,_,part,h=>h
 | f+1,many,part,h=>by
   unfold iT
   split
   · exact h
   · exact vX f _ _ (eR h K)
theorem DS {next:List (List Nat)}{ends:List Bool}{K:Nat}(h:ends.length=next.length):(gZ next ends K).length=next.length:=vX _ _ _ (by simp[fA,h])
def pt (part:List Nat)(m:Nat):Nat:=part[m]?.getD 0
theorem kS {part:List Nat}{lv:List Bool}{met:List Nat}{to:Nat}(h:lv[to]?=some false):jQ part lv met to=(-1,met):=by simp[jQ,h]
theorem jK {part:List Nat}{lv:List Bool}{met:List Nat}{to:Nat}(h:lv[to]?=some true):jQ part lv met to=(((idx (met.map (pt part)) (pt part to):Nat):Int),if pt part to∈met.map (pt part) then met else met++[to]):=by
 unfold jQ
 rw[h];rfl
theorem dh {part:List Nat}{lv:List Bool}{r met:List Nat}{k to:Nat}(h:r[k]?=some to):cz part lv (r.take (k+1)) met=((cz part lv (r.take k) met).1++[(jQ part lv (cz part lv (r.take k) met).2 to).1],(jQ part lv (cz part lv (r.take k) met).2 to).2):=by
 rw[aY h,vY]
theorem nq {part:List Nat}{lv:List Bool}{r met:List Nat}{k:Nat}(h:k≤r.length):(cz part lv (r.take k) met).1.length=k:=by rw[rQ,qd h]
theorem PH (part:List Nat)(lv:List Bool)(met:List Nat)(to:Nat):(jQ part lv met to).2.length≤met.length+1∧met.length≤(jQ part lv met to).2.length:=by
 unfold jQ
 split
 · simp
 · dsimp only;split <;> simp
theorem l5 (part:List Nat)(lv:List Bool):∀ (r met:List Nat),(cz part lv r met).2.length≤met.length+r.length∧met.length≤(cz part lv r met).2.length
 | [],met=>by simp[cz]
 | to::r,met=>by
   have h1:=l5 part lv r (jQ part lv met to).2
   have h2:=PH part lv met to
   simp only[cz,List.length_cons]
   omega
theorem x3 (part:List Nat)(lv:List Bool):∀ (r met:List Nat),∃ t,(cz part lv r met).2=met++t
 | [],met=>⟨[],by simp[cz]⟩
 | to::r,met=>by
   obtain⟨t,ht⟩:=x3 part lv r (jQ part lv met to).2
   have h2:∃ u,(jQ part lv met to).2=met++u:=by
     unfold jQ
     split
     · exact⟨[],by simp⟩
     · dsimp only
       split
       · exact⟨[],by simp⟩
       · exact⟨[to],rfl⟩
   obtain⟨u,hu⟩:=h2
   exact⟨u++t,by show (cz part lv r (jQ part lv met to).2).2=_;rw[ht,hu,List.append_assoc]⟩
theorem DV {w:Wd}{part:List Nat}{lv:List Bool}{f i:Nat}{m:Lm}(hf:0<f)(hi:i<m.met.length)(hm:m.met.length≤256):gJ w part lv f i m=gJ w part lv (f-1) (i+1) (gH w part lv i m):=by
 obtain⟨g,rfl⟩:∃ g,f=g+1:=⟨f-1,by omega⟩
 simp only[gJ,if_pos hi,if_neg (show ¬ 256<m.met.length by omega),Nat.add_sub_cancel]
theorem HF {w:Wd}{part:List Nat}{lv:List Bool}{f i:Nat}{m:Lm}(hf:0<f)(hi:¬ i<m.met.length):gJ w part lv f i m=some m:=by
 obtain⟨g,rfl⟩:∃ g,f=g+1:=⟨f-1,by omega⟩
 simp only[gJ,if_neg hi]
theorem DT {w:Wd}{part:List Nat}{lv:List Bool}{f i:Nat}{m:Lm}(hf:0<f)(hi:i<m.met.length)(hm:256<m.met.length):gJ w part lv f i m=none:=by
 obtain⟨g,rfl⟩:∃ g,f=g+1:=⟨f-1,by omega⟩
 simp only[gJ,if_pos hi,if_pos hm]
theorem ns {w:Wd}{part:List Nat}{lv:List Bool}{i q:Nat}{m:Lm}{row:List Nat}{e:Bool}(hq:m.met[i]?=some q)(hr:w.next[q]?=some row)(he:w.ends[q]?=some e):gH w part lv i m=⟨(cz part lv row m.met).2,m.next++[(cz part lv row m.met).1],m.ends++[e]⟩:=by
 simp[gH,hq,hr,he]
theorem LQ {l:List Nat}{s:Nat}(hs:s∉l){g g':Int→Option Value}(h:∀ j:Nat,g j=si l j)
   (h':∀ j:Int,g' j=if j=(s:Int) then some (.int .i64 ((l.length:Nat):Int)) else g j):∀ j:Nat,g' j=si (l++[s]) j:=by
 have:=El (g:=fun j:Nat=>g j) (g':=fun j:Nat=>g' j) hs h (fun j=>by
   rw[h' (j:Int)]
   by_cases e:j=s
   · rw[if_pos e,if_pos (by omega)]
   · rw[if_neg e,if_neg (by omega)])
 rwa [yi hs] at this
theorem LO {p:Nat}(j:Nat):(if (j:Int)=(p:Int) then some (Value.int .i64 0) else none)=si [p] j:=by
 by_cases e:j=p
 · subst e;rw[if_pos rfl,ni (by simp)];simp[idx]
 · rw[if_neg (by omega),kJ (by simp[e])]
theorem sd {lv:List Bool}{q:Nat}(h:q<lv.length)(hn:¬ lv[q]?=some true):lv[q]?=some false:=by
 rw[List.getElem?_eq_getElem h] at hn ⊢
 cases e:lv[q] <;> simp_all
theorem iq {pm:List Nat}{m:Nat}(h:m<pm.length):pm[m]?=some (pt pm m):=by
 unfold pt
 rw[List.getElem?_eq_getElem h];rfl
def jx (re:List Nd)(n:Nd)(ks:F):Wd:=dJ (aZ n ks ⟨[],[]⟩).2 (aZ n ks ⟨[],[]⟩).1 (atoms (bB re))
def zL (re:List Nd)(n:Nd)(ks:F)(lv:List Bool):Option Lm:=VW (jx re n ks) (gZ (jx re n ks).next (jx re n ks).ends (atoms (bB re)).length) lv
def rU (re:List Nd)(e:Int):Prop:=(bz re=false∧e=49)∨(bz re=true∧ez re=true∧e=44)∨(∃ n ks,Mc.iR re n ks∧ez re=false∧20<(F.nd n ks .nil).weight∧e=48) ∨
 ∃ n ks lv,Mc.iR re n ks∧ez re=false∧(F.nd n ks .nil).weight≤20∧l6 (jx re n ks).next (jx re n ks).ends lv∧zL re n ks lv=none∧e=51
def yJ (re:List Nd)(d:Df):Prop:=bz re=true∧∃ n ks lv m,Mc.iR re n ks∧ez re=false∧(F.nd n ks .nil).weight≤20∧l6 (jx re n ks).next (jx re n ks).ends lv∧zL re n ks lv=some m∧d.next=m.next∧d.ends=m.ends∧d.atoms=atoms (bB re)
end Go.HL.cm
namespace Go.HL
open Go
section
variable {P:Program}{κ:Cx}{Q:gR}{L:Loc}{H:Hp}
theorem LN {ι0 ι1 ι2 ι3 ι4 ι5 ι6 ι7 ι8 ι9 ι10 ι11 ι12 ι13 ι14:Type}{body:Code}(I:ι0→ι1→ι2→ι3→ι4→ι5→ι6→ι7→ι8→ι9→ι10→ι11→ι12→ι13→ι14→Prop)(dd:ι0→ι1→ι2→ι3→ι4→ι5→ι6→ι7→ι8→ι9→ι10→ι11→ι12→ι13→ι14→Loc)(base:Loc)(Hf:ι0→ι1→ι2→ι3→ι4→ι5→ι6→ι7→ι8→ι9→ι10→ι11→ι12→ι13→ι14→Hp)(m:ι0→ι1→ι2→ι3→ι4→ι5→ι6→ι7→ι8→ι9→ι10→ι11→ι12→ι13→ι14→Nat)(i0:ι0)(i1:ι1)(i2:ι2)(i3:ι3)(i4:ι4)(i5:ι5)(i6:ι6)(i7:ι7)(i8:ι8)(i9:ι9)(i10:ι10)(i11:ι11)(i12:ι12)(i13:ι13)(i14:ι14)(h0:I i0 i1 i2 i3 i4 i5 i6 i7 i8 i9 i10 i11 i12 i13 i14)(hL:Sub L (dd i0 i1 i2 i3 i4 i5 i6 i7 i8 i9 i10 i11 i12 i13 i14))(hb:Sub L base)(hH:HSub H (Hf i0 i1 i2 i3 i4 i5 i6 i7 i8 i9 i10 i11 i12 i13 i14))
   (round:∀ i0 i1 i2 i3 i4 i5 i6 i7 i8 i9 i10 i11 i12 i13 i14,I i0 i1 i2 i3 i4 i5 i6 i7 i8 i9 i10 i11 i12 i13 i14→C P κ (Exit.then (Inv κ (fun p:ι0×ι1×ι2×ι3×ι4×ι5×ι6×ι7×ι8×ι9×ι10×ι11×ι12×ι13×ι14=>I p.1 p.2.1 p.2.2.1 p.2.2.2.1 p.2.2.2.2.1 p.2.2.2.2.2.1 p.2.2.2.2.2.2.1 p.2.2.2.2.2.2.2.1 p.2.2.2.2.2.2.2.2.1 p.2.2.2.2.2.2.2.2.2.1 p.2.2.2.2.2.2.2.2.2.2.1 p.2.2.2.2.2.2.2.2.2.2.2.1 p.2.2.2.2.2.2.2.2.2.2.2.2.1 p.2.2.2.2.2.2.2.2.2.2.2.2.2.1 p.2.2.2.2.2.2.2.2.2.2.2.2.2.2) (fun p=>dd p.1 p.2.1 p.2.2.1 p.2.2.2.1 p.2.2.2.2.1 p.2.2.2.2.2.1 p.2.2.2.2.2.2.1 p.2.2.2.2.2.2.2.1 p.2.2.2.2.2.2.2.2.1 p.2.2.2.2.2.2.2.2.2.1 p.2.2.2.2.2.2.2.2.2.2.1 p.2.2.2.2.2.2.2.2.2.2.2.1 p.2.2.2.2.2.2.2.2.2.2.2.2.1 p.2.2.2.2.2.2.2.2.2.2.2.2.2.1 p.2.2.2.2.2.2.2.2.2.2.2.2.2.2++base) (fun p=>Hf p.1 p.2.1 p.2.2.1 p.2.2.2.1 p.2.2.2.2.1 p.2.2.2.2.2.1 p.2.2.2.2.2.2.1 p.2.2.2.2.2.2.2.1 p.2.2.2.2.2.2.2.2.1 p.2.2.2.2.2.2.2.2.2.1 p.2.2.2.2.2.2.2.2.2.2.1 p.2.2.2.2.2.2.2.2.2.2.2.1 p.2.2.2.2.2.2.2.2.2.2.2.2.1 p.2.2.2.2.2.2.2.2.2.2.2.2.2.1 p.2.2.2.2.2.2.2.2.2.2.2.2.2.2) (fun p=>m p.1 p.2.1 p.2.2.1 p.2.2.2.1 p.2.2.2.2.1 p.2.2.2.2.2.1 p.2.2.2.2.2.2.1 p.2.2.2.2.2.2.2.1 p.2.2.2.2.2.2.2.2.1 p.2.2.2.2.2.2.2.2.2.1 p.2.2.2.2.2.2.2.2.2.2.1 p.2.2.2.2.2.2.2.2.2.2.2.1 p.2.2.2.2.2.2.2.2.2.2.2.2.1 p.2.2.2.2.2.2.2.2.2.2.2.2.2.1 p.2.2.2.2.2.2.2.2.2.2.2.2.2.2) (i0,i1,i2,i3,i4,i5,i6,i7,i8,i9,i10,i11,i12,i13,i14)) Q) body (dd i0 i1 i2 i3 i4 i5 i6 i7 i8 i9 i10 i11 i12 i13 i14++base) (Hf i0 i1 i2 i3 i4 i5 i6 i7 i8 i9 i10 i11 i12 i13 i14)):C P κ Q (.loop body) L H:=
 ky (fun p:ι0×ι1×ι2×ι3×ι4×ι5×ι6×ι7×ι8×ι9×ι10×ι11×ι12×ι13×ι14=>I p.1 p.2.1 p.2.2.1 p.2.2.2.1 p.2.2.2.2.1 p.2.2.2.2.2.1 p.2.2.2.2.2.2.1 p.2.2.2.2.2.2.2.1 p.2.2.2.2.2.2.2.2.1 p.2.2.2.2.2.2.2.2.2.1 p.2.2.2.2.2.2.2.2.2.2.1 p.2.2.2.2.2.2.2.2.2.2.2.1 p.2.2.2.2.2.2.2.2.2.2.2.2.1 p.2.2.2.2.2.2.2.2.2.2.2.2.2.1 p.2.2.2.2.2.2.2.2.2.2.2.2.2.2) (fun p=>dd p.1 p.2.1 p.2.2.1 p.2.2.2.1 p.2.2.2.2.1 p.2.2.2.2.2.1 p.2.2.2.2.2.2.1 p.2.2.2.2.2.2.2.1 p.2.2.2.2.2.2.2.2.1 p.2.2.2.2.2.2.2.2.2.1 p.2.2.2.2.2.2.2.2.2.2.1 p.2.2.2.2.2.2.2.2.2.2.2.1 p.2.2.2.2.2.2.2.2.2.2.2.2.1 p.2.2.2.2.2.2.2.2.2.2.2.2.2.1 p.2.2.2.2.2.2.2.2.2.2.2.2.2.2++base) (fun p=>Hf p.1 p.2.1 p.2.2.1 p.2.2.2.1 p.2.2.2.2.1 p.2.2.2.2.2.1 p.2.2.2.2.2.2.1 p.2.2.2.2.2.2.2.1 p.2.2.2.2.2.2.2.2.1 p.2.2.2.2.2.2.2.2.2.1 p.2.2.2.2.2.2.2.2.2.2.1 p.2.2.2.2.2.2.2.2.2.2.2.1 p.2.2.2.2.2.2.2.2.2.2.2.2.1 p.2.2.2.2.2.2.2.2.2.2.2.2.2.1 p.2.2.2.2.2.2.2.2.2.2.2.2.2.2) (fun p=>m p.1 p.2.1 p.2.2.1 p.2.2.2.1 p.2.2.2.2.1 p.2.2.2.2.2.1 p.2.2.2.2.2.2.1 p.2.2.2.2.2.2.2.1 p.2.2.2.2.2.2.2.2.1 p.2.2.2.2.2.2.2.2.2.1 p.2.2.2.2.2.2.2.2.2.2.1 p.2.2.2.2.2.2.2.2.2.2.2.1 p.2.2.2.2.2.2.2.2.2.2.2.2.1 p.2.2.2.2.2.2.2.2.2.2.2.2.2.1 p.2.2.2.2.2.2.2.2.2.2.2.2.2.2) (i0,i1,i2,i3,i4,i5,i6,i7,i8,i9,i10,i11,i12,i13,i14) h0 (hL.app hb) hH (fun p hp=>round p.1 p.2.1 p.2.2.1 p.2.2.2.1 p.2.2.2.2.1 p.2.2.2.2.2.1 p.2.2.2.2.2.2.1 p.2.2.2.2.2.2.2.1 p.2.2.2.2.2.2.2.2.1 p.2.2.2.2.2.2.2.2.2.1 p.2.2.2.2.2.2.2.2.2.2.1 p.2.2.2.2.2.2.2.2.2.2.2.1 p.2.2.2.2.2.2.2.2.2.2.2.2.1 p.2.2.2.2.2.2.2.2.2.2.2.2.2.1 p.2.2.2.2.2.2.2.2.2.2.2.2.2.2 hp)
end
section
variable {P:Program}{κ:Cx}{Q:gR}{L:Loc}{H H':Hp}{ops:Array Oper}{rest:List Oper}{ty t t' kt:TypeId}{d:Nat}{pos:String}{af:Array Edge}{x y z:Operand}{K:Type} [DecidableEq K]{Ek:K→Value}
theorem I1 {vt b c:Nat}{es:List (Mx K)}{k:K}{u:Value}{R:Hp} [ke:KE P kt Ek] [TU P t (.map kt vt)](hx:ev L x=some (.map (some b)))(hy:ev L y=some (Ek k))(hz:ev L z=some u)
   (gS:aJ H [(b,jd Ek es c)] R)(h:∀ ob c',(∀ j,getM ob j=if j=k then some u else getM es j)→ob.length=es.length+(if (getM es k).isSome then 0 else 1)→O P κ ops Q rest L ((b,jd Ek ob c')::R)):O P κ ops Q (⟨none,.insert t x y z,ty,pos,af,none⟩::rest) L H:=by
 refine⟨fun ro a w iF ok=>gg rfl ?_⟩
 have e1:=ok.fr.ev hx
 have e2:=ok.fr.ev hy
 have e3:=ok.fr.ev hz
 have st:=ok.st.perm gS.perm
 have ho:=iN (P:=P) (st.has _ _ (List.mem_cons_self))
 obtain⟨r,hr,hc⟩:=q6 (P:=P) (kt:=kt) (Ek:=Ek) w k es
 have RY:=fun b=>ke.check w b k
 have key:∃ ob c',(Instr.mapUpdate t (.map (some b)) (Ek k) u).run P w = .ok () { w with heap:=w.heap.setIfInBounds b (jd Ek ob c') }∧(∀ j,getM ob j=if j=k then some u else getM es j)∧ob.length=es.length+(if (getM es k).isSome then 0 else 1):=by
   rcases hc with ⟨h1,h2⟩|⟨j,v,h1,h2,⟨e',sH,hk⟩,h4⟩
   · refine⟨es++[⟨k,u,c⟩],c+1,?_,fun j=>xm h2 u c j,by rw[getM_none h2];simp⟩
     unfold Instr.mapUpdate
     simp only[Sem.run_bind,cS,Result.andThen_ok,ho,jd,RY]
     rw[hr,h1]
     simp only[Result.andThen_ok]
     rw[iO (P:=P) (Ek:=Ek) (es:=es) (c:=c) (st.has _ _ (List.mem_cons_self))]
     simp[jd,Mx.enc]
   · refine⟨wG u es k,c,?_,fun j=>AA ⟨e',List.mem_of_getElem? sH,hk⟩ u j,by rw[h2,uy];simp⟩
     have hj:((es.map (Mx.enc Ek)).toArray[j]?).map (·.key)=some (Ek k):=by
       simp[sH,Mx.enc,hk]
     have RZ:(((es.map (Mx.enc Ek)).toArray[j]?).map (·.key)).getD (Ek k)=Ek k:=by rw[hj];rfl
     unfold Instr.mapUpdate
     simp only[Sem.run_bind,cS,Result.andThen_ok,ho,jd,RY]
     rw[hr,h1]
     simp only[Result.andThen_ok,Nat.zero_add,Sem.run_bind]
     rw[RZ]
     simp only[Instr.keyThatStays,ke.bits,if_true,Sem.run_pure,Result.andThen_ok]
     rw[h4 u,iO (P:=P) (Ek:=Ek) (es:=es) (c:=c) (st.has _ _ (List.mem_cons_self))]
 obtain⟨ob,c',ic,hg,hlen⟩:=key
 have wF:(execOp a.eval ⟨none,.insert t x y z,ty,pos,af,none⟩).run P w = .ok .skip { w with heap:=w.heap.setIfInBounds b (jd Ek ob c') }:=by
   simp[execOp,e1,e2,e3,ic]
 exact tf wF ((h ob c' hg hlen).out ro _ _ iF.tail ⟨ok.fr,St.put st rfl rfl rfl rfl⟩)
end
end Go.HL
namespace Go.Proofs.YtmompllplidphaaGreatDoor
open Go Go.HL Go.Proofs Go.HL.Kl Go.HL.Kl.Mc Go.HL.cm
theorem EN {α:Type}{E:α→List Value}{k T:Nat} [eB E k]{sls:List (Sl α)}{dO:List (List α)}{S:Hp}(h:cG E k T sls dO S)(hx:dO=sls.map Sl.xs){s:Sl α}(hs:s∈sls):eA s.v s.xs.length:=by
 obtain⟨n,hn⟩:=List.getElem?_of_mem hs
 obtain⟨xs,S1,Sn,S2,h1,rfl,h3,_⟩:=DR h hn
 rw[hx,List.getElem?_map,hn] at h1
 obtain rfl:=Option.some.inj h1
 exact h3.sl
theorem jA {α:Type}{E:α→List Value}{k T:Nat} [eB E k]{sls:List (Sl α)}{dO:List (List α)}{S H:Hp}{κ:Cx}(h:cG E k T sls dO S)(hx:dO=sls.map Sl.xs)(ER:c4 S H){s:Sl α}(hs:s∈sls):cq E κ H s.v s.xs:=by
 obtain⟨n,hn⟩:=List.getElem?_of_mem hs
 obtain⟨xs,S1,Sn,S2,h1,rfl,h3,_⟩:=DR h hn
 rw[hx,List.getElem?_map,hn] at h1
 obtain rfl:=Option.some.inj h1
 exact h3.aU fun p hp=>ER p (by simp[hp])
def QW (a:Int):Value:=.int .i64 a
instance keI:KE Tryz.prog 3 QW:=KE.int
def Iq (d:Df)(v:Value)(S:Hp):Prop:=∃ (na:Option Addr)(nc:Nat)(rows:List (Sl Int))(ea:Option Addr)(ec:Nat)(aa:Option Addr)(ac:Nat)(Sn Sq Se Sa:Hp),v = .agg [.slice aa d.atoms.length ac,.slice na rows.length nc,.slice ea d.ends.length ec].toArray∧S=Sn++(Sq++(Se++Sa))∧aG cX 1 36 (.slice na rows.length nc) rows Sn∧cG Ei 1 3 rows d.next Sq∧d.next=rows.map Sl.xs∧aG fR 1 4 (.slice ea d.ends.length ec) d.ends Se∧aG Ec 4 39 (.slice aa d.atoms.length ac) d.atoms Sa
inductive xo (re:List Nd)(v:Value)(S':Hp):Prop
 | err {e:Int}(he:rU re e)(hv:v = .tuple #[.agg [.slice none 0 0,.slice none 0 0,.slice none 0 0].toArray,.int .i64 e])(hs:e=49∨bz re=true)
 | ok {d:Df}{dv:Value}(hd:yJ re d)(hv:v = .tuple #[dv,.int .i64 0])(ho:Iq d dv S')
theorem HC {rows:List (Sl Int)}{dO:List (List Int)}{S S':Hp}{a:Option Addr}{n c:Nat}{xs:List Int}(h:cG Ei 1 3 rows dO S)(hn:xs.length=n)(h':aG Ei 1 3 (.slice a n c) xs S'):cG Ei 1 3 (rows++[⟨a,c,xs⟩]) (dO++[xs]) (S++S'):=by
 subst hn
 exact h.snoc (s:=⟨a,c,xs⟩) h'
theorem HD (ra:Option Addr)(rc:Nat)(re:List Nd)(ey:∀ x∈re,-128≤x.op∧x.op<128)(x:Nd)(ks:F)(hS:Mc.iR re x ks)(iC:bz re=true):HL.Fn Tryz.prog 38 [.slice ra re.length rc] (fun W=>Rd En W (.slice ra re.length rc) re) [] (fun v _=>v = .int .i64 ((F.nd x ks .nil).weight:Nat)):=by
 refine aW Tryz.func38 rfl rfl rfl fun w0 hw=>?_
 have hcw:cut (F.nd x ks .nil).weight=(F.nd x ks .nil).weight:=by have:=hS.weight;unfold cut;omega
 refine cR fun _ bI=>?_;refine oA (oZ bI (ah fun _ bJ=>?_));refine cR fun _ bK=>?_;refine oM ?_;refine ar (nC ra rc re ey) rfl rfl rfl (fun _ st=>(cq.bj hw).out _ st) (fun v6 V4=>?_)
 rw[iC] at V4
 subst V4;refine oS (aT rfl) ?_;refine oZ bK ?_;refine eL bJ (cR fun _ bU=>?_);refine oM ?_;refine ar (vz (ks.size+1) x ks (Nat.lt_succ_self _) ra rc re 0 re.length ey hS.part) rfl rfl rfl (fun _ st=>(cq.bj hw).out _ st) (fun v10 nQ=>?_)
 rw[hcw] at nQ
 subst nQ;refine oM ?_;refine oS sE ?_;refine oS sE (oA (oA (oZ bU (cR fun _ bT=>?_))));refine oM (oA (oZ bT (aA ?_)));refine ?_;exact xR rfl rfl (rfl)
set_option maxHeartbeats 4000000 in
theorem LK (ra:Option Addr)(rc:Nat)(re:List Nd)(ey:∀ x∈re,-128≤x.op∧x.op<128):HL.Fn Tryz.prog 9 [.slice ra re.length rc] (fun W=>Rd En W (.slice ra re.length rc) re∧Tb [] W) [] (fun v S'=>∃ S2,HSub S' S2∧xo re v S2):=by
 refine aW Tryz.func9 rfl rfl rfl fun w0 hw=>?_
 have dr:=hw.1.sl
 have s3:=dr.le
 refine cR fun _ bI=>?_;refine aB rfl rfl fun b2=>?_;refine oA (oZ bI (ah fun _ bJ=>?_));refine ai (cR fun _ bK=>?_);refine oM ?_;refine ar (nC ra rc re ey) rfl rfl rfl (fun _ st=>(cq.bj hw.1).out _ st) (fun WH ue=>?_);subst ue
 cases mV:bz re
 ·refine oS (aT rfl) ?_;refine oA (oZ bK ?_);refine cT (cR fun _ bU=>?_);refine oS (bG (cs:=[_,_,_]) (vs:=[]) rfl rfl (.nil)) ?_;refine bf rfl rfl bY aS aS fE ?_;refine oA (oZ bU (aA ?_));refine aw (aj (?_))
  exact cr rfl (.agg inferInstance inferInstance rfl (aI.aO (.own aV)) aS (.tmp rfl (.nil))) (⟨[],by exact aP,.err (.inl ⟨mV,rfl⟩) rfl (.inl rfl)⟩)
 ·obtain⟨_,x,ks,hS⟩:=gm.1 mV
  have p5:=hS.len
  refine oS (aT rfl) ?_;refine oA (oZ bK ?_);refine cF (cR fun _ bT=>?_);refine oM ?_;refine ar (OQ ra rc re ey) rfl rfl rfl (fun _ st=>(cq.bj hw.1).out _ st) (fun EE gC=>?_);subst gC
  cases Jq:ez re
  ·refine oA (oZ bT ?_);refine cF (cR fun _ bZ=>?_);refine oM ?_;refine ar (HD ra rc re ey x ks hS mV) rfl rfl rfl (fun _ st=>(cq.bj hw.1).out _ st) (fun F2 g9=>?_);subst g9
   by_cases mS:(((F.nd x ks .nil).weight:Nat):Int)>20
   ·refine oS (ab (v':=.bool true) (eX rfl rfl) (congrArg Value.bool (decide_eq_true mS))) ?_;refine oA (oZ bZ ?_);refine cT (cR fun _ cj=>?_);refine oS (bG (cs:=[_,_,_]) (vs:=[]) rfl rfl (.nil)) ?_;refine bf rfl rfl bY aS aS fE ?_;refine oA (oZ cj (aA ?_));refine aw (aj (?_))
    exact cr rfl (.agg inferInstance inferInstance rfl (aI.aO (.own aV)) aS (.tmp rfl (.nil))) (⟨[],by exact aP,.err (.inr (.inr (.inl ⟨x,ks,hS,Jq,by omega,rfl⟩))) rfl (.inr mV)⟩)
   ·have hcn:(fk.sets ⟨[],[]⟩).length+eM x ks≤20:=by have h1:=zd (F.nd x ks .nil) hS.wf;have h2:gB (F.nd x ks .nil)=eM x ks+gB .nil:=rfl;simp only[List.length_nil];omega
    refine oS (ab (v':=.bool false) (eX rfl rfl) (congrArg Value.bool (decide_eq_false mS))) ?_;refine oA (oZ bZ ?_);refine cF (ax (aq (xZ bJ (cR fun _ ck=>?_))));refine oM ?_;refine oS (bG (cs:=[_,_,_]) (vs:=[_]) rfl rfl (.cons rfl rfl rfl rfl rfl (.nil))) ?_;refine cB rfl rfl rfl fun b37=>?_;refine oA (oZ ck (cR fun _ cQ=>?_));refine oM ?_;refine aX (O7 x ks b37 ra rc re 0 re.length ⟨[],[]⟩ [(b37,.cells [.slice ra re.length rc,.slice none 0 0,.slice none 0 0].toArray 86 (0,0))] ⟨none,0,none,0,[],[],rfl,aG.nil,aG.nil⟩ hS.part mV ey hcn rfl) rfl rfl rfl (bh) (fun w st=>⟨(cq.bj hw.1).out w st,St.di st (by exact yn) hw.1 ew.nil (by decide)⟩) (fun v39 S39 ⟨ZU,ZV⟩=>?_)
    have hAd:=nA hS.wf ⟨[],[]⟩ rfl
    obtain⟨root,uS⟩:∃ r,r=(aZ x ks ⟨[],[]⟩).1:=⟨_,rfl⟩
    obtain⟨X,hX⟩:∃ X,X=(aZ x ks ⟨[],[]⟩).2:=⟨_,rfl⟩
    rw[← uS] at ZU
    rw[← hX] at ZV hAd
    simp only[List.length_nil,Nat.zero_add] at hAd hcn
    subst ZU;refine aB (l:=dm bN) (by rfl) rfl fun b5=>?_;refine bf rfl rfl bY aS aS fE ?_;refine oZ cQ (cR fun _ bw=>?_);refine oA (oZ bw (ah fun _ bF=>?_));refine cR fun _ bD=>?_;refine oM ?_;refine oS sC (oM (oZ bD (ai ?_)));refine lS (fun (k:Nat)(ss:List Kl.Cl)(aa:Option Addr)(ac:Nat)(Sa:Hp)=>k≤re.length∧ss=bB (re.take k)∧aG Ec 4 39 (.slice aa ss.length ac) ss Sa) (fun (k:Nat)(ss:List Kl.Cl)(aa:Option Addr)(ac:Nat)(Sa:Hp)=>[(6,.slice aa ss.length ac),(42,.int .i64 k)]) [(2,_),(3,_),(4,_),(5,_),(40,_),(41,_)] (fun (k:Nat)(ss:List Kl.Cl)(aa:Option Addr)(ac:Nat)(Sa:Hp)=>(b2,.cells [.slice none 0 0,.slice none 0 0,.slice none 0 0].toArray 30 (0,0))::(b5,.cells (dm root).toArray 93 (0,0))::(S39++Sa)) (fun (k:Nat)(ss:List Kl.Cl)(aa:Option Addr)(ac:Nat)(Sa:Hp)=>re.length-k) 0 [] none 0 [] ⟨Nat.zero_le _,rfl,aG.nil⟩ aH aH aP ?_
    rintro k ss aa ac Sa ⟨hk,B7,hA⟩
    refine cR fun _ cb=>?_;refine oS (aF rfl rfl) ?_;refine oZ cb (ah fun _ bL=>?_);refine cx rfl (fun Cg=>?_) (fun Cg=>?_)
    ·obtain⟨n,hnk⟩:∃ n,re[k]?=some n:=gE
     have zo:=uz re k
     rw[← B7] at zo
     refine ax (xZ bL (ah fun _ bQ=>?_));refine ai (cR fun _ cO=>?_);refine oS (au rfl rfl dr (by omega)) ?_;refine oS (aD rfl ((cq.bj hw.1).gx k hnk (by simp only[Int.toNat_natCast])) aS) ?_;refine aB (l:=En zN) (by rw[gI];rfl) rfl fun b8=>?_;refine bf rfl rfl bY aS aS fE ?_;refine oZ cO (cR fun _ df=>?_);refine oS sF ?_;refine oS sL ?_
     by_cases h1:n.op=1
     ·refine oS (ab (v':=.bool true) (bO rfl rfl) (congrArg Value.bool (decide_eq_true h1))) ?_;refine oZ df ?_;refine cT (ae (oM ?_));refine oS sF ?_;refine oS (aD rfl (aI.aO (aI.l3 aV Qc)) aS) ?_;refine ct (E:=Ec) (xs:=[n.set]) (vs:=[_]) rfl rfl rfl rfl rfl (by decide) (by decide) fun b52 GH yQ=>?_;refine bX hA (yQ.aU aM) rfl rfl rfl rfl (by simp only[List.length_append,List.length_singleton];omega) (by simp only[List.length_append,List.length_singleton];omega) rfl bh fun a53 c53 XU G1=>?_;refine oA (ak (aq (xZ bQ (ae ?_))));refine oS sD (oM (ak ?_));exact xI (k+1,ss++[n.set],a53,c53,XU) ⟨by omega,by rw[B7,uB hnk h1],G1⟩
     ·refine oS (ab (v':=.bool false) (bO rfl rfl) (congrArg Value.bool (decide_eq_false h1))) ?_;refine oZ df ?_;refine cF (ax (aq (xZ bQ (ae ?_))));refine oS sD (oM (ak ?_));exact xI (k+1,ss,aa,ac,Sa) ⟨by omega,by rw[B7,xp hnk h1],hA⟩
    ·obtain rfl:k=re.length:=by omega
     rw[List.take_length] at B7
     refine ay ?_;refine ad (ad (ag (xZ bF (cR fun _ cZ=>?_))));refine oM ?_;refine aX (LL aa ac ss) rfl rfl rfl (by exact .nil) (fun w st=>⟨(hA.aU aM).out w st,dI hw.2 st HSub.nil⟩) (fun v56 QV ⟨ZW,ZX,Cs,zO⟩=>?_)
     have wo:=ig ss
     rw[B7] at wo Cs zO
     obtain⟨at_,B6⟩:∃ l,l=atoms (bB re):=⟨_,rfl⟩
     rw[← B6] at wo Cs zO
     subst Cs;refine oS (bG (cs:=[_,_,_]) (vs:=[_]) rfl rfl (.cons rfl rfl rfl rfl rfl (.nil))) ?_;refine aB rfl rfl fun b9=>?_;refine bf rfl rfl bY aS aS fE ?_;refine oZ cZ (cR fun _ dq=>?_);refine oM ?_;refine oS (aD rfl (aI.aO (.own aV)) aS) ?_;refine oS sF ?_;refine oS sL ?_;refine aX (Oo b37 ra rc re.length X S39 ZV root ZW ZX at_ hAd.2 (by omega) wo.2) rfl rfl rfl (bh) (fun w st=>⟨(zO.aU aM).out w st,St.apart st bh zO aM⟩) (fun v62 S62 ⟨na,nc,my,ea,ec,Sn,Se,Sq,ZY,R8,hn,he,hq,we,yg,wY,kH⟩=>?_)
     have hWB:=xh X root at_
     obtain⟨W,ZZ⟩:∃ W,W=dJ X root at_:=⟨_,rfl⟩
     rw[← ZZ] at ZY he hq we yg wY kH hWB
     obtain⟨K,hKd⟩:∃ K,K=at_.length:=⟨_,rfl⟩
     rw[← hKd] at hWB
     have aj0:=kO yg
     have TL:my.length=W.next.length:=by rw[we,List.length_map]
     have hwK:∀ s∈my,s.xs.length=K:=fun s hs=>hWB.len s.xs (by rw[we];exact List.mem_map.2 ⟨s,hs,rfl⟩)
     have hwB:∀ s∈my,∀ v∈s.xs,v<my.length:=fun s hs v hv=>by have:=hWB.yI s.xs (by rw[we];exact List.mem_map.2 ⟨s,hs,rfl⟩) v hv;omega
     subst ZY;subst R8
     refine aB rfl rfl fun gT=>?_;refine bf rfl rfl bY aS aS fE ?_;refine oZ dq (ah fun _ dG=>?_);refine aK ((gT,.cells [.slice na my.length nc,.slice ea W.ends.length ec].toArray 96 (0,0))::(Sn++(Se++(Sq++QV)))) (fun i=>false) ?_;refine eK 0 rfl (aD rfl (aI.aO (.own aV)) aS) ?_;refine eK 2 rfl (aD rfl (aI.aO (.own aV)) aS) ?_;refine eO 1 rfl ?_;refine aX (IA na nc my ea ec W.ends K (by omega) (by omega) (by omega) (by omega) (by omega) hwK hwB) rfl rfl rfl (by exact .nil) (fun w st=>⟨(hn.aU aM).out w st,(he.aU aM).out w st,fun s hs=>(jA hq we aM hs).out w st⟩) (fun v64 Spm ⟨a64,c64,Uy,HE⟩=>?_);subst Uy
     have qH:=DS (next:=W.next) (ends:=W.ends) (K:=K) (by omega)
     rw[← we] at HE
     obtain⟨pm,Z0⟩:∃ p,p=gZ W.next W.ends K:=⟨_,rfl⟩
     rw[← Z0] at HE qH
     have O8:=HE.sl
     rw[show pm.length=W.ends.length by omega] at O8
     refine oX (eO 3 rfl ?_);refine aX (O9 na nc my ea ec W.ends K (by omega) (by omega) (by omega) (by omega) (by omega) hwK hwB) rfl rfl rfl (by exact .nil) (fun w st=>⟨(hn.aU aM).out w st,(he.aU aM).out w st,fun s hs=>(jA hq we aM hs).out w st⟩) (fun v66 Slv ⟨a66,c66,lv,Uh,LM,NT⟩=>?_);subst Uh
     rw[← we] at NT
     have o9:=NT.1
     have UR:=LM.sl
     rw[show lv.length=W.ends.length by omega] at UR
     refine oX (eO 4 rfl (oA (oX (eO 5 rfl (oA (oX (eZ dG (cR fun _ eb=>?_))))))));refine sZ (Ek:=QW) rfl fun b67=>?_;refine oM ?_;refine oS (au rfl rfl O8 (by omega)) ?_;refine oS (az rfl ((HE.aU aM).ld 0 0 (iq (by omega)) rfl (by decide) (by omega))) ?_;refine I1 (Ek:=QW) (k:=((pt pm 0:Nat):Int)) rfl rfl rfl bh fun es0 c0 I2 adb=>?_;refine oM (oA (oZ eb (cR fun _ dL=>?_)));refine ct (E:=jo) (xs:=[0]) (vs:=[_]) rfl rfl rfl rfl rfl (by decide) (by decide) fun b72 S72 af1=>?_;refine oA (oZ dL (ah fun _ dR=>?_));refine cR fun _ dk=>?_;refine oA (oZ dk (ai ?_))
     refine LN (fun (i:Nat)(m:Lm)(rows:List (Sl Int))(iJ:Option Addr)(iK:Nat)(fi:Option Addr)(fj:Nat)(ma:Option Addr)(mc:Nat)(es:List (Mx Int))(c:Nat)(Sm:Hp)(Sr:Hp)(tn:Hp)(ny:Hp)=>gJ W pm lv (258-i) i m=VW W pm lv∧i≤m.met.length∧i≤256∧m.met.length≤512∧(∀ x∈m.met,x<W.next.length)∧(∀ j:Nat,getM es (j:Int)=si (m.met.map (pt pm)) j)∧aG jo 1 3 (.slice ma m.met.length mc) m.met Sm∧aG cX 1 36 (.slice iJ rows.length iK) rows Sr∧cG Ei 1 3 rows m.next tn∧m.next=rows.map Sl.xs∧aG fR 1 4 (.slice fi m.ends.length fj) m.ends ny∧m.next.length=i∧m.ends.length=i) (fun (i:Nat)(m:Lm)(rows:List (Sl Int))(iJ:Option Addr)(iK:Nat)(fi:Option Addr)(fj:Nat)(ma:Option Addr)(mc:Nat)(es:List (Mx Int))(c:Nat)(Sm:Hp)(Sr:Hp)(tn:Hp)(ny:Hp)=>[(14,.slice ma m.met.length mc),(15,.int .i64 i)]) [(2,_),(9,_),(10,_),(11,_),(12,_),(13,_)] (fun (i:Nat)(m:Lm)(rows:List (Sl Int))(iJ:Option Addr)(iK:Nat)(fi:Option Addr)(fj:Nat)(ma:Option Addr)(mc:Nat)(es:List (Mx Int))(c:Nat)(Sm:Hp)(Sr:Hp)(tn:Hp)(ny:Hp)=>(b9,.cells [.slice ZW at_.length ZX,.slice iJ rows.length iK,.slice fi m.ends.length fj].toArray 30 (0,0))::(b67,jd QW es c)::(gT,.cells [.slice na my.length nc,.slice ea W.ends.length ec].toArray 96 (0,0))::(b2,.cells [.slice none 0 0,.slice none 0 0,.slice none 0 0].toArray 30 (0,0))::(Sm++(Sr++(tn++(ny++(Slv++(Spm++(Sn++(Se++(Sq++QV)))))))))) (fun (i:Nat)(m:Lm)(rows:List (Sl Int))(iJ:Option Addr)(iK:Nat)(fi:Option Addr)(fj:Nat)(ma:Option Addr)(mc:Nat)(es:List (Mx Int))(c:Nat)(Sm:Hp)(Sr:Hp)(tn:Hp)(ny:Hp)=>257-i) 0 ⟨[0],[],[]⟩ [] none 0 none 0 (some ⟨b72,0,none⟩) 1 es0 c0 S72 [] [] [] ⟨rfl,by simp,by omega,by simp,by intro x hx;rw[List.mem_singleton.1 hx];omega,fun j=>by rw[I2];exact LO j,af1,aG.nil,.nil,rfl,aG.nil,rfl,rfl⟩ aH aH (by simp only[List.nil_append];exact aP) ?_
     rintro i m rows iJ iK fi fj ma mc es c Sm Sr tn ny ⟨ic,EM,hi6,hm5,ot,hN,LP,hR,hRq,hRx,hEn,Z1,af3⟩
     have jr:=LP.sl
     have apv:rows.length=i:=by rw[← Z1,hRx,List.length_map]
     refine ah fun _ dE=>?_;refine cR fun _ dS=>?_;refine oM (oM ?_);refine oS sC ?_
     by_cases cH:i<m.met.length
     ·obtain⟨q,ET⟩:∃ q,m.met[i]?=some q:=gE
      have Ha:=ot q (List.mem_of_getElem? ET)
      obtain⟨wr,hwr⟩:∃ r,my[q]?=some r:=gE
      have hwm:=List.mem_of_getElem? hwr
      have hwk:=hwK wr hwm
      have af5:=EN hq we hwm
      have kR:W.next[q]?=some wr.xs:=by rw[we,List.getElem?_map,hwr];rfl
      obtain⟨e,hqe⟩:∃ e,W.ends[q]?=some e:=gE
      refine oS (ab (v':=.bool true) (aF rfl rfl) (congrArg Value.bool (decide_eq_true (by omega)))) ?_;refine oZ dS ?_;refine gp dE (ah fun _ dW=>?_);refine ai (ah fun _ ee=>?_);refine cR fun _ eh=>?_;refine oM ?_;refine oS sC ?_
      by_cases uD:256<m.met.length
      ·refine oS (ab (v':=.bool true) (eX rfl rfl) (congrArg Value.bool (decide_eq_true (by omega)))) ?_;refine oZ eh ?_;refine cT (cR fun _ eD=>?_);refine oS (bG (cs:=[_,_,_]) (vs:=[]) rfl rfl (.nil)) ?_;refine bf rfl rfl bY aS aS fE ?_;refine oA (oZ eD (aA ?_));refine aj (aw (aj (aj (aw (aj (?_))))))
       exact cr rfl (.agg inferInstance inferInstance rfl (aI.aO (.own aV)) aS (.tmp rfl (.nil))) (⟨[],by exact aP,.err (.inr (.inr (.inr ⟨x,ks,lv,hS,Jq,by omega,by rw[jx,← B6,← hX,← uS,← ZZ];exact NT,by rw[zL,jx,← B6,← hX,← uS,← ZZ,← hKd,← Z0,← ic];exact DT (by omega) cH uD,rfl⟩))) rfl (.inr mV)⟩)
      ·refine oS (ab (v':=.bool false) (eX rfl rfl) (congrArg Value.bool (decide_eq_false (by omega)))) ?_;refine oZ eh ?_;refine eL ee (cR fun _ dN=>?_);refine oS sF ?_;refine oS sL ?_;refine oS (ab (v':=.int .i64 (K:Nat)) (Qx rfl) (by rw[hKd])) ?_;refine lD (E:=Ei) (zx:=0) (n:=K) rfl rfl rfl (by omega) (by omega) rfl fun SM S86 JA=>?_
       rw[← pe] at JA
       have af6:=JA.sl
       rw[eQ (Nat.zero_le _)] at af6
       refine oA (oZ dN (ah fun _ e6=>?_));refine ah fun _ du=>?_;refine aK ((gT,.cells [.slice na my.length nc,.slice ea W.ends.length ec].toArray 96 (0,0))::(Sm++Sn)) (fun i=>false) ?_;refine eP 0 rfl sF ?_;refine eK 1 rfl sL ?_;refine eP 2 rfl sM ?_;refine eP 3 rfl sM ?_;refine eP 4 rfl (au rfl rfl jr (by omega)) ?_;refine eK 5 rfl (az rfl ((LP.aU aM).ld i 0 ET rfl (by decide) (by omega))) ?_;refine eP 6 rfl (au rfl rfl hn.sl (by omega)) ?_;refine eK 7 rfl (az rfl ((hn.aU aM).ld q 0 hwr rfl (by decide) (by omega))) ?_;refine eP 8 rfl sC ?_;refine eP 9 rfl sM (eZ du (ai ?_));refine lV (fun (k:Nat)(met:List Nat)(es:List (Mx Int))(c:Nat)(jP:Hp)(ma:Option Addr)(mc:Nat)(Sm:Hp)=>k≤K∧aG Ei 1 3 (.slice (some ⟨SM,0,none⟩) K K) (jR 0 (cz pm lv (wr.xs.take k) m.met).1 K) jP∧met=(cz pm lv (wr.xs.take k) m.met).2∧(∀ x∈met,x<W.next.length)∧(∀ j:Nat,getM es (j:Int)=si (met.map (pt pm)) j)∧aG jo 1 3 (.slice ma met.length mc) met Sm) (fun (k:Nat)(met:List Nat)(es:List (Mx Int))(c:Nat)(jP:Hp)(ma:Option Addr)(mc:Nat)(Sm:Hp)=>[(14,.slice ma met.length mc),(96,.int .i64 k)]) [(2,_),(9,_),(10,_),(11,_),(12,_),(13,_),(15,_),(16,_),(73,_),(74,_),(75,_),(76,_),(79,_),(80,_),(81,_),(83,_),(84,_),(85,_),(86,_),(87,_),(88,_),(89,_),(90,_),(91,_),(92,_),(93,_),(94,_),(95,_)] (fun (k:Nat)(met:List Nat)(es:List (Mx Int))(c:Nat)(jP:Hp)(ma:Option Addr)(mc:Nat)(Sm:Hp)=>(b9,.cells [.slice ZW at_.length ZX,.slice iJ rows.length iK,.slice fi m.ends.length fj].toArray 30 (0,0))::(b67,jd QW es c)::(gT,.cells [.slice na my.length nc,.slice ea W.ends.length ec].toArray 96 (0,0))::(b2,.cells [.slice none 0 0,.slice none 0 0,.slice none 0 0].toArray 30 (0,0))::(jP++(Sm++(Sr++(tn++(ny++(Slv++(Spm++(Sn++(Se++(Sq++QV))))))))))) (fun (k:Nat)(met:List Nat)(es:List (Mx Int))(c:Nat)(jP:Hp)(ma:Option Addr)(mc:Nat)(Sm:Hp)=>K-k) 0 m.met es c S86 ma mc Sm ⟨Nat.zero_le _,JA,rfl,ot,hN,LP⟩ aH aH aP ?_
       rintro k met es c jP ma mc Sm ⟨hk,hL,vM,ot,hN,LP⟩
       have vN:=hL.sl
       have Pa:=nq (part:=pm) (lv:=lv) (r:=wr.xs) (met:=m.met) (k:=k) (by omega)
       rw[eQ (by omega)] at vN
       have Wm:=l5 pm lv (wr.xs.take k) m.met
       rw[← vM,qd (by omega)] at Wm
       refine cR fun _ fF=>?_;refine oS (aF rfl rfl) ?_;refine oZ fF (ah fun _ fx=>?_);refine cx rfl (fun Pb=>?_) (fun Pb=>?_)
       ·obtain⟨to,kE⟩:∃ t,wr.xs[k]?=some t:=gE
        have Ac:=hwB wr hwm to (List.mem_of_getElem? kE)
        have Z2:=iq (pm:=pm) (m:=to) (by omega)
        refine ax (xZ fx (ah fun _ fN=>?_));refine ai (cR fun _ gh=>?_);refine oM ?_;refine oS (au rfl rfl af5 (by omega)) ?_;refine oS (az rfl ((jA hq we aM hwm).ld k 0 kE rfl (by decide) (by simp only[Sl.v];omega))) ?_;refine oA (oA (oZ gh (cR fun _ fZ=>?_)));refine oM (oM (oM ?_));refine oS (au rfl rfl O8 (by omega)) ?_;refine oS (az rfl ((HE.aU aM).ld to 0 Z2 rfl (by decide) (by omega))) ?_
        by_cases hm:pt pm to∈met.map (pt pm)
        ·refine oS (ab (v':=.tuple #[.int .i64 ((idx (met.map (pt pm)) (pt pm to):Nat):Int),.bool true]) (kI (Ek:=QW) (k:=((pt pm to:Nat):Int)) rfl rfl aV) (by rw[hN,ni hm];rfl)) ?_;refine oM ?_;refine oS sE ?_;refine oS sE (oA (oA (oZ fZ (ah fun _ iW=>?_))));refine ai (cR fun _ gA=>?_);refine oM (oM ?_);refine oS (au rfl rfl UR (by omega)) ?_
         by_cases hb:lv[to]?=some true
         ·refine oS (ab (v':=.bool true) (az rfl ((LM.aU aM).ld to 0 hb rfl (by decide) (by omega))) rfl) ?_;refine oS (aT rfl) ?_;refine oA (oZ gA ?_);refine cF (cR fun _ iX=>?_);refine oM ?_;refine oS (aT rfl) ?_;refine oA (oZ iX ?_);refine cF (ax (aq (xZ iW (ae (oM (oM (oM ?_)))))));refine oS (au rfl rfl vN (by omega)) ?_;refine dp k _ hL bh rfl rfl rfl (by rw[eQ (by omega)];omega) (by first|rfl|omega|(rw[Int.toNat_natCast,Nat.mul_one])) fun DU nb=>?_
          rw[iE Pa (by omega)] at nb
          refine ak (aq (xZ fN (ae ?_)));refine oS sD (oM (ak ?_));exact xI (k+1,met,es,c,DU,ma,mc,Sm) ⟨by omega,by rw[dh kE,← vM,jK hb];exact nb,by rw[dh kE,← vM,jK hb,if_pos hm],ot,hN,LP⟩
         ·refine oS (ab (v':=.bool false) (az rfl ((LM.aU aM).ld to 0 (sd (by omega) hb) rfl (by decide) (by omega))) rfl) ?_;refine oS (aT rfl) ?_;refine oA (oZ gA ?_);refine cT (ae (oA (ak (aq (xZ iW (ae (oM (oM (oM ?_)))))))));refine oS (au rfl rfl vN (by omega)) ?_;refine dp k _ hL bh rfl rfl rfl (by rw[eQ (by omega)];omega) (by first|rfl|omega|(rw[Int.toNat_natCast,Nat.mul_one])) fun DU nb=>?_
          rw[iE Pa (by omega)] at nb
          refine ak (aq (xZ fN (ae ?_)));refine oS sD (oM (ak ?_));exact xI (k+1,met,es,c,DU,ma,mc,Sm) ⟨by omega,by rw[dh kE,← vM,kS (sd (by omega) hb)];exact nb,by rw[dh kE,← vM,kS (sd (by omega) hb)],ot,hN,LP⟩
        ·refine oS (ab (v':=.tuple #[.int .i64 0,.bool false]) (kI (Ek:=QW) (k:=((pt pm to:Nat):Int)) rfl rfl aV) (by rw[hN,kJ hm];rfl)) ?_;refine oM ?_;refine oS sE ?_;refine oS sE (oA (oA (oZ fZ (ah fun _ jW=>?_))));refine ai (cR fun _ kT=>?_);refine oM (oM ?_);refine oS (au rfl rfl UR (by omega)) ?_
         by_cases hb:lv[to]?=some true
         ·refine oS (ab (v':=.bool true) (az rfl ((LM.aU aM).ld to 0 hb rfl (by decide) (by omega))) rfl) ?_;refine oS (aT rfl) ?_;refine oA (oZ kT ?_);refine cF (cR fun _ nL=>?_);refine oM ?_;refine oS (aT rfl) ?_;refine oA (oZ nL ?_);refine cT (cR fun _ kU=>?_);refine oM ?_;refine oS sC (oA (oZ kU (cR fun _ kV=>?_)));refine oM (oM (oM ?_));refine oS (au rfl rfl O8 (by omega)) ?_;refine oS (az rfl ((HE.aU aM).ld to 0 Z2 rfl (by decide) (by omega))) ?_;refine oM ?_;refine sY (Ek:=QW) (k:=((pt pm to:Nat):Int)) rfl rfl rfl bh fun ob c' tQ Rc=>?_;refine oZ kV (ae (oM (oM ?_)));refine ct (E:=jo) (xs:=[to]) (vs:=[_]) rfl rfl rfl rfl rfl (by decide) (by decide) fun adO apw Z3=>?_;refine bX LP (Z3.aU aM) rfl rfl rfl rfl (by simp only[List.length_append,List.length_singleton];omega) (by simp only[List.length_append,List.length_singleton];omega) rfl bh fun af7 af8 YA KV=>?_;refine oA (ak (aq (xZ jW (ae (oM (oM ?_))))))
          refine oM ?_;refine oS (au rfl rfl vN (by omega)) ?_;refine dp k _ hL bh rfl rfl rfl (by rw[eQ (by omega)];omega) (by first|rfl|omega|(rw[Int.toNat_natCast,Nat.mul_one])) fun DU nb=>?_
          rw[iE Pa (by omega)] at nb
          refine ak (aq (xZ fN (ae ?_)));refine oS sD (oM (ak ?_));exact xI (k+1,met++[to],ob,c',DU,af7,af8,YA) ⟨by omega,by rw[dh kE,← vM,jK hb,nj hm,List.length_map];exact nb,by rw[dh kE,← vM,jK hb,if_neg hm],fun y hy=>by rcases List.mem_append.1 hy with hy|hy;(· exact ot y hy);(· rw[List.mem_singleton.1 hy];omega),by rw[List.map_append];exact LQ hm hN (fun j=>by rw[tQ j,List.length_map]),KV⟩
         ·refine oS (ab (v':=.bool false) (az rfl ((LM.aU aM).ld to 0 (sd (by omega) hb) rfl (by decide) (by omega))) rfl) ?_;refine oS (aT rfl) ?_;refine oA (oZ kT ?_);refine cT (ae (oA (ak (aq (xZ jW (ae (oM (oM (oM ?_)))))))));refine oS (au rfl rfl vN (by omega)) ?_;refine dp k _ hL bh rfl rfl rfl (by rw[eQ (by omega)];omega) (by first|rfl|omega|(rw[Int.toNat_natCast,Nat.mul_one])) fun DU nb=>?_
          rw[iE Pa (by omega)] at nb
          refine ak (aq (xZ fN (ae ?_)));refine oS sD (oM (ak ?_));exact xI (k+1,met,es,c,DU,ma,mc,Sm) ⟨by omega,by rw[dh kE,← vM,kS (sd (by omega) hb)];exact nb,by rw[dh kE,← vM,kS (sd (by omega) hb)],ot,hN,LP⟩
       ·obtain rfl:K=k:=by omega
        have NY:=LP.sl
        have af9:met[i]?=some q:=by obtain⟨t,ht⟩:=x3 pm lv (wr.xs.take K) m.met;rw[vM,ht,List.getElem?_append_left (by omega)];exact ET
        rw[nk (by omega)] at hL
        have aga:cz pm lv wr.xs m.met=((cz pm lv (wr.xs.take K) m.met).1,(cz pm lv (wr.xs.take K) m.met).2):=by rw[List.take_of_length_le (by omega)]
        refine ay ?_;refine ad (ad (ag (xZ e6 (cR fun _ ou=>?_))));refine oS sF ?_;refine oS sL ?_;refine oS (ab (v':=.slice (some ⟨SM,0,none⟩) (cz pm lv (wr.xs.take K) m.met).1.length K) (ba rfl) (by rw[nq (by omega)])) ?_;refine ct (E:=cX) (xs:=[(⟨some ⟨SM,0,none⟩,K,(cz pm lv (wr.xs.take K) m.met).1⟩:Sl Int)]) (vs:=[_]) rfl rfl rfl rfl rfl (by decide) (by decide) fun apx apy Z4=>?_;refine bX hR (Z4.aU aM) rfl rfl rfl rfl (by simp only[List.length_append,List.length_singleton];omega) (by simp only[List.length_append,List.length_singleton];omega) rfl bh fun Z5 Z6 agb Z7=>?_;refine oS sF ?_;refine bg rfl rfl rfl bY kD rfl ?_;refine oZ ou ?_;refine aK ((b9,.cells [.slice ZW at_.length ZX,.slice Z5 (rows++[(⟨some ⟨SM,0,none⟩,K,(cz pm lv (wr.xs.take K) m.met).1⟩:Sl Int)]).length Z6,.slice fi m.ends.length fj].toArray 30 (0,0))::(gT,.cells [.slice na my.length nc,.slice ea W.ends.length ec].toArray 96 (0,0))::(Sm++Se)) (fun i=>Nat.beq i 13) ?_;refine eP 0 rfl sF ?_;refine eK 1 rfl sL ?_;refine eP 2 rfl sF ?_;refine eK 3 rfl sL ?_;refine eP 4 rfl sM ?_;refine eP 5 rfl sM ?_;refine eP 6 rfl (au rfl rfl NY (by omega)) ?_;refine eK 7 rfl (az rfl ((LP.aU aM).ld i 0 af9 rfl (by decide) (by omega))) ?_;refine eP 8 rfl (au rfl rfl he.sl (by omega)) ?_;refine eK 9 rfl (az rfl ((he.aU aM).ld q 0 hqe rfl (by decide) (by omega))) ?_
        refine eO 10 rfl ?_;refine ct (E:=fR) (xs:=[e]) (vs:=[_]) rfl rfl rfl rfl rfl (by decide) (by decide) fun apz apA Z8=>?_;refine oX (eO 11 rfl ?_);refine bX hEn (Z8.aU aM) rfl rfl rfl rfl (by simp only[List.length_append,List.length_singleton];omega) (by simp only[List.length_append,List.length_singleton];omega) rfl bh fun agc agd UO LH=>?_;refine oX ?_;refine eP 12 rfl sF (eO 13 rfl ?_);refine bg rfl rfl rfl bY kD rfl ?_;refine ak ?_;refine cE rfl ?_;refine cw (by kernel_rfl) ?_;refine aq (xZ dW (ae (oM ?_)));refine oS sD (oA (ak ?_));exact xI (i+1,⟨met,m.next++[(cz pm lv (wr.xs.take K) m.met).1],m.ends++[e]⟩,rows++[(⟨some ⟨SM,0,none⟩,K,(cz pm lv (wr.xs.take K) m.met).1⟩:Sl Int)],Z5,Z6,agc,agd,ma,mc,es,c,Sm,agb,tn++jP,UO) ⟨by rw[← ic,DV (by omega) cH (by omega),ns ET kR hqe,aga,← vM,Nat.sub_sub],by dsimp only;omega,by omega,by dsimp only;omega,ot,hN,LP,Z7,HC hRq (by rw[nq (by omega)]) hL,by dsimp only;rw[List.map_append,← hRx];rfl,LH,by simp[Z1],by simp[af3]⟩
     ·refine oS (ab (v':=.bool false) (aF rfl rfl) (congrArg Value.bool (decide_eq_false (by omega)))) ?_;refine oZ dS ?_;refine cF ?_;refine ay ?_;refine ad (ad (ag (xZ dR (cR fun _ rh=>?_))));refine oS (aD rfl (aI.aO (.own aV)) aS) ?_;refine bf rfl rfl bY aS aS fE ?_;refine oA (oZ rh (aA ?_));refine ?_;exact cr rfl (.agg inferInstance inferInstance rfl (aI.aO (.own aV)) aS (.tmp rfl (.nil))) (⟨Sr++(tn++(ny++QV)),by exact aP,.ok (d:=⟨m.next,m.ends,at_⟩) ⟨mV,x,ks,lv,m,hS,Jq,by omega,by rw[jx,← B6,← hX,← uS,← ZZ];exact NT,by rw[zL,jx,← B6,← hX,← uS,← ZZ,← hKd,← Z0,← ic];exact HF (by omega) cH,rfl,rfl,B6⟩ rfl ⟨iJ,iK,rows,fi,fj,ZW,ZX,Sr,tn,ny,QV,rfl,rfl,hR,hRq,hRx,hEn,zO⟩⟩)
  ·refine oA (oZ bT ?_);refine cT (cR fun _ uK=>?_);refine oS (bG (cs:=[_,_,_]) (vs:=[]) rfl rfl (.nil)) ?_;refine bf rfl rfl bY aS aS fE ?_;refine oA (oZ uK (aA ?_));refine aw (aj (?_))
   exact cr rfl (.agg inferInstance inferInstance rfl (aI.aO (.own aV)) aS (.tmp rfl (.nil))) (⟨[],by exact aP,.err (.inr (.inl ⟨mV,Jq,rfl⟩)) rfl (.inr mV)⟩)
set_option maxHeartbeats 4000000 in
theorem zI (ra:Option Addr)(rc:Nat)(re:List Nd)(ey:∀ x∈re,-128≤x.op∧x.op<128):HL.Fn Tryz.prog 9 [.slice ra re.length rc] (fun W=>Rd En W (.slice ra re.length rc) re∧Tb [] W) [] (xo re):=
 HL.Fn.sub (LK ra rc re ey) fun v S' ⟨S2,h1,h2⟩=>⟨S2,h1,h2⟩
end Go.Proofs.YtmompllplidphaaGreatDoor
namespace Go.HL.cm
open Go Go.HL Go.HL.Kl Go.HL.Kl.Mc
def dg (f:Nat→Int):List Value:=(List.range 256).map fun i=>.int .i64 (f i)
theorem eE (f:Nat→Int):(dg f).length=256:=by simp[dg]
theorem mQ {f:Nat→Int}{i:Nat}(h:i<256):(dg f)[i]?=some (.int .i64 (f i)):=by simp[dg,List.getElem?_range h]
theorem pH (f:Nat→Int):∀ v∈dg f,v.oneCell'=true:=by
 intro v hv
 obtain⟨i,_,rfl⟩:=List.mem_map.1 hv
 rfl
theorem vu {f g:Nat→Int}(h:∀ i,i<256→f i=g i):dg f=dg g:=List.map_congr_left fun i hi=>by rw[h i (by simpa using hi)]
theorem Ku {f:Nat→Int}{x:Nat}{v:Int}(_h:x<256):(dg f).set x (.int .i64 v)=dg (fun i=>if i=x then v else f i):=by
 apply List.ext_getElem?
 intro i
 rw[List.getElem?_set]
 rcases Nat.lt_or_ge i 256 with hi|hi
 · rw[mQ hi,mQ hi]
   by_cases e:x=i
   · subst e;rw[if_pos rfl,if_pos (by rw[eE];exact hi),if_pos rfl]
   · rw[if_neg e,if_neg (fun h=>e h.symm)]
 · have h1:(dg f)[i]?=none:=List.getElem?_eq_none (by rw[eE];exact hi)
   have h2:(dg fun i=>if i=x then v else f i)[i]?=none:=List.getElem?_eq_none (by rw[eE];exact hi)
   rw[h1,h2,if_neg (by omega)]
theorem cJ:dg (fun _=>0)=List.replicate 256 (.int .i64 0):=by
 simp[dg,List.map_const']
def kB (l:List Kl.Cl)(k:Nat):Kl.Cl:=qn (l.take k) 0
theorem xN {l:List Kl.Cl}{k:Nat}{a:Kl.Cl}(h:l[k]?=some a):kB l (k+1)=kB l k ||| a:=by
 unfold kB
 rw[aY h];simp[qn]
def jH (l:List Kl.Cl):Nat→Int
 | 0=>-1
 | k+1=>fz (l[k]?.getD 0)
theorem Hv (a:Kl.Cl):-1≤fz a:=by unfold fz;split <;> omega
theorem Ld (l:List Kl.Cl)(k:Nat):-1≤jH l k:=by
 cases k with
 | zero=>exact Int.le_refl _
 | succ k=>exact Hv _
theorem DA {a:Kl.Cl}(h:fV a = []):fz a = -1:=by simp[fz,h]
theorem Bd {a:Kl.Cl}{x:Nat}(h:[x] <+: fV a):fz a=x:=by
 have h1:=vv h
 unfold fz
 rw[if_neg (by obtain⟨t,ht⟩:=h;rw[← ht];simp)]
 omega
theorem DB {l:List Kl.Cl}{k:Nat}{a:Kl.Cl}(h:l[k]?=some a)(hb:fz a≤jH l k∨kB l k &&& a≠0):A7 (l.drop k) (kB l k) (jH l k)=false:=by
 have hk:=(List.getElem?_eq_some_iff.1 h).1
 rw[List.drop_eq_getElem_cons hk,(List.getElem?_eq_some_iff.1 h).2]
 unfold A7
 rw[if_pos hb]
theorem OO {l:List Kl.Cl}{k:Nat}{a:Kl.Cl}(h:l[k]?=some a)(h1:¬ fz a≤jH l k)(h2:¬ kB l k &&& a≠0):A7 (l.drop k) (kB l k) (jH l k)=A7 (l.drop (k+1)) (kB l (k+1)) (jH l (k+1)):=by
 have hk:=(List.getElem?_eq_some_iff.1 h).1
 have e:jH l (k+1)=fz a:=by simp[jH,h]
 rw[List.drop_eq_getElem_cons hk,(List.getElem?_eq_some_iff.1 h).2,xN h,e]
 conv=>lhs;unfold A7
 rw[if_neg (fun h=>h.elim h1 h2)]
theorem Uc (l:List Kl.Cl):A7 (l.drop l.length) (kB l l.length) (jH l l.length)=decide (kB l l.length=r8):=by simp[A7]
theorem m8 {d:Df}(h:¬ m7 d):wb d=false:=by unfold wb;rw[decide_eq_false h];rfl
theorem nB {d:Df}(h:A7 d.atoms 0 (-1)=false):wb d=false:=by unfold wb;rw[h];simp
theorem zA {d:Df}{r:List Int}(h:r∈d.next)(hr:¬ qm d.ends.length d.atoms.length r):wb d=false:=by
 have h2:¬ ∀ r∈d.next,qm d.ends.length d.atoms.length r:=fun hh=>hr (hh r h)
 unfold wb
 rw[decide_eq_false h2];simp
theorem Le {d:Df}(h:m7 d)(h1:A7 d.atoms 0 (-1)=true)(h2:∀ r∈d.next,qm d.ends.length d.atoms.length r):wb d=true:=by
 unfold wb
 rw[decide_eq_true h,h1,decide_eq_true h2];rfl
theorem OA {l:List Kl.Cl}{k:Nat}{a:Kl.Cl}(h:l[k]?=some a):dg (fun i=>if i∈fV a then (k:Int) else (lC l i k:Nat))=dg (fun i=>(lC l i (k+1):Nat)):=by
 refine vu fun i _=>?_
 simp only[lC,h,Option.getD_some,lk]
 by_cases e:a.getLsbD i=true
 · rw[if_pos e,if_pos e]
 · rw[if_neg e,if_neg e]
theorem Kv (l:List Kl.Cl)(k x:Nat)(p:List Nat):dg (fun i=>if i=x then (k:Int) else if i∈p then (k:Int) else (lC l i k:Nat))=dg (fun i=>if i∈p++[x] then (k:Int) else (lC l i k:Nat)):=by
 refine vu fun i _=>?_
 by_cases e:i=x
 · subst e;simp
 · simp[e]
theorem Fp {d:Df}{q k:Nat}{row:List Int}{v:Int}(h:d.next[q]?=some row)(hv:row[k]?=some v):CY d (q:Int) k=v:=by simp[CY,h,hv]
theorem Kw {d : Df} {w : List UInt8} {k q : Nat} {u : UInt8} {v : Int} (hu : w[k]? = some u) (hv : CY d (q : Int) (lC d.atoms u.toNat d.atoms.length) = v) (h : v < 0) : Im d (w.drop k) (q : Int) = false := by
 have hk:=(List.getElem?_eq_some_iff.1 hu).1
 rw[List.drop_eq_getElem_cons hk,(List.getElem?_eq_some_iff.1 hu).2]
 simp only[Im]
 rw[hv,if_pos h]
theorem Kx {d : Df} {w : List UInt8} {k q : Nat} {u : UInt8} {v : Int} (hu : w[k]? = some u) (hv : CY d (q : Int) (lC d.atoms u.toNat d.atoms.length) = v) (h : ¬ v < 0) : Im d (w.drop k) (q : Int) = Im d (w.drop (k + 1)) v := by
 have hk:=(List.getElem?_eq_some_iff.1 hu).1
 rw[List.drop_eq_getElem_cons hk,(List.getElem?_eq_some_iff.1 hu).2]
 simp only[Im]
 rw[hv,if_neg h]
theorem OB {d : Df} {w : List UInt8} {q : Nat} {e : Bool} (h : d.ends[q]? = some e) : Im d (w.drop w.length) (q : Int) = e := by simp [Im, h]
theorem ve {d:Df}{w:List UInt8}(h:wb d=true):oC d w=Im d w 0:=by simp[oC,h]
theorem G9 {d:Df}{w:List UInt8}(h:wb d=false):oC d w=false:=by simp[oC,h]
theorem Gs {c:Kl.Cl}{b:Nat}(hb:b<256)(h:c.getLsbD b=true)(hl:∀ j,j<b→c.getLsbD j=false):ek c=b:=by
 have dM:=DC h
 rw[rI dM]
 have h1:=et dM
 have h2:=h1.2 b h
 rcases Nat.lt_or_ge (least c) b with h3|h3
 · have:=hl _ h3
   rw[h1.1] at this;cases this
 · omega
theorem As {c:Kl.Cl}(hl:∀ j,j<256→c.getLsbD j=false):ek c=0:=by
 have:c=0#256:=by
   apply jc
   intro j hj
   rw[hl j hj];simp
 subst this
 unfold ek
 rw[if_pos (lj.2 rfl)]
theorem rJ (c:Kl.Cl):ek c<256:=by
 by_cases h:c=0#256
 · subst h
   unfold ek
   rw[if_pos (lj.2 rfl)];omega
 · rw[rI h];exact Be h
end Go.HL.cm
namespace Go.HL
open Go
section
variable {P:Program}{κ:Cx}{Q:gR}{L:Loc}{H:Hp}
structure Wy (κ:Cx){ι:Type}(I:ι→Prop)(Lf:ι→Loc)(Hf:ι→Hp)(m:ι→Nat)(i:ι)(a:Act)(w:World):Prop where
 out:∃ (j:ι)(ds:List Deferred)(Ms:Hp),I j∧Marks ds Ms∧m j<m i∧Ok ⟨κ.n,ds,κ.w0,κ.M⟩ (Lf j) (Ms++Hf j) a w
theorem Ex {ι:Type}{body:Code}(I:ι→Prop)(dd:ι→Loc)(base:Loc)(Hf:ι→Hp)(m:ι→Nat)(i0:ι)(h0:I i0)(hL:Sub L (dd i0))(hb:Sub L base)(hds:κ.ds = [])(hH:HSub H (Hf i0))
   (round:∀ i ds Ms,I i→Marks ds Ms→C P ⟨κ.n,ds,κ.w0,κ.M⟩ (Exit.then (Wy κ I (fun i=>dd i++base) Hf m i) Q) body (dd i++base) (Ms++Hf i)):C P κ Q (.loop body) L H:=by
 refine⟨fun ro a w hr ok=>?_⟩
 have key:∀ n,∀ i ds Ms,m i=n→I i→Marks ds Ms→∀ a w,Ok ⟨κ.n,ds,κ.w0,κ.M⟩ (dd i++base) (Ms++Hf i) a w→∀ (b:Frame)(k:List Item)(cs:List Frame),b.roundOf=ro →
     ∃ e a' w',Q e a' w'∧ArrivesIn (Machine.fenced P (FR ro)) P (lone (b.atR a (.code body::.inLoop body::k)) cs w) b k cs e a' w':=by
   intro n
   induction n using Nat.strongRecOn with
   | _ n ih=>
     intro i ds Ms hn hI hMs a w ok b k cs hb
     obtain⟨e,a₁,w₁,hq,mK⟩:=(round i ds Ms hI hMs).out ro a w (hr.imp id fun h=>by simpa [dX] using h) ok b (.inLoop body::k) cs hb trivial (yr _ _)
     cases e with
     | normal=>
       obtain⟨j,ds',Ms',hI₁,hM₁,cH,ok₁⟩:=hq.out
       obtain⟨e₂,a₂,w₂,hq₂,harr₂⟩:=ih (m j) (hn ▸ cH) j ds' Ms' rfl hI₁ hM₁ a₁ w₁ ok₁ b k cs hb
       exact⟨e₂,a₂,w₂,hq₂,.of_steps (StepsIn.trans mK (.one (fenced_wide P _) stepR_inLoop)) harr₂⟩
     | exit id=>exact⟨_,a₁,w₁,hq,.pass (x:=.inLoop body) rfl (fun _ _=>.inl (by simp)) mK⟩
     | goto l=>exact⟨_,a₁,w₁,hq,.pass (x:=.inLoop body) rfl (fun _ _=>.inl (by simp)) mK⟩
     | ret=>exact⟨_,a₁,w₁,hq,.pass (x:=.inLoop body) rfl (fun _ _=>.inl (by simp)) mK⟩
     | panic ch=>exact⟨_,a₁,w₁,hq,.pass (x:=.inLoop body) rfl (fun _ _=>.inl (by simp)) mK⟩
     | outgrown=>exact⟨_,a₁,w₁,hq,.pass (x:=.inLoop body) rfl (fun _ _=>.inl (by simp)) mK⟩
 intro b k cs H6 _ _
 obtain⟨e,a',w',hq,mK⟩:=key _ i0 κ.ds [] rfl h0 (by rw[hds];exact .nil) a w ⟨ok.fr.sub (hL.app hb),ok.st.sub hH⟩ b k cs H6
 exact⟨e,a',w',hq,.of_steps (.one (fenced_wide P _) stepR_loop) mK⟩
theorem II {n:Nat}{w0:World}{M:List Nat}{ds0:List Deferred}{ι:Type}{I:ι→Prop}{Lf:ι→Loc}{Hf:ι→Hp}{m:ι→Nat}{i:ι}(j:ι)(hI:I j)(hm:m j<m i){ds:List Deferred}{Ms R:Hp}(hM:Marks ds Ms)(hL:Sub L (Lf j))(gS:aJ H Ms R)(hH:HSub R (Hf j)) :
   X ⟨n,ds,w0,M⟩ (Wy ⟨n,ds0,w0,M⟩ I Lf Hf m i) L H:=⟨fun _ _ ok=>⟨j,ds,Ms,hI,hM,hm,ok.fr.sub hL,(ok.st.perm gS.perm).sub hH.keeps⟩⟩
end
end Go.HL
