/- Part of the proofs over this seat: see the text that holds the theorem. Conditions: each theorem bears its own. -/
import Derived.Test.YtmompllplidphaaGreatDoorGSW4Z
import Derived.Test.YtmompllplidphaaGreatDoorHTZ
import Derived.Test.YtmompllplidphaaGreatDoorGSC1Z
import Derived.Test.YtmompllplidphaaGreatDoorSM1Z
namespace Go.HL.cm
open Go Go.HL Go.HL.Kl Go.HL.Kl.Mc
section
variable {α:Type} [DecidableEq α]
theorem uM {s:α}:∀ {l:List α},s∈l→idx l s<l.length
 | x::l,h=>by
   unfold idx
   split
   · simp
   · rename_i hx
     have:=uM (l:=l) ((List.mem_cons.1 h).resolve_left fun e=>hx e.symm)
     simp;exact this
theorem nj {s:α}:∀ {l:List α},s∉l→idx l s=l.length
 | [],_=>rfl
 | x::l,h=>by
   unfold idx
   rw[if_neg (fun e=>h (by simp[e])),nj (l:=l) (fun e=>h (List.mem_cons_of_mem _ e))]
   rfl
theorem nu {s:α}:∀ {l:List α},s∈l→l[idx l s]?=some s
 | x::l,h=>by
   unfold idx
   split
   · rename_i hx;simp[hx]
   · rename_i hx
     have:=nu (l:=l) ((List.mem_cons.1 h).resolve_left fun e=>hx e.symm)
     simpa using this
theorem zS {s:α}(t:List α):∀ {l:List α},s∈l→idx (l++t) s=idx l s
 | x::l,h=>by
   show (if x=s then 0 else idx (l++t) s+1)=(if x=s then 0 else idx l s+1)
   split
   · rfl
   · rename_i hx
     rw[zS t (l:=l) ((List.mem_cons.1 h).resolve_left fun e=>hx e.symm)]
theorem zU {s:α}(t:List α):∀ {l:List α},s∉l→idx (l++s::t) s=l.length
 | [],_=>by simp[idx]
 | x::l,h=>by
   show (if x=s then 0 else idx (l++s::t) s+1)=_
   rw[if_neg (fun e=>h (by simp[e])),zU t (l:=l) (fun e=>h (List.mem_cons_of_mem _ e))]
   rfl
theorem ES {x y:α}{l:List α}(hx:x∈l)(hy:y∈l)(h:idx l x=idx l y):x=y:=by
 have h1:=nu hx
 rw[h,nu hy] at h1
 exact (Option.some.inj h1).symm
theorem Md {x:α}:∀ {l:List α}{i:Nat},l.Nodup→l[i]?=some x→idx l x=i
 | y::l,0,_,h=>by
   obtain rfl:y=x:=by simpa using h
   simp[idx]
 | y::l,i+1,hn,h=>by
   have h':l[i]?=some x:=by simpa using h
   have dM:y≠x:=by
     rintro rfl
     exact (List.nodup_cons.1 hn).1 (List.mem_of_getElem? h')
   unfold idx
   rw[if_neg dM,Md (List.nodup_cons.1 hn).2 h']
theorem Mf (l:List α)(s:α):idx (dD l s) s=idx l s:=by
 unfold dD
 split
 · rfl
 · rename_i h
   rw[zU [] h,nj h]
theorem Nj {l:List α}{s:α}(h:s∈l):dD l s=l:=by simp[dD,h]
theorem yi {l:List α}{s:α}(h:s∉l):dD l s=l++[s]:=by simp[dD,h]
def si (l:List α)(s:α):Option Value:=if s∈l then some (.int .i64 ((idx l s:Nat):Int)) else none
theorem ni {l:List α}{s:α}(h:s∈l):si l s=some (.int .i64 ((idx l s:Nat):Int)):=by simp[si,h]
theorem kJ {l:List α}{s:α}(h:s∉l):si l s=none:=by simp[si,h]
theorem El {l:List α}{s:α}(hs:s∉l){g g':α→Option Value}(h:∀ j,g j=si l j)
   (h':∀ j,g' j=if j=s then some (.int .i64 ((l.length:Nat):Int)) else g j):∀ j,g' j=si (dD l s) j:=by
 intro j
 rw[h',yi hs]
 by_cases hj:j=s
 · subst hj
   rw[if_pos rfl,ni (by simp),zU [] hs]
 · rw[if_neg hj,h]
   by_cases hm:j∈l
   · rw[ni hm,ni (by simp[hm]),zS _ hm]
   · rw[kJ hm,kJ (by simp[hm,hj])]
end
theorem pU:∀ (ps seen:List (Nat×Nat)),seen.Nodup→(fC ps seen).2.Nodup∧(∃ t,(fC ps seen).2=seen++t)∧(∀ x,x∈(fC ps seen).2↔x∈seen∨x∈ps)∧(fC ps seen).1=ps.map (idx (fC ps seen).2)
 | [],seen,h=>⟨h,⟨[],by simp[fC]⟩,by simp[fC],rfl⟩
 | p::ps,seen,h=>by
   obtain⟨h1,⟨t,h2⟩,h3,h4⟩:=pU ps (dD seen p) (kK h p)
   obtain⟨u,hu⟩:=yM seen p
   refine⟨h1,⟨u++t,by show (fC ps (dD seen p)).2=_;rw[h2,hu,List.append_assoc]⟩,fun x=>?_,?_⟩
   · show x∈(fC ps (dD seen p)).2↔_
     rw[h3,zg];simp[or_assoc]
   · show idx seen p::(fC ps (dD seen p)).1=idx (fC ps (dD seen p)).2 p::ps.map (idx (fC ps (dD seen p)).2)
     rw[← h4,h2,zS t (zg.2 (.inr rfl)),Mf]
def MS (cur c:List Nat)(q:Nat):List Nat:=(fC ((cur.zip c).take q) []).1++cur.drop q
def sj (cur c:List Nat)(q:Nat):List (Nat×Nat):=(fC ((cur.zip c).take q) []).2
theorem Et {cur c:List Nat}{q:Nat}(hc:c.length=cur.length)(hq:q≤cur.length):(MS cur c q).length=cur.length:=by
 simp[MS,lz];omega
theorem Nm {cur c:List Nat}{q a:Nat}(hc:c.length=cur.length)(ha:cur[q]?=some a):(MS cur c q)[q]?=some a:=by
 have hq:=(List.getElem?_eq_some_iff.1 ha).1
 unfold MS
 rw[List.getElem?_append_right (by simp[lz];omega)]
 simp[lz,List.getElem?_drop]
 rw[show q+(q-min q (min cur.length c.length))=q by omega];exact ha
theorem Ad {cur c:List Nat}{q a b:Nat}(hc:c.length=cur.length)(ha:cur[q]?=some a)(hb:c[q]?=some b) :
   (MS cur c q).set q (idx (sj cur c q) (a,b))=MS cur c (q+1)∧dD (sj cur c q) (a,b)=sj cur c (q+1):=by
 have hz:(cur.zip c)[q]?=some (a,b):=by simp[List.getElem?_zip_eq_some,ha,hb]
 have hq:=(List.getElem?_eq_some_iff.1 ha).1
 have hl:(fC ((cur.zip c).take q) []).1.length=q:=by simp[lz];omega
 refine⟨?_,?_⟩
 · unfold MS sj
   rw[aY hz,rP,List.set_append_right _ _ (by omega),hl,Nat.sub_self,List.drop_eq_getElem_cons hq,List.set_cons_zero]
   simp
 · unfold sj
   rw[aY hz,rP]
theorem ym {next:List (List Nat)}{part:List Nat}{k:Nat}(hl:(bc next part k).1.length=next.length):MS (bc next part k).1 (mI next part k) next.length=(bc next part (k+1)).1∧sj (bc next part k).1 (mI next part k) next.length=(bc next part (k+1)).2:=by
 have hz:((bc next part k).1.zip (mI next part k)).take next.length=(bc next part k).1.zip (mI next part k):=List.take_of_length_le (by simp[mI];omega)
 refine⟨?_,?_⟩
 · unfold MS
   rw[hz,List.drop_of_length_le (by omega),List.append_nil];rfl
 · unfold sj;rw[hz];rfl
theorem Eu (cur c:List Nat)(q:Nat)(hq:q≤cur.length):(sj cur c q).length≤q:=by
 have key:∀ (ps seen:List (Nat×Nat)),(fC ps seen).2.length≤seen.length+ps.length:=by
   intro ps
   induction ps with
   | nil=>intro seen;simp[fC]
   | cons p ps ih=>
     intro seen
     have h1:=ih (dD seen p)
     have h2:(dD seen p).length≤seen.length+1:=by unfold dD;split <;> simp
     show (fC ps (dD seen p)).2.length≤_
     simp;omega
 have:=key ((cur.zip c).take q) []
 have h2:((cur.zip c).take q).length≤q:=by simp;omega
 unfold sj
 simp at this h2;omega
theorem Eo {next:List (List Nat)}{part:List Nat}{k q to b:Nat}{row:List Nat}(hr:next[q]?=some row)(ht:row[k]?=some to)(hb:part[to]?=some b):(mI next part k)[q]?=some b:=by
 simp[mI,hr,ht,hb]
theorem y8 {α β:Type}{l:List α}{c:List β}{i:Nat}(h1:i<l.length)(h2:i<c.length):(l.zip c)[i]?=some (l[i],c[i]):=by
 simp[List.getElem?_zip_eq_some,h1,h2]
theorem eR {next:List (List Nat)}{part:List Nat}(h:part.length=next.length):∀ k,(bc next part k).1.length=next.length
 | 0=>h
 | k+1=>by
   show (fC _ []).1.length=_
   rw[lz,List.length_zip,eR h k];simp[mI]
theorem x4 {next:List (List Nat)}{part:List Nat}(h:part.length=next.length):∀ (k:Nat){i j:Nat},i<next.length→j<next.length→(bc next part k).1[i]?=(bc next part k).1[j]?→part[i]?=part[j]?
 | 0,i,j,_,_,he=>he
 | k+1,i,j,hi,hj,he=>by
   have hl:=eR h k
   have hc:(mI next part k).length=next.length:=by simp[mI]
   obtain⟨_,_,h3,h4⟩:=pU ((bc next part k).1.zip (mI next part k)) [] List.nodup_nil
   refine x4 h k hi hj ?_
   have sH:(fC ((bc next part k).1.zip (mI next part k)) []).1[i]?=(fC ((bc next part k).1.zip (mI next part k)) []).1[j]?:=he
   rw[h4,List.getElem?_map,List.getElem?_map] at sH
   have z1:=y8 (l:=(bc next part k).1) (c:=mI next part k) (i:=i) (by omega) (by omega)
   have z2:=y8 (l:=(bc next part k).1) (c:=mI next part k) (i:=j) (by omega) (by omega)
   rw[z1,z2] at sH
   have m1:=(h3 _).2 (.inr (List.mem_of_getElem? z1))
   have m2:=(h3 _).2 (.inr (List.mem_of_getElem? z2))
   have e:=ES m1 m2 (Option.some.inj sH)
   rw[List.getElem?_eq_getElem (by omega),List.getElem?_eq_getElem (by omega),(Prod.mk.inj e).1]
theorem HJ {next:List (List Nat)}{part:List Nat}(k:Nat){i:Nat}(hi:i<(bc next part (k+1)).2.length):i∈(bc next part (k+1)).1:=by
 obtain⟨h1,_,h3,h4⟩:=pU ((bc next part k).1.zip (mI next part k)) [] List.nodup_nil
 show i∈(fC _ []).1
 have hg:(fC ((bc next part k).1.zip (mI next part k)) []).2[i]?=some (bc next part (k+1)).2[i]:=List.getElem?_eq_getElem hi
 rw[h4]
 have hm:=((h3 _).1 (List.mem_of_getElem? hg)).resolve_left (by simp)
 exact List.mem_map.2 ⟨_,hm,Md h1 hg⟩
theorem nt {next:List (List Nat)}{part:List Nat}(k:Nat){v:Nat}(hv:v∈(bc next part (k+1)).1):v<(bc next part (k+1)).2.length:=by
 obtain⟨_,_,h3,h4⟩:=pU ((bc next part k).1.zip (mI next part k)) [] List.nodup_nil
 have hv':v∈(fC ((bc next part k).1.zip (mI next part k)) []).1:=hv
 rw[h4] at hv'
 obtain⟨x,hx,rfl⟩:=List.mem_map.1 hv'
 exact uM ((h3 x).2 (.inr hx))
structure Nl (n:Nat)(part:List Nat)(many:Nat):Prop where
 len:part.length=n
 cov:∀ i,i<many→i∈part
theorem Nl.many {next:List (List Nat)}{part:List Nat}{many K:Nat}(h:Nl next.length part many)(hK:0<K):many≤(bc next part K).2.length:=by
 obtain⟨k,rfl⟩:∃ k,K=k+1:=⟨K-1,by omega⟩
 have hl:=eR h.len (k+1)
 have hp:∀ i,i<many→part[idx part i]?=some i∧idx part i<next.length:=fun i hi=>⟨nu (h.cov i hi),by rw[← h.len];exact uM (h.cov i hi)⟩
 have hn:((List.range many).map fun i=>(bc next part (k+1)).1[idx part i]?.getD 0).Nodup:=by
   rw[List.nodup_iff_pairwise_ne,List.pairwise_map]
   have hr:=List.nodup_range (n:=many)
   rw[List.nodup_iff_pairwise_ne] at hr
   refine hr.imp_of_mem ?_
   intro a b ha hb Ig he
   have ha:=hp a (by simpa using ha)
   have hb:=hp b (by simpa using hb)
   rw[List.getElem?_eq_getElem (by omega),List.getElem?_eq_getElem (by omega),Option.getD_some,Option.getD_some] at he
   have:=x4 h.len (k+1) ha.2 hb.2 (by rw[List.getElem?_eq_getElem (by omega),List.getElem?_eq_getElem (by omega),he])
   rw[ha.1,hb.1] at this
   exact Ig (Option.some.inj this)
 have:=fJ hn (n:=(bc next part (k+1)).2.length) (fun x hx=>by
   obtain⟨i,hi,rfl⟩:=List.mem_map.1 hx
   have hi:=hp i (by simpa using hi)
   rw[List.getElem?_eq_getElem (by omega),Option.getD_some]
   exact nt k (List.getElem_mem _))
 simpa using this
theorem Mg {next:List (List Nat)}{part:List Nat}(h:part.length=next.length):∀ K,(bc next part K).2.length≤next.length
 | 0=>Nat.zero_le _
 | k+1=>by
   have hl:=eR h k
   rw[← (ym hl).2]
   exact Eu _ _ _ (by omega)
theorem Nl.step {next:List (List Nat)}{part:List Nat}{many K:Nat}(h:Nl next.length part many)(hK:0<K)(dM:(bc next part K).2.length≠many):Nl next.length (bc next part K).1 (bc next part K).2.length∧many<(bc next part K).2.length∧(bc next part K).2.length≤next.length:=by
 have h1:=h.many hK
 obtain⟨k,rfl⟩:∃ k,K=k+1:=⟨K-1,by omega⟩
 exact⟨⟨eR h.len _,fun i hi=>HJ k hi⟩,by omega,Mg h.len _⟩
theorem tR {next:List (List Nat)}{part:List Nat}{many K f:Nat}(h:(bc next part K).2.length=many):iT next K f many part=part:=by
 cases f with
 | zero=>rfl
 | succ f=>simp[iT,h]
theorem rR {next:List (List Nat)}{part:List Nat}{many K f:Nat}(hf:0<f)(h:(bc next part K).2.length≠many):iT next K f many part=iT next K (f-1) (bc next part K).2.length (bc next part K).1:=by
 obtain⟨g,rfl⟩:∃ g,f=g+1:=⟨f-1,by omega⟩
 simp[iT,h]
theorem wZ {ends:List Bool}{n:Nat}(h:ends.length=n):Nl n (fA ends) 0:=⟨by simp[fA,h],fun i hi=>by omega⟩
theorem BH (fr:Sp):∀ (rds met:List Sp),∀ v∈(dY rds fr met).1,v≤(dY rds fr met).2.length
 | [],met,v,h=>by cases h
 | r::rds,met,v,h=>by
   rcases List.mem_cons.1 h with rfl|h
   · have h1:=EL met (fr &&& r)
     have h2:=(List.getElem?_eq_some_iff.1 h1).1
     have h3:=jm fr rds (dD met (fr &&& r))
     show met.idxOf (fr &&& r)+1≤(dY rds fr (dD met (fr &&& r))).2.length
     omega
   · exact BH fr rds _ v h
structure Nh (K:Nat)(w:Wd):Prop where
 len:∀ r∈w.next,r.length=K
 yI:∀ r∈w.next,∀ v∈r,v≤w.met.length
theorem Nh.row {w:Wd}{rds:List Sp}(h:Nh rds.length w)(fr:Sp)(e:Bool):Nh rds.length (w.row rds fr e):=by
 constructor
 · intro r hr
   rcases List.mem_append.1 hr with hr|hr
   · exact h.len r hr
   · obtain rfl:=List.mem_singleton.1 hr
     exact lh _ _ _
 · intro r hr v hv
   rcases List.mem_append.1 hr with hr|hr
   · exact Nat.le_trans (h.yI r hr v hv) (jm fr rds w.met)
   · obtain rfl:=List.mem_singleton.1 hr
     exact BH fr rds w.met v hv
theorem Nh.run {fol rds:List Sp}{l1:Sp}:∀ (f q:Nat){w:Wd},Nh rds.length w→Nh rds.length (gF fol rds l1 f q w)
 | 0,_,_,h=>h
 | f+1,q,w,h=>by
   unfold gF
   split
   · exact Nh.run f (q+1) (h.row _ _)
   · exact h
theorem xh (x:fk)(root:Pt)(atoms:List Kl.Cl):Nh atoms.length (dJ x root atoms):=by
 rw[← xB x.sets atoms]
 exact Nh.run _ _ (Nh.row ⟨fun r h=>(by cases h),fun r h=>(by cases h)⟩ _ _)
end Go.HL.cm
namespace Go.HL.cm
open Go Go.HL Go.HL.Kl Go.HL.Kl.Mc
def Edge (next:List (List Nat))(p to:Nat):Prop:=∃ row,next[p]?=some row∧to∈row
def MA (next:List (List Nat))(q k p to:Nat):Prop:=(p<q∧Edge next p to)∨(p=q∧∃ row j,next[q]?=some row∧j<k∧row[j]?=some to)
structure BN (next:List (List Nat))(q k Vp:Nat)(Cd:List (List Nat)):Prop where
 len:Cd.length=next.length
 mem:∀ to l,Cd[to]?=some l→∀ p,p∈l↔MA next q k p to
 Vp:∀ l∈Cd,l.length≤Vp
theorem BN.zero (next:List (List Nat)):BN next 0 0 0 (List.replicate next.length []):=by
 refine⟨by simp,fun to l h p=>?_,fun l h=>?_⟩
 · have:=List.eq_of_mem_replicate (List.mem_of_getElem? h)
   subst this
   simp only[List.not_mem_nil,false_iff]
   rintro (⟨h,_⟩|⟨_,_,j,_,h,_⟩) <;> omega
 · rw[List.eq_of_mem_replicate h];simp
theorem BN.step {next:List (List Nat)}{q k c to:Nat}{Cd:List (List Nat)}{row l:List Nat}(h:BN next q k c Cd)(hr:next[q]?=some row)(ht:row[k]?=some to)(hl:Cd[to]?=some l):BN next q (k+1) (c+1) (Cd.set to (l++[q])):=by
 refine⟨by simp[h.len],fun t m hm p=>?_,fun m hm=>?_⟩
 · have key:MA next q (k+1) p t↔MA next q k p t∨(p=q∧t=to):=by
     constructor
     · rintro (h1|⟨rfl,MB,j,z6,hj,hg⟩)
       · exact .inl (.inl h1)
       · rw[hr] at z6;cases z6
         rcases Nat.lt_or_ge j k with h2|h2
         · exact .inl (.inr ⟨rfl,row,j,hr,h2,hg⟩)
         · obtain rfl:j=k:=by omega
           rw[ht] at hg;cases hg
           exact .inr ⟨rfl,rfl⟩
     · rintro ((h1|⟨rfl,MB,j,z6,hj,hg⟩)|⟨rfl,rfl⟩)
       · exact .inl h1
       · exact .inr ⟨rfl,MB,j,z6,by omega,hg⟩
       · exact .inr ⟨rfl,row,k,hr,by omega,ht⟩
   rw[key]
   by_cases e:to=t
   · subst e
     rw[List.getElem?_set_self (List.getElem?_eq_some_iff.1 hl).1] at hm
     cases hm
     rw[List.mem_append,h.mem to l hl];simp
   · rw[List.getElem?_set_ne e] at hm
     rw[h.mem t m hm]
     constructor
     · exact .inl
     · rintro (h1|⟨_,h1⟩)
       · exact h1
       · exact absurd h1.symm e
 · rcases List.mem_or_eq_of_mem_set hm with hm|rfl
   · have:=h.Vp m hm;omega
   · have:=h.Vp l (List.mem_of_getElem? hl)
     simp;omega
theorem BN.row {next:List (List Nat)}{q k c:Nat}{Cd:List (List Nat)}{row:List Nat}(h:BN next q k c Cd)(hr:next[q]?=some row)(hk:k=row.length):BN next (q+1) 0 c Cd:=by
 refine⟨h.len,fun t m hm p=>(h.mem t m hm p).trans ?_,h.Vp⟩
 subst hk
 constructor
 · rintro (⟨h1,h2⟩|⟨rfl,MB,j,z6,hj,hg⟩)
   · exact .inl ⟨by omega,h2⟩
   · exact .inl ⟨by omega,MB,z6,List.mem_of_getElem? hg⟩
 · rintro (⟨h1,h2⟩|⟨_,_,j,_,h1,_⟩)
   · rcases Nat.lt_or_ge p q with h3|h3
     · exact .inl ⟨h3,h2⟩
     · obtain rfl:p=q:=by omega
       obtain⟨MB,z6,zZ⟩:=h2
       rw[hr] at z6;cases z6
       obtain⟨j,hj⟩:=List.getElem?_of_mem zZ
       exact .inr ⟨rfl,row,j,hr,(List.getElem?_eq_some_iff.1 hj).1,hj⟩
   · omega
theorem BN.done {next:List (List Nat)}{q c:Nat}{Cd:List (List Nat)}(h:BN next q 0 c Cd)(hq:q=next.length){to:Nat}{l:List Nat}(hl:Cd[to]?=some l)(p:Nat):p∈l↔Edge next p to:=by
 refine (h.mem to l hl p).trans ⟨?_,fun h1=>?_⟩
 · rintro (⟨_,h1⟩|⟨_,_,j,_,h1,_⟩)
   · exact h1
   · omega
 · obtain⟨row,hr,hm⟩:=h1
   exact .inl ⟨by have:=(List.getElem?_eq_some_iff.1 hr).1;omega,row,hr,hm⟩
structure Ce (next:List (List Nat))(ends:List Bool)(lv:List Bool)(todo:List Nat)(ex:Option Nat):Prop where
 len:lv.length=next.length
 snd:∀ q:Nat,lv[q]?=some true→Live next ends q
 fin:∀ q:Nat,ends[q]?=some true→lv[q]?=some true
 Q3:∀ q:Nat,q∈todo→lv[q]?=some true
 cls:∀ q:Nat,lv[q]?=some true→q∈todo∨some q=ex∨∀ p,Edge next p q→lv[p]?=some true
def lB (ends:List Bool)(q:Nat):List Nat:=(List.range q).filter fun i=>ends[i]?.getD false
theorem yf {ends:List Bool}{q:Nat}(h:ends[q]?=some true):lB ends (q+1)=lB ends q++[q]:=by simp[lB,List.range_succ,h]
theorem BO {ends:List Bool}{q:Nat}(h:ends[q]?=some false):lB ends (q+1)=lB ends q:=by simp[lB,List.range_succ,h]
theorem HV (ends:List Bool)(q:Nat):(lB ends q).length≤q:=by
 have:=List.length_filter_le (fun i=>ends[i]?.getD false) (List.range q)
 simpa [lB] using this
theorem Ce.init {next:List (List Nat)}{ends:List Bool}(h:ends.length=next.length):Ce next ends ends (lB ends ends.length) none where
 len:=h
 snd:=fun q hq=>.ends hq
 fin:=fun q hq=>hq
 Q3:=fun q hq=>by
   have:=List.mem_filter.1 hq
   have h1:q<ends.length:=by simpa using this.1
   have h2:=this.2
   rw[List.getElem?_eq_getElem h1] at h2 ⊢
   simpa using h2
 cls:=fun q hq=>.inl (List.mem_filter.2 ⟨by have:=(List.getElem?_eq_some_iff.1 hq).1;simpa using this,by simp[hq]⟩)
theorem Ce.pop {next:List (List Nat)}{ends lv:List Bool}{todo:List Nat}{q:Nat}(h:Ce next ends lv (todo++[q]) none):Ce next ends lv todo (some q) where
 len:=h.len
 snd:=h.snd
 fin:=h.fin
 Q3:=fun x hx=>h.Q3 x (by simp[hx])
 cls:=fun x hx=>by
   rcases h.cls x hx with h1|h1|h1
   · rcases List.mem_append.1 h1 with h1|h1
     · exact .inl h1
     · exact .inr (.inl (by rw[List.mem_singleton.1 h1]))
   · cases h1
   · exact .inr (.inr h1)
theorem mm {lv:List Bool}{p:Nat}(hp:lv[p]?=some false)(x:Nat):(lv.set p true)[x]?=some true↔x=p∨lv[x]?=some true:=by
 have hl:=(List.getElem?_eq_some_iff.1 hp).1
 by_cases e:p=x
 · subst e
   rw[List.getElem?_set_self hl];simp
 · rw[List.getElem?_set_ne e]
   constructor
   · exact .inr
   · rintro (h|h)
     · exact absurd h.symm e
     · exact h
theorem Ce.push {next:List (List Nat)}{ends lv:List Bool}{todo:List Nat}{q p:Nat}(h:Ce next ends lv todo (some q))(hq:lv[q]?=some true)(he:Edge next p q)(hp:lv[p]?=some false):Ce next ends (lv.set p true) (todo++[p]) (some q) where
 len:=by simp[h.len]
 snd:=fun x hx=>by
   rcases (mm hp x).1 hx with rfl|hx
   · obtain⟨row,hr,hm⟩:=he
     exact .step hr hm (h.snd q hq)
   · exact h.snd x hx
 fin:=fun x hx=>(mm hp x).2 (.inr (h.fin x hx))
 Q3:=fun x hx=>by
   rcases List.mem_append.1 hx with hx|hx
   · exact (mm hp x).2 (.inr (h.Q3 x hx))
   · exact (mm hp x).2 (.inl (List.mem_singleton.1 hx))
 cls:=fun x hx=>by
   rcases (mm hp x).1 hx with rfl|hx
   · exact .inl (by simp)
   · rcases h.cls x hx with h1|h1|h1
     · exact .inl (by simp[h1])
     · exact .inr (.inl h1)
     · exact .inr (.inr fun y hy=>(mm hp y).2 (.inr (h1 y hy)))
theorem Ce.close {next:List (List Nat)}{ends lv:List Bool}{todo:List Nat}{q:Nat}(h:Ce next ends lv todo (some q))(hq:∀ p,Edge next p q→lv[p]?=some true):Ce next ends lv todo none where
 len:=h.len
 snd:=h.snd
 fin:=h.fin
 Q3:=h.Q3
 cls:=fun x hx=>by
   rcases h.cls x hx with h1|h1|h1
   · exact .inl h1
   · cases h1;exact .inr (.inr hq)
   · exact .inr (.inr h1)
def l6 (next:List (List Nat))(ends lv:List Bool):Prop:=lv.length=next.length∧∀ q:Nat,lv[q]?=some true↔Live next ends q
theorem Ce.done {next:List (List Nat)}{ends lv:List Bool}(h:Ce next ends lv [] none):l6 next ends lv:=by
 refine⟨h.len,fun q=>⟨h.snd q,fun hL=>?_⟩⟩
 induction hL with
 | ends hq=>exact h.fin _ hq
 | step hr hm _ ih=>
   rcases h.cls _ ih with h1|h1|h1
   · cases h1
   · cases h1
   · exact h1 _ ⟨_,hr,hm⟩
def dead (lv:List Bool):Nat:=lv.countP (·=false)
theorem vI:∀ {lv:List Bool}{p:Nat},lv[p]?=some false→dead (lv.set p true)+1=dead lv
 | b::lv,0,h=>by
   obtain rfl:b=false:=by simpa using h
   simp[dead]
 | b::lv,p+1,h=>by
   have:=vI (lv:=lv) (p:=p) (by simpa using h)
   unfold dead at this ⊢
   rw[List.set_cons_succ,List.countP_cons,List.countP_cons]
   omega
theorem HW (ends:List Bool):2*dead ends+(lB ends ends.length).length≤2*ends.length:=by
 have h:∀ q,q≤ends.length→(lB ends q).length+dead (ends.take q)=q:=by
   intro q
   induction q with
   | zero=>intro _;simp[lB,dead]
   | succ q ih=>
     intro hq
     obtain⟨e,he⟩:∃ e,ends[q]?=some e:=⟨_,List.getElem?_eq_getElem (by omega)⟩
     have:=ih (by omega)
     have ht:dead (ends.take (q+1))=dead (ends.take q)+dead [e]:=by rw[aY he];simp[dead]
     cases e with
     | false=>rw[BO he,ht];simp[dead] at this ⊢;omega
     | true=>rw[yf he,ht];simp[dead] at this ⊢;omega
 have h1:=h ends.length (Nat.le_refl _)
 rw[List.take_length] at h1
 have h2:dead ends≤ends.length:=List.countP_le_length
 omega
theorem PN (lv:List Bool):dead lv≤lv.length:=List.countP_le_length
end Go.HL.cm
namespace Go.Proofs.YtmompllplidphaaGreatDoor
open Go Go.HL Go.Proofs Go.HL.Kl Go.HL.Kl.Mc Go.HL.cm
def BZ (p:Nat×Nat):Value:=.agg (cI .i64 [(p.1:Int),(p.2:Int)]).toArray
instance ak2:QK Tryz.prog 118 true 2 2:=QK.arr (m:=2) (e:=3) (se:=1) (QK.int (t:=3))
instance keP:KE Tryz.prog 118 BZ:=KE.ofA (Ei:=fun p:Nat×Nat=>[(p.1:Int),(p.2:Int)]) (fun _=>rfl) (fun a b h=>by
 simp only[List.cons.injEq,and_true] at h
 exact Prod.ext (Int.ofNat.inj h.1) (Int.ofNat.inj h.2)) (by decide) ⟨_,_,Tryz.underlying118⟩
def StP (b7:Nat)(seen:List (Nat×Nat))(S:Hp):Prop:=∃ (bm:Nat)(es:List (Mx (Nat×Nat)))(c:Nat),S = [(b7,.cells [.map (some bm)].toArray 122 (0,0)),(bm,jd BZ es c)]∧seen.Nodup∧es.length=seen.length∧∀ s,getM es s=si seen s
theorem tN {ends:List Bool}{q:Nat}{e:Bool}(h:ends[q]?=some e):fA (ends.take (q+1))=fA (ends.take q)++[if e then 1 else 0]:=by
 rw[aY h];simp[fA]
theorem FY {ends:List Bool}{q:Nat}(h:ends[q]?=some true):(jR 0 (fA (ends.take q)) ends.length).set q 1=jR 0 (fA (ends.take (q+1))) ends.length:=by
 have hq:=(List.getElem?_eq_some_iff.1 h).1
 rw[tN h,iE (by simp[fA];omega) hq];rfl
theorem Iz {ends:List Bool}{q:Nat}(h:ends[q]?=some false):jR 0 (fA (ends.take q)) ends.length=jR 0 (fA (ends.take (q+1))) ends.length:=by
 have hq:=(List.getElem?_eq_some_iff.1 h).1
 rw[tN h,← wX (z:=0) (l:=fA (ends.take q)) (k:=q) (by simp[fA];omega) hq,iE (by simp[fA];omega) hq];rfl
theorem FZ (a:Option Addr)(c n:Nat)(xs:List Nat)(hn:xs.length=n)(mH:xs.length≤4294967296):HL.Fn Tryz.prog 112 [.slice a n c] (fun w=>Rd jo w (.slice a n c) xs) [] (fun v S'=>∃ a' c',v = .slice a' n c'∧aG jo 1 3 (.slice a' n c') xs S'):=by
 refine aW Tryz.func112 rfl rfl rfl fun w0 hw=>?_;subst hn
 have gk:=hw.sl
 have Cf:=gk.le
 refine cR fun _ bI=>?_;refine oA (oZ bI (ah fun _ bJ=>?_));refine cR fun _ bK=>?_;refine oM ?_;refine oS (tO rfl rfl) ?_;refine oZ bK ?_;refine km rfl (fun hn=>?_) (fun hn=>?_)
 ·have ha:a=none:=Option.isNone_iff_eq_none.1 hn
  subst ha
  have qG:xs = []:=List.eq_nil_of_length_eq_zero gk.none
  subst qG;refine cR fun _ bU=>?_;refine oA (oZ bU (aA ?_));refine aj (?_);exact xR rfl rfl (⟨_,_,rfl,.nil⟩)
 ·refine ax (xZ bJ (cR fun _ bT=>?_));refine ct (E:=jo) (xs:=[]) (vs:=[]) rfl rfl rfl rfl rfl (by decide) (by decide) fun b5 S5 Wr=>?_;refine oM ?_;refine bX Wr (cq.bj hw) rfl rfl rfl rfl (by simp;omega) (by simp;omega) rfl bh fun a7 c7 S7 Ra=>?_;refine oA (oZ bT (aA ?_));refine ?_
  simp only[List.nil_append] at Ra
  exact xR rfl rfl (⟨_,_,rfl,by simpa using Ra⟩)
theorem F0 (a:Option Addr)(c n:Nat)(xs:List Bool)(hn:xs.length=n)(mH:xs.length≤4294967296):HL.Fn Tryz.prog 113 [.slice a n c] (fun w=>Rd fR w (.slice a n c) xs) [] (fun v S'=>∃ a' c',v = .slice a' n c'∧aG fR 1 4 (.slice a' n c') xs S'):=by
 refine aW Tryz.func113 rfl rfl rfl fun w0 hw=>?_;subst hn
 have gk:=hw.sl
 have Cf:=gk.le
 refine cR fun _ bI=>?_;refine oA (oZ bI (ah fun _ bJ=>?_));refine cR fun _ bK=>?_;refine oM ?_;refine oS (tO rfl rfl) ?_;refine oZ bK ?_;refine km rfl (fun hn=>?_) (fun hn=>?_)
 ·have ha:a=none:=Option.isNone_iff_eq_none.1 hn
  subst ha
  have qG:xs = []:=List.eq_nil_of_length_eq_zero gk.none
  subst qG;refine cR fun _ bU=>?_;refine oA (oZ bU (aA ?_));refine aj (?_);exact xR rfl rfl (⟨_,_,rfl,.nil⟩)
 ·refine ax (xZ bJ (cR fun _ bT=>?_));refine ct (E:=fR) (xs:=[]) (vs:=[]) rfl rfl rfl rfl rfl (by decide) (by decide) fun b5 S5 Wr=>?_;refine oM ?_;refine bX Wr (cq.bj hw) rfl rfl rfl rfl (by simp;omega) (by simp;omega) rfl bh fun a7 c7 S7 Ra=>?_;refine oA (oZ bT (aA ?_));refine ?_
  simp only[List.nil_append] at Ra
  exact xR rfl rfl (⟨_,_,rfl,by simpa using Ra⟩)
theorem Ws (b7:Nat)(seen:List (Nat×Nat))(S:Hp)(h:StP b7 seen S)(dr:seen.length≤16777220)(a b:Nat):HL.Fn Tryz.prog 111 [.int .i64 a,.int .i64 b,.pointer (some ⟨b7,0,none⟩)] (fun _=>True) S (fun v S'=>v = .int .i64 ((idx seen (a,b):Nat):Int)∧StP b7 (dD seen (a,b)) S'):=by
 refine aW Tryz.func111 rfl rfl rfl fun w0 hw=>?_
 obtain⟨bm,es,c,rfl,yg,kH,hg⟩:=h
 refine cR fun _ bI=>?_;refine oA (oZ bI (cR fun _ bJ=>?_));refine oS sL (oM (oM ?_));refine oS (ab (v':=BZ (a,b)) (gY [.int .i64 a,.int .i64 b] rfl rfl rfl rfl (by simp[Value.oneCell'])) rfl) ?_
 by_cases hm:(a,b)∈seen
 ·refine oS (ab (v':=.tuple #[.int .i64 ((idx seen (a,b):Nat):Int),.bool true]) (kI (Ek:=BZ) (k:=(a,b)) rfl rfl aV) (by rw[hg,ni hm];rfl)) ?_;refine oM ?_;refine oS sE ?_;refine oS sE (oA (oA (oZ bJ (ah fun _ bK=>?_))));refine cR fun _ bU=>?_;refine oM ?_;refine oS (aT rfl) ?_;refine oZ bU ?_;refine eL bK (cR fun _ bT=>?_);refine oM (oA (oZ bT (aA ?_)));refine ?_;refine cM (Sub.refl _) (H':=[(b7,.cells [.map (some bm)].toArray 122 (0,0)),(bm,jd BZ es c)]) aP ?_
  exact xR rfl rfl (⟨rfl,by rw[Nj hm];exact⟨bm,es,c,rfl,yg,kH,hg⟩⟩)
 ·refine cP rfl (ab (v':=.tuple #[.int .i64 0,.bool false]) (kI (Ek:=BZ) (k:=(a,b)) rfl rfl aV) (by rw[hg,kJ hm];rfl)) ?_;refine cP rfl (ba rfl) ?_;refine cP rfl (qK rfl rfl) ?_;refine cP rfl (qK rfl rfl) ?_;refine cP rfl (dF rfl) ?_;refine cP rfl (dF rfl) ?_;refine ak ?_;refine av (bJ _ _ ?_);refine ah fun _ bZ=>?_;refine ah fun _ cj=>?_;refine ae ?_;refine cP rfl (ba rfl) ?_;refine cP rfl (aT rfl) ?_;refine ak ?_;refine av (cj _ _ ?_);refine yh rfl ?_;refine ah fun _ ck=>?_;refine ae ?_;refine cP rfl (az rfl (.own aV rfl)) ?_;refine cP rfl (ab (v':=.int .i64 ((seen.length:Nat):Int)) (tP (Ek:=BZ) (es:=es) rfl aV) (by rw[kH])) ?_;refine cP rfl (dF rfl) ?_;refine ak ?_
  refine av (ck _ _ ?_);refine ae ?_;refine cP rfl (az rfl (.own aV rfl)) ?_;refine cP rfl (ba rfl) ?_;refine cP rfl (ba rfl) ?_;refine cP rfl (ab (v':=BZ (a,b)) (gY [.int .i64 a,.int .i64 b] rfl rfl rfl rfl (by simp[Value.oneCell'])) rfl) ?_;refine cP rfl (ba rfl) ?_;refine sY (Ek:=BZ) (k:=(a,b)) rfl rfl rfl bh fun ob c' tQ Rc=>?_;refine ak ?_;refine av (bZ _ _ ?_);refine ah fun _ cQ=>?_;refine ae ?_;refine cP rfl (ba rfl) ?_;refine cP rfl (dF rfl) ?_;refine ak ?_;refine av (cQ _ _ ?_);refine aA ?_;refine ?_;refine cM (Sub.refl _) (H':=[(b7,.cells [.map (some bm)].toArray 122 (0,0)),(bm,jd BZ ob c')]) aP ?_;exact cr rfl (.tmp rfl (.nil)) (⟨by rw[nj hm];rfl,bm,ob,c',rfl,kK yg _,by rw[Rc,hg,kJ hm,yi hm,kH];simp,El hm hg tQ⟩)
set_option maxHeartbeats 1000000 in
theorem IA (na:Option Addr)(nc:Nat)(rows:List (Sl Nat))(ea:Option Addr)(ec:Nat)(ends:List Bool)(K:Nat)(kH:rows.length=ends.length)(h0:0<rows.length)(wY:rows.length≤16777217)(hK0:0<K)(Wt:K≤256)(hK:∀ s∈rows,s.xs.length=K)(hbd:∀ s∈rows,∀ v∈s.xs,v<rows.length):HL.Fn Tryz.prog 42 [.agg [.slice na rows.length nc,.slice ea ends.length ec].toArray] (fun w=>Rd cX w (.slice na rows.length nc) rows∧Rd fR w (.slice ea ends.length ec) ends∧∀ s∈rows,Rd jo w s.v s.xs) [] (fun v S'=>∃ a c,v = .slice a ends.length c∧aG jo 1 3 (.slice a ends.length c) (gZ (rows.map Sl.xs) ends K) S'):=by
 refine aW Tryz.func42 rfl rfl rfl fun w0 hw=>?_
 have B3:=hw.2.1.sl
 have oR:=hw.1.sl
 have mH:(rows.map Sl.xs).length=ends.length:=by rw[List.length_map];exact kH
 refine cR fun _ bI=>?_;refine cB rfl rfl rfl fun b1=>?_;refine oA (oZ bI (cR fun _ bJ=>?_));refine oS sF ?_;refine oS sL ?_;refine oS sC ?_;refine lD (E:=jo) (zx:=0) (n:=ends.length) rfl rfl rfl (by omega) (by omega) rfl fun v3 Nk yj=>?_
 rw[← pe] at yj
 have Wu:=yj.sl
 rw[eQ (Nat.zero_le _)] at Wu
 refine oA (oZ bJ (ah fun _ bK=>?_));refine cR fun _ bU=>?_;refine oS sF ?_;refine oS sL ?_;refine oS sC (oM (oZ bU (ai ?_)));refine cY (fun (q:Nat)(Sp:Hp)=>q≤ends.length∧aG jo 1 3 (.slice (some ⟨v3,0,none⟩) ends.length ends.length) (jR 0 (fA (ends.take q)) ends.length) Sp) (fun (q:Nat)(Sp:Hp)=>[(19,.int .i64 q)]) [(1,_),(2,_),(3,_),(17,_),(18,_)] (fun (q:Nat)(Sp:Hp)=>(b1,.cells [.slice na rows.length nc,.slice ea ends.length ec].toArray 96 (0,0))::Sp) (fun (q:Nat)(Sp:Hp)=>ends.length-q) 0 Nk ⟨Nat.zero_le _,yj⟩ aH aH aP ?_
 rintro q Sp ⟨hq,hP⟩
 refine cR fun _ bT=>?_;refine oS (aF rfl rfl) ?_;refine oZ bT (ah fun _ bZ=>?_);refine cx rfl (fun cH=>?_) (fun cH=>?_)
 ·obtain⟨e,heq⟩:∃ e,ends[q]?=some e:=gE
  refine ax (xZ bZ (ah fun _ cj=>?_));refine ai (cR fun _ ck=>?_);refine oM ?_;refine oS (au rfl rfl B3 (by omega)) ?_;refine oS (az rfl ((cq.bj hw.2.1).ld q 0 heq rfl (by decide) (by omega))) ?_;refine oA (oA (oZ ck (cR fun _ cQ=>?_)));refine oM (oZ cQ ?_);refine km rfl (fun Re=>?_) (fun Re=>?_)
  ·subst Re;refine ae (oM (oM ?_));refine oS (au rfl rfl Wu (by omega)) ?_;refine dp q 1 hP bh rfl rfl rfl (by rw[eQ (by simp[fA];omega)];omega) (by first|rfl|omega|(rw[Int.toNat_natCast,Nat.mul_one])) fun S27 Rf=>?_;refine ak (aq (xZ cj (ae ?_)));refine oS sD (oM (ak ?_));exact xI (q+1,_) ⟨by omega,by rw[← FY heq];exact Rf⟩
  ·subst Re;refine ax (aq (xZ cj (ae ?_)));refine oS sD (oM (ak ?_));exact xI (q+1,_) ⟨by omega,by rw[← Iz heq];exact hP⟩
 ·obtain rfl:q=ends.length:=by omega
  refine ay ?_;refine ad (ad (ag (xZ bK (cR fun _ bw=>?_))));refine oA (oZ bw (ai ?_))
  refine jY (fun (f:Nat)(many:Nat)(part:List Nat)(pa:Option Addr)(pc:Nat)(Sp:Hp)=>ends.length+2≤f+many∧many≤ends.length∧iT (rows.map Sl.xs) K f many part=gZ (rows.map Sl.xs) ends K∧Nl (rows.map Sl.xs).length part many∧aG jo 1 3 (.slice pa ends.length pc) part Sp) (fun (f:Nat)(many:Nat)(part:List Nat)(pa:Option Addr)(pc:Nat)(Sp:Hp)=>[(3,.slice pa ends.length pc),(6,.int .i64 many)]) [(1,_)] (fun (f:Nat)(many:Nat)(part:List Nat)(pa:Option Addr)(pc:Nat)(Sp:Hp)=>(b1,.cells [.slice na rows.length nc,.slice ea ends.length ec].toArray 96 (0,0))::Sp) (fun (f:Nat)(many:Nat)(part:List Nat)(pa:Option Addr)(pc:Nat)(Sp:Hp)=>ends.length+1-many) (ends.length+2) 0 (fA ends) (some ⟨v3,0,none⟩) ends.length _ ⟨by omega,by omega,rfl,wZ (by omega),by rw[List.take_length,nk (by simp[fA])] at hP;exact hP⟩ aH aH aP ?_
  rintro f many part pa pc Sp ⟨hf,hme,H4,hR,hO⟩
  have qH:=hR.len
  have Wv:=hO.sl
  rw[show part.length=ends.length by omega] at Wv
  obtain⟨r0,VS⟩:∃ r,rows[0]?=some r:=⟨_,List.getElem?_eq_getElem h0⟩
  have ak3:=hK r0 (List.mem_of_getElem? VS)
  have F1:=(hw.2.2 r0 (List.mem_of_getElem? VS)).sl
  refine ai (cR fun _ bF=>?_);refine sZ (Ek:=BZ) rfl fun b29=>?_;refine aB rfl rfl fun b7=>?_;refine bg rfl rfl rfl bY kD rfl ?_;refine oZ bF (cR fun _ bD=>?_);refine oS (yk (us:=[]) (vs:=[_]) rfl rfl) ?_;refine oA (oZ bD (cR fun _ cb=>?_));refine oM ?_;refine aX (FZ pa pc ends.length part (by omega) (by omega)) rfl rfl rfl (by exact .nil) (fun w st=>(hO.aU aM).out w st) (fun F2 S32 ⟨a32,c32,g9,Ww⟩=>?_);subst g9
  have acE:=Ww.sl
  rw[show part.length=ends.length by omega] at acE
  refine oA (oZ cb (ah fun _ bL=>?_));refine cR fun _ bQ=>?_;refine oS sF ?_;refine oS sL ?_;refine oS (au rfl rfl oR (by omega)) ?_;refine oS (az rfl ((cq.bj hw.1).ld 0 0 VS rfl (by decide) (by omega))) ?_;refine oS sC (oM (oZ bQ (ai ?_)));refine dt (fun (k:Nat)(Sn:Hp)(Sm:Hp)=>k≤K∧aG jo 1 3 (.slice a32 ends.length c32) (bc (rows.map Sl.xs) part k).1 Sn∧StP b7 (bc (rows.map Sl.xs) part k).2 Sm) (fun (k:Nat)(Sn:Hp)(Sm:Hp)=>[(38,.int .i64 k)]) [(1,_),(3,_),(6,_),(7,_),(8,_),(9,_),(29,_),(30,_),(31,_),(32,_),(33,_),(34,_),(35,_),(36,_),(37,_)] (fun (k:Nat)(Sn:Hp)(Sm:Hp)=>(b1,.cells [.slice na rows.length nc,.slice ea ends.length ec].toArray 96 (0,0))::(Sp++(Sn++Sm))) (fun (k:Nat)(Sn:Hp)(Sm:Hp)=>K-k) 0 S32 [(b7,.cells [.map (some b29)].toArray 122 (0,0)),(b29,jd BZ [] 0)] ⟨Nat.zero_le _,Ww,b29,[],0,rfl,List.nodup_nil,rfl,fun s=>rfl⟩ aH aH aP ?_
  rintro k Sn Sm ⟨hk,hN,hM⟩
  refine cR fun _ cO=>?_;refine oS (aF rfl rfl) ?_;refine oZ cO (ah fun _ df=>?_);refine cx rfl (fun Cg=>?_) (fun Cg=>?_)
  ·have jq:=eR qH k
   have IB:(mI (rows.map Sl.xs) part k).length=(bc (rows.map Sl.xs) part k).1.length:=by simp[mI];omega
   obtain⟨bm,es,c,rfl,yg,hes,hg⟩:=hM
   refine ax (xZ df (ah fun _ cZ=>?_));refine ai (cR fun _ dq=>?_);refine oM (oA (oZ dq (cR fun _ dG=>?_)));refine oS sL ?_;refine Ch (Ek:=BZ) rfl bh fun c'=>?_;refine oZ dG (cR fun _ eb=>?_);refine oM ?_;refine oS sC (oM (oZ eb (ai ?_)));refine dt (fun (q:Nat)(MR:Hp)(yl:Hp)=>q≤ends.length∧aG jo 1 3 (.slice a32 ends.length c32) (MS (bc (rows.map Sl.xs) part k).1 (mI (rows.map Sl.xs) part k) q) MR∧StP b7 (sj (bc (rows.map Sl.xs) part k).1 (mI (rows.map Sl.xs) part k) q) yl) (fun (q:Nat)(MR:Hp)(yl:Hp)=>[(44,.int .i64 q)]) [(1,_),(3,_),(6,_),(7,_),(8,_),(9,_),(10,_),(29,_),(30,_),(31,_),(32,_),(33,_),(34,_),(35,_),(36,_),(37,_),(38,_),(39,_),(40,_),(41,_),(42,_),(43,_)] (fun (q:Nat)(MR:Hp)(yl:Hp)=>(b1,.cells [.slice na rows.length nc,.slice ea ends.length ec].toArray 96 (0,0))::(Sp++(MR++yl))) (fun (q:Nat)(MR:Hp)(yl:Hp)=>ends.length-q) 0 Sn [(b7,.cells [.map (some bm)].toArray 122 (0,0)),(bm,jd BZ [] c')] ⟨Nat.zero_le _,hN,bm,[],c',rfl,List.nodup_nil,rfl,fun s=>rfl⟩ aH aH aP ?_
   rintro q MR yl ⟨hq,hN2,Em⟩
   refine cR fun _ dL=>?_;refine oS (aF rfl rfl) ?_;refine oZ dL (ah fun _ dR=>?_);refine cx rfl (fun IC=>?_) (fun IC=>?_)
   ·obtain⟨a,ha⟩:∃ a,(bc (rows.map Sl.xs) part k).1[q]?=some a:=gE
    obtain⟨s,hs⟩:∃ s,rows[q]?=some s:=gE
    have jr:=List.mem_of_getElem? hs
    have hsK:=hK s jr
    obtain⟨to,kE⟩:∃ t,s.xs[k]?=some t:=gE
    have Ac:=hbd s jr to (List.mem_of_getElem? kE)
    obtain⟨b,hb⟩:∃ b,part[to]?=some b:=gE
    have hcb:(mI (rows.map Sl.xs) part k)[q]?=some b:=Eo (by rw[List.getElem?_map,hs];rfl) kE hb
    have gk:=(hw.2.2 s jr).sl
    have hs2:=hN2.sl
    rw[Et IB (by omega),jq,mH] at hs2
    have hul:=Eu (bc (rows.map Sl.xs) part k).1 (mI (rows.map Sl.xs) part k) q (by omega)
    refine ax (xZ dR (ah fun _ dk=>?_));refine ai (cR fun _ dE=>?_);refine oM (oA (oZ dE ?_));refine aK ((b1,.cells [.slice na rows.length nc,.slice ea ends.length ec].toArray 96 (0,0))::(Sp++MR)) (fun i=>Nat.beq i 20) ?_;refine eP 0 rfl sM ?_;refine eP 1 rfl sM ?_;refine eP 2 rfl sM ?_;refine eP 3 rfl sM ?_;refine eP 4 rfl sM ?_;refine eP 5 rfl (au rfl rfl hs2 (by omega)) ?_;refine eK 6 rfl (az rfl ((hN2.aU aM).ld q 0 (Nm IB ha) rfl (by decide) (by omega))) ?_;refine eP 7 rfl sM ?_;refine eP 8 rfl sF ?_;refine eK 9 rfl sL ?_;refine eP 10 rfl sM ?_;refine eP 11 rfl (au rfl rfl oR (by omega)) ?_;refine eK 12 rfl (az rfl ((cq.bj hw.1).ld q 0 hs rfl (by decide) (by omega))) ?_;refine eP 13 rfl sM ?_;refine eP 14 rfl (au rfl rfl gk (by omega)) ?_;refine eK 15 rfl (az rfl ((cq.bj (hw.2.2 s jr)).ld k 0 kE rfl (by decide) (by simp only[Sl.v];omega))) ?_;refine eP 16 rfl (au rfl rfl Wv (by omega)) ?_;refine eK 17 rfl (az rfl ((hO.aU aM).ld to 0 hb rfl (by decide) (by omega))) ?_;refine eO 18 rfl ?_;refine ff (us:=[]) (vs:=[_,_]) (cs:=[.pointer (some ⟨b7,0,none⟩)]) (Ws b7 (sj (bc (rows.map Sl.xs) part k).1 (mI (rows.map Sl.xs) part k) q) yl Em (by omega) a b) rfl rfl rfl (bh) (fun _ _=>trivial) (fun v65 S65 ⟨Nn,Rh⟩=>?_);subst Nn
    refine oX ?_;refine eP 19 rfl (au rfl rfl hs2 (by omega)) ?_;refine eO 20 rfl ?_;refine dp q (idx (sj (bc (rows.map Sl.xs) part k).1 (mI (rows.map Sl.xs) part k) q) (a,b)) hN2 bh rfl rfl rfl (by rw[Et IB (by omega)];omega) (by first|rfl|omega|(rw[Int.toNat_natCast,Nat.mul_one])) fun S66 acH=>?_;refine ak ?_;refine cE rfl ?_;refine cw (by kernel_rfl) ?_;refine aq (xZ dk (ae ?_));refine oS sD (oM (ak ?_));exact xI (q+1,_,_) ⟨by omega,by rw[← (Ad IB ha hcb).1];exact acH,by rw[← (Ad IB ha hcb).2];exact Rh⟩
   ·obtain rfl:q=(rows.map Sl.xs).length:=by omega
    refine ay ?_;refine ad (ad (ag (aq (xZ cZ (ae ?_)))));refine oS sD (oM (ak ?_));exact xI (k+1,_,_) ⟨by omega,by rw[← (ym jq).1];exact hN2,by rw[← (ym jq).2];exact Em⟩
  ·obtain rfl:K=k:=by omega
   obtain⟨bm,es,c,rfl,yg,hes,hg⟩:=hM
   refine ay ?_;refine ad (ad (ag (xZ bL (ah fun _ dS=>?_))));refine cR fun _ dW=>?_;refine oS sL ?_;refine oS (ab (v':=.int .i64 (((bc (rows.map Sl.xs) part K).2.length:Nat):Int)) (tP (Ek:=BZ) (es:=es) rfl aV) (by rw[hes])) ?_;refine oM ?_
   by_cases wm:(bc (rows.map Sl.xs) part K).2.length=many
   ·refine oS (ab (v':=.bool true) (bO rfl rfl) (congrArg Value.bool (decide_eq_true (by omega)))) ?_;refine oZ dW ?_;refine cT (cR fun _ ee=>?_);refine oM (oA (oZ ee (aA ?_)));refine aj (aw (aj (aw (?_))))
    refine cM (Sub.refl _) (H':=Sp) aP ?_;exact xR rfl rfl (⟨_,_,rfl,by rw[← H4,tR wm];exact hO⟩)
   ·have dV:=hR.step hK0 wm
    refine oS (ab (v':=.bool false) (bO rfl rfl) (congrArg Value.bool (decide_eq_false (by omega)))) ?_;refine oZ dW ?_;refine eL dS (cR fun _ eh=>?_);refine oS sL ?_;refine oS (ab (v':=.int .i64 (((bc (rows.map Sl.xs) part K).2.length:Nat):Int)) (tP (Ek:=BZ) (es:=es) rfl aV) (by rw[hes])) ?_;refine oA (oZ eh (ae (oM (oA (ak (aq ?_))))));exact xI (f-1,(bc (rows.map Sl.xs) part K).2.length,(bc (rows.map Sl.xs) part K).1,a32,c32,Sn) ⟨by dsimp only;omega,by dsimp only;omega,by rw[← H4,rR (by omega) wm],dV.1,hN⟩
theorem DR {α:Type}{E:α→List Value}{k T:Nat}{sls:List (Sl α)}{dO:List (List α)}{S:Hp}(h:cG E k T sls dO S):∀ {n:Nat}{s:Sl α},sls[n]?=some s →
   ∃ xs S1 Sn S2,dO[n]?=some xs∧S=S1++(Sn++S2)∧aG E k T s.v xs Sn∧∀ s' Ma Iv,aG E k T (Sl.v s') Ma Iv→cG E k T (sls.set n s') (dO.set n Ma) (S1++(Iv++S2)):=by
 induction h with
 | nil=>intro n s hs;simp at hs
 | @cons s xs sls dO S R h hs ih=>
   intro n s' hn
   cases n with
   | zero=>
     simp at hn;subst hn
     exact⟨xs,[],S,R,rfl,rfl,h,fun s' Ma Iv h'=>by simpa using cG.cons h' hs⟩
   | succ n=>
     obtain⟨Ma,S1,Sn,S2,h1,rfl,h3,h4⟩:=ih (by simpa using hn)
     exact⟨Ma,S++S1,Sn,S2,by simpa using h1,by simp,h3,fun y ys Sy hy=>by simpa using cG.cons h (h4 y ys Sy hy)⟩
def wV (sls:List (Sl Nat))(S:Hp):Prop:=cG jo 1 3 sls (sls.map Sl.xs) S
theorem wV.at {sls:List (Sl Nat)}{S:Hp}(h:wV sls S){n:Nat}{s:Sl Nat}(hs:sls[n]?=some s) :
   ∃ S1 Sn S2,S=S1++(Sn++S2)∧aG jo 1 3 s.v s.xs Sn∧∀ s' Iv,aG jo 1 3 (Sl.v s') s'.xs Iv→wV (sls.set n s') (S1++(Iv++S2)):=by
 obtain⟨xs,S1,Sn,S2,h1,h2,h3,h4⟩:=DR h hs
 rw[List.getElem?_map,hs] at h1
 obtain rfl:=(Option.some.inj h1)
 exact⟨S1,Sn,S2,h2,h3,fun s' Iv h'=>by rw[wV,List.map_set];exact h4 s' _ Iv h'⟩
theorem wV.aaC:∀ n,wV (List.replicate n ⟨none,0,[]⟩) []
 | 0=>.nil
 | n+1=>cG.cons (S:=[]) (R:=[]) (s:=⟨none,0,[]⟩) .nil (wV.aaC n)
theorem My {next:List (List Nat)}{q k c c':Nat}{Cd:List (List Nat)}(h:BN next q k c Cd)(hc:c≤c'):BN next q k c' Cd:=⟨h.len,h.mem,fun l hl=>Nat.le_trans (h.Vp l hl) hc⟩
theorem PJ {next:List (List Nat)}{q k c to:Nat}{sls:List (Sl Nat)}{row:List Nat}{s s':Sl Nat}(h:BN next q k c (sls.map Sl.xs))(hr:next[q]?=some row)(ht:row[k]?=some to)(hl:sls[to]?=some s)(hs:s'.xs=s.xs++[q]):BN next q (k+1) (c+1) ((sls.set to s').map Sl.xs):=by
 rw[List.map_set,hs]
 exact h.step hr ht (by rw[List.getElem?_map,hl];rfl)
theorem PK {α:Type}{l:List α}(h:0<l.length):∃ i x,l=i++[x]:=by
 rcases List.eq_nil_or_concat l with rfl|⟨i,x,rfl⟩
 · simp at h
 · exact⟨i,x,by simp⟩
set_option maxHeartbeats 1000000 in
theorem O9 (na:Option Addr)(nc:Nat)(rows:List (Sl Nat))(ea:Option Addr)(ec:Nat)(ends:List Bool)(K:Nat)(kH:rows.length=ends.length)(h0:0<rows.length)(wY:rows.length≤16777217)(hK0:0<K)(Wt:K≤256)(hKK:∀ s∈rows,s.xs.length=K)(hbd:∀ s∈rows,∀ v∈s.xs,v<rows.length):HL.Fn Tryz.prog 43 [.agg [.slice na rows.length nc,.slice ea ends.length ec].toArray] (fun w=>Rd cX w (.slice na rows.length nc) rows∧Rd fR w (.slice ea ends.length ec) ends∧∀ s∈rows,Rd jo w s.v s.xs) [] (fun v S'=>∃ a c lv,v = .slice a ends.length c∧aG fR 1 4 (.slice a ends.length c) lv S'∧l6 (rows.map Sl.xs) ends lv):=by
 refine aW Tryz.func43 rfl rfl rfl fun w0 hw=>?_
 have B3:=hw.2.1.sl
 have oR:=hw.1.sl
 have mH:(rows.map Sl.xs).length=ends.length:=by rw[List.length_map];exact kH
 refine cR fun _ bI=>?_;refine cB rfl rfl rfl fun b1=>?_;refine oA (oZ bI (cR fun _ bJ=>?_));refine oS sF ?_;refine oS sL ?_;refine oS sC ?_;refine lD (E:=cX) (zx:=(⟨none,0,[]⟩:Sl Nat)) (n:=ends.length) rfl rfl rfl (by omega) (by omega) rfl fun Kf Pw wU=>?_
 have agZ:=wU.sl
 rw[List.length_replicate] at agZ
 refine oA (oZ bJ (ah fun _ bK=>?_));refine cR fun _ bU=>?_;refine oS sF ?_;refine oS sL ?_;refine oS sC (oM (oZ bU (ai ?_)));refine fM (fun (q:Nat)(wk:List (Sl Nat))(Sb:Hp)(SL:Hp)=>q≤ends.length∧aG cX 1 36 (.slice (some ⟨Kf,0,none⟩) ends.length ends.length) wk Sb∧wV wk SL∧BN (rows.map Sl.xs) q 0 (q*256) (wk.map Sl.xs)) (fun (q:Nat)(wk:List (Sl Nat))(Sb:Hp)(SL:Hp)=>[(22,.int .i64 q)]) [(1,_),(2,_),(3,_),(20,_),(21,_)] (fun (q:Nat)(wk:List (Sl Nat))(Sb:Hp)(SL:Hp)=>(b1,.cells [.slice na rows.length nc,.slice ea ends.length ec].toArray 96 (0,0))::(Sb++SL)) (fun (q:Nat)(wk:List (Sl Nat))(Sb:Hp)(SL:Hp)=>ends.length-q) 0 (List.replicate ends.length ⟨none,0,[]⟩) Pw [] ⟨Nat.zero_le _,wU,wV.aaC _,by have h:=BN.zero (rows.map Sl.xs);rw[mH] at h;simpa using h⟩ aH aH aP ?_
 rintro q wk Sb SL ⟨hq,hB,hL,hK⟩
 refine cR fun _ bT=>?_;refine oS (aF rfl rfl) ?_;refine oZ bT (ah fun _ bZ=>?_);refine cx rfl (fun cH=>?_) (fun cH=>?_)
 ·obtain⟨s,hs⟩:∃ s,rows[q]?=some s:=gE
  have jr:=List.mem_of_getElem? hs
  have hsK:=hKK s jr
  have gk:=(hw.2.2 s jr).sl
  have kR:(rows.map Sl.xs)[q]?=some s.xs:=by rw[List.getElem?_map,hs];rfl
  refine ax (xZ bZ (ah fun _ cj=>?_));refine ai (cR fun _ ck=>?_);refine oM ?_;refine oS (au rfl rfl oR (by omega)) ?_;refine oS (az rfl ((cq.bj hw.1).ld q 0 hs rfl (by decide) (by omega))) ?_;refine oA (oA (oZ ck (cR fun _ cQ=>?_)));refine oM ?_;refine oS sC (oM (oZ cQ (ai ?_)));refine fM (fun (k:Nat)(wk:List (Sl Nat))(Sb:Hp)(SL:Hp)=>k≤s.xs.length∧aG cX 1 36 (.slice (some ⟨Kf,0,none⟩) ends.length ends.length) wk Sb∧wV wk SL∧BN (rows.map Sl.xs) q k (q*256+k) (wk.map Sl.xs)) (fun (k:Nat)(wk:List (Sl Nat))(Sb:Hp)(SL:Hp)=>[(29,.int .i64 k)]) [(1,_),(2,_),(3,_),(4,_),(5,_),(20,_),(21,_),(22,_),(23,_),(24,_),(25,_),(26,_),(27,_),(28,_)] (fun (k:Nat)(wk:List (Sl Nat))(Sb:Hp)(SL:Hp)=>(b1,.cells [.slice na rows.length nc,.slice ea ends.length ec].toArray 96 (0,0))::(Sb++SL)) (fun (k:Nat)(wk:List (Sl Nat))(Sb:Hp)(SL:Hp)=>s.xs.length-k) 0 wk Sb SL ⟨Nat.zero_le _,hB,hL,My hK (by omega)⟩ aH aH aP ?_
  rintro k wk Sb SL ⟨hk,hB,hL,hK⟩
  refine cR fun _ bw=>?_;refine oS (aF rfl rfl) ?_;refine oZ bw (ah fun _ bF=>?_);refine cx rfl (fun Cg=>?_) (fun Cg=>?_)
  ·obtain⟨to,kE⟩:∃ t,s.xs[k]?=some t:=gE
   have Ac:=hbd s jr to (List.mem_of_getElem? kE)
   have s3:wk.length=ends.length:=by have:=hK.len;rw[List.length_map] at this;omega
   have iC:=hB.sl
   rw[s3] at iC
   obtain⟨bs,OS⟩:∃ b,wk[to]?=some b:=gE
   have hbc:=hK.Vp bs.xs (List.mem_map.2 ⟨bs,List.mem_of_getElem? OS,rfl⟩)
   obtain⟨S1,Sn,S2,rfl,hO,q8⟩:=hL.at OS
   refine ax (xZ bF (ah fun _ bD=>?_));refine ai (cR fun _ cb=>?_);refine oS (au rfl rfl gk (by omega)) ?_;refine oS (az rfl ((cq.bj (hw.2.2 s jr)).ld k 0 kE rfl (by decide) (by simp only[Sl.v];omega))) ?_;refine oA (oZ cb (ae (oM (oM (oM (oM ?_))))));refine oS (au rfl rfl iC (by omega)) ?_;refine oS (az rfl ((hB.aU aM).ld to 0 OS rfl (by decide) (by omega))) ?_;refine oM ?_;refine ct (E:=jo) (xs:=[q]) (vs:=[_]) rfl rfl rfl rfl rfl (by decide) (by decide) fun b40 S40 ag0=>?_;refine bX hO (ag0.aU aM) rfl rfl rfl rfl (by simp only[List.length_append,List.length_singleton];omega) (by simp only[List.length_append,List.length_singleton];omega) rfl bh fun a41 c41 S41 ag1=>?_;refine oS (au rfl rfl iC (by omega)) ?_;refine dp to (⟨a41,c41,bs.xs++[q]⟩:Sl Nat) hB bh rfl rfl rfl (by omega) (by first|rfl|omega|(rw[Int.toNat_natCast,Nat.mul_one])) fun S42 Ot=>?_;refine ak (aq (xZ bD (ae ?_)));refine oS sD (oM (ak ?_));exact xI (k+1,wk.set to ⟨a41,c41,bs.xs++[q]⟩,_,_) ⟨by omega,Ot,q8 ⟨a41,c41,bs.xs++[q]⟩ S41 ag1,My (PJ (s':=⟨a41,c41,bs.xs++[q]⟩) hK kR kE OS rfl) (by omega)⟩
  ·obtain rfl:s.xs.length=k:=by omega
   refine ay ?_;refine ad (ad (ag (aq (xZ cj (ae ?_)))));refine oS sD (oM (ak ?_));exact xI (q+1,wk,Sb,SL) ⟨by omega,hB,hL,My (hK.row kR rfl) (by omega)⟩
 ·obtain rfl:q=rows.length:=by omega
  have s3:wk.length=ends.length:=by have:=hK.len;rw[List.length_map] at this;omega
  have iC:=hB.sl
  rw[s3] at iC
  refine ay ?_;refine ad (ad (ag (xZ bK (cR fun _ bL=>?_))));refine oS sF ?_;refine oS sL ?_;refine aX (F0 ea ec ends.length ends rfl (by omega)) rfl rfl rfl (by exact .nil) (fun w st=>(cq.bj hw.2.1).out w st) (fun v47 Tp ⟨Tn,To,Rz,yC⟩=>?_);subst Rz
  have ag2:=yC.sl
  refine oA (oZ bL (cR fun _ bQ=>?_));refine oA (oZ bQ (ah fun _ cO=>?_));refine cR fun _ df=>?_;refine oM ?_;refine oS sC (oM (oZ df (ai ?_)));refine lS (fun (q:Nat)(td:List Nat)(ta:Option Addr)(tc:Nat)(St:Hp)=>q≤ends.length∧td=lB ends q∧aG jo 1 3 (.slice ta td.length tc) td St) (fun (q:Nat)(td:List Nat)(ta:Option Addr)(tc:Nat)(St:Hp)=>[(9,.slice ta td.length tc),(50,.int .i64 q)]) [(2,_),(3,_),(8,_),(48,_),(49,_)] (fun (q:Nat)(td:List Nat)(ta:Option Addr)(tc:Nat)(St:Hp)=>(b1,.cells [.slice na rows.length nc,.slice ea ends.length ec].toArray 96 (0,0))::(Sb++(SL++(Tp++St)))) (fun (q:Nat)(td:List Nat)(ta:Option Addr)(tc:Nat)(St:Hp)=>ends.length-q) 0 [] none 0 [] ⟨Nat.zero_le _,rfl,aG.nil⟩ aH aH aP ?_
  rintro q td ta tc St ⟨hq,htd,hT⟩
  refine cR fun _ cZ=>?_;refine oS (aF rfl rfl) ?_;refine oZ cZ (ah fun _ dq=>?_);refine cx rfl (fun ag3=>?_) (fun ag3=>?_)
  ·obtain⟨e,heq⟩:∃ e,ends[q]?=some e:=gE
   have ag4:=HV ends q
   rw[← htd] at ag4
   refine ax (xZ dq (ah fun _ dG=>?_));refine ai (cR fun _ eb=>?_);refine oM ?_;refine oS (au rfl rfl ag2 (by omega)) ?_;refine oS (az rfl ((yC.aU aM).ld q 0 heq rfl (by decide) (by omega))) ?_;refine oA (oA (oZ eb (cR fun _ dL=>?_)));refine oM (oZ dL ?_);refine km rfl (fun he=>?_) (fun he=>?_)
   ·subst he;refine ae (oM (oM ?_));refine ct (E:=jo) (xs:=[q]) (vs:=[_]) rfl rfl rfl rfl rfl (by decide) (by decide) fun b58 S58 ag5=>?_;refine bX hT (ag5.aU aM) rfl rfl rfl rfl (by simp only[List.length_append,List.length_singleton];omega) (by simp only[List.length_append,List.length_singleton];omega) rfl bh fun a59 c59 Qh GI=>?_;refine oA (ak (aq (xZ dG (ae ?_))));refine oS sD (oM (ak ?_));exact xI (q+1,td++[q],a59,c59,Qh) ⟨by omega,by rw[yf heq,htd],GI⟩
   ·subst he;refine ax (aq (xZ dG (ae ?_)));refine oS sD (oM (ak ?_));exact xI (q+1,td,ta,tc,St) ⟨by omega,by rw[BO heq,htd],hT⟩
  ·obtain rfl:q=ends.length:=by omega
   refine ay ?_;refine ad (ad (ag (xZ cO (ah fun _ dR=>?_))));refine ai ?_;refine jY (fun (lv:List Bool)(todo:List Nat)(Sv:Hp)(ta:Option Addr)(tc:Nat)(St:Hp)=>Ce (rows.map Sl.xs) ends lv todo none∧aG fR 1 4 (.slice Tn ends.length To) lv Sv∧aG jo 1 3 (.slice ta todo.length tc) todo St∧2*dead lv+todo.length≤2*ends.length) (fun (lv:List Bool)(todo:List Nat)(Sv:Hp)(ta:Option Addr)(tc:Nat)(St:Hp)=>[(9,.slice ta todo.length tc)]) [(2,_),(3,_),(8,_)] (fun (lv:List Bool)(todo:List Nat)(Sv:Hp)(ta:Option Addr)(tc:Nat)(St:Hp)=>(b1,.cells [.slice na rows.length nc,.slice ea ends.length ec].toArray 96 (0,0))::(Sb++(SL++(Sv++St)))) (fun (lv:List Bool)(todo:List Nat)(Sv:Hp)(ta:Option Addr)(tc:Nat)(St:Hp)=>2*dead lv+todo.length) ends td Tp ta tc St ⟨by rw[htd];exact Ce.init (by omega),yC,hT,by have:=HW ends;rw[← htd] at this;omega⟩ aH aH aP ?_
   rintro lv todo Sv ta tc St ⟨hI,hV,hT,hm⟩
   have QU:=hI.len
   have zM:=hV.sl
   have dV:=hT.sl
   rw[show lv.length=ends.length by omega] at zM
   refine ah fun _ dk=>?_;refine cR fun _ dE=>?_;refine oM ?_;refine oS sC ?_
   by_cases pI:(todo.length:Int)>0
   ·obtain⟨PL,q,rfl⟩:=PK (l:=todo) (by omega)
    have B4:(PL++[q]).length=PL.length+1:=by simp
    have hqv:=hI.Q3 q (by simp)
    have Fk:=(List.getElem?_eq_some_iff.1 hqv).1
    obtain⟨bq,hbq⟩:∃ b,wk[q]?=some b:=gE
    obtain⟨S1,Sn,S2,hSL,hO,_⟩:=hL.at hbq
    have Wv:=hO.sl
    have hbo:=Wv.le
    have hTp:=hT.pre PL.length (by omega)
    rw[List.take_left] at hTp
    refine oS (ab (v':=.bool true) (eX rfl rfl) (congrArg Value.bool (decide_eq_true pI))) ?_;refine oZ dE ?_;refine gp dk (ai (cR fun _ dS=>?_));refine oM (oM ?_);refine oS sC ?_;refine oS sU ?_;refine oS (au rfl rfl dV (by omega)) ?_;refine oS (az rfl ((hT.aU aM).ld PL.length 0 (show (PL++[q])[PL.length]?=some q by simp) rfl (by decide) (by omega))) ?_;refine oA (oZ dS (cR fun _ dW=>?_));refine oM (oM ?_);refine oS sC ?_;refine oS sU ?_
    refine oS (ab (v':=.slice ta PL.length tc) (l9 rfl rfl (by have:=dV.cap;omega)) (by congr 1;omega)) ?_;refine oA (oZ dW (cR fun _ ee=>?_));refine oM (oM ?_);refine oS (au rfl rfl iC (by omega)) ?_;refine oS (az rfl ((hB.aU aM).ld q 0 hbq rfl (by decide) (by omega))) ?_;refine oS sC (oM (oZ ee (ai ?_)));refine lL (fun (j:Nat)(Aa:List Bool)(mD:List Nat)(Q4:Hp)(Q5:Option Addr)(Q6:Nat)(Q7:Hp)=>j≤bq.xs.length∧Ce (rows.map Sl.xs) ends Aa mD (some q)∧Aa[q]?=some true∧(∀ i,i<j→∀ p,bq.xs[i]?=some p→Aa[p]?=some true)∧aG fR 1 4 (.slice Tn ends.length To) Aa Q4∧aG jo 1 3 (.slice Q5 mD.length Q6) mD Q7∧2*dead Aa+mD.length<2*dead lv+(PL.length+1)) (fun (j:Nat)(Aa:List Bool)(mD:List Nat)(Q4:Hp)(Q5:Option Addr)(Q6:Nat)(Q7:Hp)=>[(9,.slice Q5 mD.length Q6),(80,.int .i64 j)]) [(2,_),(3,_),(8,_),(12,_),(61,_),(62,_),(63,_),(64,_),(65,_),(66,_),(67,_),(68,_),(69,_),(70,_),(71,_),(72,_),(73,_),(74,_),(75,_),(76,_),(77,_),(78,_),(79,_)] (fun (j:Nat)(Aa:List Bool)(mD:List Nat)(Q4:Hp)(Q5:Option Addr)(Q6:Nat)(Q7:Hp)=>(b1,.cells [.slice na rows.length nc,.slice ea ends.length ec].toArray 96 (0,0))::(Sb++(SL++(Q4++Q7)))) (fun (j:Nat)(Aa:List Bool)(mD:List Nat)(Q4:Hp)(Q5:Option Addr)(Q6:Nat)(Q7:Hp)=>bq.xs.length-j) 0 lv PL Sv ta tc St ⟨Nat.zero_le _,hI.pop,hqv,fun i hi=>by omega,hV,hTp,by omega⟩ aH aH aP ?_
    rintro j Aa mD Q4 Q5 Q6 Q7 ⟨hj,hI2,Vq,Vr,hV2,hT2,EU⟩
    have aqg:=hI2.len
    have Vs:=hV2.sl
    rw[show Aa.length=ends.length by omega] at Vs
    refine cR fun _ eh=>?_;refine oS (aF rfl rfl) ?_;refine oZ eh (ah fun _ eD=>?_);refine cx rfl (fun Qk=>?_) (fun Qk=>?_)
    ·obtain⟨p,hjp⟩:∃ p,bq.xs[j]?=some p:=gE
     have hpe:=(hK.done (by omega) (by rw[List.getElem?_map,hbq];rfl) p).1 (List.mem_of_getElem? hjp)
     have qH:p<ends.length:=by obtain⟨row,hr,_⟩:=hpe;have:=(List.getElem?_eq_some_iff.1 hr).1;omega
     obtain⟨e,Wp⟩:∃ e,Aa[p]?=some e:=gE
     have hd2:=PN Aa
     refine ax (xZ eD (ah fun _ dN=>?_));refine ai (cR fun _ e6=>?_);refine oS (au rfl rfl Wv (by omega)) ?_;refine oS (az rfl ((hO.aU (by rw[hSL];exact aM)).ld j 0 hjp rfl (by decide) (by simp only[Sl.v];omega))) ?_;refine oA (oZ e6 (cR fun _ du=>?_));refine oM (oM ?_);refine oS (au rfl rfl Vs (by omega)) ?_;refine oS (az rfl ((hV2.aU aM).ld p 0 Wp rfl (by decide) (by omega))) ?_;refine oS (aT rfl) ?_;refine oZ du ?_;refine km rfl (fun he=>?_) (fun he=>?_)
     ·obtain rfl:e=false:=by cases e <;> first|rfl|cases he
      refine cR fun _ fF=>?_;refine oM (oM ?_);refine oS (au rfl rfl Vs (by omega)) ?_;refine dp p true hV2 bh rfl rfl rfl (by omega) (by first|rfl|omega|(rw[Int.toNat_natCast,Nat.mul_one])) fun S91 Vi=>?_;refine oZ fF (ae (oM (oM ?_)));refine ct (E:=jo) (xs:=[p]) (vs:=[_]) rfl rfl rfl rfl rfl (by decide) (by decide) fun b94 S94 UA=>?_;refine bX hT2 (UA.aU aM) rfl rfl rfl rfl (by simp only[List.length_append,List.length_singleton];omega) (by simp only[List.length_append,List.length_singleton];omega) rfl bh fun a95 c95 S95 Mq=>?_;refine oA (ak (aq (xZ dN (ae ?_))));refine oS sD (oM (ak ?_));exact xI (j+1,Aa.set p true,mD++[p],S91,a95,c95,S95) ⟨by omega,hI2.push Vq hpe Wp,(mm Wp q).2 (.inr Vq),fun i hi p' KI=>(mm Wp p').2 (by rcases Nat.lt_or_ge i j with h|h;(· exact .inr (Vr i h p' KI));(· rw[show i=j by omega,hjp] at KI;exact .inl (Option.some.inj KI).symm)),Vi,Mq,by have:=vI Wp;simp only[List.length_append,List.length_singleton];omega⟩
     ·obtain rfl:e=true:=by cases e <;> first|rfl|cases he
      refine ax (aq (xZ dN (ae ?_)));refine oS sD (oM (ak ?_));exact xI (j+1,Aa,mD,Q4,Q5,Q6,Q7) ⟨by omega,hI2,Vq,fun i hi p' KI=>(by rcases Nat.lt_or_ge i j with h|h;(· exact Vr i h p' KI);(· rw[show i=j by omega,hjp] at KI;rw[← Option.some.inj KI];exact Wp)),hV2,hT2,EU⟩
    ·obtain rfl:j=bq.xs.length:=by omega
     refine ay ?_;refine ad (ad (ag (aq ?_)));exact xI (Aa,mD,Q4,Q5,Q6,Q7) ⟨hI2.close (fun p hp=>by obtain⟨i,hi⟩:=List.getElem?_of_mem ((hK.done (by omega) (by rw[List.getElem?_map,hbq];rfl) p).2 hp);exact Vr i (List.getElem?_eq_some_iff.1 hi).1 p hi),hV2,hT2,by dsimp only;omega⟩
   ·have Wn:todo = []:=List.eq_nil_of_length_eq_zero (by omega)
    subst Wn;refine oS (ab (v':=.bool false) (eX rfl rfl) (congrArg Value.bool (decide_eq_false pI))) ?_;refine oZ dE ?_;refine cF ?_;refine ay ?_;refine ad (ad (ag (xZ dR (cR fun _ fx=>?_))));refine oM (oA (oZ fx (aA ?_)));refine ?_;refine cM (Sub.refl _) (H':=Sv) aP ?_;exact xR rfl rfl (⟨_,_,lv,rfl,hV,hI.done⟩)
end Go.Proofs.YtmompllplidphaaGreatDoor
namespace Go.HL.Kl
open Go Go.HL
def mt (c a:Cl):Bool:=decide (c &&& a=0#256)
def orA (l:List Cl):Cl:=l.foldl (fun c a=>c ||| a) 0
theorem FT (l:List Cl)(x:Nat):(orA l).getLsbD x=l.any (fun a=>a.getLsbD x):=by
 have key:∀ (l:List Cl)(c:Cl),(l.foldl (fun c a=>c ||| a) c).getLsbD x=(c.getLsbD x||l.any (fun a=>a.getLsbD x)):=by
   intro l
   induction l with
   | nil=>intro c;simp
   | cons a l ih=>intro c;rw[List.foldl_cons,ih,BitVec.getLsbD_or,List.any_cons,Bool.or_assoc]
 have:=key l 0
 simpa [orA] using this
theorem BT {a b:Cl}(h:∀ x,x<256→a.getLsbD x=true→b.getLsbD x=true→False):a &&& b=0#256:=by
 apply jc
 intro x hx
 rw[BitVec.getLsbD_and]
 cases ha:a.getLsbD x <;> cases hb:b.getLsbD x <;> simp
 exact h x hx ha hb
theorem qF {a b:Cl}(h:a &&& b=0#256){x:Nat}(ha:a.getLsbD x=true)(hb:b.getLsbD x=true):False:=by
 have:=congrArg (fun c=>BitVec.getLsbD c x) h
 simp only[BitVec.getLsbD_and,ha,hb,Bool.and_self,BitVec.getLsbD_zero] at this
 cases this
theorem yd (l:List Cl):orA (atoms l)=Gz 0 255:=by
 apply jc
 intro x hx
 rw[FT,nG hx]
 obtain⟨a,ha,FL⟩:=(lu l).all x hx
 exact List.any_eq_true.2 ⟨a,ha,FL⟩
theorem SX {l:List Cl}{c a:Cl}(hc:c∈l)(ha:a∈atoms l){x:Nat}(hx:a.getLsbD x=true):mt c a = !c.getLsbD x:=by
 have wF:=iz hx
 cases hcx:c.getLsbD x
 · refine decide_eq_true (BT fun y hy h1 h2=>?_)
   rw[(lu l).eq a ha x hx,ki l x hy] at h2
   have:=List.all_eq_true.1 h2 c hc
   simp[hcx,h1] at this
 · exact decide_eq_false fun h=>qF h hcx hx
def orM (c:Cl)(l:List Cl):Cl:=orA (l.filter fun a=>!mt c a)
end Go.HL.Kl
