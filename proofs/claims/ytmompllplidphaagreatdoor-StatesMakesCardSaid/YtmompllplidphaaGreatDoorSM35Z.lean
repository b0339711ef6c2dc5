/- Part of the proofs over this seat: see the text that holds the theorem. Conditions: each theorem bears its own. -/
import Derived.Test.YtmompllplidphaaGreatDoorSM31Z
import Derived.Test.YtmompllplidphaaGreatDoorGB10Z
import Derived.Test.YtmompllplidphaaGreatDoorHlB
import Derived.Test.YtmompllplidphaaGreatDoorGSW2Z
import Derived.Test.YtmompllplidphaaGreatDoorHTZ
import Derived.Test.YtmompllplidphaaGreatDoorMT26Z
import Derived.Test.YtmompllplidphaaGreatDoorGB1Z
import Derived.Test.YtmompllplidphaaGreatDoorGSN1Z
import Derived.Test.YtmompllplidphaaGreatDoorGB6Z
import Derived.Test.YtmompllplidphaaGreatDoorSM1Z
import Derived.Test.YtmompllplidphaaGreatDoorGSW10Z
import Derived.Test.YtmompllplidphaaGreatDoorGSW14Z
namespace Go.HL.cm
open Go Go.HL Go.HL.Kl Go.HL.Kl.Mc
structure xV (next:List (List Nat))(ends:List Bool)(K:Nat)(L0 L:List Bool)(q k:Nat)(mo:Bool):Prop where
 len:L.length=next.length
 ge:∀ x:Nat,ends[x]?=some true→L[x]?=some true
 snd:∀ x:Nat,L[x]?=some true→Live next ends x
 no:mo=false→L=L0∧(∀ p,p<q→∀ k,k<K→L[nx next p k]?=some true→L[p]?=some true)∧∀ j,j<k→L[nx next q j]?=some true→L[q]?=some true
 yes:mo=true→dead L<dead L0
 le:dead L≤dead L0
section
variable {next:List (List Nat)}{ends:List Bool}{K:Nat}{L0 L:List Bool}{q k:Nat}{mo:Bool}
theorem xV.init (h:ends.length=next.length):xV next ends K ends ends 0 0 false:=⟨h,fun _ h=>h,fun _ h=>.ends h,fun _=>⟨rfl,fun p h=>(by omega),fun j h=>(by omega)⟩,fun h=>(by cases h),Nat.le_refl _⟩
theorem xV.again (h:xV next ends K L0 L q k mo):xV next ends K L L 0 0 false:=⟨h.len,h.ge,h.snd,fun _=>⟨rfl,fun p h=>(by omega),fun j h=>(by omega)⟩,fun h=>(by cases h),Nat.le_refl _⟩
theorem xV.skip (h:xV next ends K L0 L q k mo)(hx:L[nx next q k]?=some false):xV next ends K L0 L q (k+1) mo:=⟨h.len,h.ge,h.snd,fun hm=>⟨(h.no hm).1,(h.no hm).2.1,fun j hj hL=>by
 rcases Nat.lt_or_ge j k with Uo|Uo
 · exact (h.no hm).2.2 j Uo hL
 · obtain rfl:j=k:=by omega
   rw[hx] at hL;cases hL⟩,h.yes,h.le⟩
theorem xV.set (hw:nW next ends K)(h:xV next ends K L0 L q k mo)(hq:q<next.length)(hk:k<K)(hL:L[q]?=some false)(hx:L[nx next q k]?=some true):xV next ends K L0 (L.set q true) q (k+1) true:=by
 have hg:∀ x,(L.set q true)[x]?=some true↔x=q∨L[x]?=some true:=mm hL
 have hd:=vI hL
 obtain⟨row,g1,g2,_⟩:=hw.get hq hk
 refine⟨by simp[h.len],fun x hx=>(hg x).2 (.inr (h.ge x hx)),fun x wF=>?_,fun h=>(by cases h),fun _=>(by have:=h.le;omega),by have:=h.le;omega⟩
 rcases (hg x).1 wF with rfl|wF
 · exact .step g1 (List.mem_of_getElem? g2) (h.snd _ hx)
 · exact h.snd x wF
theorem xV.row (h:xV next ends K L0 L q k mo)(hk:K≤k∨L[q]?=some true):xV next ends K L0 L (q+1) 0 mo:=⟨h.len,h.ge,h.snd,fun hm=>⟨(h.no hm).1,fun p hp j hj hL=>by
 rcases Nat.lt_or_ge p q with FJ|FJ
 · exact (h.no hm).2.1 p FJ j hj hL
 · obtain rfl:p=q:=by omega
   rcases hk with hk|hk
   · exact (h.no hm).2.2 j (by omega) hL
   · exact hk,fun j h=>by omega⟩,h.yes,h.le⟩
theorem xV.done (hw:nW next ends K)(h:xV next ends K L0 L q 0 false)(hq:next.length≤q):l6 next ends L:=by
 refine⟨h.len,fun x=>⟨h.snd x,fun hx=>?_⟩⟩
 induction hx with
 | ends he=>exact h.ge _ he
 | @step x to row hr hm _ ih=>
   have mH:=(List.getElem?_eq_some_iff.1 hr).1
   obtain⟨j,hj⟩:=List.getElem?_of_mem hm
   have hjK:j<K:=by rw[← hw.rows _ (List.mem_of_getElem? hr)];exact (List.getElem?_eq_some_iff.1 hj).1
   have e:nx next x j=to:=by unfold nx;rw[hr,Option.getD_some,hj];rfl
   exact (h.no rfl).2.1 x (by omega) j hjK (by rw[e];exact ih)
end
def lT (w:Wd)(P:List Nat)(lv:List Bool):Nat→Lm
 | 0=>⟨[0],[],[]⟩
 | i+1=>gH w P lv i (lT w P lv i)
structure Jt (w:Wd)(P:List Nat)(K i:Nat)(m:Lm):Prop where
 ln:m.next.length=i
 le:m.ends.length=i
 im:i≤m.met.length
 yI:∀ x∈m.met,x<w.next.length
 nd:(m.met.map (pt P)).Nodup
 pos:0<m.met.length
section
variable {w:Wd}{P:List Nat}{lv:List Bool}{K i q:Nat}{m:Lm}
theorem Jt.zero (h:0<w.next.length):Jt w P K 0 ⟨[0],[],[]⟩:=⟨rfl,rfl,Nat.zero_le _,fun x hx=>by rw[List.mem_singleton.1 hx];exact h,by simp,by simp⟩
theorem Jt.row (hw:nW w.next w.ends K)(Cb:lv.length=w.next.length)(h:Jt w P K i m){q:Nat}(hq:q<w.next.length){r:List Nat}(hr:w.next[q]?=some r)(k:Nat):((cz P lv (r.take k) m.met).2.map (pt P)).Nodup∧∀ x∈(cz P lv (r.take k) m.met).2,x<w.next.length:=by
 have ZL:=hw.yI _ (List.mem_of_getElem? hr)
 obtain⟨h4,⟨t,ht,cH⟩,_⟩:=oI (P:=P) (lv:=lv) (r.take k) m.met (fun v hv=>by rw[Cb];exact ZL v (List.mem_of_mem_take hv)) h.nd
 refine⟨h4,fun x hx=>?_⟩
 rw[ht] at hx
 rcases List.mem_append.1 hx with hx|hx
 · exact h.yI x hx
 · exact ZL x (List.mem_of_mem_take (cH x hx).2)
theorem Jt.step (hw:nW w.next w.ends K)(Cb:lv.length=w.next.length)(h:Jt w P K i m)(hi:i<m.met.length):Jt w P K (i+1) (gH w P lv i m):=by
 obtain⟨s,hs⟩:∃ s,m.met[i]?=some s:=⟨_,List.getElem?_eq_getElem hi⟩
 have oR:=h.yI s (List.mem_of_getElem? hs)
 have hr:w.next[s]?=some w.next[s]:=List.getElem?_eq_getElem oR
 have he:w.ends[s]?=some (w.ends[s]'(by have:=hw.len;omega)):=List.getElem?_eq_getElem _
 have hm:=l5 P lv w.next[s] m.met
 obtain⟨g1,g2⟩:=h.row hw Cb oR hr w.next[s].length
 rw[List.take_length] at g1 g2
 rw[ns hs hr he]
 exact⟨by simp[h.ln],by simp[h.le],by dsimp only;omega,g2,g1,by dsimp only;have:=h.pos;omega⟩
theorem lU {α β:Type}{f:α→β}:∀ {l:List α},(l.map f).Nodup→l.Nodup
 | [],_=>.nil
 | x::l,h=>by
   rw[List.map_cons,List.nodup_cons] at h
   rw[List.nodup_cons]
   exact⟨fun hx=>h.1 (List.mem_map.2 ⟨x,hx,rfl⟩),lU h.2⟩
theorem Jt.many (h:Jt w P K i m):m.met.length≤w.next.length:=fJ (lU h.nd) h.yI
theorem LC (hq:(lT w P lv q).met.length≤q):∀ (f i:Nat),i≤q→q≤i+f→(∀ j,j<q→j<(lT w P lv j).met.length)→ix w P lv f i (lT w P lv i)=lT w P lv q
 | 0,i,h1,h2,_=>by
   have e:i=q:=by omega
   rw[e];rfl
 | f+1,i,h1,h2,hj=>by
   unfold ix
   rcases Nat.lt_or_ge i q with h|h
   · rw[if_pos (hj i h)]
     exact LC hq f (i+1) h (by omega) hj
   · obtain rfl:i=q:=by omega
     rw[if_neg (by omega)]
end
def B5 (re:List Nd):List Nat:=(atoms (bB re)).map ek
structure RfM (re:List Nd)(n:Nd)(ks:F)(m:Lm):Prop where
 ex:∃ (W:Wd)(P:List Nat)(lv:List Bool)(q:Nat),nW W.next W.ends (B5 re).length∧C3 W.next W.ends (B5 re).length P∧l6 W.next W.ends lv∧m=lT W P lv q∧m.met.length≤q∧(∀ j,j<q→j<(lT W P lv j).met.length) ∧
   ∀ t:List Nat,(∀ k∈t,k<(B5 re).length)→(jB W.next W.ends 0 t=true↔fw (t.map fun k=>UInt8.ofNat ((B5 re)[k]?.getD 0)) n ks 0 t.length)
theorem vJ {l:List Kl.Cl}(ha:MZ l)(h:∀ a∈l,a≠0):∀ (t:List Nat),(∀ k∈t,k<l.length)→uR l (t.map fun k=>UInt8.ofNat ((l.map ek)[k]?.getD 0))=t
 | [],_=>rfl
 | k::t,ht=>by
   have ih:=vJ ha h t fun x hx=>ht x (List.mem_cons_of_mem _ hx)
   unfold uR at ih ⊢
   rw[List.map_cons,List.map_cons,ih]
   congr 1
   have hk:=ht k List.mem_cons_self
   have cH:=rJ l[k]
   have e:(l.map ek)[k]?.getD 0=ek l[k]:=by rw[List.getElem?_map,List.getElem?_eq_getElem hk];rfl
   have e2:(UInt8.ofNat (ek l[k])).toNat=ek l[k]:=by simp[UInt8.toNat_ofNat'];omega
   rw[e,e2]
   obtain⟨hf,hb⟩:=ha.fst cH
   have dM:=h _ (List.getElem_mem hk)
   have Ih:=(et dM).1
   rw[← rI dM] at Ih
   exact ha.uniq cH hf hk hb Ih
theorem LD {re:List Nd}{n:Nd}{ks:F}{m:Lm}{lv:List Bool}(hS:Mc.iR re n ks)(iC:bz re=true)(hr:ez re=false)(hw:(F.nd n ks .nil).weight≤20)(hM:RfM re n ks m)(hl:l6 (jx re n ks).next (jx re n ks).ends lv) :
   (∀ m',zL re n ks lv=some m'→m.next=m'.next∧m.ends=m'.ends∧m.met.length≤256)∧(zL re n ks lv=none→256<m.met.length):=by
 obtain⟨W,P,Aa,q,h1,h2,h3,h4,h5,h6,h7⟩:=hM.ex
 have hK:(B5 re).length=(atoms (bB re)).length:=by simp[B5]
 have UL:=CF re n ks
 rw[hK] at h1 h2 h7
 have Oe:=qY (bB re)
 have hp:=CV UL
 have H4:=E9 UL hp.1 hp.2
 have hL:=TK UL h1 H4 h2 hl h3
 have afQ:∀ t,(∀ k∈t,k<(atoms (bB re)).length)→jB (jx re n ks).next (jx re n ks).ends 0 t=jB W.next W.ends 0 t:=by
   intro t ht
   have e1:=JO hS (JN hS iC hr) hw (t.map fun k=>UInt8.ofNat ((B5 re)[k]?.getD 0))
   have e2:uR (atoms (bB re)) (t.map fun k=>UInt8.ofNat ((B5 re)[k]?.getD 0))=t:=vJ Oe Oe.ne t ht
   rw[e2,List.length_map,← h7 t ht] at e1
   cases c1:jB (jx re n ks).next (jx re n ks).ends 0 t <;> cases c2:jB W.next W.ends 0 t <;> simp_all
 obtain⟨f,hf⟩:∃ f,f=258+q:=⟨_,rfl⟩
 have hU:=LC (w:=W) (P:=P) (lv:=Aa) (q:=q) (by rw[← h4];exact h5) f 0 (Nat.zero_le _) (by omega) h6
 rw[← h4] at hU
 have ic:=hL.run f 0 (a:=⟨[0],[],[]⟩) (b:=⟨[0],[],[]⟩) ⟨.cons ⟨UL.pos,h1.pos,afQ⟩ .nil,rfl,rfl⟩
 have hU:ix W P Aa f 0 ⟨[0],[],[]⟩=m:=hU
 rw[hU] at ic
 refine⟨fun m' hm=>?_,fun hm=>?_⟩
 · have hm:gJ (jx re n ks) (gZ (jx re n ks).next (jx re n ks).ends (atoms (bB re)).length) lv 258 0 ⟨[0],[],[]⟩=some m':=hm
   have e:=Fv 258 f 0 _ m' hm (by omega)
   rw[e] at ic
   have h6:=(EK UL hl.1 hm).i6
   have:=ic.1.len
   exact⟨ic.2.1.symm,ic.2.2.symm,by omega⟩
 · have hm:gJ (jx re n ks) (gZ (jx re n ks).next (jx re n ks).ends (atoms (bB re)).length) lv 258 0 ⟨[0],[],[]⟩=none:=hm
   have e:=vl 258 f 0 _ (by rw[Nat.zero_add]) (by omega) hm (by omega)
   have:=ic.1.len
   omega
end Go.HL.cm
namespace Go.HL.cm
open Go Go.HL Go.HL.Kl Go.HL.Kl.Mc
def mw (p:Pp):List Value:=[.int .i64 (p.1:Nat),.int .i64 (p.2:Nat)]
instance:eB mw 2:=⟨fun _=>rfl,fun x v h=>by simp[mw] at h;rcases h with rfl|rfl <;> rfl⟩
theorem Mb (x y:Pp):(!(((x.1:Int)==(y.1:Int))&&(((x.2:Int)==(y.2:Int))&&true)))=decide (x≠y):=by
 obtain⟨a,b⟩:=x
 obtain⟨c,d⟩:=y
 by_cases h1:a=c
 · subst h1
   by_cases h2:b=d
   · subst h2;simp
   · have:((b:Int)==(d:Int))=false:=by rw[beq_eq_false_iff_ne];omega
     simp[this,h2]
 · have:((a:Int)==(c:Int))=false:=by rw[beq_eq_false_iff_ne];omega
   simp[this,h1]
def vR (rows:List (Sl Pp))(t:Sl Pp):List (Sl Pp):=if t.xs∈rows.map Sl.xs then rows else rows++[t]
theorem PR (rows:List (Sl Pp))(t:Sl Pp):(vR rows t).map Sl.xs=dD (rows.map Sl.xs) t.xs:=by
 unfold vR dD
 by_cases h:t.xs∈rows.map Sl.xs
 · rw[if_pos h,if_pos h]
 · rw[if_neg h,if_neg h];simp
theorem A9 {rows:List (Sl Pp)}{t:Sl Pp}(h:t.xs∈rows.map Sl.xs):vR rows t=rows:=if_pos h
theorem vp {rows:List (Sl Pp)}{t:Sl Pp}(h:t.xs∉rows.map Sl.xs):vR rows t=rows++[t]:=if_neg h
structure vn (s:Sl Pp)(iQ:Hp):Prop where
 rd:lG mw s.v s.xs iQ
 sl:eA s.v s.xs.length
theorem vn.mono {s:Sl Pp}{P P':Hp}(h:vn s P)(hs:c4 P P'):vn s P':=⟨h.rd.mono hs,h.sl⟩
theorem vn.tl {a:Option Addr}{c:Nat}{p:Pp}{u:cN}{P:Hp}(h:vn ⟨a,c,p::u⟩ P):vn ⟨eu a c 1 2,c-1,u⟩ P:=⟨lG.tl (he:=inferInstanceAs (eB mw 2)) h.rd,eA.tl h.sl⟩
theorem vn.own {a:Option Addr}{c T k:Nat} [eB mw k]{u:cN}{P:Hp}(h:aG mw k T (.slice a u.length c) u P):vn ⟨a,c,u⟩ P:=⟨h.rds,h.sl⟩
def nR (iQ:Hp)(rows:List (Sl Pp)):Prop:=∀ s∈rows,vn s iQ
theorem nR.mono {P P':Hp}{rows:List (Sl Pp)}(h:nR P rows)(hs:c4 P P'):nR P' rows:=fun s hm=>(h s hm).mono hs
theorem nR.add {P:Hp}{rows:List (Sl Pp)}{t:Sl Pp}(h:nR P rows)(ht:vn t P):nR P (vR rows t):=fun s hm=>by
 unfold vR at hm
 split at hm
 · exact h s hm
 · rcases List.mem_append.1 hm with hm|hm
   · exact h s hm
   · rw[List.mem_singleton.1 hm];exact ht
def DG (a b:List cN):Bool:=a.all fun t=>decide (t∈b)
def V9 (re:List Nd)(rows:List (Sl Pp)):List (Sl Pp):=rows.filter fun s=>nP re s.xs
structure Oc where
 sa:Option Addr
 sc:Nat
 rows:List (Sl Pp)
 Ss:Hp
 oa:Option Addr
 oc:Nat
 fW:List (Sl Pp)
 So:Hp
 dn:Bool
 Pl:Hp
 ys:List cN
structure vm (re:List Nd)(n:Nd)(ks:F)(sa:Option Addr)(sc:Nat)(rows:List (Sl Pp))(Ss:Hp)(oa:Option Addr)(oc:Nat)(fW:List (Sl Pp))(So:Hp)(dn:Bool)(Pl:Hp):Prop where
 nd:(rows.map Sl.xs).Nodup
 rs:nR Pl rows
 iu:∀ s∈rows,sQ n ks s.xs
 os:aG cX 1 140 (.slice sa rows.length sc) rows Ss
 oo:aG cX 1 140 (.slice oa fW.length oc) fW So
 oe:fW=V9 re rows
 de:dn=decide (([]:cN)∈rows.map Sl.xs)
def fD (bs bo bd:Nat)(sa:Option Addr)(sc:Nat)(rows:List (Sl Pp))(Ss:Hp)(oa:Option Addr)(oc:Nat)(fW:List (Sl Pp))(So:Hp)(dn:Bool)(Pl:Hp):Hp:=
 (bs,.cells [.slice sa rows.length sc].toArray 142 (0,0))::(bo,.cells [.slice oa fW.length oc].toArray 142 (0,0))::(bd,.cells [.bool dn].toArray 4 (0,0))::(Ss++(So++Pl))
def Yk (re:List Nd)(n:Nd)(ks:F)(st en:Bool)(t:cN)(bs bo bd:Nat)(l0:List cN)(iQ S':Hp):Prop:=
 ∃ (sa:Option Addr)(sc:Nat)(rows:List (Sl Pp))(Ss:Hp)(oa:Option Addr)(oc:Nat)(fW:List (Sl Pp))(So:Hp)(dn:Bool)(Pn:Hp),S'=fD bs bo bd sa sc rows Ss oa oc fW So dn (iQ++Pn)∧vm re n ks sa sc rows Ss oa oc fW So dn (iQ++Pn)∧zf re (st=true) (en=true) t l0 (rows.map Sl.xs)
section
variable {re:List Nd}{n:Nd}{ks:F}{st en:Bool}{t:cN}{bs bo bd:Nat}{l0:List cN}{iQ Pl Pn S':Hp}{sa oa:Option Addr}{sc oc:Nat}{rows fW:List (Sl Pp)}{Ss So:Hp}{dn:Bool}
theorem Hq (hz:vm re n ks sa sc rows Ss oa oc fW So dn iQ)(hp:zf re (st=true) (en=true) t l0 (rows.map Sl.xs)):Yk re n ks st en t bs bo bd l0 iQ (fD bs bo bd sa sc rows Ss oa oc fW So dn iQ):=
 ⟨sa,sc,rows,Ss,oa,oc,fW,So,dn,[],by rw[List.append_nil],by rw[List.append_nil];exact hz,hp⟩
theorem TX (hz:vm re n ks sa sc rows Ss oa oc fW So dn (iQ++Pn))(hp:zf re (st=true) (en=true) t l0 (rows.map Sl.xs)):Yk re n ks st en t bs bo bd l0 iQ (fD bs bo bd sa sc rows Ss oa oc fW So dn (iQ++Pn)):=
 ⟨sa,sc,rows,Ss,oa,oc,fW,So,dn,Pn,rfl,hz,hp⟩
theorem Hu (he:Pl=iQ++Pn)(hz:vm re n ks sa sc rows Ss oa oc fW So dn Pl)(hp:zf re (st=true) (en=true) t l0 (rows.map Sl.xs)):Yk re n ks st en t bs bo bd l0 iQ (fD bs bo bd sa sc rows Ss oa oc fW So dn Pl):=by
 subst he;exact TX hz hp
theorem Po (re:List Nd)(rows:List (Sl Pp))(s:Sl Pp):V9 re (rows++[s])=V9 re rows++(if nP re s.xs=true then [s] else []):=by
 unfold V9
 rw[List.filter_append]
 by_cases h:nP re s.xs=true <;> simp[h]
theorem vq (rows:List (Sl Pp))(s:Sl Pp):(rows++[s]).map Sl.xs=rows.map Sl.xs++[s.xs]:=by simp
theorem vm.add (hz:vm re n ks sa sc rows Ss oa oc fW So dn Pl){s:Sl Pp}(mq:s.xs∉rows.map Sl.xs)(hr:vn s Pl)(hu:sQ n ks s.xs){sa' FD:Option Addr}{sc' FE:Nat}{Ss' Bk:Hp}{Pr:List (Sl Pp)}{dn':Bool}(hs:aG cX 1 140 (.slice sa' (rows++[s]).length sc') (rows++[s]) Ss')(ho:aG cX 1 140 (.slice FD Pr.length FE) Pr Bk)(he:Pr=fW++(if nP re s.xs=true then [s] else []))(hd:dn'=(dn||decide (s.xs = []))) :
   vm re n ks sa' sc' (rows++[s]) Ss' FD FE Pr Bk dn' Pl where
 nd:=by rw[vq];exact (oy.start (re:=re) (S:=True) (E:=True) mq hz.nd).nd
 rs:=fun x hx=>by
   rcases List.mem_append.1 hx with hx|hx
   · exact hz.rs x hx
   · rw[List.mem_singleton.1 hx];exact hr
 iu:=fun x hx=>by
   rcases List.mem_append.1 hx with hx|hx
   · exact hz.iu x hx
   · rw[List.mem_singleton.1 hx];exact hu
 os:=hs
 oo:=ho
 oe:=by rw[he,hz.oe,Po]
 de:=by
   rw[hd,hz.de,vq]
   by_cases h1:([]:cN)∈rows.map Sl.xs
   · rw[decide_eq_true h1,decide_eq_true (List.mem_append_left _ h1)];rfl
   · rw[decide_eq_false h1,Bool.false_or]
     refine decide_eq_decide.2 ⟨fun h=>by rw[h];exact List.mem_append_right _ List.mem_cons_self,fun h=>?_⟩
     rcases List.mem_append.1 h with h|h
     · exact absurd h h1
     · exact (List.mem_singleton.1 h).symm
theorem vm.mono (hz:vm re n ks sa sc rows Ss oa oc fW So dn Pl){Pl':Hp}(h:c4 Pl Pl'):vm re n ks sa sc rows Ss oa oc fW So dn Pl':={ hz with rs:=hz.rs.mono h }
theorem vm.len (hz:vm re n ks sa sc rows Ss oa oc fW So dn Pl)(hw:(F.nd n ks .nil).wf)(mS:(F.nd n ks .nil).weight≤20):rows.length≤61∧fW.length≤rows.length:=by
 have h:=FB hw mS hz.nd fun x hx=>by
   obtain⟨s,hs,rfl⟩:=List.mem_map.1 hx
   exact hz.iu s hs
 rw[List.length_map] at h
 refine⟨h,?_⟩
 rw[hz.oe];exact List.length_filter_le _ _
theorem vm.ono (hz:vm re n ks sa sc rows Ss oa oc fW So dn Pl){x:cN}(h:x∉rows.map Sl.xs):x∉fW.map Sl.xs:=fun hx=>by
 obtain⟨s,hs,rfl⟩:=List.mem_map.1 hx
 rw[hz.oe] at hs
 exact h (List.mem_map.2 ⟨s,(List.mem_filter.1 hs).1,rfl⟩)
theorem vm.Yl (hz:vm re n ks sa sc rows Ss oa oc fW So dn Pl):nR Pl fW:=fun s hs=>by
 rw[hz.oe] at hs
 exact hz.rs s (List.mem_filter.1 hs).1
theorem oy.more {l0 cur ys:List cN}(h:oy re (st=true) (en=true) t l0 cur ys):l0.length<cur.length:=by
 obtain⟨nw,h1⟩:=h.sub
 rw[h1];simp
end
section
variable {re:List Nd}{S E:Prop}{i r e:Nat}{u y:cN}{x:Nd}{ks:F}
theorem QB (hp:Part re (.nd x ks .nil) i e)(ho:x.op=2)(h:rZ re S E ((i,r)::u) y):S∧y=u:=by
 rcases mh hp h with ⟨o,g⟩|⟨o,g⟩|⟨o,g⟩|⟨o,g⟩|⟨o,g⟩|⟨o,g⟩|⟨o,g⟩
 all_goals first|exact g|omega
theorem QC (hp:Part re (.nd x ks .nil) i e)(ho:x.op=3)(h:rZ re S E ((i,r)::u) y):E∧y=u:=by
 rcases mh hp h with ⟨o,g⟩|⟨o,g⟩|⟨o,g⟩|⟨o,g⟩|⟨o,g⟩|⟨o,g⟩|⟨o,g⟩
 all_goals first|exact g|omega
theorem Yz (hp:Part re (.nd x ks .nil) i e)(ho:x.op=4)(h:rZ re S E ((i,r)::u) y):y=kz (je (i+1) ks)++u:=by
 rcases mh hp h with ⟨o,g⟩|⟨o,g⟩|⟨o,g⟩|⟨o,g⟩|⟨o,g⟩|⟨o,g⟩|⟨o,g⟩
 all_goals first|exact g|omega
theorem YM (hp:Part re (.nd x ks .nil) i e)(ho:x.op=5)(h:rZ re S E ((i,r)::u) y):y∈(je (i+1) ks).map fun k=>(k,0)::u:=by
 rcases mh hp h with ⟨o,g⟩|⟨o,g⟩|⟨o,g⟩|⟨o,k,g1,g2⟩|⟨o,g⟩|⟨o,g⟩|⟨o,g⟩
 all_goals first|omega|exact List.mem_map.2 ⟨k,g1,g2.symm⟩
theorem YZ (hp:Part re (.nd x ks .nil) i e)(ho:x.op=7)(h:rZ re S E ((i,r)::u) y):y=(i+1,0)::u:=by
 rcases mh hp h with ⟨o,g⟩|⟨o,g⟩|⟨o,g⟩|⟨o,g⟩|⟨o,g⟩|⟨o,g⟩|⟨o,g⟩
 all_goals first|exact g|omega
theorem Lb (hp:Part re (.nd x ks .nil) i e)(ho:x.op=6)(h:rZ re S E ((i,r)::u) y):(x.mn≤(r:Int)∧y=u)∨((x.mx<0∨(r:Int)<x.mx)∧y=(i+1,0)::(i,qv x r)::u):=by
 rcases mh hp h with ⟨o,g⟩|⟨o,g⟩|⟨o,g⟩|⟨o,g⟩|⟨o,g⟩|⟨o,g⟩|⟨o,g⟩
 all_goals first|exact .inl g|exact .inr g|omega
theorem QA (hp:Part re (.nd x ks .nil) i e)(h2:¬ x.op=2)(h3:¬ x.op=3)(h4:¬ x.op=4)(h5:¬ x.op=5)(h7:¬ x.op=7)(h6:¬ x.op=6)(h:rZ re S E ((i,r)::u) y):False:=by
 rcases mh hp h with ⟨o,g⟩|⟨o,g⟩|⟨o,g⟩|⟨o,g⟩|⟨o,g⟩|⟨o,g⟩|⟨o,g⟩
 all_goals omega
end
theorem gO {re:List Nd}{i r:Nat}{u:cN}{x:Nd}(h:re[i]?=some x):nP re ((i,r)::u)=decide (x.op=1):=by simp[nP,h]
end Go.HL.cm
namespace Go.HL.cm
open Go Go.HL Go.HL.Kl Go.HL.Kl.Mc
theorem Lg (re:List Nd):∀ rows:List (Sl Pp),(V9 re rows).map Sl.xs=(rows.map Sl.xs).filter (nP re)
 | []=>rfl
 | s::rows=>by
   have ih:=Lg re rows
   unfold V9 at ih ⊢
   by_cases h:nP re s.xs=true
   · simp[h,ih]
   · simp[h,ih]
theorem vA (re:List Nd)(b:Nat)(t:cN):∀ (h out:List cN),J2 re b (h++[t]) out=(if hasB re b t then dD (J2 re b h out) t.tail else J2 re b h out)
 | [],out=>rfl
 | x::h,out=>vA re b t h _
theorem Zp (re:List Nd)(n:Nd)(ks:F)(Pl:Hp):vm re n ks none 0 [] [] none 0 [] [] false Pl:=
 ⟨by simp,(fun _ h=>by cases h),(fun _ h=>by cases h),aG.nil,aG.nil,rfl,by simp⟩
theorem FF {re:List Nd}{i r b:Nat}{u:cN}{x:Nd}(h:re[i]?=some x):hasB re b ((i,r)::u)=x.set.getLsbD b:=by simp[hasB,h]
theorem Lh {re:List Nd}{S E:Prop}{l:List cN}{cur:List cN}(h:Ii re S E l l.length cur):∀ x,x∈cur↔∃ s∈l,AV re S E s x:=fun x=>h.mem (Nat.le_refl _)
def HdP (re:List Nd)(n:Nd)(ks:F)(st:Bool)(l:List cN)(Pl:Hp)(v:Value)(S':Hp):Prop:=∃ (a:Option Addr)(c:Nat)(hr:List (Sl Pp))(So Pn:Hp),v = .slice a hr.length c∧S'=So++(Pl++Pn)∧aG cX 1 140 (.slice a hr.length c) hr So∧nR (Pl++Pn) hr∧(∀ s∈hr,sQ n ks s.xs)∧hr.length≤61∧∃ cur:List cN,(∀ x,x∈cur↔∃ s∈l,AV re (st=true) False s x)∧hr.map Sl.xs=cur.filter (nP re)
def BhP (re:List Nd)(n:Nd)(ks:F)(st:Bool)(b:Nat)(l:List cN)(Pl:Hp)(v:Value)(S':Hp):Prop:=∃ (a:Option Addr)(c:Nat)(br:List (Sl Pp))(So Pn:Hp),v = .slice a br.length c∧S'=So++(Pl++Pn)∧aG cX 1 140 (.slice a br.length c) br So∧nR (Pl++Pn) br∧br.length≤61∧(br.map Sl.xs).Nodup∧∀ u,u∈br.map Sl.xs↔Bh re (st=true) l b u
theorem Li {n:Nd}{ks:F}{re:List Nd}{t:cN}(h:nP re t=true):∃ p u,t=p::u:=by
 cases t with
 | nil=>cases h
 | cons p u=>exact⟨p,u,rfl⟩
def mC (fT:List (Sl (Sl Pp))):List (List cN):=fT.map fun s=>s.xs.map Sl.xs
structure ME (Pl:Hp)(s:Sl (Sl Pp)):Prop where
 rd:lG cX s.v s.xs Pl
 sl:eA s.v s.xs.length
 rs:nR Pl s.xs
theorem ME.mono {Pl Pl':Hp}{s:Sl (Sl Pp)}(h:ME Pl s)(hi:c4 Pl Pl'):ME Pl' s:=⟨h.rd.mono hi,h.sl,h.rs.mono hi⟩
def sf (Pl:Hp)(fT:List (Sl (Sl Pp))):Prop:=∀ s∈fT,ME Pl s
theorem sf.mono {Pl Pl':Hp}{l:List (Sl (Sl Pp))}(h:sf Pl l)(hi:c4 Pl Pl'):sf Pl' l:=fun s hs=>(h s hs).mono hi
theorem sf.snoc {Pl:Hp}{l:List (Sl (Sl Pp))}{s:Sl (Sl Pp)}(h:sf Pl l)(hs:ME Pl s):sf Pl (l++[s]):=fun x hx=>by
 rcases List.mem_append.1 hx with hx|hx
 · exact h x hx
 · rw[List.mem_singleton.1 hx];exact hs
theorem nH {fT:List (Sl (Sl Pp))}{q:Nat}{s:Sl (Sl Pp)}(h:fT[q]?=some s):(mC fT)[q]?=some (s.xs.map Sl.xs):=by unfold mC;rw[List.getElem?_map,h];rfl
theorem lA (fT:List (Sl (Sl Pp))):(mC fT).length=fT.length:=by simp[mC]
theorem Ea (fT:List (Sl (Sl Pp)))(s:Sl (Sl Pp)):mC (fT++[s])=mC fT++[s.xs.map Sl.xs]:=by simp[mC]
theorem HN {fT:List (Sl (Sl Pp))}{q:Nat}{a:List cN}(h:(mC fT)[q]?=some a):∃ s,fT[q]?=some s∧a=s.xs.map Sl.xs:=by
 unfold mC at h
 rw[List.getElem?_map] at h
 obtain⟨s,h1,h2⟩:=Option.map_eq_some_iff.1 h
 exact⟨s,h1,h2.symm⟩
structure WoS where
 xa:Option Addr
 xc:Nat
 sr:List (Sl (Sl Pp))
 Sx:Hp
 na:Option Addr
 nc:Nat
 nr:List (Sl Nat)
 Sn:Hp
 Sq:Hp
 next:List (List Nat)
 ea:Option Addr
 ec:Nat
 ends:List Bool
 Se:Hp
 Pl:Hp
structure WiS where
 xa:Option Addr
 xc:Nat
 sr:List (Sl (Sl Pp))
 Sx:Hp
 sI:Option Addr
 pN:Nat
 row:List Nat
 Sr:Hp
 Pl:Hp
def vV (a b:List cN):Prop:=∀ u,u∈a↔u∈b
theorem BL {a b:List cN}:DG a b=true↔∀ u∈a,u∈b:=by simp[DG]
theorem Mr {a b:List cN}(ha:a.Nodup)(hb:b.Nodup)(h:vV a b):a.length=b.length:=
 Nat.le_antisymm (lp ha fun x hx=>(h x).1 hx) (lp hb fun x hx=>(h x).2 hx)
theorem Py {a b:List cN}(ha:a.Nodup)(hl:a.length=b.length)(h:DG a b=true):vV a b:=by
 have hs:=BL.1 h
 intro u
 refine⟨hs u,fun hu=>?_⟩
 refine Classical.byContradiction fun hn=>?_
 have:=lp (l:=u::a) (m:=b) (List.nodup_cons.2 ⟨hn,ha⟩) fun x hx=>by
   rcases List.mem_cons.1 hx with rfl|hx
   · exact hu
   · exact hs x hx
 simp only[List.length_cons] at this
 omega
def Mp (fT:List (Sl (Sl Pp)))(b:List cN)(i:Nat)(to:Int):Prop:=(to = -1∧∀ (j:Nat)(a:Sl (Sl Pp)),1≤j→j<i→fT[j]?=some a→¬ vV b (a.xs.map Sl.xs))∨∃ (j:Nat)(a:Sl (Sl Pp)),to=(j:Int)∧1≤j∧fT[j]?=some a∧vV b (a.xs.map Sl.xs)
theorem Mp.no {fT:List (Sl (Sl Pp))}{b:List cN}{i:Nat}{to:Int}{a:Sl (Sl Pp)}(h:Mp fT b i to)(ht:to<0)(ha:fT[i]?=some a)(hn:¬ vV b (a.xs.map Sl.xs)):Mp fT b (i+1) to:=by
 rcases h with ⟨h1,h2⟩|⟨j,_,h1,_⟩
 · refine .inl ⟨h1,fun j c hj hji hc=>?_⟩
   rcases Nat.lt_or_ge j i with h3|h3
   · exact h2 j c hj h3 hc
   · obtain rfl:j=i:=by omega
     rw[ha] at hc
     rw[← Option.some.inj hc];exact hn
 · omega
def WdP (re:List Nd)(n:Nd)(ks:F)(lb:List Nat)(v:Value)(S:Hp):Prop:=∃ (na:Option Addr)(nc:Nat)(BS:List (Sl Nat))(ea:Option Addr)(ec:Nat)(next:List (List Nat))(ends:List Bool)(sets:List (List cN))(q:Nat)(Sn Sq Se:Hp),v = .agg [.slice na BS.length nc,.slice ea ends.length ec].toArray∧S=Sn++(Sq++Se)∧aG cX 1 36 (.slice na BS.length nc) BS Sn∧cG jo 1 3 BS next Sq∧BS.map Sl.xs=next∧aG fR 1 4 (.slice ea ends.length ec) ends Se∧WR re n ks lb sets next ends q∧sets.length≤q
theorem jJ (key:Nat→Nat→Bool):∀ q,(cv key q).1.length=q
 | 0=>rfl
 | q+1=>by
   have ih:=jJ key q
   unfold cv
   cases jk key q <;> simp[ih]
theorem tK (key:Nat→Nat→Bool):∀ q,(cv key q).2≤q
 | 0=>Nat.le_refl _
 | q+1=>by
   have ih:=tK key q
   unfold cv
   cases jk key q <;> simp <;> omega
def gd (key:Nat→Nat→Bool)(q N:Nat):List Int:=(cv key q).1.map Int.ofNat++List.replicate (N-q) 0
theorem vK {key:Nat→Nat→Bool}{q N:Nat}(h:q≤N):(gd key q N).length=N:=by simp[gd,jJ];omega
theorem xW (key:Nat→Nat→Bool)(N:Nat):gd key 0 N=List.replicate N 0:=by simp[gd,cv]
theorem rM (key:Nat→Nat→Bool)(N:Nat):gd key N N=(cv key N).1.map Int.ofNat:=by simp[gd]
theorem Sh {l:List Nat}{p:Nat}(h:p<l.length):(l.map Int.ofNat)[p]?=some ((pt l p:Nat):Int):=by rw[List.getElem?_map,iq h];rfl
theorem L9 {key:Nat→Nat→Bool}{q N p:Nat}(h:p<q):(gd key q N)[p]?=some ((pt (cv key q).1 p:Nat):Int):=by
 unfold gd
 rw[List.getElem?_append_left (by rw[List.length_map,jJ];exact h),Sh (by rw[jJ];exact h)]
theorem By {key:Nat→Nat→Bool}{q N p:Nat}{v:Int}(h:p<q):((gd key q N).set q v)[p]?=some ((pt (cv key q).1 p:Nat):Int):=by
 rw[List.getElem?_set_ne (by omega),L9 h]
theorem tL {key:Nat→Nat→Bool}{q N:Nat}{v:Int}(h:q<N):((gd key q N).set q v)[q]?=some v:=List.getElem?_set_self (by rw[vK (by omega)];exact h)
theorem BG {key:Nat→Nat→Bool}{q N:Nat}(h:q<N)(v:Nat):(gd key q N).set q (v:Int)=((cv key q).1++[v]).map Int.ofNat++List.replicate (N-(q+1)) 0:=by
 unfold gd
 rw[List.set_append_right _ _ (by rw[List.length_map,jJ];exact Nat.le_refl _),List.length_map,jJ,Nat.sub_self]
 obtain⟨m,hm⟩:∃ m,N-q=m+1:=⟨N-q-1,by omega⟩
 rw[hm,List.replicate_succ,List.set_cons_zero,show N-(q+1)=m by omega,List.map_append]
 simp
theorem Bx {key:Nat→Nat→Bool}{q N j:Nat}(h:q<N)(hf:jk key q=some j):(gd key q N).set q ((pt (cv key q).1 j:Nat):Int)=gd key (q+1) N∧(cv key (q+1)).2=(cv key q).2:=by
 rw[BG h]
 have e:cv key (q+1)=((cv key q).1++[pt (cv key q).1 j],(cv key q).2):=by simp only[cv,hf]
 exact⟨by unfold gd;rw[e],by rw[e]⟩
theorem Bw {key:Nat→Nat→Bool}{q N:Nat}(h:q<N)(hf:jk key q=none):(gd key q N).set q (((cv key q).2:Nat):Int)=gd key (q+1) N∧(cv key (q+1)).2=(cv key q).2+1:=by
 rw[BG h]
 have e:cv key (q+1)=((cv key q).1++[(cv key q).2],(cv key q).2+1):=by simp only[cv,hf]
 exact⟨by unfold gd;rw[e],by rw[e]⟩
theorem Pj {key:Nat→Nat→Bool}{q p:Nat}(hp:p<q)(hk:key p q=true)(mq:∀ j,j<p→key j q=false):jk key q=some p:=by
 cases hf:jk key q with
 | none=>rw[fQ.1 hf p hp] at hk;cases hk
 | some j=>
   have hj:j=p:=by
     rcases Nat.lt_trichotomy j p with h|h|h
     · have:=mq j h;rw[(ru hf).2] at this;cases this
     · exact h
     · have h1:=List.find?_eq_some_iff_append.1 (show (List.range q).find? (fun p=>key p q)=some j from hf)
       obtain⟨_,cs,bs,h2,h3⟩:=h1
       have hm:p∈cs:=by
         have Z0:p∈cs++j::bs:=by rw[← h2];exact List.mem_range.2 hp
         rcases List.mem_append.1 Z0 with h4|h4
         · exact h4
         · exfalso
           have hs:(cs++j::bs).Pairwise (· < ·):=by rw[← h2];exact List.pairwise_lt_range
           have h5:=(List.pairwise_append.1 hs).2.1
           rcases List.mem_cons.1 h4 with h6|h6
           · omega
           · have:=(List.pairwise_cons.1 h5).1 p h6;omega
       have:=h3 p hm
       rw[hk] at this;cases this
   rw[hj]
def qz (key:Nat→Nat→Bool)(q p:Nat)(val:Int):Prop:=(val = -1∧∀ j,j<p→key j q=false)∨∃ j,jk key q=some j∧val=((pt (cv key q).1 j:Nat):Int)
theorem qz.zero (key:Nat→Nat→Bool)(q:Nat):qz key q 0 (-1):=.inl ⟨rfl,fun j h=>by omega⟩
theorem qz.skip {key:Nat→Nat→Bool}{q p:Nat}{val:Int}(h:qz key q p val)(hv:val<0)(hk:key p q=false):qz key q (p+1) val:=by
 rcases h with ⟨h1,h2⟩|⟨j,_,h1⟩
 · refine .inl ⟨h1,fun j hj=>?_⟩
   rcases Nat.lt_or_ge j p with h3|h3
   · exact h2 j h3
   · obtain rfl:j=p:=by omega
     exact hk
 · omega
theorem qz.mX {key:Nat→Nat→Bool}{q p:Nat}{val:Int}(h:qz key q p val)(hv:val<0)(hp:p<q)(hk:key p q=true):qz key q (p+1) ((pt (cv key q).1 p:Nat):Int):=by
 rcases h with ⟨h1,h2⟩|⟨j,_,h1⟩
 · exact .inr ⟨p,Pj hp hk h2,rfl⟩
 · omega
theorem qz.done {key:Nat→Nat→Bool}{q p:Nat}{val:Int}(h:qz key q p val)(hv:¬ val<0∨q≤p):(val = -1∧jk key q=none)∨∃ j,jk key q=some j∧val=((pt (cv key q).1 j:Nat):Int):=by
 rcases h with ⟨h1,h2⟩|h
 · refine .inl ⟨h1,fQ.2 fun j hj=>h2 j (by omega)⟩
 · exact .inr h
def Bz (next:List (List Nat))(P:List Nat)(p q k:Nat):Bool:=decide (pt P p=pt P q)&&(List.range k).all fun k=>decide (pt P (nx next p k)=pt P (nx next q k))
theorem HA (next:List (List Nat))(P:List Nat)(p q k:Nat):Bz next P p q (k+1)=(Bz next P p q k&&decide (pt P (nx next p k)=pt P (nx next q k))):=by
 unfold Bz
 rw[List.range_succ,List.all_append]
 simp[Bool.and_assoc]
theorem DQ {next:List (List Nat)}{P:List Nat}{p q k K:Nat}(h:Bz next P p q k=false)(hk:k≤K):fy next K P p q=false:=by
 rw[Bool.eq_false_iff]
 intro h2
 rw[gM] at h2
 have:Bz next P p q k=true:=by
   unfold Bz
   rw[Bool.and_eq_true,decide_eq_true_eq,List.all_eq_true]
   exact⟨h2.1,fun j hj=>decide_eq_true (h2.2 j (by have:=List.mem_range.1 hj;omega))⟩
 rw[h] at this;cases this
structure WdR (K:Nat)(na:Option Addr)(nc:Nat)(nr:List (Sl Nat))(ea:Option Addr)(ec:Nat)(ends:List Bool)(w:World):Prop where
 rn:Rd cX w (.slice na nr.length nc) nr
 rr:∀ s∈nr,Rd jo w s.v s.xs
 re:Rd fR w (.slice ea ends.length ec) ends
theorem nW.at_ {nr:List (Sl Nat)}{ends:List Bool}{K:Nat}(h:nW (nr.map Sl.xs) ends K){q:Nat}{s:Sl Nat}(hs:nr[q]?=some s):s.xs.length=K∧∀ k,k<K→s.xs[k]?=some (nx (nr.map Sl.xs) q k)∧nx (nr.map Sl.xs) q k<nr.length:=by
 have hg:(nr.map Sl.xs)[q]?=some s.xs:=by rw[List.getElem?_map,hs];rfl
 have Fk:=(List.getElem?_eq_some_iff.1 hg).1
 refine⟨h.rows _ (List.mem_of_getElem? hg),fun k hk=>?_⟩
 obtain⟨row,g1,g2,g3⟩:=h.get Fk hk
 rw[hg] at g1
 rw[Option.some.inj g1,← List.length_map (f:=Sl.xs)]
 exact⟨g2,g3⟩
def pP (P met:List Nat)(x j:Nat)(val:Int):Prop:=(val = -1∧∀ i,i<j→∀ m,met[i]?=some m→pt P m≠pt P x)∨∃ i m,val=((i:Nat):Int)∧met[i]?=some m∧pt P m=pt P x∧∀ i',i'<i→∀ m',met[i']?=some m'→pt P m'≠pt P x
theorem pP.zero (P met:List Nat)(x:Nat):pP P met x 0 (-1):=.inl ⟨rfl,fun i h=>by omega⟩
theorem pP.skip {P met:List Nat}{x j m:Nat}{val:Int}(h:pP P met x j val)(hv:val<0)(hm:met[j]?=some m)(dM:pt P m≠pt P x):pP P met x (j+1) val:=by
 rcases h with ⟨h1,h2⟩|⟨i,_,h1,_⟩
 · refine .inl ⟨h1,fun i hi c hc=>?_⟩
   rcases Nat.lt_or_ge i j with h3|h3
   · exact h2 i h3 c hc
   · obtain rfl:i=j:=by omega
     rw[hm] at hc
     rw[← Option.some.inj hc];exact dM
 · omega
theorem pP.mX {P met : List Nat} {x j m : Nat} {val : Int} (h : pP P met x j val) (hv : val < 0) (hm : met[j]? = some m) (he : pt P m = pt P x) : pP P met x (j + 1) (j : Int) := by
 rcases h with ⟨h1,h2⟩|⟨i,_,h1,_⟩
 · exact .inr ⟨j,m,rfl,hm,he,h2⟩
 · omega
theorem HK {l:List Nat}{s i:Nat}(h:l[i]?=some s)(mq:∀ i',i'<i→l[i']?≠some s):idx l s=i:=by
 induction l generalizing i with
 | nil=>cases h
 | cons a l ih=>
   unfold idx
   cases i with
   | zero=>rw[if_pos (Option.some.inj h)]
   | succ i=>
     have h0:=mq 0 (by omega)
     rw[if_neg (fun e=>h0 (by rw[e];rfl)),ih (i:=i) h fun i' z0=>mq (i'+1) (by omega)]
theorem pP.found {P met:List Nat}{x:Nat}{lv:List Bool}{val:Int}{j:Nat}(h:pP P met x j val)(hv:¬ val<0)(hl:lv[x]?=some true):jQ P lv met x=(val,met):=by
 rcases h with ⟨h1,_⟩|⟨i,m,h1,h2,h3,h4⟩
 · omega
 · have hg:(met.map (pt P))[i]?=some (pt P x):=by rw[List.getElem?_map,h2,← h3];rfl
   have hi:idx (met.map (pt P)) (pt P x)=i:=HK hg fun i' z0 he=>by
     rw[List.getElem?_map] at he
     obtain⟨m',zZ,e⟩:=Option.map_eq_some_iff.1 he
     exact h4 i' z0 m' zZ e
   rw[jK hl,hi,if_pos (List.mem_of_getElem? hg),h1]
theorem pP.none {P met:List Nat}{x:Nat}{lv:List Bool}{val:Int}{j:Nat}(h:pP P met x j val)(hv:val<0)(hj:met.length≤j)(hl:lv[x]?=some true):jQ P lv met x=((met.length:Int),met++[x]):=by
 rcases h with ⟨_,h2⟩|⟨i,_,h1,_⟩
 · have mq:pt P x∉met.map (pt P):=fun hm=>by
     obtain⟨m,wj,EU⟩:=List.mem_map.1 hm
     obtain⟨i,hi⟩:=List.getElem?_of_mem wj
     exact h2 i (by have:=(List.getElem?_eq_some_iff.1 hi).1;omega) m hi EU
   rw[jK hl,nj mq,List.length_map,if_neg mq]
 · omega
theorem aao (next:List (List Nat))(ends:List Bool):∃ lv,l6 next ends lv∨¬ ends.length=next.length:=by
 classical
 by_cases he:ends.length=next.length
 · refine⟨(List.range next.length).map fun q=>decide (Live next ends q),.inl ⟨by simp,fun q=>?_⟩⟩
   rw[List.getElem?_map]
   rcases Nat.lt_or_ge q next.length with h|h
   · rw[List.getElem?_range h]
     simp
   · rw[List.getElem?_eq_none (by simpa using h)]
     constructor
     · intro h1;cases h1
     · intro hL
       exfalso
       cases hL with
       | ends h1=>have:=(List.getElem?_eq_some_iff.1 h1).1;omega
       | step h1 _ _=>have:=(List.getElem?_eq_some_iff.1 h1).1;omega
 · exact⟨[],.inr he⟩
theorem Jw {re:List Nd}{n:Nd}{ks:F}{m:Lm}(hS:Mc.iR re n ks)(iC:bz re=true)(hr:ez re=false)(hw:(F.nd n ks .nil).weight≤20)(hM:RfM re n ks m):(256<m.met.length→rU re 51)∧(m.met.length≤256→yJ re ⟨m.next,m.ends,atoms (bB re)⟩):=by
 have UL:=CF re n ks
 obtain⟨lv,Cb⟩:=aao (jx re n ks).next (jx re n ks).ends
 have Cb:=Cb.resolve_right fun h=>h UL.len
 obtain⟨h1,h2⟩:=LD hS iC hr hw hM Cb
 cases e:zL re n ks lv with
 | none=>exact⟨fun _=>.inr (.inr (.inr ⟨n,ks,lv,hS,hr,hw,Cb,e,rfl⟩)),fun h=>by have:=h2 e;omega⟩
 | some m'=>
   obtain⟨g1,g2,g3⟩:=h1 m' e
   exact⟨fun h=>by omega,fun _=>⟨iC,n,ks,lv,m',hS,hr,hw,Cb,e,g1,g2,rfl⟩⟩
theorem FO {next:List (List Nat)}{ends l1 l2:List Bool}(h1:l6 next ends l1)(h2:l6 next ends l2):l1=l2:=by
 apply List.ext_getElem?
 intro i
 rcases Nat.lt_or_ge i next.length with h|h
 · have e1:l1[i]?=some (l1[i]'(by rw[h1.1];exact h)):=List.getElem?_eq_getElem _
   have e2:l2[i]?=some (l2[i]'(by rw[h2.1];exact h)):=List.getElem?_eq_getElem _
   have:=(h1.2 i).trans (h2.2 i).symm
   rw[e1,e2] at this ⊢
   cases c1:l1[i]'(by rw[h1.1];exact h) <;> cases c2:l2[i]'(by rw[h2.1];exact h) <;> simp_all
 · rw[List.getElem?_eq_none (by rw[h1.1];exact h),List.getElem?_eq_none (by rw[h2.1];exact h)]
theorem qC {re:List Nd}{n n':Nd}{ks DL:F}(h:Mc.iR re n ks)(h':Mc.iR re n' DL):n=n'∧ks=DL:=by
 obtain⟨a,b,_⟩:=h.part.ll h'.part
 exact⟨a,b⟩
theorem Gx {re:List Nd}{d d':Df}(h:yJ re d)(h':yJ re d'):d=d':=by
 obtain⟨_,n,ks,lv,m,h1,h2,h3,h4,h5,h6,h7,h8⟩:=h
 obtain⟨_,n',DL,lv',m',g1,g2,g3,g4,g5,g6,g7,g8⟩:=h'
 obtain⟨rfl,rfl⟩:=qC h1 g1
 obtain rfl:=FO h4 g4
 rw[h5] at g5
 obtain rfl:=Option.some.inj g5
 obtain⟨a,b,c⟩:=d
 obtain⟨a',b',c'⟩:=d'
 simp only at h6 h7 h8 g6 g7 g8
 rw[h6,h7,h8,g6,g7,g8]
theorem Au {re:List Nd}{d:Df}{e:Int}(h:rU re e)(h':yJ re d):False:=by
 obtain⟨iC,n',DL,lv',m',g1,g2,g3,g4,g5,_⟩:=h'
 rcases h with ⟨h1,_⟩|⟨_,h1,_⟩|⟨n,ks,h1,_,h3,_⟩|⟨n,ks,lv,h1,_,_,h4,h5,_⟩
 · rw[iC] at h1;cases h1
 · rw[g2] at h1;cases h1
 · obtain⟨rfl,rfl⟩:=qC h1 g1;omega
 · obtain⟨rfl,rfl⟩:=qC h1 g1
   obtain rfl:=FO h4 g4
   rw[h5] at g5;cases g5
theorem CG {re:List Nd}{e e':Int}(h:rU re e)(h':rU re e')(hs:e=49∨bz re=true)(mT:e'=49∨bz re=true):e=e':=by
 rcases h with ⟨h1,rfl⟩|⟨h0,h1,rfl⟩|⟨n,ks,h1,h2,h3,rfl⟩|⟨n,ks,lv,h1,h2,h3,_,_,rfl⟩ <;> rcases h' with ⟨g1,rfl⟩|⟨g0,g1,rfl⟩|⟨n',DL,g1,g2,g3,rfl⟩|⟨n',DL,lv',g1,g2,g3,_,_,rfl⟩
 all_goals first|rfl|(exfalso;first|(rw[h1] at g0;cases g0;done)|(rw[g1] at h0;cases h0;done)|(rw[h1] at g2;cases g2;done)|(rw[g1] at h2;cases h2;done)|(rcases mT with h9|h9;(· omega);(· rw[h1] at h9;cases h9))|(rcases hs with h9|h9;(· omega);(· rw[g1] at h9;cases h9))|(obtain⟨rfl,rfl⟩:=qC h1 g1;omega))
def Gw (re:List Nd)(d:Df)(e:Int):Prop:=(yJ re d∧e=0)∨(rU re e∧(e=49∨bz re=true)∧d=⟨[],[],[]⟩)
theorem Gw.uniq {re:List Nd}{d d':Df}{e e':Int}(h:Gw re d e)(h':Gw re d' e'):d=d'∧e=e':=by
 rcases h with ⟨h1,rfl⟩|⟨h1,h2,rfl⟩ <;> rcases h' with ⟨g1,rfl⟩|⟨g1,g2,rfl⟩
 · exact⟨Gx h1 g1,rfl⟩
 · exact (Au g1 h1).elim
 · exact (Au h1 g1).elim
 · exact⟨rfl,CG h1 g1 h2 g2⟩
theorem Gw.sml {re:List Nd}{d:Df}{e:Int}(h:Gw re d e):d.next.length≤256∧d.ends.length≤256∧d.atoms.length≤256∧∀ r∈d.next,r.length≤256:=by
 rcases h with ⟨h1,_⟩|⟨_,_,rfl⟩
 · obtain⟨_,_,_,_,_,_,_,_,_,_,hS⟩:=WS h1
   obtain⟨_,h2,h3,_,h5⟩:=hS.sz
   exact⟨by omega,h2,h5,fun r hr=>by have:=(hS.rows r hr).1;omega⟩
 · exact⟨Nat.zero_le _,Nat.zero_le _,Nat.zero_le _,fun r hr=>by cases hr⟩
def xrN (x:Nd):Nd:={ x with set:=lQ x.set 1 (wd x.set 1 ^^^ 6#64) }
theorem WT (x:Nd):En (xrN x)=bP (En x) 2 [Ew (wd x.set 1 ^^^ 6#64)]:=by
 show _::(Ec (lQ x.set 1 _)++_)=_
 rw[← od _ _ (by decide)];rfl
theorem NQ {l:List Nd}{i:Nat}{x:Nd}(h:∀ y∈l,-128≤y.op∧y.op<128)(hx:l[i]?=some x):∀ y∈l.set i (xrN x),-128≤y.op∧y.op<128:=fun y hy=>by
 rcases List.mem_or_eq_of_mem_set hy with h1|h1
 · exact h y h1
 · rw[h1];exact h x (List.mem_of_getElem? hx)
theorem pK {α:Type}{sls:List (Sl α)}{N:Nat}(h:∀ s,s∈sls→s.xs.length≤N):∀ (j:Nat)(s:Sl α),sls[j]?=some s→s.xs.length≤N:=fun _ s hs=>h s (List.mem_of_getElem? hs)
theorem eC.mem {il rows nS:List (Sl Int)}{i:Nat}(h:eC il rows nS i):∀ s∈nS,s∈il∨s∈rows:=by
 obtain⟨k,_,rfl,_⟩:=h
 intro s hs
 exact (List.mem_append.1 hs).imp id fun h=>List.mem_of_mem_take h
theorem eC.le {il rows nS:List (Sl Int)}{i:Nat}(h:eC il rows nS i):nS.length≤400:=by obtain⟨_,_,_,h,_⟩:=h;exact h
theorem eC.own {il rows nS:List (Sl Int)}{i:Nat}(h:eC il rows nS i){dO yss:List (List Int)}{S S':Hp}(ho:cG Ei 1 3 il dO S)(hr:cG Ei 1 3 rows yss S'):∃ zss S1 S2,S'=S1++S2∧cG Ei 1 3 nS zss (S++S1):=by
 obtain⟨k,_,rfl,_⟩:=h
 obtain⟨S1,S2,rfl,h1⟩:=CH hr k
 exact⟨_,S1,S2,rfl,Je ho h1⟩
end Go.HL.cm
namespace Go.Proofs.YtmompllplidphaaGreatDoor
open Go Go.HL Go.Proofs Go.Af Go.HL.Kl Go.HL.Kl.Mc Go.HL.cm
theorem tX {b:Nat}{il:List (Sl Int)}{bl:List (Sl Bool)}{cl:List (Sl Kl.Cl)}{nl:List (Sl Nd)}{xl:List (Sl (Sl Int))}{S:Hp}(hW:wq b il bl cl nl xl S)(aa:Option Addr)(ac:Nat)(atoms:List Kl.Cl)(na:Option Addr)(nc:Nat)(rows:List (Sl Int))(ea:Option Addr)(ec:Nat)(ends:List Bool)(Sr:Hp)(hr:lG cX (.slice na rows.length nc) rows Sr)(dr:eA (.slice na rows.length nc) rows.length)(WD:il.length≤400)(hb4:bl.length<400)(hc4:cl.length<400)(P7:xl.length<400):HL.Fn Tryz.prog 14 [.pointer (some ⟨b,0,none⟩),.agg [.slice aa atoms.length ac,.slice na rows.length nc,.slice ea ends.length ec].toArray] (fun _=>True) (S++Sr) (fun _ S'=>∃ Sb nS i,S'=Sb++Sr∧eC il rows nS i∧wq b nS (bl++[⟨ea,ec,ends⟩]) (cl++[⟨aa,ac,atoms⟩]) nl (xl++[⟨na,nc,rows⟩]) Sb):=by
 obtain⟨cs,o1,c1,S1,o2,c2,S2,o7,c7,S7,o8,c8,S8,yz,og,oT,rfl,hQ⟩:=hW
 simp only[List.cons_append,List.append_assoc]
 exact Cq b cs il o1 c1 S1 bl o2 c2 S2 cl o7 c7 S7 nl o8 c8 S8 xl yz og oT hQ aa ac atoms na nc rows ea ec ends Sr hr dr WD hb4 hc4 P7
theorem yA {b:Nat}{il:List (Sl Int)}{bl:List (Sl Bool)}{cl:List (Sl Kl.Cl)}{nl:List (Sl Nd)}{xl:List (Sl (Sl Int))}{S:Hp}(hW:wq b il bl cl nl xl S)(s:Sl Nd)(hn:nl.length<400){n:Nat}(hl:s.xs.length=n):HL.Fn Tryz.prog 15 [.pointer (some ⟨b,0,none⟩),.slice s.a n s.c] (fun _=>True) S (fun _ S'=>wq b il bl cl (nl++[s]) xl S'):=by
 subst hl
 obtain⟨cs,o1,c1,S1,o2,c2,S2,o7,c7,S7,o8,c8,S8,yz,og,oT,rfl,hQ⟩:=hW
 have gS:aJ ((b,.cells cs.toArray 63 (0,0))::(S1++(S2++(S7++(S8++oT))))) ((b,.cells cs.toArray 63 (0,0))::S8) (S1++(S2++(S7++oT))):=aJ.bR bh bh
 refine HL.Fn.sub (((Ak b cs nl s o8 c8 S8 hQ.h8 hn hQ.w8).frame).perm gS.perm.symm) fun v S' h=>?_
 obtain⟨S3,rfl,sk,oa,oc,So,rfl,h8,qJ,hO⟩:=h
 refine⟨(b,.cells sk.toArray 63 (0,0))::(S1++(S2++(S7++(So++oT)))),by (simp only[List.append_assoc,List.cons_append];repeat (first|exact HSub.refl _|exact HSub.nil|refine HSub.bR (by first|((repeat (first|exact .one|exact .here|exact .all|apply aJ.cons|apply aJ.app));done)|((repeat (first|exact .one|exact .here|exact .all|apply aJ.cons|apply aJ.assoc|apply aJ.app));done)|exact aJ.cy (by repeat (first|exact .one|exact .here|exact .all|apply aJ.cons|apply aJ.assoc|apply aJ.app)) (by repeat (first|exact .one|exact .here|exact .all|apply aJ.cons|apply aJ.assoc|apply aJ.app))) ?_|refine HSub.take (by first|((repeat (first|exact .one|exact .here|exact .all|apply aJ.cons|apply aJ.app));done)|((repeat (first|exact .one|exact .here|exact .all|apply aJ.cons|apply aJ.assoc|apply aJ.app));done)|exact aJ.cy (by repeat (first|exact .one|exact .here|exact .all|apply aJ.cons|apply aJ.assoc|apply aJ.app)) (by repeat (first|exact .one|exact .here|exact .all|apply aJ.cons|apply aJ.assoc|apply aJ.app))) ?_|exact HSub.iB (by first|((repeat (first|exact .one|exact .here|exact .all|apply aJ.cons|apply aJ.app));done)|((repeat (first|exact .one|exact .here|exact .all|apply aJ.cons|apply aJ.assoc|apply aJ.app));done)|exact aJ.cy (by repeat (first|exact .one|exact .here|exact .all|apply aJ.cons|apply aJ.assoc|apply aJ.app)) (by repeat (first|exact .one|exact .here|exact .all|apply aJ.cons|apply aJ.assoc|apply aJ.app))))),sk,o1,c1,S1,o2,c2,S2,o7,c7,S7,oa,oc,So,yz,og,oT,rfl,?_⟩
 exact⟨(qJ 1 (by decide)).trans hQ.h1,(qJ 2 (by decide)).trans hQ.h2,(qJ 7 (by decide)).trans hQ.h7,h8,(qJ 14 (by decide)).trans hQ.H8,hQ.w1,hQ.w2,hQ.w7,hO,hQ.WE,fun j h h1 h2 h7 h8 H8=>(qJ j h8).trans (hQ.hz j h h1 h2 h7 h8 H8)⟩
theorem F8 (b:Nat)(cs:List Value)(il:List (Sl Int))(o1:Option Addr)(c1:Nat)(S1:Hp)(bl:List (Sl Bool))(o2:Option Addr)(c2:Nat)(S2:Hp)(cl:List (Sl Kl.Cl))(o7:Option Addr)(c7:Nat)(S7:Hp)(nl:List (Sl Nd))(o8:Option Addr)(c8:Nat)(S8:Hp)(xl:List (Sl (Sl Int)))(yz:Option Addr)(og:Nat)(oT:Hp)(hQ:Rq b cs il o1 c1 S1 bl o2 c2 S2 cl o7 c7 S7 nl o8 c8 S8 xl yz og oT)(n1:il.length≤400)(l1:∀ (j:Nat)(s:Sl (Int)),il[j]?=some s→s.xs.length≤4294967296)(x1:List (List (Int)))(D1:Hp)(d1:cG Ei 1 3 il x1 D1)(n2:bl.length≤400)(l2:∀ (j:Nat)(s:Sl (Bool)),bl[j]?=some s→s.xs.length≤4294967296)(x2:List (List (Bool)))(D2:Hp)(d2:cG fR 1 4 bl x2 D2)(n7:cl.length≤400)(l7:∀ (j:Nat)(s:Sl (Kl.Cl)),cl[j]?=some s→s.xs.length≤4294967296)(x7:List (List (Kl.Cl)))(D7:Hp)(d7:cG Ec 4 39 cl x7 D7)(n8:nl.length≤400)(l8:∀ (j:Nat)(s:Sl (Nd)),nl[j]?=some s→s.xs.length≤4294967296)(x8:List (List (Nd)))(D8:Hp)(d8:cG En 9 42 nl x8 D8)(n14:xl.length≤400)(l14:∀ (j:Nat)(s:Sl (Sl Int)),xl[j]?=some s→s.xs.length≤4294967296)(WG:List (List (Sl Int)))(Rr:Hp)(d14:cG cX 1 36 xl WG Rr):HL.Fn Tryz.prog 16 [.pointer (some ⟨b,0,none⟩)] (fun _=>True) ((b,.cells cs.toArray 63 (0,0))::(S1++(S2++(S7++(S8++(oT++(D1++(D2++(D7++(D8++Rr)))))))))) (fun v _=>v = .bool true):=by
 refine aW Tryz.func16 rfl rfl rfl fun w0 hw=>?_;refine cR fun _ bI=>?_;refine oA (oZ bI (cR fun _ bJ=>?_));refine oA (oZ bJ (ah fun _ bK=>?_));refine cR fun _ bU=>?_;refine oM ?_;refine ar (tY b cs (hQ.hz 0 (by decide) (by decide) (by decide) (by decide) (by decide) (by decide))) rfl rfl rfl (fun w st=>(aI.own (l:=cs) aV).out w st) (fun v5 Rt=>?_);subst Rt
 refine oS (aT rfl) ?_;refine oZ bU ?_;refine eL bK (ah fun _ bT=>?_);refine cR fun _ bZ=>?_;refine oM ?_;refine aX (yB b cs il o1 c1 S1 D1 hQ.h1 n1 l1 hQ.w1 x1 d1) rfl rfl rfl ((aJ.bR bh (aJ.cy bh bh))) (fun _ _=>trivial) (fun v8 S8_ ⟨VT,hS8⟩=>?_);subst VT
 subst hS8;refine oS (aT rfl) ?_;refine oZ bZ ?_;refine eL bT (ah fun _ cj=>?_);refine cR fun _ ck=>?_;refine oM ?_;refine aX (wu b cs bl o2 c2 S2 D2 hQ.h2 n2 l2 hQ.w2 x2 d2) rfl rfl rfl ((aJ.bR bh (aJ.cy bh bh))) (fun _ _=>trivial) (fun v11 ale ⟨F9,Ru⟩=>?_);subst F9
 subst Ru;refine oS (aT rfl) ?_;refine oZ ck ?_;refine eL cj (ah fun _ cQ=>?_);refine cR fun _ bw=>?_;refine oM ?_;refine ar (tZ b cs (hQ.hz 3 (by decide) (by decide) (by decide) (by decide) (by decide) (by decide))) rfl rfl rfl (fun w st=>(aI.own (l:=cs) aV).out w st) (fun v14 acV=>?_);subst acV
 refine oS (aT rfl) ?_;refine oZ bw ?_;refine eL cQ (ah fun _ bF=>?_);refine cR fun _ bD=>?_;refine oM ?_;refine ar (ub b cs (hQ.hz 4 (by decide) (by decide) (by decide) (by decide) (by decide) (by decide))) rfl rfl rfl (fun w st=>(aI.own (l:=cs) aV).out w st) (fun v17 IU=>?_);subst IU
 refine oS (aT rfl) ?_;refine oZ bD ?_;refine eL bF (ah fun _ cb=>?_);refine cR fun _ bL=>?_;refine oM ?_;refine ar (ud b cs (hQ.hz 5 (by decide) (by decide) (by decide) (by decide) (by decide) (by decide))) rfl rfl rfl (fun w st=>(aI.own (l:=cs) aV).out w st) (fun v20 Cr=>?_);subst Cr
 refine oS (aT rfl) ?_;refine oZ bL ?_;refine eL cb (ah fun _ bQ=>?_);refine cR fun _ cO=>?_;refine oM ?_;refine ar (wv b cs (hQ.hz 6 (by decide) (by decide) (by decide) (by decide) (by decide) (by decide))) rfl rfl rfl (fun w st=>(aI.own (l:=cs) aV).out w st) (fun WH ue=>?_);subst ue
 refine oS (aT rfl) ?_;refine oZ cO ?_;refine eL bQ (ah fun _ df=>?_);refine cR fun _ cZ=>?_;refine oM ?_;refine aX (so b cs cl o7 c7 S7 D7 hQ.h7 n7 l7 hQ.w7 x7 d7) rfl rfl rfl ((aJ.bR bh (aJ.cy bh bh))) (fun _ _=>trivial) (fun P0 alf ⟨qP,IV⟩=>?_);subst qP
 subst IV;refine oS (aT rfl) ?_;refine oZ cZ ?_;refine eL df (ah fun _ dq=>?_);refine cR fun _ dG=>?_;refine oM ?_;refine aX (wx b cs nl o8 c8 S8 D8 hQ.h8 n8 l8 hQ.w8 x8 d8) rfl rfl rfl ((aJ.bR bh (aJ.cy bh bh))) (fun _ _=>trivial) (fun Rv alg ⟨oh,acX⟩=>?_);subst oh
 subst acX;refine oS (aT rfl) ?_;refine oZ dG ?_;refine eL dq (ah fun _ eb=>?_);refine cR fun _ dL=>?_;refine oM ?_;refine ar (su b cs (hQ.hz 9 (by decide) (by decide) (by decide) (by decide) (by decide) (by decide))) rfl rfl rfl (fun w st=>(aI.own (l:=cs) aV).out w st) (fun F2 g9=>?_);subst g9
 refine oS (aT rfl) ?_;refine oZ dL ?_;refine eL eb (ah fun _ dR=>?_);refine cR fun _ dk=>?_;refine oM ?_;refine ar (sw b cs (hQ.hz 10 (by decide) (by decide) (by decide) (by decide) (by decide) (by decide))) rfl rfl rfl (fun w st=>(aI.own (l:=cs) aV).out w st) (fun v35 Al=>?_);subst Al
 refine oS (aT rfl) ?_;refine oZ dk ?_;refine eL dR (ah fun _ dE=>?_);refine cR fun _ dS=>?_;refine oM ?_;refine ar (uf b cs (hQ.hz 11 (by decide) (by decide) (by decide) (by decide) (by decide) (by decide))) rfl rfl rfl (fun w st=>(aI.own (l:=cs) aV).out w st) (fun v38 Rw=>?_);subst Rw
 refine oS (aT rfl) ?_;refine oZ dS ?_;refine eL dE (ah fun _ dW=>?_);refine cR fun _ ee=>?_;refine oM ?_;refine ar (ug b cs (hQ.hz 12 (by decide) (by decide) (by decide) (by decide) (by decide) (by decide))) rfl rfl rfl (fun w st=>(aI.own (l:=cs) aV).out w st) (fun v41 Rx=>?_);subst Rx
 refine oS (aT rfl) ?_;refine oZ ee ?_;refine eL dW (ah fun _ eh=>?_);refine cR fun _ eD=>?_;refine oM ?_;refine ar (wy b cs (hQ.hz 13 (by decide) (by decide) (by decide) (by decide) (by decide) (by decide))) rfl rfl rfl (fun w st=>(aI.own (l:=cs) aV).out w st) (fun v44 Ry=>?_);subst Ry
 refine oS (aT rfl) ?_;refine oZ eD ?_;refine eL eh (ah fun _ dN=>?_);refine cR fun _ e6=>?_;refine oM ?_;refine aX (wz b cs xl yz og oT Rr hQ.H8 n14 l14 hQ.WE WG d14) rfl rfl rfl ((aJ.bR bh (aJ.cy bh bh))) (fun _ _=>trivial) (fun v47 aln ⟨Rz,yC⟩=>?_);subst Rz
 subst yC;refine oS (aT rfl) ?_;refine oZ e6 ?_;refine eL dN (ah fun _ du=>?_);refine cR fun _ fF=>?_;refine oM ?_;refine ar (sx b cs (hQ.hz 15 (by decide) (by decide) (by decide) (by decide) (by decide) (by decide))) rfl rfl rfl (fun w st=>(aI.own (l:=cs) aV).out w st) (fun v50 acY=>?_);subst acY
 refine oS (aT rfl) ?_;refine oZ fF ?_;refine eL du (ah fun _ fx=>?_);refine cR fun _ fN=>?_;refine oM ?_;refine ar (sy b cs (hQ.hz 16 (by decide) (by decide) (by decide) (by decide) (by decide) (by decide))) rfl rfl rfl (fun w st=>(aI.own (l:=cs) aV).out w st) (fun v53 Nz=>?_);subst Nz
 refine oS (aT rfl) ?_;refine oZ fN ?_;refine eL fx (ah fun _ gh=>?_);refine cR fun _ fZ=>?_;refine oM ?_;refine ar (uh b cs (hQ.hz 17 (by decide) (by decide) (by decide) (by decide) (by decide) (by decide))) rfl rfl rfl (fun w st=>(aI.own (l:=cs) aV).out w st) (fun v56 Cs=>?_);subst Cs
 refine oS (aT rfl) ?_;refine oZ fZ ?_;refine eL gh (ah fun _ iW=>?_);refine cR fun _ gA=>?_;refine oM ?_;refine ar (wD b cs (hQ.hz 18 (by decide) (by decide) (by decide) (by decide) (by decide) (by decide))) rfl rfl rfl (fun w st=>(aI.own (l:=cs) aV).out w st) (fun v59 Ga=>?_);subst Ga
 refine oS (aT rfl) ?_;refine oZ gA ?_;refine eL iW (cR fun _ iX=>?_);refine oM (oA (oZ iX (aA ?_)));refine ?_;exact xR rfl rfl (rfl)
theorem Gb {b:Nat}{il:List (Sl Int)}{bl:List (Sl Bool)}{cl:List (Sl Kl.Cl)}{nl:List (Sl Nd)}{xl:List (Sl (Sl Int))}{S:Hp}(hW:wq b il bl cl nl xl S)(n1:il.length≤400)(l1:∀ (j:Nat)(s:Sl (Int)),il[j]?=some s→s.xs.length≤4294967296)(x1:List (List (Int)))(D1:Hp)(d1:cG Ei 1 3 il x1 D1)(n2:bl.length≤400)(l2:∀ (j:Nat)(s:Sl (Bool)),bl[j]?=some s→s.xs.length≤4294967296)(x2:List (List (Bool)))(D2:Hp)(d2:cG fR 1 4 bl x2 D2)(n7:cl.length≤400)(l7:∀ (j:Nat)(s:Sl (Kl.Cl)),cl[j]?=some s→s.xs.length≤4294967296)(x7:List (List (Kl.Cl)))(D7:Hp)(d7:cG Ec 4 39 cl x7 D7)(n8:nl.length≤400)(l8:∀ (j:Nat)(s:Sl (Nd)),nl[j]?=some s→s.xs.length≤4294967296)(x8:List (List (Nd)))(D8:Hp)(d8:cG En 9 42 nl x8 D8)(n14:xl.length≤400)(l14:∀ (j:Nat)(s:Sl (Sl Int)),xl[j]?=some s→s.xs.length≤4294967296)(WG:List (List (Sl Int)))(Rr:Hp)(d14:cG cX 1 36 xl WG Rr):HL.Fn Tryz.prog 16 [.pointer (some ⟨b,0,none⟩)] (fun _=>True) (S++(D1++(D2++(D7++(D8++Rr))))) (fun v _=>v = .bool true):=by
 obtain⟨cs,o1,c1,S1,o2,c2,S2,o7,c7,S7,o8,c8,S8,yz,og,oT,rfl,hQ⟩:=hW
 simp only[List.cons_append,List.append_assoc]
 exact F8 b cs il o1 c1 S1 bl o2 c2 S2 cl o7 c7 S7 nl o8 c8 S8 xl yz og oT hQ n1 l1 x1 D1 d1 n2 l2 x2 D2 d2 n7 l7 x7 D7 d7 n8 l8 x8 D8 d8 n14 l14 WG Rr d14
end Go.Proofs.YtmompllplidphaaGreatDoor
namespace Go.HL.cm
open Go Go.HL Go.HL.Kl Go.HL.Kl.Mc
theorem qj {α:Type}{E:α→List Value}{k:Nat} [eB E k]{T:TypeId}{a:Option Addr}{n c:Nat}{xs:List α}{S:Hp}(h:aG E k T (.slice a n c) xs S):xs.length=n:=by
 obtain⟨a',c',e',_⟩:=h.sl.out
 simp at e'
 exact e'.2.1.symm
def k7:Kl.Cl:=lQ 0#256 0 7#64
theorem Yj:Ec k7 = [.int .u64 7,.int .u64 0,.int .u64 0,.int .u64 0]:=by
 unfold k7
 rw[← od _ _ (by decide),bk];rfl
theorem TN (w:BitVec 64):Value.int .u64 (IntKind.u64.wrap (BitVec.ofInt IntKind.u64.bits (w.toNat:Int) ^^^ BitVec.ofInt IntKind.u64.bits 6).toNat)=Ew (w ^^^ 6#64):=by
 have e1:(BitVec.ofInt 64 (w.toNat:Int))=w:=by
   apply BitVec.eq_of_toNat_eq
   rw[BitVec.toNat_ofInt]
   have:=w.isLt
   omega
 have e2:BitVec.ofInt 64 6=6#64:=by decide
 show Value.int .u64 (IntKind.u64.wrap (BitVec.ofInt 64 (w.toNat:Int) ^^^ BitVec.ofInt 64 6).toNat)=_
 rw[e1,e2]
 show Value.int .u64 (IntKind.u64.wrap ((w ^^^ 6#64).toNat:Int)) = .int .u64 _
 have:=(w ^^^ 6#64).isLt
 rw[cK (by omega)]
theorem wq.zero (b:Nat):wq b [] [] [] [] [] [(b,.cells (List.replicate 19 (Value.slice none 0 0)).toArray 63 (0,0))]:=
 ⟨List.replicate 19 (Value.slice none 0 0),none,0,[],none,0,[],none,0,[],none,0,[],none,0,[],rfl,rfl,rfl,rfl,rfl,rfl,.nil,.nil,.nil,.nil,.nil,fun i h _ _ _ _ _=>by rw[List.getElem?_replicate,if_pos h]⟩
structure Hd where
 a:Option Addr
 n:Nat
 c:Nat
def Hd.v (h:Hd):Value:=.slice h.a h.n h.c
def Ehd (h:Hd):List Value:=[h.v]
instance:eB Ehd 1:=⟨fun _=>rfl,fun h v hv=>by simp[Ehd,Hd.v] at hv;subst hv;rfl⟩
inductive Vu:List Hd→List (List Bool)→Hp→Prop
 | nil:Vu [] [] []
 | cons {h:Hd}{xs:List Bool}{hs:List Hd}{U:List (List Bool)}{S R:Hp}(ho:aG fR 1 4 h.v xs S)(hr:Vu hs U R):Vu (h::hs) (xs::U) (S++R)
def Vv (d:Df)(p:Nat):List Bool:=(List.range (d.ends.length+1)).map fun q=>decide (Of d p≠Of d q)
def aqj (d:Df)(p:Nat):List (List Bool):=(List.range p).map (Vv d)
structure ag7 (d:Df)(U:List (List Bool)):Prop where
 len:U.length=d.ends.length+1
 rows:∀ r∈U,r.length=d.ends.length+1
def Mz:List (List Bool)→Nat
 | []=>0
 | r::U=>dead r+Mz U
structure SwI (d:Df)(U0 U:List (List Bool))(more:Bool)(p q k:Nat):Prop where
 mat:ag7 d U
 mono:∀ p q,uG U0 p q=true→uG U p q=true
 none:more=false→U=U0∧∀ p' q' k',p'≤d.ends.length→q'≤d.ends.length→k'<d.atoms.length→(p'<p∨(p'=p∧(q'<q∨(q'=q∧k'<k))))→uG U0 (goE d p' k') (goE d q' k')=true→uG U0 p' q'=true
 some:more=true→Mz U<Mz U0
structure Rb where
 p:Int
 q:Int
 t:Sl UInt8
def ERb (x:Rb):List Value:=[.int .i64 x.p,.int .i64 x.q,x.t.v]
instance:eB ERb 3:=⟨fun _=>rfl,fun x v h=>by simp[ERb,Sl.v] at h;rcases h with rfl|rfl|rfl <;> rfl⟩
def Rb.pq (x:Rb):Int×Int:=(x.p,x.q)
def txs (rows:List Rb):List (List UInt8):=rows.map fun r=>r.t.xs
def TxO (iQ:Hp)(s:Sl UInt8):Prop:=∃ S0,c4 S0 iQ∧aG Eb 1 5 s.v s.xs S0
structure RbU (a b:Df)(i c:Nat)(rows:List Rb)(l:List Bo):Prop where
 j:UnJ a b i c l (txs rows)
 pq:rows.map Rb.pq=l.map Bo.pq
structure MtI (m n:Nat)(l:List Bo)(U:List (List Bool)):Prop where
 len:U.length=m+1
 rows:∀ r∈U,r.length=n+1
 get:∀ (p q:Int)(P Q:Nat),(P:Int)=p+1→(Q:Int)=q+1→P≤m→Q≤n→(uG U P Q=true↔(p,q)∈l.map Bo.pq)
def RUn (o:Option (List UInt8))(v:Value)(S:Hp):Prop:=(o=none∧v = .tuple #[.slice none 0 0,.bool false])∨∃ (t:List UInt8)(a:Option Addr)(c:Nat),o=some t∧v = .tuple #[.slice a t.length c,.bool true]∧lG Eb (.slice a t.length c) t S
structure Can (d:Df)(cn:Nat→Nat→Nat):Prop where
 z:cn 0 0=1
 st:∀ (q k:Nat)(row:List Int)(v:Int),d.next[q]?=some row→row[k]?=some v→v≤(cn q k:Int)∧cn q (k+1)=if v=(cn q k:Int) then cn q k+1 else cn q k
 nx:∀ q,q<d.ends.length→cn (q+1) 0=cn q d.atoms.length∧q<cn q 0
 fin:cn d.ends.length 0=d.ends.length
def LE (a b:Df)(p:Nat):Prop:=∀ t:List Nat,(∀ k∈t,k<a.atoms.length)→J0 a (p:Int) t=J0 b (p:Int) t
def ApD (d:Df):Prop:=∀ i j:Nat,i<d.ends.length→j<d.ends.length→i≠j→∃ t:List Nat,(∀ k∈t,k<d.atoms.length)∧J0 d (i:Int) t≠J0 d (j:Int) t
def AlD (d:Df):Prop:=∀ (q k:Nat)(row:List Int)(v:Int),d.next[q]?=some row→row[k]?=some v→0≤v→∃ t:List Nat,(∀ k∈t,k<d.atoms.length)∧J0 d v t=true
def miF (w:Wd)(P:List Nat)(lv:List Bool):Nat→Lm
 | 0=>⟨[0],[],[]⟩
 | q+1=>gH w P lv q (miF w P lv q)
def RG (w:Wd)(P:List Nat)(lv:List Bool)(q:Nat):List Nat:=w.next[(miF w P lv q).met[q]?.getD 0]?.getD []
def cnF (w:Wd)(P:List Nat)(lv:List Bool)(q k:Nat):Nat:=(cz P lv ((RG w P lv q).take k) (miF w P lv q).met).2.length
section
variable {w:Wd}{lv:List Bool}{m:Lm}{d:Df}
end
end Go.HL.cm
namespace Go.Proofs.YtmompllplidphaaGreatDoor
open Go Go.HL Go.Proofs Go.HL.Kl Go.HL.Kl.Mc Go.HL.cm
end Go.Proofs.YtmompllplidphaaGreatDoor
