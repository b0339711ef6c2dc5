/- Part of the proofs over this seat: see the text that holds the theorem. Conditions: each theorem bears its own. -/
import Derived.Test.YtmompllplidphaaGreatDoorSM21Z
import Derived.Test.YtmompllplidphaaGreatDoorSM10Z
import Derived.Test.YtmompllplidphaaGreatDoorGB10Z
namespace Go.HL.cm
open Go Go.HL Go.HL.Kl Go.HL.Kl.Mc
def Ir (x:Nd):Nat:=if x.mx<0 then x.mn.toNat else x.mx.toNat
def HB (x:Nd):List Nat:=if x.mx<0∧x.mn≤0 then [0] else (List.range (Ir x)).map (·+1)
def ly (r:F)(b:Nat)(alt:Bool)(c:cN):cN:=if alt then c else kz (je b r)++c
def e7:F→Nat→Bool→cN→List cN
 | .nil,_,_,_=>[]
 | .nd x ks r,b,alt,c=>
   (if x.op=6 then (List.range (Ir x+1)).map (fun m=>(b,m)::ly r (b+1+ks.size) alt c)++(HB x).flatMap (fun m=>e7 ks (b+1) false ((b,m)::ly r (b+1+ks.size) alt c))
     else ((b,0)::ly r (b+1+ks.size) alt c)::e7 ks (b+1) (decide (x.op=5)) (ly r (b+1+ks.size) alt c))++e7 r (b+1+ks.size) alt c
def oz:F→Nat→Bool→cN→List cN
 | .nil,_,_,_=>[]
 | .nd x ks r,b,alt,c=>
   (if x.op=1 then [ly r (b+1+ks.size) alt c] else if x.op=6 then (HB x).flatMap (fun m=>oz ks (b+1) false ((b,m)::ly r (b+1+ks.size) alt c))
     else oz ks (b+1) (decide (x.op=5)) (ly r (b+1+ks.size) alt c))++oz r (b+1+ks.size) alt c
theorem O5 {x:Nd}{r:Nat}(h:eH x=true)(h6:x.op=6)(hr:r≤Ir x)(hm:x.mx<0∨(r:Int)<x.mx):qv x r∈HB x:=by
 have hx:=qu h h6
 unfold Ir at hr
 unfold qv HB Ir
 by_cases h1:x.mx<0
 · rw[if_pos h1] at hr
   by_cases h2:x.mn≤0
   · rw[if_pos (show x.mx<0∧x.mn≤0 from ⟨h1,h2⟩)]
     apply List.mem_singleton.2
     rw[if_pos h1];omega
   · rw[if_neg (show ¬ (x.mx<0∧x.mn≤0) from fun h=>h2 h.2)]
     simp only[if_pos h1,List.mem_map,List.mem_range]
     exact⟨min (r+1) x.mn.toNat-1,by omega,by omega⟩
 · rw[if_neg h1] at hr
   rw[if_neg (show ¬ (x.mx<0∧x.mn≤0) from fun h=>h1 h.1)]
   simp only[if_neg h1,List.mem_map,List.mem_range]
   exact⟨r,by omega,rfl⟩
theorem LI {x:Nd}{m:Nat}(h:m∈HB x):m≤Ir x:=by
 unfold HB at h
 split at h
 · simp at h;omega
 · simp only[List.mem_map,List.mem_range] at h;omega
theorem lg:∀ (f:F)(b:Nat)(c:cN),kz (je b f)++c∈e7 f b false c∨kz (je b f)++c=c
 | .nil,b,c=>.inr rfl
 | .nd x ks r,b,c=>by
   left
   simp only[e7,je,kz,List.map_cons,List.cons_append]
   refine List.mem_append_left _ ?_
   by_cases h6:x.op=6
   · rw[if_pos h6]
     exact List.mem_append_left _ (List.mem_map.2 ⟨0,by simp,rfl⟩)
   · rw[if_neg h6];exact List.mem_cons_self
theorem vL:∀ (f:F)(b:Nat)(c:cN)(k:Nat),k∈je b f→(k,0)::c∈e7 f b true c
 | .nil,b,c,k,h=>by cases h
 | .nd x ks r,b,c,k,h=>by
   simp only[e7]
   rcases List.mem_cons.1 h with rfl|h
   · refine List.mem_append_left _ ?_
     by_cases h6:x.op=6
     · rw[if_pos h6]
       exact List.mem_append_left _ (List.mem_map.2 ⟨0,by simp,rfl⟩)
     · rw[if_neg h6];exact List.mem_cons_self
   · exact List.mem_append_right _ (vL r _ c k h)
theorem LJ (r:F)(b:Nat)(alt:Bool)(c:cN):ly r b alt c∈e7 r b alt c∨ly r b alt c=c:=by
 unfold ly
 cases alt with
 | true=>exact .inr rfl
 | false=>exact lg r b c
theorem lZ {re:List Nd}{S E:Prop}:∀ (f:F){b e:Nat}(alt:Bool)(c:cN),Part re f b e→∀ s∈e7 f b alt c,∀ t,rZ re S E s t→t∈e7 f b alt c∨t=c
 | .nil,b,e,alt,c,_,s,hs,_,_=>by cases hs
 | .nd x ks r,b,e,alt,c,h,s,hs,t,ho=>by
   obtain⟨C,hC⟩:∃ C,C=ly r (b+1+ks.size) alt c:=⟨_,rfl⟩
   have BA:C∈e7 r (b+1+ks.size) alt c∨C=c:=by rw[hC];exact LJ _ _ _ _
   have up:∀ {u:cN},u∈e7 r (b+1+ks.size) alt c∨u=c→u∈e7 (.nd x ks r) b alt c∨u=c:=fun h=>h.imp (fun h=>by simp only[e7];exact List.mem_append_right _ h) id
   have afU:x.op=6→∀ m,m≤Ir x→(b,m)::C∈e7 (.nd x ks r) b alt c:=fun h6 m hm=>by
     simp only[e7];rw[if_pos h6,← hC]
     exact List.mem_append_left _ (List.mem_append_left _ (List.mem_map.2 ⟨m,by simp;omega,rfl⟩))
   have in6:x.op=6→∀ m∈HB x,∀ u∈e7 ks (b+1) false ((b,m)::C),u∈e7 (.nd x ks r) b alt c:=fun h6 m hm u hu=>by
     simp only[e7];rw[if_pos h6,← hC]
     exact List.mem_append_left _ (List.mem_append_right _ (List.mem_flatMap.2 ⟨m,hm,hu⟩))
   have ui:¬ x.op=6→∀ u∈e7 ks (b+1) (decide (x.op=5)) C,u∈e7 (.nd x ks r) b alt c:=fun h6 u hu=>by
     simp only[e7];rw[if_neg h6,← hC]
     exact List.mem_append_left _ (List.mem_cons_of_mem _ hu)
   have pd:eH x=true:=h.wf.1
   have hp:=h.one
   have head:∀ m,rZ re S E ((b,m)::C) t→(x.op=6→m≤Ir x)→t∈e7 (.nd x ks r) b alt c∨t=c:=by
     intro m wa hm
     cases wa with
     | bol h1 ho hs=>exact up BA
     | Tg h1 ho hs=>exact up BA
     | cat h1 ho=>
       obtain⟨rfl,rfl,_⟩:=hp.ll h1
       rcases lg ks (b+1) C with g|g
       · exact .inl (ui (by omega) _ (by rw[decide_eq_false (by omega)];exact g))
       · rw[g];exact up BA
     | alt h1 ho hk=>
       obtain⟨rfl,rfl,_⟩:=hp.ll h1
       exact .inl (ui (by omega) _ (by rw[decide_eq_true ho];exact vL ks _ C _ hk))
     | V7 h1 ho=>
       obtain⟨rfl,rfl,_⟩:=hp.ll h1
       obtain⟨y,js,rfl⟩:=eN h1.wf (.inr ho)
       rcases lg (.nd y js .nil) (b+1) C with g|g
       · exact .inl (ui (by omega) _ (by rw[decide_eq_false (by omega)];exact g))
       · exact absurd (congrArg List.length g) (by simp[kz,je])
     | out h1 ho hr=>exact up BA
     | more h1 h6o hr=>
       obtain⟨rfl,rfl,_⟩:=hp.ll h1
       obtain⟨y,js,rfl⟩:=eN h1.wf (.inl h6o)
       have hmm:=O5 pd h6o (hm h6o) hr
       rcases lg (.nd y js .nil) (b+1) ((b,qv x m)::C) with g|g
       · exact .inl (in6 h6o _ hmm _ g)
       · exact absurd (congrArg List.length g) (by simp[kz,je])
   simp only[e7] at hs
   rw[← hC] at hs
   rcases List.mem_append.1 hs with hs|hs
   · by_cases h6:x.op=6
     · rw[if_pos h6] at hs
       rcases List.mem_append.1 hs with hs|hs
       · obtain⟨m,hm,rfl⟩:=List.mem_map.1 hs
         exact head m ho fun _=>by simp at hm;omega
       · obtain⟨m,hm,hs⟩:=List.mem_flatMap.1 hs
         rcases lZ ks false _ h.head.2.1 s hs t ho with g|g
         · exact .inl (in6 h6 m hm t g)
         · rw[g];exact .inl (afU h6 m (LI hm))
     · rw[if_neg h6] at hs
       rcases List.mem_cons.1 hs with rfl|hs
       · exact head 0 ho fun h=>absurd h h6
       · rcases lZ ks _ _ h.head.2.1 s hs t ho with g|g
         · exact .inl (ui h6 t g)
         · rw[g];exact up BA
   · exact up (lZ r alt c h.head.2.2 s hs t ho)
theorem qa {re:List Nd}:∀ (f:F){b e:Nat}(alt:Bool)(c:cN),Part re f b e→∀ (i m:Nat)(t:cN)(x:Nd),(i,m)::t∈e7 f b alt c→re[i]?=some x→x.op=1→t∈oz f b alt c
 | .nil,b,e,alt,c,_,i,m,t,x,hs,_,_=>by cases hs
 | .nd y ks r,b,e,alt,c,h,i,m,t,x,hs,hx,h1=>by
   obtain⟨C,hC⟩:∃ C,C=ly r (b+1+ks.size) alt c:=⟨_,rfl⟩
   have hb:=h.head.1
   simp only[e7] at hs
   simp only[oz]
   rw[← hC] at hs ⊢
   rcases List.mem_append.1 hs with hs|hs
   · refine List.mem_append_left _ ?_
     by_cases h6:y.op=6
     · rw[if_pos h6] at hs
       rw[if_neg (by omega),if_pos h6]
       rcases List.mem_append.1 hs with hs|hs
       · obtain⟨m',hm,e⟩:=List.mem_map.1 hs
         obtain⟨e1,rfl⟩:=List.cons.inj e
         obtain⟨rfl,rfl⟩:=Prod.mk.inj e1
         rw[hb] at hx
         obtain rfl:=Option.some.inj hx
         omega
       · obtain⟨m',hm,hs⟩:=List.mem_flatMap.1 hs
         exact List.mem_flatMap.2 ⟨m',hm,qa ks false _ h.head.2.1 i m t x hs hx h1⟩
     · rw[if_neg h6] at hs
       rcases List.mem_cons.1 hs with e|hs
       · obtain⟨e1,rfl⟩:=List.cons.inj e
         obtain⟨rfl,rfl⟩:=Prod.mk.inj e1
         rw[hb] at hx
         obtain rfl:=Option.some.inj hx
         rw[if_pos h1];exact List.mem_singleton.2 rfl
       · have g:=qa ks _ _ h.head.2.1 i m t x hs hx h1
         have dM:¬ y.op=1:=fun hy=>by
           have hk:ks = .nil:=by
             have hw:=h.wf.2.1
             have pd:=h.wf.1
             simp only[eH,Bool.and_eq_true,gi] at pd
             have h2:=pd.2
             rw[if_neg (by omega),if_neg (by omega),if_neg (by omega)] at h2
             have h3:y.kids=0:=by simpa using h2
             cases ks with
             | nil=>rfl
             | nd z a b=>simp[F.num] at hw;omega
           subst hk;cases g
         rw[if_neg dM,if_neg h6];exact g
   · exact List.mem_append_right _ (qa r alt c h.head.2.2 i m t x hs hx h1)
theorem tB:∀ (f:F)(b:Nat)(alt:Bool)(c:cN),∀ t∈oz f b alt c,t∈e7 f b alt c∨t=c
 | .nil,b,alt,c,t,h=>by cases h
 | .nd x ks r,b,alt,c,t,h=>by
   obtain⟨C,hC⟩:∃ C,C=ly r (b+1+ks.size) alt c:=⟨_,rfl⟩
   have BA:C∈e7 r (b+1+ks.size) alt c∨C=c:=by rw[hC];exact LJ _ _ _ _
   simp only[oz] at h
   simp only[e7]
   rw[← hC] at h ⊢
   rcases List.mem_append.1 h with h|h
   · by_cases h1:x.op=1
     · rw[if_pos h1] at h
       rw[List.mem_singleton.1 h]
       exact BA.imp (fun h=>List.mem_append_right _ h) id
     · rw[if_neg h1] at h
       by_cases h6:x.op=6
       · rw[if_pos h6] at h ⊢
         obtain⟨m,hm,h⟩:=List.mem_flatMap.1 h
         rcases tB ks _ _ _ t h with g|g
         · exact .inl (List.mem_append_left _ (List.mem_append_right _ (List.mem_flatMap.2 ⟨m,hm,g⟩)))
         · rw[g];exact .inl (List.mem_append_left _ (List.mem_append_left _ (List.mem_map.2 ⟨m,by have:=LI hm;simp;omega,rfl⟩)))
       · rw[if_neg h6] at h ⊢
         rcases tB ks _ _ _ t h with g|g
         · exact .inl (List.mem_append_left _ (List.mem_cons_of_mem _ g))
         · rw[g];exact BA.imp (fun h=>List.mem_append_right _ h) id
   · exact (tB r _ _ _ t h).imp (fun h=>List.mem_append_right _ h) id
theorem tH:∀ (f:F)(b:Nat),(je b f).length=f.num
 | .nil,_=>rfl
 | .nd x ks r,b=>by simp[je,F.num,tH r]
theorem O6 (r:F)(b:Nat)(alt:Bool)(c:cN):(ly r b alt c).length≤r.num+c.length:=by
 unfold ly
 cases alt <;> simp[kz,tH]
theorem nD:∀ (f:F)(b:Nat)(alt:Bool)(c:cN),∀ t∈e7 f b alt c,t.length≤c.length+2*f.size
 | .nil,b,alt,c,t,h=>by cases h
 | .nd x ks r,b,alt,c,t,h=>by
   have hC:=O6 r (b+1+ks.size) alt c
   have hn:=F.ju r
   simp only[e7] at h
   simp only[F.size]
   rcases List.mem_append.1 h with h|h
   · by_cases h6:x.op=6
     · rw[if_pos h6] at h
       rcases List.mem_append.1 h with h|h
       · obtain⟨m,_,rfl⟩:=List.mem_map.1 h
         simp only[List.length_cons];omega
       · obtain⟨m,_,h⟩:=List.mem_flatMap.1 h
         have:=nD ks _ _ _ t h
         simp only[List.length_cons] at this;omega
     · rw[if_neg h6] at h
       rcases List.mem_cons.1 h with rfl|h
       · simp only[List.length_cons];omega
       · have:=nD ks _ _ _ t h
         omega
   · have:=nD r _ _ _ t h;omega
theorem oJ {α β:Type}{f:α→List β}{n:Nat}:∀ (l:List α),(∀ x∈l,(f x).length≤n)→(l.flatMap f).length≤l.length*n
 | [],_=>by simp
 | x::l,h=>by
   have h1:=oJ l fun y hy=>h y (List.mem_cons_of_mem _ hy)
   have h2:=h x List.mem_cons_self
   simp only[List.flatMap_cons,List.length_append,List.length_cons,Nat.succ_mul];omega
theorem BB {x:Nd}(h:eH x=true)(h6:x.op=6):(HB x).length≤times x∧Ir x≤times x:=by
 have hx:=qu h h6
 unfold HB times Ir
 rw[if_pos h6]
 by_cases h1:x.mx<0
 · simp only[if_pos h1,h1,true_and]
   by_cases h2:x.mn≤0
   · rw[if_pos h2];simp
   · rw[if_neg h2];simp only[List.length_map,List.length_range,if_true];omega
 · simp only[if_neg h1,h1,false_and,if_false]
   simp
   omega
theorem iw (x:Nd):1≤times x:=by
 unfold times
 split
 · split <;> omega
 · exact Nat.le_refl _
theorem qw:∀ (f:F)(b:Nat)(alt:Bool)(c:cN),f.wf→(e7 f b alt c).length+2*f.num≤3*f.weight
 | .nil,b,alt,c,_=>by simp[e7,F.num]
 | .nd x ks r,b,alt,c,hw=>by
   have hr:=qw r (b+1+ks.size) alt c hw.2.2.2
   have yp:=iw x
   have hmul:ks.weight≤times x*ks.weight:=Nat.le_mul_of_pos_left _ yp
   simp only[e7,F.weight,F.num,List.length_append]
   by_cases h6:x.op=6
   · rw[if_pos h6]
     obtain⟨t1,t2⟩:=BB hw.1 h6
     obtain⟨y,js,rfl⟩:∃ y js,ks = .nd y js .nil:=Go.HL.Kl.Mc.eN (show (F.nd x ks .nil).wf from ⟨hw.1,hw.2.1,hw.2.2.1,trivial⟩) (.inl h6)
     have hk:∀ m∈HB x,(e7 (.nd y js .nil) (b+1) false ((b,m)::ly r (b+1+(F.nd y js .nil).size) alt c)).length≤3*(F.nd y js .nil).weight-2:=fun m _=>by
       have:=qw (.nd y js .nil) (b+1) false ((b,m)::ly r (b+1+(F.nd y js .nil).size) alt c) hw.2.2.1
       simp only[F.num] at this;omega
     have h1:=oJ _ hk
     have hwp:1≤(F.nd y js .nil).weight:=by simp only[F.weight];omega
     obtain⟨W,hW⟩:∃ W,W=(F.nd y js .nil).weight:=⟨_,rfl⟩
     rw[← hW] at h1 hwp hmul ⊢
     have h2:(HB x).length*(3*W-2)≤times x*(3*W-2):=Nat.mul_le_mul_right _ t1
     have h3:times x*(3*W-2)+2*times x=3*(times x*W):=by
       rw[← Nat.mul_comm (times x) 2,← Nat.mul_add,show 3*W-2+2=3*W by omega,Nat.mul_left_comm]
     simp only[List.length_append,List.length_map,List.length_range]
     omega
   · rw[if_neg h6]
     have hk:=qw ks (b+1) (decide (x.op=5)) (ly r (b+1+ks.size) alt c) hw.2.2.1
     simp only[List.length_cons];omega
theorem qc:∀ (f:F)(b:Nat)(alt:Bool)(c:cN),f.wf→(oz f b alt c).length≤f.weight
 | .nil,b,alt,c,_=>by simp[oz]
 | .nd x ks r,b,alt,c,hw=>by
   have hr:=qc r (b+1+ks.size) alt c hw.2.2.2
   have yp:=iw x
   have hmul:ks.weight≤times x*ks.weight:=Nat.le_mul_of_pos_left _ yp
   simp only[oz,F.weight,List.length_append]
   by_cases h1:x.op=1
   · rw[if_pos h1];simp only[List.length_singleton];omega
   · rw[if_neg h1]
     by_cases h6:x.op=6
     · rw[if_pos h6]
       obtain⟨t1,t2⟩:=BB hw.1 h6
       have hk:∀ m∈HB x,(oz ks (b+1) false ((b,m)::ly r (b+1+ks.size) alt c)).length≤ks.weight:=fun m _=>qc ks _ _ _ hw.2.2.1
       have h3:=oJ _ hk
       have h2:(HB x).length*ks.weight≤times x*ks.weight:=Nat.mul_le_mul_right _ t1
       omega
     · rw[if_neg h6]
       have hk:=qc ks (b+1) (decide (x.op=5)) (ly r (b+1+ks.size) alt c) hw.2.2.1
       omega
theorem tI {re:List Nd}:∀ (f:F){b e:Nat}(alt:Bool)(c:cN),Part re f b e→∀ (i r:Nat)(u:cN),(i,r)::u∈e7 f b alt c→b≤i∧i<e
 | .nil,b,e,alt,c,_,i,r,u,h=>by cases h
 | .nd x ks r',b,e,alt,c,h,i,r,u,hs=>by
   have hl:=h.len
   simp only[F.size] at hl
   have one:∀ {m:Nat}{C:cN},(i,r)::u=(b,m)::C→b≤i∧i<e:=fun he=>by
     have:=(Prod.mk.inj (List.cons.inj he).1).1
     omega
   simp only[e7] at hs
   rcases List.mem_append.1 hs with hs|hs
   · by_cases h6:x.op=6
     · rw[if_pos h6] at hs
       rcases List.mem_append.1 hs with hs|hs
       · obtain⟨m,_,he⟩:=List.mem_map.1 hs
         exact one he.symm
       · obtain⟨m,_,hs⟩:=List.mem_flatMap.1 hs
         have:=tI ks _ _ h.head.2.1 i r u hs
         omega
     · rw[if_neg h6] at hs
       rcases List.mem_cons.1 hs with he|hs
       · exact one he
       · have:=tI ks _ _ h.head.2.1 i r u hs
         omega
   · have:=tI r' _ _ h.head.2.2 i r u hs
     omega
theorem tJ:∀ (f:F)(b:Nat)(alt:Bool)(c:cN),f.wf→∀ (i r:Nat)(u:cN),(i,r)::u∈e7 f b alt c→r≤255
 | .nil,b,alt,c,_,i,r,u,h=>by cases h
 | .nd x ks r',b,alt,c,hw,i,r,u,hs=>by
   have one:∀ {m:Nat}{C:cN},(i,r)::u=(b,m)::C→r=m:=fun he=>(Prod.mk.inj (List.cons.inj he).1).2
   simp only[e7] at hs
   rcases List.mem_append.1 hs with hs|hs
   · by_cases h6:x.op=6
     · rw[if_pos h6] at hs
       rcases List.mem_append.1 hs with hs|hs
       · obtain⟨m,hm,he⟩:=List.mem_map.1 hs
         have h1:=qu hw.1 h6
         have h2:=one he.symm
         have h3:m≤Ir x:=by simp at hm;omega
         unfold Ir at h3
         split at h3 <;> omega
       · obtain⟨m,_,hs⟩:=List.mem_flatMap.1 hs
         exact tJ ks _ _ _ hw.2.2.1 i r u hs
     · rw[if_neg h6] at hs
       rcases List.mem_cons.1 hs with he|hs
       · have:=one he;omega
       · exact tJ ks _ _ _ hw.2.2.1 i r u hs
   · exact tJ r' _ _ _ hw.2.2.2 i r u hs
structure oy (re:List Nd)(S E:Prop)(t:cN)(seen cur ys:List cN):Prop where
 pre:∃ nw,cur=seen++t::nw∧(∀ x∈nw,AV re S E t x)∧∀ x∈nw,∀ y,rZ re S E x y→y∈cur
 ys:∀ y∈ys,y∈cur
 nd:cur.Nodup
structure zf (re:List Nd)(S E:Prop)(t:cN)(seen cur:List cN):Prop where
 pre:∃ nw,cur=seen++nw∧(∀ x∈nw,AV re S E t x)∧∀ x∈nw,∀ y,rZ re S E x y→y∈cur
 mem:t∈cur
 nd:cur.Nodup
section
variable {re:List Nd}{S E:Prop}{t y:cN}{seen cur J1 ys:List cN}
theorem zf.old (h:t∈seen)(hn:seen.Nodup):zf re S E t seen seen:=⟨⟨[],by simp,by simp,by simp⟩,h,hn⟩
theorem oy.start (h:t∉seen)(hn:seen.Nodup):oy re S E t seen (seen++[t]) []:=⟨⟨[],rfl,by simp,by simp⟩,by simp,by
 rw[List.nodup_append];exact⟨hn,by simp,fun a ha b hb=>by simp at hb;subst hb;rintro rfl;exact h ha⟩⟩
theorem oy.step (h:oy re S E t seen cur ys)(hp:zf re S E y cur J1)(ho:rZ re S E t y):oy re S E t seen J1 (ys++[y]):=by
 obtain⟨nw,h1,h2,h3⟩:=h.pre
 obtain⟨nw',g1,g2,g3⟩:=hp.pre
 refine⟨⟨nw++nw',by rw[g1,h1];simp,fun x hx=>?_,fun x hx z hz=>?_⟩,fun z hz=>?_,hp.nd⟩
 · rcases List.mem_append.1 hx with hx|hx
   · exact h2 x hx
   · exact .step ho (g2 x hx)
 · rcases List.mem_append.1 hx with hx|hx
   · rw[g1];exact List.mem_append_left _ (h3 x hx z hz)
   · exact g3 x hx z hz
 · rcases List.mem_append.1 hz with hz|hz
   · rw[g1];exact List.mem_append_left _ (h.ys z hz)
   · rw[List.mem_singleton.1 hz];exact hp.mem
theorem oy.fin (h:oy re S E t seen cur ys)(ho:∀ y,rZ re S E t y→y∈ys):zf re S E t seen cur:=by
 obtain⟨nw,h1,h2,h3⟩:=h.pre
 refine⟨⟨t::nw,h1,fun x hx=>?_,fun x hx z hz=>?_⟩,by rw[h1];simp,h.nd⟩
 · rcases List.mem_cons.1 hx with rfl|hx
   · exact .refl
   · exact h2 x hx
 · rcases List.mem_cons.1 hx with rfl|hx
   · exact h.ys z (ho z hz)
   · exact h3 x hx z hz
theorem oy.sub (h:oy re S E t seen cur ys):∃ nw,cur=seen++t::nw:=by
 obtain⟨nw,h1,_⟩:=h.pre;exact⟨nw,h1⟩
end
structure Ii (re:List Nd)(S E:Prop)(l:List cN)(i:Nat)(cur:List cN):Prop where
 all:∀ (j:Nat)(s:cN),j<i→l[j]?=some s→s∈cur
 rch:∀ x∈cur,∃ s∈l,AV re S E s x
 cls:∀ x∈cur,∀ y,rZ re S E x y→y∈cur
 nd:cur.Nodup
section
variable {re:List Nd}{S E:Prop}{l cur J1:List cN}{i:Nat}{s:cN}
theorem Ii.zero:Ii re S E l 0 []:=⟨fun j s h=>by omega,by simp,by simp,by simp⟩
theorem Ii.step (h:Ii re S E l i cur)(hs:l[i]?=some s)(hp:zf re S E s cur J1):Ii re S E l (i+1) J1:=by
 obtain⟨nw,h1,h2,h3⟩:=hp.pre
 refine⟨fun j z hj hz=>?_,fun x hx=>?_,fun x hx z hz=>?_,hp.nd⟩
 · rcases Nat.lt_or_ge j i with hji|hji
   · rw[h1];exact List.mem_append_left _ (h.all j z hji hz)
   · obtain rfl:j=i:=by omega
     rw[hs] at hz
     rw[← Option.some.inj hz];exact hp.mem
 · rw[h1] at hx
   rcases List.mem_append.1 hx with hx|hx
   · exact h.rch x hx
   · exact⟨s,List.mem_of_getElem? hs,h2 x hx⟩
 · rw[h1] at hx
   rcases List.mem_append.1 hx with hx|hx
   · rw[h1];exact List.mem_append_left _ (h.cls x hx z hz)
   · exact h3 x hx z hz
theorem Ii.mem (h:Ii re S E l i cur)(hi:l.length≤i){x:cN}:x∈cur↔∃ s∈l,AV re S E s x:=by
 constructor
 · exact h.rch x
 · rintro⟨s,hs,hr⟩
   obtain⟨j,hj⟩:=List.getElem?_of_mem hs
   have h0:=h.all j s (by have:=(List.getElem?_eq_some_iff.1 hj).1;omega) hj
   clear hs hj
   induction hr with
   | refl=>exact h0
   | step h1 _ ih=>exact ih (h.cls _ h0 _ h1)
end
def nP (re:List Nd)(t:cN):Bool:=match t with
 | []=>false
 | p::_=>(re[p.1]?.map fun x=>decide (x.op=1)).getD false
def hasB (re:List Nd)(b:Nat)(t:cN):Bool:=match t with
 | []=>false
 | p::_=>(re[p.1]?.map fun x=>x.set.getLsbD b).getD false
def J2 (re:List Nd)(b:Nat):List cN→List cN→List cN
 | [],out=>out
 | t::h,out=>J2 re b h (if hasB re b t then dD out t.tail else out)
theorem xz {re:List Nd}{b:Nat}:∀ (h out:List cN),out.Nodup→(J2 re b h out).Nodup
 | [],_,ho=>ho
 | t::h,out,ho=>by
   unfold J2
   apply xz
   split
   · exact kK ho _
   · exact ho
theorem Ff {re:List Nd}{b:Nat}{u:cN}:∀ (h out:List cN),u∈J2 re b h out↔u∈out∨∃ t∈h,hasB re b t=true∧t.tail=u
 | [],out=>by simp[J2]
 | t::h,out=>by
   unfold J2
   rw[Ff h]
   by_cases hb:hasB re b t=true
   · rw[if_pos hb,zg]
     constructor
     · rintro ((h1|h1)|⟨t',h1,h2⟩)
       · exact .inl h1
       · exact .inr ⟨t,List.mem_cons_self,hb,h1.symm⟩
       · exact .inr ⟨t',List.mem_cons_of_mem _ h1,h2⟩
     · rintro (h1|⟨t',h1,h2,h3⟩)
       · exact .inl (.inl h1)
       · rcases List.mem_cons.1 h1 with rfl|h1
         · exact .inl (.inr h3.symm)
         · exact .inr ⟨t',h1,h2,h3⟩
   · rw[if_neg hb]
     constructor
     · rintro (h1|⟨t',h1,h2⟩)
       · exact .inl h1
       · exact .inr ⟨t',List.mem_cons_of_mem _ h1,h2⟩
     · rintro (h1|⟨t',h1,h2,h3⟩)
       · exact .inl h1
       · rcases List.mem_cons.1 h1 with rfl|h1
         · exact absurd h2 hb
         · exact .inr ⟨t',h1,h2,h3⟩
def sQ (n:Nd)(ks:F)(t:cN):Prop:=t∈e7 (.nd n ks .nil) 0 false []∨t = []
theorem sQ.op {re:List Nd}{n:Nd}{ks:F}(hS:Mc.iR re n ks){S E:Prop}{s t:cN}(h:sQ n ks s)(ho:rZ re S E s t):sQ n ks t:=by
 rcases h with h|rfl
 · exact lZ _ false [] hS.part s h t ho
 · cases ho
theorem sQ.rch {re:List Nd}{n:Nd}{ks:F}(hS:Mc.iR re n ks){S E:Prop}{s t:cN}(h:sQ n ks s)(hr:AV re S E s t):sQ n ks t:=by
 induction hr with
 | refl=>exact h
 | step h1 _ ih=>exact ih (h.op hS h1)
theorem sQ.root (n:Nd)(ks:F):sQ n ks [(0,0)]:=by
 rcases lg (.nd n ks .nil) 0 [] with h|h
 · left;simpa [kz,je] using h
 · simp[kz,je] at h
def Bh (re:List Nd)(S:Prop)(l:List cN)(b:Nat)(u:cN):Prop:=∃ (i r:Nat)(x:Nd),(∃ s∈l,AV re S False s ((i,r)::u))∧re[i]?=some x∧x.op=1∧x.set.getLsbD b=true
def u1 (re:List Nd)(S:Prop)(l:List cN):Prop:=∃ s∈l,AV re S True s []
theorem Te {re:List Nd}{n:Nd}{ks:F}(hS:Mc.iR re n ks){S:Prop}{l:List cN}{b:Nat}{u:cN}(hl:∀ s∈l,sQ n ks s)(h:Bh re S l b u):u∈oz (.nd n ks .nil) 0 false []:=by
 obtain⟨i,r,x,⟨s,hs,hr⟩,hx,h1,_⟩:=h
 rcases (hl s hs).rch hS hr with h2|h2
 · exact qa _ false [] hS.part i r u x h2 hx h1
 · cases h2
theorem Oj {n:Nd}{ks:F}{u:cN}(h:u∈oz (.nd n ks .nil) 0 false []):sQ n ks u:=tB _ _ _ _ _ h
theorem XM {re:List Nd}{S:Prop}{l cur:List cN}{b:Nat}{u:cN}(h:∀ x,x∈cur↔∃ s∈l,AV re S False s x):u∈J2 re b (cur.filter (nP re)) []↔Bh re S l b u:=by
 rw[Ff]
 constructor
 · rintro (h1|⟨t,h1,h2,h3⟩)
   · cases h1
   · obtain⟨g1,g2⟩:=List.mem_filter.1 h1
     match t,g2,h2,h3,g1 with
     | [],g2,_,_,_=>cases g2
     | p::t,g2,h2,h3,g1=>
       have h3:t=u:=h3
       subst h3
       simp only[nP] at g2
       simp only[hasB] at h2
       cases hx:re[p.1]? with
       | none=>rw[hx] at g2;cases g2
       | some x=>
         rw[hx] at g2 h2
         exact⟨p.1,p.2,x,(h _).1 g1,hx,of_decide_eq_true g2,h2⟩
 · rintro⟨i,r,x,hr,hx,h1,h2⟩
   refine .inr ⟨(i,r)::u,List.mem_filter.2 ⟨(h _).2 hr,?_⟩,?_,rfl⟩
   · simp[nP,hx,h1]
   · simp[hasB,hx,h2]
structure WR (re:List Nd)(n:Nd)(ks:F)(lb:List Nat)(sets:List (List cN))(next:List (List Nat))(ends:List Bool)(q:Nat):Prop where
 z:sets[0]?=some [[(0,0)]]
 ln:next.length=q
 le:ends.length=q
 qs:q≤sets.length
 en:∀ p l,p<q→sets[p]?=some l→∃ e,ends[p]?=some e∧(e=true↔u1 re (p=0) l)
 row:∀ p l,p<q→sets[p]?=some l→∃ row,next[p]?=some row∧row.length=lb.length∧∀ (k to b:Nat),row[k]?=some to→lb[k]?=some b→1≤to∧∃ l',sets[to]?=some l'∧∀ u,u∈l'↔Bh re (p=0) l b u
 st:∀ i l,1≤i→sets[i]?=some l→l.Nodup∧∀ u∈l,u∈oz (.nd n ks .nil) 0 false []
 ap:∀ i j a b,1≤i→i<j→sets[i]?=some a→sets[j]?=some b→¬ ∀ u,u∈a↔u∈b
theorem WR.inU {re:List Nd}{n:Nd}{ks:F}{lb:List Nat}{sets:List (List cN)}{next:List (List Nat)}{ends:List Bool}{q:Nat}(h:WR re n ks lb sets next ends q){p:Nat}{l:List cN}(hl:sets[p]?=some l):∀ s∈l,sQ n ks s:=by
 intro s hs
 rcases Nat.eq_zero_or_pos p with rfl|hp
 · rw[h.z] at hl
   obtain rfl:=Option.some.inj hl
   rw[List.mem_singleton.1 hs];exact sQ.root n ks
 · exact Oj ((h.st p l hp hl).2 s hs)
def M8:List cN→List cN→Nat
 | [],_=>0
 | u::C,l=>(if u∈l then 1 else 0)+2*M8 C l
theorem J3:∀ (C l:List cN),M8 C l<2 ^ C.length
 | [],l=>by simp[M8]
 | u::C,l=>by
   have:=J3 C l
   simp only[M8,List.length_cons,Nat.pow_succ]
   split <;> omega
theorem Fg:∀ (C:List cN){a b:List cN},M8 C a=M8 C b→∀ u∈C,u∈a↔u∈b
 | [],_,_,_,u,h=>by cases h
 | v::C,a,b,h,u,hu=>by
   simp only[M8] at h
   have h1:M8 C a=M8 C b∧(v∈a↔v∈b):=by
     by_cases c1:v∈a <;> by_cases c2:v∈b
     · rw[if_pos c1,if_pos c2] at h;exact⟨by omega,iff_of_true c1 c2⟩
     · rw[if_pos c1,if_neg c2] at h;omega
     · rw[if_neg c1,if_pos c2] at h;omega
     · rw[if_neg c1,if_neg c2] at h;exact⟨by omega,iff_of_false c1 c2⟩
   rcases List.mem_cons.1 hu with rfl|hu
   · exact h1.2
   · exact Fg C h1.1 u hu
theorem r4 {α:Type}{R:α→α→Prop}:∀ {l:List α},(∀ (i j:Nat)(a b:α),i<j→l[i]?=some a→l[j]?=some b→R a b)→l.Pairwise R
 | [],_=>.nil
 | x::l,h=>.cons (fun y hy=>by obtain⟨j,hj⟩:=List.getElem?_of_mem hy;exact h 0 (j+1) x y (by omega) rfl hj) (r4 fun i j a b nn h1 h2=>h (i+1) (j+1) a b (by omega) h1 h2)
theorem WR.many {re:List Nd}{n:Nd}{ks:F}{lb:List Nat}{sets:List (List cN)}{next:List (List Nat)}{ends:List Bool}{q:Nat}(hS:Mc.iR re n ks)(hw:(F.nd n ks .nil).weight≤20)(h:WR re n ks lb sets next ends q):sets.length≤1048577:=by
 obtain⟨C,hC⟩:∃ C,C=oz (.nd n ks .nil) 0 false []:=⟨_,rfl⟩
 have hCl:C.length≤20:=by rw[hC];exact Nat.le_trans (qc _ _ _ _ hS.wf) hw
 have yg:((sets.drop 1).map (M8 C)).Nodup:=by
   unfold List.Nodup
   rw[List.pairwise_map]
   refine r4 fun i j a b nn ha hb he=>?_
   rw[List.getElem?_drop] at ha hb
   refine h.ap (1+i) (1+j) a b (by omega) (by omega) ha hb fun u=>?_
   have hi:=Fg C he
   have hA:=(h.st _ a (by omega) ha).2
   have hB:=(h.st _ b (by omega) hb).2
   rw[← hC] at hA hB
   exact⟨fun hu=>(hi u (hA u hu)).1 hu,fun hu=>(hi u (hB u hu)).2 hu⟩
 have cH:=fJ yg (n:=1048576) fun x hx=>by
   obtain⟨l,_,rfl⟩:=List.mem_map.1 hx
   exact Nat.lt_of_lt_of_le (J3 C l) (Nat.pow_le_pow_right (by omega) hCl)
 simp only[List.length_map,List.length_drop] at cH
 omega
end Go.HL.cm
namespace Go.HL.cm
open Go Go.HL Go.HL.Kl Go.HL.Kl.Mc
theorem WR.zero {re:List Nd}{n:Nd}{ks:F}{lb:List Nat}:WR re n ks lb [[[(0,0)]]] [] [] 0 where
 z:=rfl
 ln:=rfl
 le:=rfl
 qs:=Nat.zero_le _
 en:=fun p l h=>by omega
 row:=fun p l h=>by omega
 st:=fun i l hi h=>by obtain⟨i,rfl⟩:∃ j,i=j+1:=⟨i-1,by omega⟩;simp at h
 ap:=fun i j a b hi nn ha hb=>by obtain⟨i,rfl⟩:∃ j,i=j+1:=⟨i-1,by omega⟩;simp at ha
structure WK (re:List Nd)(n:Nd)(ks:F)(lb:List Nat)(sets:List (List cN))(next:List (List Nat))(ends:List Bool)(q:Nat)(l:List cN)(row:List Nat)(k:Nat):Prop where
 w:WR re n ks lb sets next ends q
 ql:sets[q]?=some l
 kl:row.length=k
 kk:k≤lb.length
 get:∀ (j to b:Nat),row[j]?=some to→lb[j]?=some b→1≤to∧∃ l',sets[to]?=some l'∧∀ u,u∈l'↔Bh re (q=0) l b u
section
variable {re:List Nd}{n:Nd}{ks:F}{lb:List Nat}{sets:List (List cN)}{next:List (List Nat)}{ends:List Bool}{q k b:Nat}{l s:List cN}{row:List Nat}
theorem WK.zero (h:WR re n ks lb sets next ends q)(hl:sets[q]?=some l):WK re n ks lb sets next ends q l [] 0:=⟨h,hl,rfl,Nat.zero_le _,fun j to b hj=>by simp at hj⟩
theorem WK.old (h:WK re n ks lb sets next ends q l row k)(hb:lb[k]?=some b){to:Nat}(h1:1≤to){l':List cN}(ht:sets[to]?=some l')(he:∀ u,u∈l'↔Bh re (q=0) l b u):WK re n ks lb sets next ends q l (row++[to]) (k+1):=by
 refine⟨h.w,h.ql,by simp[h.kl],(List.getElem?_eq_some_iff.1 hb).1,fun j t c hj hc=>?_⟩
 rcases Nat.lt_or_ge j k with Uo|Uo
 · rw[List.getElem?_append_left (by rw[h.kl];exact Uo)] at hj
   exact h.get j t c hj hc
 · rw[List.getElem?_append_right (by rw[h.kl];exact Uo),h.kl] at hj
   have afl:j=k:=by
     have:=(List.getElem?_eq_some_iff.1 hj).1
     simp at this;omega
   subst afl
   simp at hj
   subst hj
   rw[hb] at hc
   obtain rfl:=Option.some.inj hc
   exact⟨h1,l',ht,he⟩
theorem WR.push (hS:Mc.iR re n ks)(h:WR re n ks lb sets next ends q)(hl:sets[q]?=some l)(hn:s.Nodup)(he:∀ u,u∈s↔Bh re (q=0) l b u)(mq:∀ i a,1≤i→sets[i]?=some a→¬ ∀ u,u∈s↔u∈a):WR re n ks lb (sets++[s]) next ends q:=by
 have h0:=(List.getElem?_eq_some_iff.1 h.z).1
 have OU:=(List.getElem?_eq_some_iff.1 hl).1
 have old:∀ {i:Nat}{a:List cN},i<sets.length→(sets++[s])[i]?=some a→sets[i]?=some a:=fun hi ha=>by rwa [List.getElem?_append_left hi] at ha
 have inj:∀ {i:Nat}{a:List cN},(sets++[s])[i]?=some a→sets[i]?=some a∨(i=sets.length∧a=s):=fun {i a} ha=>by
   rcases Nat.lt_or_ge i sets.length with hi|hi
   · exact .inl (old hi ha)
   · right
     have:=(List.getElem?_eq_some_iff.1 ha).1
     simp only[List.length_append,List.length_singleton] at this
     obtain rfl:i=sets.length:=by omega
     rw[List.getElem?_append_right (Nat.le_refl _),Nat.sub_self] at ha
     exact⟨rfl,(Option.some.inj ha).symm⟩
 refine⟨by rw[List.getElem?_append_left h0];exact h.z,h.ln,h.le,by simp;have:=h.qs;omega,fun p a hp ha=>?_,fun p a hp ha=>?_,fun i a hi ha=>?_,fun i j a c hi nn ha hc=>?_⟩
 · exact h.en p a hp (old (by have:=h.qs;omega) ha)
 · obtain⟨row,g1,g2,g3⟩:=h.row p a hp (old (by have:=h.qs;omega) ha)
   refine⟨row,g1,g2,fun k to b hk hb=>?_⟩
   obtain⟨g4,l',g5,g6⟩:=g3 k to b hk hb
   exact⟨g4,l',by rw[List.getElem?_append_left (List.getElem?_eq_some_iff.1 g5).1];exact g5,g6⟩
 · rcases inj ha with ha|⟨_,rfl⟩
   · exact h.st i a hi ha
   · exact⟨hn,fun u hu=>Te hS (h.inU hl) ((he u).1 hu)⟩
 · rcases inj hc with hc|⟨rfl,rfl⟩
   · exact h.ap i j a c hi nn (old (by have:=(List.getElem?_eq_some_iff.1 hc).1;omega) ha) hc
   · exact fun hu=>mq i a hi (old nn ha) fun u=>(hu u).symm
theorem WK.new (hS:Mc.iR re n ks)(h:WK re n ks lb sets next ends q l row k)(hb:lb[k]?=some b)(hn:s.Nodup)(he:∀ u,u∈s↔Bh re (q=0) l b u)(mq:∀ i a,1≤i→sets[i]?=some a→¬ ∀ u,u∈s↔u∈a):WK re n ks lb (sets++[s]) next ends q l (row++[sets.length]) (k+1):=by
 have OU:=(List.getElem?_eq_some_iff.1 h.ql).1
 have h1:WK re n ks lb (sets++[s]) next ends q l row k:=by
   refine⟨h.w.push hS h.ql hn he mq,by rw[List.getElem?_append_left OU];exact h.ql,h.kl,h.kk,fun j t c hj hc=>?_⟩
   obtain⟨g1,l',g2,g3⟩:=h.get j t c hj hc
   exact⟨g1,l',by rw[List.getElem?_append_left (List.getElem?_eq_some_iff.1 g2).1];exact g2,g3⟩
 exact h1.old hb (by omega) (l':=s) (by rw[List.getElem?_append_right (Nat.le_refl _),Nat.sub_self];rfl) he
theorem WK.afm (h:WK re n ks lb sets next ends q l row k)(hk:lb.length≤k){e:Bool}(he:e=true↔u1 re (q=0) l):WR re n ks lb sets (next++[row]) (ends++[e]) (q+1):=by
 have OU:=(List.getElem?_eq_some_iff.1 h.ql).1
 have nT:=h.w.ln
 have hle:=h.w.le
 refine⟨h.w.z,by simp[nT],by simp[hle],OU,fun p a hp ha=>?_,fun p a hp ha=>?_,h.w.st,h.w.ap⟩
 · rcases Nat.lt_or_ge p q with FJ|FJ
   · rw[List.getElem?_append_left (by omega)];exact h.w.en p a FJ ha
   · obtain rfl:p=q:=by omega
     rw[h.ql] at ha
     obtain rfl:=Option.some.inj ha
     exact⟨e,by rw[List.getElem?_append_right (by omega),hle,Nat.sub_self];rfl,he⟩
 · rcases Nat.lt_or_ge p q with FJ|FJ
   · rw[List.getElem?_append_left (by omega)];exact h.w.row p a FJ ha
   · obtain rfl:p=q:=by omega
     rw[h.ql] at ha
     obtain rfl:=Option.some.inj ha
     exact⟨row,by rw[List.getElem?_append_right (by omega),nT,Nat.sub_self];rfl,by rw[h.kl];have:=h.kk;omega,h.get⟩
end
theorem zH {re:List Nd}:∀ (f:F){b e:Nat},Part re f b e→∀ i,b≤i→i<e→∃ x ks e',Part re (.nd x ks .nil) i e'
 | .nil,b,e,h,i,h1,h2=>by have:=h.len;simp[F.size] at this;omega
 | .nd x ks r,b,e,h,i,h1,h2=>by
   rcases Nat.eq_or_lt_of_le h1 with rfl|h3
   · exact⟨x,ks,_,h.one⟩
   · rcases Nat.lt_or_ge i (b+1+ks.size) with h4|h4
     · exact zH ks h.head.2.1 i (by omega) h4
     · exact zH r h.head.2.2 i h4 h2
theorem Bp {re:List Nd}{n:Nd}{ks:F}(hS:Mc.iR re n ks){i:Nat}{x:Nd}(hx:re[i]?=some x):∃ DL e',Part re (.nd x DL .nil) i e':=by
 obtain⟨y,js,e',h⟩:=zH _ hS.part i (Nat.zero_le _) (List.getElem?_eq_some_iff.1 hx).1
 have:=h.head.1
 rw[hx] at this
 obtain rfl:=Option.some.inj this
 exact⟨js,e',h⟩
theorem Ba {re:List Nd}{n:Nd}{ks:F}(hS:Mc.iR re n ks){i r:Nat}{u:cN}(h:sQ n ks ((i,r)::u)):∃ x DL e',re[i]?=some x∧Part re (.nd x DL .nil) i e':=by
 rcases h with h|h
 · have hi:=tI _ false [] hS.part i r u h
   obtain⟨DL,e',hp⟩:=Bp hS (List.getElem?_eq_getElem hi.2)
   exact⟨_,DL,e',List.getElem?_eq_getElem hi.2,hp⟩
 · cases h
theorem lp {α:Type} [DecidableEq α]:∀ {l m:List α},l.Nodup→(∀ x∈l,x∈m)→l.length≤m.length
 | [],_,_,_=>Nat.zero_le _
 | x::l,m,hn,hs=>by
   rw[List.nodup_cons] at hn
   have hx:=hs x List.mem_cons_self
   have h1:=lp (l:=l) (m:=m.erase x) hn.2 fun y hy=>(List.mem_erase_of_ne (show y≠x from fun e=>hn.1 (by rw[← e];exact hy))).2 (hs y (List.mem_cons_of_mem _ hy))
   rw[List.length_erase_of_mem hx] at h1
   have:=List.length_pos_of_mem hx
   simp only[List.length_cons];omega
theorem FB {n:Nd}{ks:F}(hw:(F.nd n ks .nil).wf)(mS:(F.nd n ks .nil).weight≤20){l:List cN}(hn:l.Nodup)(hl:∀ t∈l,sQ n ks t):l.length≤61:=by
 have h1:=qw (.nd n ks .nil) 0 false [] hw
 have h2:=lp (m:=[]::e7 (.nd n ks .nil) 0 false []) hn fun t ht=>by
   rcases hl t ht with h|h
   · exact List.mem_cons_of_mem _ h
   · rw[h];exact List.mem_cons_self
 simp only[List.length_cons] at h2
 omega
theorem F.fe:∀ f:F,f.size≤f.weight
 | .nil=>Nat.le_refl _
 | .nd x ks r=>by
   have h1:=F.fe ks
   have h2:=F.fe r
   have h3:ks.weight≤times x*ks.weight:=Nat.le_mul_of_pos_left _ (iw x)
   simp only[F.size,F.weight];omega
theorem OH {n:Nd}{ks:F}(hw:(F.nd n ks .nil).wf){i r:Nat}{u:cN}(h:sQ n ks ((i,r)::u)):r≤255:=by
 rcases h with h|h
 · exact tJ _ _ _ _ hw i r u h
 · cases h
theorem Hr {n:Nd}{ks:F}(mS:(F.nd n ks .nil).weight≤20){t:cN}(h:sQ n ks t):t.length≤40:=by
 have h1:=cm.F.fe (.nd n ks .nil)
 rcases h with h|h
 · have:=nD _ _ _ _ t h
   simp only[List.length_nil] at this;omega
 · rw[h];simp
theorem mh {re:List Nd}{S E:Prop}{i r e:Nat}{u y:cN}{x:Nd}{ks:F}(hp:Part re (.nd x ks .nil) i e)(h:rZ re S E ((i,r)::u) y) :
   (x.op=2∧S∧y=u)∨(x.op=3∧E∧y=u)∨(x.op=4∧y=kz (je (i+1) ks)++u)∨(x.op=5∧∃ k∈je (i+1) ks,y=(k,0)::u)∨(x.op=7∧y=(i+1,0)::u)∨(x.op=6∧x.mn≤(r:Int)∧y=u)∨(x.op=6∧(x.mx<0∨(r:Int)<x.mx)∧y=(i+1,0)::(i,qv x r)::u):=by
 cases h with
 | bol h ho hs=>obtain⟨rfl,rfl,_⟩:=hp.ll h;exact .inl ⟨ho,hs,rfl⟩
 | Tg h ho hs=>obtain⟨rfl,rfl,_⟩:=hp.ll h;exact .inr (.inl ⟨ho,hs,rfl⟩)
 | cat h ho=>obtain⟨rfl,rfl,_⟩:=hp.ll h;exact .inr (.inr (.inl ⟨ho,rfl⟩))
 | alt h ho hk=>obtain⟨rfl,rfl,_⟩:=hp.ll h;exact .inr (.inr (.inr (.inl ⟨ho,_,hk,rfl⟩)))
 | V7 h ho=>obtain⟨rfl,rfl,_⟩:=hp.ll h;exact .inr (.inr (.inr (.inr (.inl ⟨ho,rfl⟩))))
 | out h ho hr=>obtain⟨rfl,rfl,_⟩:=hp.ll h;exact .inr (.inr (.inr (.inr (.inr (.inl ⟨ho,hr,rfl⟩)))))
 | more h ho hr=>obtain⟨rfl,rfl,_⟩:=hp.ll h;exact .inr (.inr (.inr (.inr (.inr (.inr ⟨ho,hr,rfl⟩)))))
section
variable {re:List Nd}{n:Nd}{ks:F}{lb:List Nat}{sets:List (List cN)}{next:List (List Nat)}{ends:List Bool}{q:Nat}
theorem WR.ok (h:WR re n ks lb sets next ends q)(hq:sets.length≤q)(hK:0<lb.length):nW next ends lb.length:=by
 have OU:=h.qs
 have h0:=(List.getElem?_eq_some_iff.1 h.z).1
 have key:∀ r∈next,∃ p l,p<q∧sets[p]?=some l∧next[p]?=some r:=fun r hr=>by
   obtain⟨p,hp⟩:=List.getElem?_of_mem hr
   have qH:=(List.getElem?_eq_some_iff.1 hp).1
   rw[h.ln] at qH
   exact⟨p,_,qH,List.getElem?_eq_getElem (by omega),hp⟩
 refine⟨by rw[h.le,h.ln],by rw[h.ln];omega,hK,fun r hr=>?_,fun r hr v hv=>?_⟩
 · obtain⟨p,l,h1,h2,h3⟩:=key r hr
   obtain⟨row,g1,g2,_⟩:=h.row p l h1 h2
   rw[h3] at g1
   rw[Option.some.inj g1];exact g2
 · obtain⟨p,l,h1,h2,h3⟩:=key r hr
   obtain⟨row,g1,g2,g3⟩:=h.row p l h1 h2
   rw[h3] at g1
   obtain rfl:=Option.some.inj g1
   obtain⟨k,hk⟩:=List.getElem?_of_mem hv
   have EF:=(List.getElem?_eq_some_iff.1 hk).1
   obtain⟨_,l',g5,_⟩:=g3 k v _ hk (List.getElem?_eq_getElem (by omega))
   have:=(List.getElem?_eq_some_iff.1 g5).1
   rw[h.ln];omega
theorem Ls {w:List UInt8}(hn:∀ y∈re,¬ y.op=8){s:cN}:Tm w re s w.length w.length↔AV re (w.length=0) True s []:=by
 rw[DJ hn]
 have e:(w.length=w.length)=True:=eq_true rfl
 rw[e]
 constructor
 · rintro (⟨_,h⟩|⟨h,_⟩)
   · exact h
   · omega
 · exact fun h=>.inl ⟨trivial,h⟩
theorem Zt (hS:Mc.iR re n ks){w:List UInt8}(hn:∀ y∈re,¬ y.op=8){a:Nat}(ha:a<w.length){b:UInt8}(hb:w[a]?=some b){l:List cN}(hl:∀ s∈l,sQ n ks s):(∃ s∈l,Tm w re s a w.length)↔∃ u,Bh re (a=0) l b.toNat u∧Tm w re u (a+1) w.length:=by
 have e:(a=w.length)=False:=eq_false (by omega)
 constructor
 · rintro⟨s,hs,ht⟩
   rw[DJ hn,e] at ht
   rcases ht with ⟨h,_⟩|⟨_,i,r,e,t,x,DL,b',h1,h2,h3,h4,h5,h6⟩
   · exact h.elim
   · rw[hb] at h4
     obtain rfl:=Option.some.inj h4
     exact⟨t,⟨i,r,x,⟨s,hs,h1⟩,h2.head.1,h3,h5⟩,h6⟩
 · rintro⟨u,⟨i,r,x,⟨s,hs,h1⟩,h2,h3,h4⟩,h5⟩
   refine⟨s,hs,?_⟩
   rw[DJ hn,e]
   obtain⟨DL,e',hp⟩:=Bp hS h2
   exact .inr ⟨ha,i,r,e',u,x,DL,b,h1,hp,h3,hb,h4,h5⟩
theorem WR.acc (hS:Mc.iR re n ks)(hn:∀ y∈re,¬ y.op=8)(h:WR re n ks lb sets next ends q)(hq:sets.length≤q)(hb6:∀ b∈lb,b<256){t:List Nat}(ht:∀ k∈t,k<lb.length){w:List UInt8}(hw:w=t.map fun k=>UInt8.ofNat (lb[k]?.getD 0)):∀ (j a p:Nat)(l:List cN),a+j=t.length→sets[p]?=some l→(p=0↔a=0)→(jB next ends p (t.drop a)=true↔∃ s∈l,Tm w re s a w.length)
 | 0,a,p,l,ha,hl,h0=>by
   have TL:w.length=a:=by rw[hw,List.length_map];omega
   have qH:=(List.getElem?_eq_some_iff.1 hl).1
   obtain⟨e,h1,h2⟩:=h.en p l (by omega) hl
   rw[List.drop_of_length_le (by omega)]
   have e1:jB next ends p []=e:=by simp[jB,CU,h1]
   rw[e1,h2]
   unfold u1
   have e2:(p=0)=(w.length=0):=by rw[TL];exact propext h0
   rw[e2]
   have e3:a=w.length:=TL.symm
   rw[e3]
   exact⟨fun⟨s,hs,hr⟩=>⟨s,hs,(Ls hn).2 hr⟩,fun⟨s,hs,hr⟩=>⟨s,hs,(Ls hn).1 hr⟩⟩
 | j+1,a,p,l,ha,hl,h0=>by
   have qH:=(List.getElem?_eq_some_iff.1 hl).1
   obtain⟨k,hk⟩:∃ k,t[a]?=some k:=⟨_,List.getElem?_eq_getElem (by omega)⟩
   have z7:=ht k (List.mem_of_getElem? hk)
   obtain⟨b,hb⟩:∃ b,lb[k]?=some b:=⟨_,List.getElem?_eq_getElem z7⟩
   have hb7:=hb6 b (List.mem_of_getElem? hb)
   have hwa:w[a]?=some (UInt8.ofNat b):=by rw[hw,List.getElem?_map,hk];simp[hb]
   have hbt:(UInt8.ofNat b).toNat=b:=by simp[UInt8.toNat_ofNat'];omega
   obtain⟨row,g1,g2,g3⟩:=h.row p l (by omega) hl
   obtain⟨to,kE⟩:∃ to,row[k]?=some to:=⟨_,List.getElem?_eq_getElem (by omega)⟩
   obtain⟨g4,l',g5,g6⟩:=g3 k to b kE hb
   have ed:t.drop a=k::t.drop (a+1):=by
     rw[List.drop_eq_getElem_cons (by omega)]
     rw[List.getElem?_eq_getElem (by omega)] at hk
     rw[Option.some.inj hk]
   have ih:=WR.acc hS hn h hq hb6 ht hw j (a+1) to l' (by omega) g5 (by omega)
   have en:nx next p k=to:=by unfold nx;rw[g1,Option.getD_some,kE];rfl
   rw[ed]
   show jB next ends (nx next p k) (t.drop (a+1))=true↔_
   rw[en,ih,Zt hS hn (by rw[hw,List.length_map];omega) hwa (h.inU hl),hbt]
   have e2:(p=0)=(a=0):=propext h0
   rw[e2] at g6
   exact⟨fun⟨s,hs,ht⟩=>⟨s,(g6 s).1 hs,ht⟩,fun⟨s,hs,ht⟩=>⟨s,(g6 s).2 hs,ht⟩⟩
end
end Go.HL.cm
namespace Go.HL.cm
open Go Go.HL Go.HL.Kl Go.HL.Kl.Mc
def codeF (n:Nat):List UInt8→Nat
 | []=>n
 | b::t=>codeF (n*256+b.toNat+1) t
def code (t:List UInt8):Nat:=codeF 0 t
attribute [irreducible] code
def rnT (d:Df)(t:List UInt8):Int:=tkR d t 0
structure UnJ (a b:Df)(i c:Nat)(l:List Bo)(ts:List (List UInt8)):Prop where
 u:Gh a b l
 ln:ts.length=l.length
 il:i≤l.length
 fr:∀ (k:Nat)(x:Bo)(t:List UInt8),l[k]?=some x→ts[k]?=some t→(x.oV<0∧t = [])∨∃ (j:Nat)(tj:List UInt8),x.oV=j∧ts[j]?=some tj∧t=tj++[UInt8.ofNat x.I3]
 rn:∀ (k:Nat)(x:Bo)(t:List UInt8),l[k]?=some x→ts[k]?=some t→x.p=rnT a t∧x.q=rnT b t
 z:ts[0]?=some []
 inc:∀ (k k':Nat)(t t':List UInt8),k<k'→ts[k]?=some t→ts[k']?=some t'→code t<code t'
 top:∀ (k:Nat)(t ti:List UInt8),ts[k]?=some t→ts[i]?=some ti→code t≤code ti*256+c
 don:∀ (j:Nat)(x:Bo)(tj:List UInt8),j<i→l[j]?=some x→ts[j]?=some tj→iL a x.p=iL b x.q∧∀ e:UInt8,∃ (m:Nat)(y:Bo)(tm:List UInt8),l[m]?=some y∧ts[m]?=some tm∧y.p=qp a x.p e.toNat∧y.q=qp b x.q e.toNat∧code tm≤code tj*256+e.toNat+1
 cur:∀ (x:Bo)(ti:List UInt8),l[i]?=some x→ts[i]?=some ti→∀ e:UInt8,e.toNat<c→∃ (m:Nat)(y:Bo)(tm:List UInt8),l[m]?=some y∧ts[m]?=some tm∧y.p=qp a x.p e.toNat∧y.q=qp b x.q e.toNat∧code tm≤code ti*256+e.toNat+1
theorem kA {α:Type}{p q:α→Bool}:∀ {l:List α},(∀ x∈l,p x=true→q x=true)→∀ {y:α},y∈l→p y=false→q y=true→l.countP p<l.countP q
 | [],_,_,hy,_,_=>by cases hy
 | x::l,h,y,hy,h1,h2=>by
   have hm:l.countP p≤l.countP q:=List.countP_mono_left fun z hz=>h z (List.mem_cons_of_mem _ hz)
   rw[List.countP_cons,List.countP_cons]
   rcases List.mem_cons.1 hy with rfl|hy
   · rw[h1,h2];simp;omega
   · have:=kA (fun z hz=>h z (List.mem_cons_of_mem _ hz)) hy h1 h2
     have hx:=h x List.mem_cons_self
     cases e:p x with
     | true=>rw[hx e];simp;omega
     | false=>cases q x <;> simp <;> omega
section
variable {α:Type}(M:Nat)(A:Nat→List α→Bool)(st:Nat→α→Nat)
def wR (k p q:Nat):Prop:=∀ w:List α,w.length<k→A p w=A q w
open Classical in
noncomputable def Lr (k:Nat):Nat:=(List.range M).countP fun p=>decide (∀ q,q<p→¬ wR A k p q)
variable {M A st}
theorem wR.symm {k p q:Nat}(h:wR A k p q):wR A k q p:=fun w hw=>(h w hw).symm
theorem wR.trans {k p q r:Nat}(h:wR A k p q)(h':wR A k q r):wR A k p r:=fun w hw=>(h w hw).trans (h' w hw)
theorem wR.mono {k j p q:Nat}(h:wR A k p q)(hj:j≤k):wR A j p q:=fun w hw=>h w (by omega)
theorem vB {k:Nat}:∀ (n q:Nat),q<n→∃ r,r≤q∧wR A k q r∧∀ s,s<r→¬ wR A k r s
 | 0,q,h=>absurd h (Nat.not_lt_zero _)
 | n+1,q,h=>by
   by_cases hq:∃ s,s<q∧wR A k q s
   · obtain⟨s,hs,he⟩:=hq
     obtain⟨r,h1,h2,h3⟩:=vB n s (by omega)
     exact⟨r,by omega,he.trans h2,h3⟩
   · exact⟨q,Nat.le_refl _,fun _ _=>rfl,fun s hs he=>hq ⟨s,hs,he⟩⟩
open Classical in
theorem ab7 {k p q:Nat}(hp:p<M)(hq:q<M)(h:wR A k p q)(hn:¬ wR A (k+1) p q):Lr M A k<Lr M A (k+1):=by
 obtain⟨r,hr1,Xz,hr3⟩:=vB (A:=A) (k:=k) (p+1) p (Nat.lt_succ_self _)
 have hqr:wR A k q r:=h.symm.trans Xz
 obtain⟨x,hx,Nx,hxn⟩:∃ x,x<M∧wR A k x r∧¬ wR A (k+1) x r:=by
   by_cases e:wR A (k+1) p r
   · exact⟨q,hq,hqr,fun e2=>hn (e.trans e2.symm)⟩
   · exact⟨p,hp,Xz,e⟩
 obtain⟨y,hy1,hy2,hy3⟩:=vB (A:=A) (k:=k+1) (x+1) x (Nat.lt_succ_self _)
 have hyr:wR A k y r:=(hy2.symm.mono (Nat.le_succ _)).trans Nx
 have dM:y≠r:=fun e=>hxn (by rw[← e];exact hy2)
 have hry:r<y:=by
   rcases Nat.lt_trichotomy y r with h1|h1|h1
   · exact absurd hyr.symm (hr3 y h1)
   · exact absurd h1 dM
   · exact h1
 unfold Lr
 refine kA (fun z _ hz=>?_) (List.mem_range.2 (show y<M by omega)) ?_ ?_
 · rw[decide_eq_true_eq] at hz ⊢
   exact fun s hs he=>hz s hs (he.mono (Nat.le_succ _))
 · rw[decide_eq_false_iff_not]
   exact fun jE=>jE r hry hyr
 · rw[decide_eq_true_eq]
   exact hy3
open Classical in
theorem Wb (hM:0<M):1≤Lr M A 0:=by
 unfold Lr
 refine List.countP_pos_iff.2 ⟨0,List.mem_range.2 hM,?_⟩
 rw[decide_eq_true_eq]
 exact fun q hq=>absurd hq (Nat.not_lt_zero _)
end
def aot (a b:Df)(u:Nat)(w:List UInt8):Bool:=if u<a.ends.length then iL a (tkR a w u) else if u<a.ends.length+b.ends.length then iL b (tkR b w ((u-a.ends.length:Nat):Int)) else false
def aou (a b:Df)(u:Nat)(e:UInt8):Nat:=if u<a.ends.length then (if qp a u e.toNat<0 then a.ends.length+b.ends.length else (qp a u e.toNat).toNat) else
 if u<a.ends.length+b.ends.length then (if qp b ((u-a.ends.length:Nat):Int) e.toNat<0 then a.ends.length+b.ends.length else a.ends.length+(qp b ((u-a.ends.length:Nat):Int) e.toNat).toNat) else a.ends.length+b.ends.length
end Go.HL.cm
namespace Go.HL.cm
open Go Go.HL Go.HL.Kl Go.HL.Kl.Mc
def jk (key:Nat→Nat→Bool)(q:Nat):Option Nat:=(List.range q).find? fun p=>key p q
def cv (key:Nat→Nat→Bool):Nat→List Nat×Nat
 | 0=>([],0)
 | q+1=>match jk key q with
   | some p=>((cv key q).1++[pt (cv key q).1 p],(cv key q).2)
   | none=>((cv key q).1++[(cv key q).2],(cv key q).2+1)
structure Qr (N:Nat)(key:Nat→Nat→Bool):Prop where
 r:∀ i,i<N→key i i=true
 s:∀ i j,i<N→j<N→key i j=true→key j i=true
 t:∀ i j k,i<N→j<N→k<N→key i j=true→key j k=true→key i k=true
def nO (key:Nat→Nat→Bool)(i:Nat):Bool:=decide (jk key i=none)
theorem ru {key:Nat→Nat→Bool}{q p:Nat}(h:jk key q=some p):p<q∧key p q=true:=by
 have h1:=List.find?_some h
 have h2:=List.mem_of_find?_eq_some h
 exact⟨List.mem_range.1 h2,h1⟩
theorem fQ {key:Nat→Nat→Bool}{q:Nat}:jk key q=none↔∀ p,p<q→key p q=false:=by
 unfold jk
 rw[List.find?_eq_none]
 simp
theorem rv {l:List Nat}{x i:Nat}(h:i<l.length):pt (l++[x]) i=pt l i:=by unfold pt;rw[List.getElem?_append_left h]
theorem E8 {l:List Nat}{x:Nat}:pt (l++[x]) l.length=x:=by unfold pt;rw[List.getElem?_append_right (Nat.le_refl _),Nat.sub_self];rfl
theorem kY {N:Nat}{key:Nat→Nat→Bool}(he:Qr N key):∀ q,q≤N→(cv key q).1.length=q∧(cv key q).2=(List.range q).countP (nO key)∧(∀ i,i<q→pt (cv key q).1 i<(cv key q).2)∧∀ i j,i<q→j<q→(pt (cv key q).1 i=pt (cv key q).1 j↔key i j=true)
 | 0,_=>⟨rfl,rfl,fun i h=>by omega,fun i j h=>by omega⟩
 | q+1,hq=>by
   obtain⟨h1,h2,h3,h4⟩:=kY he q (by omega)
   rw[List.range_succ,List.countP_append,← h2]
   cases hf:jk key q with
   | some p=>
     obtain⟨hp,hk⟩:=ru hf
     have e:cv key (q+1)=((cv key q).1++[pt (cv key q).1 p],(cv key q).2):=by simp only[cv,hf]
     have hv:∀ i,i<q+1→∃ i',i'<q∧pt ((cv key q).1++[pt (cv key q).1 p]) i=pt (cv key q).1 i'∧key i' i=true:=by
       intro i hi
       rcases Nat.lt_or_ge i q with h|h
       · exact⟨i,h,rv (by omega),he.r i (by omega)⟩
       · obtain rfl:i=q:=by omega
         refine⟨p,hp,?_,hk⟩
         have:=E8 (l:=(cv key i).1) (x:=pt (cv key i).1 p)
         rwa [h1] at this
     rw[e]
     refine⟨by simp[h1],by simp[nO,hf],fun i hi=>?_,fun i j hi hj=>?_⟩
     · obtain⟨i',g1,g2,_⟩:=hv i hi
       dsimp only;rw[g2];exact h3 i' g1
     · obtain⟨i',g1,g2,g3⟩:=hv i hi
       obtain⟨j',g4,g5,g6⟩:=hv j hj
       dsimp only
       rw[g2,g5,h4 i' j' g1 g4]
       constructor
       · intro h
         exact he.t i i' j (by omega) (by omega) (by omega) (he.s _ _ (by omega) (by omega) g3) (he.t i' j' j (by omega) (by omega) (by omega) h g6)
       · intro h
         exact he.t i' i j' (by omega) (by omega) (by omega) g3 (he.t i j j' (by omega) (by omega) (by omega) h (he.s _ _ (by omega) (by omega) g6))
   | none=>
     have mq:=fQ.1 hf
     have e:cv key (q+1)=((cv key q).1++[(cv key q).2],(cv key q).2+1):=by simp only[cv,hf]
     have JS:pt ((cv key q).1++[(cv key q).2]) q=(cv key q).2:=by
       have:=E8 (l:=(cv key q).1) (x:=(cv key q).2)
       rwa [h1] at this
     rw[e]
     refine⟨by simp[h1],by simp[nO,hf],fun i hi=>?_,fun i j hi hj=>?_⟩
     · dsimp only
       rcases Nat.lt_or_ge i q with h|h
       · rw[rv (by omega)];have:=h3 i h;omega
       · obtain rfl:i=q:=by omega
         rw[JS];omega
     · dsimp only
       rcases Nat.lt_or_ge i q with h|h <;> rcases Nat.lt_or_ge j q with h'|h'
       · rw[rv (by omega),rv (by omega)];exact h4 i j h h'
       · obtain rfl:j=q:=by omega
         rw[JS,rv (by omega),mq i h]
         have:=h3 i h
         exact iff_of_false (by omega) (by simp)
       · obtain rfl:i=q:=by omega
         rw[JS,rv (by omega)]
         have:=h3 j h'
         refine iff_of_false (by omega) fun hk=>?_
         have:=he.s _ _ (by omega) (by omega) hk
         rw[mq j h'] at this;cases this
       · obtain rfl:i=q:=by omega
         obtain rfl:j=i:=by omega
         exact iff_of_true rfl (he.r _ (by omega))
theorem C2 {N:Nat}{key:Nat→Nat→Bool}(he:Qr N key):∀ (n i:Nat),i≤n→i<N→∃ p,p≤i∧nO key p=true∧key p i=true
 | n,i,hn,hi=>by
   cases hf:jk key i with
   | none=>exact⟨i,Nat.le_refl _,by simp[nO,hf],he.r i hi⟩
   | some p=>
     obtain⟨h1,h2⟩:=ru hf
     cases n with
     | zero=>omega
     | succ n=>
       obtain⟨p',g1,g2,g3⟩:=C2 he n p (by omega) (by omega)
       exact⟨p',by omega,g2,he.t p' p i (by omega) (by omega) hi g3 h2⟩
theorem JT {N:Nat}{key:Nat→Nat→Bool}(he:Qr N key){i j:Nat}(hi:i<N)(hj:j<N)(h1:nO key i=true)(h2:nO key j=true)(hk:key i j=true):i=j:=by
 have g1:=fQ.1 (of_decide_eq_true h1)
 have g2:=fQ.1 (of_decide_eq_true h2)
 rcases Nat.lt_trichotomy i j with h|h|h
 · rw[g2 i h] at hk;cases hk
 · exact h
 · have:=he.s i j hi hj hk
   rw[g1 j h] at this;cases this
theorem wI {N:Nat}{kc kf:Nat→Nat→Bool}(hc:Qr N kc)(hf:Qr N kf)(h:∀ i j,i<N→j<N→kf i j=true→kc i j=true)(hn:(List.range N).countP (nO kc)=(List.range N).countP (nO kf)):∀ i j,i<N→j<N→kc i j=true→kf i j=true:=by
 have GP:∀ i∈List.range N,nO kc i=true→nO kf i=true:=by
   intro i hi hr
   have hiN:=List.mem_range.1 hi
   have g:=fQ.1 (of_decide_eq_true hr)
   refine decide_eq_true (fQ.2 fun p hp=>?_)
   cases e:kf p i with
   | false=>rfl
   | true=>have:=h p i (by omega) hiN e;rw[g p hp] at this;cases this
 have AE:∀ i,i<N→nO kf i=true→nO kc i=true:=by
   intro i hi hr
   cases e:nO kc i with
   | true=>rfl
   | false=>
     have:=kA GP (List.mem_range.2 hi) e hr
     omega
 intro i j hi hj hk
 obtain⟨p,p1,p2,p3⟩:=C2 hf i i (Nat.le_refl _) hi
 obtain⟨q,q1,q2,q3⟩:=C2 hf j j (Nat.le_refl _) hj
 have e1:=h p i (by omega) hi p3
 have e2:=h q j (by omega) hj q3
 have e3:kc p q=true:=hc.t p i q (by omega) hi (by omega) e1 (hc.t i j q hi hj (by omega) hk (hc.s q j (by omega) hj e2))
 obtain rfl:=JT hc (by omega) (by omega) (AE p (by omega) p2) (AE q (by omega) q2) e3
 exact hf.t i p j hi (by omega) hj (hf.s p i (by omega) hi p3) q3
def gL (ends:List Bool)(p q:Nat):Bool:=decide (ends[p]?=ends[q]?)
def fy (next:List (List Nat))(K:Nat)(part:List Nat)(p q:Nat):Bool:=decide (pt part p=pt part q)&&(List.range K).all fun k=>decide (pt part (nx next p k)=pt part (nx next q k))
theorem AN (ends:List Bool)(N:Nat):Qr N (gL ends):=⟨fun i _=>by simp[gL],fun i j _ _ h=>by simp[gL] at h ⊢;exact h.symm,fun i j k _ _ _ h h'=>by simp[gL] at h h' ⊢;exact h.trans h'⟩
theorem gM {next:List (List Nat)}{K:Nat}{part:List Nat}{p q:Nat}:fy next K part p q=true↔pt part p=pt part q∧∀ k,k<K→pt part (nx next p k)=pt part (nx next q k):=by simp[fy]
theorem mY (next:List (List Nat))(K:Nat)(part:List Nat)(N:Nat):Qr N (fy next K part):=
 ⟨fun i _=>gM.2 ⟨rfl,fun _ _=>rfl⟩,fun i j _ _ h=>by rw[gM] at h ⊢;exact⟨h.1.symm,fun k hk=>(h.2 k hk).symm⟩,fun i j k _ _ _ h h'=>by
   rw[gM] at h h' ⊢;exact⟨h.1.trans h'.1,fun k hk=>(h.2 k hk).trans (h'.2 k hk)⟩⟩
structure GS (next:List (List Nat))(ends:List Bool)(K:Nat)(part:List Nat)(n:Nat):Prop where
 sep:Sep next ends K part
 n:∃ key,Qr next.length key∧n=(List.range next.length).countP (nO key)∧∀ i j,i<next.length→j<next.length→(pt part i=pt part j↔key i j=true)
theorem GS.zero {next:List (List Nat)}{ends:List Bool}{K:Nat}(h:nW next ends K):GS next ends K (cv (gL ends) next.length).1 (cv (gL ends) next.length).2:=by
 obtain⟨h1,h2,_,h4⟩:=kY (AN ends next.length) next.length (Nat.le_refl _)
 refine⟨⟨h1,fun i j hi hj he=>by simpa [gL] using (h4 i j hi hj).1 he,fun i j hi hj dM=>⟨[],by simp,?_⟩⟩,_,AN ends _,h2,h4⟩
 intro ha
 apply dM
 rw[h4 i j hi hj]
 have hl:=h.len
 have e1:ends[i]?=some (ends[i]'(by omega)):=List.getElem?_eq_getElem _
 have e2:ends[j]?=some (ends[j]'(by omega)):=List.getElem?_eq_getElem _
 have ha:ends[i]?.getD false=ends[j]?.getD false:=ha
 rw[e1,e2] at ha
 simp only[Option.getD_some] at ha
 simp[gL,e1,e2,ha]
theorem GS.round {next:List (List Nat)}{ends:List Bool}{K:Nat}(h:nW next ends K){part:List Nat}{n:Nat}(hp:GS next ends K part n):GS next ends K (cv (fy next K part) next.length).1 (cv (fy next K part) next.length).2:=by
 obtain⟨h1,h2,_,h4⟩:=kY (mY next K part next.length) next.length (Nat.le_refl _)
 have hs:=hp.sep
 refine⟨⟨h1,fun i j hi hj he=>hs.res i j hi hj (gM.1 ((h4 i j hi hj).1 he)).1,fun i j hi hj dM=>?_⟩,_,mY _ _ _ _,h2,h4⟩
 rw[Ne,h4 i j hi hj,gM] at dM
 by_cases e:pt part i=pt part j
 · obtain⟨k,hk,hd⟩:∃ k,k<K∧pt part (nx next i k)≠pt part (nx next j k):=by
     refine Classical.byContradiction fun hc=>dM ⟨e,fun k hk=>?_⟩
     exact Classical.byContradiction fun hd=>hc ⟨k,hk,hd⟩
   obtain⟨t,ht,ha⟩:=hs.sep _ _ (h.get hi hk).choose_spec.2.2 (h.get hj hk).choose_spec.2.2 hd
   exact⟨k::t,fun x hx=>by rcases List.mem_cons.1 hx with rfl|hx;(· exact hk);(· exact ht x hx),ha⟩
 · exact hs.sep i j hi hj e
theorem GS.le {next:List (List Nat)}{ends:List Bool}{K:Nat}{part:List Nat}{n:Nat}(hp:GS next ends K part n):n≤next.length:=by
 obtain⟨key,_,h,_⟩:=hp.n
 have:=List.countP_le_length (p:=nO key) (l:=List.range next.length)
 simp only[List.length_range] at this;omega
theorem GS.more {next:List (List Nat)}{ends:List Bool}{K:Nat}(h:nW next ends K){part:List Nat}{n:Nat}(hp:GS next ends K part n):n≤(cv (fy next K part) next.length).2:=by
 obtain⟨key,he,hn,hk⟩:=hp.n
 obtain⟨_,h2,_,_⟩:=kY (mY next K part next.length) next.length (Nat.le_refl _)
 rw[h2,hn]
 refine List.countP_mono_left fun i hi hr=>?_
 have hiN:=List.mem_range.1 hi
 have g:=fQ.1 (of_decide_eq_true hr)
 refine decide_eq_true (fQ.2 fun p hpi=>?_)
 cases e:fy next K part p i with
 | false=>rfl
 | true=>have:=(hk p i (by omega) hiN).1 (gM.1 e).1;rw[g p hpi] at this;cases this
theorem GS.done {next:List (List Nat)}{ends:List Bool}{K:Nat}(h:nW next ends K){part:List Nat}{n:Nat}(hp:GS next ends K part n)(hm:(cv (fy next K part) next.length).2=n):C3 next ends K (cv (fy next K part) next.length).1:=by
 obtain⟨key,he,hn,hk⟩:=hp.n
 obtain⟨_,h2,_,h4⟩:=kY (mY next K part next.length) next.length (Nat.le_refl _)
 have same:=wI he (mY next K part next.length) (fun i j hi hj hf=>(hk i j hi hj).1 (gM.1 hf).1) (by rw[← hn,← h2,hm])
 refine E9 h (hp.round h).sep fun i j hi hj e k z7=>?_
 have e1:=(gM.1 ((h4 i j hi hj).1 e)).2 k z7
 have b1:=(h.get hi z7).choose_spec.2.2
 have b2:=(h.get hj z7).choose_spec.2.2
 exact (h4 _ _ b1 b2).2 (same _ _ b1 b2 ((hk _ _ b1 b2).1 e1))
end Go.HL.cm
