/- Part of the proofs over this seat: see the text that holds the theorem. Conditions: each theorem bears its own. -/
import Derived.Test.YtmompllplidphaaGreatDoorGB1Z
import Derived.Test.YtmompllplidphaaGreatDoorHlB
import Derived.Test.YtmompllplidphaaGreatDoorHTZ
namespace Go.HL.Kl
open Go Go.HL
def oE (c a:Cl):List Cl:=if a &&& c=0#256∨a &&& ~~~c=0#256 then [a] else [a &&& c,a &&& ~~~c]
def refine (out:List Cl)(c:Cl):List Cl:=out.flatMap (oE c)
def parts (l:List Cl):List Cl:=l.foldl refine [Gz 0 255]
theorem DN (l:List Cl)(c:Cl):parts (l++[c])=refine (parts l) c:=by simp[parts]
theorem UJ {a:Cl}(h:a≠0#256):∃ x,x<256∧a.getLsbD x=true:=by
 refine Classical.byContradiction fun hn=>h (jc fun j hj=>?_)
 have:¬ a.getLsbD j=true:=fun e=>hn ⟨j,hj,e⟩
 simpa using this
theorem DC {a:Cl}{x:Nat}(h:a.getLsbD x=true):a≠0#256:=fun e=>by rw[e] at h;simp at h
theorem iz {a:Cl}{x:Nat}(h:a.getLsbD x=true):x<256:=by
 refine Classical.byContradiction fun hn=>?_
 rw[BitVec.getLsbD_of_ge a x (by omega)] at h;cases h
theorem lk {c:Cl}{x:Nat}:x∈fV c↔c.getLsbD x=true:=by
 constructor
 · intro h;exact (xE h).2
 · intro h
   have:=iz h
   simp[fV,eJ,this,h]
theorem Bs (c:Cl):(fV c).Pairwise (· < ·):=List.Pairwise.sublist List.filter_sublist List.pairwise_lt_range
theorem et {a:Cl}(h:a≠0#256):a.getLsbD (least a)=true∧∀ y,a.getLsbD y=true→least a≤y:=by
 obtain⟨x,hx,FL⟩:=UJ h
 have hm:=lk.2 FL
 have hs:=Bs a
 unfold least
 cases ot:fV a with
 | nil=>rw[ot] at hm;simp at hm
 | cons b r=>
   rw[ot] at hs
   refine⟨lk.1 (by rw[ot];simp),fun y hy=>?_⟩
   have OZ:=lk.2 hy
   rw[ot] at OZ
   rcases List.mem_cons.1 OZ with rfl|OZ
   · exact Nat.le_refl _
   · exact Nat.le_of_lt ((List.pairwise_cons.1 hs).1 y OZ)
theorem Be {a:Cl}(h:a≠0#256):least a<256:=iz (et h).1
structure Dj (l:List Cl):Prop where
 ne:∀ a∈l,a≠0#256
 ap:l.Pairwise (fun a b=>a &&& b=0#256)
theorem fJ:∀ (n:Nat)(l:List Nat),l.Nodup→(∀ x∈l,x<n)→l.length≤n
 | 0,l,_,h=>by
   cases l with
   | nil=>simp
   | cons x r=>have:=h x List.mem_cons_self;omega
 | n+1,l,hd,h=>by
   by_cases hm:n∈l
   · have h1:=fJ n (l.erase n) (hd.erase n) fun x hx=>by
       have h2:=(List.Nodup.mem_erase_iff hd).1 hx
       have:=h x h2.2
       have:=h2.1
       omega
     rw[List.length_erase_of_mem hm] at h1;omega
   · have h1:=fJ n l hd fun x hx=>by
       have:=h x hx
       have:x≠n:=fun e=>hm (e ▸ hx)
       omega
     omega
theorem Dj.len {l:List Cl}(h:Dj l):l.length≤256:=by
 have h1:=fJ 256 (l.map least) ?_ ?_
 · simpa using h1
 · rw[List.Nodup,List.pairwise_map]
   refine h.ap.imp_of_mem fun {a b} ha hb Ig e=>?_
   have h2:=(et (h.ne a ha)).1
   have h3:=(et (h.ne b hb)).1
   rw[← e] at h3
   have:(a &&& b).getLsbD (least a)=true:=by rw[BitVec.getLsbD_and,h2,h3];rfl
   rw[Ig] at this;simp at this
 · intro x hx
   obtain⟨a,ha,rfl⟩:=List.mem_map.1 hx
   exact Be (h.ne a ha)
theorem vF {c a b:Cl}(h:b∈oE c a){x:Nat}(hx:b.getLsbD x=true):a.getLsbD x=true:=by
 unfold oE at h
 split at h
 · simp at h;subst h;exact hx
 · simp at h
   rcases h with rfl|rfl
   · rw[BitVec.getLsbD_and] at hx;simp at hx;exact hx.1
   · rw[BitVec.getLsbD_and] at hx;simp at hx;exact hx.1
theorem Dj.refine {l:List Cl}(h:Dj l)(c:Cl):Dj (refine l c):=by
 refine⟨fun b hb=>?_,?_⟩
 · obtain⟨a,ha,hb⟩:=List.mem_flatMap.1 hb
   unfold oE at hb
   split at hb
   · simp at hb;subst hb;exact h.ne _ ha
   · rename_i hn
     simp at hb
     rcases hb with rfl|rfl
     · exact fun e=>hn (.inl e)
     · exact fun e=>hn (.inr e)
 · unfold Kl.refine
   rw[List.pairwise_flatMap]
   constructor
   · intro a _
     unfold oE
     split
     · simp
     · simp only[List.pairwise_cons,List.mem_singleton,forall_eq,List.not_mem_nil,false_imp_iff,implies_true,List.Pairwise.nil,and_true]
       apply jc
       intro j hj
       simp only[BitVec.getLsbD_and,BitVec.getLsbD_not]
       cases a.getLsbD j <;> cases c.getLsbD j <;> simp
   · refine h.ap.imp fun {a b} Ig x hx y hy=>?_
     apply jc
     intro j hj
     rw[BitVec.getLsbD_and]
     cases qQ:x.getLsbD j with
     | false=>simp
     | true=>
       cases pn:y.getLsbD j with
       | false=>simp
       | true=>
         have h1:=vF hx qQ
         have h2:=vF hy pn
         have h3:(a &&& b).getLsbD j=true:=by rw[BitVec.getLsbD_and,h1,h2];rfl
         rw[Ig] at h3;simp at h3
theorem Dj.sub {l m:List Cl}(h:Dj l)(hs:m.Sublist l):Dj m:=⟨fun a ha=>h.ne a (hs.subset ha),h.ap.sublist hs⟩
theorem nG {x:Nat}(hx:x<256):(Gz 0 255).getLsbD x=true:=by rw[Fq hx];simp;omega
def gV (l:List Cl)(x:Nat):Nat→Cl
 | 0=>0
 | i+1=>if alike l x i then gV l x i ||| bit i else gV l x i
def cls (l:List Cl)(x:Nat):Cl:=gV l x 256
theorem oF (l:List Cl)(x:Nat):∀ i,Part (fun y=>alike l x y) i (gV l x i)
 | 0=>Part.zero
 | i+1=>by
   unfold gV
   split
   · rename_i h;exact (oF l x i).yes h
   · rename_i h;exact (oF l x i).no (by simpa using h)
theorem ki (l:List Cl)(x:Nat){y:Nat}(hy:y<256):(cls l x).getLsbD y=alike l x y:=by
 have:=oF l x 256 y hy
 rw[decide_eq_true hy,Bool.true_and] at this
 exact this
theorem DO (l:List Cl)(c:Cl)(x y:Nat):alike (l++[c]) x y=(alike l x y&&(c.getLsbD x==c.getLsbD y)):=by simp[alike]
theorem alike_refl (l:List Cl)(x:Nat):alike l x x=true:=by simp[alike]
structure PI (l ps:List Cl):Prop where
 dj:Dj ps
 eq:∀ a∈ps,∀ x,a.getLsbD x=true→a=cls l x
 all:∀ x,x<256→∃ a∈ps,a.getLsbD x=true
theorem PI.zero:PI [] [Gz 0 255]:=by
 refine⟨⟨fun a ha=>?_,by simp⟩,fun a ha x hx=>?_,fun x hx=>⟨_,List.mem_singleton.2 rfl,nG hx⟩⟩
 · simp at ha;subst ha;exact DC (nG (by decide:0<256))
 · simp at ha;subst ha
   apply jc
   intro j hj
   rw[nG hj,ki _ _ hj];rfl
theorem PI.step {l ps:List Cl}(h:PI l ps)(c:Cl):PI (l++[c]) (refine ps c):=by
 refine⟨h.dj.refine c,fun b hb x hx=>?_,fun x hx=>?_⟩
 · obtain⟨a,ha,hb⟩:=List.mem_flatMap.1 hb
   have FL:=vF hb hx
   have hae:=h.eq a ha x FL
   apply jc
   intro j hj
   rw[ki _ _ hj,DO,← ki l x hj,← hae]
   unfold oE at hb
   split at hb
   · rename_i hz
     simp at hb;subst hb
     have e:c.getLsbD x=c.getLsbD j∨b.getLsbD j=false:=by
       cases hbj:b.getLsbD j with
       | false=>exact .inr rfl
       | true=>
         left
         have hjx:=iz hx
         rcases hz with hz|hz
         · have h1:(b &&& c).getLsbD x=false:=by rw[hz];simp
           have h2:(b &&& c).getLsbD j=false:=by rw[hz];simp
           rw[BitVec.getLsbD_and,hx] at h1
           rw[BitVec.getLsbD_and,hbj] at h2
           simp at h1 h2;rw[h1,h2]
         · have h1:(b &&& ~~~c).getLsbD x=false:=by rw[hz];simp
           have h2:(b &&& ~~~c).getLsbD j=false:=by rw[hz];simp
           rw[BitVec.getLsbD_and,hx,BitVec.getLsbD_not] at h1
           rw[BitVec.getLsbD_and,hbj,BitVec.getLsbD_not] at h2
           simp only[decide_eq_true hjx,decide_eq_true hj,Bool.true_and,Bool.not_eq_false'] at h1 h2
           rw[h1,h2]
     rcases e with e|e
     · rw[e];simp
     · rw[e];simp
   · simp at hb
     have hjx:=iz hx
     rcases hb with rfl|rfl
     · rw[BitVec.getLsbD_and] at hx ⊢
       simp at hx
       rw[hx.2]
       cases a.getLsbD j <;> cases c.getLsbD j <;> rfl
     · rw[BitVec.getLsbD_and,BitVec.getLsbD_not] at hx ⊢
       rw[FL,decide_eq_true hjx,Bool.true_and,Bool.true_and,Bool.not_eq_true'] at hx
       rw[hx,decide_eq_true hj]
       cases a.getLsbD j <;> cases c.getLsbD j <;> rfl
 · obtain⟨a,ha,FL⟩:=h.all x hx
   have:∃ b∈oE c a,b.getLsbD x=true:=by
     unfold oE
     split
     · exact⟨a,by simp,FL⟩
     · cases hc:c.getLsbD x with
       | true=>exact⟨a &&& c,by simp,by rw[BitVec.getLsbD_and,FL,hc];rfl⟩
       | false=>exact⟨a &&& ~~~c,by simp,by rw[BitVec.getLsbD_and,FL,BitVec.getLsbD_not,hc];simp[hx]⟩
   obtain⟨b,hb,Cf⟩:=this
   exact⟨b,List.mem_flatMap.2 ⟨a,ha,hb⟩,Cf⟩
theorem vG (l:List Cl):PI l (parts l):=by
 have key:∀ (m l ps:List Cl),PI l ps→PI (l++m) (m.foldl refine ps):=by
   intro m
   induction m with
   | nil=>intro l ps h;simpa using h
   | cons c m ih=>
     intro l ps h
     have:=ih (l++[c]) _ (h.step c)
     simpa using this
 have:=key l [] _ PI.zero
 simpa [parts] using this
theorem Hz (l:List Cl):(parts l).length≤256:=(vG l).dj.len
theorem LA (l:List Cl)(c:Cl)(j:Nat):(refine ((parts l).take j) c).length≤256:=(((vG l).dj.sub (List.take_sublist _ _)).refine c).len
theorem m9 (l:List Cl)(c:Cl){j:Nat}(h:j<l.length):refine (l.take (j+1)) c=refine (l.take j) c++oE c l[j]:=by
 unfold refine
 rw[List.take_add_one,List.getElem?_eq_getElem h,Option.toList_some,List.flatMap_append]
 simp
theorem DP (l:List Cl){i:Nat}(h:i<l.length):parts (l.take (i+1))=refine (parts (l.take i)) l[i]:=by
 rw[List.take_add_one,List.getElem?_eq_getElem h,Option.toList_some,DN]
def swap (l:List Cl)(k:Nat):List Cl:=(l.set (k+1) (l.getD k 0)).set k (l.getD (k+1) 0)
theorem Bt (l:List Cl)(k:Nat):(swap l k).length=l.length:=by simp[swap]
def sink (l:List Cl):Nat→List Cl
 | 0=>l
 | k+1=>if least (l.getD (k+1) 0)<least (l.getD k 0) then sink (swap l k) k else l
def gQ (l:List Cl):Nat→List Cl
 | 0=>l
 | i+1=>sink (gQ l i) i
def atoms (l:List Cl):List Cl:=gQ (parts l) (parts l).length
theorem Bu:∀ (k:Nat)(l:List Cl),(sink l k).length=l.length
 | 0,_=>rfl
 | k+1,l=>by
   unfold sink
   split
   · rw[Bu k,Bt]
   · rfl
theorem oG (l:List Cl):∀ i,(gQ l i).length=l.length
 | 0=>rfl
 | i+1=>by unfold gQ;rw[Bu,oG l i]
theorem LB (A:List Cl)(x y:Cl)(B:List Cl):swap (A++y::x::B) A.length=A++x::y::B:=by
 unfold swap
 have e1:(A++y::x::B).getD A.length 0=y:=by simp[List.getD_eq_getElem?_getD]
 have e2:(A++y::x::B).getD (A.length+1) 0=x:=by simp[List.getD_eq_getElem?_getD]
 rw[e1,e2]
 rw[List.set_append_right _ _ (by omega),List.set_append_right _ _ (by omega)]
 have e3:A.length+1-A.length=1:=by omega
 rw[e3,Nat.sub_self];rfl
theorem Bv:∀ (k:Nat)(A:List Cl)(x:Cl)(B:List Cl),A.length=k→A.Pairwise (fun a b=>least a≤least b)→∃ A',A'.Perm (x::A)∧A'.Pairwise (fun a b=>least a≤least b)∧sink (A++x::B) k=A'++B
 | 0,A,x,B,hk,_=>by
   have:A = []:=List.eq_nil_of_length_eq_zero hk
   subst this
   exact⟨[x],.refl _,by simp,rfl⟩
 | k+1,A,x,B,hk,hs=>by
   rcases DE A with rfl|⟨A0,y,rfl⟩
   · simp at hk
   · have o6:A0.length=k:=by simpa using hk
     obtain⟨hs0,_,tW⟩:=List.pairwise_append.1 hs
     have e0:A0++[y]++x::B=A0++y::x::B:=by simp
     have e1:(A0++y::x::B).getD (k+1) 0=x:=by subst o6;simp[List.getD_eq_getElem?_getD]
     have e2:(A0++y::x::B).getD k 0=y:=by subst o6;simp[List.getD_eq_getElem?_getD]
     rw[e0]
     unfold sink
     rw[e1,e2]
     split
     · rename_i cH
       have e3:=LB A0 x y B
       rw[o6] at e3
       rw[e3]
       obtain⟨A',hp,mT,he⟩:=Bv k A0 x (y::B) o6 hs0
       refine⟨A'++[y],?_,?_,by rw[he];simp⟩
       · have:=hp.append_right [y]
         simpa using this
       · refine List.pairwise_append.2 ⟨mT,by simp,fun a ha b hb=>?_⟩
         simp at hb;subst hb
         rcases List.mem_cons.1 (hp.mem_iff.1 ha) with rfl|ha
         · omega
         · exact tW a ha _ (by simp)
     · rename_i cH
       refine⟨A0++[y]++[x],?_,?_,by simp⟩
       · exact List.perm_append_comm
       · refine List.pairwise_append.2 ⟨hs,by simp,fun a ha b hb=>?_⟩
         simp at hb;subst hb
         rcases List.mem_append.1 ha with ha|ha
         · have:=tW a ha y (by simp);omega
         · simp at ha;subst ha;omega
theorem vH (l:List Cl):∀ i,i≤l.length→∃ A,A.Perm (l.take i)∧A.Pairwise (fun a b=>least a≤least b)∧gQ l i=A++l.drop i
 | 0,_=>⟨[],by simp,by simp,by simp[gQ]⟩
 | i+1,hi=>by
   obtain⟨A,hp,hs,he⟩:=vH l i (by omega)
   have hd:l.drop i=l[i]::l.drop (i+1):=List.drop_eq_getElem_cons (by omega)
   have hA:A.length=i:=by have:=hp.length_eq;rw[List.length_take] at this;omega
   obtain⟨A',KI,mT,sH⟩:=Bv i A l[i] (l.drop (i+1)) hA hs
   refine⟨A',?_,mT,by unfold gQ;rw[he,hd,sH]⟩
   rw[List.take_add_one,List.getElem?_eq_getElem (by omega),Option.toList_some]
   exact KI.trans ((hp.cons _).trans (List.perm_append_comm (l₁:=[l[i]])))
theorem oH (l:List Cl):(atoms l).Perm (parts l)∧(atoms l).Pairwise (fun a b=>least a≤least b):=by
 obtain⟨A,hp,hs,he⟩:=vH (parts l) _ (Nat.le_refl _)
 unfold atoms
 rw[he,List.drop_length,List.append_nil]
 rw[List.take_length] at hp
 exact⟨hp,hs⟩
theorem Dj.perm {l m:List Cl}(h:Dj l)(hp:m.Perm l):Dj m:=
 ⟨fun a ha=>h.ne a (hp.mem_iff.1 ha),hp.symm.pairwise h.ap (fun {a b} Ig=>by rw[BitVec.and_comm];exact Ig)⟩
theorem lu (l:List Cl):PI l (atoms l):=by
 have hp:=(oH l).1
 have h:=vG l
 refine⟨h.dj.perm hp,fun a ha=>h.eq a (hp.mem_iff.1 ha),fun x hx=>?_⟩
 obtain⟨a,ha,FL⟩:=h.all x hx
 exact⟨a,hp.mem_iff.2 ha,FL⟩
theorem zJ (l:List Cl):(atoms l).Pairwise (fun a b=>least a<least b):=by
 have h:=lu l
 have h2:=(oH l).2
 refine (h2.and h.dj.ap).imp_of_mem fun {a b} ha hb Ig=>?_
 have h3:=(et (h.dj.ne a ha)).1
 have h4:=(et (h.dj.ne b hb)).1
 rcases Nat.lt_or_eq_of_le Ig.1 with hl|he
 · exact hl
 · rw[← he] at h4
   have h5:(a &&& b).getLsbD (least a)=true:=by rw[BitVec.getLsbD_and,h3,h4];rfl
   rw[Ig.2] at h5;simp at h5
def gy (l:List Cl)(x:Nat)(i:Nat):Bool:=(List.range i).all fun y=>!alike l x y||decide (x≤y)
theorem jh (l:List Cl)(x i:Nat):gy l x (i+1)=(gy l x i&&(!alike l x i||decide (x≤i))):=by
 unfold gy;rw[List.range_succ,List.all_append];simp
def dT (l:List Cl)(i:Nat):List Cl:=((List.range i).filter (gy l · 256)).map (cls l)
def qN (l:List Cl):List Cl:=dT l 256
theorem yu {l:List Cl}{i:Nat}(h:gy l i 256=true):dT l (i+1)=dT l i++[cls l i]:=by
 unfold dT;rw[List.range_succ,List.filter_append];simp[h]
theorem Aj {l:List Cl}{i:Nat}(h:gy l i 256=false):dT l (i+1)=dT l i:=by
 unfold dT;rw[List.range_succ,List.filter_append];simp[h]
theorem yt (l:List Cl)(i:Nat):(dT l i).length≤i:=by
 have:=List.length_filter_le (gy l · 256) (List.range i)
 simpa [dT] using this
theorem zK {l:List Cl}{x:Nat}(h:gy l x 256=true){y:Nat}(hy:y<256)(ha:alike l x y=true):x≤y:=by
 have:=List.all_eq_true.1 h y (by simpa using hy)
 simpa [ha] using this
theorem UK (l:List Cl){x:Nat}(hx:x<256):cls l x≠0#256:=DC (x:=x) (by rw[ki l x hx];exact alike_refl l x)
theorem xT {l:List Cl}{x:Nat}(hx:x<256)(h:gy l x 256=true):least (cls l x)=x:=by
 obtain⟨h1,h2⟩:=et (UK l hx)
 have h3:=h2 x (by rw[ki l x hx];exact alike_refl l x)
 have h4:=iz h1
 rw[ki l x h4] at h1
 have:=zK h h4 h1
 omega
theorem xU:∀ (l m:List Cl),l.Pairwise (fun a b=>least a<least b)→m.Pairwise (fun a b=>least a<least b)→(∀ a,a∈l↔a∈m)→l=m
 | [],[],_,_,_=>rfl
 | [],b::m,_,_,h=>by have:=(h b).2 List.mem_cons_self;simp at this
 | a::l,[],_,_,h=>by have:=(h a).1 List.mem_cons_self;simp at this
 | a::l,b::m,hl,hm,h=>by
   obtain⟨ha,XG⟩:=List.pairwise_cons.1 hl
   obtain⟨hb,zZ⟩:=List.pairwise_cons.1 hm
   have e:a=b:=by
     rcases List.mem_cons.1 ((h a).1 List.mem_cons_self) with e|h1
     · exact e
     · rcases List.mem_cons.1 ((h b).2 List.mem_cons_self) with e|h2
       · exact e.symm
       · have:=hb a h1;have:=ha b h2;omega
   subst e
   rw[xU l m XG zZ fun x=>?_]
   constructor
   · intro hx
     rcases List.mem_cons.1 ((h x).1 (List.mem_cons_of_mem _ hx)) with rfl|wF
     · have:=ha x hx;omega
     · exact wF
   · intro hx
     rcases List.mem_cons.1 ((h x).2 (List.mem_cons_of_mem _ hx)) with rfl|wF
     · have:=hb x hx;omega
     · exact wF
theorem Jr (l:List Cl):atoms l=qN l:=by
 have hp:=lu l
 refine xU _ _ (zJ l) ?_ fun a=>?_
 · unfold qN dT
   rw[List.pairwise_map]
   refine (List.Pairwise.sublist List.filter_sublist (List.pairwise_lt_range (n:=256))).imp_of_mem fun {x y} hx hy M7=>?_
   have wF:=List.mem_filter.1 hx
   have OZ:=List.mem_filter.1 hy
   rw[xT (by simpa using wF.1) wF.2,xT (by simpa using OZ.1) OZ.2]
   exact M7
 · unfold qN dT
   rw[List.mem_map]
   constructor
   · intro ha
     obtain⟨h1,h2⟩:=et (hp.dj.ne a ha)
     have he:=hp.eq a ha _ h1
     have cH:=iz h1
     refine⟨least a,List.mem_filter.2 ⟨by simpa using cH,?_⟩,he.symm⟩
     refine List.all_eq_true.2 fun y hy=>?_
     have OZ:y<256:=by simpa using hy
     cases hay:alike l (least a) y with
     | false=>rfl
     | true=>
       have:=h2 y (by rw[he,ki _ _ OZ];exact hay)
       simpa using this
   · rintro⟨x,hx,rfl⟩
     have wF:=List.mem_filter.1 hx
     have cH:x<256:=by simpa using wF.1
     obtain⟨a,ha,FL⟩:=hp.all x cH
     rw[← hp.eq a ha x FL];exact ha
theorem BI {l:List Cl}{k:Nat}(h:k<l.length):l[k]?=some (l.getD k 0):=by
 rw[List.getD_eq_getElem?_getD,List.getElem?_eq_getElem h];rfl
theorem Mi {l:List Cl}{q:Nat}(h:least (l.getD (q+1) 0)<least (l.getD q 0)):sink l (q+1)=sink (swap l q) q:=by
 rw[sink,if_pos h]
theorem Ps {l:List Cl}{q:Nat}(h:¬ least (l.getD (q+1) 0)<least (l.getD q 0)):sink l (q+1)=l:=by
 rw[sink,if_neg h]
theorem qB (l:List Cl):(atoms l).length=(parts l).length:=oG _ _
def wK:Cl:=ofL [97,99]
end Go.HL.Kl
namespace Go.HL.Kl
open Go Go.HL Go.RowKit Go.ChangeShapes Go.WideShapes Go.ChangeAt
def Tq (w:BitVec 64):List Value:=[Ew w]
instance:eB Tq 1:=⟨fun _=>rfl,fun _ v hv=>by simp[Tq,Ew] at hv;subst hv;rfl⟩
def X4 (a b c d:BitVec 64):Cl:=lQ (lQ (lQ (lQ 0 0 a) 1 b) 2 c) 3 d
end Go.HL.Kl
namespace Go.HL.Kl.Mc
open Go Go.HL Go.HL.Kl
structure Nd where
 op:Int
 set:Cl
 n:Int
 mn:Int
 mx:Int
 kids:Int
 deriving DecidableEq
def En (x:Nd):List Value:=.int .i8 x.op::(Ec x.set++[.int .i64 x.n,.int .i64 x.mn,.int .i64 x.mx,.int .i64 x.kids])
instance:eB En 9:=⟨fun x=>by simp[En,eB.len],fun x v hv=>by
 simp only[En,List.mem_cons,List.mem_append,List.not_mem_nil,or_false] at hv
 rcases hv with rfl|hv|rfl|rfl|rfl|rfl
 · rfl
 · exact ia _ v hv
 all_goals rfl⟩
def sJ (x:Nd):Bool:=
 decide (1≤x.op∧x.op≤8)&&(decide (x.op=1)||decide (x.set=0))&&(decide (x.op=7∨x.op=8)||decide (x.n=0)) &&
 (if x.op=6 then decide (0≤x.mn∧x.mn≤255∧(x.mx = -1∨x.mn≤x.mx∧x.mx≤255)) else decide (x.mn=0∧x.mx=0))
def gi (x:Nd):Bool:=
 if x.op=6∨x.op=7 then decide (x.kids=1) else if x.op=4 then decide (x.kids=0∨2≤x.kids) else if x.op=5 then decide (2≤x.kids) else decide (x.kids=0)
def eH (x:Nd):Bool:=sJ x&&gi x
inductive F
 | nil
 | nd (x:Nd)(ks r:F)
namespace F
def flat:F→List Nd
 | nil=>[]
 | nd x ks r=>x::(ks.flat++r.flat)
def num:F→Nat
 | nil=>0
 | nd _ _ r=>r.num+1
def size:F→Nat
 | nil=>0
 | nd _ ks r=>ks.size+r.size+1
def wf:F→Prop
 | nil=>True
 | nd x ks r=>eH x=true∧(ks.num:Int)=x.kids∧ks.wf∧r.wf
def depth:F→Nat
 | nil=>0
 | nd _ ks r=>max (ks.depth+1) r.depth
theorem jn:∀ f:F,f.flat.length=f.size
 | nil=>rfl
 | nd x ks r=>by simp only[flat,List.length_cons,List.length_append,jn ks,jn r,size]
end F
end Go.HL.Kl.Mc
namespace Go.HL.Kl.Mc
open Go Go.HL Go.HL.Kl
def gate (x:Nd)(en:List Bool)(g:Nat):Option (List Bool×Nat):=
 if x.op=8 then (if 1≤x.n∧x.n≤en.length∧en[x.n.toNat-1]?=some true then some (en,g) else none)
 else if x.op=7 then (if x.n=en.length+1∧x.n≤255∧g<64 then some (en++[false],g+1) else none)
 else some (en,g)
def fS (step:Nat→List Bool→Option (Nat×List Bool)):Nat→Nat→List Bool→Option (Nat×List Bool)
 | 0,i,en=>some (i,en)
 | k+1,i,en=>match step i en with
   | none=>none
   | some (i',m5)=>fS step k i' m5
def iD (re:List Nd):Nat→Nat→List Bool→Nat→Option (Nat×List Bool)
 | 0,_,_,_=>none
 | f+1,i,en,g=>match re[i]? with
   | none=>none
   | some x=>if eH x=true then
       match gate x en g with
       | none=>none
       | some (uY,g1)=>match fS (fun i en=>iD re f i en g1) x.kids.toNat (i+1) uY with
         | none=>none
         | some (i2,jb)=>some (i2,if x.op=7 then jb.set (x.n.toNat-1) true else jb)
     else none
theorem kZ {x:Nd}(h:eH x=true):0≤x.kids:=by
 simp only[eH,Bool.and_eq_true,gi] at h
 have h:=h.2
 split at h
 · simp at h;omega
 · split at h
   · simp at h;omega
   · split at h <;> simp at h <;> omega
structure zh (re:List Nd)(d i i':Nat)(x:Nd)(ks:F):Prop where
 wf:(F.nd x ks .nil).wf
 flat:re.drop i=x::(ks.flat++re.drop i')
 dep:ks.depth+1≤d
 len:i'=i+1+ks.size
 le:i'≤re.length
structure Yb (re:List Nd)(d k i i':Nat)(ks:F):Prop where
 wf:ks.wf
 num:ks.num=k
 flat:re.drop i=ks.flat++re.drop i'
 dep:ks.depth≤d
 len:i'=i+ks.size
 le:i≤re.length→i'≤re.length
theorem G7 {re:List Nd}{d:Nat}{step:Nat→List Bool→Option (Nat×List Bool)}(hs:∀ i en i' m5,step i en=some (i',m5)→∃ x ks,zh re d i i' x ks) :
   ∀ k i en i' m5,fS step k i en=some (i',m5)→∃ ks,Yb re d k i i' ks:=by
 intro k
 induction k with
 | zero=>
   intro i en i' m5 h
   simp only[fS,Option.some.injEq,Prod.mk.injEq] at h
   obtain⟨rfl,rfl⟩:=h
   exact⟨.nil,trivial,rfl,rfl,Nat.zero_le _,rfl,id⟩
 | succ k ih=>
   intro i en i' m5 h
   simp only[fS] at h
   split at h
   · cases h
   · rename_i j uY dV
     obtain⟨x,ks,ht⟩:=hs _ _ _ _ dV
     obtain⟨r,hr⟩:=ih _ _ _ _ h
     refine⟨.nd x ks r,⟨ht.wf.1,ht.wf.2.1,ht.wf.2.2.1,hr.wf⟩,by simp[F.num,hr.num],by rw[ht.flat,hr.flat];simp[F.flat],?_,by rw[hr.len,ht.len];simp only[F.size];omega,fun _=>hr.le ht.le⟩
     simp only[F.depth]
     have:=ht.dep;have:=hr.dep
     omega
theorem vd {re:List Nd}:∀ f i en g i' m5,iD re f i en g=some (i',m5)→∃ x ks,zh re f i i' x ks:=by
 intro f
 induction f with
 | zero=>intro i en g i' m5 h;cases h
 | succ f ih=>
   intro i en g i' m5 h
   simp only[iD] at h
   split at h
   · cases h
   · rename_i x hx
     have cH:i<re.length:=(List.getElem?_eq_some_iff.1 hx).1
     split at h
     · rename_i pd
       split at h
       · cases h
       · rename_i uY g1 hg
         split at h
         · cases h
         · rename_i i2 jb hk
           simp only[Option.some.injEq,Prod.mk.injEq] at h
           obtain⟨rfl,-⟩:=h
           obtain⟨ks,Tx⟩:=G7 (fun i en i' m5 h=>ih i en g1 i' m5 h) _ _ _ _ _ hk
           have h0:=kZ pd
           refine⟨x,ks,⟨pd,by rw[Tx.num];omega,Tx.wf,trivial⟩,?_,by have:=Tx.dep;omega,by rw[Tx.len],Tx.le cH⟩
           rw[List.drop_eq_getElem_cons cH,Tx.flat]
           rw[List.getElem?_eq_getElem cH] at hx
           simp at hx
           rw[hx]
     · cases h
def times (x:Nd):Nat:=if x.op=6 then (if x.mx<0 then x.mn.toNat+1 else max x.mx.toNat 1) else 1
namespace F
def weight:F→Nat
 | nil=>0
 | nd x ks r=>(1+times x*ks.weight)+r.weight
end F
def cut (n:Nat):Nat:=min n 16385
theorem Fo (a b:Nat):cut (cut a+cut b)=cut (a+b):=by unfold cut;omega
theorem Ou {t a:Nat}(ht:1≤t):cut (1+t*cut a)=cut (1+t*a):=by
 unfold cut
 rcases Nat.le_total a 16385 with h|h
 · rw[Nat.min_eq_left h]
 · rw[Nat.min_eq_right h]
   have h1:16385≤t*16385:=Nat.le_mul_of_pos_left _ ht
   have h2:t*16385≤t*a:=Nat.mul_le_mul_left _ h
   omega
theorem iw (x:Nd):1≤times x:=by
 unfold times
 split
 · split <;> omega
 · exact Nat.le_refl _
theorem AZ {x:Nd}(h:eH x=true):times x≤256:=by
 simp only[eH,sJ,Bool.and_eq_true] at h
 have h:=h.1.2
 unfold times
 split
 · rename_i h6
   rw[if_pos h6] at h
   simp at h
   split <;> omega
 · omega
structure iR (re:List Nd)(x:Nd)(ks:F):Prop where
 wf:(F.nd x ks .nil).wf
 flat:re=x::ks.flat
 dep:ks.depth+1≤260
 weight:(F.nd x ks .nil).weight≤16384
open Classical in
noncomputable def abV (re:List Nd):Bool:=decide (∃ en,iD re 260 0 [] 0=some (re.length,en))&&decide (∃ x ks,iR re x ks)
end Go.HL.Kl.Mc
namespace Go.HL.Kl.Mc
open Go Go.HL Go.HL.Kl
def pow (D:Nat→Nat→Prop):Nat→Nat→Nat→Prop
 | 0,p,q=>p=q
 | k+1,p,q=>∃ m,D p m∧pow D k m q
def rounds (x:Nd)(D:Nat→Nat→Prop)(p q:Nat):Prop:=∃ k:Nat,x.mn≤(k:Int)∧(x.mx = -1∨(k:Int)≤x.mx)∧pow D k p q
def kn (w:List UInt8):F→Bool→Nat→Nat→Prop
 | .nil,m,p,q=>m=false∧p=q
 | .nd x ks r,m,p,q=>
   let one:Nat→Nat→Prop:=fun p q=>
     if x.op=1 then q=p+1∧∃ b,w[p]?=some b∧x.set.getLsbD b.toNat=true
     else if x.op=2 then p=0∧q=0
     else if x.op=3 then p=w.length∧q=p
     else if x.op=5 then kn w ks true p q
     else if x.op=6 then rounds x (kn w ks false) p q
     else kn w ks false p q
   if m=true then one p q∨kn w r true p q else ∃ t,one p t∧kn w r false t q
structure In where
 op:Int
 set:Cl
 x:Int
 y:Int
 deriving DecidableEq
def Ql (i:In):List Value:=.int .i8 i.op::(Ec i.set++[.int .i64 i.x,.int .i64 i.y])
instance:eB Ql 7:=⟨fun x=>by simp[Ql,eB.len],fun x v hv=>by
 simp only[Ql,List.mem_cons,List.mem_append,List.not_mem_nil,or_false] at hv
 rcases hv with rfl|hv|rfl|rfl
 · rfl
 · exact ia _ v hv
 all_goals rfl⟩
def C8 (x:Nd)(cat alt:Nat):Nat:=
 if x.op=1∨x.op=2∨x.op=3 then 1 else if x.op=5 then alt
 else if x.op=6 then x.mn.toNat*cat+(if x.mx = -1 then cat+2 else (x.mx-x.mn).toNat*(cat+1)) else cat
def u6:F→Bool→Nat
 | .nil,_=>0
 | .nd x ks r,m=>C8 x (u6 ks false) (u6 ks true)+(if m=true then (match r with | .nil=>0|_=>2) else 0)+u6 r m
def J4 (c:Nat→List In)(L:Nat):Nat→Nat→List In
 | 0,_=>[]
 | k+1,b=>c b++J4 c L k (b+L)
def opts (c:Nat→List In)(L e:Nat):Nat→Nat→List In
 | 0,_=>[]
 | k+1,b=>⟨5,0,(b+1:Nat),e⟩::(c (b+1)++opts c L e k (b+1+L))
def ad1 (x:Nd)(c:Nat→List In)(L b:Nat):List In:=
 J4 c L x.mn.toNat b ++
   (let b1:=b+x.mn.toNat*L
    if x.mx = -1 then ⟨5,0,(b1+1:Nat),(b1+L+2:Nat)⟩::(c (b1+1)++[⟨4,0,(b1:Nat),0⟩])
    else opts c L (b1+(x.mx-x.mn).toNat*(L+1)) (x.mx-x.mn).toNat b1)
def XN (x:Nd)(c a:Nat→List In)(L b:Nat):List In:=
 if x.op=1 then [⟨1,x.set,0,0⟩] else if x.op=2 then [⟨2,0,0,0⟩] else if x.op=3 then [⟨3,0,0,0⟩]
 else if x.op=5 then a b else if x.op=6 then ad1 x c L b else c b
def code:F→Bool→Nat→Nat→List In
 | .nil,_,_,_=>[]
 | .nd x ks r,m,b,e=>
   let one:Nat→List In:=XN x (fun b=>code ks false b 0) (fun b=>code ks true b (b+u6 ks true)) (u6 ks false)
   let L:=C8 x (u6 ks false) (u6 ks true)
   if m=true then (match r with
     | .nil=>one b
     | _=>⟨5,0,(b+1:Nat),(b+L+2:Nat)⟩::(one (b+1)++(⟨4,0,e,0⟩::code r true (b+L+2) e)))
   else one b++code r false (b+L) 0
inductive Tf (m:List In)(w:List UInt8):Nat×Nat→Nat×Nat→Prop
 | set {i p:Nat}{t:In}{b:UInt8}(h:m[i]?=some t)(ho:t.op=1)(hb:w[p]?=some b)(hs:t.set.getLsbD b.toNat=true):Tf m w (i,p) (i+1,p+1)
 | bol {i:Nat}{t:In}(h:m[i]?=some t)(ho:t.op=2):Tf m w (i,0) (i+1,0)
 | Tg {i:Nat}{t:In}(h:m[i]?=some t)(ho:t.op=3):Tf m w (i,w.length) (i+1,w.length)
 | jmp {i p j:Nat}{t:In}(h:m[i]?=some t)(ho:t.op=4)(hx:t.x=(j:Int)):Tf m w (i,p) (j,p)
 | spx {i p j:Nat}{t:In}(h:m[i]?=some t)(ho:t.op=5)(hx:t.x=(j:Int)):Tf m w (i,p) (j,p)
 | spy {i p j:Nat}{t:In}(h:m[i]?=some t)(ho:t.op=5)(hy:t.y=(j:Int)):Tf m w (i,p) (j,p)
inductive G0 (m:List In)(w:List UInt8):Nat→Nat×Nat→Nat×Nat→Prop
 | zero {c:Nat×Nat}:G0 m w 0 c c
 | step {n:Nat}{c c' c'':Nat×Nat}(h:Tf m w c c')(hr:G0 m w n c' c''):G0 m w (n+1) c c''
def Run (m:List In)(w:List UInt8)(c c':Nat×Nat):Prop:=∃ n,G0 m w n c c'
variable {m:List In}{w:List UInt8}
def At (m:List In)(b:Nat)(c:List In):Prop:=∀ i t,c[i]?=some t→m[b+i]?=some t
structure aiN (m:List In)(w:List UInt8)(b e:Nat)(D:Nat→Nat→Prop):Prop where
 le:b≤e
 run:∀ p q,D p q→Run m w (b,p) (e,q)
 out:∀ n p c q,G0 m w n (b,p) (c,q)→¬ (b≤c∧c<e)→∃ k q',k≤n∧D p q'∧G0 m w k (e,q') (c,q)
theorem uO {x:Nd}(h:eH x=true)(h6:x.op=6):0≤x.mn∧x.mn≤255∧(x.mx = -1∨x.mn≤x.mx∧x.mx≤255):=by
 simp only[eH,sJ,Bool.and_eq_true] at h
 have h:=h.1.2
 rw[if_pos h6] at h
 simpa using h
end Go.HL.Kl.Mc
namespace Go.HL.Kl.Mc
open Go Go.HL Go.HL.Kl
variable {m:List In}{w:List UInt8}
def Eps (m:List In)(n p i j:Nat):Prop:=∃ t,m[i]?=some t∧((t.op=2∧p=0∧j=i+1)∨(t.op=3∧p=n∧j=i+1)∨(t.op=4∧t.x=(j:Int))∨(t.op=5∧(t.x=(j:Int)∨t.y=(j:Int))))
inductive G6 (m:List In)(n p:Nat):Nat→Nat→Prop
 | refl {i:Nat}:G6 m n p i i
 | head {i j k:Nat}(h:Eps m n p i j)(hs:G6 m n p j k):G6 m n p i k
def Eat (m:List In)(w:List UInt8)(i p:Nat):Prop:=∃ t b,m[i]?=some t∧t.op=1∧w[p]?=some b∧t.set.getLsbD b.toNat=true
def Hit (m:List In)(w:List UInt8)(f p:Nat):Prop:=∃ i t,Run m w (0,f) (i,p)∧m[i]?=some t∧t.op=6
def J5 (E:Nat)(t:In):Prop:=(1≤t.op∧t.op≤6)∧(t.op=1∨t.set=0)∧(0≤t.x∧t.x≤(if t.op=4∨t.op=5 then (E:Int) else 0))∧(0≤t.y∧t.y≤(if t.op=5 then (E:Int) else 0))
instance (E:Nat)(t:In):Decidable (J5 E t):=by unfold J5;infer_instance
def MOk (m:List In):Prop:=1≤m.length∧m.length≤65540∧∀ i t,m[i]?=some t→J5 (m.length-1) t∧(t.op≤3→i+1<m.length)
def ae7 (E:Nat)(c:List In):Prop:=∀ t∈c,J5 E t∧t.op≤5
def nM (f:F):List In:=code f false 0 0++[⟨6,0,0,0⟩]
end Go.HL.Kl.Mc
namespace Go.HL.Kl.Mc
open Go Go.HL Go.HL.Kl
structure IsS (l:List Bool)(N:Nat)(S:Nat→Prop):Prop where
 len:l.length=N+1
 get:∀ p,p≤N→(l[p]?=some true↔S p)
def img (D:Nat→Nat→Prop)(S:Nat→Prop)(q:Nat):Prop:=∃ p,S p∧D p q
def Inn (N:Nat)(D:Nat→Nat→Prop):Prop:=∀ p q,p≤N→D p q→q≤N
def fw (w:List UInt8)(x:Nd)(ks:F)(p q:Nat):Prop:=kn w (.nd x ks .nil) false p q
theorem ei {w:List UInt8}{x:Nd}{ks:F}{p q:Nat}:fw w x ks p q ↔
   (if x.op=1 then q=p+1∧∃ b,w[p]?=some b∧x.set.getLsbD b.toNat=true
     else if x.op=2 then p=0∧q=0
     else if x.op=3 then p=w.length∧q=p
     else if x.op=5 then kn w ks true p q
     else if x.op=6 then rounds x (kn w ks false) p q
     else kn w ks false p q):=by
 unfold fw
 rw[kn]
 simp[kn]
theorem pF {w:List UInt8}{x:Nd}{ks r:F}{p q:Nat}:kn w (.nd x ks r) false p q↔∃ t,fw w x ks p t∧kn w r false t q:=by
 conv=>lhs;rw[kn]
 simp only[Bool.false_eq_true,if_false,ei]
theorem pD {w:List UInt8}{x:Nd}{ks r:F}{p q:Nat}:kn w (.nd x ks r) true p q↔fw w x ks p q∨kn w r true p q:=by
 conv=>lhs;rw[kn]
 simp only[if_true,ei]
theorem s9 {w:List UInt8}{p q:Nat}:kn w .nil false p q↔p=q:=by simp[kn]
theorem pE {w:List UInt8}{p q:Nat}:kn w .nil true p q↔False:=by simp[kn]
def alF (D:Nat→Nat→Prop)(S:Nat→Prop)(mn k q:Nat):Prop:=∃ j,mn≤j∧j≤k∧img (pow D j) S q
section
variable {P:Program}{κ:Cx}{L:Loc}{H:Hp}{ty t t':TypeId}{x y:Operand}
theorem SY {w:World}{n e b e1 b1:Nat}{k':IntKind}{xs ys:Array Value}{l:List (Nat×Nat)}{c d:Kl.Cl}{r:Bool} [TU P e (.array 4 e1)] [TG P e false] [TI P e 4 b] [TU P e1 (.int k')] [TG P e1 true] [TI P e1 1 b1]
   (hx:xs.extract 1 5=(Ec c).toArray)(hy:ys.extract 1 5=(Ec d).toArray)(h:FQ P w (n+1) xs ys l r):FQ P w (n+1) xs ys ((e,1)::l) (decide (c=d)&&r):=by
 refine .cons (pf hx) (pf hy) ?_ h
 have:=C1 (P:=P) (t:=e) w n (j:=.u64) (Ic c) (Ic d) (rq c) (rq d)
 rw[← j7,← j7] at this
 rw[this]
 congr 1
 exact decide_eq_decide.2 CK
theorem Qq {a c i e b be:Nat}{k1 k2 ke:IntKind} [TU P a (.int k1)] [TG P a true] [TU P i (.int k2)] [TG P i true] [TU P c (.array 4 e)] [TG P c false] [TI P c 4 b] [TU P e (.int ke)] [TG P e true] [TI P e 1 be](w:World)(p q:Nd):FQ P w 9998 (En p).toArray (En q).toArray [(a,0),(c,1),(i,5),(i,6),(i,7),(i,8)] (decide (p=q)):=by
 have h:FQ P w 9998 (En p).toArray (En q).toArray [(a,0),(c,1),(i,5),(i,6),(i,7),(i,8)] _:=
   .int (j:=.i8) (p:=p.op) (q:=q.op) rfl rfl (SY (c:=p.set) (d:=q.set) rfl rfl (.int (j:=.i64) (p:=p.n) (q:=q.n) rfl rfl (.int (j:=.i64) (p:=p.mn) (q:=q.mn) rfl rfl (.int (j:=.i64) (p:=p.mx) (q:=q.mx) rfl rfl (.int (j:=.i64) (p:=p.kids) (q:=q.kids) rfl rfl .nil)))))
 have e:(p.op==q.op&&(decide (p.set=q.set)&&(p.n==q.n&&(p.mn==q.mn&&(p.mx==q.mx&&(p.kids==q.kids&&true))))))=decide (p=q):=by
   cases p;cases q
   simp only[Nd.mk.injEq,Bool.and_true]
   rw[Bool.eq_iff_iff]
   simp
 rw[← e];exact h
theorem uP {a c i e b be:Nat}{k1 k2 ke:IntKind} [EG P t] [TU P a (.int k1)] [TG P a true] [TU P i (.int k2)] [TG P i true] [TU P c (.array 4 e)] [TG P c false] [TI P c 4 b] [TU P e (.int ke)] [TG P e true] [TI P e 1 be] [Go.HL.TQ P t [(a,0),(c,1),(i,5),(i,6),(i,7),(i,8)]]{p q:Nd}(hx:ev L x=some (.agg (En p).toArray))(hy:ev L y=some (.agg (En q).toArray)):Step P κ (.binOp .neq t x y t') ty L H (.bool (!decide (p=q))):=
 tS hx hy fun w=>Qq w p q
theorem gK {a c i e b be:Nat}{k1 k2 ke:IntKind} [EG P t] [TU P a (.int k1)] [TG P a true] [TU P i (.int k2)] [TG P i true] [TU P c (.array 4 e)] [TG P c false] [TI P c 4 b] [TU P e (.int ke)] [TG P e true] [TI P e 1 be] [Go.HL.TQ P t [(a,0),(c,1),(i,5),(i,6),(i,7),(i,8)]]{p q:Nd}(hx:ev L x=some (.agg (En p).toArray))(hy:ev L y=some (.agg (En q).toArray)):Step P κ (.binOp .eql t x y t') ty L H (.bool (decide (p=q))):=
 ID hx hy fun w=>Qq w p q
end
end Go.HL.Kl.Mc
namespace Go.HL
open Go
theorem St.di {α:Type}{E:α→List Value}{k:Nat} [he:eB E k]{a:Option Addr}{c:Nat}{xs:List α}{w0 w:World}{M:List Nat}{S H:Hp}(st:St w0 w M H)(ER:c4 S H)(hr:Rd E w0 (.slice a xs.length c) xs)(ha:ew M (.slice a xs.length c))(hk:0<k):ew (keys S) (.slice a xs.length c):=by
 intro A n c' hv hn hm
 have ha':=ha A n c' hv hn
 cases hv
 obtain⟨⟨b',o⟩,Zw,hb⟩:=List.mem_map.1 hm
 have hb:b'=A.block:=hb
 subst hb
 rcases st.own _ _ (ER _ Zw) with h1|h1
 · exact ha' h1
 have hl:0<xs.length:=by omega
 obtain⟨u,hu⟩:∃ u,(flat E xs)[0]?=some u:=by
   have:0<(flat E xs).length:=by rw[cD];exact Nat.mul_pos hl hk
   exact⟨_,List.getElem?_eq_getElem this⟩
 have h2:=hr.get 0 u hu
 have h3:A.block<w0.heap.size:=by
   rcases Nat.lt_or_ge A.block w0.heap.size with h'|h'
   · exact h'
   · simp[World.cell?,ea,kN,CB,Array.getElem?_eq_none h'] at h2
 omega
end Go.HL
namespace Go.HL.Kl.Mc
open Go Go.HL Go.HL.Kl
def k8 (T bx:Nat)(ra:Option Addr)(rc:Nat)(re:List Nd)(i:Nat)(ea:Option Addr)(ec:Nat)(en:List Bool):Nat×Obj:=(bx,.cells [.slice ra re.length rc,.int .i64 i,.slice ea en.length ec].toArray T (0,0))
def JW (T bx:Nat)(ra:Option Addr)(rc:Nat)(re:List Nd)(r:Option (Nat×List Bool))(v:Value)(S':Hp):Prop:=
 match r with
 | none=>v = .bool false
 | some (i',m5)=>v = .bool true∧∃ ea' ec' Se',S'=k8 T bx ra rc re i' ea' ec' m5::Se'∧aG fR 1 4 (.slice ea' m5.length ec') m5 Se'
def Fb (P:Program)(fn T:Nat)(f:Nat):Prop:=∀ (bx:Nat)(ra:Option Addr)(rc:Nat)(re:List Nd)(i wi g:Nat)(ea:Option Addr)(ec:Nat)(en:List Bool)(Se:Hp),(∀ x∈re,-128≤x.op∧x.op<128)→wi+f=260→i≤re.length→en.length≤255→g≤64→aG fR 1 4 (.slice ea en.length ec) en Se →
 Fn P fn [.pointer (some ⟨bx,0,none⟩),.int .i64 wi,.int .i64 g] (fun w=>Rd En w (.slice ra re.length rc) re∧ew (keys (k8 T bx ra rc re i ea ec en::Se)) (.slice ra re.length rc)) (k8 T bx ra rc re i ea ec en::Se) (JW T bx ra rc re (iD re f i en g))
theorem AO {p q:Nat×Obj}{S:Hp}:c4 (p::S) (p::q::S):=fun r hr=>by
 rcases List.mem_cons.1 hr with rfl|h
 · exact List.mem_cons_self
 · exact List.mem_cons_of_mem _ (List.mem_cons_of_mem _ h)
theorem Fc {re:List Nd}{f i g:Nat}{en:List Bool}(h:re.length≤i):iD re f i en g=none:=by
 cases f with
 | zero=>rfl
 | succ f=>simp only[iD];rw[List.getElem?_eq_none h]
theorem ze {re:List Nd}{f i g:Nat}{en:List Bool}{x:Nd}(hx:re[i]?=some x)(h:eH x=false):iD re (f+1) i en g=none:=by
 simp only[iD,hx];rw[if_neg (by rw[h];decide)]
theorem fu {re:List Nd}{f i g:Nat}{en:List Bool}{x:Nd}(hx:re[i]?=some x)(h:gate x en g=none):iD re (f+1) i en g=none:=by
 simp only[iD,hx,h];split <;> rfl
theorem AP {re:List Nd}{f i g g1:Nat}{en uY:List Bool}{x:Nd}(hx:re[i]?=some x)(hg:gate x en g=some (uY,g1))(h:fS (fun i en=>iD re f i en g1) x.kids.toNat (i+1) uY=none):iD re (f+1) i en g=none:=by
 simp only[iD,hx,hg,h];split <;> rfl
theorem AQ {re:List Nd}{f i g g1 i2:Nat}{en uY jb:List Bool}{x:Nd}(hx:re[i]?=some x)(pd:eH x=true)(hg:gate x en g=some (uY,g1))(h:fS (fun i en=>iD re f i en g1) x.kids.toNat (i+1) uY=some (i2,jb)) :
   iD re (f+1) i en g=some (i2,if x.op=7 then jb.set (x.n.toNat-1) true else jb):=by
 simp only[iD,hx,hg,h];rw[if_pos pd]
theorem jF {step:Nat→List Bool→Option (Nat×List Bool)}:∀ {k i:Nat}{en:List Bool}{i2:Nat}{jb:List Bool}{r:Option (Nat×List Bool)},fS step k i en=some (i2,jb)→step i2 jb=r→fS step (k+1) i en=r
 | 0,i,en,i2,jb,r,h,hs=>by
   simp only[fS,Option.some.injEq,Prod.mk.injEq] at h
   obtain⟨rfl,rfl⟩:=h
   simp only[fS,hs]
   cases r <;> rfl
 | k+1,i,en,i2,jb,r,h,hs=>by
   simp only[fS] at h
   split at h
   · cases h
   · rename_i i' m5 dV
     have:=jF h hs
     rw[fS,dV]
     exact this
theorem ow {step:Nat→List Bool→Option (Nat×List Bool)}:∀ {n k i:Nat}{en:List Bool},fS step k i en=none→k≤n→fS step n i en=none
 | n,0,i,en,h,_=>by simp[fS] at h
 | 0,k+1,i,en,h,hk=>by omega
 | n+1,k+1,i,en,h,hk=>by
   simp only[fS] at h ⊢
   split at h
   · rfl
   · exact ow h (by omega)
theorem uZ {x:Nd}{en uY:List Bool}{g g1:Nat}(h:gate x en g=some (uY,g1))(he:en.length≤255)(hg:g≤64):en.length≤uY.length∧uY.length≤255∧g1≤64∧(x.op=7→x.n=en.length+1∧uY.length=en.length+1):=by
 unfold gate at h
 split at h
 · split at h
   · cases h;exact⟨Nat.le_refl _,he,hg,fun h7=>by omega⟩
   · cases h
 · split at h
   · split at h
     · rename_i h8 h7 hh
       cases h
       simp only[List.length_append,List.length_singleton]
       exact⟨by omega,by omega,by omega,fun _=>⟨hh.1,trivial⟩⟩
     · cases h
   · cases h;exact⟨Nat.le_refl _,he,hg,fun h7=>absurd h7 ‹_›⟩
theorem xP {step:Nat→List Bool→Option (Nat×List Bool)}(hs:∀ i en i' m5,en.length≤255→step i en=some (i',m5)→en.length≤m5.length∧m5.length≤255):∀ {k i:Nat}{en:List Bool}{i2:Nat}{jb:List Bool},en.length≤255→fS step k i en=some (i2,jb)→en.length≤jb.length∧jb.length≤255
 | 0,i,en,i2,jb,he,h=>by
   simp only[fS,Option.some.injEq,Prod.mk.injEq] at h
   obtain⟨_,rfl⟩:=h
   exact⟨Nat.le_refl _,he⟩
 | k+1,i,en,i2,jb,he,h=>by
   simp only[fS] at h
   split at h
   · cases h
   · rename_i i' m5 dV
     have h1:=hs _ _ _ _ he dV
     have h2:=xP hs h1.2 h
     omega
theorem p8 {re:List Nd}:∀ {f i g:Nat}{en:List Bool}{i':Nat}{m5:List Bool},en.length≤255→g≤64→iD re f i en g=some (i',m5)→en.length≤m5.length∧m5.length≤255
 | 0,i,g,en,i',m5,_,_,h=>by cases h
 | f+1,i,g,en,i',m5,he,hg,h=>by
   simp only[iD] at h
   split at h
   · cases h
   · split at h
     · split at h
       · cases h
       · rename_i uY g1 rb
         split at h
         · cases h
         · rename_i i2 jb hk
           simp only[Option.some.injEq,Prod.mk.injEq] at h
           obtain⟨-,rfl⟩:=h
           obtain⟨h1,h2,h3,_⟩:=uZ rb he hg
           have h4:=xP (fun i en i' m5 he h=>p8 he h3 h) h2 hk
           split
           · simp only[List.length_set];omega
           · omega
     · cases h
theorem JZ {re:List Nd}{f i g:Nat}{en:List Bool}{i':Nat}{m5:List Bool}(h:iD re f i en g=some (i',m5)):i'≤re.length:=by
 obtain⟨x,ks,ht⟩:=vd _ _ _ _ _ _ h
 exact ht.le
theorem JY {re:List Nd}{f i g:Nat}{en:List Bool}{i':Nat}{m5:List Bool}(h:iD re f i en g=some (i',m5)):i<i':=by
 obtain⟨x,ks,ht⟩:=vd _ _ _ _ _ _ h
 have:=ht.len
 omega
theorem xy {en:List Bool}{j:Nat}(h:¬ en[j]?=some true)(hj:j<en.length):en[j]?=some false:=by
 rw[List.getElem?_eq_getElem hj] at h ⊢
 cases hb:en[j]
 · rfl
 · rw[hb] at h;exact absurd rfl h
theorem u0 {x:Nd}{en:List Bool}{g:Nat}(h8:¬ x.op=8)(h7:¬ x.op=7):gate x en g=some (en,g):=by rw[gate,if_neg h8,if_neg h7]
theorem AR {x:Nd}{en:List Bool}{g:Nat}(h8:x.op=8)(h1:1≤x.n)(h2:x.n≤en.length)(h3:en[x.n.toNat-1]?=some true):gate x en g=some (en,g):=by rw[gate,if_pos h8,if_pos ⟨h1,h2,h3⟩]
theorem k9 {x:Nd}{en:List Bool}{g:Nat}(h8:x.op=8)(h:¬ (1≤x.n∧x.n≤en.length∧en[x.n.toNat-1]?=some true)):gate x en g=none:=by rw[gate,if_pos h8,if_neg h]
theorem AS {x:Nd}{en:List Bool}{g:Nat}(h7:x.op=7)(h:x.n=en.length+1∧x.n≤255∧g<64):gate x en g=some (en++[false],g+1):=by rw[gate,if_neg (by omega),if_pos h7,if_pos h]
theorem lf {x:Nd}{en:List Bool}{g:Nat}(h7:x.op=7)(h:¬ (x.n=en.length+1∧x.n≤255∧g<64)):gate x en g=none:=by rw[gate,if_neg (by omega),if_pos h7,if_neg h]
theorem xi {x:Int}(h1:-9223372036854775808≤x)(h2:x<9223372036854775808):IntKind.i64.wrap x=x:=by
 simp[IntKind.wrap,IntKind.signed,IntKind.bits];omega
section
variable {P:Program}{κ:Cx}{L:HL.Loc}{H:Hp}{ty t t':TypeId}{x:Operand}
theorem qg {ds:TypeDesc}{k':IntKind}{a:Int} [TU P t ds] [TU P t' (.int .i64)](hx:ev L x=some (.int k' a))(h:-9223372036854775808≤a∧a<9223372036854775808):Step P κ (.convert t t' x) ty L H (.int .i64 a):=
 ab (cV hx) (congrArg _ (xi h.1 h.2))
end
theorem yH {x:Nd}:∀ (j:Nat) u,(Ec x.set)[j]?=some u→(En x)[1+j]?=some u:=by
 intro j u h
 rw[show 1+j=j+1 by omega]
 simp only[En,List.getElem?_cons_succ]
 rw[List.getElem?_append_left (List.getElem?_eq_some_iff.1 h).1];exact h
theorem F.ju:∀ f:F,f.num≤f.size
 | .nil=>Nat.le_refl _
 | .nd x ks r=>by have:=F.ju r;simp only[F.num,F.size];omega
structure Part (re:List Nd)(f:F)(i i':Nat):Prop where
 wf:f.wf
 flat:re.drop i=f.flat++re.drop i'
 len:i'=i+f.size
 le:i'≤re.length
theorem Part.head {re:List Nd}{x:Nd}{ks r:F}{i i':Nat}(h:Part re (.nd x ks r) i i'):re[i]?=some x∧Part re ks (i+1) (i+1+ks.size)∧Part re r (i+1+ks.size) i':=by
 have hl:=h.len
 have hle:=h.le
 simp only[F.size] at hl
 have hf:=h.flat
 simp only[F.flat,List.cons_append,List.append_assoc] at hf
 have h0:re[i]?=some x:=by
   have:=congrArg (fun l=>l[0]?) hf
   simpa using this
 have h1:re.drop (i+1)=ks.flat++(r.flat++re.drop i'):=by
   have:=congrArg (List.drop 1) hf
   rw[List.drop_drop] at this
   simpa using this
 have h2:re.drop (i+1+ks.size)=r.flat++re.drop i':=by
   have:=congrArg (List.drop ks.size) h1
   rw[List.drop_drop,← F.jn,List.drop_left] at this
   rw[← F.jn];exact this
 exact⟨h0,⟨h.wf.2.2.1,by rw[h2];exact h1,rfl,by omega⟩,⟨h.wf.2.2.2,h2,by omega,hle⟩⟩
theorem Part.one {re:List Nd}{x:Nd}{ks r:F}{i i':Nat}(h:Part re (.nd x ks r) i i'):Part re (.nd x ks .nil) i (i+1+ks.size):=by
 obtain⟨h0,h1,h2⟩:=h.head
 have cH:i<re.length:=(List.getElem?_eq_some_iff.1 h0).1
 refine⟨⟨h.wf.1,h.wf.2.1,h.wf.2.2.1,trivial⟩,?_,by simp[F.size];omega,h1.le⟩
 rw[List.drop_eq_getElem_cons cH,h1.flat]
 rw[List.getElem?_eq_getElem cH] at h0
 simp at h0
 simp[F.flat,h0]
theorem G5 {x:Nd}{en:List Bool}{g:Nat}(h7:¬ x.op=7)(h8:x.op=8→1≤x.n∧x.n≤en.length∧en[x.n.toNat-1]?=some true):gate x en g=some (en,g):=by
 by_cases h:x.op=8
 · obtain⟨a,b,c⟩:=h8 h;exact AR h a b c
 · exact u0 h h7
theorem zh.part {re:List Nd}{d i i':Nat}{x:Nd}{ks:F}(h:zh re d i i' x ks):Part re (.nd x ks .nil) i i':=
 ⟨h.wf,by rw[h.flat];simp[F.flat],by rw[h.len];simp[F.size];omega,h.le⟩
def zi (P:Program)(fn:Nat)(x:Nd)(ks:F):Prop:=∀ (ra:Option Addr)(rc:Nat)(re:List Nd)(i i':Nat),(∀ x∈re,-128≤x.op∧x.op<128)→Part re (.nd x ks .nil) i i' →
 Fn P fn [.slice ra re.length rc,.int .i64 i] (fun w=>Rd En w (.slice ra re.length rc) re) [] (fun v _=>v = .tuple #[.int .i64 (cut (F.nd x ks .nil).weight),.int .i64 i'])
theorem jG (n:Nat):cut n≤16385:=by unfold cut;omega
theorem iv (x:Nd)(ks:F):(F.nd x ks .nil).weight=1+times x*ks.weight:=by simp[F.weight]
theorem Tr {a b:Nat}(ha:a≤16385)(hb:b≤256):a*b≤4194560:=Nat.mul_le_mul ha hb
theorem nz {a b:Nat}(ha:a≤16385)(hb:b≤256):(a:Int)*b≤4194560:=by
 rw[← Int.natCast_mul];have:=Tr ha hb;omega
theorem rB (a b:Nat):0≤(a:Int)*b:=by
 rw[← Int.natCast_mul];omega
theorem tD {t a:Nat}(ht:1≤t):min ((cut a:Int)*t+1) 16385=(cut (1+t*a):Nat):=by
 rw[← Ou ht]
 have:(cut a:Int)*t+1=((1+t*cut a:Nat):Int):=by rw[Nat.mul_comm];push_cast;omega
 rw[this];unfold cut;omega
theorem dy {x:Nd}:sJ x=true↔(1≤x.op∧x.op≤8)∧(x.op=1∨x.set=0)∧(x.op=7∨x.op=8∨x.n=0)∧(x.op=6→0≤x.mn∧x.mn≤255∧(x.mx = -1∨x.mn≤x.mx∧x.mx≤255))∧(x.op≠6→x.mn=0∧x.mx=0):=by
 simp only[sJ,Bool.and_eq_true,Bool.or_eq_true,decide_eq_true_eq]
 by_cases h6:x.op=6
 · rw[if_pos h6]
   simp only[decide_eq_true_eq]
   constructor
   · rintro⟨⟨⟨a,b⟩,c⟩,d⟩;exact⟨a,b,by omega,fun _=>d,fun h=>absurd h6 h⟩
   · rintro⟨a,b,c,d,_⟩;exact⟨⟨⟨a,b⟩,by omega⟩,d h6⟩
 · rw[if_neg h6]
   simp only[decide_eq_true_eq]
   constructor
   · rintro⟨⟨⟨a,b⟩,c⟩,d⟩;exact⟨a,b,by omega,fun h=>absurd h h6,fun _=>d⟩
   · rintro⟨a,b,c,_,d⟩;exact⟨⟨⟨a,b⟩,by omega⟩,d h6⟩
theorem th (c:Kl.Cl):(Ec c).length=4:=eB.len (E:=Ec) c
end Go.HL.Kl.Mc
namespace Go.HL.cm
open Go Go.HL Go.HL.Kl Go.HL.Kl.Mc
def kP (n i:Nat):Int:=((1048576*n+i+1:Nat):Int)
def qZ (n i:Nat):Bool:=decide (((1048576*n+i+1) / 2 ^ (20+i % 8)) % 2=1)
def iS (n i:Nat):Nd:=⟨0,0,((1048576*n+i+1:Nat):Int),-7,0,0⟩
theorem kq (n i:Nat):En (iS n i) = [.int .i8 0,.int .u64 0,.int .u64 0,.int .u64 0,.int .u64 0,.int .i64 ((1048576*n+i+1:Nat):Int),.int .i64 (-7),.int .i64 0,.int .i64 0]:=by
 show _::(Ec 0#256++_)=_
 rw[bk]
 rfl
def iM (n i:Nat):Kl.Cl:=lQ (lQ 0#256 0 (BitVec.ofNat 64 (1048576*n+i+1))) 1 7#64
theorem kr {n i:Nat}(hn:n≤1000)(hi:i≤8589934592):Ec (iM n i) = [.int .u64 ((1048576*n+i+1:Nat):Int),.int .u64 7,.int .u64 0,.int .u64 0]:=by
 unfold iM Ec
 simp only [fO _ _ (by decide : 1 < 4) (by decide : 0 < 4), fO _ _ (by decide : 1 < 4) (by decide : 1 < 4), fO _ _ (by decide : 1 < 4) (by decide : 2 < 4), fO _ _ (by decide : 1 < 4) (by decide : 3 < 4), fO _ _ (by decide : 0 < 4) (by decide : 0 < 4), fO _ _ (by decide : 0 < 4) (by decide : 2 < 4), fO _ _ (by decide : 0 < 4) (by decide : 3 < 4)]
 have e:(BitVec.ofNat 64 (1048576*n+i+1)).toNat=1048576*n+i+1:=by rw[BitVec.toNat_ofNat];exact Nat.mod_eq_of_lt (by omega)
 simp[Ew,e,wd]
theorem cK {n:Nat}(h:n<18446744073709551616):IntKind.u64.wrap ((n:Nat):Int)=((n:Nat):Int):=by
 simp[IntKind.wrap,IntKind.signed,IntKind.bits];omega
theorem nX (i:Nat):Int.tmod ((i:Nat):Int) 8=((i % 8:Nat):Int):=by
 rw[Int.tmod_eq_emod_of_nonneg (by omega)];omega
theorem nY (a:Nat){k:Nat}(hk:k≤64):Int.fdiv ((a:Nat):Int) (2 ^ (min (Int.toNat ((k:Nat):Int)) 64))=((a / 2 ^ k:Nat):Int):=by
 rw[Int.toNat_natCast,Nat.min_eq_left hk,Int.fdiv_eq_ediv_of_nonneg _ (by exact Int.le_of_lt (by exact_mod_cast Nat.two_pow_pos k))]
 push_cast
 rfl
theorem ku {n i k:Nat}(hn:n≤1000)(hi:i≤8589934592):(1048576*n+i+1) / 2 ^ k<1099511627776:=by
 have:=Nat.div_le_self (1048576*n+i+1) (2 ^ k)
 omega
theorem kv {a:Nat}(ha:a<1099511627776):IntKind.i64.wrap ((BitVec.ofInt IntKind.i64.bits ((a:Nat):Int) &&& BitVec.ofInt IntKind.i64.bits 1).toNat:Int)=((a % 2:Nat):Int):=by
 have e:(BitVec.ofInt 64 ((a:Nat):Int) &&& BitVec.ofInt 64 1).toNat=a % 2:=by
   rw[BitVec.toNat_and]
   have h1:(BitVec.ofInt 64 ((a:Nat):Int)).toNat=a:=by rw[BitVec.toNat_ofInt];omega
   have h2:(BitVec.ofInt 64 1).toNat=1:=by decide
   rw[h1,h2,Nat.and_one_is_mod]
 show IntKind.i64.wrap ((BitVec.ofInt 64 ((a:Nat):Int) &&& BitVec.ofInt 64 1).toNat:Int)=_
 rw[e]
 exact xi (by omega) (by omega)
end Go.HL.cm
