/- A logic for walks: over the kit's own wp and Calls: the frame and the heap as lists, a rule for each operation; contracts; loops; the lifting of a law. Conditions: none, each rule bears its own. -/
import Derived.Tactics
import Derived.Laws.Slices
import Derived.Laws.Rows
import Derived.Laws.AppendOwn
import Derived.Below
import Derived.IntWalk
import Derived.TacticsIn
import Derived.OrdersIn
import Derived.RangeFuncRecord
import Derived.Deep.Quiet
import Derived.StillTail
import Derived.OrdersHeld
import Derived.Deep.RegionHeld3
import Derived.KernelRfl
import Derived.Laws.MakeOwn
import Derived.Laws.OwnMore
import Derived.ProofKit
import Derived.OpenShut
import Derived.ChangeOld
import Derived.SizedLaws
import Derived.Carry
namespace Go.HL
open Go
abbrev Loc:=List (Nat×Value)
abbrev Hp:=List (Nat×Obj)
theorem N9 {a b:Nat}(h:a≠b):Nat.beq a b=false:=by
 cases hb:Nat.beq a b
 · rfl
 · exact absurd (Nat.eq_of_beq_eq_true hb) h
theorem adK {a b:Nat}(h:Nat.beq a b=false):a≠b:=fun e=>by subst e;simp at h
def look:Loc→Nat→Option Value
 | [],_=>none
 | (i,v)::L,t=>bif Nat.beq i t then some v else look L t
def ev (L:Loc):Operand→Option Value
 | .tmp t=>look L t
 | .const v=>some v
 | .global g=>some (.pointer (some ⟨g,0,none⟩))
 | .func f=>some (.func (.func f) #[] #[])
structure Fr (a:Act)(n:Nat)(ds:List Deferred)(L:Loc):Prop where
 size:a.tmps.size=n
 defers:a.defers=ds
 get:∀ i v,look L i=some v→a.tmps[i]?=some v
theorem Fr.ev {a:Act}{n:Nat}{ds:List Deferred}{L:Loc}(h:Fr a n ds L){x:Operand}{v:Value}(hx:HL.ev L x=some v):a.eval x=v:=by
 cases x with
 | tmp t=>simp only[HL.ev] at hx;have:=h.get _ _ hx;simp[Act.eval,this]
 | const u=>simpa [HL.ev,Act.eval] using hx
 | global g=>simpa [HL.ev,Act.eval] using hx
 | func f=>simpa [HL.ev,Act.eval] using hx
theorem Fr.put {a:Act}{n:Nat}{ds:List Deferred}{L:Loc}(h:Fr a n ds L){d:Nat}(hd:Nat.blt d n=true)(v:Value) :
   Fr (a.put (some d) v) n ds ((d,v)::L):=by
 have GQ:d<n:=by simpa using hd
 refine⟨by simp[Act.put,h.size],h.defers,fun i u hu=>?_⟩
 simp only[look] at hu
 simp only[Act.put]
 by_cases e:d=i
 · subst e
   simp at hu
   subst hu
   rw[Array.getElem?_setIfInBounds_self_of_lt];rw[h.size];exact GQ
 · have:Nat.beq d i=false:=N9 e
   rw[this] at hu
   simp only[cond_false] at hu
   rw[Array.getElem?_setIfInBounds_ne e]
   exact h.get _ _ hu
def Sub (L L':Loc):Prop:=∀ i v,look L' i=some v→look L i=some v
theorem Sub.nil {L:Loc}:Sub L []:=fun _ _ h=>by simp[look] at h
theorem Sub.cons {L L':Loc}{i:Nat}{v:Value}(h:look L i=some v)(hs:Sub L L'):Sub L ((i,v)::L'):=by
 intro j u hu
 simp only[look] at hu
 by_cases e:i=j
 · subst e;simp at hu;subst hu;exact h
 · have:Nat.beq i j=false:=N9 e
   rw[this] at hu;exact hs _ _ hu
theorem Sub.refl (L:Loc):Sub L L:=fun _ _ h=>h
theorem Fr.sub {a:Act}{n:Nat}{ds:List Deferred}{L L':Loc}(h:Fr a n ds L)(hs:Sub L L'):Fr a n ds L':=⟨h.size,h.defers,fun i v hv=>h.get i v (hs i v hv)⟩
structure St (w0 w:World)(M:List Nat)(H:Hp):Prop where
 os:w.os=w0.os
 tape:w.tape=w0.tape
 output:w.output=w0.output
 size:w0.heap.size≤w.heap.size
 old:∀ b,b<w0.heap.size→b∉M→w.heap[b]?=w0.heap[b]?
 has:∀ b o,(b,o)∈H→w.heap[b]?=some o
 own:∀ b o,(b,o)∈H→b∈M∨w0.heap.size≤b
 nd:H.Pairwise (fun p q=>p.1≠q.1)
structure Has (w:World)(H:Hp):Prop where
 has:∀ b o,(b,o)∈H→w.heap[b]?=some o
 nd:H.Pairwise (fun p q=>p.1≠q.1)
def keys (H:Hp):List Nat:=H.map (·.1)
theorem jD {w:World}{b:Nat}{o:Obj}(h:w.heap[b]?=some o):b<w.heap.size:=by
 rcases Nat.lt_or_ge b w.heap.size with h'|h'
 · exact h'
 · rw[Array.getElem?_eq_none h'] at h;cases h
theorem St.lt {w0 w:World}{M:List Nat}{H:Hp}(h:St w0 w M H){b:Nat}{o:Obj}(hm:(b,o)∈H):b<w.heap.size:=jD (h.has _ _ hm)
theorem St.start {w:World}{H:Hp}(h:Has w H):St w w (keys H) H:=
 ⟨rfl,rfl,rfl,Nat.le_refl _,fun _ _ _=>rfl,h.has,fun b o hm=>.inl (List.mem_map.2 ⟨(b,o),hm,rfl⟩),h.nd⟩
theorem St.same {w0 w w':World}{M:List Nat}{H:Hp}(h:St w0 w M H)(hh:w'.heap=w.heap)(ho:w'.os=w.os)(ht:w'.tape=w.tape)(hp:w'.output=w.output):St w0 w' M H:=
 ⟨ho.trans h.os,ht.trans h.tape,hp.trans h.output,by rw[hh];exact h.size,by rw[hh];exact h.old,by rw[hh];exact h.has,h.own,h.nd⟩
theorem St.drew {w0 w:World}{M:List Nat}{H:Hp}(h:St w0 w M H):St w0 w.drew M H:=h.same rfl rfl rfl rfl
theorem St.perm {w0 w:World}{M:List Nat}{H H':Hp}(h:St w0 w M H)(hp:H.Perm H'):St w0 w M H':=
 ⟨h.os,h.tape,h.output,h.size,h.old,fun b o hm=>h.has b o (hp.mem_iff.2 hm),fun b o hm=>h.own b o (hp.mem_iff.2 hm),hp.pairwise h.nd (fun dM e=>dM e.symm)⟩
theorem St.drop {w0 w:World}{M:List Nat}{H R:Hp}(h:St w0 w M (H++R)):St w0 w M H:=
 ⟨h.os,h.tape,h.output,h.size,h.old,fun b o hm=>h.has b o (List.mem_append_left _ hm),fun b o hm=>h.own b o (List.mem_append_left _ hm),(List.pairwise_append.1 h.nd).1⟩
def HSub (H H':Hp):Prop:=∃ R,H.Perm (H'++R)
theorem HSub.refl (H:Hp):HSub H H:=⟨[],by simp⟩
theorem HSub.trans {A B C:Hp}(h:HSub A B)(k:HSub B C):HSub A C:=by
 obtain⟨R,hR⟩:=h;obtain⟨S,hS⟩:=k
 exact⟨S++R,hR.trans (by rw[← List.append_assoc];exact hS.append_right R)⟩
theorem HSub.skip {H H':Hp}{p:Nat×Obj}(h:HSub H H'):HSub (p::H) H':=by
 obtain⟨R,hR⟩:=h
 exact⟨p::R,(hR.cons p).trans (List.perm_middle.symm)⟩
theorem HSub.y9 {H H':Hp}{p:Nat×Obj}(h:HSub H H'):HSub (p::H) (p::H'):=by
 obtain⟨R,hR⟩:=h
 exact⟨R,hR.cons p⟩
theorem HSub.nil {H:Hp}:HSub H []:=⟨H,by simp⟩
theorem HSub.JG {S H H':Hp}(h:HSub H H'):HSub (S++H) H':=by
 obtain⟨R,hR⟩:=h
 exact⟨S++R,(hR.append_left S).trans (by rw[← List.append_assoc,← List.append_assoc];exact List.perm_append_comm.append_right R)⟩
theorem HSub.keeps {S H H':Hp}(h:HSub H H'):HSub (S++H) (S++H'):=by
 obtain⟨R,hR⟩:=h
 exact⟨R,by rw[List.append_assoc];exact hR.append_left S⟩
theorem HSub.za {H H':Hp}(h:H.Perm H'):HSub H H':=⟨[],by simpa using h⟩
theorem St.sub {w0 w:World}{M:List Nat}{H H':Hp}(h:St w0 w M H)(hs:HSub H H'):St w0 w M H':=by
 obtain⟨R,hR⟩:=hs
 exact (h.perm hR).drop
theorem St.alloc {w0 w:World}{M:List Nat}{H:Hp}(h:St w0 w M H)(o:Obj):St w0 (w.alloc o) M ((w.heap.size,o)::H):=by
 refine⟨h.os,h.tape,h.output,by have:=h.size;simp;omega,fun b hb hM=>?_,fun b o' hm=>?_,fun b o' hm=>?_,?_⟩
 · rw[heap_alloc_old _ _ _ (by have:=h.size;omega)];exact h.old b hb hM
 · rcases List.mem_cons.1 hm with e|hm
   · cases e;exact heap_alloc_new _ _
   · rw[heap_alloc_old _ _ _ (h.lt hm)];exact h.has _ _ hm
 · rcases List.mem_cons.1 hm with e|hm
   · cases e;exact .inr h.size
   · exact h.own _ _ hm
 · refine List.pairwise_cons.2 ⟨fun q hq=>?_,h.nd⟩
   have:=h.lt (b:=q.1) (o:=q.2) hq
   simp;omega
theorem St.put {w0 w w':World}{M:List Nat}{R:Hp}{b:Nat}{o o':Obj}(h:St w0 w M ((b,o)::R))(hh:w'.heap=w.heap.setIfInBounds b o')
   (ho:w'.os=w.os)(ht:w'.tape=w.tape)(hp:w'.output=w.output):St w0 w' M ((b,o')::R):=by
 have hb:b<w.heap.size:=h.lt (List.mem_cons_self)
 have dM:∀ q∈R,b≠q.1:=(List.pairwise_cons.1 h.nd).1
 refine⟨ho.trans h.os,ht.trans h.tape,hp.trans h.output,by rw[hh];simp;exact h.size,fun c hc hM=>?_,fun c x hm=>?_,fun c x hm=>?_,?_⟩
 · rw[hh]
   have hcb:b≠c:=by
     intro e;subst e
     rcases h.own _ _ (List.mem_cons_self) with hm|hm
     · exact hM hm
     · omega
   rw[Array.getElem?_setIfInBounds_ne hcb];exact h.old c hc hM
 · rw[hh]
   rcases List.mem_cons.1 hm with e|hm
   · cases e;rw[Array.getElem?_setIfInBounds_self_of_lt hb]
   · rw[Array.getElem?_setIfInBounds_ne (dM _ hm)];exact h.has _ _ (List.mem_cons_of_mem _ hm)
 · rcases List.mem_cons.1 hm with e|hm
   · cases e;exact h.own _ _ (List.mem_cons_self)
   · exact h.own _ _ (List.mem_cons_of_mem _ hm)
 · exact List.pairwise_cons.2 ⟨dM,(List.pairwise_cons.1 h.nd).2⟩
inductive pW:Hp→Nat→Obj→Obj→Hp→Prop
 | here {b:Nat}{o o':Obj}{R:Hp}:pW ((b,o)::R) b o o' ((b,o')::R)
 | there {b:Nat}{o o':Obj}{R R':Hp}{p:Nat×Obj}(h:pW R b o o' R'):pW (p::R) b o o' (p::R')
 | skip {b:Nat}{o o':Obj}{S R R':Hp}(h:pW R b o o' R'):pW (S++R) b o o' (S++R')
 | left {b:Nat}{o o':Obj}{S S' R:Hp}(h:pW S b o o' S'):pW (S++R) b o o' (S'++R)
theorem pW.split {H H':Hp}{b:Nat}{o o':Obj}(h:pW H b o o' H'):∃ R,H.Perm ((b,o)::R)∧((b,o')::R).Perm H':=by
 induction h with
 | here=>exact⟨_,.refl _,.refl _⟩
 | there _ ih=>
   obtain⟨R,h1,h2⟩:=ih
   exact⟨_::R,(h1.cons _).trans (.swap _ _ _),(List.Perm.swap _ _ _).trans (h2.cons _)⟩
 | skip _ ih=>
   obtain⟨R,h1,h2⟩:=ih
   exact⟨_++R,(h1.append_left _).trans List.perm_middle,List.perm_middle.symm.trans (h2.append_left _)⟩
 | left _ ih=>
   obtain⟨R,h1,h2⟩:=ih
   exact⟨R++_,h1.append_right _,h2.append_right _⟩
theorem pW.assoc {A B C':Hp}{b:Nat}{o o':Obj}{H':Hp}(h:pW (A++(B++C')) b o o' H'):pW ((A++B)++C') b o o' H':=by rw[List.append_assoc];exact h
theorem pW.mem {H H':Hp}{b:Nat}{o o':Obj}(h:pW H b o o' H'):(b,o)∈H:=by
 obtain⟨R,h1,_⟩:=h.split
 exact h1.mem_iff.2 List.mem_cons_self
theorem St.upd {w0 w w':World}{M:List Nat}{H H':Hp}{b:Nat}{o o':Obj}(h:St w0 w M H)(hu:pW H b o o' H')(hh:w'.heap=w.heap.setIfInBounds b o')
   (ho:w'.os=w.os)(ht:w'.tape=w.tape)(hp:w'.output=w.output):St w0 w' M H':=by
 obtain⟨R,h1,h2⟩:=hu.split
 exact ((h.perm h1).put hh ho ht hp).perm h2
theorem St.comp {w0 w w':World}{M:List Nat}{S R S':Hp}(h:St w0 w M (S++R))(k:St w w' (keys S) S'):St w0 w' M (S'++R):=by
 have hS:∀ b,b∈keys S→b∈M∨w0.heap.size≤b:=by
   intro b hb
   obtain⟨⟨b',o⟩,hm,rfl⟩:=List.mem_map.1 hb
   exact h.own _ _ (List.mem_append_left _ hm)
 have hR:∀ b o,(b,o)∈R→b∉keys S:=by
   intro b o hm hb
   obtain⟨⟨b',o'⟩,zZ,rfl⟩:=List.mem_map.1 hb
   exact (List.pairwise_append.1 h.nd).2.2 _ zZ _ hm rfl
 refine⟨k.os.trans h.os,k.tape.trans h.tape,k.output.trans h.output,Nat.le_trans h.size k.size,fun b hb hM=>?_,fun b o hm=>?_,fun b o hm=>?_,?_⟩
 · rw[k.old b (Nat.lt_of_lt_of_le hb h.size) (fun hk=>by rcases hS b hk with x|x;exact hM x;omega)]
   exact h.old b hb hM
 · rcases List.mem_append.1 hm with hm|hm
   · exact k.has _ _ hm
   · rw[k.old b (h.lt (List.mem_append_right _ hm)) (hR _ _ hm)];exact h.has _ _ (List.mem_append_right _ hm)
 · rcases List.mem_append.1 hm with hm|hm
   · rcases k.own _ _ hm with x|x
     · exact hS _ x
     · exact .inr (Nat.le_trans h.size x)
   · exact h.own _ _ (List.mem_append_right _ hm)
 · refine List.pairwise_append.2 ⟨k.nd,(List.pairwise_append.1 h.nd).2.1,fun p hp q hq e=>?_⟩
   obtain⟨pb,po⟩:=p;obtain⟨qb,qo⟩:=q
   simp only at e;subst e
   rcases k.own _ _ hp with x|x
   · exact hR _ _ hq x
   · have:=h.lt (List.mem_append_right _ hq);omega
theorem St.zb {w0 w:World}{M:List Nat}{S R:Hp}(h:St w0 w M (S++R)):Has w S:=⟨h.drop.has,h.drop.nd⟩
structure Cx where
 n:Nat
 ds:List Deferred
 w0:World
 M:List Nat
structure Ok (κ:Cx)(L:Loc)(H:Hp)(a:Act)(w:World):Prop where
 fr:Fr a κ.n κ.ds L
 st:St κ.w0 w κ.M H
abbrev gR:=Exit→Act→World→Prop
def FR (ro:Option Nat):Fence:={ Fence.wide with round:=ro }
theorem yr (ro:Option Nat)(n:Nat):(FR ro).room n:=fun _ h=>by simp[FR,Fence.wide] at h
theorem JH {ro:Option Nat}{P:Program}{m m':Machine}:StepsIn (Machine.fenced P (FR ro)) P m m'↔Steps P m m':=stepsIn_wide
theorem uQ {ro:Option Nat}{n:Nat}{P:Program}{f:FuncId}{args:Array Value}{w:World}{R:Ending→World→Prop}(h:Calls P f args w R):CallsIn (FR ro) n P f args w R:=callsIn_wide.2 h
theorem Oa {ro:Option Nat}{n:Nat}{P:Program}{row:String}{args:Array Value}{w:World}{R:Value→World→Prop}(h:Rows P row args w R):RowsIn (FR ro) n P row args w R:=fun c cs _=>
 let ⟨v,w',r,s⟩:=h c cs;⟨v,w',r,JH.2 s⟩
def EV:Op→Bool
 | .defer _=>true
 | _=>false
def mr (l:List Oper):Bool:=l.all fun o=>!EV o.op
def dX:Code→Bool
 | .region _ ops _=>mr ops.toList
 | .seq a b=>dX a&&dX b
 | .cond _ a b=>dX a&&dX b
 | .block _ c=>dX c
 | .loop c=>dX c
 | .scope c=>dX c
 | .rangeFunc _ _ _ _=>false
 | _=>true
def Qm (ro:Option Nat)(l:List Oper):Prop:=ro=none∨mr l=true
def MY (ro:Option Nat)(c:Code):Prop:=ro=none∨dX c=true
theorem Qm.tail {ro:Option Nat}{o:Oper}{l:List Oper}(h:Qm ro (o::l)):Qm ro l:=h.imp id fun h=>by simp[mr] at h ⊢;exact h.2
theorem nv {P:Program}{ro:Option Nat}{ρ:Operand→Value}{o:Oper}{w w':World}{x:Next}(h:(execOp ρ o).run P w = .ok x w')(hx:∀ d,x≠.defer d):(o.semAt ro ρ).run P w = .ok x w':=by
 unfold Oper.semAt
 split
 · rename_i c hc
   unfold execOp at h
   rw[hc] at h
   simp only[Sem.run_bind] at h
   cases hr:Sem.run P (resolve ρ c o.type) w with
   | ok d w1=>
     rw[hr] at h
     simp only[Result.andThen_ok,Sem.run_pure,Result.ok.injEq] at h
     exact absurd h.1.symm (hx d)
   | halt y w1=>rw[hr] at h;simp[Result.andThen] at h
 · exact h
structure O (P:Program)(κ:Cx)(ops:Array Oper)(Q:gR)(l:List Oper)(L:Loc)(H:Hp):Prop where
 out:∀ ro a w,Qm ro l→Ok κ L H a w→wpListIn (FR ro) 0 P ops Q l a w
structure C (P:Program)(κ:Cx)(Q:gR)(c:Code)(L:Loc)(H:Hp):Prop where
 out:∀ ro a w,MY ro c→Ok κ L H a w→c.wpIn (FR ro) 0 P Q a w
theorem C.wp {P:Program}{κ:Cx}{Q:gR}{c:Code}{L:Loc}{H:Hp}(h:C P κ Q c L H){a:Act}{w:World}(ok:Ok κ L H a w):c.wp P Q a w:=wpIn_wide.1 (h.out none a w (.inl rfl) ok)
section
variable {P:Program}{ro:Option Nat}{o:Oper}{a:Act}{w w':World}{K:Act→World→Prop}{Q:gR}
theorem qM {v:Value}(h:(execOp a.eval o).run P w = .ok (.value v) w')(hk:K (a.put o.dst v) w'):o.wpIn (FR ro) 0 P a w K Q:=
 ⟨fun _ _=>trivial,by rw[show (FR ro).round=ro from rfl,nv h (by simp)];exact hk⟩
theorem tf (h:(execOp a.eval o).run P w = .ok .skip w')(hk:K (a.put o.dst undef) w'):o.wpIn (FR ro) 0 P a w K Q:=
 ⟨fun _ _=>trivial,by rw[show (FR ro).round=ro from rfl,nv h (by simp)];exact hk⟩
theorem AJ {f:FuncId}{args:Array Value}(h:(execOp a.eval o).run P w = .ok (.enter f args) w')(hc:Calls P f args w' fun e JI=>∃ v,e = .returned v∧K (a.put o.dst v) JI):o.wpIn (FR ro) 0 P a w K Q:=by
 refine⟨fun _ _=>trivial,?_⟩
 rw[show (FR ro).round=ro from rfl,nv h (by simp)]
 refine⟨fun h=>by simp[FR,Fence.wide] at h,CallsIn.mono (uQ hc) fun e JI he=>?_⟩
 obtain⟨v,rfl,hk⟩:=he
 exact hk
theorem gg {ops:Array Oper}{rest:List Oper}(hw:Region.wanted o (yielded ops a.tmps)=true)(h:o.wpIn (FR ro) 0 P a w (wpListIn (FR ro) 0 P ops Q rest) Q):wpListIn (FR ro) 0 P ops Q (o::rest) a w:=by
 unfold wpListIn
 rw[if_pos hw];exact h
theorem EW {ops:Array Oper}{rest:List Oper}(hw:Region.wanted o (yielded ops a.tmps)=false)(h:wpListIn (FR ro) 0 P ops Q rest (a.put o.dst undef) w):wpListIn (FR ro) 0 P ops Q (o::rest) a w:=by
 unfold wpListIn
 rw[if_neg (by simp[hw])];exact⟨fun _ _=>trivial,h⟩
theorem JJ (hd:ro=none∨EV o.op=false)(h:o.wp P a w K (fun e a w=>match e with | .normal=>Q .normal a w|_=>False)):o.wpIn (FR ro) 0 P a w K Q:=by
 refine⟨fun _ _=>trivial,?_⟩
 have e:o.semAt (FR ro).round a.eval=execOp a.eval o:=by
   rcases hd with rfl|hd
   · rfl
   · exact Oper.semAt_eq _ _ _ (fun c hc=>by rw[hc] at hd;cases hd)
 rw[e]
 unfold Oper.wp at h
 generalize (execOp a.eval o).run P w=r at h ⊢
 cases r with
 | ok n w'=>
   cases n <;> simp only[Oper.upon,Oper.uponIn] at h ⊢
   case value=>exact h
   case skip=>exact h
   case defer=>exact h
   case enter=>
     refine⟨fun h=>by simp[FR,Fence.wide] at h,CallsIn.mono (uQ h) fun e JI he=>?_⟩
     cases e <;> first|exact he|exact he.elim|(obtain⟨_,_,hq⟩:=he;exact hq.elim)
   case row=>exact⟨fun h=>by simp[FR,Fence.wide] at h,RowsIn.mono (Oa h) fun _ _ he=>he⟩
 | halt x w'=>cases x <;> simp only[Oper.upon] at h ⊢ <;> exact h.elim
def EX (Q:gR):gR
 | .normal,a,w=>Q .normal a w
 | _,_,_=>False
theorem EY {ops:Array Oper}{i:Nat}(hd:ro=none∨mr ops.toList=true)(h:wpOp P ops (EX Q) i K a w):wpOpIn (FR ro) 0 P ops Q i K a w:=by
 unfold wpOp at h
 unfold wpOpIn
 cases ho:ops[i]? with
 | none=>simp only[ho] at h ⊢;exact h
 | some o=>
   simp only[ho] at h ⊢
   split
   · rename_i hw
     rw[if_pos hw] at h
     rcases h with h|⟨_,_,_,hf⟩
     · refine JJ (hd.imp id fun hd=>?_) ?_
       · have hm:o∈ops.toList:=by
           obtain⟨hi,he⟩:=Array.getElem?_eq_some_iff.1 ho
           rw[← he];simp
         simpa using List.all_eq_true.1 hd o hm
       · exact h
     · exact hf.elim
   · rename_i hw
     rw[if_neg hw] at h
     exact⟨fun _ _=>trivial,h⟩
theorem AK {ops:Array Oper}{md:Region.Mode}(hd:ro=none∨mr ops.toList=true):∀ (n:Nat)(li:Array Bool)(a:Act)(w:World),wpAny P md ops (EX Q) n li a w→wpAnyIn (FR ro) 0 P md ops Q n li a w
 | 0,_,_,_,h=>h
 | n+1,_,_,_,h=>⟨h.1,fun i hi=>wpOpIn_mono (fun a' w' h'=>AK hd n _ a' w' h') (EY hd (h.2 i hi))⟩
end
structure X (κ:Cx)(K:Act→World→Prop)(L:Loc)(H:Hp):Prop where
 out:∀ a w,Ok κ L H a w→K a w
section
variable {P:Program}{κ:Cx}{Q:gR}{L L':Loc}{H H':Hp}{ops:Array Oper}{rest:List Oper}
theorem ah {x y:Code}(h:∀ K:Act→World→Prop,(∀ L H,C P κ Q y L H→X κ K L H)→C P κ (Exit.then K Q) x L H):C P κ Q (.seq x y) L H:=
 ⟨fun ro a w hr ok=>by
   have h1:MY ro x:=hr.imp id fun h=>by simp[dX] at h;exact h.1
   have h2:MY ro y:=hr.imp id fun h=>by simp[dX] at h;exact h.2
   exact wpIn_seq ((h (y.wpIn (FR ro) 0 P Q) fun _ _ hc=>⟨fun a w ok=>hc.out ro a w h2 ok⟩).out ro a w h1 ok)⟩
theorem ai {id:Nat}{c:Code}(h:C P κ (Exit.inBlock id Q) c L H):C P κ Q (.block id c) L H:=⟨fun ro a w hr ok=>wpIn_block (h.out ro a w hr ok)⟩
theorem km {c:Operand}{x y:Code}{t:Bool}(hc:ev L c=some (.bool t))(ht:t=true→C P κ Q x L H)(hf:t=false→C P κ Q y L H):C P κ Q (.cond c x y) L H:=
 ⟨fun ro a w hr ok=>by
   have h1:MY ro x:=hr.imp id fun h=>by simp[dX] at h;exact h.1
   have h2:MY ro y:=hr.imp id fun h=>by simp[dX] at h;exact h.2
   exact wpIn_cond_split (ok.fr.ev hc) (fun h=>(ht h).out ro a w h1 ok) (fun h=>(hf h).out ro a w h2 ok)⟩
theorem ax (h:X κ (Q .normal) L H):C P κ Q .skip L H:=⟨fun _ a w _ ok=>wpIn_skip (h.out a w ok)⟩
theorem ay {id:Nat}(h:X κ (Q (.exit id)) L H):C P κ Q (.exit id) L H:=⟨fun _ a w _ ok=>wpIn_exit (h.out a w ok)⟩
theorem aA (h:X κ (Q .ret) L H):C P κ Q .ret L H:=⟨fun _ a w _ ok=>wpIn_ret (h.out a w ok)⟩
theorem ae {id:Nat}{l:List Oper}(h:O P κ l.toArray Q l L H):C P κ Q (.region id l.toArray false) L H:=⟨fun ro a w hr ok=>wpIn_region_lit (h.out ro a w (hr.imp (fun h=>h) fun h=>by simpa [dX] using h) ok)⟩
theorem ak (h:X κ (Q .normal) L H):O P κ ops Q [] L H:=⟨fun _ a w _ ok=>wpListIn_nil (h.out a w ok)⟩
theorem av {K:Act→World→Prop}(h:X κ K L H):X κ (Exit.then K Q .normal) L H:=h
theorem ad {K:Act→World→Prop}{id:Nat}(h:X κ (Q (.exit id)) L H):X κ (Exit.then K Q (.exit id)) L H:=h
theorem aj {K:Act→World→Prop}(h:X κ (Q .ret) L H):X κ (Exit.then K Q .ret) L H:=h
theorem aq {id:Nat}(h:X κ (Q .normal) L H):X κ (Exit.inBlock id Q .normal) L H:=h
theorem aw {id:Nat}(h:X κ (Q .ret) L H):X κ (Exit.inBlock id Q .ret) L H:=h
theorem ag {id:Nat}(h:X κ (Q .normal) L H):X κ (Exit.inBlock id Q (.exit id)) L H:=⟨fun a w ok=>by simp only[Exit.inBlock,if_true];exact h.out a w ok⟩
theorem zc {id id':Nat}(dM:Nat.beq id' id=false)(h:X κ (Q (.exit id')) L H):X κ (Exit.inBlock id Q (.exit id')) L H:=
 ⟨fun a w ok => by have : ¬ id' = id := adK dM
                   simp only [Exit.inBlock, this, if_false]; exact h.out a w ok⟩
theorem cM {K:Act→World→Prop}(hL:Sub L L')(hH:HSub H H')(h:X κ K L' H'):X κ K L H:=⟨fun a w ok=>h.out a w ⟨ok.fr.sub hL,ok.st.sub hH⟩⟩
theorem Xy {l:List Oper}(hL:Sub L L')(hH:HSub H H')(h:O P κ ops Q l L' H'):O P κ ops Q l L H:=⟨fun ro a w hr ok=>h.out ro a w hr ⟨ok.fr.sub hL,ok.st.sub hH⟩⟩
structure Inv (κ:Cx){ι:Type}(I:ι→Prop)(Lf:ι→Loc)(Hf:ι→Hp)(m:ι→Nat)(i:ι)(a:Act)(w:World):Prop where
 out:∃ j,I j∧m j<m i∧Ok κ (Lf j) (Hf j) a w
theorem ky {ι:Type}{body:Code}(I:ι→Prop)(Lf:ι→Loc)(Hf:ι→Hp)(m:ι→Nat)(i0:ι)(h0:I i0)(hL:Sub L (Lf i0))(hH:HSub H (Hf i0))
   (round:∀ i,I i→C P κ (Exit.then (Inv κ I Lf Hf m i) Q) body (Lf i) (Hf i)):C P κ Q (.loop body) L H:=by
 refine⟨fun ro a w hr ok=>?_⟩
 have key:∀ n,∀ i,m i=n→I i→∀ a w,Ok κ (Lf i) (Hf i) a w→∀ (b:Frame)(k:List Item)(cs:List Frame),b.roundOf=ro →
     ∃ e a' w',Q e a' w'∧ArrivesIn (Machine.fenced P (FR ro)) P (lone (b.atR a (.code body::.inLoop body::k)) cs w) b k cs e a' w':=by
   intro n
   induction n using Nat.strongRecOn with
   | _ n ih=>
     intro i hn hI a w ok b k cs hb
     obtain⟨e,a₁,w₁,hq,mK⟩:=(round i hI).out ro a w (hr.imp id fun h=>by simpa [dX] using h) ok b (.inLoop body::k) cs hb trivial (yr _ _)
     cases e with
     | normal=>
       obtain⟨j,hI₁,cH,ok₁⟩:=hq.out
       obtain⟨e₂,a₂,w₂,hq₂,harr₂⟩:=ih (m j) (hn ▸ cH) j rfl hI₁ a₁ w₁ ok₁ b k cs hb
       exact⟨e₂,a₂,w₂,hq₂,.of_steps (StepsIn.trans mK (.one (fenced_wide P _) stepR_inLoop)) harr₂⟩
     | exit id=>exact⟨_,a₁,w₁,hq,.pass (x:=.inLoop body) rfl (fun _ _=>.inl (by simp)) mK⟩
     | goto l=>exact⟨_,a₁,w₁,hq,.pass (x:=.inLoop body) rfl (fun _ _=>.inl (by simp)) mK⟩
     | ret=>exact⟨_,a₁,w₁,hq,.pass (x:=.inLoop body) rfl (fun _ _=>.inl (by simp)) mK⟩
     | panic ch=>exact⟨_,a₁,w₁,hq,.pass (x:=.inLoop body) rfl (fun _ _=>.inl (by simp)) mK⟩
     | outgrown=>exact⟨_,a₁,w₁,hq,.pass (x:=.inLoop body) rfl (fun _ _=>.inl (by simp)) mK⟩
 intro b k cs hb _ _
 obtain⟨e,a',w',hq,mK⟩:=key _ i0 rfl h0 a w ⟨ok.fr.sub hL,ok.st.sub hH⟩ b k cs hb
 exact⟨e,a',w',hq,.of_steps (.one (fenced_wide P _) stepR_loop) mK⟩
theorem cd {ι:Type}{I:ι→Prop}{Lf:ι→Loc}{Hf:ι→Hp}{m:ι→Nat}{i:ι}(j:ι)(hI:I j)(hm:m j<m i)(hL:Sub L (Lf j))(hH:HSub H (Hf j)) :
   X κ (Inv κ I Lf Hf m i) L H:=⟨fun _ _ ok=>⟨j,hI,hm,ok.fr.sub hL,ok.st.sub hH⟩⟩
def ri (P:Program)(f:FuncId):Prop:=∀ args w,(callFunc f args).run P w = .ok (.enter f args) w
theorem rj {f:FuncId}{fn:Func}(hf:P.funcs[f]?=some fn)(hn:(fn.name == "runtime.NumGoroutine")=false)(hb:fn.body.isNone=false):ri P f:=by
 intro args w
 have hn':¬ fn.name = "runtime.NumGoroutine":=by simpa using hn
 have H6:¬ fn.body=none:=fun e=>by simp[e] at hb
 simp[callFunc,program,Sem.run,Sem.run_bind,hf,hn',H6]
structure nN (w0:World)(M:List Nat)(post:Value→Hp→Prop)(e:Ending)(w:World):Prop where
 out:∃ v H,e = .returned v∧post v H∧St w0 w M H
structure Fn (P:Program)(f:FuncId)(args:List Value)(pre:World→Prop)(S:Hp)(post:Value→Hp→Prop):Prop where
 enters:ri P f
 calls:∀ w,pre w→Has w S→Calls P f args.toArray w (nN w (keys S) post)
def CX:Nat→List Value→Loc
 | _,[]=>[]
 | i,v::vs=>(i,v)::CX (i+1) vs
theorem xt (vs:List Value):∀ k i v,look (CX k vs) i=some v→k≤i∧vs[i-k]?=some v:=by
 induction vs with
 | nil=>intro k i v h;simp[CX,look] at h
 | cons x xs ih=>
   intro k i v h
   simp only[CX,look] at h
   by_cases e:k=i
   · subst e;simp at h;subst h;simp
   · have:Nat.beq k i=false:=N9 e
     rw[this] at h
     obtain⟨h1,h2⟩:=ih (k+1) i v h
     refine⟨by omega,?_⟩
     have:i-k=(i-(k+1))+1:=by omega
     rw[this];simpa using h2
theorem aW {f:FuncId}{fn:Func}{c:Code}{args:List Value}{pre:World→Prop}{S:Hp}{post:Value→Hp→Prop}(hf:P.funcs[f]?=some fn)(hb:fn.body=some c)(hn:(fn.name == "runtime.NumGoroutine")=false)
   (hs:Nat.ble args.length fn.ntmps=true)
   (h:∀ w,pre w→C P ⟨fn.ntmps,[],w,keys S⟩ (bodyPost P fn (nN w (keys S) post)) c (CX 0 args) S):Fn P f args pre S post:=by
 refine⟨rj hf hn (by simp[hb]),fun w hp hS=>?_⟩
 have mT:args.length≤fn.ntmps:=by simpa using hs
 refine calls_of_wp hf hb ((h w hp).wp ⟨⟨?_,rfl,fun i v hv=>?_⟩,St.start hS⟩)
 · simp;omega
 · obtain⟨_,h2⟩:=xt args 0 i v hv
   simp only[Nat.sub_zero] at h2
   have hi:i<args.length:=by
     rcases Nat.lt_or_ge i args.length with h'|h'
     · exact h'
     · rw[List.getElem?_eq_none h'] at h2;cases h2
   rw[Array.getElem?_append_left (by simpa using hi)]
   simpa using h2
end
end Go.HL
namespace Go.HL
open Go
class TU (P:Program)(t:TypeId)(d:outParam TypeDesc):Prop where
 out:P.underlying t=some d
class TI (P:Program)(t:TypeId)(size bytes:outParam Nat):Prop where
 out:∃ i,P.info? t=some i∧i.size=size∧i.bytes=bytes
class TZ (P:Program)(t:TypeId)(z:outParam Value):Prop where
 out:∃ i,P.info? t=some i∧i.zero=some z
theorem cL {P:Program}{t size bytes:Nat}(h:(P.info? t).map (fun i=>(i.size,i.bytes))=some (size,bytes)):TI P t size bytes:=by
 cases hi:P.info? t with
 | none=>simp[hi] at h
 | some i=>simp[hi] at h;exact⟨⟨i,hi,h.1,h.2⟩⟩
theorem dU {P:Program}{t:Nat}{z:Value}(h:(P.info? t).bind (·.zero)=some z):TZ P t z:=by
 cases hi:P.info? t with
 | none=>simp[hi] at h
 | some i=>simp[hi] at h;exact⟨⟨i,hi,h⟩⟩
section
variable {P:Program}(w:World)
theorem cS {t:TypeId}{d:TypeDesc} [h:TU P t d]:(underlying t).run P w = .ok d w:=run_underlying h.out w
theorem bV {t:TypeId}{s b:Nat} [h:TI P t s b]:(sizeOf t).run P w = .ok s w:=by
 obtain⟨i,hi,hs,_⟩:=h.out
 simp[sizeOf,typeInfo,hi,hs]
theorem kQ {t:TypeId}{z:Value} [h:TZ P t z]:(zeroValue t).run P w = .ok z w:=by
 obtain⟨i,hi,hz⟩:=h.out
 simp[zeroValue,typeInfo,hi,hz]
def xv:TypeDesc→Bool
 | .struct _ | .array _ _=>false
 | _=>true
end
structure Step (P:Program)(κ:Cx)(op:Op)(ty:TypeId)(L:Loc)(H:Hp)(v:Value):Prop where
 out:∀ (ρ:Operand→Value) w d pos af g,(∀ x u,ev L x=some u→ρ x=u)→St κ.w0 w κ.M H→(execOp ρ ⟨d,op,ty,pos,af,g⟩).run P w = .ok (.value v) w
section
variable {P:Program}{κ:Cx}{Q:gR}{L L':Loc}{H H':Hp}{ops:Array Oper}{rest:List Oper}{op:Op}{ty:TypeId}{d:Nat}{pos:String}{af:Array Edge}{v:Value}
theorem cP (hn:Nat.blt d κ.n=true)(hs:Step P κ op ty L H v)(h:O P κ ops Q rest ((d,v)::L) H):O P κ ops Q (⟨some d,op,ty,pos,af,none⟩::rest) L H:=by
 refine⟨fun ro a w hr ok=>gg rfl (qM (hs.out a.eval w _ _ _ _ (fun x u hu=>ok.fr.ev hu) ok.st) ?_)⟩
 exact h.out ro _ _ hr.tail ⟨ok.fr.put hn v,ok.st⟩
theorem eT {o:Oper}{a:Act}{n:Nat}{ds:List Deferred}{j:Nat}{b c:Bool}{t:Nat}(hf:Fr a n ds L)(hg:o.guard=some (j,b))(hj:(ops[j]?).bind (·.dst)=some t)(ht:look L t=some (.bool c)) :
   Region.wanted o (yielded ops a.tmps)=(c==b):=by
 simp only[Region.wanted,hg,yielded,hj,Option.bind_some,hf.get _ _ ht]
 cases c <;> cases b <;> rfl
theorem jf {o:Oper}{a:Act}{n:Nat}{ds:List Deferred}{j:Nat}{b:Bool}{t:Nat}(hf:Fr a n ds L)(hg:o.guard=some (j,b))(hj:(ops[j]?).bind (·.dst)=some t)(ht:look L t=some undef) :
   Region.wanted o (yielded ops a.tmps)=false:=by
 simp only[Region.wanted,hg,yielded,hj,Option.bind_some,hf.get _ _ ht]
 rfl
theorem XA {j:Nat}{b:Bool}{t:Nat}(hj:(ops[j]?).bind (·.dst)=some t)(ht:look L t=some undef)(hn:Nat.blt d κ.n=true)(h:O P κ ops Q rest ((d,undef)::L) H) :
   O P κ ops Q (⟨some d,op,ty,pos,af,some (j,b)⟩::rest) L H:=
 ⟨fun ro _a _w hr ok=>EW (jf ok.fr rfl hj ht) (h.out ro _ _ hr.tail ⟨ok.fr.put hn undef,ok.st⟩)⟩
theorem XB {j:Nat}{b:Bool}{t:Nat}(hj:(ops[j]?).bind (·.dst)=some t)(ht:look L t=some (.bool b)){o:Option Tmp}(h:O P κ ops Q (⟨o,op,ty,pos,af,none⟩::rest) L H) :
   O P κ ops Q (⟨o,op,ty,pos,af,some (j,b)⟩::rest) L H:=by
 refine⟨fun ro a w hr ok=>gg ?_ ?_⟩
 · rw[eT ok.fr rfl hj ht];simp
 · have h':=h.out ro a w (hr.imp id fun h=>by simpa [mr] using h) ok
   unfold wpListIn at h'
   simp only[Region.wanted,if_true] at h'
   exact h'
theorem adQ {j:Nat}{b c:Bool}{t:Nat}(hj:(ops[j]?).bind (·.dst)=some t)(ht:look L t=some (.bool c))(dM:(c==b)=false)(hn:Nat.blt d κ.n=true)(h:O P κ ops Q rest ((d,undef)::L) H) :
   O P κ ops Q (⟨some d,op,ty,pos,af,some (j,b)⟩::rest) L H:=
 ⟨fun ro a w hr ok=>EW (by rw[eT ok.fr rfl hj ht,dM]) (h.out ro _ _ hr.tail ⟨ok.fr.put hn undef,ok.st⟩)⟩
inductive QO (P:Program)(κ:Cx)(ops:Array Oper)(H:Hp)(R:Loc→Prop):Bool→List Oper→Loc→Prop
 | nil {c:Bool}{L:Loc}(h:R L):QO P κ ops H R c [] L
 | op {c:Bool}{L:Loc}{rest:List Oper}{op:Op}{ty:TypeId}{d:Nat}{pos:String}{af:Array Edge}{v:Value}(hn:Nat.blt d κ.n=true)(hs:Step P κ op ty L H v)(h:QO P κ ops H R c rest ((d,v)::L)) :
     QO P κ ops H R c (⟨some d,op,ty,pos,af,none⟩::rest) L
 | yes {c:Bool}{L:Loc}{rest:List Oper}{op:Op}{ty:TypeId}{d:Nat}{pos:String}{af:Array Edge}{v:Value}{j:Nat}{b:Bool}{t:Nat}(hj:(ops[j]?).bind (·.dst)=some t)(ht:look L t=some (.bool b))
     (hn:Nat.blt d κ.n=true)(hs:Step P κ op ty L H v)(h:QO P κ ops H R c rest ((d,v)::L)) :
     QO P κ ops H R c (⟨some d,op,ty,pos,af,some (j,b)⟩::rest) L
 | no {c:Bool}{L:Loc}{rest:List Oper}{op:Op}{ty:TypeId}{d:Nat}{pos:String}{af:Array Edge}{j:Nat}{b b':Bool}{t:Nat}(hj:(ops[j]?).bind (·.dst)=some t)(ht:look L t=some (.bool b'))
     (dM:(b'==b)=false)(hn:Nat.blt d κ.n=true)(h:QO P κ ops H R c rest ((d,undef)::L)) :
     QO P κ ops H R c (⟨some d,op,ty,pos,af,some (j,b)⟩::rest) L
 | noU {c:Bool}{L:Loc}{rest:List Oper}{op:Op}{ty:TypeId}{d:Nat}{pos:String}{af:Array Edge}{j:Nat}{b:Bool}{t:Nat}(hj:(ops[j]?).bind (·.dst)=some t)(ht:look L t=some undef)
     (hn:Nat.blt d κ.n=true)(h:QO P κ ops H R c rest ((d,undef)::L)) :
     QO P κ ops H R c (⟨some d,op,ty,pos,af,some (j,b)⟩::rest) L
 | call {L:Loc}{rest:List Oper}{ty:TypeId}{d:Nat}{pos:String}{af:Array Edge}{g:Option (Nat×Bool)}{v:Value}{f:FuncId}{fo:Operand}{xs:Array Operand}{ts:Array TypeId}{vs:List Value}{pre:World→Prop}
     (hg:∀ a:Act,Fr a κ.n κ.ds L→Region.wanted ⟨some d,.call ⟨.value fo,xs,ts⟩,ty,pos,af,g⟩ (yielded ops a.tmps)=true)
     (hf:ev L fo=some (.func (.func f) #[] #[]))(hx:xs.toList.map (ev L)=vs.map some)(hn:Nat.blt d κ.n=true)
     (hc:Fn P f vs pre [] (fun v' _=>v'=v))(hp:∀ w,St κ.w0 w κ.M H→pre w)(h:QO P κ ops H R true rest ((d,v)::L)) :
     QO P κ ops H R true (⟨some d,.call ⟨.value fo,xs,ts⟩,ty,pos,af,g⟩::rest) L
theorem uV {xs:Array Operand}{vs:List Value}{ρ:Operand→Value}(hρ:∀ x u,ev L x=some u→ρ x=u)(hx:xs.toList.map (ev L)=vs.map some):xs.map ρ=vs.toArray:=by
 apply Array.ext'
 simp only[Array.toList_map]
 generalize xs.toList=l at hx
 induction l generalizing vs with
 | nil=>cases vs <;> simp_all
 | cons x l ih=>
   cases vs with
   | nil=>simp at hx
   | cons v vs=>
     simp only[List.map_cons,List.cons.injEq] at hx
     simp only[List.map_cons]
     rw[hρ _ _ hx.1,ih hx.2]
theorem AM {ρ:Operand→Value}{f:FuncId}{fo:Operand}{xs:Array Operand}{ts:Array TypeId}{vs:List Value}{o:Option Tmp}{g:Option (Nat×Bool)}(w:World)
   (hρ:∀ x u,ev L x=some u→ρ x=u)(hf:ev L fo=some (.func (.func f) #[] #[]))(hx:xs.toList.map (ev L)=vs.map some)(he:ri P f) :
   (execOp ρ ⟨o,.call ⟨.value fo,xs,ts⟩,ty,pos,af,g⟩).run P w = .ok (.enter f vs.toArray) w:=by
 have h1:=hρ _ _ hf
 have h2:=uV hρ hx
 simp only[execOp,resolve,h1,h2,Deferred.ofValue,Sem.run_bind,Sem.run_pure,Result.andThen_ok,invoke]
 have:=he vs.toArray w
 simpa using this
theorem QO.still {R:Loc→Prop}{c:Bool}{l:List Oper}(h:QO P κ ops H R c l L)(hc:c=false){w:World}(hw:St κ.w0 w κ.M H){Qa:Act→Prop}(hQ:∀ L' a',R L'→Fr a' κ.n κ.ds L'→Qa a'):∀ a,Fr a κ.n κ.ds L→wpStill P ops w Qa l a:=by
 induction h with
 | nil h=>exact fun a fr=>hQ _ _ h fr
 | op hn hs _ ih=>
   intro a fr
   simp only[wpStill,Region.wanted,if_true,Oper.still]
   rw[hs.out a.eval w _ _ _ _ (fun x u hu=>fr.ev hu) hw,Oper.stillUpon_value]
   exact ih hc _ (fr.put hn _)
 | yes hj ht hn hs _ ih=>
   intro a fr
   simp only[wpStill]
   rw[eT fr rfl hj ht]
   simp only[beq_self_eq_true,if_true,Oper.still]
   rw[hs.out a.eval w _ _ _ _ (fun x u hu=>fr.ev hu) hw,Oper.stillUpon_value]
   exact ih hc _ (fr.put hn _)
 | no hj ht dM hn _ ih=>
   intro a fr
   simp only[wpStill]
   rw[eT fr rfl hj ht,dM]
   simp only[Bool.false_eq_true,if_false]
   exact ih hc _ (fr.put hn _)
 | noU hj ht hn _ ih=>
   intro a fr
   simp only[wpStill]
   rw[jf fr rfl hj ht]
   simp only[Bool.false_eq_true,if_false]
   exact ih hc _ (fr.put hn _)
 | call=>cases hc
theorem QO.quiet {R:Loc→Prop}{c:Bool}{l:List Oper}(h:QO P κ ops H R c l L){Qa:Act→Prop}(hQ:∀ L' a',R L'→Fr a' κ.n κ.ds L'→Qa a'):∀ a,Fr a κ.n κ.ds L→wpQuiet P ops (fun w=>St κ.w0 w κ.M H) Qa l a:=by
 induction h with
 | nil h=>exact fun a fr=>hQ _ _ h fr
 | op hn hs _ ih=>
   intro a fr
   simp only[wpQuiet,Region.wanted,if_true]
   refine⟨_,fun w hw=>?_,ih _ (fr.put hn _)⟩
   unfold Oper.quietAt
   rw[hs.out a.eval w _ _ _ _ (fun x u hu=>fr.ev hu) hw]
   exact⟨rfl,rfl⟩
 | yes hj ht hn hs _ ih=>
   intro a fr
   simp only[wpQuiet]
   rw[eT fr rfl hj ht]
   simp only[beq_self_eq_true,if_true]
   refine⟨_,fun w hw=>?_,ih _ (fr.put hn _)⟩
   unfold Oper.quietAt
   rw[hs.out a.eval w _ _ _ _ (fun x u hu=>fr.ev hu) hw]
   exact⟨rfl,rfl⟩
 | no hj ht dM hn _ ih=>
   intro a fr
   simp only[wpQuiet]
   rw[eT fr rfl hj ht,dM]
   simp only[Bool.false_eq_true,if_false]
   exact ih _ (fr.put hn _)
 | noU hj ht hn _ ih=>
   intro a fr
   simp only[wpQuiet]
   rw[jf fr rfl hj ht]
   simp only[Bool.false_eq_true,if_false]
   exact ih _ (fr.put hn _)
 | call hg hf hx hn hc hp _ ih=>
   intro a fr
   simp only[wpQuiet]
   rw[hg a fr]
   simp only[if_true]
   refine⟨_,fun w hw=>?_,ih _ (fr.put hn _)⟩
   unfold Oper.quietAt
   rw[AM w (fun x u hu=>fr.ev hu) hf hx hc.enters]
   refine⟨rfl,(hc.calls w (hp w hw) ⟨by simp,.nil⟩).mono fun e w' iG=>?_⟩
   obtain⟨v',S',rfl,rfl,dV⟩:=iG.out
   refine⟨rfl,?_⟩
   have:=St.comp (S:=[]) (R:=_) (by simpa using hw) dV
   exact this.sub (HSub.JG (HSub.refl _))
class E7 (P:Program):Prop where
 out:P.follows .mixedOrders=true
theorem iA {id:Nat}{l:List Oper} [hm:E7 P](hB:Region.lexB .any l.toArray=true)(h:QO P κ l.toArray H (fun L'=>X κ (Q .normal) L' H) true l L):C P κ Q (.region id l.toArray true) L H:=by
 refine⟨fun ro a w hr ok=>wpIn_region_any hm.out (AK (by simpa [MY,dX] using hr) _ _ _ _ ?_)⟩
 simp only[Region.lexB,Bool.and_eq_true] at hB
 have st:St κ.w0 { w with drawn:=w.drawn+1 } κ.M H:=ok.st.same rfl rfl rfl rfl
 refine wpAny_of_quiet (C:=fun w=>St κ.w0 w κ.M H) (Q:=fun a'=>∀ w',St κ.w0 w' κ.M H→EX Q .normal a' w') (fun _ w' hw' h=>h w' hw') _ _ _ _ st ?_
 have:=wpAnyQ_lex (C:=fun w=>St κ.w0 w κ.M H) (md:=.any) hB.1 l.toArray.toList 0 (Array.replicate l.toArray.size false) a (by simp) (by simpa using hB.2)
   (by simpa using h.quiet (Qa:=fun a'=>∀ w',St κ.w0 w' κ.M H→EX Q .normal a' w') (fun L' a' hx fr w' st=>hx.out a' w' ⟨fr,st⟩) a ok.fr)
 simpa using this
section
variable {P:Program}{ro:Option Nat}{ops:Array Oper}{md:Region.Mode}{w:World}
theorem uW {i:Nat}{a:Act}{K:Act→Prop}{K':Act→World→Prop}{Q':gR}(hd:ro=none∨mr ops.toList=true)(h:∀ a,K a→K' a w)(hh:stOp P ops w i K a):wpOpIn (FR ro) 0 P ops Q' i K' a w:=
 EY hd (wpOp_of_stOp h hh)
theorem mu {n g:Nat}{Lq:Array Bool→Act→Prop}{Q':gR}(hd:ro=none∨mr ops.toList=true)(hL:∀ listed a,Lq listed a→wpAnyIn (FR ro) 0 P md ops Q' g listed a w) :
   ∀ (f:Nat)(listed:Array Bool)(a:Act),wpAnyL P md ops w n Lq f listed a→wpAnyIn (FR ro) 0 P md ops Q' (f+g) listed a w
 | 0,listed,a,h=>by rw[Nat.zero_add];exact hL _ _ h
 | f+1,listed,a,h=>by
   rw[show f+1+g=(f+g)+1 by omega]
   exact⟨fun h0=>absurd h0 h.1,fun i hi=>uW hd (fun a' h'=>mu hd hL f _ a' h') (h.2 i hi).2⟩
theorem mZ {Q':gR}:∀ (l:List Oper)(k:Nat)(listed:Array Bool)(a:Act)(w:World),(∀ j,l[j]?=ops[k+j]?) →
   Region.seqB md ops l.length k listed=true→wpListIn (FR ro) 0 P ops Q' l a w→wpAnyIn (FR ro) 0 P md ops Q' l.length listed a w
 | [],_,_,_,_,_,hB,h=>⟨by simpa [Region.seqB] using hB,h⟩
 | o::l,k,listed,a,w,hl,hB,h=>by
   have h0:ops[k]?=some o:=by simpa using (hl 0).symm
   simp only[List.length_cons,Region.seqB,Bool.and_eq_true,decide_eq_true_eq] at hB
   refine⟨fun h1=>(by rw[hB.1] at h1;cases h1),fun i hi=>?_⟩
   rw[hB.1] at hi
   have hik:i=k:=by simpa using hi
   subst hik
   have hw:wpOpIn (FR ro) 0 P ops Q' i (wpListIn (FR ro) 0 P ops Q' l) a w:=by unfold wpOpIn;simp only[h0];exact h
   exact wpOpIn_mono (fun a' w' h'=>mZ l (i+1) _ a' w' (fun j=>by have:=hl (j+1);simpa [Nat.add_assoc,Nat.add_comm 1 j] using this) hB.2 h') hw
end
theorem C4 {l:List Oper}(n:Nat)(h:mr l=true):mr (l.drop n)=true:=
 List.all_eq_true.2 fun o ho=>List.all_eq_true.1 h o (List.mem_of_mem_drop ho)
theorem uv (n:Nat){id:Nat}{l:List Oper} [hm:E7 P](hB:Region.lexTailB .any l.toArray n=true)(h:QO P κ l.toArray H (fun L'=>O P κ l.toArray Q (l.drop n) L' H) false (l.take n) L):C P κ Q (.region id l.toArray true) L H:=by
 refine⟨fun ro a w hr ok=>?_⟩
 have z6:ro=none∨mr l.toArray.toList=true:=by simpa [MY,dX] using hr
 have st:St κ.w0 { w with drawn:=w.drawn+1 } κ.M H:=ok.st.same rfl rfl rfl rfl
 have SZ:=h.still rfl st (Qa:=fun a'=>wpListIn (FR ro) 0 P l.toArray Q (l.drop n) a' { w with drawn:=w.drawn+1 }) (fun L' a' hx fr=>hx.out ro a' _ (z6.imp (fun h=>h) fun h=>C4 n (by simpa using h)) ⟨fr,st⟩) a ok.fr
 simp only[Region.lexTailB,Bool.and_eq_true,decide_eq_true_eq] at hB
 obtain⟨⟨⟨⟨wJ,hn⟩,hs⟩,hc⟩,adR⟩:=hB
 have hn':n<l.length:=by simpa using hn
 have Ac:(l.take n).length=n:=by simp;omega
 have V0:(l.drop n).length=l.toArray.size-n:=by simp
 have adS:HeadInv .any l.toArray n (Array.replicate l.toArray.size false):=
   ⟨by simp,fun j oj _ hl=>(by rw[getD_replicate_false] at hl;cases hl),fun t _ ht=>getD_in (by simpa using ht) (getD_replicate_false _ _)⟩
 have H:=wpAnyL_lex (md:=.any) (g:=l.toArray.size-n) wJ hs hc hn (l.take n) 0 _ a (fun j hj=>by
   have M6:j<n:=by rw[Ac] at hj;exact hj
   simp[M6]) (by simpa using Ac) adS (by rw[Ac];exact adR) SZ
 refine wpIn_region_any hm.out ?_
 have:=mu (ro:=ro) (Q':=Q) (g:=l.toArray.size-n) z6 (fun listed a' hL=>by
   have:=mZ (ro:=ro) (md:=.any) (Q':=Q) (l.drop n) n listed a' { w with drawn:=w.drawn+1 } (fun j=>by simp[List.getElem?_drop]) (by rw[V0];exact hL.1) hL.2
   rwa [V0] at this) _ _ _ H
 rw[Ac,show n+(l.toArray.size-n)=l.toArray.size by omega] at this
 exact this
section
variable {P:Program}{ro:Option Nat}{ops:Array Oper}{Q:gR}{md:Region.Mode}{S S0:World→Prop}{late:Nat→Bool}
theorem ry {i:Nat}{o:Oper}{v:Value}{a:Act}(hi:ops[i]?=some o)(hy:YieldsIf P ops S o v a){K:Act→World→Prop}{w:World}(hS:S w)(h:K (a.put o.dst v) w):wpOpIn (FR ro) 0 P ops Q i K a w:=by
 unfold wpOpIn
 simp only[hi]
 rcases hy with ⟨hw,hv⟩|⟨hw,rfl⟩
 · rw[if_pos hw];exact qM (hv w hS) h
 · rw[if_neg (by simp[hw])];exact⟨fun _ _=>trivial,h⟩
theorem GU {ro:Option Nat}(o:Oper)(hs:∀ cs b,o.op≠.select cs b)(a:Act)(d:Option Tmp)(v:Value)(h:∀ x,d=some x→x∉o.looksAt ops):o.semAt ro (a.put d v).eval=o.semAt ro a.eval:=by
 unfold Oper.semAt
 have he:=execOp_put (ops:=ops) o hs a d v h
 split
 · rename_i l c hc
   rw[resolve_congr (ρ:=(a.put d v).eval) (ρ':=a.eval) c o.type (fun x hx=>Act.eval_put fun y hy M7=>h y hy (by
     subst M7
     exact List.mem_append_left _ (List.mem_filterMap.2 ⟨.tmp y,by rw[hc];simpa [Op.operands] using hx,rfl⟩)))]
 · exact he
theorem m0 {j:Nat}{oi oj:Oper}{v:Value}(hj:ops[j]?=some oj)(hap:oi.apart ops oj=true)
   (VZ:∀ cs b,oi.op≠.select cs b)(hsj:∀ cs b,oj.op≠.select cs b)
   (hQ:∀ c a w,Q (.panic c) (a.put oi.dst v) w→Q (.panic c) a w){K:Act→World→Prop}{a:Act}{w:World}
   (hy:YieldsIf P ops S oi v a)(h:wpOpIn (FR ro) 0 P ops Q j K (a.put oi.dst v) w) :
   wpOpIn (FR ro) 0 P ops Q j (fun a' w'=>YieldsIf P ops S oi v a'∧K (a'.put oi.dst v) w') a w:=by
 obtain⟨h1,h2,h3⟩:=Oper.apart_spec hap
 have y9:∀ (a:Act),YieldsIf P ops S oi v a→∀ u,YieldsIf P ops S oi v (a.put oj.dst u):=fun a hy u=>
   hy.of_same (execOp_put oi VZ a oj.dst u h3) (wanted_put oi a oj.dst u h3)
 have XC:∀ d,YieldsIf P ops S oi v { a with defers:=d::a.defers }:=fun d=>hy.of_same rfl rfl
 unfold wpOpIn at *
 simp only[hj] at *
 rw[wanted_put oj a oi.dst v h1] at h
 split
 · rename_i hw
   simp only[hw,if_true] at h
   refine⟨fun _ _=>trivial,?_⟩
   have h:=h.2
   rw[GU (ops:=ops) oj hsj a oi.dst v h1] at h
   generalize (oj.semAt (FR ro).round a.eval).run P w=r at *
   cases r with
   | ok n w'=>
     cases n <;> simp only[Oper.uponIn] at h ⊢
     case value u=>exact⟨y9 a hy u,by rw[← Act.put_comm a v u h2];exact h⟩
     case skip=>exact⟨y9 a hy _,by rw[← Act.put_comm a v undef h2];exact h⟩
     case defer d=>
       refine⟨y9 _ (XC d) _,?_⟩
       rw[← Act.put_comm _ v undef h2,← Act.put_defers]
       exact h
     case enter f args=>
       refine⟨h.1,CallsIn.mono h.2 fun e JI he=>?_⟩
       cases e with
       | returned u=>exact⟨y9 a hy u,by rw[← Act.put_comm a v u h2];exact he⟩
       | panicked c=>exact hQ _ _ _ he
       | outgrown=>exact he
     case row row args=>exact⟨h.1,RowsIn.mono h.2 fun u JI he=>⟨y9 a hy u,by rw[← Act.put_comm a v u h2];exact he⟩⟩
     case round l f tmps assign body=>
       refine⟨h.1,RoundIn.mono h.2 fun e JI he=>?_⟩
       cases e with
       | returned u=>exact⟨y9 a hy u,by rw[← Act.put_comm a v u h2];exact he⟩
       | panicked c=>exact hQ _ _ _ he
       | outgrown=>exact he
   | halt x w'=>
     cases x <;> simp only[Oper.uponIn] at h ⊢
     case panic u=>exact hQ _ _ _ h
 · rename_i hw
   simp only[hw] at h
   exact⟨fun _ _=>trivial,y9 a hy _,by rw[← Act.put_comm a v undef h2];exact h.2⟩
def JU (ro:Option Nat)(P:Program)(md:Region.Mode)(ops:Array Oper)(Q:gR)(S S0:World→Prop)(late:Nat→Bool):Nat→Array Bool→Act→World→Prop
 | 0,li,a,w=>Region.ready md ops li = []∧Q .normal a w
 | n+1,li,a,w=>(Region.ready md ops li = []→Q .normal a w)∧∀ i∈Region.ready md ops li,wpOpIn (FR ro) 0 P ops Q i (fun a' w'=>(late i=false→S w→S w')∧S0 w'∧JU ro P md ops Q S S0 late n (li.setIfInBounds i true) a' w') a w
theorem Fa:∀ (n:Nat)(li:Array Bool)(a:Act)(w:World),JU ro P md ops Q S S0 late n li a w→wpAnyIn (FR ro) 0 P md ops Q n li a w
 | 0,_,_,_,h=>h
 | n+1,_,_,_,h=>⟨h.1,fun i hi=>wpOpIn_mono (fun a' w' h'=>Fa n _ a' w' h'.2.2) (h.2 i hi)⟩
theorem GV {i:Nat}{o:Oper}{v:Value}(hi:ops[i]?=some o)(wJ:∀ (j:Nat)(o:Oper) cs b,ops[j]?=some o→o.op≠.select cs b)(hQ:∀ c a w,Q (.panic c) (a.put o.dst v) w→Q (.panic c) a w)
   (hl:∀ j oj,ops[j]?=some oj→late j=true→∃ e∈oj.after,Region.binds md e=true∧e.on=i) :
   ∀ (n:Nat)(li:Array Bool)(a:Act)(w:World),
     (∀ j oj,ops[j]?=some oj→j≠i→li.getD j true=false→(∀ e∈oj.after,Region.binds md e=true→e.on≠i)→o.apart ops oj=true) →
     i∈Region.ready md ops li→YieldsIf P ops S o v a→S w→S0 w→JU ro P md ops Q S S0 late n (li.setIfInBounds i true) (a.put o.dst v) w→JU ro P md ops Q S S0 late (n+1) li a w:=by
 intro n
 induction n with
 | zero=>
   intro li a w _ hr hy hS GW h
   refine⟨fun h0=>absurd (h0 ▸ hr) (by simp),fun j hj=>?_⟩
   by_cases e:j=i
   · subst e;exact ry hi hy hS ⟨fun _ h=>h,GW,h⟩
   · have:=ready_mono hj e
     rw[h.1] at this;cases this
 | succ n ih=>
   intro li a w hf hr hy hS GW h
   refine⟨fun h0=>absurd (h0 ▸ hr) (by simp),fun j hj=>?_⟩
   by_cases e:j=i
   · subst e;exact ry hi hy hS ⟨fun _ h=>h,GW,h⟩
   · have h1:=h.2 j (ready_mono hj e)
     obtain⟨hu,oj,C5,jE⟩:=mem_ready.1 hj
     have mq:∀ x∈oj.after,Region.binds md x=true→x.on≠i:=by
       intro x hx hb he
       have e1:=jE x hx hb
       have e0:=(mem_ready.1 hr).1
       rw[he] at e1
       rcases Nat.lt_or_ge i li.size with hs|hs
       · simp[hs] at e0 e1;rw[e0] at e1;cases e1
       · simp[Array.getElem?_eq_none hs] at e1
     have JV:late j=false:=by
       cases M6:late j
       · rfl
       · obtain⟨x,hx,hb,he⟩:=hl j oj C5 M6
         exact absurd he (mq x hx hb)
     have h2:=m0 C5 (hf j oj C5 e hu mq) (fun cs b=>wJ i o cs b hi) (fun cs b=>wJ j oj cs b C5) hQ hy h1
     have XD:∀ k ok,ops[k]?=some ok→k≠i→(li.setIfInBounds j true).getD k true=false→(∀ x∈ok.after,Region.binds md x=true→x.on≠i)→o.apart ops ok=true:=by
       intro k ok hk Ta XE hn
       refine hf k ok hk Ta ?_ hn
       by_cases Qs:j=k
       · subst Qs;exact hu
       · rwa [getD_set_ne true Qs] at XE
     refine wpOpIn_mono (fun a' w' h3=>⟨h3.2.1,h3.2.2.1,ih (li.setIfInBounds j true) a' w' XD (ready_mono hr (Ne.symm e)) h3.1 (h3.2.1 JV hS) h3.2.2.1 ?_⟩) h2
     rw[Array.setIfInBounds_comm _ _ e]
     exact h3.2.2.2
theorem tU {i:Nat}{o:Oper}{v:Value}(hi:ops[i]?=some o)(wJ:∀ (j:Nat)(o:Oper) cs b,ops[j]?=some o→o.op≠.select cs b)(hQ:∀ c a w,Q (.panic c) (a.put o.dst v) w→Q (.panic c) a w) :
   ∀ (n:Nat)(li:Array Bool)(a:Act)(w:World),
     (∀ j oj,ops[j]?=some oj→j≠i→li.getD j true=false→(∀ e∈oj.after,Region.binds md e=true→e.on≠i)→o.apart ops oj=true) →
     i∈Region.ready md ops li→YieldsIf P ops S0 o v a→S0 w→JU ro P md ops Q S S0 late n (li.setIfInBounds i true) (a.put o.dst v) w→JU ro P md ops Q S S0 late (n+1) li a w:=by
 intro n
 induction n with
 | zero=>
   intro li a w _ hr hy GW h
   refine⟨fun h0=>absurd (h0 ▸ hr) (by simp),fun j hj=>?_⟩
   by_cases e:j=i
   · subst e;exact ry hi hy GW ⟨fun _ h=>h,GW,h⟩
   · have:=ready_mono hj e
     rw[h.1] at this;cases this
 | succ n ih=>
   intro li a w hf hr hy GW h
   refine⟨fun h0=>absurd (h0 ▸ hr) (by simp),fun j hj=>?_⟩
   by_cases e:j=i
   · subst e;exact ry hi hy GW ⟨fun _ h=>h,GW,h⟩
   · have h1:=h.2 j (ready_mono hj e)
     obtain⟨hu,oj,C5,jE⟩:=mem_ready.1 hj
     have mq:∀ x∈oj.after,Region.binds md x=true→x.on≠i:=by
       intro x hx hb he
       have e1:=jE x hx hb
       have e0:=(mem_ready.1 hr).1
       rw[he] at e1
       rcases Nat.lt_or_ge i li.size with hs|hs
       · simp[hs] at e0 e1;rw[e0] at e1;cases e1
       · simp[Array.getElem?_eq_none hs] at e1
     have h2:=m0 C5 (hf j oj C5 e hu mq) (fun cs b=>wJ i o cs b hi) (fun cs b=>wJ j oj cs b C5) hQ hy h1
     have XD:∀ k ok,ops[k]?=some ok→k≠i→(li.setIfInBounds j true).getD k true=false→(∀ x∈ok.after,Region.binds md x=true→x.on≠i)→o.apart ops ok=true:=by
       intro k ok hk Ta XE hn
       refine hf k ok hk Ta ?_ hn
       by_cases Qs:j=k
       · subst Qs;exact hu
       · rwa [getD_set_ne true Qs] at XE
     refine wpOpIn_mono (fun a' w' h3=>⟨h3.2.1,h3.2.2.1,ih (li.setIfInBounds j true) a' w' XD (ready_mono hr (Ne.symm e)) h3.1 h3.2.2.1 ?_⟩) h2
     rw[Array.setIfInBounds_comm _ _ e]
     exact h3.2.2.2
def xk (ops:Array Oper)(late:Nat→Bool)(i:Nat):Bool:=(List.range ops.size).all fun j=>!late j||(match ops[j]? with|some o=>o.after.any fun e=>Region.binds .any e&&e.on==i|none=>true)
theorem C6 {i:Nat}(h:xk ops late i=true):∀ j oj,ops[j]?=some oj→late j=true→∃ e∈oj.after,Region.binds .any e=true∧e.on=i:=by
 intro j oj hj Qk
 have cH:j<ops.size:=by
   rcases Nat.lt_or_ge j ops.size with h'|h'
   · exact h'
   · rw[Array.getElem?_eq_none h'] at hj;cases hj
 have:=List.all_eq_true.1 h j (List.mem_range.2 cH)
 rw[Qk,hj] at this
 simp only[Bool.not_true,Bool.false_or] at this
 obtain⟨e,he,hb⟩:=Array.any_eq_true'.1 this
 simp only[Bool.and_eq_true,beq_iff_eq] at hb
 exact⟨e,he,hb.1,hb.2⟩
end
structure E (P:Program)(κ:Cx)(ops:Array Oper)(Q:gR)(Hs:Hp)(late:Nat→Bool)(fuel:Nat)(listed:Array Bool)(L:Loc)(H:Hp):Prop where
 out:∀ ro a w,Qm ro ops.toList→Ok κ L H a w→JU ro P .any ops (NoPanic Q) (fun w=>St κ.w0 w κ.M Hs) (fun w=>St κ.w0 w κ.M []) late fuel listed a w
theorem aK {id:Nat}{l:List Oper} [hm:E7 P](Hs:Hp)(late:Nat→Bool)(h:E P κ l.toArray Q Hs late l.length (Array.replicate l.length false) L H):C P κ Q (.region id l.toArray true) L H:=by
 refine⟨fun ro a w hr ok=>Code.wpIn_mono NoPanic.imp (wpIn_region_any hm.out (Fa (S:=fun w=>St κ.w0 w κ.M Hs) (S0:=fun w=>St κ.w0 w κ.M []) (late:=late) _ _ _ _ ?_))⟩
 simpa using h.out ro a w.drew (by simpa [MY,dX,Qm] using hr) ⟨ok.fr,ok.st.drew⟩
section
variable {late:Nat→Bool}
theorem yP (i:Nat){fuel:Nat}{listed:Array Bool}{Hs:Hp}{g:Option (Nat×Bool)}(hi:ops[i]?=some ⟨some d,op,ty,pos,af,g⟩)(dr:Region.noSelect ops=true)(nI:Region.free .any ops listed i=true)(hr:(Region.ready .any ops listed).contains i=true)
   (cH:xk ops late i=true)(hg:∀ a:Act,Fr a κ.n κ.ds L→Region.wanted ⟨some d,op,ty,pos,af,g⟩ (yielded ops a.tmps)=true)(hn:Nat.blt d κ.n=true)(hS:HSub H Hs)(hs:Step P κ op ty L Hs v)(h:E P κ ops Q Hs late fuel (listed.setIfInBounds i true) ((d,v)::L) H):E P κ ops Q Hs late (fuel+1) listed L H:=by
 refine⟨fun ro a w iF ok=>?_⟩
 exact GV hi (Region.noSelect_spec dr) (fun c a w h=>h.elim) (C6 cH) fuel listed a w (Region.free_spec hi nI) (by simpa using hr)
   (.inl ⟨hg a ok.fr,fun w' st=>hs.out a.eval w' _ _ _ _ (fun x u hu=>ok.fr.ev hu) st⟩) (ok.st.sub hS) (ok.st.sub HSub.nil) (h.out ro _ _ iF ⟨ok.fr.put hn v,ok.st⟩)
theorem Jm (i:Nat){fuel:Nat}{listed:Array Bool}{Hs:Hp}(hi:ops[i]?=some ⟨some d,op,ty,pos,af,none⟩)(dr:Region.noSelect ops=true)(nI:Region.free .any ops listed i=true)(hr:(Region.ready .any ops listed).contains i=true)
   (hn:Nat.blt d κ.n=true)(hs:Step P κ op ty L [] v)(h:E P κ ops Q Hs late fuel (listed.setIfInBounds i true) ((d,v)::L) H):E P κ ops Q Hs late (fuel+1) listed L H:=by
 refine⟨fun ro a w iF ok=>?_⟩
 exact tU hi (Region.noSelect_spec dr) (fun c a w h=>h.elim) fuel listed a w (Region.free_spec hi nI) (by simpa using hr)
   (.inl ⟨rfl,fun w' st=>hs.out a.eval w' _ _ _ _ (fun x u hu=>ok.fr.ev hu) st⟩) (ok.st.sub HSub.nil) (h.out ro _ _ iF ⟨ok.fr.put hn v,ok.st⟩)
theorem cw {fuel:Nat}{listed:Array Bool}{Hs:Hp}(hr:Region.ready .any ops listed = [])(h:X κ (Q .normal) L H):E P κ ops Q Hs late fuel listed L H:=by
 refine⟨fun ro a w _ ok=>?_⟩
 have hq:=NoPanic.normal (h.out a w ok)
 cases fuel with
 | zero=>exact⟨hr,hq⟩
 | succ n=>exact⟨fun _=>hq,by rw[hr];simp⟩
def uX (P:Program)(κ:Cx)(ops:Array Oper)(Q:gR)(Hs:Hp)(late:Nat→Bool)(fuel:Nat)(listed:Array Bool)(i:Nat):Exit→Act→World→Prop
 | .normal,a,w=>(late i=false→St κ.w0 w κ.M Hs)∧St κ.w0 w κ.M []∧∀ ro,Qm ro ops.toList→JU ro P .any ops (NoPanic Q) (fun w=>St κ.w0 w κ.M Hs) (fun w=>St κ.w0 w κ.M []) late fuel (listed.setIfInBounds i true) a w
 | _,_,_=>False
theorem GX (A B:Loc)(i:Nat):look (A++B) i=match look A i with|some v=>some v|none=>look B i:=by
 induction A with
 | nil=>simp[look]
 | cons p A ih=>
   obtain⟨j,v⟩:=p
   simp only[List.cons_append,look]
   cases Nat.beq j i <;> simp[ih]
theorem Og {ops:Array Oper}{i:Nat}{o:Oper}(h:ops[i]?=some o):o∈ops.toList:=by
 obtain⟨hi,he⟩:=Array.getElem?_eq_some_iff.1 h
 rw[← he];simp
theorem GY (i:Nat){o:Oper}{fuel:Nat}{listed:Array Bool}{Hs:Hp}(hi:ops[i]?=some o)(h:O P κ ops (uX P κ ops Q Hs late fuel listed i) [o] L H){ro:Option Nat}{a:Act}{w:World}(iF:Qm ro ops.toList)(ok:Ok κ L H a w) :
   wpOpIn (FR ro) 0 P ops (NoPanic Q) i (fun a' w'=>(late i=false→St κ.w0 w κ.M Hs→St κ.w0 w' κ.M Hs)∧St κ.w0 w' κ.M []∧JU ro P .any ops (NoPanic Q) (fun w=>St κ.w0 w κ.M Hs) (fun w=>St κ.w0 w κ.M []) late fuel (listed.setIfInBounds i true) a' w') a w:=by
 have h':=h.out ro a w (iF.imp id fun h=>by
   have:=List.all_eq_true.1 h o (Og hi)
   simpa [mr] using this) ok
 unfold wpOpIn
 simp only[hi]
 unfold wpListIn at h'
 split
 · rename_i hw
   rw[if_pos hw] at h'
   refine⟨fun _ _=>trivial,?_⟩
   have h':=h'.2
   generalize (o.semAt (FR ro).round a.eval).run P w=r at h' ⊢
   cases r with
   | ok n w'=>
     cases n <;> simp only[Oper.uponIn] at h' ⊢
     case value=>exact⟨fun hl _=>h'.1 hl,h'.2.1,h'.2.2 ro iF⟩
     case skip=>exact⟨fun hl _=>h'.1 hl,h'.2.1,h'.2.2 ro iF⟩
     case defer=>exact⟨fun hl _=>h'.1 hl,h'.2.1,h'.2.2 ro iF⟩
     case enter=>exact⟨h'.1,CallsIn.mono h'.2 fun e JI he=>by cases e <;> first|exact⟨fun hl _=>he.1 hl,he.2.1,he.2.2 ro iF⟩|exact he.elim|(obtain⟨_,_,hq⟩:=he;exact hq.elim)⟩
     case row=>exact⟨h'.1,RowsIn.mono h'.2 fun _ _ he=>⟨fun hl _=>he.1 hl,he.2.1,he.2.2 ro iF⟩⟩
     case round=>exact⟨h'.1,RoundIn.mono h'.2 fun e JI he=>by cases e <;> first|exact⟨fun hl _=>he.1 hl,he.2.1,he.2.2 ro iF⟩|exact he.elim|(obtain⟨_,_,hq⟩:=he;exact hq.elim)⟩
   | halt x w'=>cases x <;> simp only[Oper.uponIn] at h' ⊢ <;> exact h'.elim
 · rename_i hw
   rw[if_neg hw] at h'
   have h':=h'.2
   exact⟨fun _ _=>trivial,fun hl _=>h'.1 hl,h'.2.1,h'.2.2 ro iF⟩
theorem XF (i:Nat){o:Oper}{fuel:Nat}{listed:Array Bool}{Hs:Hp}(hi:ops[i]?=some o)(hr:Region.ready .any ops listed = [i])
   (h:O P κ ops (uX P κ ops Q Hs late fuel listed i) [o] L H):E P κ ops Q Hs late (fuel+1) listed L H:=by
 refine⟨fun ro a w iF ok=>⟨fun h0=>absurd (hr ▸ h0) (by simp),fun j hj=>?_⟩⟩
 have:j=i:=by rw[hr] at hj;simpa using hj
 subst this
 exact GY j hi h iF ok
theorem ej (i j:Nat){o o':Oper}{fuel:Nat}{listed:Array Bool}{Hs:Hp}(hi:ops[i]?=some o)(hj:ops[j]?=some o')(hr:Region.ready .any ops listed = [i,j])
   (h:O P κ ops (uX P κ ops Q Hs late fuel listed i) [o] L H)(h':O P κ ops (uX P κ ops Q Hs late fuel listed j) [o'] L H):E P κ ops Q Hs late (fuel+1) listed L H:=by
 refine⟨fun ro a w iF ok=>⟨fun h0=>absurd (hr ▸ h0) (by simp),fun k hk=>?_⟩⟩
 have:k=i∨k=j:=by rw[hr] at hk;simpa using hk
 rcases this with rfl|rfl
 · exact GY k hi h iF ok
 · exact GY k hj h' iF ok
theorem uo (i j m:Nat){o o' o2:Oper}{fuel:Nat}{listed:Array Bool}{Hs:Hp}(hi:ops[i]?=some o)(hj:ops[j]?=some o')(hm:ops[m]?=some o2)(hr:Region.ready .any ops listed = [i,j,m])
   (h:O P κ ops (uX P κ ops Q Hs late fuel listed i) [o] L H)(h':O P κ ops (uX P κ ops Q Hs late fuel listed j) [o'] L H)(h2:O P κ ops (uX P κ ops Q Hs late fuel listed m) [o2] L H):E P κ ops Q Hs late (fuel+1) listed L H:=by
 refine⟨fun ro a w iF ok=>⟨fun h0=>absurd (hr ▸ h0) (by simp),fun k hk=>?_⟩⟩
 have:k=i∨k=j∨k=m:=by rw[hr] at hk;simpa using hk
 rcases this with rfl|rfl|rfl
 · exact GY k hi h iF ok
 · exact GY k hj h' iF ok
 · exact GY k hm h2 iF ok
theorem dC {fuel:Nat}{listed p7:Array Bool}{Hs:Hp}(hl:listed=p7)(h:E P κ ops Q Hs late fuel p7 L H):E P κ ops Q Hs late fuel listed L H:=hl ▸ h
theorem Cv {ι:Type}(dd:ι→Loc)(base:Loc)(Hf:ι→Hp){Hs:Hp}{fuel:Nat}{listed:Array Bool}(Qt:Nat)(p7:Array Bool)(_hb:Sub L base)
   (hx:(∀ g L' H',Sub L' (dd g)→Sub L' base→HSub H' (Hf g)→E P κ ops Q Hs late Qt p7 L' H')→E P κ ops Q Hs late fuel listed L H)
   (hJ:∀ g,E P κ ops Q Hs late Qt p7 (dd g++base) (Hf g)):E P κ ops Q Hs late fuel listed L H:=
 hx fun g _ _ hl XG hh=>⟨fun ro a w iF ok=>(hJ g).out ro a w iF ⟨⟨ok.fr.size,ok.fr.defers,fun i v hv=>by
   rw[GX] at hv
   split at hv
   · rename_i u hu;cases hv;exact ok.fr.get _ _ (hl _ _ hu)
   · exact ok.fr.get _ _ (XG _ _ hv)⟩,ok.st.sub hh⟩⟩
theorem yy {fuel:Nat}{listed:Array Bool}{Hs:Hp}{i:Nat}(hS:HSub H Hs)(h:E P κ ops Q Hs late fuel (listed.setIfInBounds i true) L H):X κ (uX P κ ops Q Hs late fuel listed i .normal) L H:=
 ⟨fun a w ok=>⟨fun _=>ok.st.sub hS,ok.st.sub HSub.nil,fun ro iF=>h.out ro a w iF ok⟩⟩
theorem cE {fuel:Nat}{listed:Array Bool}{Hs:Hp}{i:Nat}(hl:late i=true)(h:E P κ ops Q Hs late fuel (listed.setIfInBounds i true) L H):X κ (uX P κ ops Q Hs late fuel listed i .normal) L H:=
 ⟨fun a w ok=>⟨fun h0=>absurd (hl ▸ h0) (by simp),ok.st.sub HSub.nil,fun ro iF=>h.out ro a w iF ok⟩⟩
end
abbrev D (P:Program)(κ:Cx)(ops:Array Oper)(Q:gR)(Hs:Hp)(fuel:Nat)(listed:Array Bool)(L:Loc)(H:Hp):Prop:=E P κ ops Q Hs (fun _=>false) fuel listed L H
end
end Go.HL
namespace Go.HL
open Go
theorem cx {P:Program}{κ:Cx}{Q:gR}{L:Loc}{H:Hp}{c:Operand}{x y:Code}{p:Prop} [Decidable p](hc:ev L c=some (.bool (decide p)))(ht:p→C P κ Q x L H)(hf:¬ p→C P κ Q y L H):C P κ Q (.cond c x y) L H:=
 km hc (fun h=>ht (of_decide_eq_true h)) (fun h=>hf (of_decide_eq_false h))
theorem Yi {P:Program}{κ:Cx}{Q:gR}{L:Loc}{H:Hp}{c:Operand}{x y:Code}{p:Prop} [Decidable p](hc:ev L c=some (.bool (!decide p)))(ht:¬ p→C P κ Q x L H)(hf:p→C P κ Q y L H):C P κ Q (.cond c x y) L H:=
 km hc (fun h=>ht (by simpa using h)) (fun h=>hf (by simpa using h))
theorem yh {P:Program}{κ:Cx}{Q:gR}{L:Loc}{H:Hp}{c:Operand}{x y:Code}(hc:ev L c=some (.bool true))(h:C P κ Q x L H):C P κ Q (.cond c x y) L H:=
 km hc (fun _=>h) (fun h=>by cases h)
theorem qf {P:Program}{κ:Cx}{Q:gR}{L:Loc}{H:Hp}{c:Operand}{x y:Code}(hc:ev L c=some (.bool false))(h:C P κ Q y L H):C P κ Q (.cond c x y) L H:=
 km hc (fun h=>by cases h) (fun _=>h)
section
variable {P:Program}{κ:Cx}{L:Loc}{H:Hp}{ty t t':TypeId}{x y z:Operand}{v u:Value}
structure Cl (κ:Cx)(H:Hp)(b off:Nat)(v:Value):Prop where
 out:∀ w,St κ.w0 w κ.M H→w.cell? ⟨b,off,none⟩=some v
theorem lM {w:World}{b off:Nat}{c:Array Value}{t:TypeId}{f:Nat×Nat}(h:w.heap[b]?=some (.cells c t f)):w.cell? ⟨b,off,none⟩=c[off]?:=by
 simp[World.cell?,h]
theorem ba (hx:ev L x=some v):Step P κ (.move x) ty L H v:=⟨fun ρ w d pos af g hρ _=>by simp[execOp,hρ _ _ hx]⟩
theorem dF (hx:ev L x=some v):Step P κ (.assign x) ty L H v:=⟨fun ρ w d pos af g hρ _=>by simp[execOp,hρ _ _ hx]⟩
theorem u7 (hz:ev L z=some (.bool true))(hx:ev L x=some u):Step P κ (.pick z x y) ty L H u:=
 ⟨fun ρ w d pos af g hρ _=>by simp[execOp,hρ _ _ hx,hρ _ _ hz,asBool]⟩
theorem AX (hz:ev L z=some (.bool false))(hy:ev L y=some v):Step P κ (.pick z x y) ty L H v:=
 ⟨fun ρ w d pos af g hρ _=>by simp[execOp,hρ _ _ hy,hρ _ _ hz,asBool]⟩
theorem Qx {e:TypeId}{a:Option Addr}{n c:Nat} [TU P t (.slice e)](hx:ev L x=some (.slice a n c)):Step P κ (.call ⟨.builtin .len,#[x],#[t]⟩) ty L H (.int .i64 n):=
 ⟨fun ρ w d pos af g hρ _=>by simp[execOp,resolve,invoke,builtin,Builtin.len_,hρ _ _ hx,cS,goInt]⟩
section
variable {k:IntKind}{a b:Int}
theorem kW (hx:ev L x=some (.int .i64 a))(hy:ev L y=some (.int .i64 b))(h:-9223372036854775808≤a+b∧a+b≤9223372036854775807):Step P κ (.binOp .add t x y t') ty L H (.int .i64 (a+b)):=
 ⟨fun ρ w d pos af g hρ _=>by simp[execOp,hρ _ _ hx,hρ _ _ hy,eqGuard,binOp,Op.intArith,IntWalk.i64_in _ h]⟩
theorem AY (hx:ev L x=some (.int .i64 a))(hy:ev L y=some (.int .i64 b))(h:-9223372036854775808≤a-b∧a-b≤9223372036854775807):Step P κ (.binOp .sub t x y t') ty L H (.int .i64 (a-b)):=
 ⟨fun ρ w d pos af g hρ _=>by simp[execOp,hρ _ _ hx,hρ _ _ hy,eqGuard,binOp,Op.intArith,IntWalk.i64_in _ h]⟩
theorem vc (hx:ev L x=some (.int .i64 a))(hy:ev L y=some (.int .i64 b))(h:-9223372036854775808≤a*b∧a*b≤9223372036854775807):Step P κ (.binOp .mul t x y t') ty L H (.int .i64 (a*b)):=
 ⟨fun ρ w d pos af g hρ _=>by simp[execOp,hρ _ _ hx,hρ _ _ hy,eqGuard,binOp,Op.intArith,IntWalk.i64_in _ h]⟩
theorem Ef (hx:ev L x=some (.int k a))(hy:ev L y=some (.int k b)):Step P κ (.binOp .sub t x y t') ty L H (.int k (k.wrap (a-b))):=
 ⟨fun ρ w d pos af g hρ _=>by simp[execOp,hρ _ _ hx,hρ _ _ hy,eqGuard,binOp,Op.intArith]⟩
theorem VA (hx:ev L x=some (.int k a))(hy:ev L y=some (.int k b)):Step P κ (.binOp .mul t x y t') ty L H (.int k (k.wrap (a*b))):=
 ⟨fun ρ w d pos af g hρ _=>by simp[execOp,hρ _ _ hx,hρ _ _ hy,eqGuard,binOp,Op.intArith]⟩
theorem aF (hx:ev L x=some (.int k a))(hy:ev L y=some (.int k b)):Step P κ (.binOp .lss t x y t') ty L H (.bool (decide (a<b))):=
 ⟨fun ρ w d pos af g hρ _=>by simp[execOp,hρ _ _ hx,hρ _ _ hy,eqGuard,binOp,Op.intCmp]⟩
theorem rW (hx:ev L x=some (.int k a))(hy:ev L y=some (.int k b)):Step P κ (.binOp .leq t x y t') ty L H (.bool (decide (a≤b))):=
 ⟨fun ρ w d pos af g hρ _=>by simp[execOp,hρ _ _ hx,hρ _ _ hy,eqGuard,binOp,Op.intCmp]⟩
theorem eX (hx:ev L x=some (.int k a))(hy:ev L y=some (.int k b)):Step P κ (.binOp .gtr t x y t') ty L H (.bool (decide (b<a))):=
 ⟨fun ρ w d pos af g hρ _=>by simp[execOp,hρ _ _ hx,hρ _ _ hy,eqGuard,binOp,Op.intCmp]⟩
theorem iH (hx:ev L x=some (.int k a))(hy:ev L y=some (.int k b)):Step P κ (.binOp .geq t x y t') ty L H (.bool (decide (b≤a))):=
 ⟨fun ρ w d pos af g hρ _=>by simp[execOp,hρ _ _ hx,hρ _ _ hy,eqGuard,binOp,Op.intCmp]⟩
theorem bO (hx:ev L x=some (.int k a))(hy:ev L y=some (.int k b)):Step P κ (.binOp .eql t x y t') ty L H (.bool (decide (a=b))):=
 ⟨fun ρ w d pos af g hρ _=>by
   have:(a==b)=decide (a=b):=rfl
   simp[execOp,hρ _ _ hx,hρ _ _ hy,eqGuard,binOp,Op.intCmp,this]⟩
theorem eY (hx:ev L x=some (.int k a))(hy:ev L y=some (.int k b)):Step P κ (.binOp .neq t x y t') ty L H (.bool (decide (a≠b))):=
 ⟨fun ρ w d pos af g hρ _=>by
   have:(a != b)=decide (a≠b):=by by_cases h:a=b <;> simp[h]
   simp[execOp,hρ _ _ hx,hρ _ _ hy,eqGuard,binOp,Op.intCmp,this]⟩
theorem aT {c:Bool}(hx:ev L x=some (.bool c)):Step P κ (.unOp .not t x) ty L H (.bool (!c)):=
 ⟨fun ρ w d pos af g hρ _=>by simp[execOp,hρ _ _ hx,Op.unary]⟩
theorem cV {ds:TypeDesc}{k':IntKind} [TU P t ds] [TU P t' (.int k)](hx:ev L x=some (.int k' a)):Step P κ (.convert t t' x) ty L H (.int k (k.wrap a)):=
 ⟨fun ρ w d pos af g hρ _=>by simp[execOp,hρ _ _ hx,convert,cS,Conv.intToInt]⟩
theorem aQ {e s fL n bl off:Nat} [TU P t (.array n e)] [TI P e s fL](hx:ev L x=some (.pointer (some ⟨bl,off,none⟩)))(hy:ev L y=some (.int k a))(h:0≤a∧a<n) :
   Step P κ (.indexAddr t x y) ty L H (.pointer (some ⟨bl,off+a.toNat*s,none⟩)):=
 ⟨fun ρ w d pos af g hρ _=>by simp[execOp,hρ _ _ hx,hρ _ _ hy,Instr.indexAt,Instr.sureAddr,asIntOf,cS,bV,h,Addr.add_lit]⟩
end
theorem Qw {a:Addr}(hx:ev L x=some (.pointer (some a))):Step P κ (.nilCheck x) ty L H (.pointer (some a)):=
 ⟨fun ρ w d pos af g hρ _=>by simp[execOp,hρ _ _ hx]⟩
theorem qK {vs:Array Value}{i:Nat}(hx:ev L x=some (.tuple vs))(hv:vs[i]?=some v):Step P κ (.extract x i) ty L H v:=
 ⟨fun ρ w d pos af g hρ _=>by simp[execOp,hρ _ _ hx,Instr.extract,hv]⟩
structure Cls (κ:Cx)(H:Hp)(b off:Nat)(cs:List Value):Prop where
 out:∀ w,St κ.w0 w κ.M H→∀ j u,cs[j]?=some u→w.cell? ⟨b,off+j,none⟩=some u
end
end Go.HL
namespace Go.HL
open Go
def Ja (f:Nat×Nat)(off:Nat):Bool:=f.1≤off&&off<f.2
theorem sG {off:Nat}:Ja (0,0) off=false:=by simp[Ja]
theorem RH {a b off:Nat}(h:off<a):Ja (a,b) off=false:=by simp[Ja];omega
inductive aJ:Hp→Hp→Hp→Prop
 | all {S:Hp}:aJ S S []
 | here {S R:Hp}:aJ (S++R) S R
 | cons {p:Nat×Obj}{H S R:Hp}(h:aJ H S R):aJ (p::H) S (p::R)
 | app {T H S R:Hp}(h:aJ H S R):aJ (T++H) S (T++R)
 | nil {H:Hp}:aJ H [] H
 | one {p:Nat×Obj}{R:Hp}:aJ (p::R) [p] R
 | both {p:Nat×Obj}{H S R:Hp}(h:aJ H S R):aJ (p::H) (p::S) R
 | apps {T H S R:Hp}(h:aJ H S R):aJ (T++H) (T++S) R
 | JQ {H S R:Hp}(h:H.Perm (S++R)):aJ H S R
theorem aJ.perm {H S R:Hp}(h:aJ H S R):H.Perm (S++R):=by
 induction h with
 | all=>simp
 | here=>exact .refl _
 | cons _ ih=>exact (ih.cons _).trans List.perm_middle.symm
 | app _ ih=>exact (ih.append_left _).trans (by rw[← List.append_assoc,← List.append_assoc];exact List.perm_append_comm.append_right _)
 | nil=>exact .refl _
 | one=>exact .refl _
 | both _ ih=>exact ih.cons _
 | apps _ ih=>rw[List.append_assoc];exact ih.append_left _
 | JQ h=>exact h
theorem aJ.assoc {A B C' S R:Hp}(h:aJ (A++(B++C')) S R):aJ ((A++B)++C') S R:=by rw[List.append_assoc];exact h
theorem aJ.bR {p:Nat×Obj}{H R B R':Hp}(h1:aJ H [p] R)(h2:aJ R B R'):aJ H (p::B) R':=.JQ (h1.perm.trans (by simpa using h2.perm.cons p))
theorem aJ.cy {A H R B R':Hp}(h1:aJ H A R)(h2:aJ R B R'):aJ H (A++B) R':=.JQ (h1.perm.trans (by rw[List.append_assoc];exact h2.perm.append_left A))
section
variable {P:Program}{κ:Cx}{Q:gR}{L L':Loc}{H H':Hp}{ops:Array Oper}{rest:List Oper}{ty t t':TypeId}{d:Nat}{pos:String}{af:Array Edge}{v:Value}{x y:Operand}{dst:Option Tmp}
theorem uU {op:Op}(post:Value→Hp→Prop)(hn:Nat.blt d κ.n=true)
   (hr:∀ (ρ:Operand→Value) w pos af g,(∀ x u,ev L x=some u→ρ x=u)→St κ.w0 w κ.M H→∃ v w' H',(execOp ρ ⟨some d,op,ty,pos,af,g⟩).run P w = .ok (.value v) w'∧post v H'∧St κ.w0 w' κ.M H')
   (h:∀ v H',post v H'→O P κ ops Q rest ((d,v)::L) H'):O P κ ops Q (⟨some d,op,ty,pos,af,none⟩::rest) L H:=by
 refine⟨fun ro a w iF ok=>gg rfl ?_⟩
 obtain⟨v,w',H',ic,hp,st⟩:=hr a.eval w pos af none (fun x u hu=>ok.fr.ev hu) ok.st
 exact qM ic ((h v H' hp).out ro _ _ iF.tail ⟨ok.fr.put hn v,st⟩)
theorem Qo {op:Op}(hr:∀ (ρ:Operand→Value) w pos af g,(∀ x u,ev L x=some u→ρ x=u)→St κ.w0 w κ.M H→∃ w',(execOp ρ ⟨none,op,ty,pos,af,g⟩).run P w = .ok .skip w'∧St κ.w0 w' κ.M H')
   (h:O P κ ops Q rest L H'):O P κ ops Q (⟨none,op,ty,pos,af,none⟩::rest) L H:=by
 refine⟨fun ro a w iF ok=>gg rfl ?_⟩
 obtain⟨w',ic,st⟩:=hr a.eval w pos af none (fun x u hu=>ok.fr.ev hu) ok.st
 exact tf ic (h.out ro _ _ iF.tail ⟨ok.fr,st⟩)
def bP (l:List Value)(off:Nat)(vs:List Value):List Value:=l.take off++vs++l.drop (off+vs.length)
theorem heap_setCell {w:World}{b off:Nat}{l:List Value}{T:TypeId}{f:Nat×Nat}(hb:w.heap[b]?=some (.cells l.toArray T f))(v:Value) :
   (w.setCell ⟨b,off,none⟩ v).heap=w.heap.setIfInBounds b (.cells (l.set off v).toArray T f):=by
 have cH:=jD hb
 simp only[World.setCell]
 apply Array.ext_getElem?
 intro i
 rw[Array.getElem?_modify]
 by_cases e:b=i
 · subst e
   rw[if_pos rfl,hb,Array.getElem?_setIfInBounds_self_of_lt cH]
   simp
 · rw[if_neg e,Array.getElem?_setIfInBounds_ne e]
theorem eV {b:Nat}{T:TypeId}{f:Nat×Nat}:∀ (vs:List Value)(off i:Nat)(l:List Value)(w:World),w.heap[b]?=some (.cells l.toArray T f)→off+i+vs.length≤l.length→(∀ v∈vs,v.oneCell'=true) →
   (∀ j,j<vs.length→Ja f (off+i+j)=false) →
   ∃ w',(storeCells ⟨b,off,none⟩ vs i).run P w = .ok () w'∧w'.heap=w.heap.setIfInBounds b (.cells (bP l (off+i) vs).toArray T f)∧w'.os=w.os∧w'.tape=w.tape∧w'.output=w.output
 | [],off,i,l,w,hb,_,_,_=>by
   refine⟨w,rfl,?_,rfl,rfl,rfl⟩
   simp only[bP,List.append_nil,List.length_nil,Nat.add_zero,List.take_append_drop]
   apply Array.ext_getElem?
   intro j
   by_cases e:b=j
   · subst e;rw[Array.getElem?_setIfInBounds_self_of_lt (jD hb),hb]
   · rw[Array.getElem?_setIfInBounds_ne e]
 | v::vs,off,i,l,w,hb,hl,h1,hf=>by
   simp only[List.length_cons] at hl
   have hc:w.cell? ⟨b,off+i,none⟩=some l[off+i]:=by rw[lM hb];simp
   have hz:w.frozen? ⟨b,off+i,none⟩=false:=by
     have:=hf 0 (by simp)
     simp only[Nat.add_zero,Ja] at this
     simp only[World.frozen?,hb]
     exact this
   have hs:(store ((⟨b,off,none⟩:Addr).add i) v).run P w = .ok () (w.setCell ⟨b,off+i,none⟩ v):=by
     rw[Addr.add_lit,run_store P w _ v _ (h1 v (by simp)),hc]
     simp[hz]
   have H6:(w.setCell ⟨b,off+i,none⟩ v).heap[b]?=some (.cells (l.set (off+i) v).toArray T f):=by
     rw[heap_setCell hb,Array.getElem?_setIfInBounds_self_of_lt (jD hb)]
   obtain⟨w',hr,hh,ho,ht,hp⟩:=eV vs off (i+1) (l.set (off+i) v) _ H6 (by simp;omega) (fun u hu=>h1 u (by simp[hu])) (fun j hj=>by have:=hf (j+1) (by simp;omega);rwa [show off+i+(j+1)=off+(i+1)+j by omega] at this)
   refine⟨w',?_,?_,ho,ht,hp⟩
   · simp only[storeCells,Sem.run_bind,hs,Result.andThen_ok];exact hr
   · rw[hh,heap_setCell hb,Array.setIfInBounds_setIfInBounds]
     congr 3
     simp only[bP,List.length_cons]
     rw[show off+(i+1)=off+i+1 by omega,List.take_add_one,List.getElem?_set_self (by omega),List.take_set_of_le (by omega),List.drop_set_of_lt (by omega),show off+i+1+vs.length=off+i+(vs.length+1) by omega]
     simp
theorem CZ (l:List Value)(off:Nat)(v:Value)(h:off<l.length):bP l off [v]=l.set off v:=by
 simp only[bP,List.length_singleton]
 rw[List.set_eq_take_append_cons_drop,if_pos h]
 simp
theorem C0 (l vs:List Value)(h:vs.length=l.length):bP l 0 vs=vs:=by
 simp[bP,h]
theorem p6 {w:World}{b off:Nat}{l:List Value}{T:TypeId}{f:Nat×Nat}{s fL:Nat} [TI P t s fL](cs:List Value)(hv:v.cells=cs.toArray)(hs:cs.length=s)(hb:w.heap[b]?=some (.cells l.toArray T f))(hl:off+cs.length≤l.length)
   (h1:∀ v∈cs,v.oneCell'=true)(hf:∀ j,j<cs.length→Ja f (off+j)=false) :
   ∃ w',(Instr.storeAt t (.pointer (some ⟨b,off,none⟩)) v).run P w = .ok () w'∧w'.heap=w.heap.setIfInBounds b (.cells (bP l off cs).toArray T f)∧w'.os=w.os∧w'.tape=w.tape∧w'.output=w.output:=by
 obtain⟨w',hr,h⟩:=eV (P:=P) cs off 0 l w hb (by simpa using hl) h1 (by simpa using hf)
 refine⟨w',?_,by simpa using h⟩
 simp[Instr.storeAt,Instr.sureAddr,storeVar,bV,hv,hs,hr]
theorem rp (h:v.oneCell'=true):v.cells = [v].toArray:=by cases v <;> simp_all [Value.cells,Value.oneCell']
theorem bg {b off:Nat}{l:List Value}{T:TypeId}{f:Nat×Nat}{fL:Nat} [TI P t 1 fL](hx:ev L x=some (.pointer (some ⟨b,off,none⟩)))(hy:ev L y=some v)(h1:v.oneCell'=true)
   (hu:pW H b (.cells l.toArray T f) (.cells (l.set off v).toArray T f) H')(hl:off<l.length)(hf:Ja f off=false)(h:O P κ ops Q rest L H'):O P κ ops Q (⟨none,.store t x y,ty,pos,af,none⟩::rest) L H:=by
 refine Qo (fun ρ w pos af g hρ st=>?_) h
 have hfz:∀ j,j < [v].length→Ja f (off+j)=false:=by
   intro j hj
   have:j=0:=by simpa using hj
   subst this;exact hf
 obtain⟨w',hr,hh,ho,ht,hp⟩:=p6 (P:=P) (t:=t) (off:=off) [v] (rp h1) rfl (st.has _ _ hu.mem) (by simp;omega) (by simpa using h1) hfz
 refine⟨w',by simp[execOp,hρ _ _ hx,hρ _ _ hy,hr],st.upd hu (by rw[hh,CZ _ _ _ hl]) ho ht hp⟩
theorem fK {b off s:Nat}{l cs:List Value}{T:TypeId}{f:Nat×Nat}{fL:Nat} [TI P t s fL](hx:ev L x=some (.pointer (some ⟨b,off,none⟩)))(hy:ev L y=some (.agg cs.toArray))(hs:cs.length=s)(h1:∀ v∈cs,v.oneCell'=true)
   (hu:pW H b (.cells l.toArray T f) (.cells (bP l off cs).toArray T f) H')(hl:off+cs.length≤l.length)(hf:∀ j,j<cs.length→Ja f (off+j)=false)(h:O P κ ops Q rest L H'):O P κ ops Q (⟨none,.store t x y,ty,pos,af,none⟩::rest) L H:=by
 refine Qo (fun ρ w pos af g hρ st=>?_) h
 obtain⟨w',hr,hh,ho,ht,hp⟩:=p6 (P:=P) (t:=t) (off:=off) (v:=.agg cs.toArray) cs rfl hs (st.has _ _ hu.mem) hl h1 hf
 refine⟨w',by simp[execOp,hρ _ _ hx,hρ _ _ hy,hr],st.upd hu hh ho ht hp⟩
theorem JR {b s:Nat}{l cs:List Value}{T:TypeId}{fL:Nat} [TI P t s fL](hx:ev L x=some (.pointer (some ⟨b,0,none⟩)))(hy:ev L y=some (.agg cs.toArray))(hs:cs.length=s)(hl:l.length=s)(h1:∀ v∈cs,v.oneCell'=true)
   (hu:pW H b (.cells l.toArray T (0,0)) (.cells cs.toArray T (0,0)) H')(h:O P κ ops Q rest L H'):O P κ ops Q (⟨none,.store t x y,ty,pos,af,none⟩::rest) L H:=by
 have e:bP l 0 cs=cs:=C0 _ _ (by omega)
 rw[← e] at hu
 exact fK (off:=0) (l:=l) hx hy hs h1 hu (by omega) (fun _ _=>sG) h
theorem Qp {op:Op}{l:List Value}{T:TypeId}{v:Nat→Value}(hn:Nat.blt d κ.n=true)(hr:∀ (ρ:Operand→Value) w pos af g,(∀ x u,ev L x=some u→ρ x=u)→St κ.w0 w κ.M H →
   (execOp ρ ⟨some d,op,ty,pos,af,g⟩).run P w = .ok (.value (v w.heap.size)) (w.alloc (.cells l.toArray T)))(h:∀ b,O P κ ops Q rest ((d,v b)::L) ((b,.cells l.toArray T (0,0))::H)) :
   O P κ ops Q (⟨some d,op,ty,pos,af,none⟩::rest) L H:=
 uU (fun u H'=>∃ b,u=v b∧H'=(b,.cells l.toArray T (0,0))::H) hn
   (fun ρ w pos af g hρ st=>⟨_,_,_,hr ρ w pos af g hρ st,⟨_,rfl,rfl⟩,st.alloc _⟩)
   (fun u H' ⟨b,hu,hH⟩=>by subst hu;subst hH;exact h b)
theorem aB {z:Value}{l:List Value} [TZ P t z](hz:z.cells=l.toArray)(hn:Nat.blt d κ.n=true)(h:∀ b,O P κ ops Q rest ((d,.pointer (some ⟨b,0,none⟩))::L) ((b,.cells l.toArray t (0,0))::H)) :
   O P κ ops Q (⟨some d,.alloc t,ty,pos,af,none⟩::rest) L H:=
 Qp (v:=fun b=>.pointer (some ⟨b,0,none⟩)) hn (fun ρ w pos af g hρ st=>by simp[execOp,Instr.alloc,kQ,newVar,newRow,hz]) h
theorem cB {l:List Value}(hx:ev L x=some v)(hz:v.cells=l.toArray)(hn:Nat.blt d κ.n=true)(h:∀ b,O P κ ops Q rest ((d,.pointer (some ⟨b,0,none⟩))::L) ((b,.cells l.toArray t (0,0))::H)) :
   O P κ ops Q (⟨some d,.box t x,ty,pos,af,none⟩::rest) L H:=
 Qp (v:=fun b=>.pointer (some ⟨b,0,none⟩)) hn (fun ρ w pos af g hρ st=>by simp[execOp,Instr.box,newVar,newRow,hρ _ _ hx,hz]) h
theorem aX {f:FuncId}{fo:Operand}{xs:Array Operand}{ts:Array TypeId}{vs:List Value}{pre:World→Prop}{S R:Hp}{post:Value→Hp→Prop}
   (hc:Fn P f vs pre S post)(hf:ev L fo=some (.func (.func f) #[] #[]))(hx:xs.toList.map (ev L)=vs.map some)(hn:Nat.blt d κ.n=true)(gS:aJ H S R)(hp:∀ w,St κ.w0 w κ.M H→pre w)
   (h:∀ v S',post v S'→O P κ ops Q rest ((d,v)::L) (S'++R)):O P κ ops Q (⟨some d,.call ⟨.value fo,xs,ts⟩,ty,pos,af,none⟩::rest) L H:=by
 refine⟨fun ro a w hr ok=>gg rfl ?_⟩
 have st:=ok.st.perm gS.perm
 refine AJ (AM w (fun x u hu=>ok.fr.ev hu) hf hx hc.enters) ((hc.calls w (hp w ok.st) st.zb).mono fun e w' iG=>?_)
 obtain⟨v,S',rfl,hq,dV⟩:=iG.out
 exact⟨v,rfl,(h v S' hq).out ro _ _ hr.tail ⟨ok.fr.put hn v,st.comp dV⟩⟩
end
end Go.HL
namespace Go.HL
open Go
class eB {α:Type}(E:α→List Value)(k:outParam Nat):Prop where
 len:∀ x,(E x).length=k
 one:∀ x,∀ v∈E x,v.oneCell'=true
def flat {α:Type}(E:α→List Value)(xs:List α):List Value:=xs.flatMap E
theorem cD {α:Type}(E:α→List Value){k:Nat} [h:eB E k](xs:List α):(flat E xs).length=xs.length*k:=by
 induction xs with
 | nil=>simp[flat]
 | cons x xs ih=>simp only[flat,List.flatMap_cons,List.length_append,h.len x,List.length_cons] at ih ⊢;rw[ih,Nat.succ_mul,Nat.add_comm]
theorem fH {α:Type}(E:α→List Value)(xs ys:List α):flat E (xs++ys)=flat E xs++flat E ys:=by simp[flat]
theorem dH {α:Type}(E:α→List Value){k:Nat} [h:eB E k](xs:List α):∀ v∈flat E xs,v.oneCell'=true:=by
 intro v hv
 obtain⟨x,_,hx⟩:=List.mem_flatMap.1 hv
 exact h.one x v hx
theorem kM {α:Type}(E:α→List Value){k:Nat} [h:eB E k](xs:List α){i:Nat}{x:α}(hi:xs[i]?=some x){f:Nat}(hf:f<k):(flat E xs)[i*k+f]?=(E x)[f]?:=by
 induction xs generalizing i with
 | nil=>simp at hi
 | cons y xs ih=>
   cases i with
   | zero=>
     simp at hi;subst hi
     simp only[flat,List.flatMap_cons,Nat.zero_mul,Nat.zero_add]
     rw[List.getElem?_append_left (by rw[h.len];exact hf)]
   | succ i=>
     simp at hi
     have:=ih hi
     simp only[flat,List.flatMap_cons] at this ⊢
     rw[List.getElem?_append_right (by rw[h.len,Nat.succ_mul];omega),h.len,Nat.succ_mul,← this]
     congr 1;omega
theorem I8 {α:Type}(E:α→List Value){k:Nat} [h:eB E k](xs:List α){i:Nat}(hi:i<xs.length)(y:α):flat E (xs.set i y)=bP (flat E xs) (i*k) (E y):=by
 induction xs generalizing i with
 | nil=>simp at hi
 | cons x xs ih=>
   cases i with
   | zero=>
     simp only[flat,List.set_cons_zero,List.flatMap_cons,bP,Nat.zero_mul,List.take_zero,List.nil_append,Nat.zero_add]
     rw[h.len y,← h.len x,List.drop_left]
   | succ i=>
     have:=ih (i:=i) (by simpa using hi)
     simp only[flat,List.set_cons_succ,List.flatMap_cons,bP] at this ⊢
     rw[this,Nat.succ_mul,show i*k+k=(E x).length+i*k by rw[h.len];omega,List.take_length_add_append,show (E x).length+i*k+(E y).length=(E x).length+(i*k+(E y).length) by omega,List.drop_length_add_append]
     simp
def CB:Option Addr→Nat|some a=>a.block|none=>0
def I9:Option Addr→Nat|some a=>a.off|none=>0
def kN:Value→Nat | .slice a _ _=>CB a|_=>0
def nJ:Value→Nat | .slice a _ _=>I9 a|_=>0
def ea (v:Value)(j:Nat):Addr:=⟨kN v,nJ v+j,none⟩
theorem yE (v:Value)(j f:Nat):(ea v j).add f=ea v (j+f):=by
 rw[show ea v j=⟨kN v,nJ v+j,none⟩ from rfl,Addr.add_lit];simp[ea,Nat.add_assoc]
structure eA (v:Value)(n:Nat):Prop where
 out:∃ a c,v = .slice a n c∧n≤c∧(a=none→c=0)∧(∀ A,a=some A→n≠0→A.spot=none)
 le:n≤140737488355328
theorem eA.nil:eA (.slice none 0 0) 0:=⟨⟨none,0,rfl,Nat.le_refl _,fun _=>rfl,fun _ h=>by cases h⟩,by decide⟩
theorem eA.none {n m c:Nat}(h:eA (.slice none n c) m):m=0:=by
 obtain⟨⟨a',c',hv,hn,h0,_⟩,_⟩:=h
 simp only[Value.slice.injEq] at hv
 obtain⟨rfl,rfl,rfl⟩:=hv
 have:=h0 rfl;omega
theorem eA.cases {v:Value}{n:Nat}(h:eA v n):(n=0∧∃ a c,v = .slice a 0 c)∨(n≠0∧∃ c,v = .slice (some (ea v 0)) n c∧n≤c):=by
 obtain⟨⟨a,c,rfl,hn,h0,hs⟩,_⟩:=h
 by_cases hz:n=0
 · subst hz;exact .inl ⟨rfl,_,_,rfl⟩
 · refine .inr ⟨hz,?_⟩
   cases a with
   | none=>have:=h0 rfl;omega
   | some A=>
     have:=hs A rfl hz
     obtain⟨b,o,s⟩:=A
     simp only at this;subst this
     exact⟨c,rfl,hn⟩
structure Rd {α:Type}(E:α→List Value)(w:World)(v:Value)(xs:List α):Prop where
 sl:eA v xs.length
 get:∀ (j:Nat) u,(flat E xs)[j]?=some u→w.cell? (ea v j)=some u
theorem Rd.nil {α:Type}(E:α→List Value)(w:World):Rd E w (.slice none 0 0) ([]:List α):=⟨.nil,fun _ _ h=>by simp[flat] at h⟩
structure cq {α:Type}(E:α→List Value)(κ:Cx)(H:Hp)(v:Value)(xs:List α):Prop where
 out:∀ w,St κ.w0 w κ.M H→Rd E w v xs
structure NL (κ:Cx)(H:Hp)(A:Addr)(u:Value):Prop where
 out:∀ w,St κ.w0 w κ.M H→w.cell? A=some u
structure CC (κ:Cx)(H:Hp)(A:Addr)(cs:List Value):Prop where
 out:∀ w,St κ.w0 w κ.M H→∀ j u,cs[j]?=some u→w.cell? (A.add j)=some u
def ew (M:List Nat)(v:Value):Prop:=∀ a n c,v = .slice (some a) n c→n≠0→a.block∉M
theorem ew.nil {v:Value}:ew [] v:=fun _ _ _ _ _=>by simp
theorem Rd.to {α:Type}{E:α→List Value}{w w':World}{v:Value}{xs:List α}(h:Rd E w v xs)(hw:xs≠[]→w'.heap[kN v]?=w.heap[kN v]?):Rd E w' v xs:=by
 refine⟨h.sl,fun j u hu=>?_⟩
 have h1:=h.get j u hu
 have dM:xs≠[]:=by intro e;subst e;simp[flat] at hu
 have h2:=hw dM
 unfold World.cell? at h1 ⊢
 rw[show (ea v j).block=kN v from rfl] at h1 ⊢
 rw[h2];exact h1
theorem cq.old {α:Type}{E:α→List Value}{k:Nat} [_he:eB E k]{κ:Cx}{H:Hp}{v:Value}{xs:List α}(h:Rd E κ.w0 v xs)(ha:ew κ.M v):cq E κ H v xs:=by
 refine⟨fun w st=>?_⟩
 by_cases hk:flat E xs = []
 · exact⟨h.sl,fun j u hu=>by rw[hk] at hu;simp at hu⟩
 refine h.to fun dM=>?_
 rcases h.sl.cases with ⟨hn,_⟩|⟨_,c,hv,_⟩
 · exact absurd (List.eq_nil_of_length_eq_zero hn) dM
 · have hb:kN v<κ.w0.heap.size:=by
     obtain⟨u,us,hu⟩:=List.exists_cons_of_ne_nil hk
     have:=h.get 0 u (by rw[hu];rfl)
     exact block_lt_of_cell this
   exact st.old _ hb (ha _ _ _ hv (fun e=>dM (List.eq_nil_of_length_eq_zero e)))
section
variable {α:Type}{E:α→List Value}{k:Nat} [he:eB E k]{κ:Cx}{H:Hp}{v:Value}{xs:List α}
theorem cq.iU (h:cq E κ H v xs){i f:Nat}{x:α}{u:Value}(hx:xs[i]?=some x)(hf:f<k)(hu:(E x)[f]?=some u):NL κ H (ea v (i*k+f)) u:=
 ⟨fun w st=>(h.out w st).get _ _ (by rw[kM E xs hx hf];exact hu)⟩
theorem cq.aO (h:cq E κ H v xs){i:Nat}{x:α}(hx:xs[i]?=some x):CC κ H (ea v (i*k)) (E x):=by
 refine⟨fun w st j u hu=>?_⟩
 have hj:j<k:=by
   rw[← he.len x]
   rcases Nat.lt_or_ge j (E x).length with h'|h'
   · exact h'
   · rw[List.getElem?_eq_none h'] at hu;cases hu
 rw[yE]
 exact (h.out w st).get _ _ (by rw[kM E xs hx hj];exact hu)
end
theorem yq {m:Nat}{fr:Nat×Nat}(h:m≤fr.1∨fr=(0,0)){off:Nat}(ho:off<m):Ja fr off=false:=by
 rcases h with h|rfl
 · obtain⟨a,b⟩:=fr
   exact RH (by simp only at h;omega)
 · exact sG
inductive aG {α:Type}(E:α→List Value)(k:Nat)(T:TypeId):Value→List α→Hp→Prop
 | nil:aG E k T (.slice none 0 0) [] []
 | yo {b c:Nat}{xs:List α}{zs:List Value}{fr:Nat×Nat}(hc:c*k≤(flat E xs++zs).length)(hn:xs.length≤c)(hm:xs.length≤140737488355328)(h1:∀ v∈zs,v.oneCell'=true)(hf:c*k≤fr.1∨fr=(0,0)) :
     aG E k T (.slice (some ⟨b,0,none⟩) xs.length c) xs [(b,.cells (flat E xs++zs).toArray T fr)]
theorem aG.sl {α:Type}{E:α→List Value}{k:Nat}{T:TypeId}{v:Value}{xs:List α}{S:Hp}(h:aG E k T v xs S):eA v xs.length:=by
 cases h with
 | nil=>exact .nil
 | yo hc hn hm h1 hf=>exact⟨⟨_,_,rfl,hn,(fun h=>by cases h),(fun A hA _=>by cases hA;rfl)⟩,hm⟩
section
variable {α:Type}{E:α→List Value}{k:Nat}{T:TypeId}{v:Value}{xs:List α}{S:Hp}{κ:Cx}{H:Hp}
def c4 (S H:Hp):Prop:=∀ p∈S,p∈H
theorem aG.rd (h:aG E k T v xs S){w:World}(hw:∀ b o,(b,o)∈S→w.heap[b]?=some o):Rd E w v xs:=by
 refine⟨h.sl,fun j u hu=>?_⟩
 cases h with
 | nil=>simp[flat] at hu
 | yo hc hn hm h1 hf=>
   rename_i b c zs fr
   rw[show ea (.slice (some ⟨b,0,none⟩) xs.length c) j=⟨b,j,none⟩ by simp[ea,kN,nJ,CB,I9],lM (hw b _ List.mem_cons_self)]
   simp only[List.getElem?_toArray]
   rw[List.getElem?_append_left]
   · exact hu
   · rcases Nat.lt_or_ge j (flat E xs).length with h'|h'
     · exact h'
     · rw[List.getElem?_eq_none h'] at hu;cases hu
theorem aG.aU (h:aG E k T v xs S)(hs:c4 S H):cq E κ H v xs:=⟨fun _ st=>h.rd fun b o hm=>st.has b o (hs _ hm)⟩
end
end Go.HL
namespace Go.HL
open Go
structure Src (P:Program)(w:World)(k:Nat)(u:Value)(m:Nat)(cs:List Value):Prop where
 len:∀ w',(Builtin.lenOf u).run P w' = .ok m w'
 cells:∀ w',w'.heap=w.heap→(Builtin.firstCells k m u).run P w' = .ok cs.toArray w'
 size:cs.length=m*k
 one:∀ v∈cs,v.oneCell'=true
theorem rG {w w':World}(h:w'.heap=w.heap)(a:Addr):w'.cell? a=w.cell? a:=by simp[World.cell?,h]
theorem Src.IH {α:Type}{E:α→List Value}{k:Nat} [he:eB E k]{P:Program}{w:World}{u:Value}{ys:List α}(h:Rd E w u ys):Src P w k u ys.length (flat E ys):=by
 rcases h.sl.cases with ⟨hn,a,c,hv⟩|⟨_,c,hu,_⟩
 · have:ys = []:=List.eq_nil_of_length_eq_zero hn
   subst this;subst hv
   exact⟨fun w'=>by simp[Builtin.lenOf],fun w' _=>by cases a <;> simp[Builtin.firstCells,flat,loadCells,loadCellsFrom],by simp[flat],by simp[flat]⟩
 · refine⟨fun w'=>by rw[hu];simp[Builtin.lenOf],fun w' hw=>?_,cD E ys,dH E ys⟩
   have h1:∀ j v,(flat E ys)[j]?=some v→w'.cell? ((ea u 0).add j)=some v:=fun j v hv=>by
     rw[rG hw,yE,Nat.zero_add];exact h.get j v hv
   have:=run_firstCells_some (P:=P) w' k ys.length (ea u 0) ys.length c (flat E ys) (cD E ys) h1
   rw[← hu] at this
   exact this
def KN (d:TypeDesc):Prop:=(∃ e,d = .slice e)∨d = .string
theorem A5 {z:Array Value}{n:Nat}(h1:z.toList.all (·.oneCell')=true):∀ v∈(Builtin.zeroCells z n).toList,v.oneCell'=true:=by
 intro v hv
 simp only[Builtin.zeroCells,Array.toList_map,List.mem_map] at hv
 obtain⟨i,hi,rfl⟩:=hv
 have hp:0<z.size:=by
   rcases Nat.eq_zero_or_pos z.size with h|h
   · simp[h] at hi
   · exact h
 have cH:i % z.size<z.size:=Nat.mod_lt _ hp
 rw[getElem!_pos z _ cH]
 exact List.all_eq_true.1 h1 _ (by simp)
theorem DK {α:Type}{E:α→List Value}{k:Nat} [he:eB E k]{P:Program}{T t t' ty fL:Nat}{d':TypeDesc}{z:Value}{v u:Value}{xs ys:List α}{S:Hp}{w:World}
   [tu:TU P t (.slice T)] [XP:TU P t' d'] [ti:TI P T k fL] [tz:TZ P T z](GQ:KN d')(J6:z.cells.size=k)(J7:z.cells.toList.all (·.oneCell')=true)
   (ho:aG E k T v xs S)(hw:∀ b o,(b,o)∈S→w.heap[b]?=some o)(hs:Src P w k u ys.length (flat E ys))(hb:(xs.length+ys.length)*fL≤140737488355328)(AW:xs.length+ys.length≤140737488355328) :
   ∃ v' w' S',(Builtin.append_ #[t,t'] ty #[v,u]).run P w = .ok v' w'∧aG E k T v' (xs++ys) S'∧(∀ w0 M R,St w0 w M (S++R)→St w0 w' M (S'++R)):=by
 have mg:∀ w:World,(underlying t').run P w = .ok d' w:=fun w=>cS w
 obtain⟨i,hi,xJ,H7⟩:=ti.out
 obtain⟨i',z0,hz⟩:=tz.out
 rw[hi] at z0;cases z0
 have grow:∀ (old:Nat)(aet:Sem (Array Value)),old<xs.length+ys.length→∃ S',aG E k T (.slice (some ⟨w.heap.size,0,none⟩) (xs.length+ys.length) (grownCap w (xs.length+ys.length) old T)) (xs++ys) S' ∧
     (∀ w0 M R,St w0 w M (S++R)→St w0 (w.drew.alloc (.cells ((flat E xs).toArray++(flat E ys).toArray++Builtin.zeroCells z.cells (grownCap w (xs.length+ys.length) old T-(xs.length+ys.length))) T)) M (S'++R)):=by
   intro old _ mJ
   have KO:=grownCap_ge w (xs.length+ys.length) old T
   have qJ:(flat E xs).toArray++(flat E ys).toArray++Builtin.zeroCells z.cells (grownCap w (xs.length+ys.length) old T-(xs.length+ys.length)) =
       (flat E (xs++ys)++(Builtin.zeroCells z.cells (grownCap w (xs.length+ys.length) old T-(xs.length+ys.length))).toList).toArray:=by
     apply Array.ext';simp[fH]
   rw[qJ]
   refine⟨[(w.heap.size,.cells (flat E (xs++ys)++(Builtin.zeroCells z.cells (grownCap w (xs.length+ys.length) old T-(xs.length+ys.length))).toList).toArray T (0,0))],?_,
     fun w0 M R st=>(St.alloc (st.sub (HSub.JG (HSub.refl R))).drew _)⟩
   have:=aG.yo (E:=E) (k:=k) (T:=T) (b:=w.heap.size) (c:=grownCap w (xs.length+ys.length) old T) (xs:=xs++ys) (zs:=(Builtin.zeroCells z.cells (grownCap w (xs.length+ys.length) old T-(xs.length+ys.length))).toList)
     (fr:=(0,0)) (Nat.le_of_eq (Eq.symm (by simp only[List.length_append,cD,Array.length_toList,size_zeroCells,J6,← Nat.add_mul];congr 1;omega))) (by simpa using KO) (by simpa using AW) (A5 J7) (.inr rfl)
   simpa using this
 cases ho with
 | nil=>
   by_cases hy:ys.length=0
   · have:ys = []:=List.eq_nil_of_length_eq_zero hy
     subst this;refine⟨.slice none 0 0,w,[],?_,.nil,fun _ _ _ st=>st⟩
     have h1:=hs.cells w rfl
     simp only[List.length_nil,flat,List.flatMap_nil] at h1
     have h2:=hs.len
     rcases GQ with ⟨e',rfl⟩|rfl <;> simp[Builtin.append_,cS,bV,mg,h2,h1]
   · obtain⟨S',mJ,dV⟩:=grow 0 (pure #[]) (by simp;omega)
     simp only[List.length_nil,Nat.zero_add] at mJ dV hb AW
     refine⟨_,_,S',?_,mJ,dV⟩
     have h1:=hs.cells w.drew rfl
     have h2:=hs.len
     have Dv:¬ (9223372036854775807<(ys.length:Int)):=by omega
     have wO:flat E ([]:List α) = []:=rfl
     have Dw:¬ (281474976710656<Builtin.nextslicecap ys.length 0*i.bytes):=by rw[nextslicecap_zero (by omega),H7];omega
     rcases GQ with ⟨e',rfl⟩|rfl <;> simp[Builtin.append_,cS,bV,mg,h2,h1,hy,Dv,Dw,Question.forced,typeInfo,hi,zeroValue,hz,run_firstCells_none,newRow,grownCap,wO]
 | yo hc hn hm h1 hf=>
   rename_i b c zs fr
   by_cases qk:xs.length+ys.length≤c
   · have qJ:=hs.cells w rfl
     have hl:=hs.len
     have KP:xs.length*k+0+(flat E ys).length≤c*k:=by
       rw[cD,Nat.add_zero,← Nat.add_mul];exact Nat.mul_le_mul_right _ qk
     have KQ:=Nat.le_trans KP hc
     obtain⟨w',hr,hh,qL,yp,wa⟩:=eV (P:=P) (flat E ys) (xs.length*k) 0 (flat E xs++zs) w (hw _ _ List.mem_cons_self) KQ (dH E ys)
       (fun j hj=>yq hf (by omega))
     refine⟨.slice (some ⟨b,0,none⟩) (xs.length+ys.length) c,w',[(b,.cells (bP (flat E xs++zs) (xs.length*k+0) (flat E ys)).toArray T fr)],?_,?_,fun w0 M R st=>St.put (R:=R) st hh qL yp wa⟩
     · rcases GQ with ⟨e',rfl⟩|rfl <;> simp[Builtin.append_,cS,bV,mg,hl,qJ,qk,Addr.add_lit,hr]
     · have e:bP (flat E xs++zs) (xs.length*k+0) (flat E ys)=flat E (xs++ys)++zs.drop (flat E ys).length:=by
         simp only[bP,Nat.add_zero]
         rw[← cD E xs,List.take_left,fH,List.drop_length_add_append]
       have:=aG.yo (E:=E) (k:=k) (T:=T) (b:=b) (c:=c) (xs:=xs++ys) (zs:=zs.drop (flat E ys).length) (fr:=fr)
         (by rw[← e];simp only[bP,List.length_append,List.length_take,List.length_drop] at hc KQ ⊢;omega) (by simpa using qk) (by simpa using AW) (fun v hv=>h1 v (List.mem_of_mem_drop hv)) hf
       rw[← e] at this
       simpa using this
   · obtain⟨S',mJ,dV⟩:=grow c (pure #[]) (by omega)
     refine⟨_,_,S',?_,mJ,dV⟩
     have qJ:=hs.cells w.drew rfl
     have hl:=hs.len
     have Dv:¬ (9223372036854775807<(xs.length:Int)+(ys.length:Int)):=by omega
     have Dw:¬ (281474976710656<Builtin.nextslicecap (xs.length+ys.length) c*i.bytes):=by
       have:=growslice_fits (need:=xs.length+ys.length) (old:=c) (bytes:=i.bytes) (by omega) (by rw[H7];exact hb)
       omega
     have hfo:=run_firstCells_some (P:=P) w.drew k xs.length ⟨b,0,none⟩ xs.length c (flat E xs) (cD E xs) (fun j u hu=>by
       rw[Addr.add_lit,rG (w':=w.drew) (w:=w) rfl,lM (f:=fr) (hw _ _ List.mem_cons_self),List.getElem?_toArray,Nat.zero_add,List.getElem?_append_left]
       · exact hu
       · rcases Nat.lt_or_ge j (flat E xs).length with h'|h'
         · exact h'
         · rw[List.getElem?_eq_none h'] at hu;cases hu)
     rcases GQ with ⟨e',rfl⟩|rfl <;> simp[Builtin.append_,cS,bV,mg,hl,qJ,qk,Dv,Dw,Question.forced,typeInfo,hi,zeroValue,hz,hfo,newRow,grownCap] <;> (congr 2;apply Array.ext';simp[List.append_assoc])
section
variable {P:Program}{κ:Cx}{Q:gR}{L L':Loc}{H H':Hp}{ops:Array Oper}{rest:List Oper}{ty t t':TypeId}{d:Nat}{pos:String}{af:Array Edge}{v u:Value}{x y:Operand}{α:Type}{E:α→List Value}{k:Nat}
theorem zG [he:eB E k]{T fL:Nat}{d':TypeDesc}{z:Value}{xs ys:List α}{S R:Hp} [tu:TU P t (.slice T)] [XP:TU P t' d'] [ti:TI P T k fL] [tz:TZ P T z]
   (hs:∀ w,St κ.w0 w κ.M H→Src P w k u ys.length (flat E ys))(ho:aG E k T v xs S)(GQ:KN d')(J6:z.cells.size=k)(J7:z.cells.toList.all (·.oneCell')=true)
   (hx:ev L x=some v)(hy:ev L y=some u)(hb:(xs.length+ys.length)*fL≤140737488355328)(AW:xs.length+ys.length≤140737488355328)(hn:Nat.blt d κ.n=true)(gS:aJ H S R)
   (h:∀ v' S',aG E k T v' (xs++ys) S'→O P κ ops Q rest ((d,v')::L) (S'++R)):O P κ ops Q (⟨some d,.call ⟨.builtin .append,#[x,y],#[t,t']⟩,ty,pos,af,none⟩::rest) L H:=by
 refine uU (fun v' H'=>∃ S',aG E k T v' (xs++ys) S'∧H'=S'++R) hn (fun ρ w pos af g hρ st=>?_) (fun v' H' ⟨S',mJ,e⟩=>by subst e;exact h v' S' mJ)
 have H5:=st.perm gS.perm
 obtain⟨v',w',S',hr,mJ,dV⟩:=DK (P:=P) (t:=t) (t':=t') (ty:=ty) GQ J6 J7 ho (fun b o hm=>H5.has b o (List.mem_append_left _ hm)) (hs w st) hb AW
 exact⟨v',w',S'++R,by simp[execOp,resolve,invoke,builtin,hρ _ _ hx,hρ _ _ hy,hr],⟨S',mJ,rfl⟩,dV _ _ _ H5⟩
theorem J8 [he:eB E k]{T fL XO:Nat}{z:Value}{xs ys:List α}{S R:Hp} [tu:TU P t (.slice T)] [XP:TU P t' (.slice XO)] [ti:TI P T k fL] [tz:TZ P T z]
   (ho:aG E k T v xs S)(hs:cq E κ H u ys)(J6:z.cells.size=k)(J7:z.cells.toList.all (·.oneCell')=true)
   (hx:ev L x=some v)(hy:ev L y=some u)(hb:(xs.length+ys.length)*fL≤140737488355328)(AW:xs.length+ys.length≤140737488355328)(hn:Nat.blt d κ.n=true)(gS:aJ H S R)
   (h:∀ v' S',aG E k T v' (xs++ys) S'→O P κ ops Q rest ((d,v')::L) (S'++R)):O P κ ops Q (⟨some d,.call ⟨.builtin .append,#[x,y],#[t,t']⟩,ty,pos,af,none⟩::rest) L H:=
 zG (fun w st=>Src.IH (hs.out w st)) ho (.inl ⟨_,rfl⟩) J6 J7 hx hy hb AW hn gS h
end
end Go.HL
namespace Go.HL
open Go
class TG (P:Program)(t:TypeId)(b:outParam Bool):Prop where
 out:(P.underlying t).map xv=some b
def structOf:TypeDesc→Option (List (Nat×Nat))
 | .struct fs=>some (fs.toList.map fun f=>(f.type,f.offset))
 | _=>none
class TS (P:Program)(t:TypeId)(fs:outParam (List (Nat×Nat))):Prop where
 out:(P.underlying t).bind structOf=some fs
theorem kX {P:Program}{t:Nat}{fs:List (Nat×Nat)}(h:(P.underlying t).bind structOf=some fs):TS P t fs:=⟨h⟩
section
variable {P:Program}(w:World)
theorem hZ {t:TypeId}{b:Bool} [h:TG P t b]:(isAgg t).run P w = .ok (!b) w:=by
 have ho:=h.out
 cases hd:P.underlying t with
 | none=>simp[hd] at ho
 | some d=>
   rw[hd] at ho
   simp only[Option.map_some,Option.some.injEq] at ho
   unfold isAgg
   rw[Sem.run_bind,run_underlying hd]
   cases d <;> simp_all [xv]
end
theorem Has.nil (w:World):Has w []:=⟨by simp,.nil⟩
theorem c4.here {S R:Hp}:c4 S (S++R):=fun _ h=>List.mem_append_left _ h
theorem c4.all {S:Hp}:c4 S S:=fun _ h=>h
theorem c4.cons {p:Nat×Obj}{S H:Hp}(h:c4 S H):c4 S (p::H):=fun q hq=>List.mem_cons_of_mem _ (h q hq)
theorem c4.app {T S H:Hp}(h:c4 S H):c4 S (T++H):=fun q hq=>List.mem_append_right _ (h q hq)
theorem c4.assoc {S A B C':Hp}(h:c4 S (A++(B++C'))):c4 S ((A++B)++C'):=by rw[List.append_assoc];exact h
theorem Hn {p:Nat×Obj}{A B C':Hp}(h:p∈A++(B++C')):p∈(A++B)++C':=by rw[List.append_assoc];exact h
theorem c4.one {p:Nat×Obj}{R:Hp}:c4 [p] (p::R):=fun q hq=>by
 have h:q=p:=by simpa using hq
 subst h;exact List.mem_cons_self
theorem OF {p:Nat×Obj}{S H:Hp}(h:p∈H):p∈S++H:=List.mem_append_right _ h
section
variable {P:Program}{κ:Cx}{Q:gR}{L L':Loc}{H H':Hp}{ops:Array Oper}{rest:List Oper}{ty t t':TypeId}{d:Nat}{pos:String}{af:Array Edge}{v u:Value}{x y z:Operand}{dst:Option Tmp}
theorem NL.own {b off:Nat}{l:List Value}{T:TypeId}{f:Nat×Nat}(hm:(b,.cells l.toArray T f)∈H)(hv:l[off]?=some v):NL κ H ⟨b,off,none⟩ v:=
 ⟨fun w st=>by rw[lM (st.has _ _ hm)];simpa using hv⟩
structure r9 (w:World)(b off:Nat)(cs:List Value):Prop where
 get:∀ (j:Nat) u,cs[j]?=some u→w.cell? ⟨b,off+j,none⟩=some u
structure aI (κ:Cx)(H:Hp)(b off:Nat)(cs:List Value):Prop where
 out:∀ w,St κ.w0 w κ.M H→r9 w b off cs
theorem aI.own {b:Nat}{l:List Value}{T:TypeId}{f:Nat×Nat}(hm:(b,.cells l.toArray T f)∈H):aI κ H b 0 l:=
 ⟨fun w st=>⟨fun j u hu=>by rw[lM (st.has _ _ hm)];simpa using hu⟩⟩
theorem aI.l3 {b off:Nat}{l cs:List Value}{T:TypeId}{f:Nat×Nat}(hm:(b,.cells l.toArray T f)∈H)(hv:∀ (j:Nat) u,cs[j]?=some u→l[off+j]?=some u):aI κ H b off cs:=
 ⟨fun w st=>⟨fun j u hu=>by rw[lM (st.has _ _ hm)];simpa using hv j u hu⟩⟩
theorem aI.old {b off:Nat}{cs:List Value}(h:r9 κ.w0 b off cs)(ha:b∉κ.M):aI κ H b off cs:=by
 refine⟨fun w st=>⟨fun j u hu=>?_⟩⟩
 have h1:=h.get j u hu
 have:=st.old b (block_lt_of_cell h1) ha
 unfold World.cell? at h1 ⊢
 simpa [this] using h1
theorem aI.bj {n:Nat}{ds:List Deferred}{w0:World}{b off:Nat}{cs:List Value}(h:r9 w0 b off cs):aI ⟨n,ds,w0,[]⟩ H b off cs:=.old h (by simp)
theorem cq.bj {α:Type}{E:α→List Value}{k:Nat} [he:eB E k]{n:Nat}{ds:List Deferred}{w0:World}{xs:List α}(h:Rd E w0 v xs):cq E ⟨n,ds,w0,[]⟩ H v xs:=.old h .nil
theorem aI.iU {b off:Nat}{cs:List Value}(h:aI κ H b off cs){o j:Nat}(hj:cs[j]?=some v)(ho:o=off+j):NL κ H ⟨b,o,none⟩ v:=
 ⟨fun w st=>by subst ho;exact (h.out w st).get j v hj⟩
theorem aI.aO {b off:Nat}{cs:List Value}(h:aI κ H b off cs):CC κ H ⟨b,off,none⟩ cs:=
 ⟨fun w st j u hu=>by rw[Addr.add_lit];exact (h.out w st).get j u hu⟩
theorem cq.ld {α:Type}{E:α→List Value}{k:Nat} [he:eB E k]{xs:List α}{e:α}(h:cq E κ H v xs)(i f:Nat)(hx:xs[i]?=some e){o:Nat}(hu:(E e)[f]?=some u)(hf:f<k)(ho:o=nJ v+(i*k+f)) :
   NL κ H ⟨kN v,o,none⟩ u:=by
 subst ho;exact h.iU hx hf hu
theorem cq.gx {α:Type}{E:α→List Value}{k:Nat} [he:eB E k]{xs:List α}{e:α}(h:cq E κ H v xs)(i:Nat)(hx:xs[i]?=some e){o:Nat}(ho:o=nJ v+i*k):CC κ H ⟨kN v,o,none⟩ (E e):=by
 subst ho;exact h.aO hx
theorem az {b off:Nat} [h:TG P t true](hx:ev L x=some (.pointer (some ⟨b,off,none⟩)))(hc:NL κ H ⟨b,off,none⟩ v):Step P κ (.load t x) ty L H v:=
 ⟨fun ρ w d pos af g hρ st=>by simp[execOp,hρ _ _ hx,Instr.loadAt,Instr.sureAddr,loadVar,hZ w,hc.out w st]⟩
theorem XQ {b off s fL:Nat}{cs:List Value} [TG P t false] [TI P t s fL](hx:ev L x=some (.pointer (some ⟨b,off,none⟩)))(hl:cs.length=s)(hc:CC κ H ⟨b,off,none⟩ cs) :
   Step P κ (.load t x) ty L H (.agg cs.toArray):=
 ⟨fun ρ w d pos af g hρ st=>by
   subst hl
   have:=run_loadCells_list (P:=P) w ⟨b,off,none⟩ cs (fun j u hu=>hc.out w st j u hu)
   simp[execOp,hρ _ _ hx,Instr.loadAt,Instr.sureAddr,loadVar,hZ w,bV,this]⟩
theorem j8 {b off f ft fo s fL:Nat}{fs:List (Nat×Nat)} [ts:TS P t fs](hx:ev L x=some (.pointer (some ⟨b,off,none⟩)))(hf:fs[f]?=some (ft,fo)) [ti:TI P ft s fL](hs:s≠0) :
   Step P κ (.fieldAddr t x f) ty L H (.pointer (some ⟨b,off+fo,none⟩)):=
 ⟨fun ρ w d pos af g hρ _=>by
   have ho:=ts.out
   cases hd:P.underlying t with
   | none=>simp[hd] at ho
   | some D=>
     rw[hd] at ho
     cases D <;> simp[structOf] at ho
     rename_i F
     subst ho
     simp only[List.getElem?_map,Option.map_eq_some_iff] at hf
     obtain⟨fd,xX,he⟩:=hf
     simp only[Prod.mk.injEq] at he
     obtain⟨rfl,rfl⟩:=he
     simp only[Array.getElem?_toList] at xX
     simp[execOp,hρ _ _ hx,Instr.fieldAt,run_underlying hd,xX,Instr.sureAddr,fieldPlace,bV,hs,Addr.add_lit]⟩
theorem au {e s fL n c:Nat}{a:Option Addr}{k:IntKind}{i:Int} [TU P t (.slice e)] [TI P e s fL](hx:ev L x=some (.slice a n c))(hy:ev L y=some (.int k i))(dr:eA (.slice a n c) n)(h:0≤i∧i<n) :
   Step P κ (.indexAddr t x y) ty L H (.pointer (some ⟨kN (.slice a n c),nJ (.slice a n c)+i.toNat*s,none⟩)):=by
 obtain⟨⟨a',c',hv,hn,h0,wc⟩,_⟩:=dr
 simp only[Value.slice.injEq,true_and] at hv
 obtain⟨rfl,rfl⟩:=hv
 cases a with
 | none=>have:=h0 rfl;omega
 | some A=>
   obtain⟨b,o,sp⟩:=A
   have:=wc _ rfl (by omega)
   simp only at this;subst this
   exact⟨fun ρ w d pos af g hρ _=>by
     simp[execOp,hρ _ _ hx,hρ _ _ hy,Instr.indexAt,asIntOf,cS,bV,h,Addr.add_lit,kN,nJ,CB,I9]⟩
section
variable (w:World)(n:Nat)
theorem FP {a b:Bool} [TU P t .bool]:(Op.equalIn (n+1) t (.bool a) (.bool b)).run P w = .ok (a==b) w:=by simp[Op.equalIn,cS]
theorem tT {k k':IntKind}{a b:Int} [TU P t (.int k')]:(Op.equalIn (n+1) t (.int k a) (.int k b)).run P w = .ok (a==b) w:=by simp[Op.equalIn,cS]
theorem Pz {e:TypeId}{a:Option Addr}{l c:Nat} [TU P t (.slice e)]:(Op.equalIn (n+1) t (.slice a l c) (.slice none 0 0)).run P w = .ok a.isNone w:=by cases a <;> simp[Op.equalIn,cS]
end
def sg:Value→Value→Bool
 | .bool _,.bool _ | .pointer _,.pointer _ | .slice ..,.slice .. | .func ..,.nilFunc | .nilFunc,.nilFunc | .iface ..,.nilIface=>true
 | _,_=>false
theorem PA {u v:Value}{b:Bool}(hv:sg u v=true)(h:∀ w,(Op.equalIn (9999+1) t u v).run P w = .ok b w)(w:World):(binOp .eql t u v).run P w = .ok (.bool b) w:=by
 have h':(Op.equal t u v).run P w = .ok b w:=h w
 cases u <;> cases v <;> simp only[sg,Bool.false_eq_true] at hv <;> simp only[binOp,Sem.run_bind,h',Result.andThen_ok,Sem.run_pure]
theorem PB {u v:Value}{b:Bool}(hv:sg u v=true)(h:∀ w,(Op.equalIn (9999+1) t u v).run P w = .ok b w)(w:World):(binOp .neq t u v).run P w = .ok (.bool (!b)) w:=by
 have h':(Op.equal t u v).run P w = .ok b w:=h w
 cases u <;> cases v <;> simp only[sg,Bool.false_eq_true] at hv <;> simp only[binOp,Sem.run_bind,h',Result.andThen_ok,Sem.run_pure]
theorem x9 {op:BinOp}{a b:Operand}{u v:Value}(hv:sg u v=true)(w:World):(eqGuard op t a b u v).run P w = .ok () w:=by
 cases u <;> cases v <;> simp only[sg,Bool.false_eq_true] at hv <;> cases op <;> simp[eqGuard]
theorem yb {a b:Value}{r:Bool}(hx:ev L x=some a)(hy:ev L y=some b)(hv:sg a b=true)(h:∀ w,(Op.equalIn (9999+1) t a b).run P w = .ok r w):Step P κ (.binOp .eql t x y t') ty L H (.bool r):=
 ⟨fun ρ w d pos af g hρ _=>by simp only[execOp,hρ _ _ hx,hρ _ _ hy,Sem.run_bind,x9 hv,Result.andThen_ok,PA hv h,Sem.run_pure]⟩
theorem HP {a b:Value}{r:Bool}(hx:ev L x=some a)(hy:ev L y=some b)(hv:sg a b=true)(h:∀ w,(Op.equalIn (9999+1) t a b).run P w = .ok r w):Step P κ (.binOp .neq t x y t') ty L H (.bool (!r)):=
 ⟨fun ρ w d pos af g hρ _=>by simp only[execOp,hρ _ _ hx,hρ _ _ hy,Sem.run_bind,x9 hv,Result.andThen_ok,PB hv h,Sem.run_pure]⟩
theorem eI {a b:Bool} [TU P t .bool](hx:ev L x=some (.bool a))(hy:ev L y=some (.bool b)):Step P κ (.binOp .eql t x y t') ty L H (.bool (decide (a=b))):=
 yb hx hy rfl (fun w=>FP w 9999)
theorem jt {a b:Bool} [TU P t .bool](hx:ev L x=some (.bool a))(hy:ev L y=some (.bool b)):Step P κ (.binOp .neq t x y t') ty L H (.bool (decide (a≠b))):=by
 have:=HP (P:=P) (κ:=κ) (H:=H) (t:=t) (t':=t') (ty:=ty) hx hy rfl (fun w=>FP w 9999)
 cases a <;> cases b <;> exact this
theorem tO {e:TypeId}{a:Option Addr}{n c:Nat} [TU P t (.slice e)](hx:ev L x=some (.slice a n c))(hy:ev L y=some (.slice none 0 0)):Step P κ (.binOp .eql t x y t') ty L H (.bool a.isNone):=yb hx hy rfl (fun w=>Pz w 9999)
theorem vW (bs:ByteArray)(i:Nat)(r:List UInt8):ByteArray.toList.loop bs i r=r.reverse++bs.data.toList.drop i:=by
 unfold ByteArray.toList.loop
 split
 · rename_i h
   rw[vW bs (i+1) (bs.get! i::r)]
   have h':i<bs.data.toList.length:=by simpa using h
   rw[List.drop_eq_getElem_cons h']
   simp only[List.reverse_cons,List.append_assoc,List.cons_append,List.nil_append]
   congr 2
   have hi:i<bs.data.size:=h
   simp only[ByteArray.get!]
   exact getElem!_pos bs.data i hi
 · rename_i h
   rw[List.drop_of_length_le (by simpa using h)]
   simp
 termination_by bs.size-i
theorem qD (a:ByteArray):a.toList=a.data.toList:=by
 simp[ByteArray.toList,vW]
theorem PC (a b:ByteArray):(a.toList==b.toList)=decide (a=b):=by
 rw[Bool.eq_iff_iff];simp only[beq_iff_eq,decide_eq_true_eq]
 constructor
 · intro h
   have h2:a.data.toList=b.data.toList:=by
     have ha:a.toList=a.data.toList:=qD a
     have hb:b.toList=b.data.toList:=qD b
     rw[← ha,← hb];exact h
   have h3:=Array.ext' h2
   cases a;cases b;simp_all
 · intro h;rw[h]
theorem HQ {a b:ByteArray}(hx:ev L x=some (.string a))(hy:ev L y=some (.string b)):Step P κ (.binOp .eql t x y t') ty L H (.bool (decide (a=b))):=
 ⟨fun ρ w d pos af g hρ _=>by
   have:=PC a b
   simp[execOp,hρ _ _ hx,hρ _ _ hy,eqGuard,binOp,Op.stringOp,this]⟩
section
variable {k:IntKind}{a b:Int}
theorem zC (hx:ev L x=some (.int k a))(hy:ev L y=some (.int k b))(h:a<b):Step P κ (.binOp .lss t x y t') ty L H (.bool true):=by
 have:=aF (P:=P) (κ:=κ) (H:=H) (t:=t) (t':=t') (ty:=ty) hx hy;rwa [decide_eq_true h] at this
theorem bH (hx:ev L x=some (.int k a))(hy:ev L y=some (.int k b))(h:¬ a<b):Step P κ (.binOp .lss t x y t') ty L H (.bool false):=by
 have:=aF (P:=P) (κ:=κ) (H:=H) (t:=t) (t':=t') (ty:=ty) hx hy;rwa [decide_eq_false h] at this
theorem EH (hx:ev L x=some (.int k a))(hy:ev L y=some (.int k b))(h:¬ b≤a):Step P κ (.binOp .geq t x y t') ty L H (.bool false):=by
 have:=iH (P:=P) (κ:=κ) (H:=H) (t:=t) (t':=t') (ty:=ty) hx hy;rwa [decide_eq_false h] at this
end
end
theorem ab {P:Program}{κ:Cx}{op:Op}{ty:TypeId}{L:Loc}{H:Hp}{v v':Value}(h:Step P κ op ty L H v)(e:v=v'):Step P κ op ty L H v':=e ▸ h
end Go.HL
namespace Go.HL
open Go
section
variable {P:Program}{κ:Cx}{Q:gR}{L L':Loc}{H H':Hp}{ops:Array Oper}{rest:List Oper}{ty t t':TypeId}{d:Nat}{pos:String}{af:Array Edge}{v u:Value}{x y z:Operand}{dst:Option Tmp}
def cI (k:IntKind)(l:List Int):List Value:=l.map (.int k)
inductive Rs (P:Program)(κ:Cx)(L:Loc)(H:Hp):List ResultVar→List Value→Prop
 | nil:Rs P κ L H [] []
 | tmp {t:Tmp}{v:Value}{rs:List ResultVar}{vs:List Value}(h:look L t=some v)(hr:Rs P κ L H rs vs):Rs P κ L H (.tmp t::rs) (v::vs)
 | cell {a:Tmp}{b off:Nat}{t:TypeId}{v:Value}{rs:List ResultVar}{vs:List Value}(tg:TG P t true)(h:look L a=some (.pointer (some ⟨b,off,none⟩)))(hc:NL κ H ⟨b,off,none⟩ v)(hr:Rs P κ L H rs vs):Rs P κ L H (.cell a t::rs) (v::vs)
 | agg {a:Tmp}{b off s fL:Nat}{t:TypeId}{cs:List Value}{rs:List ResultVar}{vs:List Value}(tg:TG P t false)(ti:TI P t s fL)(h:look L a=some (.pointer (some ⟨b,off,none⟩)))(hc:CC κ H ⟨b,off,none⟩ cs)(hl:cs.length=s)(hr:Rs P κ L H rs vs) :
     Rs P κ L H (.cell a t::rs) (.agg cs.toArray::vs)
def D4:List Value→Value
 | [v]=>v
 | vs=>.tuple vs.toArray
def D6 (tmps:Array Value):ResultVar→Sem Value
 | .tmp t=>pure (tmps.getD t undef)
 | .cell a t=>do loadVar t (← asAddr (tmps.getD a undef))
theorem Rs.run {rs:List ResultVar}{vs:List Value}(h:Rs P κ L H rs vs){a:Act}{w:World}(fr:Fr a κ.n κ.ds L)(st:St κ.w0 w κ.M H) :
   (rs.mapM (D6 a.tmps)).run P w = .ok vs w:=by
 induction h with
 | nil=>simp
 | tmp h _ ih=>
   have h1:=fr.get _ _ h
   simp[ih,D6,h1]
 | cell tg h hc _ ih=>
   have h1:=fr.get _ _ h
   simp[ih,D6,h1,asAddr,loadVar,hZ w,hc.out w st]
 | agg tg ti h hc hl _ ih=>
   rename_i cs _ _ _
   have h1:=fr.get _ _ h
   subst hl
   have h2:=run_loadCells_list (P:=P) w _ cs (fun j u hu=>hc.out w st j u hu)
   simp[ih,D6,h1,asAddr,loadVar,hZ w,bV,h2]
theorem D9 (fn:Func)(tmps:Array Value):results fn tmps=(do let vs ← fn.results.mapM (D6 tmps);pure (if h:vs.size=1 then vs[0] else .tuple vs)):=by
 unfold results D6
 rfl
theorem ng {fn:Func}{vs:List Value}{rs:List ResultVar}(hr:fn.results=rs.toArray)(h:Rs P κ L H rs vs){a:Act}{w:World}(fr:Fr a κ.n κ.ds L)(st:St κ.w0 w κ.M H) :
   (results fn a.tmps).run P w = .ok (D4 vs) w:=by
 have:=h.run fr st
 rw[D9,hr]
 have e:(rs.toArray.mapM (D6 a.tmps)).run P w = .ok vs.toArray w:=by
   rw[List.mapM_toArray]
   simp[this]
 simp only[Sem.run_bind,e,Result.andThen_ok,Sem.run_pure]
 match vs with
 | []=>simp[D4]
 | [v]=>simp[D4]
 | v::v'::vs=>simp[D4]
theorem cr {fn:Func}{w0:World}{M:List Nat}{post:Value→Hp→Prop}{n:Nat}{vs:List Value}{rs:List ResultVar}(hr:fn.results=rs.toArray)(h:Rs P ⟨n,[],w0,M⟩ L H rs vs)(hp:post (D4 vs) H) :
   X ⟨n,[],w0,M⟩ (bodyPost P fn (nN w0 M post) .ret) L H:=
 ⟨fun _ _ ok=>bodyPost_ret (ng hr h ok.fr ok.st) ok.fr.defers ⟨_,H,rfl,hp,ok.st⟩⟩
theorem fB {fn:Func}{w0:World}{M:List Nat}{post:Value→Hp→Prop}{n:Nat}{vs:List Value}{rs:List ResultVar}(hr:fn.results=rs.toArray)(h:Rs P ⟨n,[],w0,M⟩ L H rs vs)(hp:post (D4 vs) H) :
   X ⟨n,[],w0,M⟩ (bodyPost P fn (nN w0 M post) .normal) L H:=
 ⟨fun _ _ ok=>bodyPost_end (ng hr h ok.fr ok.st) ok.fr.defers ⟨_,H,rfl,hp,ok.st⟩⟩
theorem ar {f:FuncId}{fo:Operand}{xs:Array Operand}{ts:Array TypeId}{vs:List Value}{pre:World→Prop}{p:Value→Prop}
   (hc:Fn P f vs pre [] (fun v' _=>p v'))(hf:ev L fo=some (.func (.func f) #[] #[]))(hx:xs.toList.map (ev L)=vs.map some)(hn:Nat.blt d κ.n=true)(hp:∀ w,St κ.w0 w κ.M H→pre w)
   (h:∀ v,p v→O P κ ops Q rest ((d,v)::L) H):O P κ ops Q (⟨some d,.call ⟨.value fo,xs,ts⟩,ty,pos,af,none⟩::rest) L H:=
 aX hc hf hx hn .nil hp (fun v _ hq=>Xy (Sub.refl _) (HSub.JG (HSub.refl _)) (h v hq))
theorem lD {α:Type}{E:α→List Value}{e fL:Nat}{zv:Value}{k:Nat}{zx:α}{kl kc:IntKind}{n:Nat} [he:eB E k] [TU P t (.slice e)] [ti:TI P e k fL] [tz:TZ P e zv]
   (hx:ev L x=some (.int kl n))(hy:ev L y=some (.int kc n))(hz:zv.cells.toList=E zx)(hb:fL*n≤281474976710656)(AW:n≤140737488355328)(hn:Nat.blt d κ.n=true)
   (h:∀ b S',aG E k e (.slice (some ⟨b,0,none⟩) n n) (List.replicate n zx) S'→O P κ ops Q rest ((d,.slice (some ⟨b,0,none⟩) n n)::L) (S'++H)) :
   O P κ ops Q (⟨some d,.makeSlice t x y,ty,pos,af,none⟩::rest) L H:=by
 obtain⟨i,hi,hs,H7⟩:=ti.out
 obtain⟨i',z0,hzz⟩:=tz.out
 rw[hi] at z0;cases z0
 have hk:zv.cells.size=k:=by rw[← Array.length_toList,hz,he.len]
 have e1:∀ m,(madeCells zv.cells (m*k)).toList=flat E (List.replicate m zx):=by
   intro m
   apply List.ext_getElem?
   intro j
   simp only[madeCells,Array.toList_map]
   by_cases hj:j<m*k
   · have o6:0<k:=by
       rcases Nat.eq_zero_or_pos k with h|h
       · subst h;simp at hj
       · exact h
     have hq:j / k<m:=(Nat.div_lt_iff_lt_mul o6).2 hj
     have hr:j % k<k:=Nat.mod_lt _ o6
     have h2:=kM E (List.replicate m zx) (i:=j / k) (x:=zx) (by simp[hq]) hr
     rw[show j / k*k+j % k=j by rw[Nat.mul_comm];exact Nat.div_add_mod j k] at h2
     rw[h2,← hz]
     simp only[Array.toList_range,List.getElem?_map]
     rw[List.getElem?_range hj]
     simp only[Option.map_some]
     rw[hk,getElem!_pos zv.cells _ (by rw[hk];exact hr)]
     simp[hk,hr]
   · rw[List.getElem?_eq_none (by simp;omega),List.getElem?_eq_none (by rw[cD];simp;omega)]
 refine uU (fun v H'=>∃ b S',v = .slice (some ⟨b,0,none⟩) n n∧aG E k e v (List.replicate n zx) S'∧H'=S'++H) hn (fun ρ w pos af g hρ st=>?_) (fun v H' ⟨b,S',e1,ho,e2⟩=>by subst e1;subst e2;exact h b S' ho)
 have hr:=run_make (P:=P) w t e i zv TU.out hi hzz kl kc n n (by omega) (by omega) (by rw[H7,← Int.natCast_mul];exact Int.ofNat_le.2 hb) (by omega)
 rw[Int.toNat_natCast] at hr
 refine⟨_,w.alloc (.cells (madeCells zv.cells (n*i.size)) e),[(w.heap.size,.cells (flat E (List.replicate n zx)).toArray e (0,0))]++H,by simp[execOp,hρ _ _ hx,hρ _ _ hy,hr],⟨w.heap.size,_,rfl,?_,rfl⟩,?_⟩
 · have:=aG.yo (E:=E) (k:=k) (T:=e) (b:=w.heap.size) (c:=n) (xs:=List.replicate n zx) (zs:=[]) (fr:=(0,0)) (by simp[cD]) (by simp) (by simpa using AW) (by simp) (.inr rfl)
   simpa using this
 · have h3:(madeCells zv.cells (n*i.size))=(flat E (List.replicate n zx)).toArray:=by
     apply Array.ext';rw[hs];simpa using e1 n
   have h4:=st.alloc (.cells (flat E (List.replicate n zx)).toArray e (0,0))
   simpa [h3] using h4
theorem vS (l:List Value)(off:Nat)(vs:List Value)(h:off+vs.length≤l.length):(bP l off vs).length=l.length:=by
 simp only[bP,List.length_append,List.length_take,List.length_drop];omega
theorem oP (l:List Value)(off:Nat)(vs:List Value)(h:off+vs.length≤l.length)(j:Nat):(bP l off vs)[j]?=if j<off then l[j]? else if j<off+vs.length then vs[j-off]? else l[j]?:=by
 simp only[bP]
 rw[List.append_assoc,List.getElem?_append,List.length_take,Nat.min_eq_left (by omega)]
 by_cases h1:j<off
 · rw[if_pos h1,if_pos h1,List.getElem?_take,if_pos h1]
 · rw[if_neg h1,if_neg h1,List.getElem?_append]
   by_cases h2:j<off+vs.length
   · rw[if_pos (by omega),if_pos h2]
   · rw[if_neg (by omega),if_neg h2,List.getElem?_drop]
     congr 1;omega
theorem St.Pk {α:Type}{E:α→List Value}{k:Nat} [he:eB E k]{T:TypeId}{xs:List α}{S R:Hp}{w0 w:World}{M:List Nat}(ho:aG E k T v xs S)(st:St w0 w M (S++R)){i:Nat}(hi:i<xs.length)(yv:α)
   {off:Nat}{cs:List Value}(aaj:off+cs.length≤k)(hE:∀ e,xs[i]?=some e→E yv=bP (E e) off cs)(h1:∀ v∈cs,v.oneCell'=true){A:Addr}(hA:A=⟨kN v,nJ v+(i*k+off),none⟩) :
   ∃ w' S',(storeCells A cs 0).run P w = .ok () w'∧aG E k T v (xs.set i yv) S'∧St w0 w' M (S'++R):=by
 subst hA
 cases ho with
 | nil=>simp at hi
 | yo hc hn hm hz hf=>
   rename_i b c zs fr
   have hlen:=cD E xs
   have hik:i*k+k≤xs.length*k:=by rw[← Nat.succ_mul];exact Nat.mul_le_mul_right _ hi
   have Ri:xs.length*k≤c*k:=Nat.mul_le_mul_right _ hn
   obtain⟨w',hr,hh,qL,yp,wa⟩:=eV (P:=P) (b:=b) (T:=T) (f:=fr) cs (i*k+off) 0 (flat E xs++zs) w (st.has _ _ (List.mem_append_left _ List.mem_cons_self)) (by omega) h1 (fun j hj=>yq hf (by omega))
   refine⟨w',[(b,.cells (bP (flat E xs++zs) (i*k+off+0) cs).toArray T fr)],by simpa [kN,nJ,CB,I9] using hr,?_,St.put (R:=R) st hh qL yp wa⟩
   obtain⟨e,he1⟩:∃ e,xs[i]?=some e:=⟨xs[i],List.getElem?_eq_getElem hi⟩
   have e2:bP (flat E xs++zs) (i*k+off+0) cs=flat E (xs.set i yv)++zs:=by
     rw[I8 E xs hi,hE e he1]
     have hEl:=he.len e
     have hg:∀ q,q<k→(flat E xs)[i*k+q]?=(E e)[q]?:=fun q hq=>kM E xs he1 hq
     have CP:(bP (E e) off cs).length=k:=by rw[vS _ _ _ (by omega),hEl]
     apply List.ext_getElem?
     intro j
     rw[Nat.add_zero,oP _ _ _ (by omega),List.getElem?_append,List.getElem?_append,vS _ _ _ (by rw[CP,hlen];omega),oP _ _ _ (by rw[CP,hlen];omega),CP,hlen]
     by_cases a1:j<i*k
     · rw[if_pos (by omega),if_pos (by omega),if_pos (by omega),if_pos a1]
     · by_cases a4:j<i*k+k
       · rw[if_pos (by omega:j<xs.length*k),if_neg a1,if_pos a4,if_pos (by omega:j<xs.length*k),oP _ _ _ (by omega)]
         have hgg:=hg (j-i*k) (by omega)
         rw[show i*k+(j-i*k)=j by omega] at hgg
         by_cases a2:j<i*k+off
         · rw[if_pos a2,if_pos (by omega),hgg]
         · by_cases a3:j<i*k+off+cs.length
           · rw[if_neg a2,if_pos a3,if_neg (by omega),if_pos (by omega)]
             congr 1;omega
           · rw[if_neg a2,if_neg a3,if_neg (by omega),if_neg (by omega),hgg]
       · rw[if_neg (by omega),if_neg (by omega),if_neg a1,if_neg a4]
   rw[e2]
   have z8:(xs.set i yv).length=xs.length:=by simp
   have:=aG.yo (E:=E) (k:=k) (T:=T) (b:=b) (c:=c) (xs:=xs.set i yv) (zs:=zs) (fr:=fr) (by rw[List.length_append,cD,z8];rw[List.length_append,cD] at hc;exact hc) (by rw[z8];exact hn) (by rw[z8];exact hm) hz hf
   rw[z8] at this
   exact this
end
end Go.HL
namespace Go.HL
open Go
section
variable {P:Program}{κ:Cx}{Q:gR}{L L':Loc}{H H':Hp}{ops:Array Oper}{rest:List Oper}{ty t t':TypeId}{d:Nat}{pos:String}{af:Array Edge}{v u:Value}{x y z:Operand}{dst:Option Tmp}{α:Type}{E:α→List Value}{k:Nat}
theorem rO {f:Nat→Option Bool×Unit→Sem (ForInStep (Option Bool×Unit))}(g:Nat→Bool)(w:World)(l:List Nat)
   (hf:∀ i∈l,(f i (none,())).run P w = .ok (if g i then .yield (none,()) else .done (some false,())) w) :
   (forIn l (none,()) f).run P w = .ok (if l.all g then (none,()) else (some false,())) w:=by
 induction l with
 | nil=>simp
 | cons i l ih=>
   have h1:=hf i List.mem_cons_self
   have h2:=ih (fun j hj=>hf j (List.mem_cons_of_mem _ hj))
   rw[List.forIn_cons,Sem.run_bind,h1]
   cases hg:g i <;> simp[h2,hg]
theorem C1 (w:World)(n:Nat){m e b:Nat}{k':IntKind} [TU P t (.array m e)] [TU P e (.int k')] [TG P e true] [TI P e 1 b]{j:IntKind}(xs ys:List Int)(hx:xs.length=m)(hy:ys.length=m) :
   (Op.equalIn (n+2) t (.agg (cI j xs).toArray) (.agg (cI j ys).toArray)).run P w = .ok (decide (xs=ys)) w:=by
 unfold Op.equalIn
 simp only[Sem.run_bind,cS,Result.andThen_ok,bV]
 rw[Std.Legacy.Range.forIn_eq_forIn_range']
 have:=rO (P:=P) (f:=fun i _=>do
           let a ← part e (cI j xs).toArray (i*1)
           let b ← part e (cI j ys).toArray (i*1)
           let c ← Op.equalIn (n+1) e a b
           if (!c)=true then pure (ForInStep.done (some false,())) else pure (ForInStep.yield (none,()))) (fun i=>xs[i]?==ys[i]?) w (List.range' 0 m) (by
   intro i hi
   have EM:i<m:=by simpa using hi
   have h1:xs[i]?=some xs[i]:=List.getElem?_eq_getElem (by omega)
   have h2:ys[i]?=some ys[i]:=List.getElem?_eq_getElem (by omega)
   have h3:∀ (zs:List Int) q,zs[i]?=some q→(part e (cI j zs).toArray (i*1)).run P w = .ok (.int j q) w:=by
     intro zs q hq
     have h4:(cI j zs).toArray[i]?=some (.int j q):=by simp[cI,hq]
     simp only[part,Nat.mul_one,Sem.run_bind,hZ w,Result.andThen_ok,h4]
     simp
   rw[Sem.run_bind,h3 _ _ h1,Result.andThen_ok,Sem.run_bind,h3 _ _ h2,Result.andThen_ok,Sem.run_bind,tT w n,Result.andThen_ok]
   rw[h1,h2]
   by_cases hq:xs[i]=ys[i] <;> simp[hq])
 have xJ:([:m]:Std.Legacy.Range).size=m:=by simp[Std.Legacy.Range.size]
 simp only[xJ]
 simp only[this,Result.andThen_ok]
 have jE:(List.range' 0 m).all (fun i=>xs[i]?==ys[i]?)=decide (xs=ys):=by
   rw[Bool.eq_iff_iff,List.all_eq_true,decide_eq_true_eq]
   constructor
   · intro h
     apply List.ext_getElem?
     intro i
     by_cases hi:i<m
     · simpa using h i (by simpa using hi)
     · rw[List.getElem?_eq_none (by omega),List.getElem?_eq_none (by omega)]
   · intro h i _;simp[h]
 rw[jE]
 by_cases h:xs=ys <;> simp[h]
class EG (P:Program)(t:TypeId):Prop where
 out:P.eqGuardType P.depth t=false
theorem w9 {a b:Array Value}{r:Bool} [eg:EG P t](hx:ev L x=some (.agg a))(hy:ev L y=some (.agg b))(h:∀ w,(Op.equalIn (9998+2) t (.agg a) (.agg b)).run P w = .ok r w):Step P κ (.binOp .eql t x y t') ty L H (.bool r):=
 ⟨fun ρ w d pos af g hρ _=>by
   have h':∀ w,(Op.equal t (.agg a) (.agg b)).run P w = .ok r w:=h
   simp[execOp,hρ _ _ hx,hρ _ _ hy,eqGuard,binOp,h',program,Sem.run,eg.out]⟩
theorem xb {a b:Array Value}{r:Bool} [eg:EG P t](hx:ev L x=some (.agg a))(hy:ev L y=some (.agg b))(h:∀ w,(Op.equalIn (9998+2) t (.agg a) (.agg b)).run P w = .ok r w):Step P κ (.binOp .neq t x y t') ty L H (.bool (!r)):=
 ⟨fun ρ w d pos af g hρ _=>by
   have h':∀ w,(Op.equal t (.agg a) (.agg b)).run P w = .ok r w:=h
   simp[execOp,hρ _ _ hx,hρ _ _ hy,eqGuard,binOp,h',program,Sem.run,eg.out]⟩
theorem Hb {m e b:Nat}{k' j:IntKind} [TU P t (.array m e)] [TU P e (.int k')] [TG P e true] [TI P e 1 b] [EG P t]{xs ys:List Int}(hx:ev L x=some (.agg (cI j xs).toArray))(hy:ev L y=some (.agg (cI j ys).toArray))(h1:xs.length=m)(h2:ys.length=m) :
   Step P κ (.binOp .eql t x y t') ty L H (.bool (decide (xs=ys))):=w9 hx hy (fun w=>C1 w 9998 xs ys h1 h2)
theorem Hc {m e b:Nat}{k' j:IntKind} [TU P t (.array m e)] [TU P e (.int k')] [TG P e true] [TI P e 1 b] [EG P t]{xs ys:List Int}(hx:ev L x=some (.agg (cI j xs).toArray))(hy:ev L y=some (.agg (cI j ys).toArray))(h1:xs.length=m)(h2:ys.length=m) :
   Step P κ (.binOp .neq t x y t') ty L H (.bool (decide (xs≠ys))):=by
 have:=xb (P:=P) (κ:=κ) (H:=H) (t:=t) (t':=t') (ty:=ty) hx hy (fun w=>C1 w 9998 xs ys h1 h2)
 refine ab this ?_
 by_cases h:xs=ys <;> simp[h]
theorem Lt [he:eB E k]{T s fL:Nat}{xs:List α}{S R:Hp}{i off o:Nat}{cs:List Value}(yv:α) [TI P t s fL](ho:aG E k T v xs S)(gS:aJ H S R)(hx:ev L x=some (.pointer (some ⟨kN v,o,none⟩)))(hy:ev L y=some u)(qJ:u.cells=cs.toArray)(hs:cs.length=s)
   (hi:i<xs.length)(hof:o=nJ v+(i*k+off))(aaj:off+cs.length≤k)(hE:∀ e,xs[i]?=some e→E yv=bP (E e) off cs)(h1:∀ v∈cs,v.oneCell'=true)
   (h:∀ S',aG E k T v (xs.set i yv) S'→O P κ ops Q rest L (S'++R)):O P κ ops Q (⟨none,.store t x y,ty,pos,af,none⟩::rest) L H:=by
 refine⟨fun ro a w iF ok=>gg rfl ?_⟩
 obtain⟨w',S',hr,mJ,H5⟩:=St.Pk (P:=P) ho (ok.st.perm gS.perm) hi yv aaj hE h1 rfl
 have e1:=ok.fr.ev hx
 have e2:=ok.fr.ev hy
 subst hof
 have:(execOp a.eval ⟨none,.store t x y,ty,pos,af,none⟩).run P w = .ok .skip w':=by
   simp[execOp,e1,e2,Instr.storeAt,Instr.sureAddr,storeVar,bV,qJ,hs,hr]
 exact tf this ((h S' mJ).out ro _ _ iF.tail ⟨ok.fr,H5⟩)
theorem dp [he:eB E 1]{T fL:Nat}{xs:List α}{S R:Hp}{o:Nat}(i:Nat)(yv:α) [TI P t 1 fL](ho:aG E 1 T v xs S)(gS:aJ H S R)(hx:ev L x=some (.pointer (some ⟨kN v,o,none⟩)))(hy:ev L y=some u)(hE:E yv = [u])
   (hi:i<xs.length)(hof:o=nJ v+i)(h:∀ S',aG E 1 T v (xs.set i yv) S'→O P κ ops Q rest L (S'++R)):O P κ ops Q (⟨none,.store t x y,ty,pos,af,none⟩::rest) L H:=by
 have h1:=he.one yv u (by rw[hE];exact List.mem_cons_self)
 refine Lt (i:=i) (off:=0) (cs:=[u]) yv ho gS hx hy (rp h1) rfl hi (by omega) (by simp) (fun e' _=>?_) (by simpa using h1) h
 have hl:=he.len e'
 rw[hE]
 simp only[bP,List.take_zero,List.nil_append,Nat.zero_add,List.length_singleton]
 rw[List.drop_of_length_le (by omega)]
 rfl
theorem HZ (vs:List Value):∀ (off i:Nat)(cs:Array Value),off+i+vs.length≤cs.size→(vs.zipIdx i).foldl (fun cs (c,j)=>cs.setIfInBounds (off+j) c) cs=(bP cs.toList (off+i) vs).toArray:=by
 induction vs with
 | nil=>intro off i cs _;simp[bP]
 | cons v vs ih=>
   intro off i cs h
   simp only[List.length_cons] at h
   simp only[List.zipIdx_cons,List.foldl_cons]
   rw[ih off (i+1) _ (by simp;omega)]
   congr 1
   simp only[bP,List.length_cons,Array.toList_setIfInBounds]
   rw[show off+(i+1)=off+i+1 by omega,List.take_add_one,List.getElem?_set_self (by simp;omega),List.take_set_of_le (by omega),List.drop_set_of_lt (by omega),show off+i+1+vs.length=off+i+(vs.length+1) by omega]
   simp
theorem vC {place:Nat→Option (Nat×Nat)}{i off size:Nat}{v:Value}{cs l:List Value}{rest:List (Nat×Value)}(hp:place i=some (off,size))(hv:v.cells=cs.toArray)(hs:cs.length=size)(hl:off+size≤l.length) :
   Instr.fill place l.toArray ((i,v)::rest)=Instr.fill place (bP l off cs).toArray rest:=by
 have:=HZ cs off 0 l.toArray (by simp;omega)
 simp only[Nat.add_zero] at this
 rw[Instr.fill,hp]
 simp only[hv]
 have h1:¬ (cs.toArray.size≠size∨off+cs.toArray.size>l.toArray.size):=by simp;omega
 simp only[List.size_toArray,← hs] at h1 ⊢
 simp only[ne_eq,not_true_eq_false,decide_false,Bool.false_or,decide_eq_true_eq]
 rw[if_neg (by omega)]
 congr 1
 rw[← this,← Array.foldl_toList]
 simp
theorem BU [he:eB E k]:∀ (xs:List α)(vs:List Value)(i:Nat)(pre zs:List Value),vs.map Value.cells=xs.map (fun x=>(E x).toArray)→pre.length=i*k→zs.length=xs.length*k →
   Instr.fill (fun i=>some (i*k,k)) (pre++zs).toArray ((List.range' i xs.length).zip vs)=some (pre++flat E xs).toArray
 | [],vs,i,pre,zs,h,hp,hz=>by
   have:zs = []:=List.eq_nil_of_length_eq_zero (by simpa using hz)
   subst this
   simp[Instr.fill,flat]
 | x::xs,[],_,_,_,h,_,_=>by simp at h
 | x::xs,v::vs,i,pre,zs,h,hp,hz=>by
   simp only[List.map_cons,List.cons.injEq] at h
   simp only[List.length_cons,Nat.succ_mul] at hz
   rw[List.length_cons,List.range'_succ,List.zip_cons_cons,vC (size:=k) rfl h.1 (he.len x) (by simp;omega)]
   have e1:bP (pre++zs) (i*k) (E x)=(pre++E x)++zs.drop k:=by
     simp only[bP]
     rw[← hp,List.take_left,he.len x,List.drop_length_add_append]
   rw[e1,BU xs vs (i+1) (pre++E x) (zs.drop k) h.2 (by simp[he.len x,hp,Nat.succ_mul]) (by simp;omega)]
   simp[flat]
theorem nE {ρ:Operand→Value}(hρ:∀ x u,ev L x=some u→ρ x=u):∀ (l:List (Nat×Operand))(vs:List Value),l.map (fun p=>ev L p.2)=vs.map some→l.map (fun (i,x)=>(i,ρ x))=(l.map (·.1)).zip vs
 | [],[],_=>rfl
 | [],v::vs,h=>by simp at h
 | p::l,[],h=>by simp at h
 | p::l,v::vs,h=>by
   simp only[List.map_cons,List.cons.injEq] at h
   simp only[List.map_cons,List.zip_cons_cons]
   rw[hρ _ _ h.1,nE hρ l vs h.2]
theorem ct [he:eB E k]{T fL:Nat}{zv:Value}{xs:List α}{vs:List Value}{n:Nat}{parts:Array (Nat×Operand)} [TU P t (.slice T)] [ti:TI P T k fL] [tz:TZ P T zv](hn:Nat.blt d κ.n=true)(hl:xs.length=n)(hi:parts.toList.map (·.1)=List.range' 0 n)(hp:parts.toList.map (fun p=>ev L p.2)=vs.map some)
   (hc:vs.map Value.cells=xs.map (fun x=>(E x).toArray))(hb:n*k≤16777216)(hbn:n≤140737488355328)
   (h:∀ b S',aG E k T (.slice (some ⟨b,0,none⟩) n n) xs S'→O P κ ops Q rest ((d,.slice (some ⟨b,0,none⟩) n n)::L) (S'++H)):O P κ ops Q (⟨some d,.buildSlice t n parts,ty,pos,af,none⟩::rest) L H:=by
 refine uU (fun v H'=>∃ b S',v = .slice (some ⟨b,0,none⟩) n n∧aG E k T v xs S'∧H'=S'++H) hn (fun ρ w pos af g hρ st=>?_) (fun v H' ⟨b,S',e1,ho,e2⟩=>by subst e1;subst e2;exact h b S' ho)
 subst hl
 have rK:(parts.map fun (i,x)=>(i,ρ x)).toList=(List.range' 0 xs.length).zip vs:=by
   rw[Array.toList_map,← hi]
   exact nE hρ _ _ hp
 have hf:∀ arr:Array Value,arr.size=xs.length*k→Instr.fill (fun i=>some (i*k,k)) arr ((List.range' 0 xs.length).zip vs)=some (flat E xs).toArray:=by
   intro arr ha
   have:=BU xs vs 0 [] arr.toList hc (by simp) (by simpa using ha)
   simpa using this
 refine⟨_,w.alloc (.cells (flat E xs).toArray T),[(w.heap.size,.cells (flat E xs).toArray T (0,0))]++H,?_,⟨w.heap.size,_,rfl,?_,rfl⟩,st.alloc _⟩
 · have H6:¬ (xs.length*k>2 ^ 24):=by omega
   have key:(Instr.buildSlice t xs.length (parts.map fun (i,x)=>(i,ρ x))).run P w = .ok (.slice (some ⟨w.heap.size,0,none⟩) xs.length xs.length) (w.alloc (.cells (flat E xs).toArray T)):=by
     by_cases h0:xs.length*k=0
     · simp only[Instr.buildSlice,Sem.run_bind,cS,bV,Result.andThen_ok,rK,if_neg H6,if_pos h0,Sem.run_pure]
       rw[hf _ (by simp)]
       simp[newRow]
     · simp only[Instr.buildSlice,Sem.run_bind,cS,bV,Result.andThen_ok,rK,if_neg H6,if_neg h0,Sem.run_pure,kQ]
       rw[hf _ (by simp)]
       simp[newRow]
   simp only[execOp,Sem.run_bind,key,Result.andThen_ok,Sem.run_pure]
 · have:=aG.yo (E:=E) (k:=k) (T:=T) (b:=w.heap.size) (c:=xs.length) (xs:=xs) (zs:=[]) (fr:=(0,0)) (by simp[cD]) (Nat.le_refl _) hbn (by simp) (.inr rfl)
   simpa using this
end
end Go.HL
namespace Go.HL
open Go
section
variable {P:Program}{κ:Cx}{Q:gR}{L L':Loc}{H H':Hp}{ops:Array Oper}{rest:List Oper}{ty t t':TypeId}{d:Nat}{pos:String}{af:Array Edge}{v u:Value}{x y z:Operand}{dst:Option Tmp}{α:Type}{E:α→List Value}{k:Nat}
theorem A3 {w:World}{b off:Nat}{c:Array Value}{T:TypeId}{f:Nat×Nat}(hb:w.heap[b]?=some (.cells c T f)) :
   (w.freeze ⟨b,off,none⟩ 1).heap=w.heap.setIfInBounds b (.cells c T (if f.1==f.2 then (off,off+1) else (min f.1 off,max f.2 (off+1)))):=by
 have cH:=jD hb
 simp only[World.freeze,Nat.one_ne_zero,if_false]
 apply Array.ext_getElem?
 intro i
 rw[Array.getElem?_modify]
 by_cases e:b=i
 · subst e
   rw[if_pos rfl,hb,Array.getElem?_setIfInBounds_self_of_lt cH]
   simp
 · rw[if_neg e,Array.getElem?_setIfInBounds_ne e]
theorem r7 {T:TypeId}{a:Addr}{n c:Nat}{xs:List α}{S R:Hp} [TU P t (.slice T)] [TU P T (.int .u8)](hx:ev L x=some (.slice (some a) n c))(ho:aG E 1 T (.slice (some a) n c) xs S)(gS:aJ H S R)(hn:Nat.blt d κ.n=true)
   (h:∀ S',aG E 1 T (.slice (some a) n c) xs S'→O P κ ops Q rest ((d,.slice (some a) n c)::L) (S'++R)):O P κ ops Q (⟨some d,.convert t t x,ty,pos,af,none⟩::rest) L H:=by
 refine uU (fun v H'=>∃ S',v = .slice (some a) n c∧aG E 1 T (.slice (some a) n c) xs S'∧H'=S'++R) hn (fun ρ w pos af g hρ st=>?_) (fun v H' ⟨S',e1,ho,e2⟩=>by subst e1;subst e2;exact h S' ho)
 have H5:=st.perm gS.perm
 cases ho with
 | yo hc hn' hm h1 hf=>
   rename_i b zs fr
   have hb:w.heap[b]?=_:=H5.has _ _ (List.mem_append_left _ List.mem_cons_self)
   have hh:=A3 (off:=(flat E xs++zs).length) hb
   refine⟨_,w.freeze ⟨b,(flat E xs++zs).length,none⟩ 1,[(b,_)]++R,?_,⟨_,rfl,?_,rfl⟩,St.put (R:=R) H5 hh rfl rfl rfl⟩
   · have hr:(convert t t (.slice (some ⟨b,0,none⟩) xs.length c)).run P w = .ok (.slice (some ⟨b,0,none⟩) xs.length c) (w.freeze ⟨b,(flat E xs++zs).length,none⟩ 1):=by
       unfold convert
       simp only[Sem.run_bind,cS,Result.andThen_ok,beq_self_eq_true]
       simp[markStringish,shape,Sem.run,World.shape?,hb,freeze]
     simp only[execOp,hρ _ _ hx,Sem.run_bind,hr,Result.andThen_ok,Sem.run_pure]
   · refine aG.yo hc hn' hm h1 (.inl ?_)
     rcases hf with hf|rfl
     · split
       · simp only;omega
       · simp only;omega
     · simp only[beq_self_eq_true,if_true];omega
theorem l9 {e s fL n c:Nat}{a:Option Addr}{kh:IntKind}{h:Int} [TU P t (.slice e)] [TI P e s fL](hx:ev L x=some (.slice a n c))(hy:ev L y=some (.int kh h))(hb:0≤h∧h≤c) :
   Step P κ (.slice t x none (some y) none) ty L H (.slice a h.toNat c):=
 ⟨fun ρ w d pos af g hρ _=>by
   have e1:(if c=0 then a else a.map (·.add (0*s)))=a:=by
     split
     · rfl
     · cases a <;> simp[Addr.add]
   have e2:(Instr.slice t (.slice a n c) none (some (.int kh h)) none).run P w = .ok (.slice a h.toNat c) w:=by
     simp only[Nat.zero_mul] at e1
     simp[Instr.slice,cS,Instr.sliceBounds,Instr.sliceBound,asIntOf,hb,bV]
     intro hc
     rw[if_neg hc] at e1
     simpa using e1
   simp[execOp,hρ _ _ hx,hρ _ _ hy,Instr.sliceAt,cS,e2]⟩
theorem aG.pre [he:eB E k]{T:TypeId}{a:Option Addr}{n c:Nat}{xs:List α}{S:Hp}(ho:aG E k T (.slice a n c) xs S)(m:Nat)(hm:m≤n):aG E k T (.slice a m c) (xs.take m) S:=by
 cases ho with
 | nil => have : m = 0 := by omega
          subst this; exact .nil
 | yo hc hn hM h1 hf=>
   rename_i b zs fr
   have e:flat E xs++zs=flat E (xs.take m)++(flat E (xs.drop m)++zs):=by rw[← List.append_assoc,← fH,List.take_append_drop]
   have hl:(xs.take m).length=m:=by simp;omega
   rw[e] at hc ⊢
   have:=aG.yo (E:=E) (k:=k) (T:=T) (b:=b) (c:=c) (xs:=xs.take m) (zs:=flat E (xs.drop m)++zs) (fr:=fr) hc (by omega) (by omega) (by
     intro v hv
     rcases List.mem_append.1 hv with hv|hv
     · exact dH E _ v hv
     · exact h1 v hv) hf
   rw[hl] at this
   exact this
section
variable {j:IntKind}{a b:Int}
theorem gW (hx:ev L x=some (.int j a))(hy:ev L y=some (.int j b)):Step P κ (.binOp .and t x y t') ty L H (.int j (j.wrap (BitVec.ofInt j.bits a &&& BitVec.ofInt j.bits b).toNat)):=
 ⟨fun ρ w d pos af g hρ _=>by simp[execOp,hρ _ _ hx,hρ _ _ hy,eqGuard,binOp,Op.intBits]⟩
theorem IM (hx:ev L x=some (.int j a))(hy:ev L y=some (.int j b)):Step P κ (.binOp .or t x y t') ty L H (.int j (j.wrap (BitVec.ofInt j.bits a ||| BitVec.ofInt j.bits b).toNat)):=
 ⟨fun ρ w d pos af g hρ _=>by simp[execOp,hρ _ _ hx,hρ _ _ hy,eqGuard,binOp,Op.intBits]⟩
theorem Yh (hx:ev L x=some (.int j a))(hy:ev L y=some (.int j b)):Step P κ (.binOp .xor t x y t') ty L H (.int j (j.wrap (BitVec.ofInt j.bits a ^^^ BitVec.ofInt j.bits b).toNat)):=
 ⟨fun ρ w d pos af g hρ _=>by simp[execOp,hρ _ _ hx,hρ _ _ hy,eqGuard,binOp,Op.intBits]⟩
theorem EA {j':IntKind}(hx:ev L x=some (.int j a))(hy:ev L y=some (.int j' b))(h:0≤b):Step P κ (.binOp .shl t x y t') ty L H (.int j (j.wrap (a*2 ^ (min b.toNat j.bits)))):=
 ⟨fun ρ w d pos af g hρ _=>by
   have:¬ b<0:=by omega
   simp[execOp,hρ _ _ hx,hρ _ _ hy,eqGuard,binOp,Op.shift,this]⟩
theorem j6 {j':IntKind}(hx:ev L x=some (.int j a))(hy:ev L y=some (.int j' b))(h:0≤b):Step P κ (.binOp .shr t x y t') ty L H (.int j (a.fdiv (2 ^ (min b.toNat j.bits)))):=
 ⟨fun ρ w d pos af g hρ _=>by
   have:¬ b<0:=by omega
   simp[execOp,hρ _ _ hx,hρ _ _ hy,eqGuard,binOp,Op.shift,this]⟩
theorem Ah (hx:ev L x=some (.int j a))(hy:ev L y=some (.int j b))(h:b≠0):Step P κ (.binOp .quo t x y t') ty L H (.int j (j.wrap (a.tdiv b))):=
 ⟨fun ρ w d pos af g hρ _=>by simp[execOp,hρ _ _ hx,hρ _ _ hy,eqGuard,binOp,Op.intDiv,h]⟩
theorem jZ (hx:ev L x=some (.int j a))(hy:ev L y=some (.int j b))(h:b≠0):Step P κ (.binOp .rem t x y t') ty L H (.int j (a.tmod b)):=
 ⟨fun ρ w d pos af g hρ _=>by simp[execOp,hρ _ _ hx,hρ _ _ hy,eqGuard,binOp,Op.intDiv,h]⟩
end
def Eb (b:UInt8):List Value:=[.int .u8 b.toNat]
instance:eB Eb 1:=⟨fun _=>rfl,fun _ _ h=>by simp[Eb] at h;subst h;rfl⟩
theorem KJ (A B:Loc)(i:Nat):look (A++B) i=match look A i with|some v=>some v|none=>look B i:=by
 induction A with
 | nil=>simp[look]
 | cons p A ih=>
   obtain⟨j,u⟩:=p
   simp only[List.cons_append,look]
   by_cases e:j=i
   · subst e;simp
   · rw[N9 e];simp only[cond_false];exact ih
theorem Sub.app {L A B:Loc}(ha:Sub L A)(hb:Sub L B):Sub L (A++B):=by
 intro i v h
 rw[KJ] at h
 cases hA:look A i with
 | some u=>rw[hA] at h;simp only[Option.some.injEq] at h;subst h;exact ha i _ hA
 | none=>rw[hA] at h;exact hb i v h
theorem aL {ι:Type}{body:Code}(I:ι→Prop)(dd:ι→Loc)(base:Loc)(Hf:ι→Hp)(m:ι→Nat)(i0:ι)(h0:I i0)(hL:Sub L (dd i0))(hb:Sub L base)(hH:HSub H (Hf i0))
   (round:∀ i,I i→C P κ (Exit.then (Inv κ I (fun i=>dd i++base) Hf m i) Q) body (dd i++base) (Hf i)):C P κ Q (.loop body) L H:=
 ky I (fun i=>dd i++base) Hf m i0 h0 (hL.app hb) hH round
theorem fU {ι:Type}{x y:Code}(I:ι→Prop)(dd:ι→Loc)(base:Loc)(Hf:ι→Hp)(_hb:Sub L base)(hy:∀ g,I g→C P κ Q y (dd g++base) (Hf g))
   (hx:∀ K,(∀ g L' H',I g→Sub L' (dd g)→Sub L' base→HSub H' (Hf g)→X κ K L' H')→C P κ (Exit.then K Q) x L H):C P κ Q (.seq x y) L H:=
 ah fun K hK=>hx K fun g _L' _H' hI h1 h2 h3=>cM (h1.app h2) h3 (hK _ _ (hy g hI))
theorem Sub.fY {L L':Loc}{i:Nat}{u v:Value}(h:look L i=some u)(e:u=v)(hs:Sub L L'):Sub L ((i,v)::L'):=by subst e;exact Sub.cons h hs
theorem fX {zv:Value}{cs:Array Value}{m e s fL:Nat} [TU P t (.array m e)] [TI P e s fL] [tz:TZ P t zv](hz:zv.cells=cs):Step P κ (.build t #[]) ty L H (.agg cs):=
 ⟨fun ρ w d pos af g hρ _=>by simp[execOp,Instr.build,kQ,cS,bV,Instr.fill,hz]⟩
end
end Go.HL
namespace Go.HL
open Go
section
variable {P:Program}{κ:Cx}{Q:gR}{L L':Loc}{H H':Hp}{ops:Array Oper}{rest:List Oper}{ty t t':TypeId}{d:Nat}{pos:String}{af:Array Edge}{v u:Value}{x y z:Operand}{dst:Option Tmp}{α:Type}{E:α→List Value}{k:Nat}
theorem cY {ι ι':Type}{body:Code}(I:ι→ι'→Prop)(dd:ι→ι'→Loc)(base:Loc)(Hf:ι→ι'→Hp)(m:ι→ι'→Nat)(i0:ι)(Fi:ι')(h0:I i0 Fi)(hL:Sub L (dd i0 Fi))(hb:Sub L base)(hH:HSub H (Hf i0 Fi))
   (round:∀ i i',I i i'→C P κ (Exit.then (Inv κ (fun p:ι×ι'=>I p.1 p.2) (fun p=>dd p.1 p.2++base) (fun p=>Hf p.1 p.2) (fun p=>m p.1 p.2) (i,i')) Q) body (dd i i'++base) (Hf i i')):C P κ Q (.loop body) L H:=
 ky (fun p:ι×ι'=>I p.1 p.2) (fun p=>dd p.1 p.2++base) (fun p=>Hf p.1 p.2) (fun p=>m p.1 p.2) (i0,Fi) h0 (hL.app hb) hH (fun p hp=>round p.1 p.2 hp)
theorem dt {ι ι' ι2:Type}{body:Code}(I:ι→ι'→ι2→Prop)(dd:ι→ι'→ι2→Loc)(base:Loc)(Hf:ι→ι'→ι2→Hp)(m:ι→ι'→ι2→Nat)(i0:ι)(Fi:ι')(i2:ι2)(h0:I i0 Fi i2)(hL:Sub L (dd i0 Fi i2))(hb:Sub L base)(hH:HSub H (Hf i0 Fi i2))
   (round:∀ i i' j,I i i' j→C P κ (Exit.then (Inv κ (fun p:ι×ι'×ι2=>I p.1 p.2.1 p.2.2) (fun p=>dd p.1 p.2.1 p.2.2++base) (fun p=>Hf p.1 p.2.1 p.2.2) (fun p=>m p.1 p.2.1 p.2.2) (i,i',j)) Q) body (dd i i' j++base) (Hf i i' j)):C P κ Q (.loop body) L H:=
 ky (fun p:ι×ι'×ι2=>I p.1 p.2.1 p.2.2) (fun p=>dd p.1 p.2.1 p.2.2++base) (fun p=>Hf p.1 p.2.1 p.2.2) (fun p=>m p.1 p.2.1 p.2.2) (i0,Fi,i2) h0 (hL.app hb) hH (fun p hp=>round p.1 p.2.1 p.2.2 hp)
theorem fM {ι ι' ι2 ι3:Type}{body:Code}(I:ι→ι'→ι2→ι3→Prop)(dd:ι→ι'→ι2→ι3→Loc)(base:Loc)(Hf:ι→ι'→ι2→ι3→Hp)(m:ι→ι'→ι2→ι3→Nat)(i0:ι)(Fi:ι')(i2:ι2)(i3:ι3)(h0:I i0 Fi i2 i3)(hL:Sub L (dd i0 Fi i2 i3))(hb:Sub L base)(hH:HSub H (Hf i0 Fi i2 i3))
   (round:∀ i i' j q,I i i' j q→C P κ (Exit.then (Inv κ (fun p:ι×ι'×ι2×ι3=>I p.1 p.2.1 p.2.2.1 p.2.2.2) (fun p=>dd p.1 p.2.1 p.2.2.1 p.2.2.2++base) (fun p=>Hf p.1 p.2.1 p.2.2.1 p.2.2.2) (fun p=>m p.1 p.2.1 p.2.2.1 p.2.2.2) (i,i',j,q)) Q) body (dd i i' j q++base) (Hf i i' j q)):C P κ Q (.loop body) L H:=
 ky (fun p:ι×ι'×ι2×ι3=>I p.1 p.2.1 p.2.2.1 p.2.2.2) (fun p=>dd p.1 p.2.1 p.2.2.1 p.2.2.2++base) (fun p=>Hf p.1 p.2.1 p.2.2.1 p.2.2.2) (fun p=>m p.1 p.2.1 p.2.2.1 p.2.2.2) (i0,Fi,i2,i3) h0 (hL.app hb) hH (fun p hp=>round p.1 p.2.1 p.2.2.1 p.2.2.2 hp)
theorem bX [he:eB E k]{T fL XO:Nat}{zv:Value}{xs ys:List α}{S R:Hp} [tu:TU P t (.slice T)] [XP:TU P t' (.slice XO)] [ti:TI P T k fL] [tz:TZ P T zv]
   (ho:aG E k T v xs S)(hs:cq E κ H u ys)(J6:zv.cells.size=k)(J7:zv.cells.toList.all (·.oneCell')=true)
   (hx:ev L x=some v)(hy:ev L y=some u)(hb:(xs.length+ys.length)*fL≤140737488355328)(AW:xs.length+ys.length≤140737488355328)(hn:Nat.blt d κ.n=true)(gS:aJ H S R)
   (h:∀ a c S',aG E k T (.slice a (xs++ys).length c) (xs++ys) S'→O P κ ops Q rest ((d,.slice a (xs++ys).length c)::L) (S'++R)):O P κ ops Q (⟨some d,.call ⟨.builtin .append,#[x,y],#[t,t']⟩,ty,pos,af,none⟩::rest) L H:=
 J8 ho hs J6 J7 hx hy hb AW hn gS (fun v' S' mJ=>by
   obtain⟨a,c,e,_⟩:=mJ.sl.out
   subst e
   exact h a c S' mJ)
theorem bf {b s:Nat}{l cs:List Value}{T:TypeId}{fL:Nat} [TI P t s fL](hx:ev L x=some (.pointer (some ⟨b,0,none⟩)))(hy:ev L y=some (.agg cs.toArray))(hu:pW H b (.cells l.toArray T (0,0)) (.cells cs.toArray T (0,0)) H')(hs:cs.length=s)(hl:l.length=s)(h1:∀ v∈cs,v.oneCell'=true)
   (h:O P κ ops Q rest L H'):O P κ ops Q (⟨none,.store t x y,ty,pos,af,none⟩::rest) L H:=JR hx hy hs hl h1 hu h
theorem aD {b off s fL:Nat}{cs:List Value} [TG P t false] [TI P t s fL](hx:ev L x=some (.pointer (some ⟨b,off,none⟩)))(hc:CC κ H ⟨b,off,none⟩ cs)(hl:cs.length=s) :
   Step P κ (.load t x) ty L H (.agg cs.toArray):=XQ hx hl hc
def fR (b:Bool):List Value:=[.bool b]
instance:eB fR 1:=⟨fun _=>rfl,fun _ _ h=>by simp[fR] at h;subst h;rfl⟩
theorem Fn.weaken {f:FuncId}{args:List Value}{pre XR:World→Prop}{S:Hp}{post Ae:Value→Hp→Prop}(h:Fn P f args pre S post)(hp:∀ w,XR w→pre w)(hq:∀ v S',post v S'→Ae v S'):Fn P f args XR S Ae:=
 ⟨h.enters,fun w hw hS=>(h.calls w (hp w hw) hS).mono fun e w' iG=>by
   obtain⟨v,S',he,hv,dV⟩:=iG.out
   exact⟨v,S',he,hq _ _ hv,dV⟩⟩
end
end Go.HL
namespace Go.HL
open Go Go.RowKit Go.ChangeShapes Go.WideShapes Go.ChangeAt
theorem nZ {H:Type}{enc:TypeId×Value→H}{P:Program}(hl:laidOutB P=true){W W':World}(hb:Below W.heap.size W W'):∀ {ts:List TypeId}{vs:List Value}{ds:List (DataW H)}{ps:List MemPlace},
   ts.all (fun t=>P.readableRec t&&decide (t<P.types.size))=true→DataW.TrodAll enc P W 0 (fun _=>true) true ts vs ds ps→DataW.TrodAll enc P W' 0 (fun b=>decide (b<W.heap.size)) true ts vs ds ps
 | [],_,_,_,_,h=>by obtain⟨rfl,rfl,rfl⟩:=trodAll_nil h;exact trodAll_mk0
 | t::ts,vs,ds,ps,hr,h=>by
   obtain⟨v,vs',d,ds',p,q,rfl,rfl,rfl,h1,h2⟩:=trodAll_cons h
   simp only[List.all_cons,Bool.and_eq_true,decide_eq_true_eq] at hr
   have lt:∀ x∈p,x.block<W.heap.size:=by obtain⟨m,hm⟩:=h1;exact DataW.trod_lt m _ _ _ hm
   exact trodAll_cons_mk (Below.trod hl hr.1.1 hr.1.2 h1 hb lt) (nZ hl hb hr.2 h2)
theorem rV {H:Type}{enc:TypeId×Value→H}{P:Program}{W:World}{base:Nat}{sp:Nat→Bool}{held:Bool}:∀ {ts:List TypeId}{vs:List Value}{ds:List (DataW H)}{ps:List MemPlace},DataW.TrodAll enc P W base sp held ts vs ds ps→ds.length=ts.length
 | [],_,_,_,h=>by obtain⟨rfl,rfl,rfl⟩:=trodAll_nil h;rfl
 | t::ts,vs,ds,ps,h=>by
   obtain⟨v,vs',d,ds',p,q,rfl,rfl,rfl,h1,h2⟩:=trodAll_cons h
   simp[rV h2]
class gz (P:Program)(t:TypeId){α:Type}(E:α→List Value)(Mem:World→α→Prop):Prop where
 out:∀ {H:Type}(enc:TypeId×Value→H)(w:World)(fuel:Nat)(cs:List Value)(x:DataW H×List MemPlace),DataW.trod enc P w 0 (fun _=>true) true fuel t cs=some x→(∀ n∈x.1.weights P t,n≤reachBytes)→∃ a,cs=E a∧Mem w a
def Ei (n:Int):List Value:=[.int .i64 n]
instance:eB Ei 1:=⟨fun _=>rfl,fun _ _ h=>by simp[Ei] at h;subst h;rfl⟩
theorem pj {P:Program}{t:TypeId}(ht:P.underlying t=some (.int .i64)):gz P t Ei (fun _ n=>-9223372036854775808≤n∧n≤9223372036854775807):=by
 refine⟨fun enc w fuel cs x h _=>?_⟩
 obtain⟨n,rfl,_,hw⟩:=DataW.trod_int ht h
 refine⟨n,rfl,?_⟩
 simp only[Lit.wf] at hw
 simpa [IntKind.min,IntKind.max,IntKind.signed,IntKind.bits] using hw
def Es (s:ByteArray):List Value:=[.string s]
instance:eB Es 1:=⟨fun _=>rfl,fun _ _ h=>by simp[Es] at h;subst h;rfl⟩
structure Sl (α:Type) where
 a:Option Addr
 c:Nat
 xs:List α
def Sl.v {α:Type}(s:Sl α):Value:=.slice s.a s.xs.length s.c
def cX {α:Type}(s:Sl α):List Value:=[s.v]
instance {α:Type}:eB (cX (α:=α)) 1:=⟨fun _=>rfl,fun _ _ h=>by simp[cX] at h;subst h;rfl⟩
theorem jy {H:Type}{P:Program}{e:TypeId}:∀ {l:List (DataW H)}{d:DataW H},d∈l→∀ n∈d.weights P e,n∈DataW.weightsAll P e l
 | d0::l,d,hd,n,hn=>by
   simp only[DataW.weightsAll,List.mem_append]
   rcases List.mem_cons.1 hd with rfl|hd
   · exact .inl hn
   · exact .inr (jy hd n hn)
theorem yK {α:Type}{p:Nat→α→Prop}:∀ n,(∀ i,i<n→∃ y,p i y)→∃ xs:List α,xs.length=n∧∀ i y,xs[i]?=some y→p i y
 | 0,_=>⟨[],rfl,fun i y h=>by simp at h⟩
 | n+1,h=>by
   obtain⟨xs,hl,hp⟩:=yK n (fun i hi=>h i (by omega))
   obtain⟨y,hy⟩:=h n (by omega)
   refine⟨xs++[y],by simp[hl],fun i z hz=>?_⟩
   rw[List.getElem?_append] at hz
   split at hz
   · exact hp i z hz
   · rename_i hi
     have z0:i=n:=by
       rcases Nat.lt_or_ge (i-xs.length) 1 with h1|h1
       · omega
       · rw[List.getElem?_eq_none (by simpa using h1)] at hz;cases hz
     subst z0
     rw[hl,Nat.sub_self] at hz
     simp at hz
     subst hz;exact hy
theorem Av {P:Program}{t e:TypeId}{α:Type}{E:α→List Value}{Mem:World→α→Prop}{k:Nat} [he:eB E k](ht:P.underlying t=some (.slice e))(hk:P.cellsOf e=k)(o6:0<k)(hb:0<P.bytesOf e)(ho:gz P e E Mem) :
   gz P t (cX (α:=α)) (fun w s=>Rd E w s.v s.xs∧(∀ x∈s.xs,Mem w x)∧s.xs.length*P.bytesOf e≤140737488351232):=by
 refine⟨fun enc w fuel cs x h hw=>?_⟩
 rcases DataW.trod_slice ht h with ⟨rfl,_⟩|⟨a,len,cap,elems,rest,n,_,rfl,hx,_,hl,_,hlen,kH,wc,_⟩
 · exact⟨⟨none,0,[]⟩,rfl,Rd.nil E w,by simp,by simp⟩
 · obtain⟨hr,_⟩:=wc rfl
   have mS:(elems.length+rest.length)*P.bytesOf e≤140737488351232:=by
     have:=hw ((elems.length+rest.length)*P.bytesOf e) (by rw[hx];simp[DataW.weights,ht])
     simpa [reachBytes] using this
   have jq:cap≤140737488351232:=by
     have h1:(elems.length+rest.length)≤(elems.length+rest.length)*P.bytesOf e:=Nat.le_mul_of_pos_right _ hb
     omega
   have each:∀ i,i<len→∃ y,E y=(List.range k).map (fun j=>(w.cell? ((a.add (i*k)).add j)).getD undef)∧(∀ j,j<k→w.cell? ((a.add (i*k)).add j)=(E y)[j]?)∧Mem w y:=by
     intro i hi
     have h1:=kH i hi
     rw[List.getElem?_eq_getElem (by omega)] at h1
     simp only[Option.bind_eq_some_iff] at h1
     obtain⟨sk,qJ,hy⟩:=h1
     rw[hk] at qJ
     obtain⟨y,rfl,hm⟩:=ho.out enc w n sk _ hy (fun n hn=>hw n (by
       rw[hx]
       simp only[DataW.weights,ht,List.mem_cons,List.mem_append]
       refine .inr (.inl (jy (List.mem_map.2 ⟨elems[i],List.getElem_mem _,rfl⟩) n hn))))
     obtain⟨_,h2,h3⟩:=World.cells?_some qJ
     refine⟨y,?_,h3,hm⟩
     apply List.ext_getElem?
     intro j
     by_cases hj:j<k
     · rw[List.getElem?_map,List.getElem?_range hj,Option.map_some,h3 j hj,List.getElem?_eq_getElem (by rw[he.len];exact hj)]
       rfl
     · rw[List.getElem?_eq_none (by rw[he.len];omega),List.getElem?_eq_none (by simp;omega)]
   obtain⟨xs,mH,VX⟩:=yK len each
   have Qd:len≠0→a.spot=none:=by
     intro h0
     have hy:=List.getElem?_eq_getElem (l:=xs) (i:=0) (by omega)
     obtain⟨_,h3,_⟩:=VX 0 _ hy
     have h4:=h3 0 o6
     rw[List.getElem?_eq_getElem (by rw[he.len];exact o6)] at h4
     simp only[Nat.zero_mul] at h4
     cases hs:a.spot with
     | none=>rfl
     | some q=>
       have e:(a.add 0).add 0=a:=rfl
       rw[e] at h4
       unfold World.cell? at h4
       rw[hs] at h4
       simp at h4
       split at h4 <;> simp at h4
   subst mH;refine⟨⟨some a,cap,xs⟩,rfl,⟨⟨⟨some a,cap,rfl,hl,(fun h=>by cases h),(fun A hA h0=>by cases hA;exact Qd h0)⟩,by show xs.length≤_;omega⟩,fun j u hu=>?_⟩,fun x wF=>?_,?_⟩
   · have hj:j<xs.length*k:=by
       rcases Nat.lt_or_ge j (xs.length*k) with h'|h'
       · exact h'
       · rw[List.getElem?_eq_none (by rw[cD];exact h')] at hu;cases hu
     have hq:j / k<xs.length:=(Nat.div_lt_iff_lt_mul o6).2 hj
     have z6:j % k<k:=Nat.mod_lt _ o6
     have e0:j / k*k+j % k=j:=by rw[Nat.mul_comm];exact Nat.div_add_mod j k
     have hy:=List.getElem?_eq_getElem hq
     have Qe:=kM E xs hy z6
     rw[e0,hu] at Qe
     obtain⟨_,h3,_⟩:=VX _ _ hy
     rw[← h3 _ z6] at Qe
     have oR:=Qd (fun h0=>absurd (h0 ▸ hq) (Nat.not_lt_zero _))
     obtain⟨b,o,sp⟩:=a
     simp only at oR;subst oR
     rw[Addr.add_lit,Addr.add_lit] at Qe
     rw[show ea (Sl.v ⟨some ⟨b,o,none⟩,cap,xs⟩) j=⟨b,o+j,none⟩ from rfl,Qe]
     have e3:o+j=o+j / k*k+j % k:=by rw[Nat.add_assoc,e0]
     rw[e3]
   · obtain⟨i,hi,rfl⟩:=List.getElem_of_mem wF
     exact (VX i _ (List.getElem?_eq_getElem hi)).2.2
   · have:xs.length*P.bytesOf e≤(elems.length+rest.length)*P.bytesOf e:=Nat.mul_le_mul_right _ (by omega)
     exact Nat.le_trans this mS
theorem CI {P:Program}{t e n:Nat}{α:Type}{E:α→List Value}{Mem:World→α→Prop}{k:Nat} [he:eB E k](ht:P.underlying t=some (.array n e))(hk:P.cellsOf e=k)(hc:P.cellsOf t=n*k)(ho:gz P e E Mem) :
   gz P t (flat E) (fun w xs=>xs.length=n∧∀ x∈xs,Mem w x):=by
 refine⟨fun enc w fuel cs x h hw=>?_⟩
 obtain⟨ys,m,_,hx,jq,hyl,kH⟩:=DataW.trod_array ht h
 rw[hk] at kH
 rw[hc] at jq
 have each:∀ i,i<n→∃ y,(cs.drop (i*k)).take k=E y∧Mem w y:=by
   intro i hi
   have h1:=kH i hi
   rw[List.getElem?_eq_getElem (by omega)] at h1
   refine ho.out enc w m _ _ h1 (fun q hq=>hw q ?_)
   rw[hx]
   simp only[DataW.weights,ht]
   exact jy (List.mem_map.2 ⟨ys[i],List.getElem_mem _,rfl⟩) q hq
 obtain⟨xs,mH,VX⟩:=yK n each
 refine⟨xs,?_,mH,fun x wF=>?_⟩
 · apply List.ext_getElem?
   intro j
   rcases Nat.eq_zero_or_pos k with o6|o6
   · subst o6
     have e1:cs.length=0:=by simpa using jq
     have e2:(flat E xs).length=0:=by rw[cD];simp
     rw[List.getElem?_eq_none (by omega),List.getElem?_eq_none (by omega)]
   by_cases hj:j<n*k
   · have hq:j / k<n:=(Nat.div_lt_iff_lt_mul o6).2 hj
     have z6:j % k<k:=Nat.mod_lt _ o6
     have e0:j / k*k+j % k=j:=by rw[Nat.mul_comm];exact Nat.div_add_mod j k
     have hy:=List.getElem?_eq_getElem (l:=xs) (i:=j / k) (by omega)
     have h1:=kM E xs hy z6
     rw[e0] at h1
     rw[h1,← (VX _ _ hy).1,List.getElem?_take,if_pos z6,List.getElem?_drop,e0]
   · rw[List.getElem?_eq_none (by omega),List.getElem?_eq_none (by rw[cD,mH];omega)]
 · obtain⟨i,hi,rfl⟩:=List.getElem_of_mem wF
   exact (VX i _ (List.getElem?_eq_getElem hi)).2
theorem gz.arg {P:Program}{t:TypeId}{α:Type}{E:α→List Value}{Mem:World→α→Prop}(ho:gz P t E Mem){H:Type}{enc:TypeId×Value→H}{w:World}{v:Value}{d:DataW H}{p:List MemPlace}(h:DataW.Trod enc P w 0 (fun _=>true) true t v d p)(hw:∀ n∈d.weights P t,n≤reachBytes) :
   ∃ a,v.cells.toList=E a∧Mem w a:=by
 obtain⟨fuel,hf⟩:=h
 exact ho.out enc w fuel _ _ hf hw
theorem Gy {P:Program}{t e:TypeId}{α:Type}{_E:α→List Value}{Mem:World→Sl α→Prop}(ht:P.underlying t=some (.slice e))(ho:gz P t (cX (α:=α)) Mem){H:Type}{enc:TypeId×Value→H}{w:World}{v:Value}{d:DataW H}{p:List MemPlace}
   (hv:∃ b,Value.okWide P w .any b t v)(h:DataW.Trod enc P w 0 (fun _=>true) true t v d p)(hw:∀ n∈d.weights P t,n≤reachBytes):∃ s:Sl α,v=s.v∧Mem w s:=by
 obtain⟨b,hv⟩:=hv
 obtain⟨a,l,c,rfl⟩:=okWide_slice ht hv
 obtain⟨s,h1,h2⟩:=ho.arg h hw
 exact⟨s,by simpa [Value.cells,cX] using h1,h2⟩
end Go.HL
