/- Part of the proofs over this seat: see the text that holds the theorem. Conditions: each theorem bears its own. -/
import Derived.Test.YtmompllplidphaaGreatDoorGSW14Z
import Derived.Test.YtmompllplidphaaGreatDoorHTZ
import Derived.Test.YtmompllplidphaaGreatDoorMC9Z
import Derived.Test.YtmompllplidphaaGreatDoorGSN4Z
import Derived.Test.YtmompllplidphaaGreatDoorGB6Z
import Derived.Test.YtmompllplidphaaGreatDoorGSW2Z
import Derived.Test.YtmompllplidphaaGreatDoorGB1Z
import Derived.Test.YtmompllplidphaaGreatDoorGSN1Z
import Derived.Test.YtmompllplidphaaGreatDoorGSW4Z
namespace Go.HL.Kl.Mc
open Go Go.HL Go.HL.Kl
noncomputable def aof (re:List Nd):Int:=if bz re=false then 49 else if ez re=true then 44 else 0
structure afd (l:List Nd)(n j:Nat):Prop where
 len:l.length=n
 Gz:∀ x∈l,-128≤x.op∧x.op<128
 get:∀ t,t<j→∃ y,l[t]?=some y∧y.op=1∧y.kids=0
def afe (j:Nat):Cl:=X4 9#64 0#64 (BitVec.ofNat 64 j) 0#64
attribute [irreducible] afe
def Fw (i:Nat):Nd:=⟨0,0,((1048576*9+i+1:Nat):Int),-7,0,0⟩
theorem Qz (i:Nat):En (Fw i) = [.int .i8 0,.int .u64 0,.int .u64 0,.int .u64 0,.int .u64 0,.int .i64 ((1048576*9+i+1:Nat):Int),.int .i64 (-7),.int .i64 0,.int .i64 0]:=by
 show _::(Ec 0#256++_)=_
 rw[bk];rfl
end Go.HL.Kl.Mc
namespace Go.HL.Kl.Mc
open Go Go.HL Go.HL.Kl jg
structure Qf (re:List Nd)(w:List UInt8)(x:Nd)(ks:F):Prop where
 sh:bz re=true
 rf:ez re=false
 hs:iR re x ks
def WU (T:Nat)(w:List UInt8)(re:List Nd)(x:Nd)(ks:F)(p q:Nat)(v:Value)(S':Hp):Prop:=∃ a cc,v = .tuple #[.slice a (Ag w re x ks p q).length cc,.bool true]∧aG PY 2 T (.slice a (Ag w re x ks p q).length cc) (Ag w re x ks p q) S'
def aii (T:Nat)(re:List Nd)(w:List UInt8)(fr to:Int)(v:Value)(S':Hp):Prop:=
 (∃ x ks,∃ p q:Nat,Qf re w x ks∧fr=p∧to=q∧p≤q∧q≤w.length∧fw w x ks p q∧WU T w re x ks p q v S') ∨
 ((¬ ∃ x ks,∃ p q:Nat,Qf re w x ks∧fr=p∧to=q∧p≤q∧q≤w.length∧fw w x ks p q)∧v = .tuple #[.slice none 0 0,.bool false]∧S' = [])
structure Lft (w:List UInt8)(x:Nd)(ks:F)(f p q:Nat):Prop where
 ge:f≤p
 le:p≤q
 len:q≤w.length
 kn:fw w x ks p q
 left:∀ p' q',f≤p'→p'<p→q'≤w.length→¬ fw w x ks p' q'
 alO:∀ q',q<q'→q'≤w.length→¬ fw w x ks p q'
def aik (T:Nat)(re:List Nd)(w:List UInt8)(f:Int)(v:Value)(S':Hp):Prop:=
 (∃ x ks,∃ g p q:Nat,Qf re w x ks∧f=g∧Lft w x ks g p q∧WU T w re x ks p q v S') ∨
 ((¬ ∃ x ks,∃ g p q:Nat,Qf re w x ks∧f=g∧g≤p∧q≤w.length∧fw w x ks p q)∧v = .tuple #[.slice none 0 0,.bool false]∧S' = [])
end Go.HL.Kl.Mc
namespace Go.HL.Kl.Mc
open Go Go.HL Go.HL.Kl
structure aa9 (rs:List (Sl Bool))(N:Nat)(D:Nat→Nat→Prop):Prop where
 len:rs.length=N+1
 get:∀ p,p≤N→∃ s,rs[p]?=some s∧IsS s.xs N (D p)
structure ahQ (rs:List (Sl Bool))(N k:Nat)(D:Nat→Nat→Prop):Prop where
 len:rs.length=k
 get:∀ p,p<k→∃ s,rs[p]?=some s∧IsS s.xs N (D p)
structure MQ (W:World)(v:Value)(rs:List (Sl Bool)):Prop where
 out:Rd (cX (α:=Bool)) W v rs
 row:∀ s∈rs,Rd fR W (.slice s.a s.xs.length s.c) s.xs
def aqJ (a b:List Bool)(i:Nat):List Bool:=(List.range a.length).map fun j=>if j<i then orF a b j else Wq a j
def ahR (D:Nat→Nat→Prop)(P:Nat→Prop)(k q:Nat):Prop:=∃ p,p<k∧P p∧D p q
structure AgP (N:Nat)(D:Nat→Nat→Prop)(p:Nat)(out:List Bool)(todo:List Nat):Prop where
 len:out.length=N+1
 me:out[p]?=some true
 sound:∀ q:Nat,out[q]?=some true→∃ k,pow D k p q
 td:∀ t∈todo,out[t]?=some true
 closed:∀ q:Nat,out[q]?=some true→q∉todo→∀ r,r≤N→D q r→out[r]?=some true
structure AgK (N:Nat)(D:Nat→Nat→Prop)(p t k:Nat)(out:List Bool)(todo:List Nat):Prop where
 len:out.length=N+1
 me:out[p]?=some true
 tt:out[t]?=some true
 sound:∀ q:Nat,out[q]?=some true→∃ k,pow D k p q
 td:∀ t∈todo,out[t]?=some true
 closed:∀ q:Nat,out[q]?=some true→q∉todo→q≠t→∀ r,r≤N→D q r→out[r]?=some true
 part:∀ r,r<k→D t r→out[r]?=some true
def mvN (g:Nat)(x:Nd):Nd:=if 0<x.n then { x with n:=IntKind.i64.wrap (x.n+g) } else x
def F.mv (g:Nat):F→F
 | .nil=>.nil
 | .nd x ks r=>.nd (mvN g x) (ks.mv g) (r.mv g)
def vj:Nd:=⟨4,0,0,0,0,2⟩
def mM:Nd:=⟨5,0,0,0,0,2⟩
def aqK (n:Nd)(a b:List Nd)(g:Nat):List Nd:=n::(a++b.map (mvN g))
end Go.HL.Kl.Mc
namespace Go.HL.Kl.Mc
open Go Go.HL Go.HL.Kl
def aqL (g:Nat)(b:List Nd)(j:Nat):List Nd:=(b.take j).map (mvN g)++b.drop j
def ak1 (N:Nat)(D:Nat→Nat→Prop)(v:Value)(S:Hp):Prop:=∃ (a:Option Addr)(c:Nat)(rs:List (Sl Bool)),v = .slice a rs.length c∧aa9 rs N D∧∀ W:World,(∀ b o,(b,o)∈S→W.heap[b]?=some o)→MQ W (.slice a rs.length c) rs
def aqM (v:Value)(rs:List (Sl Bool))(S:Hp):Prop:=∀ W:World,(∀ b o,(b,o)∈S→W.heap[b]?=some o)→MQ W v rs
def adC (re:List Nd)(sv:Value)(S:Hp)(x:Nd)(ks:F):Prop:=∃ a,bz re=true∧ez re=false∧iR re x ks∧sv = .slice a (nM (.nd x ks .nil)).length (nM (.nd x ks .nil)).length∧lG Ql (.slice a (nM (.nd x ks .nil)).length (nM (.nd x ks .nil)).length) (nM (.nd x ks .nil)) S
def F.plain:F→Prop
 | .nil=>True
 | .nd x ks r=>(¬ x.op=7∧¬ x.op=8)∧ks.plain∧r.plain
def WO:Nd:=⟨4,0,0,0,0,0⟩
def adl (n:Nat):Nd:=⟨4,0,0,0,0,(n:Int)+1⟩
def adm (l m:Nat):Nd:=⟨6,0,0,l,(l:Int)+m,1⟩
def RG:List UInt8→F
 | []=>.nd WO .nil .nil
 | b::bs=>.nd (CA b) .nil (RG bs)
def alD (row:List UInt8)(l m:Nat):List Nd:=adm l m::adl row.length::(row.map CA++[WO])
def Mt (row w:List UInt8)(p:Nat):Prop:=(w.drop p).take row.length=row
def alE (row w:List UInt8)(n k:Nat):Prop:=k≤n∧(∀ j,j<k→Mt row w (j*row.length))∧(k=n∨¬ Mt row w (k*row.length))
end Go.HL.Kl.Mc
namespace Go.HL.Kl.Mc
open Go Go.HL Go.HL.Kl jg
def gl (l:List Nd):List Nat:=(l.filter fun y=>decide (y.op=7)).map fun y=>y.n.toNat
def gn (f:F):List Nat:=gl f.flat
def Non (f:F)(cs:List Sp):Prop:=∀ i∈gn f,cs[i]?=some noS
def Nst:F→Int→Int→List Sp→Prop
 | .nil,_,_,_=>True
 | .nd x ks r,lo,hi,cs=>(if x.op=7 then ∃ s,cs[x.n.toNat]?=some s∧((s=noS∧Non ks cs)∨(lo≤s.fr∧s.fr≤s.to∧s.to≤hi∧Nst ks s.fr s.to cs)) else Nst ks lo hi cs)∧Nst r lo hi cs
def afR:Nd:=⟨4,0,0,0,0,2⟩
def ZM:Nd:=⟨7,0,1,0,0,1⟩
def reC:List Nd:=[afR,ZM,Fh,CA 97,CA 98]
def ksG:F:=.nd Fh ksW .nil
def ksB:F:=.nd (CA 98) .nil .nil
def ksC:F:=.nd ZM ksG ksB
def wC:List UInt8:=[99,97,97,98]
end Go.HL.Kl.Mc
namespace Go.HL.Kl.Mc
open Go Go.HL Go.HL.Kl
section
variable {P:Program}{κ:Cx}{L:Loc}{H:Hp}{ty t t':TypeId}{x y:Operand}
end
end Go.HL.Kl.Mc
namespace Go.HL.Kl.Mc
open Go Go.HL Go.HL.Kl jg
structure n5 where
 (bW:Nat)
 (ra:Option Addr)(rc:Nat)(re:List Nd)(ta:Option Addr)(tc:Nat)(tx:List UInt8)(ca:Option Addr)(N cc:Nat)
namespace n5
abbrev QM (K:n5):Value:=.slice K.ra K.re.length K.rc
abbrev QN (K:n5):Value:=.slice K.ta K.tx.length K.tc
abbrev vca (K:n5):Value:=.slice K.ca K.N K.cc
abbrev cells (K:n5):List Value:=[K.QM,K.QN,K.vca]
end n5
structure afz (w:World)(K:n5)(M:List Nat):Prop where
 p1:r9 w K.bW 0 K.cells
 d1:Rd En w K.QM K.re
 d2:Rd Eb w K.QN K.tx
 n1:K.bW∉M
 a1:ew M K.QM
 a2:ew M K.QN
structure n5.ok (K:n5):Prop where
 Gz:∀ x∈K.re,-128≤x.op∧x.op<128
 no8:∀ x∈K.re,¬ x.op=8
 len:K.re.length≤1000000
 tx:K.tx.length≤1000000
def ajO (P:Program)(K:n5)(fn T:Nat)(x:Nd)(ks:F):Prop:=∀ (i i1 p q:Nat)(cs:List Sp)(Sc:Hp),Part K.re (.nd x ks .nil) i i1→p≤q→q≤K.tx.length→fw K.tx x ks p q→cs.length=K.N→PX K.re K.N→aG PY 2 T K.vca cs Sc →
 Fn P fn [pt K.bW,.int .i64 i,.int .i64 p,.int .i64 q] (fun W=>afz W K (keys Sc)) Sc (fun _ S'=>aG PY 2 T K.vca (Rm K.tx x ks p q cs) S')
def apb (x:Nd)(r s:Nat):Prop:=r=s∨(x.mx = -1∧max x.mn.toNat 1≤r∧s=max x.mn.toNat 1)
end Go.HL.Kl.Mc
namespace Go.HL
open Go
end Go.HL
namespace Go.HL.Kl.Mc
open Go Go.HL Go.HL.Kl
def apM (re:List Nd)(w:List UInt8)(f:Int)(b:Bool)(L:List Sp):Prop:=
 (∃ x ks,∃ g p q:Nat,Qf re w x ks∧f=g∧Lft w x ks g p q∧b=true∧L=Ag w re x ks p q) ∨
 ((¬ ∃ x ks,∃ g p q:Nat,Qf re w x ks∧f=g∧g≤p∧q≤w.length∧fw w x ks p q)∧b=false∧L = [])
def apN (re:List Nd)(w:List UInt8)(fr to:Int)(b:Bool)(L:List Sp):Prop:=
 (∃ x ks,∃ p q:Nat,Qf re w x ks∧fr=p∧to=q∧p≤q∧q≤w.length∧fw w x ks p q∧b=true∧L=Ag w re x ks p q) ∨
 ((¬ ∃ x ks,∃ p q:Nat,Qf re w x ks∧fr=p∧to=q∧p≤q∧q≤w.length∧fw w x ks p q)∧b=false∧L = [])
def spB (j:Nat):UInt8:=UInt8.ofNat (279+7*j+3)
def apO (x:UInt8):UInt8:=UInt8.ofNat (BitVec.ofInt 8 (x.toNat:Int) ^^^ BitVec.ofInt 8 3).toNat
end Go.HL.Kl.Mc
namespace Go.Proofs.YtmompllplidphaaGreatDoor
open Go Go.HL Go.Proofs Go.HL.Kl Go.HL.Kl.Mc Go.Af
theorem IJ (n:Int):HL.Fn Tryz.prog 25 [.int .i64 n] (fun _=>True) [] (fun v _=>v = .bool (decide (n>2147483647))):=by
 refine aW Tryz.func25 rfl rfl rfl fun w0 hw=>?_;refine cR fun _ bI=>?_;refine oA (oZ bI (cR fun _ bJ=>?_));refine oM ?_;refine oS (eX rfl rfl) ?_;refine oA (oZ bJ (aA ?_));refine ?_;exact xR rfl rfl (rfl)
end Go.Proofs.YtmompllplidphaaGreatDoor
namespace Go.Proofs.YtmompllplidphaaGreatDoor
open Go Go.HL Go.Proofs Go.HL.Kl Go.HL.Kl.Mc Go.HL.cm
theorem KL (k i:Nat)(hk:k≤1000)(hi:i≤4294967296):HL.Fn Tryz.prog 28 [.int .i64 k,.int .i64 i] (fun _=>True) [] (fun v _=>v = .int .i64 ((1048576*k+i+1:Nat):Int)):=by
 refine aW Tryz.func28 rfl rfl rfl fun w0 hw=>?_;refine cR fun _ bI=>?_;refine oA (oZ bI (cR fun _ bJ=>?_));refine oM ?_;refine oS (vc rfl rfl (by omega)) ?_;refine oM ?_;refine oS sD ?_;refine oS sD (oA (oZ bJ (aA ?_)));refine ?_;exact xR rfl rfl ((congrArg (Value.int .i64) (by omega)))
theorem IT (a a2:Option Addr)(c c2:Nat)(xs ys:List Int):HL.Fn Tryz.prog 114 [.slice a xs.length c,.slice a2 ys.length c2] (fun w=>Rd Ei w (.slice a xs.length c) xs∧Rd Ei w (.slice a2 ys.length c2) ys) [] (fun v _=>v = .bool (decide (xs=ys))):=by
 refine aW Tryz.func114 rfl rfl rfl fun w0 hw=>?_
 obtain⟨hx,hy⟩:=hw
 have gk:=hx.sl
 have tW:=hy.sl
 have Cf:=gk.le
 have H7:=tW.le
 refine cR fun _ bI=>?_;refine oA (oZ bI (ah fun _ bJ=>?_));refine cR fun _ bK=>?_;refine oM ?_;refine oS sC (oM ?_);refine oS sC ?_
 by_cases hl:xs.length≠ys.length
 ·refine oS (ab (v':=.bool true) (eY rfl rfl) (congrArg Value.bool (decide_eq_true (by omega)))) ?_;refine oZ bK ?_;refine cT (cR fun _ bU=>?_);refine oA (oZ bU (aA ?_));refine aj (?_);exact xR rfl rfl ((congrArg Value.bool (decide_eq_false (by intro e;subst e;omega)).symm))
 ·refine oS (ab (v':=.bool false) (eY rfl rfl) (congrArg Value.bool (decide_eq_false (by omega)))) ?_;refine oZ bK ?_;refine eL bJ (ah fun _ bT=>?_);refine cR fun _ bZ=>?_;refine oA (oZ bZ (ai ?_))
  refine aL (fun (j:Nat)=>j≤xs.length∧∀ i,i<j→xs[i]?=ys[i]?) (fun (j:Nat)=>[(5,.int .i64 j)]) [(0,_),(1,_)] (fun (j:Nat)=>[]) (fun (j:Nat)=>xs.length-j) 0 ⟨by omega,fun i hi=>by omega⟩ aH aH aP ?_
  rintro j ⟨hj,EB⟩
  refine ah fun _ cj=>?_;refine cR fun _ ck=>?_;refine oM (oM ?_);refine oS sC ?_
  by_cases cH:j<xs.length
  ·obtain⟨x,qQ⟩:∃ x,xs[j]?=some x:=gE
   obtain⟨y,pn⟩:∃ y,ys[j]?=some y:=gE
   refine oS (ab (v':=.bool true) (aF rfl rfl) (congrArg Value.bool (decide_eq_true (by omega)))) ?_;refine oZ ck ?_;refine gp cj (ah fun _ cQ=>?_);refine ai (ah fun _ bw=>?_);refine aK ([]) (fun i=>false) ?_;refine eP 0 rfl sM ?_;refine eP 1 rfl sM ?_;refine eP 2 rfl (au rfl rfl gk (by omega)) ?_;refine iV 3 rfl (by exact HSub.nil) (az rfl ((cq.bj hx).ld j 0 qQ rfl (by decide) (by omega))) ?_;refine eP 4 rfl sM ?_;refine eP 5 rfl sM ?_;refine eP 6 rfl (au rfl rfl tW (by omega)) ?_;refine iV 7 rfl (by exact HSub.nil) (az rfl ((cq.bj hy).ld j 0 pn rfl (by decide) (by omega))) ?_
   by_cases dM:x≠y
   ·refine eP 8 rfl (ab (v':=.bool true) (eY rfl rfl) (congrArg Value.bool (decide_eq_true dM))) ?_;refine eZ bw ?_;refine cT (cR fun _ bF=>?_);refine oA (oZ bF (aA ?_));refine aw (aj (aj (aw (aj (?_)))))
    exact xR rfl rfl ((congrArg Value.bool (decide_eq_false (by intro e;subst e;rw[qQ] at pn;exact dM (Option.some.inj pn))).symm))
   ·refine eP 8 rfl (ab (v':=.bool false) (eY rfl rfl) (congrArg Value.bool (decide_eq_false dM))) ?_;refine eZ bw ?_;refine cF (ax (aq (xZ cQ (ae (oM ?_)))));refine oS sD (oA (ak ?_));exact xI (j+1) ⟨by omega,fun i hi=>by rcases Nat.lt_or_ge i j with h|h;(· exact EB i h);(· rw[show i=j by omega,qQ,pn,Classical.not_not.1 dM])⟩
  ·refine oS (ab (v':=.bool false) (aF rfl rfl) (congrArg Value.bool (decide_eq_false (by omega)))) ?_;refine oZ ck ?_;refine cF ?_;refine ay ?_;refine ad (ad (ag (xZ bT (cR fun _ bD=>?_))));refine oA (oZ bD (aA ?_));refine ?_;exact xR rfl rfl ((congrArg Value.bool (decide_eq_true (mL (by omega) fun i hi=>EB i (by omega))).symm))
theorem RK (a a2:Option Addr)(c c2:Nat)(xs ys:List Kl.Cl):HL.Fn Tryz.prog 44 [.slice a xs.length c,.slice a2 ys.length c2] (fun w=>Rd Ec w (.slice a xs.length c) xs∧Rd Ec w (.slice a2 ys.length c2) ys) [] (fun v _=>v = .bool (decide (xs=ys))):=by
 refine aW Tryz.func44 rfl rfl rfl fun w0 hw=>?_
 obtain⟨hx,hy⟩:=hw
 have gk:=hx.sl
 have tW:=hy.sl
 have Cf:=gk.le
 have H7:=tW.le
 refine cR fun _ bI=>?_;refine oA (oZ bI (ah fun _ bJ=>?_));refine cR fun _ bK=>?_;refine oM ?_;refine oS sC (oM ?_);refine oS sC ?_
 by_cases hl:xs.length≠ys.length
 ·refine oS (ab (v':=.bool true) (eY rfl rfl) (congrArg Value.bool (decide_eq_true (by omega)))) ?_;refine oZ bK ?_;refine cT (cR fun _ bU=>?_);refine oA (oZ bU (aA ?_));refine aj (?_);exact xR rfl rfl ((congrArg Value.bool (decide_eq_false (by intro e;subst e;omega)).symm))
 ·refine oS (ab (v':=.bool false) (eY rfl rfl) (congrArg Value.bool (decide_eq_false (by omega)))) ?_;refine oZ bK ?_;refine eL bJ (ah fun _ bT=>?_);refine cR fun _ bZ=>?_;refine oA (oZ bZ (ai ?_))
  refine aL (fun (j:Nat)=>j≤xs.length∧∀ i,i<j→xs[i]?=ys[i]?) (fun (j:Nat)=>[(5,.int .i64 j)]) [(0,_),(1,_)] (fun (j:Nat)=>[]) (fun (j:Nat)=>xs.length-j) 0 ⟨by omega,fun i hi=>by omega⟩ aH aH aP ?_
  rintro j ⟨hj,EB⟩
  refine ah fun _ cj=>?_;refine cR fun _ ck=>?_;refine oM (oM ?_);refine oS sC ?_
  by_cases cH:j<xs.length
  ·obtain⟨x,qQ⟩:∃ x,xs[j]?=some x:=gE
   obtain⟨y,pn⟩:∃ y,ys[j]?=some y:=gE
   refine oS (ab (v':=.bool true) (aF rfl rfl) (congrArg Value.bool (decide_eq_true (by omega)))) ?_;refine oZ ck ?_;refine gp cj (ah fun _ cQ=>?_);refine ai (ah fun _ bw=>?_);refine aK ([]) (fun i=>false) ?_;refine eP 0 rfl sM ?_;refine eP 1 rfl sM ?_;refine eP 2 rfl (au rfl rfl gk (by omega)) ?_;refine iV 3 rfl (by exact HSub.nil) (aD rfl ((cq.bj hx).gx j qQ (by omega)) aS) ?_;refine eP 4 rfl sM ?_;refine eP 5 rfl sM ?_;refine eP 6 rfl (au rfl rfl tW (by omega)) ?_;refine iV 7 rfl (by exact HSub.nil) (aD rfl ((cq.bj hy).gx j pn (by omega)) aS) ?_
   by_cases dM:x≠y
   ·refine eP 8 rfl (ab (v':=.bool true) (gb rfl rfl) (congrArg Value.bool (decide_eq_true dM))) ?_;refine eZ bw ?_;refine cT (cR fun _ bF=>?_);refine oA (oZ bF (aA ?_));refine aw (aj (aj (aw (aj (?_)))))
    exact xR rfl rfl ((congrArg Value.bool (decide_eq_false (by intro e;subst e;rw[qQ] at pn;exact dM (Option.some.inj pn))).symm))
   ·refine eP 8 rfl (ab (v':=.bool false) (gb rfl rfl) (congrArg Value.bool (decide_eq_false dM))) ?_;refine eZ bw ?_;refine cF (ax (aq (xZ cQ (ae (oM ?_)))));refine oS sD (oA (ak ?_));exact xI (j+1) ⟨by omega,fun i hi=>by rcases Nat.lt_or_ge i j with h|h;(· exact EB i h);(· rw[show i=j by omega,qQ,pn,Classical.not_not.1 dM])⟩
  ·refine oS (ab (v':=.bool false) (aF rfl rfl) (congrArg Value.bool (decide_eq_false (by omega)))) ?_;refine oZ ck ?_;refine cF ?_;refine ay ?_;refine ad (ad (ag (xZ bT (cR fun _ bD=>?_))));refine oA (oZ bD (aA ?_));refine ?_;exact xR rfl rfl ((congrArg Value.bool (decide_eq_true (mL (by omega) fun i hi=>EB i (by omega))).symm))
theorem RL (a a2:Option Addr)(c c2:Nat)(xs ys:List Bool):HL.Fn Tryz.prog 46 [.slice a xs.length c,.slice a2 ys.length c2] (fun w=>Rd fR w (.slice a xs.length c) xs∧Rd fR w (.slice a2 ys.length c2) ys) [] (fun v _=>v = .bool (decide (xs=ys))):=by
 refine aW Tryz.func46 rfl rfl rfl fun w0 hw=>?_
 obtain⟨hx,hy⟩:=hw
 have gk:=hx.sl
 have tW:=hy.sl
 have Cf:=gk.le
 have H7:=tW.le
 refine cR fun _ bI=>?_;refine oA (oZ bI (ah fun _ bJ=>?_));refine cR fun _ bK=>?_;refine oM ?_;refine oS sC (oM ?_);refine oS sC ?_
 by_cases hl:xs.length≠ys.length
 ·refine oS (ab (v':=.bool true) (eY rfl rfl) (congrArg Value.bool (decide_eq_true (by omega)))) ?_;refine oZ bK ?_;refine cT (cR fun _ bU=>?_);refine oA (oZ bU (aA ?_));refine aj (?_);exact xR rfl rfl ((congrArg Value.bool (decide_eq_false (by intro e;subst e;omega)).symm))
 ·refine oS (ab (v':=.bool false) (eY rfl rfl) (congrArg Value.bool (decide_eq_false (by omega)))) ?_;refine oZ bK ?_;refine eL bJ (ah fun _ bT=>?_);refine cR fun _ bZ=>?_;refine oA (oZ bZ (ai ?_))
  refine aL (fun (j:Nat)=>j≤xs.length∧∀ i,i<j→xs[i]?=ys[i]?) (fun (j:Nat)=>[(5,.int .i64 j)]) [(0,_),(1,_)] (fun (j:Nat)=>[]) (fun (j:Nat)=>xs.length-j) 0 ⟨by omega,fun i hi=>by omega⟩ aH aH aP ?_
  rintro j ⟨hj,EB⟩
  refine ah fun _ cj=>?_;refine cR fun _ ck=>?_;refine oM (oM ?_);refine oS sC ?_
  by_cases cH:j<xs.length
  ·obtain⟨x,qQ⟩:∃ x,xs[j]?=some x:=gE
   obtain⟨y,pn⟩:∃ y,ys[j]?=some y:=gE
   refine oS (ab (v':=.bool true) (aF rfl rfl) (congrArg Value.bool (decide_eq_true (by omega)))) ?_;refine oZ ck ?_;refine gp cj (ah fun _ cQ=>?_);refine ai (ah fun _ bw=>?_);refine aK ([]) (fun i=>false) ?_;refine eP 0 rfl sM ?_;refine eP 1 rfl sM ?_;refine eP 2 rfl (au rfl rfl gk (by omega)) ?_;refine iV 3 rfl (by exact HSub.nil) (az rfl ((cq.bj hx).ld j 0 qQ rfl (by decide) (by omega))) ?_;refine eP 4 rfl sM ?_;refine eP 5 rfl sM ?_;refine eP 6 rfl (au rfl rfl tW (by omega)) ?_;refine iV 7 rfl (by exact HSub.nil) (az rfl ((cq.bj hy).ld j 0 pn rfl (by decide) (by omega))) ?_
   by_cases dM:x≠y
   ·refine eP 8 rfl (ab (v':=.bool true) (jt rfl rfl) (congrArg Value.bool (decide_eq_true dM))) ?_;refine eZ bw ?_;refine cT (cR fun _ bF=>?_);refine oA (oZ bF (aA ?_));refine aw (aj (aj (aw (aj (?_)))))
    exact xR rfl rfl ((congrArg Value.bool (decide_eq_false (by intro e;subst e;rw[qQ] at pn;exact dM (Option.some.inj pn))).symm))
   ·refine eP 8 rfl (ab (v':=.bool false) (jt rfl rfl) (congrArg Value.bool (decide_eq_false dM))) ?_;refine eZ bw ?_;refine cF (ax (aq (xZ cQ (ae (oM ?_)))));refine oS sD (oA (ak ?_));exact xI (j+1) ⟨by omega,fun i hi=>by rcases Nat.lt_or_ge i j with h|h;(· exact EB i h);(· rw[show i=j by omega,qQ,pn,Classical.not_not.1 dM])⟩
  ·refine oS (ab (v':=.bool false) (aF rfl rfl) (congrArg Value.bool (decide_eq_false (by omega)))) ?_;refine oZ ck ?_;refine cF ?_;refine ay ?_;refine ad (ad (ag (xZ bT (cR fun _ bD=>?_))));refine oA (oZ bD (aA ?_));refine ?_;exact xR rfl rfl ((congrArg Value.bool (decide_eq_true (mL (by omega) fun i hi=>EB i (by omega))).symm))
inductive Nw:List (Sl Int)→Hp→Prop
 | nil:Nw [] []
 | cons {s:Sl Int}{sls:List (Sl Int)}{S R:Hp}(h:aG Ei 1 3 (.slice s.a (yx spZ s.xs).length s.c) (yx spZ s.xs) S)(hs:Nw sls R):Nw (s::sls) (S++R)
def Sps (n:Nat)(P6:List (Sl Int)):Prop:=∀ j s,P6[j]?=some s→s.xs = [spZ (n+j)]
def WdO (d:Df)(v:Value)(S:Hp):Prop:=∃ (aC aR aE:Option Addr)(hs P6:List (Sl Int))(SC SB SH SS SE:Hp),v = .agg [.slice aC d.atoms.length (d.atoms.length+64),.slice aR hs.length (hs.length+64),.slice aE d.ends.length (d.ends.length+64)].toArray∧S=SC++(SB++(SH++(SS++SE))) ∧
 aG Ec 4 39 (.slice aC (yx spC d.atoms).length (d.atoms.length+64)) (yx spC d.atoms) SC∧aG cX 1 36 (.slice aR (hs++P6).length (hs.length+64)) (hs++P6) SB∧Nw hs SH∧cG Ei 1 3 P6 (P6.map Sl.xs) SS∧aG fR 1 4 (.slice aE (yx WC d.ends).length (d.ends.length+64)) (yx WC d.ends) SE∧d.next=hs.map Sl.xs∧P6.length=64∧Sps hs.length P6
structure Sml (d:Df)(rows:List (Sl Int)):Prop where
 at_:d.atoms.length≤16777216
 nx:rows.length≤16777216
 en:d.ends.length≤16777216
 IQ:∀ s∈rows,s.xs.length≤16777216
theorem Cp (a a2:Option Addr)(c c2:Nat)(xs ys:List (Sl Int)):HL.Fn Tryz.prog 45 [.slice a xs.length c,.slice a2 ys.length c2] (fun w=>Rd cX w (.slice a xs.length c) xs∧Rd cX w (.slice a2 ys.length c2) ys∧(∀ s∈xs,Rd Ei w s.v s.xs)∧∀ s∈ys,Rd Ei w s.v s.xs) [] (fun v _=>v = .bool (decide ((xs.map Sl.xs)=(ys.map Sl.xs)))):=by
 refine aW Tryz.func45 rfl rfl rfl fun w0 hw=>?_
 obtain⟨hx,hy,Nx,hyr⟩:=hw
 have gk:=hx.sl
 have tW:=hy.sl
 have Cf:=gk.le
 have H7:=tW.le
 refine cR fun _ bI=>?_;refine oA (oZ bI (ah fun _ bJ=>?_));refine cR fun _ bK=>?_;refine oM ?_;refine oS sC (oM ?_);refine oS sC ?_
 by_cases hl:xs.length≠ys.length
 ·refine oS (ab (v':=.bool true) (eY rfl rfl) (congrArg Value.bool (decide_eq_true (by omega)))) ?_;refine oZ bK ?_;refine cT (cR fun _ bU=>?_);refine oA (oZ bU (aA ?_));refine aj (?_);exact xR rfl rfl ((congrArg Value.bool (decide_eq_false (by intro e;have:=congrArg List.length e;simp at this;omega)).symm))
 ·refine oS (ab (v':=.bool false) (eY rfl rfl) (congrArg Value.bool (decide_eq_false (by omega)))) ?_;refine oZ bK ?_;refine eL bJ (ah fun _ bT=>?_);refine cR fun _ bZ=>?_;refine oA (oZ bZ (ai ?_))
  refine aL (fun (j:Nat)=>j≤xs.length∧∀ i,i<j→(xs.map Sl.xs)[i]?=(ys.map Sl.xs)[i]?) (fun (j:Nat)=>[(5,.int .i64 j)]) [(0,_),(1,_)] (fun (j:Nat)=>[]) (fun (j:Nat)=>xs.length-j) 0 ⟨by omega,fun i hi=>by omega⟩ aH aH aP ?_
  rintro j ⟨hj,EB⟩
  refine ah fun _ cj=>?_;refine cR fun _ ck=>?_;refine oM (oM ?_);refine oS sC ?_
  by_cases cH:j<xs.length
  ·obtain⟨x,qQ⟩:∃ x,xs[j]?=some x:=gE
   obtain⟨y,pn⟩:∃ y,ys[j]?=some y:=gE
   refine oS (ab (v':=.bool true) (aF rfl rfl) (congrArg Value.bool (decide_eq_true (by omega)))) ?_;refine oZ ck ?_;refine gp cj (ah fun _ cQ=>?_);refine ai (ah fun _ bw=>?_);refine aK ([]) (fun i=>false) ?_;refine eP 0 rfl sM ?_;refine eP 1 rfl sM ?_;refine eP 2 rfl (au rfl rfl gk (by omega)) ?_;refine iV 3 rfl (by exact HSub.nil) (az rfl ((cq.bj hx).ld j 0 qQ rfl (by decide) (by omega))) ?_;refine eP 4 rfl sM ?_;refine eP 5 rfl sM ?_;refine eP 6 rfl (au rfl rfl tW (by omega)) ?_;refine iV 7 rfl (by exact HSub.nil) (az rfl ((cq.bj hy).ld j 0 pn rfl (by decide) (by omega))) ?_;refine eO 8 rfl ?_;refine ar (IT x.a y.a x.c y.c x.xs y.xs) rfl rfl rfl (fun w st=>⟨(cq.bj (Nx x (List.mem_of_getElem? qQ))).out w st,(cq.bj (hyr y (List.mem_of_getElem? pn))).out w st⟩) (fun v25 F7=>?_)
   cases Ny:decide (x.xs=y.xs)
   ·rw[Ny] at F7
    subst F7
    have dM:=of_decide_eq_false Ny
    refine ak ?_;refine yy (by exact HSub.nil) ?_;refine eP 9 rfl (aT rfl) ?_;refine eZ bw ?_;refine cT (cR fun _ bF=>?_);refine oA (oZ bF (aA ?_));refine aw (aj (aj (aw (aj (?_)))))
    exact xR rfl rfl ((congrArg Value.bool (decide_eq_false (by intro e;have:=congrArg (fun l=>l[j]?) e;simp only[List.getElem?_map,qQ,pn,Option.map_some,Option.some.injEq] at this;exact dM this)).symm))
   ·rw[Ny] at F7
    subst F7
    have dM:=of_decide_eq_true Ny
    refine ak ?_;refine yy (by exact HSub.nil) ?_;refine eP 9 rfl (aT rfl) ?_;refine eZ bw ?_;refine cF (ax (aq (xZ cQ (ae (oM ?_)))));refine oS sD (oA (ak ?_));exact xI (j+1) ⟨by omega,fun i hi=>by rcases Nat.lt_or_ge i j with h|h;(· exact EB i h);(· rw[show i=j by omega,List.getElem?_map,List.getElem?_map,qQ,pn];exact congrArg some dM)⟩
  ·refine oS (ab (v':=.bool false) (aF rfl rfl) (congrArg Value.bool (decide_eq_false (by omega)))) ?_;refine oZ ck ?_;refine cF ?_;refine ay ?_;refine ad (ad (ag (xZ bT (cR fun _ bD=>?_))));refine oA (oZ bD (aA ?_));refine ?_;exact xR rfl rfl ((congrArg Value.bool (decide_eq_true (mL (by simp;omega) fun i hi=>EB i (by simp at hi;omega))).symm))
end Go.Proofs.YtmompllplidphaaGreatDoor
namespace Go.Proofs.YtmompllplidphaaGreatDoor
open Go Go.HL Go.Proofs Go.Af Go.HL.Kl Go.HL.Kl.Mc Go.HL.cm
theorem nf {PM:Hp}{j i:Nat}{e:Sl Int}(h:Iu PM j i e)(b2:Nat):HL.Fn Tryz.prog 114 [.slice e.a e.xs.length e.c,.slice (some ⟨b2,0,none⟩) 1 1] (fun w=>Rd Ei w e.v e.xs∧Rd Ei w (.slice (some ⟨b2,0,none⟩) 1 1) [kP j i]) [] (fun v _=>v = .bool true):=
 (IT e.a (some ⟨b2,0,none⟩) e.c 1 e.xs [kP j i]).weaken (fun _ h=>h) fun v S' hv=>by rw[hv,decide_eq_true h.1]
set_option maxHeartbeats 2000000 in
theorem wz (b:Nat)(cs:List Value)(sls:List (Sl (Sl Int)))(oa:Option Addr)(oc:Nat)(So Si:Hp)(hb:cs[14]?=some (.slice oa sls.length oc))(hN:sls.length≤400)(hlen:∀ (j:Nat)(s:Sl (Sl Int)),sls[j]?=some s→s.xs.length≤4294967296)(hO:aG cX 1 27 (.slice oa sls.length oc) sls So)(yT:List (List (Sl Int)))(hI:cG cX 1 36 sls yT Si):HL.Fn Tryz.prog 64 [.pointer (some ⟨b,0,none⟩)] (fun _=>True) ((b,.cells cs.toArray 63 (0,0))::(So++Si)) (fun v S'=>v = .bool true∧S'=(b,.cells cs.toArray 63 (0,0))::So):=by
 refine aW Tryz.func64 rfl rfl rfl fun w0 hw=>?_
 have gu:=hO.sl
 refine cR fun _ bI=>?_;refine oA (oZ bI (ah fun _ bJ=>?_));refine cR fun _ bK=>?_;refine oA (oZ bK (ai ?_));refine fM (fun (n:Nat)(dO:List (List (Sl Int)))(Si:Hp)(PM:Hp)=>n≤sls.length∧cG cX 1 36 sls dO Si∧oK PM sls dO n) (fun (n:Nat)(dO:List (List (Sl Int)))(Si:Hp)(PM:Hp)=>[(3,.int .i64 n)]) [(0,_),(2,_)] (fun (n:Nat)(dO:List (List (Sl Int)))(Si:Hp)(PM:Hp)=>(b,.cells cs.toArray 63 (0,0))::(So++(Si++PM))) (fun (n:Nat)(dO:List (List (Sl Int)))(Si:Hp)(PM:Hp)=>sls.length-n) 0 _ Si [] ⟨by omega,hI,fun j s hj=>by omega⟩ aH aH (by change HSub _ ((b,.cells cs.toArray 63 (0,0))::(So++(Si++[])));rw[List.append_nil];exact aP) ?_
 rintro n dO Si PM ⟨hn,hI,hA⟩
 refine ah fun _ bU=>?_;refine cR fun _ bT=>?_;refine oM (oM ?_);refine oS sN ?_;refine oS sF ?_;refine oS (az rfl (.own aV hb)) ?_;refine oS sC ?_;refine oS (aF rfl rfl) ?_;refine oZ bT ?_;refine cx rfl (fun cH=>?_) (fun cH=>?_)
 ·obtain⟨s,hs⟩:=kx (sls:=sls) (n:=n) (by omega)
  obtain⟨xs,S1,Xi,S2,hx,rfl,qG,q8⟩:=hI.at hs
  have mH:=qG.uF
  have jr:=hlen n s hs
  refine ax (xZ bU (ah fun _ bZ=>?_));refine ai (cR fun _ cj=>?_);refine oA (oZ cj (ai ?_));refine fM (fun (i:Nat)(l:List (Sl Int))(Sn:Hp)(wT:Hp)=>i≤s.xs.length∧gU wT n (l.take i)∧aG cX 1 36 s.v l Sn∧c4 PM wT) (fun (i:Nat)(l:List (Sl Int))(Sn:Hp)(wT:Hp)=>[(4,.int .i64 i)]) [(0,_),(2,_),(3,_),(14,_),(15,_),(16,_),(17,_),(18,_),(19,_),(20,_)] (fun (i:Nat)(l:List (Sl Int))(Sn:Hp)(wT:Hp)=>(b,.cells cs.toArray 63 (0,0))::(So++(S1++(Sn++(S2++wT))))) (fun (i:Nat)(l:List (Sl Int))(Sn:Hp)(wT:Hp)=>s.xs.length-i) 0 _ Xi PM ⟨by omega,gU.nil _ _,qG,fun p hp=>hp⟩ aH aH (by simp only[List.append_assoc];exact aP) ?_
  rintro i l Sn wT ⟨hi,ha,nT,QX⟩
  have o9:=nT.uF
  have mE:=nT.sl
  rw[o9] at mE
  refine ah fun _ ck=>?_;refine cR fun _ cQ=>?_;refine oM (oM ?_);refine oS sN ?_;refine oS sF ?_;refine oS (az rfl (.own aV hb)) ?_;refine oM ?_;refine oS (au rfl rfl gu (by omega)) ?_;refine oS (az rfl ((hO.aU aM).ld n 0 hs rfl (by decide) (by omega))) ?_;refine oS sC ?_;refine oS (aF rfl rfl) ?_;refine oZ cQ ?_;refine cx rfl (fun pQ=>?_) (fun pQ=>?_)
  ·refine ax (xZ ck (ah fun _ bw=>?_));refine ai ?_;refine aK ((b,.cells cs.toArray 63 (0,0))::So) (fun i=>false) ?_;refine eK 0 rfl sM ?_;refine eK 1 rfl sN ?_;refine eK 2 rfl sF ?_;refine eK 3 rfl (az rfl (.own aV hb)) ?_;refine eK 4 rfl sM ?_;refine eK 5 rfl (au rfl rfl gu (by omega)) ?_;refine eK 6 rfl (az rfl ((hO.aU aM).ld n 0 hs rfl (by decide) (by omega))) ?_;refine eK 7 rfl sM ?_;refine eK 8 rfl sM ?_;refine eK 9 rfl sM (eO 10 rfl ?_);refine ar (bC n i (by omega) (by omega)) rfl rfl rfl (fun _ _=>trivial) (fun v45 yU=>?_);subst yU
   refine oX (eO 11 rfl ?_);refine ct (E:=Ei) (xs:=[kP n i]) (vs:=[_]) rfl rfl rfl rfl rfl (by decide) (by decide) fun b46 S46 G4=>?_;refine oX ?_;refine eK 12 rfl (au rfl rfl mE (by omega)) ?_;refine eO 13 rfl ?_;refine dp i (⟨some ⟨b46,0,none⟩,1,[kP n i]⟩:Sl Int) nT bh rfl rfl rfl (by omega) (by first|rfl|(rw[Int.toNat_natCast,Nat.mul_one];first|done|rfl)) fun S' wH=>?_;refine oX ?_;refine cw (by kernel_rfl) ?_;refine aq (xZ bw (ae (oM ?_)));refine oS sD (oA (ak ?_));exact xI (i+1,_,S',wT++S46) ⟨by omega,(ha.mono c4.ga).set (by omega) (show Iu _ n i (⟨some ⟨b46,0,none⟩,1,[kP n i]⟩:Sl Int) from ⟨rfl,G4.rds.mono c4.mG,G4.sl⟩),wH,fun p hp=>c4.ga p (QX p hp)⟩
  ·refine ay ?_;refine ad (ad (ag (aq (xZ bZ (ae (oM ?_))))));refine oS sD (oA (ak ?_));exact av (cd (n+1,dO.set n l,S1++(Sn++S2),wT) ⟨by omega,q8 _ _ nT,(hA.mono QX).set hs o9 (by rw[← List.take_of_length_le (l:=l) (i:=i) (by omega)];exact ha) hx⟩ (by first|omega|(dsimp only;omega)) aH (by simp only[List.append_assoc];exact aP))
 ·have hF:mz 36 PM 0 (sls.drop 0) Si:=HG hI (n:=0) (fun j s hs=>by rw[Nat.zero_add];exact hA j s (by have:=(List.getElem?_eq_some_iff.1 hs).1;omega) hs)
  refine ay ?_;refine ad (ad (ag (xZ bJ (cR fun _ bF=>?_))));refine oA (oA (oZ bF (ah fun _ bD=>?_)));refine cR fun _ cb=>?_;refine oA (oZ cb (ai ?_));refine lV (fun (n:Nat)(q1:Sl (Sl (Sl Int)))(q2:Sl (Sl (Sl Int)))(P1:Hp)(P2:Hp)(G:Hp)(R:Hp)(PM:Hp)=>n≤sls.length∧q1.xs.length=n∧q2.xs.length=n∧aG cX 1 27 (.slice q1.a q1.xs.length q1.c) q1.xs P1∧aG cX 1 27 (.slice q2.a q2.xs.length q2.c) q2.xs P2∧mz 36 PM n (sls.drop n) R∧qA PM sls q1.xs q2.xs G n) (fun (n:Nat)(q1:Sl (Sl (Sl Int)))(q2:Sl (Sl (Sl Int)))(P1:Hp)(P2:Hp)(G:Hp)(R:Hp)(PM:Hp)=>[(7,.int .i64 n),(5,.slice q1.a q1.xs.length q1.c),(6,.slice q2.a q2.xs.length q2.c)]) [(0,_),(2,_)] (fun (n:Nat)(q1:Sl (Sl (Sl Int)))(q2:Sl (Sl (Sl Int)))(P1:Hp)(P2:Hp)(G:Hp)(R:Hp)(PM:Hp)=>(b,.cells cs.toArray 63 (0,0))::(So++(P1++(P2++(G++(R++PM)))))) (fun (n:Nat)(q1:Sl (Sl (Sl Int)))(q2:Sl (Sl (Sl Int)))(P1:Hp)(P2:Hp)(G:Hp)(R:Hp)(PM:Hp)=>sls.length-n) 0 ⟨none,0,[]⟩ ⟨none,0,[]⟩ [] [] [] Si PM ⟨by omega,rfl,rfl,.nil,.nil,hF,.zero⟩ aH aH aP ?_
  rintro n q1 q2 P1 P2 G R PM ⟨hn,Jy,MX,tr,ka,hR,hD⟩
  refine ah fun _ bL=>?_;refine cR fun _ bQ=>?_;refine oM (oM ?_);refine oS sN ?_;refine oS sF ?_;refine oS (az rfl (.own aV hb)) ?_;refine oS sC ?_;refine oS (aF rfl rfl) ?_;refine oZ bQ ?_;refine cx rfl (fun cH=>?_) (fun cH=>?_)
  ·obtain⟨s,hs⟩:=kx (sls:=sls) (n:=n) (by omega)
   have jr:=hlen n s hs
   obtain⟨l0,Sa,R2,rfl,Z9,Ct,al0,EP⟩:=hR.head hs
   have GM:aG cX 1 36 (.slice s.a l0.length s.c) l0 Sa:=by rw[Ct];exact Z9
   have pS:=Z9.sl
   rw[Ct] at pS
   refine ax (xZ bL (ah fun _ cO=>?_));refine ai (cR fun _ df=>?_);refine oM ?_;refine oS sN ?_;refine oS sF ?_;refine oS (az rfl (.own aV hb)) ?_;refine oM ?_;refine oS (au rfl rfl gu (by omega)) ?_;refine oS (az rfl ((hO.aU aM).ld n 0 hs rfl (by decide) (by omega))) ?_;refine oA (oZ df (ah fun _ cZ=>?_));refine cR fun _ dq=>?_;refine oM ?_;refine oS sC (oA (oZ dq (ai ?_)));refine EO (fun (i:Nat)(l:List (Sl Int))(la:Option Addr)(lc:Nat)(q3:Sl (Sl (Sl Int)))(P3:Hp)(Sk:Hp)(Gk:Hp)(wT:Hp)=>s.xs.length≤i∧i≤s.xs.length+70∧l.length=i∧gU wT n l∧gq cX 1 36 (.slice s.a l0.length s.c) l0 (.slice la l.length lc) l Sk Gk∧aG cX 1 27 (.slice q3.a q3.xs.length q3.c) q3.xs P3∧c4 PM wT∧((i=s.xs.length∧q3.xs=q1.xs)∨(s.xs.length<i∧∃ o,q3.xs=q1.xs++[o]∧o.xs.length=s.xs.length+1∧gU wT n o.xs∧eA o.v o.xs.length∧gq cX 1 36 o.v o.xs (.slice la l.length lc) l Sk Gk))) (fun (i:Nat)(l:List (Sl Int))(la:Option Addr)(lc:Nat)(q3:Sl (Sl (Sl Int)))(P3:Hp)(Sk:Hp)(Gk:Hp)(wT:Hp)=>[(9,.int .i64 i),(8,.slice la l.length lc),(5,.slice q3.a q3.xs.length q3.c)]) [(0,_),(2,_),(6,_),(7,_),(48,_),(49,_),(50,_),(51,_),(52,_),(53,_),(54,_),(57,_),(58,_),(59,_),(60,_),(61,_),(62,_),(63,_),(64,_),(65,_)] (fun (i:Nat)(l:List (Sl Int))(la:Option Addr)(lc:Nat)(q3:Sl (Sl (Sl Int)))(P3:Hp)(Sk:Hp)(Gk:Hp)(wT:Hp)=>(b,.cells cs.toArray 63 (0,0))::(So++(P3++(P2++(Sk++(Gk++(G++(R2++wT)))))))) (fun (i:Nat)(l:List (Sl Int))(la:Option Addr)(lc:Nat)(q3:Sl (Sl (Sl Int)))(P3:Hp)(Sk:Hp)(Gk:Hp)(wT:Hp)=>s.xs.length+70-i) s.xs.length l0 s.a s.c q1 P1 Sa [] PM ⟨by omega,by omega,Ct,al0,gq.start GM,tr,(fun p hp=>hp),.inl ⟨rfl,rfl⟩⟩ (by exact Sub.cons rfl (Sub.fY rfl (by rw[Ct];first|done|rfl) (Sub.cons rfl aH))) aH (by simp only[List.append_assoc];exact aP) ?_
   rintro i l la lc q3 P3 Sk Gk wT ⟨N0,Ie,o9,ha,hK,yW,QX,hc⟩
   refine ah fun _ dG=>?_;refine cR fun _ eb=>?_;refine oM (oM ?_);refine oS sN ?_;refine oS sF ?_;refine oS (az rfl (.own aV hb)) ?_;refine oM ?_;refine oS (au rfl rfl gu (by omega)) ?_;refine oS (az rfl ((hO.aU aM).ld n 0 hs rfl (by decide) (by omega))) ?_;refine oS sC ?_;refine oS sD ?_;refine oS (aF rfl rfl) ?_;refine oZ eb ?_;refine cx rfl (fun pQ=>?_) (fun pQ=>?_)
   ·refine ax (xZ dG (ah fun _ dL=>?_));refine ai (cR fun _ dR=>?_);refine oM (oM (oM ?_));refine ar (bC n i (by omega) (by omega)) rfl rfl rfl (fun _ _=>trivial) (fun v82 LR=>?_);subst LR
    refine ct (E:=Ei) (xs:=[kP n i]) (vs:=[_]) rfl rfl rfl rfl rfl (by decide) (by decide) fun Pc US sV=>?_;refine ct (E:=cX) (xs:=[(⟨some ⟨Pc,0,none⟩,1,[kP n i]⟩:Sl Int)]) (vs:=[_]) rfl rfl rfl rfl rfl (by decide) (by decide) fun b84 S84 UT=>?_;refine uH hK.own (UT.aU aM) rfl rfl rfl rfl (by simp only[List.length_singleton];omega) (by simp only[List.length_singleton];omega) rfl bh fun LS LU S85 G85 vO DW=>?_;refine oA (oZ dR (cR fun _ dk=>?_));refine oM (oM ?_);refine oS sN ?_;refine oS sF ?_;refine oS (az rfl (.own aV hb)) ?_;refine oM ?_;refine oS (au rfl rfl gu (by omega)) ?_;refine oS (az rfl ((hO.aU aM).ld n 0 hs rfl (by decide) (by omega))) ?_;refine oS sC ?_
    by_cases tv:i=s.xs.length
    ·have lW:=(hc.resolve_right (fun h=>absurd h.1 (by omega))).2
     have N1:=congrArg List.length lW
     refine oS ij (oZ dk ?_);refine cT (ae (oM (oM ?_)));refine ct (E:=cX) (xs:=[(⟨LS,LU,l++[(⟨some ⟨Pc,0,none⟩,1,[kP n i]⟩:Sl Int)]⟩:Sl (Sl Int))]) (vs:=[_]) rfl rfl rfl rfl rfl (by decide) (by decide) fun b98 S98 UU=>?_;refine bX yW (UU.aU aM) rfl rfl rfl rfl (by simp only[List.length_singleton];omega) (by simp only[List.length_singleton];omega) rfl bh fun a99 c99 S99 UW=>?_;refine oA (ak (aq (xZ dL (ae (oM ?_)))));refine oS sD (oA (ak ?_));exact av (cd (i+1,l++[(⟨some ⟨Pc,0,none⟩,1,[kP n i]⟩:Sl Int)],LS,LU,⟨a99,c99,q3.xs++[⟨LS,LU,l++[(⟨some ⟨Pc,0,none⟩,1,[kP n i]⟩:Sl Int)]⟩]⟩,S99,S85,G85++Gk,wT++US) ⟨by omega,by omega,by simp[o9],(ha.mono c4.ga).snoc o9 (show Iu _ n i (⟨some ⟨Pc,0,none⟩,1,[kP n i]⟩:Sl Int) from ⟨rfl,sV.rds.mono c4.mG,sV.sl⟩),hK.app vO DW,UW,(fun p hp=>c4.ga p (QX p hp)),.inr ⟨by omega,⟨LS,LU,l++[(⟨some ⟨Pc,0,none⟩,1,[kP n i]⟩:Sl Int)]⟩,by rw[lW],by simp[o9,tv],(ha.mono c4.ga).snoc o9 (show Iu _ n i (⟨some ⟨Pc,0,none⟩,1,[kP n i]⟩:Sl Int) from ⟨rfl,sV.rds.mono c4.mG,sV.sl⟩),vO.sl,(gq.start vO).more (fun _ h=>by cases h)⟩⟩ (by first|omega|(dsimp only;omega)) aH (by simp only[List.append_assoc];exact aP))
    ·obtain⟨rb,o,lW,ho,hao,qL,yX⟩:=hc.resolve_left (fun h=>tv h.1)
     refine oS ik (oZ dk ?_);refine cF (ax (aq (xZ dL (ae (oM ?_)))));refine oS sD (oA (ak ?_));exact av (cd (i+1,l++[(⟨some ⟨Pc,0,none⟩,1,[kP n i]⟩:Sl Int)],LS,LU,q3,P3,S85,G85++Gk,wT++US) ⟨by omega,by omega,by simp[o9],(ha.mono c4.ga).snoc o9 (show Iu _ n i (⟨some ⟨Pc,0,none⟩,1,[kP n i]⟩:Sl Int) from ⟨rfl,sV.rds.mono c4.mG,sV.sl⟩),hK.app vO DW,yW,(fun p hp=>c4.ga p (QX p hp)),.inr ⟨by omega,o,lW,ho,hao.mono c4.ga,qL,yX.app vO DW⟩⟩ (by first|omega|(dsimp only;omega)) aH (by simp only[List.append_assoc];exact aP))
   ·refine ay ?_;refine ad (ad (ag (xZ cZ (ae (oM (oM ?_))))));refine ct (E:=cX) (xs:=[(⟨la,lc,l⟩:Sl (Sl Int))]) (vs:=[_]) rfl rfl rfl rfl rfl (by decide) (by decide) fun agj agk LV=>?_;refine bX ka (LV.aU aM) rfl rfl rfl rfl (by simp only[List.length_singleton];omega) (by simp only[List.length_singleton];omega) rfl bh fun UX UY UZ LW=>?_;refine oA (ak (aq (xZ cO (ae (oM ?_)))));refine oS sD (oA (ak ?_))
    obtain⟨rb,o,lW,ho,hao,qL,yX⟩:=hc.resolve_left (fun h=>absurd h.1 (by omega))
    exact av (cd (n+1,q3,⟨UX,UY,q2.xs++[⟨la,lc,l⟩]⟩,P3,UZ,Sk++(Gk++G),R2,wT) ⟨by omega,by rw[lW];simp;omega,by simp;omega,yW,LW,EP.mono QX,by rw[lW,← List.append_assoc];exact (hD.mono QX).step Jy MX hs ho (by show l.length=_;omega) Ct hao ha (al0.mono QX) pS qL hK.own.sl hK.rds yX.rds (hK.own.rds.mono c4.ga)⟩ (by first|omega|(dsimp only;omega)) aH (by simp only[List.append_assoc];exact aP))
  ·obtain rfl:n=sls.length:=by omega
   have pT:=tr.sl
   have fP:=ka.sl
   refine ay ?_;refine ad (ad (ag (xZ bD (ah fun _ dE=>?_))));refine cR fun _ dS=>?_;refine oA (oZ dS (ai ?_))
   refine aL (fun (j:Nat)=>j≤sls.length) (fun (j:Nat)=>[(10,.int .i64 j)]) [(0,_),(5,_),(6,_)] (fun (j:Nat)=>(b,.cells cs.toArray 63 (0,0))::(So++(P1++(P2++(G++(R++PM)))))) (fun (j:Nat)=>sls.length-j) 0 (by omega) aH aH aP ?_
   rintro j hj
   refine ah fun _ dW=>?_;refine cR fun _ ee=>?_;refine oM (oM ?_);refine oS sC ?_;refine oS (aF rfl rfl) ?_;refine oZ ee ?_;refine cx rfl (fun cH=>?_) (fun cH=>?_)
   ·obtain⟨s,o,m,ls,hs,ho,hm,Xo,ot,aj8,alo,alm,als,N2,io,im,rs,ro,rm⟩:=hD.out j (by omega)
    have jr:=hlen j s hs
    refine ax (xZ dW (ah fun _ eh=>?_));refine ai (cR fun _ eD=>?_);refine oA (oZ eD (ai ?_));refine aL (fun (i:Nat)=>i≤s.xs.length+70) (fun (i:Nat)=>[(11,.int .i64 i)]) [(0,_),(5,_),(6,_),(10,_),(104,_),(105,_),(106,_),(107,_)] (fun (i:Nat)=>(b,.cells cs.toArray 63 (0,0))::(So++(P1++(P2++(G++(R++PM)))))) (fun (i:Nat)=>s.xs.length+70-i) 0 (by omega) aH aH aP ?_
    rintro i hi
    refine ah fun _ dN=>?_;refine cR fun _ e6=>?_;refine oM (oM (oM ?_));refine oS (au rfl rfl fP (by omega)) ?_;refine oS (az rfl ((ka.aU aM).ld j 0 hm rfl (by decide) (by omega))) ?_;refine oS sC ?_;refine oS (aF rfl rfl) ?_;refine oZ e6 ?_;refine cx rfl (fun pQ=>?_) (fun pQ=>?_)
    ·obtain⟨em,LX,zP⟩:=alm.get (i:=i) (by omega)
     have GO:=zP
     refine ax (xZ dN (ah fun _ du=>?_));refine ai (cR fun _ fF=>?_);refine oM (oM ?_);refine oS (au rfl rfl fP (by omega)) ?_;refine oS (az rfl ((ka.aU aM).ld j 0 hm rfl (by decide) (by omega))) ?_;refine oM ?_;refine oS (au rfl rfl im (by omega)) ?_;refine oS (az rfl ((rm.aU aM).ld i 0 LX rfl (by decide) rfl)) ?_;refine oA (oZ fF (ah fun _ fx=>?_));refine cR fun _ fN=>?_;refine oM (oM ?_);refine oS sN ?_;refine oS sF ?_;refine oS (az rfl (.own aV hb)) ?_;refine oM ?_;refine oS (au rfl rfl gu (by omega)) ?_;refine oS (az rfl ((hO.aU aM).ld j 0 hs rfl (by decide) (by omega))) ?_;refine oS sC ?_
     by_cases ER:i<s.xs.length
     ·obtain⟨es,agl,GO⟩:=als.get (i:=i) (by omega)
      refine oS wg (oZ fN ?_);refine cT (ae (oM ?_));refine oS sN ?_;refine oS sF ?_;refine oS (az rfl (.own aV hb)) ?_;refine oM ?_;refine oS (au rfl rfl gu (by omega)) ?_;refine oS (az rfl ((hO.aU aM).ld j 0 hs rfl (by decide) (by omega))) ?_;refine oM ?_;refine oS (au rfl rfl N2 (by omega)) ?_;refine oS (az rfl ((rs.aU aM).ld i 0 agl rfl (by decide) (by rfl))) ?_;refine oA (oZ fx (ah fun _ gh=>?_));refine cR fun _ fZ=>?_;refine oM (oM ?_);refine oS sN ?_;refine oS sF ?_;refine oS (az rfl (.own aV hb)) ?_;refine oM ?_;refine oS (au rfl rfl gu (by omega)) ?_;refine oS (az rfl ((hO.aU aM).ld j 0 hs rfl (by decide) (by omega))) ?_;refine oS sC ?_
      by_cases tv:i=s.xs.length
      ·obtain⟨eo,U1,GO⟩:=alo.get (i:=i) (by omega)
       refine oS ij (oZ fZ ?_);refine cT (ae (oM (oM ?_)));refine oS (au rfl rfl pT (by omega)) ?_;refine oS (az rfl ((tr.aU aM).ld j 0 ho rfl (by decide) (by omega))) ?_;refine oM ?_;refine oS (au rfl rfl io (by omega)) ?_;refine oS (az rfl ((ro.aU aM).ld i 0 U1 rfl (by decide) rfl)) ?_;refine oA (oZ gh (cR fun _ iW=>?_));refine oM (oM (oM ?_));refine ar (bC j i (by omega) (by omega)) rfl rfl rfl (fun _ _=>trivial) (fun DX jL=>?_)
       subst jL;refine ct (E:=Ei) (xs:=[kP j i]) (vs:=[_]) rfl rfl rfl rfl rfl (by decide) (by decide) fun DY U2 vP=>?_;refine ar (nf GO DY) rfl rfl rfl (fun w st=>⟨(GO.2.1.aU aM).out w st,(vP.aU aM).out w st⟩) (fun CW jC=>?_);subst jC
       refine oA (oZ iW (cR fun _ gA=>?_));refine oM (oM ?_);refine oS (au rfl rfl fP (by omega)) ?_;refine oS (az rfl ((ka.aU aM).ld j 0 hm rfl (by decide) (by omega))) ?_;refine oM ?_;refine oS (au rfl rfl im (by omega)) ?_;refine oS (az rfl ((rm.aU aM).ld i 0 LX rfl (by decide) rfl)) ?_;refine oA (oZ gA (cR fun _ iX=>?_));refine oM ?_;refine oS (aT rfl) ?_;refine oM ?_;refine oY (oM ?_);refine oY (oM ?_);refine oY (oM ?_);refine oY ?_;refine ar (bC j i (by omega) (by omega)) rfl rfl rfl (fun _ _=>trivial) (fun Bq jM=>?_);subst jM
       refine oY ?_;refine ct (E:=Ei) (xs:=[kP j i]) (vs:=[_]) rfl rfl rfl rfl rfl (by decide) (by decide) fun DZ U3 vQ=>?_;refine oY ?_;refine ar (nf zP DZ) rfl rfl rfl (fun w st=>⟨(zP.2.1.aU aM).out w st,(vQ.aU aM).out w st⟩) (fun OX qx=>?_);subst qx
       refine oY ?_;refine oS (aT rfl) ?_;refine oS sP (oZ iX ?_);refine cF (ax (aq (xZ du (ae (oM ?_)))));refine oS sD (oA (ak ?_));exact xI (i+1) (by omega)
      ·refine oS ik (oZ fZ ?_);refine eL gh (cR fun _ jW=>?_);refine oM (oM (oM ?_));refine ar (bC j i (by omega) (by omega)) rfl rfl rfl (fun _ _=>trivial) (fun DX jL=>?_);subst jL
       refine ct (E:=Ei) (xs:=[kP j i]) (vs:=[_]) rfl rfl rfl rfl rfl (by decide) (by decide) fun DY U2 vP=>?_;refine ar (nf GO DY) rfl rfl rfl (fun w st=>⟨(GO.2.1.aU aM).out w st,(vP.aU aM).out w st⟩) (fun CW jC=>?_);subst jC
       refine oA (oZ jW (cR fun _ kT=>?_));refine oM (oM ?_);refine oS (au rfl rfl fP (by omega)) ?_;refine oS (az rfl ((ka.aU aM).ld j 0 hm rfl (by decide) (by omega))) ?_;refine oM ?_;refine oS (au rfl rfl im (by omega)) ?_;refine oS (az rfl ((rm.aU aM).ld i 0 LX rfl (by decide) rfl)) ?_;refine oA (oZ kT (cR fun _ nL=>?_));refine oM ?_;refine oS (aT rfl) ?_;refine oM ?_;refine oY (oM ?_);refine oY (oM ?_);refine oY (oM ?_);refine oY ?_;refine ar (bC j i (by omega) (by omega)) rfl rfl rfl (fun _ _=>trivial) (fun Bq jM=>?_);subst jM
       refine oY ?_;refine ct (E:=Ei) (xs:=[kP j i]) (vs:=[_]) rfl rfl rfl rfl rfl (by decide) (by decide) fun DZ U3 vQ=>?_;refine oY ?_;refine ar (nf zP DZ) rfl rfl rfl (fun w st=>⟨(zP.2.1.aU aM).out w st,(vQ.aU aM).out w st⟩) (fun OX qx=>?_);subst qx
       refine oY ?_;refine oS (aT rfl) ?_;refine oS sP (oZ nL ?_);refine cF (ax (aq (xZ du (ae (oM ?_)))));refine oS sD (oA (ak ?_));exact xI (i+1) (by omega)
     ·refine oS wh (oZ fN ?_);refine eL fx (ah fun _ kU=>?_);refine cR fun _ kV=>?_;refine oM (oM ?_);refine oS sN ?_;refine oS sF ?_;refine oS (az rfl (.own aV hb)) ?_;refine oM ?_;refine oS (au rfl rfl gu (by omega)) ?_;refine oS (az rfl ((hO.aU aM).ld j 0 hs rfl (by decide) (by omega))) ?_;refine oS sC ?_
      by_cases tv:i=s.xs.length
      ·obtain⟨eo,U1,GO⟩:=alo.get (i:=i) (by omega)
       refine oS ij (oZ kV ?_);refine cT (ae (oM (oM ?_)));refine oS (au rfl rfl pT (by omega)) ?_;refine oS (az rfl ((tr.aU aM).ld j 0 ho rfl (by decide) (by omega))) ?_;refine oM ?_;refine oS (au rfl rfl io (by omega)) ?_;refine oS (az rfl ((ro.aU aM).ld i 0 U1 rfl (by decide) rfl)) ?_;refine oA (oZ kU (cR fun _ ou=>?_));refine oM (oM (oM ?_));refine ar (bC j i (by omega) (by omega)) rfl rfl rfl (fun _ _=>trivial) (fun DX jL=>?_)
       subst jL;refine ct (E:=Ei) (xs:=[kP j i]) (vs:=[_]) rfl rfl rfl rfl rfl (by decide) (by decide) fun DY U2 vP=>?_;refine ar (nf GO DY) rfl rfl rfl (fun w st=>⟨(GO.2.1.aU aM).out w st,(vP.aU aM).out w st⟩) (fun CW jC=>?_);subst jC
       refine oA (oZ ou (cR fun _ rh=>?_));refine oM (oM ?_);refine oS (au rfl rfl fP (by omega)) ?_;refine oS (az rfl ((ka.aU aM).ld j 0 hm rfl (by decide) (by omega))) ?_;refine oM ?_;refine oS (au rfl rfl im (by omega)) ?_;refine oS (az rfl ((rm.aU aM).ld i 0 LX rfl (by decide) rfl)) ?_;refine oA (oZ rh (cR fun _ uK=>?_));refine oM ?_;refine oS (aT rfl) ?_;refine oM ?_;refine oY (oM ?_);refine oY (oM ?_);refine oY (oM ?_);refine oY ?_;refine ar (bC j i (by omega) (by omega)) rfl rfl rfl (fun _ _=>trivial) (fun Bq jM=>?_);subst jM
       refine oY ?_;refine ct (E:=Ei) (xs:=[kP j i]) (vs:=[_]) rfl rfl rfl rfl rfl (by decide) (by decide) fun DZ U3 vQ=>?_;refine oY ?_;refine ar (nf zP DZ) rfl rfl rfl (fun w st=>⟨(zP.2.1.aU aM).out w st,(vQ.aU aM).out w st⟩) (fun OX qx=>?_);subst qx
       refine oY ?_;refine oS (aT rfl) ?_;refine oS sP (oZ uK ?_);refine cF (ax (aq (xZ du (ae (oM ?_)))));refine oS sD (oA (ak ?_));exact xI (i+1) (by omega)
      ·refine oS ik (oZ kV ?_);refine eL kU (cR fun _ yY=>?_);refine oM (oM (oM ?_));refine ar (bC j i (by omega) (by omega)) rfl rfl rfl (fun _ _=>trivial) (fun DX jL=>?_);subst jL
       refine ct (E:=Ei) (xs:=[kP j i]) (vs:=[_]) rfl rfl rfl rfl rfl (by decide) (by decide) fun DY U2 vP=>?_;refine ar (nf GO DY) rfl rfl rfl (fun w st=>⟨(GO.2.1.aU aM).out w st,(vP.aU aM).out w st⟩) (fun CW jC=>?_);subst jC
       refine oA (oZ yY (cR fun _ yZ=>?_));refine oM (oM ?_);refine oS (au rfl rfl fP (by omega)) ?_;refine oS (az rfl ((ka.aU aM).ld j 0 hm rfl (by decide) (by omega))) ?_;refine oM ?_;refine oS (au rfl rfl im (by omega)) ?_;refine oS (az rfl ((rm.aU aM).ld i 0 LX rfl (by decide) rfl)) ?_;refine oA (oZ yZ (cR fun _ y6=>?_));refine oM ?_;refine oS (aT rfl) ?_;refine oM ?_;refine oY (oM ?_);refine oY (oM ?_);refine oY (oM ?_);refine oY ?_;refine ar (bC j i (by omega) (by omega)) rfl rfl rfl (fun _ _=>trivial) (fun Bq jM=>?_);subst jM
       refine oY ?_;refine ct (E:=Ei) (xs:=[kP j i]) (vs:=[_]) rfl rfl rfl rfl rfl (by decide) (by decide) fun DZ U3 vQ=>?_;refine oY ?_;refine ar (nf zP DZ) rfl rfl rfl (fun w st=>⟨(zP.2.1.aU aM).out w st,(vQ.aU aM).out w st⟩) (fun OX qx=>?_);subst qx
       refine oY ?_;refine oS (aT rfl) ?_;refine oS sP (oZ y6 ?_);refine cF (ax (aq (xZ du (ae (oM ?_)))));refine oS sD (oA (ak ?_));exact xI (i+1) (by omega)
    ·refine ay ?_;refine ad (ad (ag (aq (xZ eh (ae (oM ?_))))));refine oS sD (oA (ak ?_));exact xI (j+1) (by omega)
   ·refine ay ?_;refine ad (ad (ag (xZ dE (cR fun _ y7=>?_))));refine oA (oZ y7 (aA ?_));refine ?_;refine cM (Sub.refl _) (H':=(b,.cells cs.toArray 63 (0,0))::So) aP ?_;exact xR rfl rfl (⟨rfl,rfl⟩)
theorem wP (b:Nat)(cs:List Value)(sls:List (Sl Kl.Cl))(s:Sl Kl.Cl)(oa:Option Addr)(oc:Nat)(So:Hp)(hb:cs[7]?=some (.slice oa sls.length oc))(hN:sls.length<400)(hO:aG cX 1 26 (.slice oa sls.length oc) sls So):HL.Fn Tryz.prog 47 [.pointer (some ⟨b,0,none⟩),.slice s.a s.xs.length s.c] (fun _=>True) ((b,.cells cs.toArray 63 (0,0))::So) (fun _ S'=>∃ (sk:List Value)(FD:Option Addr)(FE:Nat)(Bk:Hp),S'=(b,.cells sk.toArray 63 (0,0))::Bk∧sk[7]?=some (.slice FD (sls++[s]).length FE)∧(∀ i,i≠7→sk[i]?=cs[i]?)∧aG cX 1 26 (.slice FD (sls++[s]).length FE) (sls++[s]) Bk):=by
 refine aW Tryz.func47 rfl rfl rfl fun w0 hw=>?_
 have jq:7<cs.length:=(List.getElem?_eq_some_iff.1 hb).1
 refine cR fun _ bI=>?_;refine oM ?_;refine oS sN ?_;refine oS sF ?_;refine oS (az rfl (.own aV hb)) ?_;refine oS sC ?_;refine oS (zC rfl rfl (by omega)) ?_;refine oZ bI ?_;refine cT (ae (oM (oM ?_)));refine oS sN ?_;refine oS sF ?_;refine oS (az rfl (.own aV hb)) ?_;refine oM ?_;refine ct (E:=cX) (xs:=[s]) (vs:=[_]) rfl rfl rfl rfl rfl (by decide) (by decide) fun s8 V3 sR=>?_;refine bX hO (sR.aU aM) rfl rfl rfl rfl (by simp only[List.length_singleton];omega) (by simp only[List.length_singleton];omega) rfl bh fun Um Un zB sS=>?_;refine oS sN ?_;refine oS sF ?_;refine bg rfl rfl rfl bY kD rfl ?_;refine ak ?_;refine cM (Sub.refl _) (H':=(b,.cells (cs.set 7 (.slice Um (sls++[s]).length Un)).toArray 63 (0,0))::zB) aP ?_;exact fB rfl (.nil) (⟨_,_,_,_,rfl,List.getElem?_set_self jq,fun i hi=>List.getElem?_set_ne (Ne.symm hi),sS⟩)
theorem Bl (b:Nat)(cs:List Value)(sls:List (Sl Bool))(s:Sl Bool)(oa:Option Addr)(oc:Nat)(So:Hp)(hb:cs[2]?=some (.slice oa sls.length oc))(hN:sls.length<400)(hO:aG cX 1 28 (.slice oa sls.length oc) sls So):HL.Fn Tryz.prog 49 [.pointer (some ⟨b,0,none⟩),.slice s.a s.xs.length s.c] (fun _=>True) ((b,.cells cs.toArray 63 (0,0))::So) (fun _ S'=>∃ (sk:List Value)(FD:Option Addr)(FE:Nat)(Bk:Hp),S'=(b,.cells sk.toArray 63 (0,0))::Bk∧sk[2]?=some (.slice FD (sls++[s]).length FE)∧(∀ i,i≠2→sk[i]?=cs[i]?)∧aG cX 1 28 (.slice FD (sls++[s]).length FE) (sls++[s]) Bk):=by
 refine aW Tryz.func49 rfl rfl rfl fun w0 hw=>?_
 have jq:2<cs.length:=(List.getElem?_eq_some_iff.1 hb).1
 refine cR fun _ bI=>?_;refine oM ?_;refine oS sN ?_;refine oS sF ?_;refine oS (az rfl (.own aV hb)) ?_;refine oS sC ?_;refine oS (zC rfl rfl (by omega)) ?_;refine oZ bI ?_;refine cT (ae (oM (oM ?_)));refine oS sN ?_;refine oS sF ?_;refine oS (az rfl (.own aV hb)) ?_;refine oM ?_;refine ct (E:=cX) (xs:=[s]) (vs:=[_]) rfl rfl rfl rfl rfl (by decide) (by decide) fun s8 V3 sR=>?_;refine bX hO (sR.aU aM) rfl rfl rfl rfl (by simp only[List.length_singleton];omega) (by simp only[List.length_singleton];omega) rfl bh fun Um Un zB sS=>?_;refine oS sN ?_;refine oS sF ?_;refine bg rfl rfl rfl bY kD rfl ?_;refine ak ?_;refine cM (Sub.refl _) (H':=(b,.cells (cs.set 2 (.slice Um (sls++[s]).length Un)).toArray 63 (0,0))::zB) aP ?_;exact fB rfl (.nil) (⟨_,_,_,_,rfl,List.getElem?_set_self jq,fun i hi=>List.getElem?_set_ne (Ne.symm hi),sS⟩)
theorem Ak (b:Nat)(cs:List Value)(sls:List (Sl Nd))(s:Sl Nd)(oa:Option Addr)(oc:Nat)(So:Hp)(hb:cs[8]?=some (.slice oa sls.length oc))(hN:sls.length<400)(hO:aG cX 1 22 (.slice oa sls.length oc) sls So):HL.Fn Tryz.prog 15 [.pointer (some ⟨b,0,none⟩),.slice s.a s.xs.length s.c] (fun _=>True) ((b,.cells cs.toArray 63 (0,0))::So) (fun _ S'=>∃ (sk:List Value)(FD:Option Addr)(FE:Nat)(Bk:Hp),S'=(b,.cells sk.toArray 63 (0,0))::Bk∧sk[8]?=some (.slice FD (sls++[s]).length FE)∧(∀ i,i≠8→sk[i]?=cs[i]?)∧aG cX 1 22 (.slice FD (sls++[s]).length FE) (sls++[s]) Bk):=by
 refine aW Tryz.func15 rfl rfl rfl fun w0 hw=>?_
 have jq:8<cs.length:=(List.getElem?_eq_some_iff.1 hb).1
 refine cR fun _ bI=>?_;refine oM ?_;refine oS sN ?_;refine oS sF ?_;refine oS (az rfl (.own aV hb)) ?_;refine oS sC ?_;refine oS (zC rfl rfl (by omega)) ?_;refine oZ bI ?_;refine cT (ae (oM (oM ?_)));refine oS sN ?_;refine oS sF ?_;refine oS (az rfl (.own aV hb)) ?_;refine oM ?_;refine ct (E:=cX) (xs:=[s]) (vs:=[_]) rfl rfl rfl rfl rfl (by decide) (by decide) fun s8 V3 sR=>?_;refine bX hO (sR.aU aM) rfl rfl rfl rfl (by simp only[List.length_singleton];omega) (by simp only[List.length_singleton];omega) rfl bh fun Um Un zB sS=>?_;refine oS sN ?_;refine oS sF ?_;refine bg rfl rfl rfl bY kD rfl ?_;refine ak ?_;refine cM (Sub.refl _) (H':=(b,.cells (cs.set 8 (.slice Um (sls++[s]).length Un)).toArray 63 (0,0))::zB) aP ?_;exact fB rfl (.nil) (⟨_,_,_,_,rfl,List.getElem?_set_self jq,fun i hi=>List.getElem?_set_ne (Ne.symm hi),sS⟩)
end Go.Proofs.YtmompllplidphaaGreatDoor
namespace Go.HL.cm
open Go Go.HL Go.HL.Kl Go.HL.Kl.Mc
def ox {α:Type}(l:List α)(s:α):List α:=if l.length<400 then l++[s] else l
theorem AT {α:Type}{l:List α}{s:α}(h:l.length<400):ox l s=l++[s]:=if_pos h
theorem AU {α:Type}{l:List α}{s:α}(h:¬ l.length<400):ox l s=l:=if_neg h
def eC (il rows nS:List (Sl Int))(i:Nat):Prop:=∃ k,k≤i∧nS=il++rows.take k∧nS.length≤400∧(k=i∨nS.length=400)
theorem eC.zero {il rows:List (Sl Int)}(h:il.length≤400):eC il rows il 0:=⟨0,Nat.le_refl _,by simp,h,.inl rfl⟩
theorem eC.step {il rows nS:List (Sl Int)}{i:Nat}{s:Sl Int}(h:eC il rows nS i)(hs:rows[i]?=some s):eC il rows (ox nS s) (i+1):=by
 obtain⟨k,h1,h2,h3,h4⟩:=h
 by_cases hl:nS.length<400
 · have hk:k=i:=by omega
   rw[AT hl]
   refine⟨i+1,Nat.le_refl _,by rw[h2,hk,aY hs,List.append_assoc],by simp;omega,.inl rfl⟩
 · rw[AU hl]
   exact⟨k,by omega,h2,h3,.inr (by omega)⟩
structure Rq (b:Nat)(cs:List Value)(il:List (Sl Int))(o1:Option Addr)(c1:Nat)(S1:Hp)(bl:List (Sl Bool))(o2:Option Addr)(c2:Nat)(S2:Hp)(cl:List (Sl Kl.Cl))(o7:Option Addr)(c7:Nat)(S7:Hp)(nl:List (Sl Nd))(o8:Option Addr)(c8:Nat)(S8:Hp)(xl:List (Sl (Sl Int)))(yz:Option Addr)(og:Nat)(oT:Hp):Prop where
 h1:cs[1]?=some (.slice o1 il.length c1)
 h2:cs[2]?=some (.slice o2 bl.length c2)
 h7:cs[7]?=some (.slice o7 cl.length c7)
 h8:cs[8]?=some (.slice o8 nl.length c8)
 H8:cs[14]?=some (.slice yz xl.length og)
 w1:aG cX 1 36 (.slice o1 il.length c1) il S1
 w2:aG cX 1 28 (.slice o2 bl.length c2) bl S2
 w7:aG cX 1 26 (.slice o7 cl.length c7) cl S7
 w8:aG cX 1 22 (.slice o8 nl.length c8) nl S8
 WE:aG cX 1 27 (.slice yz xl.length og) xl oT
 hz:∀ i,i<19→i≠1→i≠2→i≠7→i≠8→i≠14→cs[i]?=some (.slice none 0 0)
def wq (b:Nat)(il:List (Sl Int))(bl:List (Sl Bool))(cl:List (Sl Kl.Cl))(nl:List (Sl Nd))(xl:List (Sl (Sl Int)))(S:Hp):Prop:=∃ cs o1 c1 S1 o2 c2 S2 o7 c7 S7 o8 c8 S8 yz og oT,S=(b,.cells cs.toArray 63 (0,0))::(S1++(S2++(S7++(S8++oT))))∧Rq b cs il o1 c1 S1 bl o2 c2 S2 cl o7 c7 S7 nl o8 c8 S8 xl yz og oT
theorem Je {α:Type}{E:α→List Value}{k:Nat}{T:TypeId}{sls XK:List (Sl α)}{dO XL:List (List α)}{S S':Hp}(h:cG E k T sls dO S)(h':cG E k T XK XL S'):cG E k T (sls++XK) (dO++XL) (S++S'):=by
 induction h with
 | nil=>exact h'
 | cons h1 h2 ih=>rw[List.append_assoc];exact .cons h1 ih
theorem CH {α:Type}{E:α→List Value}{k:Nat}{T:TypeId}{sls:List (Sl α)}{dO:List (List α)}{S:Hp}(h:cG E k T sls dO S):∀ n,∃ S1 S2,S=S1++S2∧cG E k T (sls.take n) (dO.take n) S1:=by
 induction h with
 | nil=>exact fun n=>⟨[],[],rfl,by simpa using (cG.nil:cG E k T [] [] [])⟩
 | cons h1 h2 ih=>
   intro n
   cases n with
   | zero=>exact⟨[],_,rfl,by simpa using (cG.nil:cG E k T [] [] [])⟩
   | succ n=>
     obtain⟨S1,S2,rfl,h3⟩:=ih n
     exact⟨_,S2,(List.append_assoc _ _ _).symm,.cons h1 h3⟩
theorem p9 {α:Type}{E:α→List Value}{k T:Nat}{s:Sl α}{xs:List α}{S:Hp}(h:aG E k T s.v xs S):cG E k T [s] [xs] S:=by simpa using cG.cons h .nil
end Go.HL.cm
