/- A logic for walks: over the kit's own wp and Calls: the frame and the heap as lists, a rule for each operation; contracts; loops; the lifting of a law. Conditions: none, each rule bears its own. -/
import Derived.Test.YtmompllplidphaaGreatDoorHl
import Derived.ChangeSame
import Derived.Defers
import Derived.Laws.Build
import Derived.Laws.BytesString
import Derived.Laws.NewFold
import Derived.LaidMore
import Derived.Lib.LaidTab
import Derived.LaidHandle
import Derived.MakeChecks
namespace Go.HL
open Go
theorem eA.cap {a:Option Addr}{n m c:Nat}(h:eA (.slice a n c) m):m≤c:=by
 obtain⟨⟨a',c',hv,hn,_⟩,_⟩:=h
 simp only[Value.slice.injEq] at hv
 obtain⟨rfl,rfl,rfl⟩:=hv
 exact hn
section
variable {P:Program}{κ:Cx}{Q:gR}{L L':Loc}{H H':Hp}
theorem lS {ι0 ι1 ι2 ι3 ι4:Type}{body:Code}(I:ι0→ι1→ι2→ι3→ι4→Prop)(dd:ι0→ι1→ι2→ι3→ι4→Loc)(base:Loc)(Hf:ι0→ι1→ι2→ι3→ι4→Hp)(m:ι0→ι1→ι2→ι3→ι4→Nat)(i0:ι0)(i1:ι1)(i2:ι2)(i3:ι3)(i4:ι4)(h0:I i0 i1 i2 i3 i4)(hL:Sub L (dd i0 i1 i2 i3 i4))(hb:Sub L base)(hH:HSub H (Hf i0 i1 i2 i3 i4))
   (round:∀ i0 i1 i2 i3 i4,I i0 i1 i2 i3 i4→C P κ (Exit.then (Inv κ (fun p:ι0×ι1×ι2×ι3×ι4=>I p.1 p.2.1 p.2.2.1 p.2.2.2.1 p.2.2.2.2) (fun p=>dd p.1 p.2.1 p.2.2.1 p.2.2.2.1 p.2.2.2.2++base) (fun p=>Hf p.1 p.2.1 p.2.2.1 p.2.2.2.1 p.2.2.2.2) (fun p=>m p.1 p.2.1 p.2.2.1 p.2.2.2.1 p.2.2.2.2) (i0,i1,i2,i3,i4)) Q) body (dd i0 i1 i2 i3 i4++base) (Hf i0 i1 i2 i3 i4)):C P κ Q (.loop body) L H:=
 ky (fun p:ι0×ι1×ι2×ι3×ι4=>I p.1 p.2.1 p.2.2.1 p.2.2.2.1 p.2.2.2.2) (fun p=>dd p.1 p.2.1 p.2.2.1 p.2.2.2.1 p.2.2.2.2++base) (fun p=>Hf p.1 p.2.1 p.2.2.1 p.2.2.2.1 p.2.2.2.2) (fun p=>m p.1 p.2.1 p.2.2.1 p.2.2.2.1 p.2.2.2.2) (i0,i1,i2,i3,i4) h0 (hL.app hb) hH (fun p hp=>round p.1 p.2.1 p.2.2.1 p.2.2.2.1 p.2.2.2.2 hp)
theorem jY {ι0 ι1 ι2 ι3 ι4 ι5:Type}{body:Code}(I:ι0→ι1→ι2→ι3→ι4→ι5→Prop)(dd:ι0→ι1→ι2→ι3→ι4→ι5→Loc)(base:Loc)(Hf:ι0→ι1→ι2→ι3→ι4→ι5→Hp)(m:ι0→ι1→ι2→ι3→ι4→ι5→Nat)(i0:ι0)(i1:ι1)(i2:ι2)(i3:ι3)(i4:ι4)(i5:ι5)(h0:I i0 i1 i2 i3 i4 i5)(hL:Sub L (dd i0 i1 i2 i3 i4 i5))(hb:Sub L base)(hH:HSub H (Hf i0 i1 i2 i3 i4 i5))
   (round:∀ i0 i1 i2 i3 i4 i5,I i0 i1 i2 i3 i4 i5→C P κ (Exit.then (Inv κ (fun p:ι0×ι1×ι2×ι3×ι4×ι5=>I p.1 p.2.1 p.2.2.1 p.2.2.2.1 p.2.2.2.2.1 p.2.2.2.2.2) (fun p=>dd p.1 p.2.1 p.2.2.1 p.2.2.2.1 p.2.2.2.2.1 p.2.2.2.2.2++base) (fun p=>Hf p.1 p.2.1 p.2.2.1 p.2.2.2.1 p.2.2.2.2.1 p.2.2.2.2.2) (fun p=>m p.1 p.2.1 p.2.2.1 p.2.2.2.1 p.2.2.2.2.1 p.2.2.2.2.2) (i0,i1,i2,i3,i4,i5)) Q) body (dd i0 i1 i2 i3 i4 i5++base) (Hf i0 i1 i2 i3 i4 i5)):C P κ Q (.loop body) L H:=
 ky (fun p:ι0×ι1×ι2×ι3×ι4×ι5=>I p.1 p.2.1 p.2.2.1 p.2.2.2.1 p.2.2.2.2.1 p.2.2.2.2.2) (fun p=>dd p.1 p.2.1 p.2.2.1 p.2.2.2.1 p.2.2.2.2.1 p.2.2.2.2.2++base) (fun p=>Hf p.1 p.2.1 p.2.2.1 p.2.2.2.1 p.2.2.2.2.1 p.2.2.2.2.2) (fun p=>m p.1 p.2.1 p.2.2.1 p.2.2.2.1 p.2.2.2.2.1 p.2.2.2.2.2) (i0,i1,i2,i3,i4,i5) h0 (hL.app hb) hH (fun p hp=>round p.1 p.2.1 p.2.2.1 p.2.2.2.1 p.2.2.2.2.1 p.2.2.2.2.2 hp)
theorem lL {ι0 ι1 ι2 ι3 ι4 ι5 ι6:Type}{body:Code}(I:ι0→ι1→ι2→ι3→ι4→ι5→ι6→Prop)(dd:ι0→ι1→ι2→ι3→ι4→ι5→ι6→Loc)(base:Loc)(Hf:ι0→ι1→ι2→ι3→ι4→ι5→ι6→Hp)(m:ι0→ι1→ι2→ι3→ι4→ι5→ι6→Nat)(i0:ι0)(i1:ι1)(i2:ι2)(i3:ι3)(i4:ι4)(i5:ι5)(i6:ι6)(h0:I i0 i1 i2 i3 i4 i5 i6)(hL:Sub L (dd i0 i1 i2 i3 i4 i5 i6))(hb:Sub L base)(hH:HSub H (Hf i0 i1 i2 i3 i4 i5 i6))
   (round:∀ i0 i1 i2 i3 i4 i5 i6,I i0 i1 i2 i3 i4 i5 i6→C P κ (Exit.then (Inv κ (fun p:ι0×ι1×ι2×ι3×ι4×ι5×ι6=>I p.1 p.2.1 p.2.2.1 p.2.2.2.1 p.2.2.2.2.1 p.2.2.2.2.2.1 p.2.2.2.2.2.2) (fun p=>dd p.1 p.2.1 p.2.2.1 p.2.2.2.1 p.2.2.2.2.1 p.2.2.2.2.2.1 p.2.2.2.2.2.2++base) (fun p=>Hf p.1 p.2.1 p.2.2.1 p.2.2.2.1 p.2.2.2.2.1 p.2.2.2.2.2.1 p.2.2.2.2.2.2) (fun p=>m p.1 p.2.1 p.2.2.1 p.2.2.2.1 p.2.2.2.2.1 p.2.2.2.2.2.1 p.2.2.2.2.2.2) (i0,i1,i2,i3,i4,i5,i6)) Q) body (dd i0 i1 i2 i3 i4 i5 i6++base) (Hf i0 i1 i2 i3 i4 i5 i6)):C P κ Q (.loop body) L H:=
 ky (fun p:ι0×ι1×ι2×ι3×ι4×ι5×ι6=>I p.1 p.2.1 p.2.2.1 p.2.2.2.1 p.2.2.2.2.1 p.2.2.2.2.2.1 p.2.2.2.2.2.2) (fun p=>dd p.1 p.2.1 p.2.2.1 p.2.2.2.1 p.2.2.2.2.1 p.2.2.2.2.2.1 p.2.2.2.2.2.2++base) (fun p=>Hf p.1 p.2.1 p.2.2.1 p.2.2.2.1 p.2.2.2.2.1 p.2.2.2.2.2.1 p.2.2.2.2.2.2) (fun p=>m p.1 p.2.1 p.2.2.1 p.2.2.2.1 p.2.2.2.2.1 p.2.2.2.2.2.1 p.2.2.2.2.2.2) (i0,i1,i2,i3,i4,i5,i6) h0 (hL.app hb) hH (fun p hp=>round p.1 p.2.1 p.2.2.1 p.2.2.2.1 p.2.2.2.2.1 p.2.2.2.2.2.1 p.2.2.2.2.2.2 hp)
theorem lV {ι0 ι1 ι2 ι3 ι4 ι5 ι6 ι7:Type}{body:Code}(I:ι0→ι1→ι2→ι3→ι4→ι5→ι6→ι7→Prop)(dd:ι0→ι1→ι2→ι3→ι4→ι5→ι6→ι7→Loc)(base:Loc)(Hf:ι0→ι1→ι2→ι3→ι4→ι5→ι6→ι7→Hp)(m:ι0→ι1→ι2→ι3→ι4→ι5→ι6→ι7→Nat)(i0:ι0)(i1:ι1)(i2:ι2)(i3:ι3)(i4:ι4)(i5:ι5)(i6:ι6)(i7:ι7)(h0:I i0 i1 i2 i3 i4 i5 i6 i7)(hL:Sub L (dd i0 i1 i2 i3 i4 i5 i6 i7))(hb:Sub L base)(hH:HSub H (Hf i0 i1 i2 i3 i4 i5 i6 i7))
   (round:∀ i0 i1 i2 i3 i4 i5 i6 i7,I i0 i1 i2 i3 i4 i5 i6 i7→C P κ (Exit.then (Inv κ (fun p:ι0×ι1×ι2×ι3×ι4×ι5×ι6×ι7=>I p.1 p.2.1 p.2.2.1 p.2.2.2.1 p.2.2.2.2.1 p.2.2.2.2.2.1 p.2.2.2.2.2.2.1 p.2.2.2.2.2.2.2) (fun p=>dd p.1 p.2.1 p.2.2.1 p.2.2.2.1 p.2.2.2.2.1 p.2.2.2.2.2.1 p.2.2.2.2.2.2.1 p.2.2.2.2.2.2.2++base) (fun p=>Hf p.1 p.2.1 p.2.2.1 p.2.2.2.1 p.2.2.2.2.1 p.2.2.2.2.2.1 p.2.2.2.2.2.2.1 p.2.2.2.2.2.2.2) (fun p=>m p.1 p.2.1 p.2.2.1 p.2.2.2.1 p.2.2.2.2.1 p.2.2.2.2.2.1 p.2.2.2.2.2.2.1 p.2.2.2.2.2.2.2) (i0,i1,i2,i3,i4,i5,i6,i7)) Q) body (dd i0 i1 i2 i3 i4 i5 i6 i7++base) (Hf i0 i1 i2 i3 i4 i5 i6 i7)):C P κ Q (.loop body) L H:=
 ky (fun p:ι0×ι1×ι2×ι3×ι4×ι5×ι6×ι7=>I p.1 p.2.1 p.2.2.1 p.2.2.2.1 p.2.2.2.2.1 p.2.2.2.2.2.1 p.2.2.2.2.2.2.1 p.2.2.2.2.2.2.2) (fun p=>dd p.1 p.2.1 p.2.2.1 p.2.2.2.1 p.2.2.2.2.1 p.2.2.2.2.2.1 p.2.2.2.2.2.2.1 p.2.2.2.2.2.2.2++base) (fun p=>Hf p.1 p.2.1 p.2.2.1 p.2.2.2.1 p.2.2.2.2.1 p.2.2.2.2.2.1 p.2.2.2.2.2.2.1 p.2.2.2.2.2.2.2) (fun p=>m p.1 p.2.1 p.2.2.1 p.2.2.2.1 p.2.2.2.2.1 p.2.2.2.2.2.1 p.2.2.2.2.2.2.1 p.2.2.2.2.2.2.2) (i0,i1,i2,i3,i4,i5,i6,i7) h0 (hL.app hb) hH (fun p hp=>round p.1 p.2.1 p.2.2.1 p.2.2.2.1 p.2.2.2.2.1 p.2.2.2.2.2.1 p.2.2.2.2.2.2.1 p.2.2.2.2.2.2.2 hp)
theorem EO {ι0 ι1 ι2 ι3 ι4 ι5 ι6 ι7 ι8:Type}{body:Code}(I:ι0→ι1→ι2→ι3→ι4→ι5→ι6→ι7→ι8→Prop)(dd:ι0→ι1→ι2→ι3→ι4→ι5→ι6→ι7→ι8→Loc)(base:Loc)(Hf:ι0→ι1→ι2→ι3→ι4→ι5→ι6→ι7→ι8→Hp)(m:ι0→ι1→ι2→ι3→ι4→ι5→ι6→ι7→ι8→Nat)(i0:ι0)(i1:ι1)(i2:ι2)(i3:ι3)(i4:ι4)(i5:ι5)(i6:ι6)(i7:ι7)(i8:ι8)(h0:I i0 i1 i2 i3 i4 i5 i6 i7 i8)(hL:Sub L (dd i0 i1 i2 i3 i4 i5 i6 i7 i8))(hb:Sub L base)(hH:HSub H (Hf i0 i1 i2 i3 i4 i5 i6 i7 i8))
   (round:∀ i0 i1 i2 i3 i4 i5 i6 i7 i8,I i0 i1 i2 i3 i4 i5 i6 i7 i8→C P κ (Exit.then (Inv κ (fun p:ι0×ι1×ι2×ι3×ι4×ι5×ι6×ι7×ι8=>I p.1 p.2.1 p.2.2.1 p.2.2.2.1 p.2.2.2.2.1 p.2.2.2.2.2.1 p.2.2.2.2.2.2.1 p.2.2.2.2.2.2.2.1 p.2.2.2.2.2.2.2.2) (fun p=>dd p.1 p.2.1 p.2.2.1 p.2.2.2.1 p.2.2.2.2.1 p.2.2.2.2.2.1 p.2.2.2.2.2.2.1 p.2.2.2.2.2.2.2.1 p.2.2.2.2.2.2.2.2++base) (fun p=>Hf p.1 p.2.1 p.2.2.1 p.2.2.2.1 p.2.2.2.2.1 p.2.2.2.2.2.1 p.2.2.2.2.2.2.1 p.2.2.2.2.2.2.2.1 p.2.2.2.2.2.2.2.2) (fun p=>m p.1 p.2.1 p.2.2.1 p.2.2.2.1 p.2.2.2.2.1 p.2.2.2.2.2.1 p.2.2.2.2.2.2.1 p.2.2.2.2.2.2.2.1 p.2.2.2.2.2.2.2.2) (i0,i1,i2,i3,i4,i5,i6,i7,i8)) Q) body (dd i0 i1 i2 i3 i4 i5 i6 i7 i8++base) (Hf i0 i1 i2 i3 i4 i5 i6 i7 i8)):C P κ Q (.loop body) L H:=
 ky (fun p:ι0×ι1×ι2×ι3×ι4×ι5×ι6×ι7×ι8=>I p.1 p.2.1 p.2.2.1 p.2.2.2.1 p.2.2.2.2.1 p.2.2.2.2.2.1 p.2.2.2.2.2.2.1 p.2.2.2.2.2.2.2.1 p.2.2.2.2.2.2.2.2) (fun p=>dd p.1 p.2.1 p.2.2.1 p.2.2.2.1 p.2.2.2.2.1 p.2.2.2.2.2.1 p.2.2.2.2.2.2.1 p.2.2.2.2.2.2.2.1 p.2.2.2.2.2.2.2.2++base) (fun p=>Hf p.1 p.2.1 p.2.2.1 p.2.2.2.1 p.2.2.2.2.1 p.2.2.2.2.2.1 p.2.2.2.2.2.2.1 p.2.2.2.2.2.2.2.1 p.2.2.2.2.2.2.2.2) (fun p=>m p.1 p.2.1 p.2.2.1 p.2.2.2.1 p.2.2.2.2.1 p.2.2.2.2.2.1 p.2.2.2.2.2.2.1 p.2.2.2.2.2.2.2.1 p.2.2.2.2.2.2.2.2) (i0,i1,i2,i3,i4,i5,i6,i7,i8) h0 (hL.app hb) hH (fun p hp=>round p.1 p.2.1 p.2.2.1 p.2.2.2.1 p.2.2.2.2.1 p.2.2.2.2.2.1 p.2.2.2.2.2.2.1 p.2.2.2.2.2.2.2.1 p.2.2.2.2.2.2.2.2 hp)
theorem HSub.iB {A R:Hp}(hp:aJ H A R):HSub H A:=⟨R,hp.perm⟩
theorem HSub.take {A R B:Hp}(hp:aJ H A R)(hs:HSub R B):HSub H (A++B):=(HSub.za hp.perm).trans hs.keeps
theorem HSub.bR {p:Nat×Obj}{R B:Hp}(hp:aJ H [p] R)(hs:HSub R B):HSub H (p::B):=(HSub.za hp.perm).trans hs.y9
end
end Go.HL
namespace Go.HL
open Go
def placesOf (P:Program):TypeDesc→Option (List (Nat×Nat))
 | .struct fs=>if fs.toList.all (fun f=>(P.info? f.type).isSome) then some (fs.toList.map fun f=>(f.offset,((P.info? f.type).map (·.size)).getD 0)) else none
 | _=>none
class TB (P:Program)(t:TypeId)(pl:outParam (List (Nat×Nat))):Prop where
 out:(P.underlying t).bind (placesOf P)=some pl
theorem run_places {P:Program}(w:World):∀ (fs:List Field),fs.all (fun f=>(P.info? f.type).isSome)=true →
   (fs.mapM (fun f:Field=>(do pure (f.offset,← sizeOf f.type):Sem (Nat×Nat)))).run P w = .ok (fs.map fun f=>(f.offset,((P.info? f.type).map (·.size)).getD 0)) w
 | [],_=>by simp
 | f::fs,h=>by
   simp only[List.all_cons,Bool.and_eq_true] at h
   have ih:=run_places w fs h.2
   cases hi:P.info? f.type with
   | none=>simp[hi] at h
   | some i=>
     have:(sizeOf f.type).run P w = .ok i.size w:=by simp[sizeOf,typeInfo,hi]
     rw[List.mapM_cons,Sem.run_bind,Sem.run_bind,this]
     simp only[Result.andThen_ok,Sem.run_pure,Sem.run_bind,ih,List.map_cons,hi,Option.map_some,Option.getD_some]
inductive xO (pl:List (Nat×Nat)):List Value→List (Nat×Value)→List Value→Prop
 | nil {l:List Value}:xO pl l [] l
 | cons {i off size:Nat}{v:Value}{cs l l' Zv:List Value}{rest:List (Nat×Value)}(hp:pl[i]?=some (off,size))(hv:v.cells=cs.toArray)(hs:cs.length=size)(hl:Nat.ble (off+size) l.length=true)(wc:bP l off cs=l')
     (h:xO pl l' rest Zv):xO pl l ((i,v)::rest) Zv
theorem xO.run {pl:List (Nat×Nat)}{l l':List Value}{pv:List (Nat×Value)}(h:xO pl l pv l'):Instr.fill (pl[·]?) l.toArray pv=some l'.toArray:=by
 induction h with
 | nil=>rfl
 | cons hp hv hs hl wc _ ih=>
   rw[vC hp hv hs (by simpa using hl),wc]
   exact ih
section
variable {P:Program}{κ:Cx}{Q:gR}{L L':Loc}{H H':Hp}{ops:Array Oper}{rest:List Oper}{ty t t':TypeId}{d:Nat}{pos:String}{af:Array Edge}{v u:Value}{x y z:Operand}{dst:Option Tmp}{α:Type}{E:α→List Value}{k:Nat}
theorem bG {pl:List (Nat×Nat)}{zv:Value}{zl cs:List Value}{parts:Array (Nat×Operand)}{vs:List Value} [tb:TB P t pl] [tz:TZ P t zv](hz:zv.cells=zl.toArray)(hp:parts.toList.map (fun p=>ev L p.2)=vs.map some)(hf:xO pl zl ((parts.toList.map (·.1)).zip vs) cs) :
   Step P κ (.build t parts) ty L H (.agg cs.toArray):=by
 have ho:=tb.out
 cases hd:P.underlying t with
 | none=>simp[hd] at ho
 | some D=>
   rw[hd] at ho
   cases D <;> simp[placesOf] at ho
   rename_i F
   obtain⟨l⟩:=F
   obtain⟨jE,rfl⟩:=ho
   refine⟨fun ρ w d pos af g hρ _=>?_⟩
   have rK:(parts.map fun (i,x)=>(i,ρ x)).toList=(parts.toList.map (·.1)).zip vs:=by
     rw[Array.toList_map];exact nE hρ _ _ hp
   have qH:=run_places (P:=P) w l (by
     rw[List.all_eq_true]
     intro f hf
     obtain⟨i,hi,rfl⟩:=List.getElem_of_mem hf
     simpa using jE i hi)
   have nI:=hf.run
   have key:(Instr.build t (parts.map fun (i,x)=>(i,ρ x))).run P w = .ok (.agg cs.toArray) w:=by
     simp only[Instr.build,Sem.run_bind,kQ,Result.andThen_ok,run_underlying hd,rK,hz]
     rw[List.mapM_toArray]
     simp only[Sem.run_map,qH,Result.andThen_ok]
     simp only[List.getElem?_toArray] at nI ⊢
     rw[nI]
     rfl
   simp only[execOp,Sem.run_bind,key,Result.andThen_ok,Sem.run_pure]
theorem lX [he:eB E k]{T fL:Nat}{xs:List α}{S R:Hp}{o:Nat}(i:Nat)(yv:α) [TI P t k fL](ho:aG E k T v xs S)(gS:aJ H S R)(hx:ev L x=some (.pointer (some ⟨kN v,o,none⟩)))(hy:ev L y=some (.agg (E yv).toArray))
   (hi:i<xs.length)(hof:o=nJ v+i*k)(h:∀ S',aG E k T v (xs.set i yv) S'→O P κ ops Q rest L (S'++R)):O P κ ops Q (⟨none,.store t x y,ty,pos,af,none⟩::rest) L H:=by
 refine Lt (i:=i) (off:=0) (cs:=E yv) yv ho gS hx hy rfl (he.len yv) hi (by omega) (by rw[he.len];omega) (fun e' _=>?_) (he.one yv) h
 have hl:=he.len e'
 have z8:=he.len yv
 simp only[bP,List.take_zero,List.nil_append,Nat.zero_add]
 rw[List.drop_of_length_le (by omega)]
 simp
end
end Go.HL
namespace Go.HL
open Go Go.RowKit Go.ChangeShapes Go.WideShapes Go.ChangeAt
end Go.HL
namespace Go.HL
open Go
section
variable {P:Program}{κ:Cx}{Q:gR}{L L':Loc}{H H':Hp}{ops:Array Oper}{rest:List Oper}{ty:TypeId}{d:Nat}{pos:String}{af:Array Edge}{v:Value}{x y:Operand}
theorem yk {fn:Go.Fn}{xs ys:Array Operand}{us vs:List Value}(hx:xs.toList.map (ev L)=us.map some)(hy:ys.toList.map (ev L)=vs.map some) :
   Step P κ (.makeFunc fn xs ys) ty L H (.func fn us.toArray vs.toArray):=
 ⟨fun ρ w d pos af g hρ _=>by
   have e1:=uV hρ hx
   have e2:=uV hρ hy
   simp[execOp,e1,e2,Instr.makeFunc]⟩
theorem HO {ρ:Operand→Value}{f:FuncId}{fo:Operand}{xs:Array Operand}{ts:Array TypeId}{us vs cs:List Value}{o:Option Tmp}{g:Option (Nat×Bool)}(w:World)
   (hρ:∀ x u,ev L x=some u→ρ x=u)(hf:ev L fo=some (.func (.func f) us.toArray cs.toArray))(hx:xs.toList.map (ev L)=vs.map some)(he:ri P f) :
   (execOp ρ ⟨o,.call ⟨.value fo,xs,ts⟩,ty,pos,af,g⟩).run P w = .ok (.enter f (us++vs++cs).toArray) w:=by
 have h1:=hρ _ _ hf
 have h2:=uV hρ hx
 simp only[execOp,resolve,h1,h2,Deferred.ofValue,Sem.run_bind,Sem.run_pure,Result.andThen_ok,invoke]
 have:=he (us++vs++cs).toArray w
 simpa using this
theorem ff {f:FuncId}{fo:Operand}{xs:Array Operand}{ts:Array TypeId}{us vs cs:List Value}{pre:World→Prop}{S R:Hp}{post:Value→Hp→Prop}
   (hc:Fn P f (us++vs++cs) pre S post)(hf:ev L fo=some (.func (.func f) us.toArray cs.toArray))(hx:xs.toList.map (ev L)=vs.map some)(hn:Nat.blt d κ.n=true)(gS:aJ H S R)(hp:∀ w,St κ.w0 w κ.M H→pre w)
   (h:∀ v S',post v S'→O P κ ops Q rest ((d,v)::L) (S'++R)):O P κ ops Q (⟨some d,.call ⟨.value fo,xs,ts⟩,ty,pos,af,none⟩::rest) L H:=by
 refine⟨fun ro a w hr ok=>gg rfl ?_⟩
 have st:=ok.st.perm gS.perm
 refine AJ (HO w (fun x u hu=>ok.fr.ev hu) hf hx hc.enters) ((hc.calls w (hp w ok.st) st.zb).mono fun e w' iG=>?_)
 obtain⟨v,S',rfl,hq,dV⟩:=iG.out
 exact⟨v,rfl,(h v S' hq).out ro _ _ hr.tail ⟨ok.fr.put hn v,st.comp dV⟩⟩
theorem bn {x y:Code}(h:∀ K:Act→World→Prop,(∀ κ L H,C P κ Q y L H→X κ K L H)→C P κ (Exit.then K Q) x L H):C P κ Q (.seq x y) L H:=
 ⟨fun ro a w hr ok=>by
   have h1:MY ro x:=hr.imp id fun h=>by simp[dX] at h;exact h.1
   have h2:MY ro y:=hr.imp id fun h=>by simp[dX] at h;exact h.2
   exact wpIn_seq ((h (y.wpIn (FR ro) 0 P Q) fun _ _ _ hc=>⟨fun a w ok=>hc.out ro a w h2 ok⟩).out ro a w h1 ok)⟩
structure FnD (P:Program)(f:FuncId)(args:List Value)(pre:World→Prop)(S:Hp)(post:Value→Hp→Prop):Prop where
 enters:ri P f
 calls:∀ w u,pre w→Has w S→CallsD P f args.toArray u w (fun e u' w'=>u'=u∧nN w (keys S) post e w')
theorem Pg {args:List Value}{n:Nat}(mT:args.length≤n):Fr { tmps:=args.toArray++Array.replicate (n-args.toArray.size) undef,defers:=[] } n [] (CX 0 args):=by
 refine⟨?_,rfl,fun i v hv=>?_⟩
 · simp;omega
 · obtain⟨_,h2⟩:=xt args 0 i v hv
   simp only[Nat.sub_zero] at h2
   have hi:i<args.length:=by
     rcases Nat.lt_or_ge i args.length with h'|h'
     · exact h'
     · rw[List.getElem?_eq_none h'] at h2;cases h2
   rw[Array.getElem?_append_left (by simpa using hi)]
   simpa using h2
end
structure lG {α:Type}(E:α→List Value)(v:Value)(xs:List α)(S:Hp):Prop where
 out:∀ w:World,(∀ b o,(b,o)∈S→w.heap[b]?=some o)→Rd E w v xs
section
variable {α:Type}{E:α→List Value}{k:Nat}{T:TypeId}{v:Value}{xs:List α}{S S':Hp}{κ:Cx}{H:Hp}
theorem aG.rds (h:aG E k T v xs S):lG E v xs S:=⟨fun _ hw=>h.rd hw⟩
theorem lG.mono (h:lG E v xs S)(hs:c4 S S'):lG E v xs S':=⟨fun w hw=>h.out w fun b o hm=>hw b o (hs _ hm)⟩
theorem lG.aU (h:lG E v xs S)(hs:c4 S H):cq E κ H v xs:=⟨fun _ st=>h.out _ fun b o hm=>st.has b o (hs _ hm)⟩
end
theorem c4.ga {S R:Hp}:c4 S (S++R):=fun _ h=>List.mem_append_left _ h
theorem c4.mG {S R:Hp}:c4 S (R++S):=fun _ h=>List.mem_append_right _ h
structure aqa {α:Type}(E:α→List Value)(T:TypeId)(v:Value)(dO:List (List α))(S:Hp):Prop where
 out:∃ (sls:List (Sl α))(So Si:Hp),S=So++Si∧sls.map Sl.xs=dO∧aG cX 1 T v sls So∧∀ s∈sls,lG E s.v s.xs Si
end Go.HL
namespace Go.HL
open Go
end Go.HL
namespace Go.HL
open Go Go.RowKit Go.ChangeShapes Go.WideShapes Go.ChangeAt
theorem A6 {P:Program}{t:TypeId}{fs:Array Field}{H:Type}{enc:TypeId×Value→H}{w:World}{fuel:Nat}{cs:List Value}{x:DataW H×List MemPlace}(ht:P.underlying t=some (.struct fs))(h:DataW.trod enc P w 0 (fun _=>true) true fuel t cs=some x)
   (hw:∀ n∈x.1.weights P t,n≤reachBytes):cs.length=P.cellsOf t∧∃ n,∀ (i:Nat)(f:Field),fs[i]?=some f→∃ y,DataW.trod enc P w 0 (fun _=>true) true n f.type ((cs.drop f.offset).take (P.cellsOf f.type))=some y∧∀ q∈y.1.weights P f.type,q≤reachBytes:=by
 obtain⟨xs,n,_,rfl,hl,hlen,hf⟩:=DataW.trod_struct ht h
 refine⟨hl,n,fun i f hi=>?_⟩
 have h1:=hf i f hi
 have cH:i<xs.length:=by
   rw[hlen]
   rcases Nat.lt_or_ge i fs.size with h'|h'
   · exact h'
   · rw[Array.getElem?_eq_none h'] at hi;cases hi
 rw[List.getElem?_eq_getElem cH] at h1
 refine⟨_,h1,fun q hq=>hw q ?_⟩
 simp only[DataW.weights,ht]
 refine DataW.weights_mem_each (ts:=fs.toList.map (·.type)) (ds:=xs.map (·.1)) (j:=i) (t:=f.type) (d:=xs[i].1) ?_ ?_ q hq
 · rw[List.getElem?_map,Array.getElem?_toList,hi];rfl
 · rw[List.getElem?_map,List.getElem?_eq_getElem cH];rfl
theorem kg {cs:List Value}{a b:Nat}:cs.drop a=(cs.drop a).take b++cs.drop (a+b):=by
 rw[← List.drop_drop,List.take_append_drop]
end Go.HL
namespace Go.HL
open Go
class TM (P:Program)(t:TypeId)(name:String)(f:outParam FuncId):Prop where
 out:∀ (v:Value)(w:World),(method (P.types.size+Made.depth) t v name).run P w = .ok (f,v) w
def akG:TypeDesc→Bool
 | .pointer _=>false
 | _=>true
section
variable {P:Program}{κ:Cx}{Q:gR}{L L':Loc}{H H':Hp}{ops:Array Oper}{rest:List Oper}{ty:TypeId}{d:Nat}{pos:String}{af:Array Edge}{v:Value}{x y:Operand}
end
end Go.HL
namespace Go.HL
open Go
section
variable {P:Program}{κ:Cx}{Q:gR}{L L':Loc}{H H':Hp}{ops:Array Oper}{rest:List Oper}{ty t t':TypeId}{d:Nat}{pos:String}{af:Array Edge}{v:Value}{x y:Operand}
theorem De (xs:List UInt8):flat Eb xs=xs.map fun b=>Value.int .u8 b.toNat:=by
 induction xs with
 | nil=>rfl
 | cons x xs ih=>
   rw[List.map_cons,← ih]
   rfl
theorem Dg (xs:List UInt8):∀ s:ByteArray,(xs.map (fun b=>(b.toNat:Int))).foldl (fun r n=>r.push (UInt8.ofNat n.toNat)) s=⟨s.data++xs.toArray⟩:=by
 induction xs with
 | nil=>intro s;cases s;simp
 | cons x xs ih=>
   intro s
   simp only[List.map_cons,List.foldl_cons]
   rw[ih]
   simp[ByteArray.push]
theorem Oz {T:TypeId}{a:Option Addr}{n c:Nat}{xs:List UInt8} [TU P t (.slice T)] [TU P T (.int .u8)] [TU P t' .string](hx:ev L x=some (.slice a n c))(hr:cq Eb κ H (.slice a n c) xs)(hn:xs.length=n) :
   Step P κ (.convert t t' x) ty L H (.string ⟨xs.toArray⟩):=
 ⟨fun ρ w d pos af g hρ st=>by
   have hrd:=hr.out w st
   have e1:(convert t t' (.slice a n c)).run P w=(Conv.bytesToString (.slice a n c)).run P w:=run_convert_bytes_string w t t' T a n c TU.out TU.out TU.out
   have e2:(Conv.bytesToString (.slice a n c)).run P w = .ok (.string ⟨xs.toArray⟩) w:=by
     rcases hrd.sl.cases with ⟨h0,a',c',hv⟩|⟨h0,c',hv,_⟩
     · have:xs = []:=List.eq_nil_of_length_eq_zero h0
       subst this
       simp only[Value.slice.injEq] at hv
       obtain⟨rfl,rfl,rfl⟩:=hv
       cases a with
       | none=>rfl
       | some A=>exact run_bytesToString w A 0 c [] (by simp[loadCells,loadCellsFrom])
     · generalize hA:ea (.slice a n c) 0=A at hv
       simp only[Value.slice.injEq] at hv
       obtain⟨rfl,rfl,rfl⟩:=hv
       have hl:=run_loadCells_list (P:=P) w A (flat Eb xs) (fun j u hu=>by rw[← hA,yE,Nat.zero_add];exact hrd.get j u hu)
       have hf:flat Eb xs=(xs.map (fun b=>(b.toNat:Int))).map (Value.int .u8):=by rw[De,List.map_map];rfl
       rw[cD,Nat.mul_one,hf] at hl
       have:=run_bytesToString w _ xs.length c _ hl
       rw[Dg] at this
       simpa using this
   simp[execOp,hρ _ _ hx,e1,e2]⟩
end
end Go.HL
namespace Go.HL
open Go
def recAt (r:Loop)(s:LoopState)(p:Option Code):Loop:={ r with state:=s,pending:=p }
theorem BD {ro ro':Option Nat}{n m:Nat}{P:Program}{l:Nat}{f:FuncId}{tmps:Array Value}{assign body:Code}{w:World}{R:Ending→World→Prop}(h:RoundIn (FR ro) n P l f tmps assign body w R):RoundIn (FR ro') m P l f tmps assign body w R:=
 ⟨trivial,fun c cs _=>h.2 c cs (yr _ _)⟩
structure Yd (P:Program)(l:Nat)(args:List Value)(S:Hp)(post:Value→Hp→Prop):Prop where
 out:∀ w,Has w S→∃ f tmps assign body,(Instr.yield l args.toArray).run P w = .ok (.round l f tmps assign body) w∧RoundIn (FR none) 0 P l f tmps assign body w (nN w (keys S) post)
section
variable {P:Program}{κ:Cx}{Q:gR}{L L':Loc}{H H':Hp}{ops:Array Oper}{rest:List Oper}{ty:TypeId}{d:Nat}{pos:String}{af:Array Edge}{v:Value}
theorem LZ {ro:Option Nat}{o:Oper}{a:Act}{w w':World}{K:Act→World→Prop}{l:Nat}{f:FuncId}{tmps:Array Value}{assign body:Code}(h:(execOp a.eval o).run P w = .ok (.round l f tmps assign body) w')
   (hc:RoundIn (FR none) 0 P l f tmps assign body w' fun e JI=>∃ v,e = .returned v∧K (a.put o.dst v) JI):o.wpIn (FR ro) 0 P a w K Q:=by
 refine⟨fun _ _=>trivial,?_⟩
 rw[show (FR ro).round=ro from rfl,nv h (by simp)]
 refine⟨fun h=>by simp[FR,Fence.wide] at h,RoundIn.mono (BD hc) fun e JI he=>?_⟩
 obtain⟨v,rfl,hk⟩:=he
 exact hk
theorem Pd {l:Nat}{fo:Operand}{xs:Array Operand}{ts:Array TypeId}{vs:List Value}{S R:Hp}{post:Value→Hp→Prop}
   (hy:Yd P l vs S post)(hf:ev L fo=some (.func (.yield l) #[] #[]))(hx:xs.toList.map (ev L)=vs.map some)(hn:Nat.blt d κ.n=true)(gS:aJ H S R)
   (h:∀ v S',post v S'→O P κ ops Q rest ((d,v)::L) (S'++R)):O P κ ops Q (⟨some d,.call ⟨.value fo,xs,ts⟩,ty,pos,af,none⟩::rest) L H:=by
 refine⟨fun ro a w hr ok=>gg rfl ?_⟩
 have st:=ok.st.perm gS.perm
 obtain⟨f,tmps,assign,body,ic,D3⟩:=hy.out w st.zb
 have h1:=ok.fr.ev hf
 have h2:=uV (ρ:=a.eval) (fun x u hu=>ok.fr.ev hu) hx
 have e:(execOp a.eval ⟨some d,.call ⟨.value fo,xs,ts⟩,ty,pos,af,none⟩).run P w = .ok (.round l f tmps assign body) w:=by
   simp only[execOp,resolve,h1,h2,Deferred.ofValue,Sem.run_bind,Sem.run_pure,Result.andThen_ok,invoke]
   simpa using ic
 refine LZ e (D3.mono fun e w' iG=>?_)
 obtain⟨v,S',rfl,hq,dV⟩:=iG.out
 exact⟨v,rfl,(h v S' hq).out ro _ _ hr.tail ⟨ok.fr.put hn v,st.comp dV⟩⟩
structure L1 (P:Program)(l:Nat)(body:Code)(Q:gR)(a:Act)(w:World):Prop where
 out:∃ w₂,(Instr.beginRound l).run P w = .ok () w₂∧body.wpIn (FR (some l)) 0 P Q a w₂
theorem St.obj {w0 w:World}{M:List Nat}{b:Nat}{o o':Obj}(st:St w0 w M H)(hu:pW H b o o' H'):St w0 (w.putObj b o') M H':=st.upd hu rfl rfl rfl rfl
theorem zn {l:Nat}{r:Loop}{body:Code}(hu:pW H l (.loop (recAt r .ready none)) (.loop (recAt r .busy none)) H')(hd:dX body=true)(h:C P κ Q body L H'):X κ (L1 P l body Q) L H:=by
 refine⟨fun a w ok=>⟨w.putObj l (.loop (recAt r .busy none)),run_beginRound (ok.st.has _ _ hu.mem) rfl,?_⟩⟩
 exact h.out (some l) a _ (.inr hd) ⟨ok.fr,ok.st.obj hu⟩
theorem G8 {l:Nat}{r:Loop}{post:Value→Hp→Prop}{w0:World}{M:List Nat}{n:Nat}{ds:List Deferred}(hu:pW H l (.loop (recAt r .busy none)) (.loop (recAt r .ready none)) H')(hp:post (.bool true) H'):X ⟨n,ds,w0,M⟩ (roundPost P l (nN w0 M post) .normal) L H:=
 ⟨fun _ _ ok=>⟨_,_,run_endRound none (ok.st.has _ _ hu.mem),_,_,rfl,hp,ok.st.obj hu⟩⟩
theorem U4 {l:Nat}{r:Loop}{post:Value→Hp→Prop}{w0:World}{M:List Nat}{n:Nat}{ds:List Deferred}(hu:pW H l (.loop (recAt r .busy none)) (.loop (recAt r .done (some .ret))) H')(hp:post (.bool false) H'):X ⟨n,ds,w0,M⟩ (roundPost P l (nN w0 M post) .ret) L H:=
 ⟨fun _ _ ok=>⟨_,_,run_endRound (some .ret) (ok.st.has _ _ hu.mem),_,_,rfl,hp,ok.st.obj hu⟩⟩
theorem Pe {l id:Nat}{r:Loop}{post:Value→Hp→Prop}{w0:World}{M:List Nat}{n:Nat}{ds:List Deferred}(hu:pW H l (.loop (recAt r .busy none)) (.loop (recAt r .done (some (.exit id)))) H')(hp:post (.bool false) H'):X ⟨n,ds,w0,M⟩ (roundPost P l (nN w0 M post) (.exit id)) L H:=
 ⟨fun _ _ ok=>⟨_,_,run_endRound (some (.exit id)) (ok.st.has _ _ hu.mem),_,_,rfl,hp,ok.st.obj hu⟩⟩
theorem Fr.params {a:Act}{n:Nat}{ds:List Deferred}(h:Fr a n ds L):∀ (ps:List Nat)(us:List Value),(∀ p∈ps,Nat.blt p n=true)→ps.length=us.length →
   Fr { tmps:=(ps.zip us).foldl (fun t (p,u)=>t.setIfInBounds p u) a.tmps,defers:=[] } n [] ((ps.zip us).reverse++L):=by
 have key:∀ (l:List (Nat×Value))(tm:Array Value)(L:Loc),(∀ q∈l,Nat.blt q.1 n=true)→Fr { tmps:=tm,defers:=[] } n [] L→Fr { tmps:=l.foldl (fun t (p,u)=>t.setIfInBounds p u) tm,defers:=[] } n [] (l.reverse++L):=by
   intro l
   induction l with
   | nil=>intro tm L _ h;simpa using h
   | cons q l ih=>
     intro tm L hq h
     have:=ih _ _ (fun q' SJ=>hq q' (List.mem_cons_of_mem _ SJ)) (h.put (hq q List.mem_cons_self) q.2)
     simpa [Act.put] using this
 intro ps us hp hl
 refine key _ _ _ (fun q hq=>hp _ (List.of_mem_zip hq).1) ⟨h.size,rfl,h.get⟩
theorem aac {r:Loop}{l:Nat}{a:Act}{n:Nat}{ds:List Deferred}{us:List Value}{B:Hp}{post:Value→Hp→Prop}(fr:Fr a n ds L)(ht:r.tmps=a.tmps)(hp:∀ p∈r.params.toList,Nat.blt p n=true)(hl:r.params.toList.length=us.length)(hda:dX r.assign=true)
   (h:∀ W,C P ⟨n,[],W,keys ((l,.loop (recAt r .ready none))::B)⟩ (Exit.then (L1 P l r.body (roundPost P l (nN W (keys ((l,.loop (recAt r .ready none))::B)) post))) fun _ _ _=>False) r.assign ((r.params.toList.zip us).reverse++L) ((l,.loop (recAt r .ready none))::B)) :
   Yd P l us ((l,.loop (recAt r .ready none))::B) post:=by
 refine⟨fun w hS=>⟨r.fn,_,r.assign,r.body,run_yield (r:=recAt r .ready none) (hS.has _ _ List.mem_cons_self) (by simpa [recAt] using hl.symm),?_⟩⟩
 refine BD (ro:=none) (roundIn_of_wpIn (F:=FR none) (n:=0) trivial ?_)
 have fr':=fr.params _ us hp hl
 have hx:=(h w).out (some l) _ w (.inr hda) ⟨fr',St.start hS⟩
 have e:((recAt r .ready none).params.zip us.toArray).foldl (fun t (p,u)=>t.setIfInBounds p u) (recAt r .ready none).tmps=(r.params.toList.zip us).foldl (fun t (p,u)=>t.setIfInBounds p u) a.tmps:=by
   rw[← Array.foldl_toList,ht.symm]
   simp[recAt]
 rw[e]
 refine Code.wpIn_mono (fun e a' w' hq=>?_) hx
 cases e <;> first|exact hq.out|exact hq
structure It (P:Program)(gf:FuncId)(us lb:List Value){α:Type}(L4:α→List Value)(xs:List α)(pre:Hp→World→Prop)(S:Hp)(IS:Hp→Prop):Prop where
 enters:ri P gf
 out:∀ (l:Nat)(HS HX:List α→Hp→Prop),(∀ pre x B,HS pre B→pre++[x] <+: xs→Yd P l (L4 x) B (fun v B'=>(v = .bool true∧HS (pre++[x]) B')∨(v = .bool false∧HX (pre++[x]) B'))) →
   ∀ B,HS [] B→Fn P gf (us++[.func (.yield l) #[] #[]]++lb) (pre (S++B)) (S++B) (fun _ S'=>∃ S1 B',S'=S1++B'∧IS S1∧(HS xs B'∨∃ p,p <+: xs∧HX p B'))
theorem zk {α:Type}{g:Operand}{ps:Array Tmp}{assign body:Code}{gf:FuncId}{us lb:List Value}{L4:α→List Value}{xs:List α}{pre:Hp→World→Prop}{S B0 R:Hp}{IS:Hp→Prop}(I:List α→Hp→Prop)(Ix:Code→List α→Hp→Prop)
   (hg:ev L g=some (.func (.func gf) us.toArray lb.toArray))(it:It P gf us lb L4 xs pre S IS)(gS:aJ H (S++B0) R)(Pf:∀ w H1 S1,St κ.w0 w κ.M H1→HSub H1 S1→pre S1 w)(h0:I [] B0)(UQ:(ps.toList.all fun p=>Nat.blt p κ.n)=true)(hlen:∀ x,ps.toList.length=(L4 x).length)(hda:dX assign=true)
   (D3:∀ (l:Nat)(r:Loop)(p:List α)(x:α)(B:Hp)(W:World),r.assign=assign→r.body=body→I p B→p++[x] <+: xs→∀ post:Value→Hp→Prop,
     (∀ B',I (p++[x]) B'→post (.bool true) ((l,.loop (recAt r .ready none))::B'))→(∀ c B',Ix c (p++[x]) B'→post (.bool false) ((l,.loop (recAt r .done (some c)))::B')) →
     C P ⟨κ.n,[],W,keys ((l,.loop (recAt r .ready none))::B)⟩ (Exit.then (L1 P l body (roundPost P l (nN W (keys ((l,.loop (recAt r .ready none))::B)) post))) fun _ _ _=>False) assign ((ps.toList.zip (L4 x)).reverse++L) ((l,.loop (recAt r .ready none))::B))
   (LF:∀ D S1 B,IS S1→I xs B→X ⟨κ.n,⟨.collected D,#[]⟩::κ.ds,κ.w0,κ.M⟩ (Q .normal) L ((D,.deferred (some []))::(S1++B++R)))
   (aad:∀ D S1 c p B,IS S1→p <+: xs→Ix c p B→C P ⟨κ.n,⟨.collected D,#[]⟩::κ.ds,κ.w0,κ.M⟩ Q c L ((D,.deferred (some []))::(S1++B++R))) :
   C P κ Q (.rangeFunc g ps assign body) L H:=by
 refine⟨fun ro a w hr ok=>?_⟩
 have iF:ro=none:=by
   rcases hr with h|h
   · exact h
   · simp[dX] at h
 subst iF;refine wpIn_rangeFunc fun fn _=>?_
 have hgv:=ok.fr.ev hg
 obtain⟨r,EZ⟩:∃ r:Loop,r = { state:=.ready,pending:=none,fn,tmps:=a.tmps,params:=ps,assign,body,defers:=w.heap.size }:=⟨_,rfl⟩
 have er:recAt r .ready none=r:=by rw[EZ];rfl
 obtain⟨w1,RJ⟩:∃ w1,w1=(w.alloc (.deferred (some []))).alloc (.loop r):=⟨_,rfl⟩
 have st1:St κ.w0 w1 κ.M ((w.heap.size+1,.loop r)::(w.heap.size,.deferred (some []))::H):=by
   have:=(ok.st.alloc (.deferred (some []))).alloc (.loop r)
   rw[RJ];simpa using this
 have kG:((w.heap.size+1,Obj.loop r)::(w.heap.size,Obj.deferred (some []))::H).Perm ((S++((w.heap.size+1,Obj.loop (recAt r .ready none))::B0))++((w.heap.size,Obj.deferred (some []))::R)):=by
   rw[er]
   have e1:=gS.perm
   refine (List.Perm.swap _ _ _).trans ?_
   have e2:(S++(w.heap.size+1,Obj.loop r)::B0++(w.heap.size,Obj.deferred (some []))::R).Perm ((w.heap.size,Obj.deferred (some []))::(w.heap.size+1,Obj.loop r)::(S++B0++R)):=by
     refine List.perm_middle.trans ?_;refine List.Perm.cons _ ?_
     rw[List.append_assoc,List.append_assoc]
     exact List.perm_middle
   exact ((e1.cons _).cons _).trans e2.symm
 have st2:=st1.perm kG
 have aae:=(it.out (w.heap.size+1) (fun p B=>∃ B1,B=(w.heap.size+1,Obj.loop (recAt r .ready none))::B1∧I p B1) (fun p B=>∃ c B1,B=(w.heap.size+1,Obj.loop (recAt r .done (some c)))::B1∧Ix c p B1)
   (fun p x B hB hx=>by
     obtain⟨B1,rfl,hi⟩:=hB
     refine aac ok.fr (by rw[EZ]) (by rw[EZ];exact fun p hp=>List.all_eq_true.1 UQ p hp) (by rw[EZ];exact hlen x) (by rw[EZ];exact hda) fun W=>?_
     have:=D3 (w.heap.size+1) r p x B1 W (by rw[EZ]) (by rw[EZ]) hi hx (fun v B'=>(v = .bool true∧∃ B1,B'=(w.heap.size+1,Obj.loop (recAt r .ready none))::B1∧I (p++[x]) B1)∨(v = .bool false∧∃ c B1,B'=(w.heap.size+1,Obj.loop (recAt r .done (some c)))::B1∧Ix c (p++[x]) B1))
       (fun B' hb=>.inl ⟨rfl,B',rfl,hb⟩) (fun c B' hb=>.inr ⟨rfl,c,B',rfl,hb⟩)
     have e1:r.params=ps:=by rw[EZ]
     have e2:r.assign=assign:=by rw[EZ]
     have e3:r.body=body:=by rw[EZ]
     rw[e1,e2,e3]
     exact this) _ ⟨B0,rfl,h0⟩).calls w1 ?_ st2.zb
 · refine⟨w.heap.size+1,[⟨.collected w.heap.size,#[]⟩],w1,⟨.fn (.func gf) lb.toArray,(us++[Value.func (.yield (w.heap.size+1)) #[] #[]]).toArray⟩,w1,gf,(us++[Value.func (.yield (w.heap.size+1)) #[] #[]]++lb).toArray,w1,?_,?_,fun _ _=>trivial,?_,fun h=>by simp[FR,Fence.wide] at h,?_⟩
   · rw[RJ,EZ];exact run_enterLoop_outer _ _ _ _ _
   · simp only[resolve,hgv]
     simp[go_sem,Deferred.ofValue]
   · have:=it.enters (us++[Value.func (.yield (w.heap.size+1)) #[] #[]]++lb).toArray w1
     simpa [invoke] using this
   · refine CallsIn.mono (uQ aae) fun e w3 he=>?_
     obtain⟨v,S',rfl,⟨S1,B',rfl,hIS,hB⟩,dV⟩:=he.out
     have st3:=st2.comp dV
     have fr':Fr { tmps:=a.tmps,defers:=⟨.collected w.heap.size,#[]⟩::a.defers } κ.n (⟨.collected w.heap.size,#[]⟩::κ.ds) L:=⟨ok.fr.size,by simp[ok.fr.defers],ok.fr.get⟩
     have QY:∀ (x:Nat×Obj)(B1:Hp),(S1++x::B1++(w.heap.size,Obj.deferred (some []))::R).Perm (x::(w.heap.size,Obj.deferred (some []))::(S1++B1++R)):=by
       intro x B1
       refine List.perm_middle.trans ?_;refine (List.Perm.cons _ ?_).trans (List.Perm.swap _ _ _)
       rw[List.append_assoc,List.append_assoc]
       exact List.perm_middle
     rcases hB with ⟨B1,rfl,hi⟩|⟨p,Qy,c,B1,rfl,hi⟩
     · have st4:=st3.perm (QY _ _)
       refine⟨none,w3.putObj (w.heap.size+1) (.loop (recAt r .exhausted none)),run_endLoop (r:=recAt r .ready none) (st4.has _ _ List.mem_cons_self) (by simp[recAt]),?_⟩
       have st5:=(st4.obj (o':=.loop (recAt r .exhausted none)) .here).sub (HSub.skip (HSub.refl _))
       exact (LF w.heap.size S1 B1 hIS hi).out _ _ ⟨fr',st5⟩
     · have st4:=st3.perm (QY _ _)
       refine⟨some c,w3.putObj (w.heap.size+1) (.loop (recAt r .exhausted (some c))),run_endLoop (r:=recAt r .done (some c)) (st4.has _ _ List.mem_cons_self) (by simp[recAt]),?_⟩
       have st5:=(st4.obj (o':=.loop (recAt r .exhausted (some c))) .here).sub (HSub.skip (HSub.refl _))
       exact (aad w.heap.size S1 c p B1 hIS Qy hi).out none _ _ (.inl rfl) ⟨fr',st5⟩
 · exact Pf _ _ _ st2 (HSub.iB .here)
theorem zj {f:FuncId}{fn:Func}{c:Code}{args:List Value}{pre:World→Prop}{S:Hp}{post:Value→Hp→Prop}(hf:P.funcs[f]?=some fn)(hb:fn.body=some c)(hn:(fn.name == "runtime.NumGoroutine")=false)
   (hs:Nat.ble args.length fn.ntmps=true)
   (h:∀ w,pre w→C P ⟨fn.ntmps,[],w,keys S⟩ (bodyPostM (FR none) 0 P fn (nN w (keys S) post)) c (CX 0 args) S):Fn P f args pre S post:=by
 refine⟨rj hf hn (by simp[hb]),fun w hp hS=>?_⟩
 exact callsIn_wide.1 (callsIn_of_wp_marks (F:=FR none) (n:=0) hf hb trivial ((h w hp).out none _ _ (.inl rfl) ⟨Pg (by simpa using hs),St.start hS⟩))
inductive Marks:List Deferred→Hp→Prop
 | nil:Marks [] []
 | cons {D:Nat}{ds:List Deferred}{Ms:Hp}(h:Marks ds Ms):Marks (⟨.collected D,#[]⟩::ds) ((D,.deferred (some []))::Ms)
theorem U5 {fn:Func}{tm:Array Value}{w0:World}{M:List Nat}{post:Value→Hp→Prop}{v:Value}{R:Hp}:∀ {ds:List Deferred}{Ms:Hp},Marks ds Ms→∀ w,St w0 w M (Ms++R)→(∀ w,St w0 w M R→(results fn tm).run P w = .ok v w)→post v R →
   LeavesInM (FR none) 0 P fn tm (nN w0 M post) ds .returning w:=by
 intro ds Ms hm
 induction hm with
 | nil=>exact fun w st hr hp=>⟨v,hr w (by simpa using st),v,R,rfl,hp,by simpa using st⟩
 | @cons D ds Ms hm ih=>
   intro w st hr hp
   refine⟨by simp,.inl ⟨D,_,rfl,run_takeDeferred (st.has _ _ List.mem_cons_self),?_⟩⟩
   exact ih _ ((st.obj (o':=.deferred none) .here).sub (HSub.skip (HSub.refl _))) hr hp
theorem fh {fn:Func}{w0:World}{M:List Nat}{post:Value→Hp→Prop}{n:Nat}{ds:List Deferred}{Ms R:Hp}{vs:List Value}{rs:List ResultVar}(hm:Marks ds Ms)(gS:aJ H Ms R)(hr:fn.results=rs.toArray)(h:Rs P ⟨n,ds,w0,M⟩ L R rs vs)(hp:post (D4 vs) R) :
   X ⟨n,ds,w0,M⟩ (bodyPostM (FR none) 0 P fn (nN w0 M post) .ret) L H:=by
 refine⟨fun a w ok=>?_⟩
 show LeavesInM _ _ _ _ _ _ a.defers .returning w
 rw[ok.fr.defers]
 exact U5 hm w (ok.st.perm gS.perm) (fun w' st=>ng hr h ok.fr st) hp
end
end Go.HL
namespace Go.HL
open Go
section
variable {P:Program}{f:FuncId}{args:List Value}{pre:World→Prop}{S R H:Hp}{post:Value→Hp→Prop}
theorem Has.left {w:World}(h:Has w (S++R)):Has w S:=⟨fun b o hm=>h.has b o (List.mem_append_left _ hm),(List.pairwise_append.1 h.nd).1⟩
theorem Fn.frame (h:Fn P f args pre S post):Fn P f args pre (S++R) (fun v S'=>∃ S1,S'=S1++R∧post v S1):=by
 refine⟨h.enters,fun w hp hS=>(h.calls w hp hS.left).mono fun e w' iG=>?_⟩
 obtain⟨v,S1,rfl,hq,dV⟩:=iG.out
 exact⟨v,S1++R,rfl,⟨S1,rfl,hq⟩,(St.start hS).comp dV⟩
theorem St.wider {w0 w:World}{M M':List Nat}(h:St w0 w M H)(hM:∀ b,b∈M→b∈M'):St w0 w M' H:=
 ⟨h.os,h.tape,h.output,h.size,fun b hb hn=>h.old b hb (fun hm=>hn (hM b hm)),h.has,fun b o hm=>(h.own b o hm).imp (hM b) id,h.nd⟩
theorem Fn.perm {S':Hp}(h:Fn P f args pre S post)(hp:S.Perm S'):Fn P f args pre S' post:=by
 refine⟨h.enters,fun w hw hS=>(h.calls w hw ⟨fun b o hm=>hS.has b o (hp.mem_iff.1 hm),hp.symm.pairwise hS.nd (fun dM e=>dM e.symm)⟩).mono fun e w' iG=>?_⟩
 obtain⟨v,S1,rfl,hq,dV⟩:=iG.out
 exact⟨v,S1,rfl,hq,dV.wider fun b hb=>(hp.map (·.1)).mem_iff.1 hb⟩
theorem St.apart {α:Type}{E:α→List Value}{k T:Nat}{v:Value}{xs:List α}{Sx:Hp}{w0 w:World}{M:List Nat}(st:St w0 w M H)(gS:aJ H S R)(ho:aG E k T v xs Sx)(ER:c4 Sx R):ew (keys S) v:=by
 intro a n c hv hn hm
 have nd:=(st.perm gS.perm).nd
 obtain⟨⟨b',o⟩,Zw,hb⟩:=List.mem_map.1 hm
 cases ho with
 | nil=>cases hv
 | yo=>
   cases hv
   exact (List.pairwise_append.1 nd).2.2 _ Zw _ (ER _ List.mem_cons_self) hb
theorem St.x6 {α:Type}{E:α→List Value}{k:Nat} [he:eB E k]{a:Option Addr}{c:Nat}{xs:List α}{w0 w:World}(st:St w0 w [] H)(ER:c4 S H)(hr:Rd E w0 (.slice a xs.length c) xs)(hk:0<k):ew (keys S) (.slice a xs.length c):=by
 intro A n c' hv hn hm
 cases hv
 obtain⟨⟨b',o⟩,Zw,hb⟩:=List.mem_map.1 hm
 have h1:w0.heap.size≤b':=(st.own _ _ (ER _ Zw)).resolve_left (by simp)
 have hl:0<xs.length:=by omega
 obtain⟨u,hu⟩:∃ u,(flat E xs)[0]?=some u:=by
   have:0<(flat E xs).length:=by rw[cD];exact Nat.mul_pos hl hk
   exact⟨_,List.getElem?_eq_getElem this⟩
 have h2:=hr.get 0 u hu
 have h3:A.block<w0.heap.size:=by
   rcases Nat.lt_or_ge A.block w0.heap.size with h'|h'
   · exact h'
   · simp[World.cell?,ea,kN,CB,Array.getElem?_eq_none h'] at h2
 have hb:b'=A.block:=hb
 omega
end
end Go.HL
namespace Go.HL
open Go
section
variable {P:Program}{κ:Cx}{Q:gR}{L L':Loc}{H H':Hp}{ops:Array Oper}{rest:List Oper}{ty t t':TypeId}{d:Nat}{pos:String}{af:Array Edge}{v u:Value}{x y z:Operand}
theorem dP {e fL n bl:Nat}{k:IntKind}{i:Nat} [TU P t (.array n e)] [TI P e 1 fL](hx:ev L x=some (.pointer (some ⟨bl,0,none⟩)))(hy:ev L y=some (.int k i))(h:i<n) :
   Step P κ (.indexAddr t x y) ty L H (.pointer (some ⟨bl,i,none⟩)):=by
 refine ab (aQ hx hy ⟨by omega,by omega⟩) ?_
 simp
theorem WW {k:IntKind}{a:Int}(hx:ev L x=some (.int k a)):Step P κ (.unOp .xor t x) ty L H (.int k (k.wrap (BitVec.ofInt k.bits (if k.signed then -1 else k.max) ^^^ BitVec.ofInt k.bits a).toNat)):=
 ⟨fun ρ w d pos af g hρ _=>by simp[execOp,hρ _ _ hx,Op.unary,Op.intBits]⟩
theorem WY {k:IntKind}{a:Int}(hx:ev L x=some (.int k a)):Step P κ (.unOp .neg t x) ty L H (.int k (k.wrap (0-a))):=
 ⟨fun ρ w d pos af g hρ _=>by simp[execOp,hρ _ _ hx,Op.unary,Op.intArith]⟩
def WZ (P:Program)(t:TypeId):TypeDesc→Option (Nat×Nat)
 | .struct fs=>match fs.toList with
   | [f0,f1]=>if f0.name != "_"&&f1.name != "_"&&f0.offset==0&&f1.offset==1 && !P.stoodInHeld t then some (f0.type,f1.type) else none
   | _=>none
 | _=>none
class TQ2 (P:Program)(t:TypeId)(a b:outParam Nat):Prop where
 out:(P.underlying t).bind (WZ P t)=some (a,b)
end
end Go.HL
namespace Go.HL
open Go Go.RowKit Go.ChangeShapes Go.WideShapes Go.ChangeAt
theorem HH {C:Checked}{os:Os}{f:FuncId}{fn:Func}{s:ChangeSpec}{bt:TypeId}{H:Type}{enc:TypeId×Value→H}{laid:List (String×DataW Unit)}
   (U7:(laid.all fun x=>x.2.handleName?.isNone)=true)(own:ownKnob C.prog.godebug=none)(started:os.Started)(U8:C.prog.inits.idxOf? f=none)(Nc:C.prog.funcs[f]?=some fn)
   (witness:∃ (w:World)(tape:Tape)(i:Input),w.os=os∧(w.forCall tape i).Shaped C.prog∧i.vars = []∧Input.okWide C.prog (w.forCall tape i) .any w.heap.size f i ∧
     ((s.pre enc C.prog fn [] false (w.forCall tape i).memory i.args∧laidMetH C.prog laid (w.forCall tape i).memory)∧sizedMet enc C.prog fn (OpenSpec.ofChange s) false (w.forCall tape i).memory i.args)∧({}:Assume).holds C.prog (lone (Frame.enter C.prog f i.args .normal) [] (w.forCall tape i)))
   (L7:s.vars = [])(agr:fn.resultTypes = #[bt])(hbt:C.prog.underlying bt=some .bool)(aag:laidOutB C.prog=true)
   (aah:fn.params.toList.all (fun t=>C.prog.readableRec t&&decide (t<C.prog.types.size))=true)
   (aai:∀ (H:Type)(ds:List (DataW H)),ds.length=fn.params.toList.length→s.fn H (ds++[]) = { results:=[.lit (.bool true)],args:=ds })
   (L8:∀ (W:World)(args:Array Value)(ds:List (DataW H))(ps:List MemPlace),DataW.TrodAll enc C.prog W 0 (fun _=>true) true fn.params.toList args.toList ds ps →
     (∀ (j:Nat) t v,fn.params[j]?=some t→args[j]?=some v→∃ b,Value.okWide C.prog W .any b t v) →
     (∀ n∈DataW.weightsEach C.prog fn.params.toList ds,n≤reachBytes)→laidMetH C.prog laid W→Calls C.prog f args W (nN W [] (fun v _=>v = .bool true))) :
   ReturnsInHanded {} C os f .any (fun w args=>(s.pre enc C.prog fn [] false w args∧laidMetH C.prog laid w)∧sizedMet enc C.prog fn (OpenSpec.ofChange s) false w args) (s.post enc C.prog fn false true false false):=by
 refine returnsInHanded_of_change_and (X:=fun w _=>laidMetH C.prog laid w) (fun _ _ _ hh h=>by rw[MakeChecks.laidMetH_plain _ _ _ U7] at h ⊢;exact h.of_heap hh) own started U8 Nc witness ?_
 intro W base args ds gs before U9 hW _ xJ hL _
 have hW':=hW
 obtain⟨p,q,hA,hV,rfl,_,_⟩:=hW
 rw[L7] at hV
 obtain⟨rfl,rfl⟩:=trodVars_none hV
 have ags:∀ n∈DataW.weightsEach C.prog fn.params.toList ds,n≤reachBytes:=by
   intro n hn
   have e:s.plain.varTypes C.prog = []:=by
     have:s.plain.vars = []:=L7
     simp[DataSpec.varTypes,this]
   rw[e] at xJ
   simp only[List.append_nil] at xJ
   have:=List.all_eq_true.1 xJ n hn
   simpa using this
 refine (L8 W args ds p hA (fun j t v h1 h2=>⟨base,U9 j t v h1 h2⟩) ags hL).mono fun e W' iG=>?_
 obtain⟨v,S',rfl,rfl,st⟩:=iG.out
 have bel:Below W.heap.size W W':=⟨st.os,st.tape,st.output,st.size,fun k hk=>st.old k hk (by simp)⟩
 have e1:=aai H ds (rV hA)
 refine⟨_,rfl,ds,[],_,[],p,[],hW',?_,?_,?_,bel.frame _,fun h=>by cases h⟩
 · rw[e1,agr];exact trodAll_mk1 (shut_bool hbt _)
 · rw[e1];exact nZ aag bel aah hA
 · rw[L7,e1];rfl
theorem Co {P:Program}{W:World}{name:String}{k:IntKind}{zs:List Int}{g:Nat}(hg:P.globalNamed name=some g)(h:Go.Lib.TabIs P W name k zs):r9 W g 0 (zs.map fun z=>Value.int k z):=by
 refine⟨fun j u hu=>?_⟩
 have:=World.var?_cell hg h j
 rw[Nat.zero_add,this]
 simpa using hu
end Go.HL
namespace Go.HL
open Go Go.RowKit Go.ChangeShapes Go.WideShapes Go.ChangeAt
inductive n9 (s:Nat):List Value→List (Nat×Value)→List Value→Prop
 | nil {l:List Value}:n9 s l [] l
 | cons {i:Nat}{v:Value}{cs l l' Zv:List Value}{rest:List (Nat×Value)}(hv:v.cells=cs.toArray)(hs:cs.length=s)(hl:Nat.ble (i*s+s) l.length=true)(wc:bP l (i*s) cs=l')
     (h:n9 s l' rest Zv):n9 s l ((i,v)::rest) Zv
theorem n9.run {s:Nat}{l l':List Value}{pv:List (Nat×Value)}(h:n9 s l pv l'):Instr.fill (fun i=>some (i*s,s)) l.toArray pv=some l'.toArray:=by
 induction h with
 | nil=>rfl
 | cons hv hs hl wc _ ih=>
   rw[vC rfl hv hs (by simpa using hl),wc]
   exact ih
section
variable {P:Program}{κ:Cx}{Q:gR}{L L':Loc}{H H':Hp}{ops:Array Oper}{rest:List Oper}{ty t t':TypeId}{d:Nat}{pos:String}{af:Array Edge}{v u:Value}{x y z:Operand}{dst:Option Tmp}
theorem dz {m e s fL:Nat}{zv:Value}{zl cs:List Value}{parts:Array (Nat×Operand)}{vs:List Value} [TU P t (.array m e)] [TI P e s fL] [tz:TZ P t zv](hz:zv.cells=zl.toArray)(hp:parts.toList.map (fun p=>ev L p.2)=vs.map some)(hf:n9 s zl ((parts.toList.map (·.1)).zip vs) cs) :
   Step P κ (.build t parts) ty L H (.agg cs.toArray):=by
 refine⟨fun ρ w d pos af g hρ _=>?_⟩
 have rK:(parts.map fun (i,x)=>(i,ρ x)).toList=(parts.toList.map (·.1)).zip vs:=by
   rw[Array.toList_map];exact nE hρ _ _ hp
 have nI:=hf.run
 have key:(Instr.build t (parts.map fun (i,x)=>(i,ρ x))).run P w = .ok (.agg cs.toArray) w:=by
   simp only[Instr.build,Sem.run_bind,kQ,Result.andThen_ok,cS,bV,rK,hz,nI,Sem.run_pure]
 simp only[execOp,Sem.run_bind,key,Result.andThen_ok,Sem.run_pure]
theorem n9.kC:∀ (vs:List Value)(pre zs:List Value),zs.length=vs.length→(∀ v∈vs,v.cells = [v].toArray)→n9 1 (pre++zs) ((List.range' pre.length vs.length).zip vs) (pre++vs)
 | [],pre,zs,hz,_=>by
   obtain rfl:zs = []:=List.length_eq_zero_iff.1 hz
   exact .nil
 | v::vs,pre,[],hz,_=>by simp at hz
 | v::vs,pre,z::zs,hz,h1=>by
   have ih:=n9.kC vs (pre++[v]) zs (by simpa using hz) (fun u hu=>h1 u (List.mem_cons_of_mem _ hu))
   rw[List.append_assoc,List.append_assoc] at ih
   rw[List.length_cons,List.range'_succ,List.zip_cons_cons]
   refine .cons (h1 v List.mem_cons_self) rfl (by simp) ?_ (by simpa using ih)
   unfold bP
   rw[Nat.mul_one,List.take_left' rfl,List.drop_append]
   simp
theorem gY {m e fL:Nat}{zv:Value}{zl:List Value}{parts:Array (Nat×Operand)}(vs:List Value) [TU P t (.array m e)] [TI P e 1 fL] [tz:TZ P t zv](hz:zv.cells=zl.toArray)(hl:zl.length=vs.length)(hp:parts.toList.map (fun p=>ev L p.2)=vs.map some)(hi:parts.toList.map (·.1)=List.range' 0 vs.length)(h1:∀ v∈vs,v.oneCell'=true) :
   Step P κ (.build t parts) ty L H (.agg vs.toArray):=by
 refine dz hz hp (cs:=vs) ?_
 rw[hi]
 exact n9.kC vs [] zl hl (fun v hv=>rp (h1 v hv))
end
end Go.HL
namespace Go.HL
open Go Go.RowKit Go.ChangeShapes Go.WideShapes Go.ChangeAt
theorem A4 {α:Type}{E:α→List Value}{k:Nat} [he:eB E k]{P:Program}{T t t' ty fL:Nat}{d':TypeDesc}{z:Value}{v u:Value}{xs ys:List α}{S:Hp}{w:World}
   [tu:TU P t (.slice T)] [XP:TU P t' d'] [ti:TI P T k fL] [tz:TZ P T z](GQ:KN d')(J6:z.cells.size=k)(J7:z.cells.toList.all (·.oneCell')=true)
   (ho:aG E k T v xs S)(hw:∀ b o,(b,o)∈S→w.heap[b]?=some o)(hs:Src P w k u ys.length (flat E ys))(hb:(xs.length+ys.length)*fL≤140737488355328)(AW:xs.length+ys.length≤140737488355328) :
   ∃ v' w' S' G,(Builtin.append_ #[t,t'] ty #[v,u]).run P w = .ok v' w'∧aG E k T v' (xs++ys) S'∧((G = []∧∃ a n n' c,v = .slice a n c∧v' = .slice a n' c)∨G=S)∧(∀ w0 M R,St w0 w M (S++R)→St w0 w' M (S'++(G++R))):=by
 have mg:∀ w:World,(underlying t').run P w = .ok d' w:=fun w=>cS w
 obtain⟨i,hi,xJ,H7⟩:=ti.out
 obtain⟨i',z0,hz⟩:=tz.out
 rw[hi] at z0;cases z0
 have grow:∀ (old:Nat)(aet:Sem (Array Value)),old<xs.length+ys.length→∃ S',aG E k T (.slice (some ⟨w.heap.size,0,none⟩) (xs.length+ys.length) (grownCap w (xs.length+ys.length) old T)) (xs++ys) S' ∧
     (∀ w0 M R,St w0 w M (S++R)→St w0 (w.drew.alloc (.cells ((flat E xs).toArray++(flat E ys).toArray++Builtin.zeroCells z.cells (grownCap w (xs.length+ys.length) old T-(xs.length+ys.length))) T)) M (S'++(S++R))):=by
   intro old _ mJ
   have KO:=grownCap_ge w (xs.length+ys.length) old T
   have qJ:(flat E xs).toArray++(flat E ys).toArray++Builtin.zeroCells z.cells (grownCap w (xs.length+ys.length) old T-(xs.length+ys.length)) =
       (flat E (xs++ys)++(Builtin.zeroCells z.cells (grownCap w (xs.length+ys.length) old T-(xs.length+ys.length))).toList).toArray:=by
     apply Array.ext';simp[fH]
   rw[qJ]
   refine⟨[(w.heap.size,.cells (flat E (xs++ys)++(Builtin.zeroCells z.cells (grownCap w (xs.length+ys.length) old T-(xs.length+ys.length))).toList).toArray T (0,0))],?_,
     fun w0 M R st=>(St.alloc st.drew _)⟩
   have:=aG.yo (E:=E) (k:=k) (T:=T) (b:=w.heap.size) (c:=grownCap w (xs.length+ys.length) old T) (xs:=xs++ys) (zs:=(Builtin.zeroCells z.cells (grownCap w (xs.length+ys.length) old T-(xs.length+ys.length))).toList)
     (fr:=(0,0)) (Nat.le_of_eq (Eq.symm (by simp only[List.length_append,cD,Array.length_toList,size_zeroCells,J6,← Nat.add_mul];congr 1;omega))) (by simpa using KO) (by simpa using AW) (A5 J7) (.inr rfl)
   simpa using this
 cases ho with
 | nil=>
   by_cases hy:ys.length=0
   · have:ys = []:=List.eq_nil_of_length_eq_zero hy
     subst this;refine⟨.slice none 0 0,w,[],[],?_,.nil,.inr rfl,fun _ _ _ st=>st⟩
     have h1:=hs.cells w rfl
     simp only[List.length_nil,flat,List.flatMap_nil] at h1
     have h2:=hs.len
     rcases GQ with ⟨e',rfl⟩|rfl <;> simp[Builtin.append_,cS,bV,mg,h2,h1]
   · obtain⟨S',mJ,dV⟩:=grow 0 (pure #[]) (by simp;omega)
     simp only[List.length_nil,Nat.zero_add] at mJ dV hb AW
     refine⟨_,_,S',_,?_,mJ,.inr rfl,dV⟩
     have h1:=hs.cells w.drew rfl
     have h2:=hs.len
     have Dv:¬ (9223372036854775807<(ys.length:Int)):=by omega
     have wO:flat E ([]:List α) = []:=rfl
     have Dw:¬ (281474976710656<Builtin.nextslicecap ys.length 0*i.bytes):=by rw[nextslicecap_zero (by omega),H7];omega
     rcases GQ with ⟨e',rfl⟩|rfl <;> simp[Builtin.append_,cS,bV,mg,h2,h1,hy,Dv,Dw,Question.forced,typeInfo,hi,zeroValue,hz,run_firstCells_none,newRow,grownCap,wO]
 | yo hc hn hm h1 hf=>
   rename_i b c zs fr
   by_cases qk:xs.length+ys.length≤c
   · have qJ:=hs.cells w rfl
     have hl:=hs.len
     have KP:xs.length*k+0+(flat E ys).length≤c*k:=by
       rw[cD,Nat.add_zero,← Nat.add_mul];exact Nat.mul_le_mul_right _ qk
     have KQ:=Nat.le_trans KP hc
     obtain⟨w',hr,hh,qL,yp,wa⟩:=eV (P:=P) (flat E ys) (xs.length*k) 0 (flat E xs++zs) w (hw _ _ List.mem_cons_self) KQ (dH E ys)
       (fun j hj=>yq hf (by omega))
     refine⟨.slice (some ⟨b,0,none⟩) (xs.length+ys.length) c,w',[(b,.cells (bP (flat E xs++zs) (xs.length*k+0) (flat E ys)).toArray T fr)],[],?_,?_,.inl ⟨rfl,_,_,_,_,rfl,rfl⟩,fun w0 M R st=>St.put (R:=R) st hh qL yp wa⟩
     · rcases GQ with ⟨e',rfl⟩|rfl <;> simp[Builtin.append_,cS,bV,mg,hl,qJ,qk,Addr.add_lit,hr]
     · have e:bP (flat E xs++zs) (xs.length*k+0) (flat E ys)=flat E (xs++ys)++zs.drop (flat E ys).length:=by
         simp only[bP,Nat.add_zero]
         rw[← cD E xs,List.take_left,fH,List.drop_length_add_append]
       have:=aG.yo (E:=E) (k:=k) (T:=T) (b:=b) (c:=c) (xs:=xs++ys) (zs:=zs.drop (flat E ys).length) (fr:=fr)
         (by rw[← e];simp only[bP,List.length_append,List.length_take,List.length_drop] at hc KQ ⊢;omega) (by simpa using qk) (by simpa using AW) (fun v hv=>h1 v (List.mem_of_mem_drop hv)) hf
       rw[← e] at this
       simpa using this
   · obtain⟨S',mJ,dV⟩:=grow c (pure #[]) (by omega)
     refine⟨_,_,S',_,?_,mJ,.inr rfl,dV⟩
     have qJ:=hs.cells w.drew rfl
     have hl:=hs.len
     have Dv:¬ (9223372036854775807<(xs.length:Int)+(ys.length:Int)):=by omega
     have Dw:¬ (281474976710656<Builtin.nextslicecap (xs.length+ys.length) c*i.bytes):=by
       have:=growslice_fits (need:=xs.length+ys.length) (old:=c) (bytes:=i.bytes) (by omega) (by rw[H7];exact hb)
       omega
     have hfo:=run_firstCells_some (P:=P) w.drew k xs.length ⟨b,0,none⟩ xs.length c (flat E xs) (cD E xs) (fun j u hu=>by
       rw[Addr.add_lit,rG (w':=w.drew) (w:=w) rfl,lM (f:=fr) (hw _ _ List.mem_cons_self),List.getElem?_toArray,Nat.zero_add,List.getElem?_append_left]
       · exact hu
       · rcases Nat.lt_or_ge j (flat E xs).length with h'|h'
         · exact h'
         · rw[List.getElem?_eq_none h'] at hu;cases hu)
     rcases GQ with ⟨e',rfl⟩|rfl <;> simp[Builtin.append_,cS,bV,mg,hl,qJ,qk,Dv,Dw,Question.forced,typeInfo,hi,zeroValue,hz,hfo,newRow,grownCap] <;> (congr 2;apply Array.ext';simp[List.append_assoc])
section
variable {P:Program}{κ:Cx}{Q:gR}{L L':Loc}{H H':Hp}{ops:Array Oper}{rest:List Oper}{ty t t':TypeId}{d:Nat}{pos:String}{af:Array Edge}{v u:Value}{x y:Operand}{α:Type}{E:α→List Value}{k:Nat}
theorem uH [he:eB E k]{T fL XO:Nat}{z:Value}{xs ys:List α}{S R:Hp} [tu:TU P t (.slice T)] [XP:TU P t' (.slice XO)] [ti:TI P T k fL] [tz:TZ P T z]
   (ho:aG E k T v xs S)(hs:cq E κ H u ys)(J6:z.cells.size=k)(J7:z.cells.toList.all (·.oneCell')=true)
   (hx:ev L x=some v)(hy:ev L y=some u)(hb:(xs.length+ys.length)*fL≤140737488355328)(AW:xs.length+ys.length≤140737488355328)(hn:Nat.blt d κ.n=true)(gS:aJ H S R)
   (h:∀ a c S' G,aG E k T (.slice a (xs++ys).length c) (xs++ys) S'→((G = []∧∃ n,v = .slice a n c)∨G=S)→O P κ ops Q rest ((d,.slice a (xs++ys).length c)::L) (S'++(G++R))):O P κ ops Q (⟨some d,.call ⟨.builtin .append,#[x,y],#[t,t']⟩,ty,pos,af,none⟩::rest) L H:=by
 refine uU (fun v' H'=>∃ a c S' G,v' = .slice a (xs++ys).length c∧aG E k T (.slice a (xs++ys).length c) (xs++ys) S'∧((G = []∧∃ n,v = .slice a n c)∨G=S)∧H'=S'++(G++R)) hn (fun ρ w pos af g hρ st=>?_) (fun v' H' ⟨a,c,S',G,e1,mJ,hG,e⟩=>by subst e;subst e1;exact h a c S' G mJ hG)
 have H5:=st.perm gS.perm
 obtain⟨v',w',S',G,hr,mJ,hG,dV⟩:=A4 (P:=P) (t:=t) (t':=t') (ty:=ty) (.inl ⟨_,rfl⟩) J6 J7 ho (fun b o hm=>H5.has b o (List.mem_append_left _ hm)) (Src.IH (hs.out w st)) hb AW
 obtain⟨a,c,e,_⟩:=mJ.sl.out
 subst e;refine⟨_,w',S'++(G++R),by simp[execOp,resolve,invoke,builtin,hρ _ _ hx,hρ _ _ hy,hr],⟨a,c,S',G,rfl,mJ,hG.imp (fun⟨e,a',n,n',c',e1,e2⟩=>⟨e,n,by cases e2;exact e1⟩) (fun e=>e),rfl⟩,dV _ _ _ H5⟩
structure gq {α:Type}(E:α→List Value)(k:Nat)(T:TypeId)(v0:Value)(Ho:List α)(v:Value)(xs:List α)(S G:Hp):Prop where
 own:aG E k T v xs S
 old:lG E v0 Ho G∨∃ a n0 n c,v0 = .slice a n0 c∧v = .slice a n c∧Ho=xs.take n0∧n0≤n
theorem gq.start [_he:eB E k]{T:Nat}{xs:List α}{S:Hp}(h:aG E k T v xs S):gq E k T v xs v xs S []:=by
 obtain⟨a,c,e,_⟩:=h.sl.out
 subst e
 exact⟨h,.inr ⟨a,_,_,c,rfl,rfl,(List.take_length).symm,Nat.le_refl _⟩⟩
theorem gq.rds [he:eB E k]{T:Nat}{v0:Value}{Ho xs:List α}{S G:Hp}(h:gq E k T v0 Ho v xs S G):lG E v0 Ho (S++G):=by
 rcases h.old with h1|⟨a,n0,n,c,rfl,rfl,rfl,hn⟩
 · exact h1.mono c4.mG
 · exact (h.own.pre n0 hn).rds.mono c4.ga
theorem gq.app [he:eB E k]{T:Nat}{v0:Value}{Ho xs ys:List α}{S G S' G':Hp}{a:Option Addr}{c:Nat}(h:gq E k T v0 Ho v xs S G)(ho:aG E k T (.slice a (xs++ys).length c) (xs++ys) S')(hG:(G' = []∧∃ n,v = .slice a n c)∨G'=S) :
   gq E k T v0 Ho (.slice a (xs++ys).length c) (xs++ys) S' (G'++G):=by
 refine⟨ho,?_⟩
 rcases hG with ⟨rfl,n,rfl⟩|rfl
 · rcases h.old with h1|⟨a',n0,n',c',rfl,e,rfl,hn⟩
   · exact .inl h1
   · simp only[Value.slice.injEq] at e
     obtain⟨rfl,rfl,rfl⟩:=e
     obtain⟨a2,c2,e2,_⟩:=h.own.sl.out
     simp only[Value.slice.injEq] at e2
     obtain⟨-,rfl,-⟩:=e2
     exact .inr ⟨a,n0,_,c,rfl,rfl,by rw[List.take_append_of_le_length hn],by simp;omega⟩
 · exact .inl h.rds
end
end Go.HL
namespace Go.HL
open Go
theorem bh {A B C:Hp}(h:aJ A B C:=by first|((repeat (first|exact .one|exact .here|exact .all|apply aJ.cons|apply aJ.app));done)|((repeat (first|exact .one|exact .here|exact .all|apply aJ.cons|apply aJ.assoc|apply aJ.app));done)|exact aJ.cy (by repeat (first|exact .one|exact .here|exact .all|apply aJ.cons|apply aJ.assoc|apply aJ.app)) (by repeat (first|exact .one|exact .here|exact .all|apply aJ.cons|apply aJ.assoc|apply aJ.app))):aJ A B C:=h
theorem aP {A B:Hp}(h:HSub A B:=by repeat (first|exact HSub.refl _|exact HSub.nil|(apply HSub.bR;exact bh)|(apply HSub.take;exact bh)|(apply HSub.iB;exact bh))):HSub A B:=h
theorem bY {A B:Hp}{b:Nat}{o o':Obj}(h:pW A b o o' B:=by repeat (first|exact .here|apply pW.there|apply pW.assoc|apply pW.skip)):pW A b o o' B:=h
theorem aV {α:Type}{a:α}{l:List α}(h:a∈l:=by repeat (first|exact List.mem_cons_self|apply List.mem_cons_of_mem|apply Hn|apply OF)):a∈l:=h
theorem aH {A B:Loc}(h:Sub A B:=by repeat (first|exact Sub.nil|refine Sub.cons rfl ?_)):Sub A B:=h
theorem aM {A B:Hp}(h:c4 A B:=by repeat (first|exact c4.here|exact c4.all|exact c4.one|apply c4.cons|apply c4.assoc|apply c4.app)):c4 A B:=h
theorem aS {α:Type}{l:List α}{n:Nat}(h:l.length=n:=by first|(rw[cD,Nat.mul_one];first|assumption|exact List.length_replicate)|exact List.length_replicate|rfl):l.length=n:=h
end Go.HL
namespace Go.HL
open Go
section
variable {P:Program}{κ:Cx}{L:Loc}{H:Hp}{ty t t':TypeId}{x y:Operand}
def fieldsOf (P:Program)(t:TypeId):TypeDesc→Option (List (Nat×Nat))
 | .struct fs=>if fs.toList.all (fun f=>f.name != "_") && !P.stoodInHeld t then some (fs.toList.map fun f=>(f.type,f.offset)) else none
 | _=>none
class TQ (P:Program)(t:TypeId)(l:outParam (List (Nat×Nat))):Prop where
 out:(P.underlying t).bind (fieldsOf P t)=some l
inductive FQ (P:Program)(w:World)(n:Nat)(xs ys:Array Value):List (Nat×Nat)→Bool→Prop
 | nil:FQ P w n xs ys [] true
 | cons {e o:Nat}{l:List (Nat×Nat)}{vx vy:Value}{r b:Bool}(hx:(part e xs o).run P w = .ok vx w)(hy:(part e ys o).run P w = .ok vy w)(he:(Op.equalIn (n+1) e vx vy).run P w = .ok r w)(h:FQ P w n xs ys l b):FQ P w n xs ys ((e,o)::l) (r&&b)
theorem FQ.run {w:World}{n:Nat}{xs ys:Array Value}:∀ {fs:List Field}{l:List (Nat×Nat)}{b:Bool},fs.map (fun f=>(f.type,f.offset))=l→(∀ f∈fs,f.name≠"_")→FQ P w n xs ys l b →
   (forIn (m:=Sem) fs ((none,()):Option Bool×Unit) (fun f _=>do
     if f.name≠"_" then
       let a ← part f.type xs f.offset
       let b ← part f.type ys f.offset
       let c ← Op.equalIn (n+1) f.type a b
       if (!c)=true then pure (ForInStep.done (some false,())) else pure (ForInStep.yield (none,()))
     else pure (ForInStep.yield (none,())))).run P w = .ok (if b then (none,()) else (some false,())) w:=by
 intro fs
 induction fs with
 | nil=>intro l b hl _ h;simp at hl;subst hl;cases h;simp
 | cons f fs ih=>
   intro l b hl hn h
   simp only[List.map_cons] at hl
   subst hl
   cases h with
   | cons hx hy he h=>
     rename_i vx vy r b
     have h2:=ih rfl (fun g hg=>hn g (List.mem_cons_of_mem _ hg)) h
     have dM:=hn f List.mem_cons_self
     rw[List.forIn_cons,Sem.run_bind]
     simp only[ne_eq,dM,not_false_eq_true,if_true,Sem.run_bind,hx,hy,he,Result.andThen_ok]
     cases r
     · simp
     · simp only[Bool.not_true,Bool.false_eq_true,if_false,Sem.run_pure,Result.andThen_ok,Bool.true_and]
       exact h2
theorem w6 {w:World}{n:Nat}{xs ys:Array Value}{l:List (Nat×Nat)}{b:Bool} [tq:TQ P t l](h:FQ P w n xs ys l b):(Op.equalIn (n+2) t (.agg xs) (.agg ys)).run P w = .ok b w:=by
 have hq:=tq.out
 cases hu:P.underlying t with
 | none=>simp[hu] at hq
 | some D=>
   rw[hu] at hq
   cases D
   case struct fs=>
     simp only[Option.bind_some,fieldsOf] at hq
     split at hq
     case isFalse=>cases hq
     case isTrue hc=>
       simp only[Bool.and_eq_true,List.all_eq_true,bne_iff_ne,ne_eq,Bool.not_eq_true'] at hc
       obtain⟨h0,hs⟩:=hc
       simp only[Option.some.injEq] at hq
       have hr:=FQ.run hq h0 h
       unfold Op.equalIn
       rw[Sem.run_bind,run_underlying hu,Result.andThen_ok]
       simp only[]
       rw[Sem.run_bind]
       have ep:(program:Sem Program).run P w = .ok P w:=by simp[program,Sem.run]
       rw[ep,Result.andThen_ok,hs]
       simp only[Bool.false_eq_true,if_false,Sem.run_bind,Sem.run_pure,Result.andThen_ok]
       rw[← Array.forIn_toList]
       rw[hr]
       cases b <;> simp
   all_goals simp[fieldsOf] at hq
theorem lE {e o:Nat}{xs:Array Value}{v:Value}{w:World} [TG P e true](h:xs[o]?=some v):(part e xs o).run P w = .ok v w:=by
 simp only[part,Sem.run_bind,hZ w,Result.andThen_ok,h]
 simp
theorem pf {e o s b:Nat}{xs ys:Array Value}{w:World} [TG P e false] [TI P e s b](h:xs.extract o (o+s)=ys):(part e xs o).run P w = .ok (.agg ys) w:=by
 simp only[part,Sem.run_bind,hZ w,Result.andThen_ok]
 simp[bV,h]
theorem ID {a b:Array Value}{l:List (Nat×Nat)}{r:Bool} [EG P t] [TQ P t l](hx:ev L x=some (.agg a))(hy:ev L y=some (.agg b))(h:∀ w,FQ P w 9998 a b l r):Step P κ (.binOp .eql t x y t') ty L H (.bool r):=w9 hx hy fun w=>w6 (h w)
theorem tS {a b:Array Value}{l:List (Nat×Nat)}{r:Bool} [EG P t] [TQ P t l](hx:ev L x=some (.agg a))(hy:ev L y=some (.agg b))(h:∀ w,FQ P w 9998 a b l r):Step P κ (.binOp .neq t x y t') ty L H (.bool (!r)):=xb hx hy fun w=>w6 (h w)
theorem FQ.int {w:World}{n e o:Nat}{k' j:IntKind}{xs ys:Array Value}{l:List (Nat×Nat)}{p q:Int}{b:Bool} [TU P e (.int k')] [TG P e true](hx:xs[o]?=some (.int j p))(hy:ys[o]?=some (.int j q))(h:FQ P w n xs ys l b):FQ P w n xs ys ((e,o)::l) ((p==q)&&b):=
 .cons (lE hx) (lE hy) (tT w n) h
theorem pg {k:IntKind}{a b:Int}{ts:Array TypeId}(hx:ev L x=some (.int k a))(hy:ev L y=some (.int k b)):Step P κ (.call ⟨.builtin .min,#[x,y],ts⟩) ty L H (.int k (min a b)):=
 ⟨fun ρ w d pos af g hρ _=>by
   by_cases h:b<a
   · simp[execOp,resolve,invoke,builtin,hρ _ _ hx,hρ _ _ hy,Builtin.min_,Builtin.min2,h];omega
   · simp[execOp,resolve,invoke,builtin,hρ _ _ hx,hρ _ _ hy,Builtin.min_,Builtin.min2,h];omega⟩
theorem IE {k:IntKind}{a b:Int}{ts:Array TypeId}(hx:ev L x=some (.int k a))(hy:ev L y=some (.int k b)):Step P κ (.call ⟨.builtin .max,#[x,y],ts⟩) ty L H (.int k (max a b)):=
 ⟨fun ρ w d pos af g hρ _=>by
   by_cases h:a<b
   · simp[execOp,resolve,invoke,builtin,hρ _ _ hx,hρ _ _ hy,Builtin.max_,Builtin.max2,h];omega
   · simp[execOp,resolve,invoke,builtin,hρ _ _ hx,hρ _ _ hy,Builtin.max_,Builtin.max2,h];omega⟩
end
section
variable {P:Program}{κ:Cx}{Q:gR}{L:Loc}{H:Hp}{ops:Array Oper}{op:Op}{ty:TypeId}{d:Nat}{pos:String}{af:Array Edge}{late:Nat→Bool}
theorem IF (i:Nat){fuel:Nat}{listed:Array Bool}{Hs:Hp}{j t:Nat}{b c:Bool}(hi:ops[i]?=some ⟨some d,op,ty,pos,af,some (j,b)⟩)(dr:Region.noSelect ops=true)(nI:Region.free .any ops listed i=true)(hr:(Region.ready .any ops listed).contains i=true)
   (hj:(ops[j]?).bind (·.dst)=some t)(ht:look L t=some (.bool c))(dM:(c==b)=false)(hn:Nat.blt d κ.n=true)(h:E P κ ops Q Hs late fuel (listed.setIfInBounds i true) ((d,undef)::L) H):E P κ ops Q Hs late (fuel+1) listed L H:=by
 refine⟨fun ro a w iF ok=>?_⟩
 exact tU hi (Region.noSelect_spec dr) (fun c a w h=>h.elim) fuel listed a w (Region.free_spec hi nI) (by simpa using hr)
   (.inr ⟨by rw[eT ok.fr rfl hj ht,dM],rfl⟩) (ok.st.sub HSub.nil) (h.out ro _ _ iF ⟨ok.fr.put hn undef,ok.st⟩)
theorem No (i:Nat){fuel:Nat}{listed:Array Bool}{Hs:Hp}{j t:Nat}{b:Bool}(hi:ops[i]?=some ⟨some d,op,ty,pos,af,some (j,b)⟩)(dr:Region.noSelect ops=true)(nI:Region.free .any ops listed i=true)(hr:(Region.ready .any ops listed).contains i=true)
   (hj:(ops[j]?).bind (·.dst)=some t)(ht:look L t=some undef)(hn:Nat.blt d κ.n=true)(h:E P κ ops Q Hs late fuel (listed.setIfInBounds i true) ((d,undef)::L) H):E P κ ops Q Hs late (fuel+1) listed L H:=by
 refine⟨fun ro a w iF ok=>?_⟩
 exact tU hi (Region.noSelect_spec dr) (fun c a w h=>h.elim) fuel listed a w (Region.free_spec hi nI) (by simpa using hr)
   (.inr ⟨jf ok.fr rfl hj ht,rfl⟩) (ok.st.sub HSub.nil) (h.out ro _ _ iF ⟨ok.fr.put hn undef,ok.st⟩)
end
theorem c4.acI {H:Hp}:c4 [] H:=fun _ h=>by cases h
theorem c4.Wx {p:Nat×Obj}{S H:Hp}(hp:p∈H)(h:c4 S H):c4 (p::S) H:=fun q hq=>by
 rcases List.mem_cons.1 hq with rfl|hq
 · exact hp
 · exact h q hq
theorem c4.acJ {A B H:Hp}(h:c4 A H)(h':c4 B H):c4 (A++B) H:=fun q hq=>(List.mem_append.1 hq).elim (h q) (h' q)
theorem yn {A B:Hp}(h:c4 A B:=by repeat' (first|exact c4.acI|(apply c4.Wx;exact aV)|apply c4.acJ|exact aM)):c4 A B:=h
theorem fE {l:List Value}(h:∀ v∈l,v.oneCell'=true:=by first|exact dH _ _|exact eB.one _|exact gw rfl|(simp[Value.oneCell'];done)):∀ v∈l,v.oneCell'=true:=h
theorem kD {i:Nat}{l:List Value}(h:i<l.length:=by first|decide|omega|exact Nat.le_of_ble_eq_true rfl|(simp;done)|(simp;omega)):i<l.length:=h
end Go.HL
