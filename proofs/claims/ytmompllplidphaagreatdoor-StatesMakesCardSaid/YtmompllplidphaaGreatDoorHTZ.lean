/- Part of the proofs over this seat: see the text that holds the theorem. Conditions: each theorem bears its own. -/
import Derived.Test.YtmompllplidphaaGreatDoorHlB
import Derived.Test.YtmompllplidphaaGreatDoorProg
import Derived.KernelRfl
namespace Go.HL
open Go
theorem iV {P:Program}{κ:Cx}{ops:Array Oper}{Q:gR}{late:Nat→Bool}{L:Loc}{H:Hp}{op:Op}{d:Nat}{ty:TypeId}{pos:String}{af:Array Edge}{v:Value}(i:Nat){fuel:Nat}{listed:Array Bool}{Hs:Hp}{g:Option (Nat×Bool)}(hi:ops[i]?=some ⟨some d,op,ty,pos,af,g⟩)(hS:HSub H Hs)(hs:Step P κ op ty L Hs v)(h:E P κ ops Q Hs late fuel (listed.setIfInBounds i true) ((d,v)::L) H)(dr:Region.noSelect ops=true:=by kernel_rfl)(nI:Region.free .any ops listed i=true:=by kernel_rfl)(hr:(Region.ready .any ops listed).contains i=true:=by kernel_rfl)
   (cH:xk ops late i=true:=by kernel_rfl)(hg:∀ a:Act,Fr a κ.n κ.ds L→Region.wanted ⟨some d,op,ty,pos,af,g⟩ (yielded ops a.tmps)=true:=by exact fun _ _=>rfl)(hn:Nat.blt d κ.n=true:=by rfl):E P κ ops Q Hs late (fuel+1) listed L H:=yP i hi dr nI hr cH hg hn hS hs h
theorem alP {P:Program}{κ:Cx}{ops:Array Oper}{Q:gR}{late:Nat→Bool}{L:Loc}{H:Hp}{op:Op}{d:Nat}{ty:TypeId}{pos:String}{af:Array Edge}{v:Value}(i:Nat){fuel:Nat}{listed:Array Bool}{Hs:Hp}{g:Option (Nat×Bool)}(hi:ops[i]?=some ⟨some d,op,ty,pos,af,g⟩)(hS:HSub H Hs)(hs:Step P κ op ty L Hs v)(h:E P κ ops Q Hs late fuel (listed.setIfInBounds i true) ((d,v)::L) H)(dr:Region.noSelect ops=true:=by kernel_rfl)(nI:Region.free .any ops listed i=true:=by kernel_rfl)(hr:(Region.ready .any ops listed).contains i=true:=by kernel_rfl)
   (cH:xk ops late i=true:=by kernel_rfl)(hg:∀ a:Act,Fr a κ.n κ.ds L→Region.wanted ⟨some d,op,ty,pos,af,g⟩ (yielded ops a.tmps)=true:=by exact fun _ fr=>by rw[eT fr rfl rfl rfl];rfl)(hn:Nat.blt d κ.n=true:=by rfl):E P κ ops Q Hs late (fuel+1) listed L H:=yP i hi dr nI hr cH hg hn hS hs h
theorem alQ {P:Program}{κ:Cx}{ops:Array Oper}{Q:gR}{late:Nat→Bool}{L:Loc}{H:Hp}{op:Op}{d:Nat}{ty:TypeId}{pos:String}{af:Array Edge}{v:Value}(i:Nat){fuel:Nat}{listed:Array Bool}{Hs:Hp}(hi:ops[i]?=some ⟨some d,op,ty,pos,af,none⟩)(hs:Step P κ op ty L [] v)(h:E P κ ops Q Hs late fuel (listed.setIfInBounds i true) ((d,v)::L) H)(dr:Region.noSelect ops=true:=by kernel_rfl)(nI:Region.free .any ops listed i=true:=by kernel_rfl)(hr:(Region.ready .any ops listed).contains i=true:=by kernel_rfl)(hn:Nat.blt d κ.n=true:=by rfl):E P κ ops Q Hs late (fuel+1) listed L H:=Jm i hi dr nI hr hn hs h
theorem alR {P:Program}{κ:Cx}{ops:Array Oper}{Q:gR}{late:Nat→Bool}{L:Loc}{H:Hp}{op:Op}{d:Nat}{ty:TypeId}{pos:String}{af:Array Edge}(i:Nat){fuel:Nat}{listed:Array Bool}{Hs:Hp}{j t:Nat}{b c:Bool}(hi:ops[i]?=some ⟨some d,op,ty,pos,af,some (j,b)⟩)(h:E P κ ops Q Hs late fuel (listed.setIfInBounds i true) ((d,undef)::L) H)(dr:Region.noSelect ops=true:=by kernel_rfl)(nI:Region.free .any ops listed i=true:=by kernel_rfl)(hr:(Region.ready .any ops listed).contains i=true:=by kernel_rfl)(hj:(ops[j]?).bind (·.dst)=some t:=by rfl)(ht:look L t=some (.bool c):=by rfl)(dM:(c==b)=false:=by rfl)(hn:Nat.blt d κ.n=true:=by rfl):E P κ ops Q Hs late (fuel+1) listed L H:=IF i hi dr nI hr hj ht dM hn h
section
variable {P:Program}{κ:Cx}{Q:gR}{L:Loc}{H:Hp}{ops:Array Oper}{rest:List Oper}{d:Nat}{ty t t':TypeId}{pos:String}{af:Array Edge}{op:Op}{x y z:Operand}{u v:Value}{k:IntKind}{a b:Int}
theorem oS (hs:Step P κ op ty L H v)(h:O P κ ops Q rest ((d,v)::L) H)(hn:Nat.blt d κ.n=true:=by exact rfl):O P κ ops Q (⟨some d,op,ty,pos,af,none⟩::rest) L H:=cP hn hs h
theorem sM (hx:ev L x=some v:=by exact rfl):Step P κ (.move x) ty L H v:=ba hx
theorem sA (hx:ev L x=some v:=by exact rfl):Step P κ (.assign x) ty L H v:=dF hx
theorem oM (h:O P κ ops Q rest ((d,v)::L) H)(hx:ev L x=some v:=by exact rfl)(hn:Nat.blt d κ.n=true:=by exact rfl):O P κ ops Q (⟨some d,.move x,ty,pos,af,none⟩::rest) L H:=cP hn (ba hx) h
theorem oA (h:O P κ ops Q rest ((d,v)::L) H)(hx:ev L x=some v:=by exact rfl)(hn:Nat.blt d κ.n=true:=by exact rfl):O P κ ops Q (⟨some d,.assign x,ty,pos,af,none⟩::rest) L H:=cP hn (dF hx) h
theorem sF {b off f ft fo:Nat}{fs:List (Nat×Nat)} [ts:TS P t fs](hx:ev L x=some (.pointer (some ⟨b,off,none⟩)):=by exact rfl)(hf:fs[f]?=some (ft,fo):=by exact rfl)(ti:∃ s fL,TI P ft s fL∧s≠0:=by exact⟨_,_,inferInstance,by decide⟩):Step P κ (.fieldAddr t x f) ty L H (.pointer (some ⟨b,off+fo,none⟩)):=by
 obtain⟨s,fL,h1,h2⟩:=ti
 exact j8 hx hf h2
theorem sL {b off:Nat} [h:TG P t true](hx:ev L x=some (.pointer (some ⟨b,off,none⟩)):=by exact rfl)(hc:NL κ H ⟨b,off,none⟩ v:=by exact .own aV rfl):Step P κ (.load t x) ty L H v:=az hx hc
theorem sN {a:Addr}(hx:ev L x=some (.pointer (some a)):=by exact rfl):Step P κ (.nilCheck x) ty L H (.pointer (some a)):=Qw hx
theorem sE {vs:Array Value}{i:Nat}(hx:ev L x=some (.tuple vs):=by exact rfl)(hv:vs[i]?=some v:=by exact rfl):Step P κ (.extract x i) ty L H v:=qK hx hv
theorem sC {e:TypeId}{a:Option Addr}{n c:Nat} [TU P t (.slice e)](hx:ev L x=some (.slice a n c):=by exact rfl):Step P κ (.call ⟨.builtin .len,#[x],#[t]⟩) ty L H (.int .i64 n):=Qx hx
theorem sT (hz:ev L z=some (.bool true):=by exact rfl)(hx:ev L x=some u:=by exact rfl):Step P κ (.pick z x y) ty L H u:=u7 hz hx
theorem sP (hz:ev L z=some (.bool false):=by exact rfl)(hy:ev L y=some v:=by exact rfl):Step P κ (.pick z x y) ty L H v:=AX hz hy
theorem sD (hx:ev L x=some (.int .i64 a):=by exact rfl)(hy:ev L y=some (.int .i64 b):=by exact rfl)(h:-9223372036854775808≤a+b∧a+b≤9223372036854775807:=by omega):Step P κ (.binOp .add t x y t') ty L H (.int .i64 (a+b)):=kW hx hy h
theorem sU (hx:ev L x=some (.int .i64 a):=by exact rfl)(hy:ev L y=some (.int .i64 b):=by exact rfl)(h:-9223372036854775808≤a-b∧a-b≤9223372036854775807:=by omega):Step P κ (.binOp .sub t x y t') ty L H (.int .i64 (a-b)):=AY hx hy h
theorem wg (hx:ev L x=some (.int k a):=by exact rfl)(hy:ev L y=some (.int k b):=by exact rfl)(h:a<b:=by omega):Step P κ (.binOp .lss t x y t') ty L H (.bool true):=ab (aF hx hy) (by rw[decide_eq_true h])
theorem wh (hx:ev L x=some (.int k a):=by exact rfl)(hy:ev L y=some (.int k b):=by exact rfl)(h:¬ a<b:=by omega):Step P κ (.binOp .lss t x y t') ty L H (.bool false):=ab (aF hx hy) (by rw[decide_eq_false h])
theorem leT (hx:ev L x=some (.int k a):=by exact rfl)(hy:ev L y=some (.int k b):=by exact rfl)(h:a≤b:=by omega):Step P κ (.binOp .leq t x y t') ty L H (.bool true):=ab (rW hx hy) (by rw[decide_eq_true h])
theorem leF (hx:ev L x=some (.int k a):=by exact rfl)(hy:ev L y=some (.int k b):=by exact rfl)(h:¬ a≤b:=by omega):Step P κ (.binOp .leq t x y t') ty L H (.bool false):=ab (rW hx hy) (by rw[decide_eq_false h])
theorem Gp (hx:ev L x=some (.int k a):=by exact rfl)(hy:ev L y=some (.int k b):=by exact rfl)(h:b<a:=by omega):Step P κ (.binOp .gtr t x y t') ty L H (.bool true):=ab (eX hx hy) (by rw[decide_eq_true h])
theorem Gq (hx:ev L x=some (.int k a):=by exact rfl)(hy:ev L y=some (.int k b):=by exact rfl)(h:¬ b<a:=by omega):Step P κ (.binOp .gtr t x y t') ty L H (.bool false):=ab (eX hx hy) (by rw[decide_eq_false h])
theorem geT (hx:ev L x=some (.int k a):=by exact rfl)(hy:ev L y=some (.int k b):=by exact rfl)(h:b≤a:=by omega):Step P κ (.binOp .geq t x y t') ty L H (.bool true):=ab (iH hx hy) (by rw[decide_eq_true h])
theorem geF (hx:ev L x=some (.int k a):=by exact rfl)(hy:ev L y=some (.int k b):=by exact rfl)(h:¬ b≤a:=by omega):Step P κ (.binOp .geq t x y t') ty L H (.bool false):=ab (iH hx hy) (by rw[decide_eq_false h])
theorem ij (hx:ev L x=some (.int k a):=by exact rfl)(hy:ev L y=some (.int k b):=by exact rfl)(h:a=b:=by omega):Step P κ (.binOp .eql t x y t') ty L H (.bool true):=ab (bO hx hy) (by rw[decide_eq_true h])
theorem ik (hx:ev L x=some (.int k a):=by exact rfl)(hy:ev L y=some (.int k b):=by exact rfl)(h:¬ a=b:=by omega):Step P κ (.binOp .eql t x y t') ty L H (.bool false):=ab (bO hx hy) (by rw[decide_eq_false h])
theorem N7 (hx:ev L x=some (.int k a):=by exact rfl)(hy:ev L y=some (.int k b):=by exact rfl)(h:a≠b:=by omega):Step P κ (.binOp .neq t x y t') ty L H (.bool true):=ab (eY hx hy) (by rw[decide_eq_true h])
theorem N8 (hx:ev L x=some (.int k a):=by exact rfl)(hy:ev L y=some (.int k b):=by exact rfl)(h:¬ a≠b:=by omega):Step P κ (.binOp .neq t x y t') ty L H (.bool false):=ab (eY hx hy) (by rw[decide_eq_false h])
theorem oN {j:Nat}{b c:Bool}{t:Nat}(h:O P κ ops Q rest ((d,undef)::L) H)(hj:(ops[j]?).bind (·.dst)=some t:=by exact rfl)(ht:look L t=some (.bool c):=by exact rfl)(dM:(c==b)=false:=by exact rfl)(hn:Nat.blt d κ.n=true:=by exact rfl):O P κ ops Q (⟨some d,op,ty,pos,af,some (j,b)⟩::rest) L H:=adQ hj ht dM hn h
theorem oY {j:Nat}{b:Bool}{t:Nat}{o:Option Tmp}(h:O P κ ops Q (⟨o,op,ty,pos,af,none⟩::rest) L H)(hj:(ops[j]?).bind (·.dst)=some t:=by exact rfl)(ht:look L t=some (.bool b):=by exact rfl):O P κ ops Q (⟨o,op,ty,pos,af,some (j,b)⟩::rest) L H:=XB hj ht h
theorem cR {id:Nat}{l:List Oper}{y:Code}(h:∀ K:Act→World→Prop,(∀ L H,C P κ Q y L H→X κ K L H)→O P κ l.toArray (Exit.then K Q) l L H):C P κ Q (.seq (.region id l.toArray false) y) L H:=ah fun K hK=>ae (h K hK)
theorem oZ {K:Act→World→Prop}{y:Code}{Q':gR}(hK:∀ L H,C P κ Q' y L H→X κ K L H)(h:C P κ Q' y L H):O P κ ops (Exit.then K Q) [] L H:=ak (av (hK _ _ h))
theorem xZ {K:Act→World→Prop}{y:Code}{Q':gR}(hK:∀ L H,C P κ Q' y L H→X κ K L H)(h:C P κ Q' y L H):X κ (Exit.then K Q .normal) L H:=av (hK _ _ h)
theorem cF {c:Operand}{x y:Code}(h:C P κ Q y L H)(hc:ev L c=some (.bool false):=by exact rfl):C P κ Q (.cond c x y) L H:=qf hc h
theorem cT {c:Operand}{x y:Code}(h:C P κ Q x L H)(hc:ev L c=some (.bool true):=by exact rfl):C P κ Q (.cond c x y) L H:=yh hc h
theorem eL {c:Operand}{x y:Code}{K:Act→World→Prop}{Q':gR}(hK:∀ L H,C P κ Q' y L H→X κ K L H)(h:C P κ Q' y L H)(hc:ev L c=some (.bool false):=by exact rfl):C P κ (Exit.then K Q) (.cond c x .skip) L H:=qf hc (ax (av (hK _ _ h)))
theorem gp {c:Operand}{x y:Code}{K:Act→World→Prop}{Q':gR}(hK:∀ L H,C P κ Q' y L H→X κ K L H)(h:C P κ Q' y L H)(hc:ev L c=some (.bool true):=by exact rfl):C P κ (Exit.then K Q) (.cond c .skip x) L H:=yh hc (ax (av (hK _ _ h)))
variable {late:Nat→Bool}{fuel:Nat}{listed:Array Bool}{Hs:Hp}
theorem eZ {K:Act→World→Prop}{y:Code}{Q':gR}(hK:∀ L H,C P κ Q' y L H→X κ K L H)(h:C P κ Q' y L H)(hr:Region.ready .any ops listed = []:=by kernel_rfl):E P κ ops (Exit.then K Q) Hs late fuel listed L H:=cw hr (av (hK _ _ h))
theorem eO (i:Nat){o:Oper}(hi:ops[i]?=some o)(h:O P κ ops (uX P κ ops Q Hs late fuel listed i) [o] L H)(hr:Region.ready .any ops listed = [i]:=by kernel_rfl):E P κ ops Q Hs late (fuel+1) listed L H:=XF i hi hr h
theorem oX {i:Nat}(h:E P κ ops Q Hs late fuel (listed.setIfInBounds i true) L H)(hS:HSub H Hs:=by exact aP):O P κ ops (uX P κ ops Q Hs late fuel listed i) [] L H:=ak (yy hS h)
theorem eK {op:Op}{g:Option (Nat×Bool)}(i:Nat)(hi:ops[i]?=some ⟨some d,op,ty,pos,af,g⟩)(hs:Step P κ op ty L Hs v)(h:E P κ ops Q Hs late fuel (listed.setIfInBounds i true) ((d,v)::L) H)(hS:HSub H Hs:=by exact aP)(dr:Region.noSelect ops=true:=by kernel_rfl)(nI:Region.free .any ops listed i=true:=by kernel_rfl)(hr:(Region.ready .any ops listed).contains i=true:=by kernel_rfl)
   (cH:xk ops late i=true:=by kernel_rfl)(hg:∀ a:Act,Fr a κ.n κ.ds L→Region.wanted ⟨some d,op,ty,pos,af,g⟩ (yielded ops a.tmps)=true:=by exact fun _ _=>rfl)(hn:Nat.blt d κ.n=true:=by rfl):E P κ ops Q Hs late (fuel+1) listed L H:=yP i hi dr nI hr cH hg hn hS hs h
theorem eS {op:Op}(i:Nat){j t:Nat}{b c:Bool}(hi:ops[i]?=some ⟨some d,op,ty,pos,af,some (j,b)⟩)(h:E P κ ops Q Hs late fuel (listed.setIfInBounds i true) ((d,undef)::L) H)(dr:Region.noSelect ops=true:=by kernel_rfl)(nI:Region.free .any ops listed i=true:=by kernel_rfl)(hr:(Region.ready .any ops listed).contains i=true:=by kernel_rfl)(hj:(ops[j]?).bind (·.dst)=some t:=by rfl)(ht:look L t=some (.bool c):=by rfl)(dM:(c==b)=false:=by rfl)(hn:Nat.blt d κ.n=true:=by rfl):E P κ ops Q Hs late (fuel+1) listed L H:=IF i hi dr nI hr hj ht dM hn h
theorem eG {op:Op}{g:Option (Nat×Bool)}(i:Nat)(hi:ops[i]?=some ⟨some d,op,ty,pos,af,g⟩)(hs:Step P κ op ty L Hs v)(h:E P κ ops Q Hs late fuel (listed.setIfInBounds i true) ((d,v)::L) H)(hS:HSub H Hs:=by exact aP)(dr:Region.noSelect ops=true:=by kernel_rfl)(nI:Region.free .any ops listed i=true:=by kernel_rfl)(hr:(Region.ready .any ops listed).contains i=true:=by kernel_rfl)
   (cH:xk ops late i=true:=by kernel_rfl)(hg:∀ a:Act,Fr a κ.n κ.ds L→Region.wanted ⟨some d,op,ty,pos,af,g⟩ (yielded ops a.tmps)=true:=by exact fun _ fr=>by rw[eT fr rfl rfl rfl];rfl)(hn:Nat.blt d κ.n=true:=by rfl):E P κ ops Q Hs late (fuel+1) listed L H:=yP i hi dr nI hr cH hg hn hS hs h
theorem eP {op:Op}(i:Nat)(hi:ops[i]?=some ⟨some d,op,ty,pos,af,none⟩)(hs:Step P κ op ty L [] v)(h:E P κ ops Q Hs late fuel (listed.setIfInBounds i true) ((d,v)::L) H)(dr:Region.noSelect ops=true:=by kernel_rfl)(nI:Region.free .any ops listed i=true:=by kernel_rfl)(hr:(Region.ready .any ops listed).contains i=true:=by kernel_rfl)(hn:Nat.blt d κ.n=true:=by rfl):E P κ ops Q Hs late (fuel+1) listed L H:=Jm i hi dr nI hr hn hs h
theorem eU {op:Op}(i:Nat){j t:Nat}{b:Bool}(hi:ops[i]?=some ⟨some d,op,ty,pos,af,some (j,b)⟩)(h:E P κ ops Q Hs late fuel (listed.setIfInBounds i true) ((d,undef)::L) H)(dr:Region.noSelect ops=true:=by kernel_rfl)(nI:Region.free .any ops listed i=true:=by kernel_rfl)(hr:(Region.ready .any ops listed).contains i=true:=by kernel_rfl)(hj:(ops[j]?).bind (·.dst)=some t:=by exact rfl)(ht:look L t=some undef:=by exact rfl)(hn:Nat.blt d κ.n=true:=by exact rfl):E P κ ops Q Hs late (fuel+1) listed L H:=No i hi dr nI hr hj ht hn h
theorem oU {j:Nat}{b:Bool}{t:Nat}(h:O P κ ops Q rest ((d,undef)::L) H)(hj:(ops[j]?).bind (·.dst)=some t:=by exact rfl)(ht:look L t=some undef:=by exact rfl)(hn:Nat.blt d κ.n=true:=by exact rfl):O P κ ops Q (⟨some d,op,ty,pos,af,some (j,b)⟩::rest) L H:=XA hj ht hn h
end
theorem xI {κ:Cx}{L:Loc}{H:Hp}{Q:gR}{ι:Type}{I:ι→Prop}{Lf:ι→Loc}{Hf:ι→Hp}{m:ι→Nat}{i:ι}(j:ι)(hI:I j)(hm:m j<m i:=by first|omega|(dsimp only;omega))(hL:Sub L (Lf j):=by exact aH)(hH:HSub H (Hf j):=by exact aP):X κ (Exit.then (Inv κ I Lf Hf m i) Q .normal) L H:=av (cd j hI hm hL hH)
theorem gE {α:Type}{l:List α}{i:Nat}(h:i<l.length:=by omega):∃ x,l[i]?=some x:=⟨_,List.getElem?_eq_getElem h⟩
section
variable {P:Program}{L:Loc}{H:Hp}
theorem xR {fn:Func}{w0:World}{M:List Nat}{post:Value→Hp→Prop}{n t:Nat}{v:Value}(hr:fn.results = [ResultVar.tmp t].toArray)(h:look L t=some v)(hp:post v H):X ⟨n,[],w0,M⟩ (bodyPost P fn (nN w0 M post) .ret) L H:=cr hr (.tmp h .nil) hp
end
end Go.HL
namespace Go.Af
open Go Go.HL
structure pJ {α:Type}(f:Nat→α)(n j:Nat)(l:List α):Prop where
 len:l.length=n
 get:∀ i,i<j→l[i]?=some (f i)
theorem pJ.zero {α:Type}{f:Nat→α}{l:List α}{n:Nat}(h:l.length=n):pJ f n 0 l:=⟨h,fun _ h=>by omega⟩
theorem pJ.step {α:Type}{f:Nat→α}{n j:Nat}{l:List α}(h:pJ f n j l)(hj:j<n){y:α}(hy:y=f j):pJ f n (j+1) (l.set j y):=by
 refine⟨by simp[h.len],fun i hi=>?_⟩
 subst hy
 by_cases e:j=i
 · subst e;rw[List.getElem?_set_self (by rw[h.len];exact hj)]
 · rw[List.getElem?_set_ne e];exact h.get i (by omega)
theorem pJ.done {α:Type}{f:Nat→α}{n j:Nat}{l:List α}(h:pJ f n j l)(hj:n≤j):l=(List.range n).map f:=by
 apply List.ext_getElem?
 intro i
 by_cases hi:i<n
 · rw[h.get i (by omega),List.getElem?_map,List.getElem?_range hi];rfl
 · rw[List.getElem?_eq_none (by rw[h.len];omega),List.getElem?_eq_none (by simp;omega)]
def idT:List UInt8:=(List.range 256).map UInt8.ofNat
def RN (t:List UInt8)(i:Nat):UInt8:=t.getD i 0
def WQ (t u:List UInt8):List UInt8:=(List.range 256).map fun i=>RN u (RN t i).toNat
def RO (t b:List UInt8):List UInt8:=(List.range b.length).map fun i=>RN t (RN b i).toNat
def newAt (f t:List UInt8):Nat→Option (List UInt8)
 | 0=>some idT
 | j+1=>if RN f j∈f.take j then none else (newAt f t j).map (·.set (RN f j).toNat (RN t j))
def alH (f t:List UInt8):Option (List UInt8):=if f.length=t.length then newAt f t f.length else none
def zT:List UInt8:=List.replicate 256 0
def CE (r:Option (List UInt8)):Value:=.tuple #[.agg (flat Eb (r.getD zT)).toArray,.int .i64 (if r.isSome then 0 else 60)]
def xyT:List UInt8:=(idT.set 97 120).set 98 121
attribute [irreducible] idT WQ RO xyT
end Go.Af
namespace Go.HL
open Go
section
variable {α:Type}{E:α→List Value}{k:Nat}{T:TypeId}
inductive cG (E:α→List Value)(k:Nat)(T:TypeId):List (Sl α)→List (List α)→Hp→Prop
 | nil:cG E k T [] [] []
 | cons {s:Sl α}{xs:List α}{sls:List (Sl α)}{dO:List (List α)}{S R:Hp}(h:aG E k T s.v xs S)(hs:cG E k T sls dO R):cG E k T (s::sls) (xs::dO) (S++R)
theorem cG.at {sls:List (Sl α)}{dO:List (List α)}{S:Hp}(h:cG E k T sls dO S):∀ {n:Nat}{s:Sl α},sls[n]?=some s →
   ∃ xs S1 Sn S2,dO[n]?=some xs∧S=S1++(Sn++S2)∧aG E k T s.v xs Sn∧∀ Ma Iv,aG E k T s.v Ma Iv→cG E k T sls (dO.set n Ma) (S1++(Iv++S2)):=by
 induction h with
 | nil=>intro n s hs;simp at hs
 | @cons s xs sls dO S R h hs ih=>
   intro n s' hn
   cases n with
   | zero=>
     simp at hn;subst hn
     exact⟨xs,[],S,R,rfl,rfl,h,fun Ma Iv h'=>by simpa using cG.cons h' hs⟩
   | succ n=>
     obtain⟨Ma,S1,Sn,S2,h1,rfl,h3,h4⟩:=ih (by simpa using hn)
     exact⟨Ma,S++S1,Sn,S2,by simpa using h1,by simp,h3,fun y Sy hy=>by simpa using cG.cons h (h4 y Sy hy)⟩
theorem cG.snoc {sls:List (Sl α)}{dO:List (List α)}{S S':Hp}{s:Sl α}{xs:List α}(h:cG E k T sls dO S)(h':aG E k T s.v xs S'):cG E k T (sls++[s]) (dO++[xs]) (S++S'):=by
 induction h with
 | nil=>simpa using cG.cons h' .nil
 | cons h hs ih=>simpa using cG.cons h ih
theorem cG.len {sls:List (Sl α)}{dO:List (List α)}{S:Hp}(h:cG E k T sls dO S):dO.length=sls.length:=by
 induction h with
 | nil=>rfl
 | cons h hs ih=>simp[ih]
def j9 (f:Nat→Nat→α)(n m:Nat):List α:=(List.range m).map (f n)
theorem db {f:Nat→Nat→α}{n m:Nat}:(j9 f n m).length=m:=by simp[j9]
theorem cA {f:Nat→Nat→α}{n m i:Nat}(h:i<m):(j9 f n m)[i]?=some (f n i):=by simp[j9,List.getElem?_range h]
theorem fm {f:Nat→Nat→α}{n m:Nat}:j9 f n m++[f n m]=j9 f n (m+1):=by simp[j9,List.range_succ]
theorem pR {f:Nat→Nat→α}{n m i:Nat}{l:List α}(h:Af.pJ (f n) m i l)(hi:m≤i):l=j9 f n m:=h.done hi
inductive ov (E:α→List Value)(k:Nat)(T:TypeId)(f:Nat→Nat→α):Nat→List (Sl α)→Hp→Prop
 | nil {n:Nat}:ov E k T f n [] []
 | cons {n:Nat}{s:Sl α}{sls:List (Sl α)}{S R:Hp}(h:aG E k T s.v (j9 f n s.xs.length) S)(hs:ov E k T f (n+1) sls R):ov E k T f n (s::sls) (S++R)
theorem cG.all {f:Nat→Nat→α}{sls:List (Sl α)}{dO:List (List α)}{S:Hp}(h:cG E k T sls dO S):∀ {n:Nat},(∀ j s,sls[j]?=some s→dO[j]?=some (j9 f (n+j) s.xs.length))→ov E k T f n sls S:=by
 induction h with
 | nil=>intro n _;exact .nil
 | @cons s xs sls dO S R h hs ih=>
   intro n hj
   have h0:=hj 0 s rfl
   simp at h0
   subst h0;refine .cons h (ih fun j s' mT=>?_)
   have:=hj (j+1) s' (by simpa using mT)
   rw[show n+1+j=n+(j+1) by omega]
   simpa using this
theorem ov.head {f:Nat→Nat→α}{sls:List (Sl α)}{S:Hp}{n:Nat}{s:Sl α}(h:ov E k T f n (sls.drop n) S)(hs:sls[n]?=some s):∃ S1 S2,S=S1++S2∧aG E k T s.v (j9 f n s.xs.length) S1∧ov E k T f (n+1) (sls.drop (n+1)) S2:=by
 have hn:n<sls.length:=by
   rcases Nat.lt_or_ge n sls.length with h'|h'
   · exact h'
   · rw[List.getElem?_eq_none h'] at hs;cases hs
 have e:sls.drop n=s::sls.drop (n+1):=by
   rw[List.drop_eq_getElem_cons hn]
   rw[List.getElem?_eq_getElem hn] at hs
   simp at hs;rw[hs]
 rw[e] at h
 cases h with
 | cons h1 h2=>exact⟨_,_,rfl,h1,h2⟩
structure yV (E:α→List Value)(f:Nat→Nat→α)(sls kC gX:List (Sl α))(G:Hp)(n:Nat):Prop where
 out:∀ j,j<n→∃ s o m,sls[j]?=some s∧kC[j]?=some o∧gX[j]?=some m∧o.xs=j9 f j (s.xs.length+1)∧m.xs=j9 f j (s.xs.length+70)∧eA s.v s.xs.length∧eA o.v o.xs.length∧eA m.v m.xs.length∧lG E s.v (j9 f j s.xs.length) G∧lG E o.v o.xs G∧lG E m.v m.xs G
theorem yV.zero {f:Nat→Nat→α}{sls kC gX:List (Sl α)}{G:Hp}:yV E f sls kC gX G 0:=⟨fun _ h=>by omega⟩
theorem yV.step {f:Nat→Nat→α}{sls kC gX:List (Sl α)}{G G':Hp}{n:Nat}{s o m:Sl α}(h:yV E f sls kC gX G n)(h1:kC.length=n)(h2:gX.length=n)(hs:sls[n]?=some s)
   (ho:o.xs=j9 f n (s.xs.length+1))(hm:m.xs=j9 f n (s.xs.length+70))(i1:eA s.v s.xs.length)(i2:eA o.v o.xs.length)(i3:eA m.v m.xs.length)(r1:lG E s.v (j9 f n s.xs.length) G')(r2:lG E o.v o.xs G')(r3:lG E m.v m.xs G'):yV E f sls (kC++[o]) (gX++[m]) (G'++G) (n+1):=by
 refine⟨fun j hj=>?_⟩
 by_cases e:j=n
 · subst e
   exact⟨s,o,m,hs,by rw[List.getElem?_append_right (by omega)];simp[h1],by rw[List.getElem?_append_right (by omega)];simp[h2],ho,hm,i1,i2,i3,r1.mono c4.ga,r2.mono c4.ga,r3.mono c4.ga⟩
 · obtain⟨s',o',m',a1,a2,a3,a4,a5,b1,b2,b3,a6,a7,a8⟩:=h.out j (by omega)
   exact⟨s',o',m',a1,by rw[List.getElem?_append_left (by omega)];exact a2,by rw[List.getElem?_append_left (by omega)];exact a3,a4,a5,b1,b2,b3,a6.mono c4.mG,a7.mono c4.mG,a8.mono c4.mG⟩
theorem tp {f:Nat→Nat→α}{sls:List (Sl α)}{dO:List (List α)}{n:Nat}{s:Sl α}{l xs:List α}(hA:∀ j s,j<n→sls[j]?=some s→dO[j]?=some (j9 f j s.xs.length))(hs:sls[n]?=some s)(hl:l=j9 f n s.xs.length)(hx:dO[n]?=some xs) :
   ∀ j s',j<n+1→sls[j]?=some s'→(dO.set n l)[j]?=some (j9 f j s'.xs.length):=by
 intro j s' hj mT
 by_cases e:n=j
 · subst e
   rw[hs] at mT;cases mT
   rw[List.getElem?_set_self (List.getElem?_eq_some_iff.1 hx).1,hl]
 · rw[List.getElem?_set_ne e];exact hA j s' (by omega) mT
theorem gq.more {v0 v:Value}{Ho xs:List α}{S G G':Hp}(h:gq E k T v0 Ho v xs S G)(hG:c4 G G'):gq E k T v0 Ho v xs S G':=⟨h.own,h.old.imp (fun r=>r.mono hG) fun r=>r⟩
theorem kx {sls:List (Sl α)}{n:Nat}(h:n<sls.length):∃ s,sls[n]?=some s:=⟨_,List.getElem?_eq_getElem h⟩
theorem aG.uF [eB E k]{s:Sl α}{xs:List α}{S:Hp}(h:aG E k T s.v xs S):xs.length=s.xs.length:=by
 obtain⟨a',c',e',_⟩:=h.sl.out
 simp[Sl.v] at e';exact e'.2.1.symm
end
end Go.HL
namespace Go.Proofs.YtmompllplidphaaGreatDoor
open Go.HL Go.Proofs
instance:E7 Tryz.prog:=⟨by kernel_rfl⟩
instance g3:TG Tryz.prog 3 true:=⟨by kernel_rfl⟩
instance u3:TU Tryz.prog 3 ((Go.TypeDesc.int Go.IntKind.i64)):=⟨Tryz.underlying3⟩
instance g4:TG Tryz.prog 4 true:=⟨by kernel_rfl⟩
instance u4:TU Tryz.prog 4 (Go.TypeDesc.bool):=⟨Tryz.underlying4⟩
instance g5:TG Tryz.prog 5 true:=⟨by kernel_rfl⟩
instance u5:TU Tryz.prog 5 ((Go.TypeDesc.int Go.IntKind.u8)):=⟨Tryz.underlying5⟩
instance u9:TU Tryz.prog 9 (Go.TypeDesc.string):=⟨Tryz.underlying9⟩
instance g22:TG Tryz.prog 22 true:=⟨by kernel_rfl⟩
instance u22:TU Tryz.prog 22 ((Go.TypeDesc.slice 42)):=⟨Tryz.underlying22⟩
instance g26:TG Tryz.prog 26 true:=⟨by kernel_rfl⟩
instance u26:TU Tryz.prog 26 ((Go.TypeDesc.slice 39)):=⟨Tryz.underlying26⟩
instance g27:TG Tryz.prog 27 true:=⟨by kernel_rfl⟩
instance u27:TU Tryz.prog 27 ((Go.TypeDesc.slice 36)):=⟨Tryz.underlying27⟩
instance g28:TG Tryz.prog 28 true:=⟨by kernel_rfl⟩
instance u28:TU Tryz.prog 28 ((Go.TypeDesc.slice 4)):=⟨Tryz.underlying28⟩
instance g30:TG Tryz.prog 30 false:=⟨by kernel_rfl⟩
instance b30:TB Tryz.prog 30 [(0,1),(1,1),(2,1)]:=⟨by kernel_rfl⟩
instance s30:TS Tryz.prog 30 [(26,0),(27,1),(28,2)]:=kX (by kernel_rfl)
instance g36:TG Tryz.prog 36 true:=⟨by kernel_rfl⟩
instance u36:TU Tryz.prog 36 ((Go.TypeDesc.slice 3)):=⟨Tryz.underlying36⟩
instance g37:TG Tryz.prog 37 true:=⟨by kernel_rfl⟩
instance u37:TU Tryz.prog 37 ((Go.TypeDesc.int Go.IntKind.u64)):=⟨Tryz.underlying37⟩
instance g39:TG Tryz.prog 39 false:=⟨by kernel_rfl⟩
instance e39:EG Tryz.prog 39:=⟨by kernel_rfl⟩
instance u39:TU Tryz.prog 39 ((Go.TypeDesc.array 4 37)):=⟨Tryz.underlying39⟩
instance g40:TG Tryz.prog 40 true:=⟨by kernel_rfl⟩
instance u40:TU Tryz.prog 40 ((Go.TypeDesc.int Go.IntKind.i8)):=⟨Tryz.underlying40⟩
instance g42:TG Tryz.prog 42 false:=⟨by kernel_rfl⟩
instance e42:EG Tryz.prog 42:=⟨by kernel_rfl⟩
instance b42:TB Tryz.prog 42 [(0,1),(1,4),(5,1),(6,1),(7,1),(8,1)]:=⟨by kernel_rfl⟩
instance amu:TQ Tryz.prog 42 [(40,0),(39,1),(3,5),(3,6),(3,7),(3,8)]:=⟨by kernel_rfl⟩
instance s42:TS Tryz.prog 42 [(40,0),(39,1),(3,5),(3,6),(3,7),(3,8)]:=kX (by kernel_rfl)
instance g44:TG Tryz.prog 44 true:=⟨by kernel_rfl⟩
instance u44:TU Tryz.prog 44 ((Go.TypeDesc.slice 68)):=⟨Tryz.underlying44⟩
instance g45:TG Tryz.prog 45 true:=⟨by kernel_rfl⟩
instance u45:TU Tryz.prog 45 ((Go.TypeDesc.slice 28)):=⟨Tryz.underlying45⟩
instance g46:TG Tryz.prog 46 true:=⟨by kernel_rfl⟩
instance u46:TU Tryz.prog 46 ((Go.TypeDesc.slice 168)):=⟨Tryz.underlying46⟩
instance g47:TG Tryz.prog 47 true:=⟨by kernel_rfl⟩
instance u47:TU Tryz.prog 47 ((Go.TypeDesc.slice 170)):=⟨Tryz.underlying47⟩
instance g48:TG Tryz.prog 48 true:=⟨by kernel_rfl⟩
instance u48:TU Tryz.prog 48 ((Go.TypeDesc.slice 173)):=⟨Tryz.underlying48⟩
instance g49:TG Tryz.prog 49 true:=⟨by kernel_rfl⟩
instance u49:TU Tryz.prog 49 ((Go.TypeDesc.slice 176)):=⟨Tryz.underlying49⟩
instance g50:TG Tryz.prog 50 true:=⟨by kernel_rfl⟩
instance u50:TU Tryz.prog 50 ((Go.TypeDesc.slice 26)):=⟨Tryz.underlying50⟩
instance g51:TG Tryz.prog 51 true:=⟨by kernel_rfl⟩
instance u51:TU Tryz.prog 51 ((Go.TypeDesc.slice 22)):=⟨Tryz.underlying51⟩
instance g52:TG Tryz.prog 52 true:=⟨by kernel_rfl⟩
instance u52:TU Tryz.prog 52 ((Go.TypeDesc.slice 179)):=⟨Tryz.underlying52⟩
instance g53:TG Tryz.prog 53 true:=⟨by kernel_rfl⟩
instance u53:TU Tryz.prog 53 ((Go.TypeDesc.slice 182)):=⟨Tryz.underlying53⟩
instance g54:TG Tryz.prog 54 true:=⟨by kernel_rfl⟩
instance u54:TU Tryz.prog 54 ((Go.TypeDesc.slice 185)):=⟨Tryz.underlying54⟩
instance g55:TG Tryz.prog 55 true:=⟨by kernel_rfl⟩
instance u55:TU Tryz.prog 55 ((Go.TypeDesc.slice 188)):=⟨Tryz.underlying55⟩
instance g56:TG Tryz.prog 56 true:=⟨by kernel_rfl⟩
instance u56:TU Tryz.prog 56 ((Go.TypeDesc.slice 44)):=⟨Tryz.underlying56⟩
instance g57:TG Tryz.prog 57 true:=⟨by kernel_rfl⟩
instance u57:TU Tryz.prog 57 ((Go.TypeDesc.slice 27)):=⟨Tryz.underlying57⟩
instance g58:TG Tryz.prog 58 true:=⟨by kernel_rfl⟩
instance u58:TU Tryz.prog 58 ((Go.TypeDesc.slice 48)):=⟨Tryz.underlying58⟩
instance g59:TG Tryz.prog 59 true:=⟨by kernel_rfl⟩
instance u59:TU Tryz.prog 59 ((Go.TypeDesc.slice 192)):=⟨Tryz.underlying59⟩
instance g60:TG Tryz.prog 60 true:=⟨by kernel_rfl⟩
instance u60:TU Tryz.prog 60 ((Go.TypeDesc.slice 195)):=⟨Tryz.underlying60⟩
instance g61:TG Tryz.prog 61 true:=⟨by kernel_rfl⟩
instance u61:TU Tryz.prog 61 ((Go.TypeDesc.slice 198)):=⟨Tryz.underlying61⟩
instance b63:TB Tryz.prog 63 [(0,1),(1,1),(2,1),(3,1),(4,1),(5,1),(6,1),(7,1),(8,1),(9,1),(10,1),(11,1),(12,1),(13,1),(14,1),(15,1),(16,1),(17,1),(18,1)]:=⟨by kernel_rfl⟩
instance s63:TS Tryz.prog 63 [(44,0),(27,1),(45,2),(46,3),(47,4),(48,5),(49,6),(50,7),(51,8),(52,9),(53,10),(54,11),(55,12),(56,13),(57,14),(58,15),(59,16),(60,17),(61,18)]:=kX (by kernel_rfl)
instance u68:TU Tryz.prog 68 ((Go.TypeDesc.slice 5)):=⟨Tryz.underlying68⟩
instance g79:TG Tryz.prog 79 false:=⟨by kernel_rfl⟩
instance s79:TS Tryz.prog 79 [(27,0),(28,1)]:=kX (by kernel_rfl)
instance g84:TG Tryz.prog 84 true:=⟨by kernel_rfl⟩
instance u84:TU Tryz.prog 84 ((Go.TypeDesc.slice 90)):=⟨Tryz.underlying84⟩
instance SM:TB Tryz.prog 86 [(0,1),(1,1),(2,1)]:=⟨by kernel_rfl⟩
instance s86:TS Tryz.prog 86 [(22,0),(26,1),(84,2)]:=kX (by kernel_rfl)
instance u87:TU Tryz.prog 87 ((Go.TypeDesc.array 2 4)):=⟨Tryz.underlying87⟩
instance u88:TU Tryz.prog 88 ((Go.TypeDesc.array 2 87)):=⟨Tryz.underlying88⟩
instance g90:TG Tryz.prog 90 false:=⟨by kernel_rfl⟩
instance u90:TU Tryz.prog 90 ((Go.TypeDesc.array 3 5)):=⟨Tryz.underlying90⟩
instance u91:TU Tryz.prog 91 ((Go.TypeDesc.array 2 90)):=⟨Tryz.underlying91⟩
instance g93:TG Tryz.prog 93 false:=⟨by kernel_rfl⟩
instance b93:TB Tryz.prog 93 [(0,4),(4,6),(10,6)]:=⟨by kernel_rfl⟩
instance s93:TS Tryz.prog 93 [(88,0),(91,4),(91,10)]:=kX (by kernel_rfl)
instance g96:TG Tryz.prog 96 false:=⟨by kernel_rfl⟩
instance s96:TS Tryz.prog 96 [(27,0),(28,1)]:=kX (by kernel_rfl)
instance amv:TU Tryz.prog 100 ((Go.TypeDesc.map 3 3)):=⟨Tryz.underlying100⟩
instance amw:TG Tryz.prog 116 false:=⟨by kernel_rfl⟩
instance amx:TU Tryz.prog 116 ((Go.TypeDesc.array 256 3)):=⟨Tryz.underlying116⟩
instance amy:TG Tryz.prog 118 false:=⟨by kernel_rfl⟩
instance amz:TU Tryz.prog 118 ((Go.TypeDesc.array 2 3)):=⟨Tryz.underlying118⟩
instance amA:TG Tryz.prog 120 false:=⟨by kernel_rfl⟩
instance amB:TB Tryz.prog 120 [(0,2),(2,1),(3,1)]:=⟨by kernel_rfl⟩
instance amC:TS Tryz.prog 120 [(118,0),(3,2),(5,3)]:=kX (by kernel_rfl)
instance amD:TU Tryz.prog 121 ((Go.TypeDesc.slice 120)):=⟨Tryz.underlying121⟩
instance amE:TG Tryz.prog 122 true:=⟨by kernel_rfl⟩
instance amF:TU Tryz.prog 122 ((Go.TypeDesc.map 118 3)):=⟨Tryz.underlying122⟩
instance adO:TB Tryz.prog 129 [(0,1),(1,1),(2,1)]:=⟨by kernel_rfl⟩
instance amG:TS Tryz.prog 129 [(22,0),(3,1),(28,2)]:=kX (by kernel_rfl)
instance amH:TU Tryz.prog 135 ((Go.TypeDesc.slice 142)):=⟨Tryz.underlying135⟩
instance amI:TG Tryz.prog 137 false:=⟨by kernel_rfl⟩
instance amJ:EG Tryz.prog 137:=⟨by kernel_rfl⟩
instance amK:TB Tryz.prog 137 [(0,1),(1,1)]:=⟨by kernel_rfl⟩
instance aiF:TQ Tryz.prog 137 [(3,0),(3,1)]:=⟨by kernel_rfl⟩
instance amL:TS Tryz.prog 137 [(3,0),(3,1)]:=kX (by kernel_rfl)
instance amM:TG Tryz.prog 138 true:=⟨by kernel_rfl⟩
instance amN:TU Tryz.prog 138 ((Go.TypeDesc.slice 137)):=⟨Tryz.underlying138⟩
instance amO:TG Tryz.prog 140 false:=⟨by kernel_rfl⟩
instance amP:TB Tryz.prog 140 [(0,1)]:=⟨by kernel_rfl⟩
instance amQ:TS Tryz.prog 140 [(138,0)]:=kX (by kernel_rfl)
instance amR:TG Tryz.prog 142 true:=⟨by kernel_rfl⟩
instance amS:TU Tryz.prog 142 ((Go.TypeDesc.slice 140)):=⟨Tryz.underlying142⟩
instance amT:TB Tryz.prog 149 [(0,1),(1,1),(2,1)]:=⟨by kernel_rfl⟩
instance amU:TS Tryz.prog 149 [(22,0),(3,1),(28,2)]:=kX (by kernel_rfl)
instance amV:TG Tryz.prog 159 true:=⟨by kernel_rfl⟩
instance amW:TU Tryz.prog 159 ((Go.TypeDesc.map 90 3)):=⟨Tryz.underlying159⟩
instance amX:TG Tryz.prog 160 true:=⟨by kernel_rfl⟩
instance amY:TU Tryz.prog 167 ((Go.TypeDesc.int Go.IntKind.u64)):=⟨Tryz.underlying167⟩
instance amZ:TG Tryz.prog 212 false:=⟨by kernel_rfl⟩
instance am0:TB Tryz.prog 212 [(0,1),(1,1),(2,1)]:=⟨by kernel_rfl⟩
instance am1:TS Tryz.prog 212 [(22,0),(4,1),(4,2)]:=kX (by kernel_rfl)
instance am2:TU Tryz.prog 226 ((Go.TypeDesc.array 64 5)):=⟨Tryz.underlying226⟩
instance i3:TI Tryz.prog 3 1 8:=cL (by kernel_rfl)
instance i4:TI Tryz.prog 4 1 1:=cL (by kernel_rfl)
instance i5:TI Tryz.prog 5 1 1:=cL (by kernel_rfl)
instance i22:TI Tryz.prog 22 1 24:=cL (by kernel_rfl)
instance i26:TI Tryz.prog 26 1 24:=cL (by kernel_rfl)
instance i27:TI Tryz.prog 27 1 24:=cL (by kernel_rfl)
instance i28:TI Tryz.prog 28 1 24:=cL (by kernel_rfl)
instance i30:TI Tryz.prog 30 3 72:=cL (by kernel_rfl)
instance i36:TI Tryz.prog 36 1 24:=cL (by kernel_rfl)
instance i37:TI Tryz.prog 37 1 8:=cL (by kernel_rfl)
instance i39:TI Tryz.prog 39 4 32:=cL (by kernel_rfl)
instance i40:TI Tryz.prog 40 1 1:=cL (by kernel_rfl)
instance i42:TI Tryz.prog 42 9 72:=cL (by kernel_rfl)
instance i44:TI Tryz.prog 44 1 24:=cL (by kernel_rfl)
instance i45:TI Tryz.prog 45 1 24:=cL (by kernel_rfl)
instance i46:TI Tryz.prog 46 1 24:=cL (by kernel_rfl)
instance i47:TI Tryz.prog 47 1 24:=cL (by kernel_rfl)
instance i48:TI Tryz.prog 48 1 24:=cL (by kernel_rfl)
instance i49:TI Tryz.prog 49 1 24:=cL (by kernel_rfl)
instance i50:TI Tryz.prog 50 1 24:=cL (by kernel_rfl)
instance i51:TI Tryz.prog 51 1 24:=cL (by kernel_rfl)
instance i52:TI Tryz.prog 52 1 24:=cL (by kernel_rfl)
instance i53:TI Tryz.prog 53 1 24:=cL (by kernel_rfl)
instance i54:TI Tryz.prog 54 1 24:=cL (by kernel_rfl)
instance i55:TI Tryz.prog 55 1 24:=cL (by kernel_rfl)
instance i56:TI Tryz.prog 56 1 24:=cL (by kernel_rfl)
instance i57:TI Tryz.prog 57 1 24:=cL (by kernel_rfl)
instance i58:TI Tryz.prog 58 1 24:=cL (by kernel_rfl)
instance i59:TI Tryz.prog 59 1 24:=cL (by kernel_rfl)
instance i60:TI Tryz.prog 60 1 24:=cL (by kernel_rfl)
instance i61:TI Tryz.prog 61 1 24:=cL (by kernel_rfl)
instance i79:TI Tryz.prog 79 2 48:=cL (by kernel_rfl)
instance i84:TI Tryz.prog 84 1 24:=cL (by kernel_rfl)
instance i87:TI Tryz.prog 87 2 2:=cL (by kernel_rfl)
instance i88:TI Tryz.prog 88 4 4:=cL (by kernel_rfl)
instance i90:TI Tryz.prog 90 3 3:=cL (by kernel_rfl)
instance i91:TI Tryz.prog 91 6 6:=cL (by kernel_rfl)
instance i93:TI Tryz.prog 93 16 16:=cL (by kernel_rfl)
instance i96:TI Tryz.prog 96 2 48:=cL (by kernel_rfl)
instance i116:TI Tryz.prog 116 256 2048:=cL (by kernel_rfl)
instance i118:TI Tryz.prog 118 2 16:=cL (by kernel_rfl)
instance i120:TI Tryz.prog 120 4 32:=cL (by kernel_rfl)
instance i122:TI Tryz.prog 122 1 8:=cL (by kernel_rfl)
instance i137:TI Tryz.prog 137 2 16:=cL (by kernel_rfl)
instance i138:TI Tryz.prog 138 1 24:=cL (by kernel_rfl)
instance i140:TI Tryz.prog 140 1 24:=cL (by kernel_rfl)
instance i142:TI Tryz.prog 142 1 24:=cL (by kernel_rfl)
instance i159:TI Tryz.prog 159 1 8:=cL (by kernel_rfl)
instance i160:TI Tryz.prog 160 1 8:=cL (by kernel_rfl)
instance i212:TI Tryz.prog 212 3 32:=cL (by kernel_rfl)
instance z3:TZ Tryz.prog 3 (.int .i64 0):=dU (by kernel_rfl)
instance z4:TZ Tryz.prog 4 (.bool false):=dU (by kernel_rfl)
instance z5:TZ Tryz.prog 5 (.int .u8 0):=dU (by kernel_rfl)
instance z22:TZ Tryz.prog 22 (.slice none 0 0):=dU (by kernel_rfl)
instance z26:TZ Tryz.prog 26 (.slice none 0 0):=dU (by kernel_rfl)
instance z27:TZ Tryz.prog 27 (.slice none 0 0):=dU (by kernel_rfl)
instance z28:TZ Tryz.prog 28 (.slice none 0 0):=dU (by kernel_rfl)
instance z30:TZ Tryz.prog 30 (.agg [.slice none 0 0,.slice none 0 0,.slice none 0 0].toArray):=dU (by kernel_rfl)
instance z36:TZ Tryz.prog 36 (.slice none 0 0):=dU (by kernel_rfl)
instance z39:TZ Tryz.prog 39 (.agg [.int .u64 0,.int .u64 0,.int .u64 0,.int .u64 0].toArray):=dU (by kernel_rfl)
instance z42:TZ Tryz.prog 42 (.agg [.int .i8 0,.int .u64 0,.int .u64 0,.int .u64 0,.int .u64 0,.int .i64 0,.int .i64 0,.int .i64 0,.int .i64 0].toArray):=dU (by kernel_rfl)
instance z63:TZ Tryz.prog 63 (.agg (List.replicate 19 (.slice none 0 0)).toArray):=dU (by kernel_rfl)
instance z79:TZ Tryz.prog 79 (.agg [.slice none 0 0,.slice none 0 0].toArray):=dU (by kernel_rfl)
instance z84:TZ Tryz.prog 84 (.slice none 0 0):=dU (by kernel_rfl)
instance z86:TZ Tryz.prog 86 (.agg [.slice none 0 0,.slice none 0 0,.slice none 0 0].toArray):=dU (by kernel_rfl)
instance z87:TZ Tryz.prog 87 (.agg [.bool false,.bool false].toArray):=dU (by kernel_rfl)
instance z88:TZ Tryz.prog 88 (.agg [.bool false,.bool false,.bool false,.bool false].toArray):=dU (by kernel_rfl)
instance z90:TZ Tryz.prog 90 (.agg [.int .u8 0,.int .u8 0,.int .u8 0].toArray):=dU (by kernel_rfl)
instance z91:TZ Tryz.prog 91 (.agg [.int .u8 0,.int .u8 0,.int .u8 0,.int .u8 0,.int .u8 0,.int .u8 0].toArray):=dU (by kernel_rfl)
instance z93:TZ Tryz.prog 93 (.agg [.bool false,.bool false,.bool false,.bool false,.int .u8 0,.int .u8 0,.int .u8 0,.int .u8 0,.int .u8 0,.int .u8 0,.int .u8 0,.int .u8 0,.int .u8 0,.int .u8 0,.int .u8 0,.int .u8 0].toArray):=dU (by kernel_rfl)
instance z96:TZ Tryz.prog 96 (.agg [.slice none 0 0,.slice none 0 0].toArray):=dU (by kernel_rfl)
instance am3:TZ Tryz.prog 116 (.agg (List.replicate 256 (.int .i64 0)).toArray):=dU (by kernel_rfl)
instance am4:TZ Tryz.prog 118 (.agg [.int .i64 0,.int .i64 0].toArray):=dU (by kernel_rfl)
instance am5:TZ Tryz.prog 120 (.agg [.int .i64 0,.int .i64 0,.int .i64 0,.int .u8 0].toArray):=dU (by kernel_rfl)
instance am6:TZ Tryz.prog 122 (.map none):=dU (by kernel_rfl)
instance am7:TZ Tryz.prog 129 (.agg [.slice none 0 0,.int .i64 0,.slice none 0 0].toArray):=dU (by kernel_rfl)
instance am8:TZ Tryz.prog 137 (.agg [.int .i64 0,.int .i64 0].toArray):=dU (by kernel_rfl)
instance am9:TZ Tryz.prog 140 (.agg [.slice none 0 0].toArray):=dU (by kernel_rfl)
instance ana:TZ Tryz.prog 142 (.slice none 0 0):=dU (by kernel_rfl)
instance anb:TZ Tryz.prog 149 (.agg [.slice none 0 0,.int .i64 0,.slice none 0 0].toArray):=dU (by kernel_rfl)
instance anc:TZ Tryz.prog 159 (.map none):=dU (by kernel_rfl)
instance ane:TZ Tryz.prog 160 (.nilFunc):=dU (by kernel_rfl)
instance anf:TZ Tryz.prog 212 (.agg [.slice none 0 0,.bool false,.bool false].toArray):=dU (by kernel_rfl)
end Go.Proofs.YtmompllplidphaaGreatDoor
