/- Back-references: runs that may run dry, turned round. Conditions: none. -/
import Derived.Test.YtloepfcndglmmaaDoorBF8Z
import Derived.Test.YtloepfcndglmmaaDoorHTZ
import Derived.Test.YtloepfcndglmmaaDoorBS7Z
import Derived.Test.YtloepfcndglmmaaDoorUB3Z
import Derived.Test.YtloepfcndglmmaaDoorHlB
import Derived.Test.YtloepfcndglmmaaDoorHM2Z
import Derived.Recover
import Derived.Scope
namespace Go.HL.Kl.Mc
open Go Go.HL Go.HL.Kl AskE
/-! the runs, turned round -/
section
variable {K : SrE} {S S' : SS} {b d d2 : Bool}
theorem EvD.iNext0 {at_ : Nat} (h : EvD K S d (.next 0 at_) b S' d2) : b = true ∧ S' = S ∧ d2 = d := by cases h; exact ⟨rfl, rfl, rfl⟩
theorem EvD.iNext {k at_ : Nat} (h : EvD K S d (.next (k + 1) at_) b S' d2) : ((⟨k + 1, at_, (K.code S).1⟩ : Pt) ∈ S.F ∧ b = false ∧ S' = (K.code S).2 ∧ d2 = d) ∨ ((⟨k + 1, at_, (K.code S).1⟩ : Pt) ∉ S.F ∧ ∃ f S2, S.fs[k]? = some f ∧ EvD K { (K.code S).2 with wk := S.wk + 1 } d (.body f at_) b S2 d2 ∧ S' = if d2 = true then S2 else S2.fail b ⟨k + 1, at_, (K.code S).1⟩) := by
  cases h with
  | nextMemo h => exact .inl ⟨h, rfl, rfl, rfl⟩
  | nextGo hn hf h => exact .inr ⟨hn, _, _, hf, h, rfl⟩
theorem EvD.iBody4 {f : Frm} {at_ : Nat} {x : Nd} (hx : K.re[f.node]? = some x) (ho : x.op = 4) (h : EvD K S d (.body f at_) b S' d2) : EvD K S d (.row f at_) b S' d2 := by
  cases h with
  | bodyCat _ _ h => exact h
  | bodyRep hx' ho' _ => rw [hx] at hx'; cases hx'; omega
  | bodyGrpY hx' h4 _ _ => rw [hx] at hx'; cases hx'; exact absurd ho h4
  | bodyGrpN hx' h4 _ _ => rw [hx] at hx'; cases hx'; exact absurd ho h4
theorem EvD.iBody6 {f : Frm} {at_ : Nat} {x : Nd} (hx : K.re[f.node]? = some x) (ho : x.op = 6) (h : EvD K S d (.body f at_) b S' d2) : EvD K S d (.rnd f at_) b S' d2 := by
  cases h with
  | bodyRep _ _ h => exact h
  | bodyCat hx' ho' _ => rw [hx] at hx'; cases hx'; omega
  | bodyGrpY hx' _ h6 _ => rw [hx] at hx'; cases hx'; exact absurd ho h6
  | bodyGrpN hx' _ h6 _ => rw [hx] at hx'; cases hx'; exact absurd ho h6
theorem EvD.iBody7 {f : Frm} {at_ : Nat} {x : Nd} (hx : K.re[f.node]? = some x) (ho : x.op = 7) (h : EvD K S d (.body f at_) b S' d2) : ∃ S2, EvD K { S with cs := S.cs.set x.n.toNat ⟨f.fr, f.to⟩ } d (.next f.up at_) b S2 d2 ∧ S' = if b = true then S2 else { S2 with cs := S2.cs.set x.n.toNat (S.cs.getD x.n.toNat noS) } := by
  cases h with
  | bodyCat hx' ho' _ => rw [hx] at hx'; cases hx'; omega
  | bodyRep hx' ho' _ => rw [hx] at hx'; cases hx'; omega
  | bodyGrpY hx' _ _ h => rw [hx] at hx'; cases hx'; exact ⟨_, h, rfl⟩
  | bodyGrpN hx' _ _ h => rw [hx] at hx'; cases hx'; exact ⟨_, h, rfl⟩
theorem EvD.iRow0 {f : Frm} {at_ : Nat} (hl : f.left = 0) (h : EvD K S d (.row f at_) b S' d2) : (at_ ≠ f.to ∧ b = false ∧ S' = S ∧ d2 = d) ∨ (at_ = f.to ∧ EvD K S d (.next f.up at_) b S' d2) := by
  cases h with
  | rowZN _ he => exact .inl ⟨he, rfl, rfl, rfl⟩
  | rowZ _ he h => exact .inr ⟨he, h⟩
  | rowS hl' _ _ => omega
theorem EvD.iRowS {f : Frm} {at_ : Nat} (hl : ¬ f.left = 0) (h : EvD K S d (.row f at_) b S' d2) : ∃ u S1, S.push { f with kid := K.bh f.kid, left := f.left - 1, fr := 0 } = (u, S1) ∧ EvD K S1 d (.rowL f u at_ (ends at_ f.to)) b S' d2 := by
  cases h with
  | rowZN hl' _ => exact absurd hl' hl
  | rowZ hl' _ _ => exact absurd hl' hl
  | @rowS _ _ _ _ _ _ _ u l _ hl' hp h =>
    have e : f.left - 1 = l := by omega
    rw [e]; exact ⟨_, _, hp, h⟩
theorem EvD.iRowL0 {f : Frm} {u at_ : Nat} (h : EvD K S d (.rowL f u at_ []) b S' d2) : b = false ∧ S' = S ∧ d2 = d := by cases h; exact ⟨rfl, rfl, rfl⟩
theorem EvD.iRowL {f : Frm} {u at_ e : Nat} {es : List Nat} (h : EvD K S d (.rowL f u at_ (e :: es)) b S' d2) : ∃ b1 S1 d1, EvD K S d (.take f.kid at_ e u) b1 S1 d1 ∧ ((b1 = true ∧ b = true ∧ S' = S1 ∧ d2 = d1) ∨ (b1 = false ∧ f.left = 1 ∧ b = false ∧ S' = S1 ∧ d2 = d1) ∨ (b1 = false ∧ f.left ≠ 1 ∧ EvD K S1 d1 (.rowL f u at_ es) b S' d2)) := by
  cases h with
  | rowLYes h => exact ⟨_, _, _, h, .inl ⟨rfl, rfl, rfl, rfl⟩⟩
  | rowLLast hl h => exact ⟨_, _, _, h, .inr (.inl ⟨rfl, hl, rfl, rfl, rfl⟩)⟩
  | rowLNo hl h h' => exact ⟨_, _, _, h, .inr (.inr ⟨rfl, hl, h'⟩)⟩
theorem EvD.iRnd {f : Frm} {at_ : Nat} {x : Nd} (hx : K.re[f.node]? = some x) (hm : x.mx < 0 ∨ (f.kid : Int) < x.mx) (h : EvD K S d (.rnd f at_) b S' d2) :
    ∃ u S1 b1 S2 d1, S.push { f with kid := satK x f.kid } = (u, S1) ∧ EvD K S1 d (.rndL f u at_ (ends at_ f.to)) b1 S2 d1 ∧ ((b1 = true ∧ b = true ∧ S' = S2 ∧ d2 = d1) ∨ (b1 = false ∧ (at_ = f.to ∧ x.mn ≤ (f.kid : Int)) ∧ EvD K S2 d1 (.next f.up at_) b S' d2) ∨ (b1 = false ∧ ¬ (at_ = f.to ∧ x.mn ≤ (f.kid : Int)) ∧ b = false ∧ S' = S2 ∧ d2 = d1)) := by
  cases h with
  | rndYes hx' hm' hp h => rw [hx] at hx'; cases hx'; exact ⟨_, _, _, _, _, hp, h, .inl ⟨rfl, rfl, rfl, rfl⟩⟩
  | rndEnd hx' hm' hp h he h' => rw [hx] at hx'; cases hx'; exact ⟨_, _, _, _, _, hp, h, .inr (.inl ⟨rfl, he, h'⟩)⟩
  | rndNo hx' hm' hp h he => rw [hx] at hx'; cases hx'; exact ⟨_, _, _, _, _, hp, h, .inr (.inr ⟨rfl, he, rfl, rfl, rfl⟩)⟩
  | rnd0End hx' hm' => rw [hx] at hx'; cases hx'; exact absurd hm hm'
  | rnd0No hx' hm' => rw [hx] at hx'; cases hx'; exact absurd hm hm'
theorem EvD.iRnd0 {f : Frm} {at_ : Nat} {x : Nd} (hx : K.re[f.node]? = some x) (hm : ¬ (x.mx < 0 ∨ (f.kid : Int) < x.mx)) (h : EvD K S d (.rnd f at_) b S' d2) :
    ((at_ = f.to ∧ x.mn ≤ (f.kid : Int)) ∧ EvD K S d (.next f.up at_) b S' d2) ∨ (¬ (at_ = f.to ∧ x.mn ≤ (f.kid : Int)) ∧ b = false ∧ S' = S ∧ d2 = d) := by
  cases h with
  | rndYes hx' hm' => rw [hx] at hx'; cases hx'; exact absurd hm' hm
  | rndEnd hx' hm' => rw [hx] at hx'; cases hx'; exact absurd hm' hm
  | rndNo hx' hm' => rw [hx] at hx'; cases hx'; exact absurd hm' hm
  | rnd0End hx' _ he h => rw [hx] at hx'; cases hx'; exact .inl ⟨he, h⟩
  | rnd0No hx' _ he => rw [hx] at hx'; cases hx'; exact .inr ⟨he, rfl, rfl, rfl⟩
theorem EvD.iRndL0 {f : Frm} {u at_ : Nat} (h : EvD K S d (.rndL f u at_ []) b S' d2) : b = false ∧ S' = S ∧ d2 = d := by cases h; exact ⟨rfl, rfl, rfl⟩
theorem EvD.iRndL {f : Frm} {u at_ e : Nat} {es : List Nat} {x : Nd} (hx : K.re[f.node]? = some x) (h : EvD K S d (.rndL f u at_ (e :: es)) b S' d2) : (brk x f at_ e ∧ b = false ∧ S' = S ∧ d2 = d) ∨ (¬ brk x f at_ e ∧ ∃ b1 S1 d1, EvD K { S with cs := fgt (K.inn (f.node + 1) (K.bh f.node)) S.cs } d (.take (f.node + 1) at_ e u) b1 S1 d1 ∧
    ((b1 = true ∧ b = true ∧ S' = S1 ∧ d2 = d1) ∨ (b1 = false ∧ EvD K { S1 with cs := rst (K.inn (f.node + 1) (K.bh f.node)) (emW (K.inn (f.node + 1) (K.bh f.node)) S.cs) S1.cs } d1 (.rndL f u at_ es) b S' d2))) := by
  cases h with
  | rndLBrk hx' hb => rw [hx] at hx'; cases hx'; exact .inl ⟨hb, rfl, rfl, rfl⟩
  | rndLYes hx' hb h => rw [hx] at hx'; cases hx'; exact .inr ⟨hb, _, _, _, h, .inl ⟨rfl, rfl, rfl, rfl⟩⟩
  | rndLNo hx' hb h h' => rw [hx] at hx'; cases hx'; exact .inr ⟨hb, _, _, _, h, .inr ⟨rfl, h'⟩⟩
theorem EvD.iDry {at_ i j up : Nat} (hd : S.fuel = 0 ∨ d = true) (h : EvD K S d (.take at_ i j up) b S' d2) : b = false ∧ S' = S ∧ d2 = true := by
  cases h with
  | takeDry _ => exact ⟨rfl, rfl, rfl⟩
  | takeNo _ hf => rcases hd with h | h; (· omega); (· cases h)
  | takeYes _ hf => rcases hd with h | h; (· omega); (· cases h)
  | takeAlt _ hf => rcases hd with h | h; (· omega); (· cases h)
  | takeCat _ hf => rcases hd with h | h; (· omega); (· cases h)
  | takeRep _ hf => rcases hd with h | h; (· omega); (· cases h)
  | takeGrpY _ hf => rcases hd with h | h; (· omega); (· cases h)
  | takeGrpN _ hf => rcases hd with h | h; (· omega); (· cases h)
theorem EvD.iLeaf {at_ i j up : Nat} {x : Nd} (hx : K.re[at_]? = some x) (ho : x.op = 1 ∨ x.op = 2 ∨ x.op = 3 ∨ x.op = 8) (hd : ¬ (S.fuel = 0 ∨ d = true)) (h : EvD K S d (.take at_ i j up) b S' d2) : (¬ K.good x S.cs i j ∧ b = false ∧ S' = S.tick ∧ d2 = false) ∨ (K.good x S.cs i j ∧ EvD K S.tick false (.next up j) b S' d2) := by
  cases h with
  | takeDry h => exact absurd h hd
  | takeNo hx' _ _ hg => rw [hx] at hx'; cases hx'; exact .inl ⟨hg, rfl, rfl, rfl⟩
  | takeYes hx' _ _ hg h => rw [hx] at hx'; cases hx'; exact .inr ⟨hg, h⟩
  | takeAlt hx' _ ho' => rw [hx] at hx'; cases hx'; omega
  | takeCat hx' _ ho' => rw [hx] at hx'; cases hx'; omega
  | takeRep hx' _ ho' => rw [hx] at hx'; cases hx'; omega
  | takeGrpY hx' _ ho' => rw [hx] at hx'; cases hx'; omega
  | takeGrpN hx' _ ho' => rw [hx] at hx'; cases hx'; omega
theorem EvD.iAltT {at_ i j up : Nat} {x : Nd} (hx : K.re[at_]? = some x) (ho : x.op = 5) (hd : ¬ (S.fuel = 0 ∨ d = true)) (h : EvD K S d (.take at_ i j up) b S' d2) : EvD K S.tick false (.alt (at_ + 1) x.kids.toNat i j up) b S' d2 := by
  cases h with
  | takeDry h => exact absurd h hd
  | takeNo hx' _ ho' => rw [hx] at hx'; cases hx'; omega
  | takeYes hx' _ ho' => rw [hx] at hx'; cases hx'; omega
  | takeAlt hx' _ ho' h => rw [hx] at hx'; cases hx'; exact h
  | takeCat hx' _ ho' => rw [hx] at hx'; cases hx'; omega
  | takeRep hx' _ ho' => rw [hx] at hx'; cases hx'; omega
  | takeGrpY hx' _ ho' => rw [hx] at hx'; cases hx'; omega
  | takeGrpN hx' _ ho' => rw [hx] at hx'; cases hx'; omega
theorem EvD.iCat {at_ i j up : Nat} {x : Nd} (hx : K.re[at_]? = some x) (ho : x.op = 4) (hd : ¬ (S.fuel = 0 ∨ d = true)) (h : EvD K S d (.take at_ i j up) b S' d2) : ∃ u S2, S.tick.push ⟨up, at_, at_ + 1, x.kids.toNat, i, j⟩ = (u, S2) ∧ EvD K S2 false (.next u i) b S' d2 := by
  cases h with
  | takeDry h => exact absurd h hd
  | takeNo hx' _ ho' => rw [hx] at hx'; cases hx'; omega
  | takeYes hx' _ ho' => rw [hx] at hx'; cases hx'; omega
  | takeAlt hx' _ ho' => rw [hx] at hx'; cases hx'; omega
  | takeCat hx' _ ho' hp h => rw [hx] at hx'; cases hx'; exact ⟨_, _, hp, h⟩
  | takeRep hx' _ ho' => rw [hx] at hx'; cases hx'; omega
  | takeGrpY hx' _ ho' => rw [hx] at hx'; cases hx'; omega
  | takeGrpN hx' _ ho' => rw [hx] at hx'; cases hx'; omega
theorem EvD.iRep {at_ i j up : Nat} {x : Nd} (hx : K.re[at_]? = some x) (ho : x.op = 6) (hd : ¬ (S.fuel = 0 ∨ d = true)) (h : EvD K S d (.take at_ i j up) b S' d2) : ∃ u S2, S.tick.push ⟨up, at_, 0, 0, 0, j⟩ = (u, S2) ∧ EvD K S2 false (.next u i) b S' d2 := by
  cases h with
  | takeDry h => exact absurd h hd
  | takeNo hx' _ ho' => rw [hx] at hx'; cases hx'; omega
  | takeYes hx' _ ho' => rw [hx] at hx'; cases hx'; omega
  | takeAlt hx' _ ho' => rw [hx] at hx'; cases hx'; omega
  | takeCat hx' _ ho' => rw [hx] at hx'; cases hx'; omega
  | takeRep hx' _ ho' hp h => rw [hx] at hx'; cases hx'; exact ⟨_, _, hp, h⟩
  | takeGrpY hx' _ ho' => rw [hx] at hx'; cases hx'; omega
  | takeGrpN hx' _ ho' => rw [hx] at hx'; cases hx'; omega
theorem EvD.iGrp {at_ i j up : Nat} {x : Nd} (hx : K.re[at_]? = some x) (ho : x.op = 7) (hd : ¬ (S.fuel = 0 ∨ d = true)) (h : EvD K S d (.take at_ i j up) b S' d2) : ∃ u S2 S3, ({ S.tick with cs := fgt (K.inn (at_ + 1) (K.bh at_)) S.cs } : SS).push ⟨up, at_, 0, 0, i, j⟩ = (u, S2) ∧ EvD K S2 false (.take (at_ + 1) i j u) b S3 d2 ∧
    S' = if b = true then S3 else { S3 with cs := rst (K.inn (at_ + 1) (K.bh at_)) (emW (K.inn (at_ + 1) (K.bh at_)) S.cs) S3.cs } := by
  cases h with
  | takeDry h => exact absurd h hd
  | takeNo hx' _ ho' => rw [hx] at hx'; cases hx'; omega
  | takeYes hx' _ ho' => rw [hx] at hx'; cases hx'; omega
  | takeAlt hx' _ ho' => rw [hx] at hx'; cases hx'; omega
  | takeCat hx' _ ho' => rw [hx] at hx'; cases hx'; omega
  | takeRep hx' _ ho' => rw [hx] at hx'; cases hx'; omega
  | takeGrpY hx' _ ho' hp h => rw [hx] at hx'; cases hx'; exact ⟨_, _, _, hp, h, rfl⟩
  | takeGrpN hx' _ ho' hp h => rw [hx] at hx'; cases hx'; exact ⟨_, _, _, hp, h, rfl⟩
theorem EvD.iAlt0 {kid i j up : Nat} (h : EvD K S d (.alt kid 0 i j up) b S' d2) : b = false ∧ S' = S ∧ d2 = d := by cases h; exact ⟨rfl, rfl, rfl⟩
theorem EvD.iAlt {kid l i j up : Nat} (h : EvD K S d (.alt kid (l + 1) i j up) b S' d2) : ∃ b1 S1 d1, EvD K S d (.take kid i j up) b1 S1 d1 ∧ ((b1 = true ∧ b = true ∧ S' = S1 ∧ d2 = d1) ∨ (b1 = false ∧ EvD K S1 d1 (.alt (K.bh kid) l i j up) b S' d2)) := by
  cases h with
  | altYes h => exact ⟨_, _, _, h, .inl ⟨rfl, rfl, rfl, rfl⟩⟩
  | altNo h h' => exact ⟨_, _, _, h, .inr ⟨rfl, h'⟩⟩
end
theorem EvD.mono {K : SrE} {S S' : SS} {q : SQ} {b d d2 : Bool} (h : EvD K S d q b S' d2) : Gr S S' := by
  induction h with
  | takeDry _ => exact .refl
  | takeNo hx hf ho hg => exact tick_gr
  | takeYes hx hf ho hg h ih => exact tick_gr.trans ih
  | takeAlt hx hf ho h ih => exact tick_gr.trans ih
  | takeCat hx hf ho hp h ih => exact tick_gr.trans ((push_gr hp).trans ih)
  | takeRep hx hf ho hp h ih => exact tick_gr.trans ((push_gr hp).trans ih)
  | takeGrpY hx hf ho hp h ih => exact tick_gr.trans ((cs_gr (fgt_len _ _)).trans ((push_gr hp).trans ih))
  | takeGrpN hx hf ho hp h ih => exact tick_gr.trans ((cs_gr (fgt_len _ _)).trans ((push_gr hp).trans (ih.trans (cs_gr (rst_len _ _ _)))))
  | altNil => exact .refl
  | altYes h ih => exact ih
  | altNo h h' ih ih' => exact ih.trans ih'
  | nextZero => exact .refl
  | nextMemo h => exact code_gr
  | @nextGo d d2 S S2 k at_ f b hn hf h ih =>
    have g : Gr _ (if d2 = true then S2 else S2.fail b ⟨k + 1, at_, (K.code S).1⟩) := ih.trans (by split; (· exact .refl); (· exact fail_gr (b := b) (p := ⟨k + 1, at_, (K.code S).1⟩)))
    exact (code_gr (K := K) (S := S)).trans ⟨g.fs, g.ts, g.fuel, g.cs⟩
  | bodyCat hx ho h ih => exact ih
  | bodyRep hx ho h ih => exact ih
  | bodyGrpY hx h4 h6 h ih => exact (cs_gr (List.length_set ..)).trans ih
  | bodyGrpN hx h4 h6 h ih => exact (cs_gr (List.length_set ..)).trans (ih.trans (cs_gr (List.length_set ..)))
  | rowZN hl he => exact .refl
  | rowZ hl he h ih => exact ih
  | rowS hl hp h ih => exact (push_gr hp).trans ih
  | rowLNil => exact .refl
  | rowLYes h ih => exact ih
  | rowLLast hl h ih => exact ih
  | rowLNo hl h h' ih ih' => exact ih.trans ih'
  | rndYes hx hm hp h ih => exact (push_gr hp).trans ih
  | rndEnd hx hm hp h he h' ih ih' => exact (push_gr hp).trans (ih.trans ih')
  | rndNo hx hm hp h he ih => exact (push_gr hp).trans ih
  | rnd0End hx hm he h' ih' => exact ih'
  | rnd0No hx hm he => exact .refl
  | rndLNil => exact .refl
  | rndLBrk hx hb => exact .refl
  | rndLYes hx hb h ih => exact (cs_gr (fgt_len _ _)).trans ih
  | rndLNo hx hb h h' ih ih' => exact (cs_gr (fgt_len _ _)).trans (ih.trans ((cs_gr (rst_len _ _ _)).trans ih'))
end Go.HL.Kl.Mc
namespace Go.Proofs.YtloepfcndglmmaaDoor
open Go Go.HL Go.Proofs Go.HL.Kl Go.HL.Kl.Mc Go.HL.Kl.Mc.AskE
theorem hin_app {A B H : Hp} (h1 : HIn A H) (h2 : HIn B H) : HIn (A ++ B) H := fun p hp => (List.mem_append.1 hp).elim (h1 p) (h2 p)
def Sz (S : SS) : Prop := S.fs.length ≤ 1000000000000 ∧ S.ts.length ≤ 100000000000000000
theorem Sz.gr {S S' : SS} (h : Sz S') (g : Gr S S') : Sz S := ⟨Nat.le_trans g.fs h.1, Nat.le_trans g.ts h.2⟩
structure BkE.ok (K : BkE) : Prop where
  part : ∃ f, Part K.re f 0 K.re.length
  len : K.re.length ≤ 1000000
  wl : K.w.length ≤ 1000000
  N : K.N ≤ 1000000
  bl : BehI K.re K.bl K.re.length
  ok : K.sr.ok K.N
  R : ∀ r ∈ K.R, r ≤ K.N
  Rl : K.R.length ≤ 1000000
theorem BkE.ok.at_ {K : BkE} (h : K.ok) {k : Nat} {x : Nd} (hx : K.re[k]? = some x) : ∃ ks e, Part K.re (.nd x ks .nil) k e := by
  obtain ⟨f, hf⟩ := h.part
  obtain ⟨y, js, r, e, hp⟩ := part_at f 0 _ hf k (Nat.zero_le _) (List.getElem?_eq_some_iff.1 hx).1
  have h1 := hp.head.1
  rw [hx] at h1
  cases h1
  exact ⟨js, _, hp.one⟩
theorem BkE.ok.rng {K : BkE} (h : K.ok) {x : Nd} (hx : x ∈ K.re) : ndOk x = true := by
  obtain ⟨k, hk⟩ := List.mem_iff_getElem?.1 hx
  obtain ⟨ks, e, hp⟩ := h.at_ hk
  exact hp.wf.1
theorem BkE.ok.g7 {K : BkE} (h : K.ok) : ∀ x ∈ K.re, x.op = 7 → 0 ≤ x.n ∧ x.n ≤ K.N := fun x hx h7 => by
  have := h.ok.grp x hx h7
  omega
theorem BkE.ok.r8 {K : BkE} (h : K.ok) : ∀ x ∈ K.re, x.op = 8 → 0 ≤ x.n ∧ x.n ≤ K.N := fun x hx h8 => by
  obtain ⟨h1, h2⟩ := h.ok.ref x hx h8
  have := h.R _ h2
  omega
theorem op_rng {x : Nd} (h : ndOk x = true) : 1 ≤ x.op ∧ x.op ≤ 8 := (flds_iff.1 (by simp only [ndOk, Bool.and_eq_true] at h; exact h.1)).1
theorem BkE.ok.beh {K : BkE} (h : K.ok) {k e : Nat} {x : Nd} {ks r : F} (hp : Part K.re (.nd x ks r) k e) : K.bl[k]? = some (k + 1 + ks.size) ∧ K.sr.bh k = k + 1 + ks.size ∧ k + 1 + ks.size ≤ K.re.length := by
  have hk := (List.getElem?_eq_some_iff.1 hp.head.1).1
  exact ⟨h.bl.2 k x ks r e hk hp, SrE.bh_eq (K := K.sr) hp.one, hp.one.le⟩
def AnsB (K : BkE) (S' : SS) (d2 b : Bool) (v : Value) (H' : Hp) : Prop := ∃ s', v = .bool b ∧ H' = ((K.b, .cells [.slice K.ra K.re.length K.rc, .slice K.ta K.w.length K.tc, .slice K.ba K.bl.length K.bc, .slice K.xa K.R.length K.xc, .slice s'.fa (zeroF :: s'.S.fs).length s'.fc, .map (some K.bn), .map (some K.bt), .map (some K.bf), .slice K.sa (K.N + 1) K.sc, .int .i64 (s'.S.fuel : Nat), .bool s'.d].toArray 103 (0, 0)) :: K.tl s') ∧ K.Rep s' ∧ Fin K.sr s'.S ∧ s'.S = S' ∧ s'.d = d2
def TakeB (K : BkE) (n : Nat) : Prop := ∀ (s : BkS) (at_ i j up : Nat) (b : Bool) (S' : SS) (d2 : Bool), K.Rep s → Fin K.sr s.S → at_ < K.re.length → i ≤ j → j ≤ K.w.length → up ≤ s.S.fs.length → EvD K.sr s.S s.d (.take at_ i j up) b S' d2 → s.S.fuel ≤ n → Sz S' →
  HL.Fn Tryd.prog 47 [pt K.b, .int .i64 at_, .agg (Esp ⟨i, j⟩).toArray, .int .i64 up] (fun W => K.Env W (keys ((K.b, .cells [.slice K.ra K.re.length K.rc, .slice K.ta K.w.length K.tc, .slice K.ba K.bl.length K.bc, .slice K.xa K.R.length K.xc, .slice s.fa (zeroF :: s.S.fs).length s.fc, .map (some K.bn), .map (some K.bt), .map (some K.bf), .slice K.sa (K.N + 1) K.sc, .int .i64 (s.S.fuel : Nat), .bool s.d].toArray 103 (0, 0)) :: K.tl s))) ((K.b, .cells [.slice K.ra K.re.length K.rc, .slice K.ta K.w.length K.tc, .slice K.ba K.bl.length K.bc, .slice K.xa K.R.length K.xc, .slice s.fa (zeroF :: s.S.fs).length s.fc, .map (some K.bn), .map (some K.bt), .map (some K.bf), .slice K.sa (K.N + 1) K.sc, .int .i64 (s.S.fuel : Nat), .bool s.d].toArray 103 (0, 0)) :: K.tl s) (AnsB K S' d2 b)
def NextB (K : BkE) (n u : Nat) : Prop := ∀ (s : BkS) (at_ : Nat) (b : Bool) (S' : SS) (d2 : Bool), K.Rep s → Fin K.sr s.S → u ≤ s.S.fs.length → at_ ≤ K.w.length → EvD K.sr s.S s.d (.next u at_) b S' d2 → s.S.fuel ≤ n → Sz S' →
  HL.Fn Tryd.prog 84 [pt K.b, .int .i64 u, .int .i64 at_] (fun W => K.Env W (keys ((K.b, .cells [.slice K.ra K.re.length K.rc, .slice K.ta K.w.length K.tc, .slice K.ba K.bl.length K.bc, .slice K.xa K.R.length K.xc, .slice s.fa (zeroF :: s.S.fs).length s.fc, .map (some K.bn), .map (some K.bt), .map (some K.bf), .slice K.sa (K.N + 1) K.sc, .int .i64 (s.S.fuel : Nat), .bool s.d].toArray 103 (0, 0)) :: K.tl s))) ((K.b, .cells [.slice K.ra K.re.length K.rc, .slice K.ta K.w.length K.tc, .slice K.ba K.bl.length K.bc, .slice K.xa K.R.length K.xc, .slice s.fa (zeroF :: s.S.fs).length s.fc, .map (some K.bn), .map (some K.bt), .map (some K.bf), .slice K.sa (K.N + 1) K.sc, .int .i64 (s.S.fuel : Nat), .bool s.d].toArray 103 (0, 0)) :: K.tl s) (AnsB K S' d2 b)
def RowB (K : BkE) (n v : Nat) : Prop := ∀ (s : BkS) (f : Frm) (x : Nd) (at_ : Nat) (b : Bool) (S' : SS) (d2 : Bool), K.Rep s → Fin K.sr s.S → FrOk K.sr f → K.re[f.node]? = some x → x.op = 4 → f.up = v → v ≤ s.S.fs.length → at_ ≤ K.w.length → EvD K.sr s.S s.d (.row f at_) b S' d2 → s.S.fuel ≤ n → Sz S' →
  HL.Fn Tryd.prog 104 [pt K.b, .agg (Efr f).toArray, .int .i64 at_] (fun W => K.Env W (keys ((K.b, .cells [.slice K.ra K.re.length K.rc, .slice K.ta K.w.length K.tc, .slice K.ba K.bl.length K.bc, .slice K.xa K.R.length K.xc, .slice s.fa (zeroF :: s.S.fs).length s.fc, .map (some K.bn), .map (some K.bt), .map (some K.bf), .slice K.sa (K.N + 1) K.sc, .int .i64 (s.S.fuel : Nat), .bool s.d].toArray 103 (0, 0)) :: K.tl s))) ((K.b, .cells [.slice K.ra K.re.length K.rc, .slice K.ta K.w.length K.tc, .slice K.ba K.bl.length K.bc, .slice K.xa K.R.length K.xc, .slice s.fa (zeroF :: s.S.fs).length s.fc, .map (some K.bn), .map (some K.bt), .map (some K.bf), .slice K.sa (K.N + 1) K.sc, .int .i64 (s.S.fuel : Nat), .bool s.d].toArray 103 (0, 0)) :: K.tl s) (AnsB K S' d2 b)
def RndB (K : BkE) (n v : Nat) : Prop := ∀ (s : BkS) (f : Frm) (x : Nd) (at_ : Nat) (b : Bool) (S' : SS) (d2 : Bool), K.Rep s → Fin K.sr s.S → FrOk K.sr f → K.re[f.node]? = some x → x.op = 6 → f.up = v → v ≤ s.S.fs.length → at_ ≤ K.w.length → EvD K.sr s.S s.d (.rnd f at_) b S' d2 → s.S.fuel ≤ n → Sz S' →
  HL.Fn Tryd.prog 105 [pt K.b, .agg (Efr f).toArray, .int .i64 at_] (fun W => K.Env W (keys ((K.b, .cells [.slice K.ra K.re.length K.rc, .slice K.ta K.w.length K.tc, .slice K.ba K.bl.length K.bc, .slice K.xa K.R.length K.xc, .slice s.fa (zeroF :: s.S.fs).length s.fc, .map (some K.bn), .map (some K.bt), .map (some K.bf), .slice K.sa (K.N + 1) K.sc, .int .i64 (s.S.fuel : Nat), .bool s.d].toArray 103 (0, 0)) :: K.tl s))) ((K.b, .cells [.slice K.ra K.re.length K.rc, .slice K.ta K.w.length K.tc, .slice K.ba K.bl.length K.bc, .slice K.xa K.R.length K.xc, .slice s.fa (zeroF :: s.S.fs).length s.fc, .map (some K.bn), .map (some K.bt), .map (some K.bf), .slice K.sa (K.N + 1) K.sc, .int .i64 (s.S.fuel : Nat), .bool s.d].toArray 103 (0, 0)) :: K.tl s) (AnsB K S' d2 b)
theorem mem_if {α : Type} {p a : Pt} {l : List Pt} {u v : α} : (if p = a then u else if p ∈ l then u else v) = if p ∈ a :: l then u else v := by
  by_cases h : p = a
  · rw [if_pos h, if_pos (by rw [h]; exact List.mem_cons_self)]
  · rw [if_neg h]
    by_cases h2 : p ∈ l
    · rw [if_pos h2, if_pos (List.mem_cons_of_mem _ h2)]
    · rw [if_neg h2, if_neg fun h3 => (List.mem_cons.1 h3).elim h h2]
theorem fr_sp {f : Frm} : ∀ (j : Nat) u, (Esp ⟨(f.fr : Nat), (f.to : Nat)⟩)[j]? = some u → (Efr f)[0 + 4 + j]? = some u := fun j u h => by
  match j, h with
  | 0, h => exact h
  | 1, h => exact h
theorem stateB_fn (K : BkE) (hK : K.ok) (s : BkS) (hR : K.Rep s) (hF : Fin K.sr s.S) (hz : s.S.ts.length ≤ 100000000000000000) : HL.Fn Tryd.prog 103 [pt K.b] (fun W => K.Env W (keys ((K.b, .cells [.slice K.ra K.re.length K.rc, .slice K.ta K.w.length K.tc, .slice K.ba K.bl.length K.bc, .slice K.xa K.R.length K.xc, .slice s.fa (zeroF :: s.S.fs).length s.fc, .map (some K.bn), .map (some K.bt), .map (some K.bf), .slice K.sa (K.N + 1) K.sc, .int .i64 (s.S.fuel : Nat), .bool s.d].toArray 103 (0, 0)) :: K.tl s))) ((K.b, .cells [.slice K.ra K.re.length K.rc, .slice K.ta K.w.length K.tc, .slice K.ba K.bl.length K.bc, .slice K.xa K.R.length K.xc, .slice s.fa (zeroF :: s.S.fs).length s.fc, .map (some K.bn), .map (some K.bt), .map (some K.bf), .slice K.sa (K.N + 1) K.sc, .int .i64 (s.S.fuel : Nat), .bool s.d].toArray 103 (0, 0)) :: K.tl s) (fun v S' => ∃ s', v = .int .i64 ((K.sr.code s.S).1 : Nat) ∧ S' = ((K.b, .cells [.slice K.ra K.re.length K.rc, .slice K.ta K.w.length K.tc, .slice K.ba K.bl.length K.bc, .slice K.xa K.R.length K.xc, .slice s'.fa (zeroF :: s'.S.fs).length s'.fc, .map (some K.bn), .map (some K.bt), .map (some K.bf), .slice K.sa (K.N + 1) K.sc, .int .i64 (s'.S.fuel : Nat), .bool s'.d].toArray 103 (0, 0)) :: K.tl s') ∧ K.Rep s' ∧ Fin K.sr s'.S ∧ s'.S = { (K.sr.code s.S).2 with wk := s.S.wk + 1 } ∧ s'.d = s.d) :=
  Fn.sub (stateK_fn K s hR hK.R hK.Rl hz) fun v S' ⟨et', ct', h1, h2, h3⟩ => ⟨S', HSub.refl _, { s with S := { (K.sr.code s.S).2 with wk := s.S.wk + 1 }, et := et', ct := ct' }, h1, h2, ⟨h3.fr, h3.sp, h3.cl, h3.en, h3.et, h3.el, h3.ef⟩, ⟨hF.fr, hF.ch, hF.sp⟩, rfl, rfl⟩
theorem bEqual_fn (a1 : Option Addr) (c1 : Nat) (l1 : List UInt8) (a2 : Option Addr) (c2 : Nat) (l2 : List UInt8) : HL.Fn Tryd.prog 85 [.slice a1 l1.length c1, .slice a2 l2.length c2] (fun W => Rd Eb W (.slice a1 l1.length c1) l1 ∧ Rd Eb W (.slice a2 l2.length c2) l2) [] (fun v _ => v = .bool (decide (l1 = l2))) := by
  refine fn_of Tryd.func85 rfl rfl rfl fun w0 hw => ?_; refine cR fun _ hK1 => ?_; refine oA (oZ hK1 (cR fun _ hK2 => ?_)); refine oM ?_; refine oS (s_b2str rfl (RdK.old0 hw.1) rfl) ?_; refine oM ?_; refine oS (s_b2str rfl (RdK.old0 hw.2) rfl) ?_; refine oS (step_cast (v' := .bool (decide (l1 = l2))) (s_eql_str rfl rfl) (by congr 1; exact decide_eq_decide.2 ⟨fun h => by injection h with h; exact Array.toList_inj.2 h |> fun h => by simpa using h, fun h => by rw [h]⟩)) ?_; refine oA (oZ hK2 (c_ret ?_)); refine ?_; exact xR rfl rfl (rfl)
set_option maxHeartbeats 4000000 in
theorem nextK_fn (K : BkE) (hK : K.ok) (n : Nat) (s : BkS) (u at_ : Nat) (b : Bool) (S' : SS) (hR : K.Rep s) (hF : Fin K.sr s.S) (hu : u ≤ s.S.fs.length) (hat : at_ ≤ K.w.length) (d2 : Bool) (hE : EvD K.sr s.S s.d (.next u at_) b S' d2) (hn : s.S.fuel ≤ n) (hz : Sz S') (hrow : ∀ v, v < u → RowB K n v) (hrnd : ∀ v, v < u → RndB K n v) (hnx : ∀ v, v < u → NextB K n v) : HL.Fn Tryd.prog 84 [pt K.b, .int .i64 u, .int .i64 at_] (fun W => K.Env W (keys ((K.b, .cells [.slice K.ra K.re.length K.rc, .slice K.ta K.w.length K.tc, .slice K.ba K.bl.length K.bc, .slice K.xa K.R.length K.xc, .slice s.fa (zeroF :: s.S.fs).length s.fc, .map (some K.bn), .map (some K.bt), .map (some K.bf), .slice K.sa (K.N + 1) K.sc, .int .i64 (s.S.fuel : Nat), .bool s.d].toArray 103 (0, 0)) :: K.tl s))) ((K.b, .cells [.slice K.ra K.re.length K.rc, .slice K.ta K.w.length K.tc, .slice K.ba K.bl.length K.bc, .slice K.xa K.R.length K.xc, .slice s.fa (zeroF :: s.S.fs).length s.fc, .map (some K.bn), .map (some K.bt), .map (some K.bf), .slice K.sa (K.N + 1) K.sc, .int .i64 (s.S.fuel : Nat), .bool s.d].toArray 103 (0, 0)) :: K.tl s) (AnsB K S' d2 b) := by
  refine fn_of Tryd.func84 rfl rfl rfl fun w0 hw => ?_
  have hsl := hw.d1.sl
  have hwl := hK.wl
  have hrl := hK.len
  have hz1 := hz.gr hE.mono
  have hzl := hz1.1
  refine cR fun _ hK1 => ?_; refine oA (oZ hK1 (c_seq fun _ hK2 => ?_)); refine cR fun _ hK3 => ?_; refine oM ?_
  by_cases hu0 : (u : Int) = 0
  ·obtain rfl : u = 0 := by omega
   obtain ⟨rfl, rfl, rfl⟩ := hE.iNext0
   refine oS eqT (oZ hK3 ?_); refine cT (cR fun _ hK4 => ?_); refine oA (oZ hK4 (c_ret ?_)); refine x_then_ret (?_); refine x_sub (Sub.refl _) (H' := ((K.b, .cells [.slice K.ra K.re.length K.rc, .slice K.ta K.w.length K.tc, .slice K.ba K.bl.length K.bc, .slice K.xa K.R.length K.xc, .slice s.fa (zeroF :: s.S.fs).length s.fc, .map (some K.bn), .map (some K.bt), .map (some K.bf), .slice K.sa (K.N + 1) K.sc, .int .i64 (s.S.fuel : Nat), .bool s.d].toArray 103 (0, 0)) :: K.tl s)) hzB ?_; exact xR rfl rfl (⟨s, rfl, rfl, hR, hF, rfl, rfl⟩)
  ·obtain ⟨k, rfl⟩ : ∃ k, u = k + 1 := ⟨u - 1, by omega⟩
   refine oS eqF (oZ hK3 ?_); refine cFZ hK2 (cR fun _ hK5 => ?_); refine oM (oM (oM ?_)); refine o_call (stateB_fn K hK s hR hF hz1.2) rfl rfl rfl pkA (fun w st => hw.out st (hin_cons meA (hin_cons meA (hin_cons meA (hin_cons meA (hin_app hiA hiA)))))) (fun v17 S17 ⟨s1, hv17, hS17, hR1, hF1, he1, hd1⟩ => ?_); subst hv17
   subst hS17; refine oS (s_build (cs := [_, _, _]) (vs := [_, _, _]) rfl rfl (.cons rfl rfl rfl rfl rfl (.cons rfl rfl rfl rfl rfl (.cons rfl rfl rfl rfl rfl (.nil))))) ?_; refine o_alloc rfl rfl fun b7 => ?_; refine o_stW rfl rfl upA lnA lnA onA ?_; refine oZ hK5 (c_seq fun _ hK6 => ?_); refine c_seq fun _ hK7 => ?_; refine c_quiet (by kernel_rfl) ?_; refine .op rfl (s_move rfl) ?_; refine .op rfl (s_nil rfl) ?_; refine .op rfl (s_field rfl rfl (by decide)) ?_; refine .op rfl (s_ld rfl (.own meA rfl)) ?_; refine .op rfl (s_ldB rfl (RdPK.cels (.own meA)) lnA) ?_
   by_cases hm : (⟨k + 1, at_, (K.sr.code s.S).1⟩ : Pt) ∈ s.S.F
   ·obtain ⟨rfl, rfl, rfl⟩ : b = false ∧ S' = (K.sr.code s.S).2 ∧ d2 = s.d := hE.iNext.elim (fun h => h.2) fun h => absurd hm h.1
    refine .op rfl (step_cast (v' := .bool true) (s_look2 (Ek := EkP) (k := (⟨k + 1, at_, (K.sr.code s.S).1⟩ : Pt)) rfl rfl meA) (by rw [hR1.ef, he1]; show (if (⟨k + 1, at_, (K.sr.code s.S).1⟩ : Pt) ∈ s.S.F then _ else _ : Option Value).getD _ = _; rw [if_pos hm]; rfl)) ?_; refine .nil ?_; refine xZ hK7 ?_; refine cT (cR fun _ hK8 => ?_); refine oA (oZ hK8 (c_ret ?_)); refine x_then_ret (?_); refine x_sub (Sub.refl _) (H' := ((K.b, .cells [.slice K.ra K.re.length K.rc, .slice K.ta K.w.length K.tc, .slice K.ba K.bl.length K.bc, .slice K.xa K.R.length K.xc, .slice s1.fa (zeroF :: s1.S.fs).length s1.fc, .map (some K.bn), .map (some K.bt), .map (some K.bf), .slice K.sa (K.N + 1) K.sc, .int .i64 (s1.S.fuel : Nat), .bool s1.d].toArray 103 (0, 0)) :: K.tl s1)) hzB ?_
    exact xR rfl rfl (⟨{ s1 with S := { s1.S with wk := (K.sr.code s.S).2.wk } }, rfl, rfl, ⟨hR1.fr, hR1.sp, hR1.cl, hR1.en, hR1.et, hR1.el, hR1.ef⟩, ⟨hF1.fr, hF1.ch, hF1.sp⟩, by rw [he1], hd1⟩)
   ·obtain ⟨_, f, S2, hf, hE2, hS2⟩ := hE.iNext.resolve_left fun h => hm h.1
    rw [← he1, ← hd1] at hE2
    have hf1 := hF.fr f (List.mem_of_getElem? hf)
    have hfu := hF.ch k f hf
    have hz2 : Sz S2 := hz.gr (by rw [hS2]; split; (· exact .refl); (· exact fail_gr))
    have hzz := hz2.gr hE2.mono
    have hfk : (zeroF :: s1.S.fs)[k + 1]? = some f := by rw [he1]; exact hf
    have hfl : s1.S.fs.length = s.S.fs.length := by rw [he1]; rfl
    have hn1 : s1.S.fuel ≤ n := by rw [he1]; exact hn
    have hfsl := hR1.fr.sl
    obtain ⟨x, ks, e0, hp0, hto, hcase⟩ := hf1
    have hto : f.to ≤ K.w.length := hto
    have hx : K.re[f.node]? = some x := hp0.head.1
    have hxm := List.mem_of_getElem? hx
    have hop := op_rng (hK.rng hxm)
    have hnl := (List.getElem?_eq_some_iff.1 hx).1
    refine .op rfl (step_cast (v' := .bool false) (s_look2 (Ek := EkP) (k := (⟨k + 1, at_, (K.sr.code s.S).1⟩ : Pt)) rfl rfl meA) (by rw [hR1.ef, he1]; show (if (⟨k + 1, at_, (K.sr.code s.S).1⟩ : Pt) ∈ s.S.F then _ else _ : Option Value).getD _ = _; rw [if_neg hm]; rfl)) ?_; refine .nil ?_; refine xZ hK7 ?_; refine cFZ hK6 (cR fun _ hK9 => ?_); refine oM ?_; refine oS sN ?_; refine oS sF ?_; refine oS sL (oM ?_); refine oS (s_idx rfl rfl hfsl (by rw [List.length_cons]; omega)) ?_; refine oS (s_ldB rfl ((hR1.fr.rdk hiA).cels hfk) lnA) ?_; refine o_alloc rfl rfl fun b8 => ?_; refine o_stW rfl rfl upA lnA lnA onA ?_; refine oZ hK9 ?_
    refine cR fun _ hK10 => ?_; refine oA (oZ hK10 ?_); refine c_seqJ (ι := BkS) (fun q => K.Rep q ∧ Fin K.sr q.S ∧ q.S = S2 ∧ q.d = d2) (fun q => [(9, .bool b)]) [(0, _), (6, _), (7, _)] (fun q => (b7, .cells [.int .i64 (k + 1 : Nat), .int .i64 at_, .int .i64 ((K.sr.code s.S).1 : Nat)].toArray 187 (0, 0)) :: ((K.b, .cells [.slice K.ra K.re.length K.rc, .slice K.ta K.w.length K.tc, .slice K.ba K.bl.length K.bc, .slice K.xa K.R.length K.xc, .slice q.fa (zeroF :: q.S.fs).length q.fc, .map (some K.bn), .map (some K.bt), .map (some K.bf), .slice K.sa (K.N + 1) K.sc, .int .i64 (q.S.fuel : Nat), .bool q.d].toArray 103 (0, 0)) :: K.tl q)) sbA ?_ ?_
    ·rintro q ⟨hRq, hFq, heq, hqd⟩
     refine c_seq fun _ hK12 => ?_; refine cR fun _ hK13 => ?_; refine oM ?_
     by_cases hbb : b = false
     ·by_cases hqd2 : q.d = false
      ·refine oS (step_cast (v' := .bool true) (s_not rfl) (by rw [hbb]; rfl)) ?_; refine oM ?_; refine oY (oM ?_); refine oY ?_; refine oS sN ?_; refine oY ?_; refine oS sF ?_; refine oY ?_; refine oS (step_cast (v' := .bool false) (s_ld rfl (.own meA rfl)) (by rw [hqd2])) ?_; refine oY ?_; refine oS (s_not rfl) ?_; refine oS sT (oZ hK13 ?_); refine cT ?_; refine c_tail 5 (by kernel_rfl) ?_; refine .op rfl (s_move rfl) ?_; refine .op rfl (s_nil rfl) ?_; refine .op rfl (s_field rfl rfl (by decide)) ?_; refine .op rfl (s_ld rfl (.own meA rfl)) ?_; refine .op rfl (s_ldB rfl (RdPK.cels (.own meA)) lnA) ?_; refine .nil ?_; refine o_mset2 (Ek := EkP) (k := (⟨k + 1, at_, (K.sr.code s.S).1⟩ : Pt)) rfl rfl rfl pkA fun ef' cf' hsf' hlf' => ?_; refine oZ hK12 (cR fun _ hK14 => ?_); refine oM (oA (oZ hK14 (c_ret ?_))); refine ?_; refine x_sub (Sub.refl _) (H' := ((K.b, .cells [.slice K.ra K.re.length K.rc, .slice K.ta K.w.length K.tc, .slice K.ba K.bl.length K.bc, .slice K.xa K.R.length K.xc, .slice ({ q with S := { q.S with F := (⟨k + 1, at_, (K.sr.code s.S).1⟩ : Pt) :: q.S.F }, ef := ef', cf := cf' } : BkS).fa (zeroF :: ({ q with S := { q.S with F := (⟨k + 1, at_, (K.sr.code s.S).1⟩ : Pt) :: q.S.F }, ef := ef', cf := cf' } : BkS).S.fs).length ({ q with S := { q.S with F := (⟨k + 1, at_, (K.sr.code s.S).1⟩ : Pt) :: q.S.F }, ef := ef', cf := cf' } : BkS).fc, .map (some K.bn), .map (some K.bt), .map (some K.bf), .slice K.sa (K.N + 1) K.sc, .int .i64 (({ q with S := { q.S with F := (⟨k + 1, at_, (K.sr.code s.S).1⟩ : Pt) :: q.S.F }, ef := ef', cf := cf' } : BkS).S.fuel : Nat), .bool ({ q with S := { q.S with F := (⟨k + 1, at_, (K.sr.code s.S).1⟩ : Pt) :: q.S.F }, ef := ef', cf := cf' } : BkS).d].toArray 103 (0, 0)) :: K.tl ({ q with S := { q.S with F := (⟨k + 1, at_, (K.sr.code s.S).1⟩ : Pt) :: q.S.F }, ef := ef', cf := cf' } : BkS))) hzB ?_
       exact xR rfl rfl (⟨{ q with S := { q.S with F := (⟨k + 1, at_, (K.sr.code s.S).1⟩ : Pt) :: q.S.F }, ef := ef', cf := cf' }, rfl, rfl, ⟨hRq.fr, hRq.sp, hRq.cl, hRq.en, hRq.et, hRq.el, fun p => by show getM ef' p = if p ∈ (⟨k + 1, at_, (K.sr.code s.S).1⟩ : Pt) :: q.S.F then _ else _; rw [hsf' p, hRq.ef p]; exact mem_if⟩, ⟨hFq.fr, hFq.ch, hFq.sp⟩, by rw [hS2, if_neg (by rw [← hqd, hqd2]; decide), heq, hbb]; rfl, hqd⟩)
      ·have hqd2 : q.d = true := by simpa using hqd2
       refine oS (step_cast (v' := .bool true) (s_not rfl) (by rw [hbb]; rfl)) ?_; refine oM ?_; refine oY (oM ?_); refine oY ?_; refine oS sN ?_; refine oY ?_; refine oS sF ?_; refine oY ?_; refine oS (step_cast (v' := .bool true) (s_ld rfl (.own meA rfl)) (by rw [hqd2])) ?_; refine oY ?_; refine oS (s_not rfl) ?_; refine oS sT (oZ hK13 ?_); refine cFZ hK12 (cR fun _ hK15 => ?_); refine oM (oA (oZ hK15 (c_ret ?_))); refine ?_; refine x_sub (Sub.refl _) (H' := ((K.b, .cells [.slice K.ra K.re.length K.rc, .slice K.ta K.w.length K.tc, .slice K.ba K.bl.length K.bc, .slice K.xa K.R.length K.xc, .slice q.fa (zeroF :: q.S.fs).length q.fc, .map (some K.bn), .map (some K.bt), .map (some K.bf), .slice K.sa (K.N + 1) K.sc, .int .i64 (q.S.fuel : Nat), .bool q.d].toArray 103 (0, 0)) :: K.tl q)) hzB ?_
       exact x_ret rfl (.tmp rfl (.nil)) (⟨q, by rw [hbb]; rfl, rfl, hRq, hFq, by rw [hS2, if_pos (by rw [← hqd, hqd2]), heq], hqd⟩)
     ·have hbt : b = true := by simpa using hbb
      refine oS (step_cast (v' := .bool false) (s_not rfl) (by rw [show b = true by simpa using hbb]; rfl)) ?_; refine oM ?_; refine oN ?_; refine oN ?_; refine oN ?_; refine oN ?_; refine oN ?_; refine oS sP (oZ hK13 ?_); refine cFZ hK12 (cR fun _ hK15 => ?_); refine oM (oA (oZ hK15 (c_ret ?_))); refine ?_; refine x_sub (Sub.refl _) (H' := ((K.b, .cells [.slice K.ra K.re.length K.rc, .slice K.ta K.w.length K.tc, .slice K.ba K.bl.length K.bc, .slice K.xa K.R.length K.xc, .slice q.fa (zeroF :: q.S.fs).length q.fc, .map (some K.bn), .map (some K.bt), .map (some K.bf), .slice K.sa (K.N + 1) K.sc, .int .i64 (q.S.fuel : Nat), .bool q.d].toArray 103 (0, 0)) :: K.tl q)) hzB ?_
      exact xR rfl rfl (⟨q, rfl, rfl, hRq, hFq, by rw [hS2, heq, hbt]; (split <;> rfl), hqd⟩)
    ·intro _ hJ11
     refine c_seq fun _ hK16 => ?_; refine c_quiet (by kernel_rfl) ?_; refine .op rfl (s_move rfl) ?_; refine .op rfl (s_nil rfl) ?_; refine .op rfl (s_field rfl rfl (by decide)) ?_; refine .op rfl (s_ld rfl (.own meA rfl)) ?_; refine .op rfl (s_field rfl rfl (by decide)) ?_; refine .op rfl (s_ld rfl (.own meA rfl)) ?_; refine .op rfl (s_idx rfl rfl hsl (by omega)) ?_; refine .op rfl (s_field rfl rfl (by decide)) ?_; refine .op rfl (s_ld rfl ((RdK.old hw.d1 hw.a1).ld f.node 0 hx rfl (by decide) (by omega))) ?_; refine .nil ?_; refine xZ hK16 (c_block (cR fun _ hK17 => ?_))
     by_cases h4 : x.op = 4
     ·refine oS (eqT (h := h4)) ?_; refine oA (oZ hK17 ?_); refine cT (c_region (oM ?_)); refine oS (s_ldB rfl (RdPK.cels (.own meA)) lnA) ?_; refine oM ?_; refine o_call (hrow f.up (by omega) s1 f x at_ b S2 d2 hR1 hF1 ⟨x, ks, e0, hp0, hto, hcase⟩ hx h4 rfl (by omega) hat (hE2.iBody4 hx h4) hn1 hz2) rfl rfl rfl pkA (fun w st => hw.out st (hin_cons meA (hin_cons meA (hin_cons meA (hin_cons meA (hin_app hiA hiA)))))) (fun v84 S84 ⟨s2, hv84, hS84, hR2, hF2, he2, hd2⟩ => ?_); subst hv84
      subst hS84; refine oA (o_nil (x_block ?_)); exact x_then (hJ11 s2 _ _ ⟨hR2, hF2, he2, hd2⟩ sbA sbA hzB)
     ·refine oS (eqF (h := h4)) ?_; refine oA (oZ hK17 ?_); refine cF (cR fun _ hK18 => ?_)
      by_cases h6 : x.op = 6
      ·refine oS (eqT (h := h6)) ?_; refine oA (oZ hK18 ?_); refine cT (c_region (oM ?_)); refine oS (s_ldB rfl (RdPK.cels (.own meA)) lnA) ?_; refine oM ?_; refine o_call (hrnd f.up (by omega) s1 f x at_ b S2 d2 hR1 hF1 ⟨x, ks, e0, hp0, hto, hcase⟩ hx h6 rfl (by omega) hat (hE2.iBody6 hx h6) hn1 hz2) rfl rfl rfl pkA (fun w st => hw.out st (hin_cons meA (hin_cons meA (hin_cons meA (hin_cons meA (hin_app hiA hiA)))))) (fun v90 S90 ⟨s2, hv90, hS90, hR2, hF2, he2, hd2⟩ => ?_); subst hv90
       subst hS90; refine oA (o_nil (x_block ?_)); exact x_then (hJ11 s2 _ _ ⟨hR2, hF2, he2, hd2⟩ sbA sbA hzB)
      ·have h7 : x.op = 7 := by rcases hcase with h | h | h <;> omega
       obtain ⟨hg1, hg2⟩ := hK.g7 x hxm h7
       have hft : f.fr ≤ f.to := by rcases hcase with h | h | h <;> first | exact h.2 | omega
       obtain ⟨S3, hE3, hS3⟩ := hE2.iBody7 hx h7
       have hsp1 := hR1.sp.sl
       rw [hR1.cl] at hsp1
       have hcl1 := hR1.cl
       obtain ⟨old, hold⟩ : ∃ y, s1.S.cs[x.n.toNat]? = some y := gE
       have hz3 : Sz S3 := hz2.gr (by rw [hS3]; cases b <;> first | exact .refl | exact cs_gr (List.length_set ..))
       have hspn : SpOk K.sr ⟨(f.fr : Nat), (f.to : Nat)⟩ := .inr ⟨by dsimp only; omega, by dsimp only; omega, by dsimp only; show (f.to : Int) ≤ K.w.length; omega⟩
       refine oS (eqF (h := h6)) ?_; refine oA (oZ hK18 ?_); refine cF (c_seq fun _ hK19 => ?_); refine c_quiet (by kernel_rfl) ?_; refine .op rfl (s_move rfl) ?_; refine .op rfl (s_nil rfl) ?_; refine .op rfl (s_field rfl rfl (by decide)) ?_; refine .op rfl (s_ld rfl (.own meA rfl)) ?_; refine .op rfl (s_field rfl rfl (by decide)) ?_; refine .op rfl (s_ld rfl (.own meA rfl)) ?_; refine .op rfl (s_idx rfl rfl hsl (by omega)) ?_; refine .op rfl (s_field rfl rfl (by decide)) ?_; refine .op rfl (s_ld rfl ((RdK.old hw.d1 hw.a1).ld f.node 5 hx rfl (by decide) (by omega))) ?_; refine .op rfl (s_assign rfl) ?_; refine .nil ?_; refine xZ hK19 (cR fun _ hK20 => ?_); refine oM ?_; refine oS sN ?_; refine oS sF ?_; refine oS sL (oM ?_); refine oS (s_idx rfl rfl hsp1 (by omega)) ?_; refine oS (s_ldB rfl ((hR1.sp.rdk hiA).cels hold) lnA) ?_; refine o_alloc (l := Esp ⟨0, 0⟩) rfl rfl fun b11 => ?_; refine o_stW rfl rfl upA lnA lnA onA ?_; refine oZ hK20 (c_seq fun _ hK21 => ?_); refine c_drawE ((b8, .cells (Efr f).toArray 134 (0, 0)) :: ((K.b, .cells [.slice K.ra K.re.length K.rc, .slice K.ta K.w.length K.tc, .slice K.ba K.bl.length K.bc, .slice K.xa K.R.length K.xc, .slice s1.fa (zeroF :: s1.S.fs).length s1.fc, .map (some K.bn), .map (some K.bt), .map (some K.bf), .slice K.sa (K.N + 1) K.sc, .int .i64 (s1.S.fuel : Nat), .bool s1.d].toArray 103 (0, 0)) :: s1.Ss)) (fun i => Nat.beq i 8) ?_; refine eP 0 rfl sM ?_; refine eP 1 rfl sN ?_
       refine eP 2 rfl sF ?_; refine eK 3 rfl sL ?_; refine eP 4 rfl sM ?_; refine eP 5 rfl sF ?_; refine eK 6 rfl (s_ldB rfl (RdPK.cels (RdPK.own' (cs := Esp ⟨(f.fr : Nat), (f.to : Nat)⟩) meA fr_sp)) lnA) ?_; refine eO 7 rfl ?_; refine oS (s_idx rfl rfl hsp1 (by omega)) ?_; refine oX (eO 8 rfl ?_); refine o_stSE x.n.toNat ⟨(f.fr : Nat), (f.to : Nat)⟩ hR1.sp pkA rfl rfl (by omega) (by rfl) fun S64 hS64 => ?_; refine o_nil ?_; refine x_oneL rfl ?_; refine eZ hK21 (cR fun _ hK22 => ?_); refine oM ?_; refine oS sF ?_; refine oS sL (oM ?_); refine o_call (hnx f.up (by omega) ({ s1 with S := { s1.S with cs := s1.S.cs.set x.n.toNat ⟨(f.fr : Nat), (f.to : Nat)⟩ }, Ss := S64 } : BkS) at_ b S3 d2 ⟨hR1.fr, hS64, by dsimp only; rw [List.length_set]; exact hcl1, hR1.en, hR1.et, hR1.el, hR1.ef⟩ (hF1.set _ hspn) (by dsimp only; omega) hat hE3 hn1 hz3) rfl rfl rfl ((Pick.takeC pkA (Pick.takeC pkA (Pick.takeC pkA (Pick.takeC pkA pkA))))) (fun w st => hw.out st (hin_cons meA (hin_cons meA (hin_cons meA (hin_cons meA (hin_app hiA hiA)))))) (fun v69 S69 ⟨s2, hv69, hS69, hR2, hF2, he2, hd2⟩ => ?_); subst hv69
       subst hS69; refine oA (oZ hK22 (cR fun _ hK23 => ?_)); refine oM ?_
       by_cases hbb : b = false
       ·rw [hbb] at hS3
        obtain ⟨old2, hold2⟩ : ∃ y, s2.S.cs[x.n.toNat]? = some y := ⟨_, List.getElem?_eq_getElem (by have := hR2.cl; omega)⟩
        have hsp2 := hR2.sp.sl
        rw [hR2.cl] at hsp2
        have hcl2 := hR2.cl
        refine oS (step_cast (v' := .bool true) (s_not rfl) (by rw [hbb]; rfl)) ?_; refine oZ hK23 ?_; refine cT ?_; refine c_drawE ((b11, .cells (Esp old).toArray 45 (0, 0)) :: ((K.b, .cells [.slice K.ra K.re.length K.rc, .slice K.ta K.w.length K.tc, .slice K.ba K.bl.length K.bc, .slice K.xa K.R.length K.xc, .slice s2.fa (zeroF :: s2.S.fs).length s2.fc, .map (some K.bn), .map (some K.bt), .map (some K.bf), .slice K.sa (K.N + 1) K.sc, .int .i64 (s2.S.fuel : Nat), .bool s2.d].toArray 103 (0, 0)) :: s2.Ss)) (fun i => Nat.beq i 7) ?_; refine eP 0 rfl sM ?_; refine eP 1 rfl sN ?_; refine eP 2 rfl sF ?_; refine eK 3 rfl sL ?_; refine eP 4 rfl sM ?_; refine eK 5 rfl (s_ldB rfl (RdPK.cels (.own meA)) lnA) ?_; refine eO 6 rfl ?_; refine oS (s_idx rfl rfl hsp2 (by omega)) ?_; refine oX (eO 7 rfl ?_); refine o_stSE x.n.toNat old hR2.sp pkA rfl rfl (by omega) (by rfl) fun S78 hS78 => ?_; refine o_nil ?_; refine x_oneL rfl ?_; refine e_done (by kernel_rfl) ?_; refine x_block ?_; exact x_then (hJ11 ({ s2 with S := { s2.S with cs := s2.S.cs.set x.n.toNat old }, Ss := S78 } : BkS) _ _ ⟨⟨hR2.fr, hS78, by dsimp only; rw [List.length_set]; exact hcl2, hR2.en, hR2.et, hR2.el, hR2.ef⟩, hF2.set _ (hF1.sp _ (List.mem_of_getElem? hold)), by rw [hS3, he2, List.getD_eq_getElem?_getD, hold]; rfl, hd2⟩ sbA sbA hzB)
       ·have hbt : b = true := by simpa using hbb
        rw [hbt] at hS3
        refine oS (step_cast (v' := .bool false) (s_not rfl) (by rw [hbt]; rfl)) ?_; refine oZ hK23 ?_; refine cF (c_skip (x_block ?_)); exact x_then (hJ11 s2 _ _ ⟨hR2, hF2, by rw [hS3, he2]; rfl, hd2⟩ sbA sbA hzB)
end Go.Proofs.YtloepfcndglmmaaDoor
namespace Go.HL
open Go
structure FnR (P : Program) (f : FuncId) (args : List Value) (pre : World → Prop) (S : Hp) (post : Value → Hp → Prop) : Prop where
  enters : Enters P f
  calls : ∀ w, pre w → Has w S → CallsD P f args.toArray .returning w (fun e u' w' => u' = .returning ∧ Post w (keys S) post e w')
section
variable {P : Program} {a : Act} {w : World}
end
section
variable {P : Program} {w : World} {L : Loc} {H : Hp}
theorem c_label {κ : Cx} {Q : Pst} {l : Nat} (h : X κ (Q .normal) L H) : C P κ Q (.label l) L H := ⟨fun _ a w _ ok => wpIn_label (h.out a w ok)⟩
end
end Go.HL
namespace Go.HL
open Go
section
variable {F : Fence} {n : Nat} {P : Program} {Q : Exit → Act → World → Prop} {b : Frame} {a : Act} {k : List Item} {cs : List Frame} {w : World}
theorem stepR_scope {c : Code} : step P (lone (b.atR a (.code (.scope c) :: k)) cs w) = .next (lone (b.atR a (.code c :: .inScope c :: k)) cs w) :=
  step_lone_go (by simp [stepG, stepG.exec, Frame.atR])
theorem stepR_inScope {c : Code} : step P (lone (b.atR a (.inScope c :: k)) cs w) = .next (lone (b.atR a k) cs w) :=
  step_lone_go (by simp [stepG, stepG.exec, Frame.atR])
theorem wpIn_scope {c : Code} (h : c.wpIn F n P (Exit.noGoto Q) a w) : (Code.scope c).wpIn F n P Q a w := by
  intro b k cs hro hb hr
  have h0 : (lone (b.atR a (.code (.scope c) :: k)) cs w).fenced P F := fenced_calm hb hr rfl
  obtain ⟨e, a₁, w₁, hq, harr⟩ := h b (.inScope c :: k) cs hro hb hr
  cases e with
  | normal => exact ⟨.normal, a₁, w₁, hq, .head h0 stepR_scope (StepsIn.trans harr (.one (fenced_calm hb hr rfl) stepR_inScope))⟩
  | exit id =>
    have hx : exitTo id (.inScope c :: k) = exitTo id k := by simp [exitTo]
    exact ⟨.exit id, a₁, w₁, hq, fun k' hk => .head h0 stepR_scope (harr.1 k' (by rw [hx]; exact hk)),
      fun hr' hk => let ⟨k₁, h1, h2⟩ := harr.2 hr' (by rw [hx]; exact hk); ⟨k₁, h1, .head h0 stepR_scope h2⟩⟩
  | goto l => exact hq.elim
  | ret => exact ⟨_, a₁, w₁, hq, .of_steps (.one h0 stepR_scope) harr⟩
  | panic ch => exact ⟨_, a₁, w₁, hq, .of_steps (.one h0 stepR_scope) harr⟩
  | outgrown => exact ⟨_, a₁, w₁, hq, .of_steps (.one h0 stepR_scope) harr⟩
end
section
variable {P : Program} {κ : Cx} {Q : Pst} {L : Loc} {H : Hp}
theorem c_scope {c : Code} (h : C P κ (Exit.noGoto Q) c L H) : C P κ Q (.scope c) L H := ⟨fun ro a w hr ok => wpIn_scope (h.out ro a w (hr.imp id fun h => by simpa [noDefC] using h) ok)⟩
theorem x_scope (h : X κ (Q .normal) L H) : X κ (Exit.noGoto Q .normal) L H := h
theorem x_scope_ret (h : X κ (Q .ret) L H) : X κ (Exit.noGoto Q .ret) L H := h
end
end Go.HL
namespace Go.Proofs.YtloepfcndglmmaaDoor
open Go Go.HL Go.Proofs Go.HL.Kl Go.HL.Kl.Mc Go.HL.Kl.Mc.AskE
theorem fr_op4 {K : SrE} {f : Frm} {x : Nd} (h : FrOk K f) (hx : K.re[f.node]? = some x) (h4 : x.op = 4) : f.to ≤ K.w.length ∧ (∃ ks e, Part K.re (.nd x ks .nil) f.node e) ∧ ∃ g e2, Part K.re g f.kid e2 ∧ g.num = f.left := by
  obtain ⟨x', ks, e, hp, hto, hc⟩ := h
  have h1 := hp.head.1
  rw [hx] at h1
  cases h1
  refine ⟨hto, ⟨ks, e, hp⟩, ?_⟩
  rcases hc with h | h | h
  · exact h.2
  · omega
  · omega
theorem fr_op6 {K : SrE} {f : Frm} {x : Nd} (h : FrOk K f) (hx : K.re[f.node]? = some x) (h6 : x.op = 6) : f.to ≤ K.w.length ∧ f.kid ≤ 255 ∧ ∃ y js e, Part K.re (.nd x (.nd y js .nil) .nil) f.node e := by
  obtain ⟨x', ks, e, hp, hto, hc⟩ := h
  have h1 := hp.head.1
  rw [hx] at h1
  cases h1
  obtain ⟨y, js, rfl⟩ := one_kid hp.wf (.inl h6)
  refine ⟨hto, ?_, y, js, e, hp⟩
  rcases hc with h | h | h
  · omega
  · exact h.2
  · omega
theorem pushB_fn (K : BkE) (s : BkS) (hR : K.Rep s) (hF : Fin K.sr s.S) (f : Frm) (hf : FrOk K.sr f) (hu : f.up ≤ s.S.fs.length) (u : Nat) (S1 : SS) (hp : s.S.push f = (u, S1)) (hz : Sz S1) : HL.Fn Tryd.prog 86 [pt K.b, .agg (Efr f).toArray] (fun _ => True) ((K.b, .cells [.slice K.ra K.re.length K.rc, .slice K.ta K.w.length K.tc, .slice K.ba K.bl.length K.bc, .slice K.xa K.R.length K.xc, .slice s.fa (zeroF :: s.S.fs).length s.fc, .map (some K.bn), .map (some K.bt), .map (some K.bf), .slice K.sa (K.N + 1) K.sc, .int .i64 (s.S.fuel : Nat), .bool s.d].toArray 103 (0, 0)) :: K.tl s) (fun v S' => ∃ s', v = .int .i64 (u : Nat) ∧ S' = ((K.b, .cells [.slice K.ra K.re.length K.rc, .slice K.ta K.w.length K.tc, .slice K.ba K.bl.length K.bc, .slice K.xa K.R.length K.xc, .slice s'.fa (zeroF :: s'.S.fs).length s'.fc, .map (some K.bn), .map (some K.bt), .map (some K.bf), .slice K.sa (K.N + 1) K.sc, .int .i64 (s'.S.fuel : Nat), .bool s'.d].toArray 103 (0, 0)) :: K.tl s') ∧ K.Rep s' ∧ Fin K.sr s'.S ∧ s'.S = S1 ∧ 1 ≤ u ∧ u ≤ s'.S.fs.length ∧ s'.d = s.d) :=
  Fn.sub (pushK_fn K s hR f (Nat.le_trans (push_gr hp).fs hz.1)) fun v S' ⟨s', h1, h2, h3, h4, _, h5⟩ => by
    rw [hp] at h1 h4
    obtain ⟨a, b, c⟩ := hF.push hf hu hp
    exact ⟨S', HSub.refl _, s', h1, h2, h3, by rw [h4]; exact a, h4, b, by rw [h4]; exact c, h5⟩
set_option maxHeartbeats 4000000 in
theorem rowK_fn (K : BkE) (hK : K.ok) (n : Nat) (s : BkS) (f : Frm) (x : Nd) (at_ : Nat) (b : Bool) (S' : SS) (hR : K.Rep s) (hF : Fin K.sr s.S) (hf1 : FrOk K.sr f) (hx : K.re[f.node]? = some x) (h4 : x.op = 4) (hup : f.up ≤ s.S.fs.length) (hat : at_ ≤ K.w.length) (d2 : Bool) (hE : EvD K.sr s.S s.d (.row f at_) b S' d2) (hn : s.S.fuel ≤ n) (hz : Sz S') (hnx : NextB K n f.up) (hTk : TakeB K n) : HL.Fn Tryd.prog 104 [pt K.b, .agg (Efr f).toArray, .int .i64 at_] (fun W => K.Env W (keys ((K.b, .cells [.slice K.ra K.re.length K.rc, .slice K.ta K.w.length K.tc, .slice K.ba K.bl.length K.bc, .slice K.xa K.R.length K.xc, .slice s.fa (zeroF :: s.S.fs).length s.fc, .map (some K.bn), .map (some K.bt), .map (some K.bf), .slice K.sa (K.N + 1) K.sc, .int .i64 (s.S.fuel : Nat), .bool s.d].toArray 103 (0, 0)) :: K.tl s))) ((K.b, .cells [.slice K.ra K.re.length K.rc, .slice K.ta K.w.length K.tc, .slice K.ba K.bl.length K.bc, .slice K.xa K.R.length K.xc, .slice s.fa (zeroF :: s.S.fs).length s.fc, .map (some K.bn), .map (some K.bt), .map (some K.bf), .slice K.sa (K.N + 1) K.sc, .int .i64 (s.S.fuel : Nat), .bool s.d].toArray 103 (0, 0)) :: K.tl s) (AnsB K S' d2 b) := by
  refine fn_of Tryd.func104 rfl rfl rfl fun w0 hw => ?_
  have hwl := hK.wl
  have hrl := hK.len
  have hsb := hw.d3.sl
  have hbll := hK.bl.1
  obtain ⟨hto, _, g, e2, hg, hgn⟩ := fr_op4 hf1 hx h4
  have hto : f.to ≤ K.w.length := hto
  have hg : Part K.re g f.kid e2 := hg
  have hgnl := g.num_le
  have hgl := hg.len
  have hgle := hg.le
  refine cR fun _ hK1 => ?_; refine o_box rfl rfl rfl fun b4 => ?_; refine oA (oZ hK1 ?_); refine c_scope ?_; refine c_seq fun _ hK2 => ?_; refine cR fun _ hK3 => ?_; refine oS sF ?_; refine oS sL ?_
  by_cases hl0 : (f.left : Int) = 0
  ·have hl : f.left = 0 := by omega
   refine oS eqT (oZ hK3 ?_); refine cT (cR fun _ hK4 => ?_); refine oM ?_; refine oS sF ?_; refine oS sF ?_; refine oS sL ?_
   by_cases het : (at_ : Int) = f.to
   ·have hE2 := ((hE.iRow0 hl).resolve_left fun h => h.1 (by omega)).2
    refine oS eqT (oM ?_); refine oY (oM ?_); refine oY ?_; refine oS sF ?_; refine oY ?_; refine oS sL ?_; refine oY (oM ?_); refine oY ?_; refine o_call (hnx s at_ b S' d2 hR hF hup hat hE2 hn hz) rfl rfl rfl pkA (fun w st => hw.out st (hin_cons meA (hin_cons meA (hin_cons meA (hin_cons meA (hin_app hiA hiA)))))) (fun v23 S23 ⟨s2, hv23, hS23, hR2, hF2, he2, hd2⟩ => ?_); subst hv23
    subst hS23; refine oS sT (oA (oZ hK4 (c_ret ?_))); refine x_then_ret (x_scope_ret (?_))
    refine x_sub (Sub.refl _) (H' := ((K.b, .cells [.slice K.ra K.re.length K.rc, .slice K.ta K.w.length K.tc, .slice K.ba K.bl.length K.bc, .slice K.xa K.R.length K.xc, .slice s2.fa (zeroF :: s2.S.fs).length s2.fc, .map (some K.bn), .map (some K.bt), .map (some K.bf), .slice K.sa (K.N + 1) K.sc, .int .i64 (s2.S.fuel : Nat), .bool s2.d].toArray 103 (0, 0)) :: K.tl s2)) hzB ?_; exact xR rfl rfl (⟨s2, rfl, rfl, hR2, hF2, he2, hd2⟩)
   ·obtain ⟨_, rfl, rfl, rfl⟩ := (hE.iRow0 hl).resolve_right fun h => het (by omega)
    refine oS eqF (oM ?_); refine oN ?_; refine oN ?_; refine oN ?_; refine oN ?_; refine oN ?_; refine oS sP (oA (oZ hK4 (c_ret ?_))); refine x_then_ret (x_scope_ret (?_))
    refine x_sub (Sub.refl _) (H' := ((K.b, .cells [.slice K.ra K.re.length K.rc, .slice K.ta K.w.length K.tc, .slice K.ba K.bl.length K.bc, .slice K.xa K.R.length K.xc, .slice s.fa (zeroF :: s.S.fs).length s.fc, .map (some K.bn), .map (some K.bt), .map (some K.bf), .slice K.sa (K.N + 1) K.sc, .int .i64 (s.S.fuel : Nat), .bool s.d].toArray 103 (0, 0)) :: K.tl s)) hzB ?_; exact xR rfl rfl (⟨s, rfl, rfl, hR, hF, rfl, rfl⟩)
  ·have hl : ¬ f.left = 0 := by omega
   obtain ⟨y, js, r, rfl⟩ : ∃ y js r, g = F.nd y js r := by cases g with | nil => exact absurd hgn.symm hl | nd y a c => exact ⟨y, a, c, rfl⟩
   obtain ⟨hbl, hbh, hble⟩ := hK.beh hg
   have hkl := (List.getElem?_eq_some_iff.1 hg.head.1).1
   have hbl : K.bl[f.kid]? = some (K.sr.bh f.kid) := by rw [hbh]; exact hbl
   obtain ⟨u, S1, hp, hL⟩ := hE.iRowS hl
   have hz1 := hz.gr hL.mono
   have hup1 := (push_gr hp).fuel
   simp only [F.num] at hgn hgnl
   have hfn : FrOk K.sr ({ f with kid := K.sr.bh f.kid, left := f.left - 1, fr := 0 } : Frm) := by obtain ⟨x0, ks0, e0, q1, q2, q3⟩ := hf1; refine ⟨x0, ks0, e0, q1, q2, .inl ⟨by have := q1.head.1; have hx2 : K.sr.re[f.node]? = some x := hx; rw [hx2] at this; cases this; exact h4, r, e2, by show Part K.re r (K.sr.bh f.kid) e2; rw [hbh]; exact hg.head.2.2, by show r.num = f.left - 1; omega⟩⟩
   refine oS eqF (oZ hK3 ?_); refine cFZ hK2 (cR fun _ hK5 => ?_); refine oS (s_ldB rfl (RdPK.cels (.own meA)) lnA) ?_; refine o_alloc rfl rfl fun b7 => ?_; refine o_stW rfl rfl upA lnA lnA onA ?_; refine oZ hK5 (c_seq fun _ hK6 => ?_); refine c_drawE ((b7, .cells (Efr f).toArray 134 (0, 0)) :: ((b4, .cells (Efr f).toArray 134 (0, 0)) :: [(K.b, .cells [.slice K.ra K.re.length K.rc, .slice K.ta K.w.length K.tc, .slice K.ba K.bl.length K.bc, .slice K.xa K.R.length K.xc, .slice s.fa (zeroF :: s.S.fs).length s.fc, .map (some K.bn), .map (some K.bt), .map (some K.bf), .slice K.sa (K.N + 1) K.sc, .int .i64 (s.S.fuel : Nat), .bool s.d].toArray 103 (0, 0))])) (fun i => Nat.beq i 9) ?_; refine eP 0 rfl sM ?_; refine eP 1 rfl sN ?_; refine eP 2 rfl sF ?_; refine eK 3 rfl sL ?_; refine eP 4 rfl sF ?_; refine eK 5 rfl sL ?_; refine eK 6 rfl (s_idx rfl rfl hsb (by omega)) ?_; refine eK 7 rfl (s_ld rfl ((RdK.old hw.d3 hw.a3).ld f.kid 0 hbl rfl (by decide) (by omega))) ?_; refine eO 8 rfl ?_; refine oS sF (oX (eO 9 rfl ?_)); refine o_store rfl rfl rfl upA ltA rfl ?_; refine o_nil ?_; refine x_oneL rfl ?_; refine eZ hK6 (cR fun _ hK7 => ?_); refine oS sF ?_; refine oS sL ?_
   refine oS (step_cast (v' := .int .i64 ((f.left - 1 : Nat) : Int)) (s_sub rfl rfl (by omega)) (congrArg _ (by omega))) ?_; refine oS sF ?_; refine o_store rfl rfl rfl upA ltA rfl ?_; refine oZ hK7 (cR fun _ hK8 => ?_); refine oS sF ?_; refine oS sF ?_; refine o_store rfl rfl rfl upA ltA rfl ?_; refine oZ hK8 (cR fun _ hK9 => ?_); refine oM ?_; refine oS (s_ldB rfl (RdPK.cels (.own meA)) lnA) ?_; refine o_call (pushB_fn K s hR hF ({ f with kid := K.sr.bh f.kid, left := f.left - 1, fr := 0 } : Frm) hfn hup u S1 hp hz1) rfl rfl rfl pkA (fun _ _ => trivial) (fun v43 S43 ⟨s1, hv43, hS43, hR1, hF1, he1, hu1, hu2, hd1⟩ => ?_); subst hv43
   rw [← hd1] at hL
   subst hS43; refine oA (oZ hK9 (c_seq fun _ hK10 => ?_)); refine c_label ?_; refine xZ hK10 (c_seq fun _ hK11 => ?_); refine cR fun _ hK12 => ?_; refine oS sF ?_; refine oS sF ?_; refine oS sL (oA (oZ hK12 (c_block ?_)))
   -- not carried: 6
   refine c_loop2 (fun (q : BkS) (e : Int) => K.Rep q ∧ Fin K.sr q.S ∧ EvD K.sr q.S q.d (.rowL f u at_ (dwn at_ e)) b S' d2 ∧ q.S.fuel ≤ n ∧ u ≤ q.S.fs.length ∧ e ≤ f.to ∧ -1 ≤ e) (fun (q : BkS) (e : Int) => [(9, .int .i64 e)]) [(0, _), (2, _), (4, _), (8, _)] (fun (q : BkS) (e : Int) => (b7, .cells (Efr ({ f with kid := K.sr.bh f.kid, left := f.left - 1, fr := 0 } : Frm)).toArray 134 (0, 0)) :: (b4, .cells (Efr f).toArray 134 (0, 0)) :: ((K.b, .cells [.slice K.ra K.re.length K.rc, .slice K.ta K.w.length K.tc, .slice K.ba K.bl.length K.bc, .slice K.xa K.R.length K.xc, .slice q.fa (zeroF :: q.S.fs).length q.fc, .map (some K.bn), .map (some K.bt), .map (some K.bf), .slice K.sa (K.N + 1) K.sc, .int .i64 (q.S.fuel : Nat), .bool q.d].toArray 103 (0, 0)) :: K.tl q)) (fun (q : BkS) (e : Int) => (e + 1).toNat) s1 f.to ⟨hR1, hF1, by rw [he1, dwn_ends]; exact hL, by rw [he1]; omega, hu2, by omega, by omega⟩ sbA sbA hzB ?_
   rintro q e ⟨hRq, hFq, hEl, hnq, huq, hel, hel1⟩
   refine c_seq fun _ hK13 => ?_; refine cR fun _ hK14 => ?_; refine oM (oM ?_)
   by_cases hee : e ≥ (at_ : Int)
   ·obtain ⟨e, rfl⟩ : ∃ m : Nat, e = (m : Int) := ⟨e.toNat, by omega⟩
    rw [dwn_cons (by omega)] at hEl
    obtain ⟨b1, S2, d1, hT, hc⟩ := hEl.iRowL
    have hz2 : Sz S2 := by rcases hc with ⟨_, _, h, _⟩ | ⟨_, _, _, h, _⟩ | ⟨_, _, h⟩ <;> first | (rw [← h]; exact hz) | exact hz.gr h.mono
    have hTm := hT.mono
    have hT1 := hTm.fuel
    have hT2 := hTm.fs
    refine oS geT (oZ hK14 ?_); refine cTZ hK13 (c_seq fun _ hK15 => ?_); refine c_block (c_seq fun _ hK16 => ?_); refine cR fun _ hK17 => ?_; refine oM ?_; refine oS sF ?_; refine oS sL (oM (oM ?_)); refine oS (s_build (cs := [_, _]) (vs := [_, _]) rfl rfl (.cons rfl rfl rfl rfl rfl (.cons rfl rfl rfl rfl rfl (.nil)))) ?_; refine oM ?_; refine o_call (hTk q f.kid at_ e u b1 S2 d1 hRq hFq hkl (by omega) (by omega) (by omega) hT hnq hz2) rfl rfl rfl pkA (fun w st => hw.out st (hin_cons meA (hin_cons meA (hin_cons meA (hin_cons meA (hin_app hiA hiA)))))) (fun v59 S59 ⟨s2, hv59, hS59, hR2, hF2, he2, hd2⟩ => ?_)
    subst hv59; subst hS59
    cases b1
    ·refine oZ hK17 ?_; refine cFZ hK16 (cR fun _ hK18 => ?_); refine oS sF ?_; refine oS sL ?_
     by_cases hl1 : (f.left : Int) = 1
     ·have hl1 : f.left = 1 := by omega
      obtain ⟨rfl, rfl, rfl⟩ : b = false ∧ S' = S2 ∧ d2 = d1 := by rcases hc with ⟨h, _⟩ | ⟨_, _, h⟩ | ⟨_, h, _⟩ <;> first | exact h | exact absurd hl1 h | cases h
      refine oS eqT (oZ hK18 ?_); refine cT ?_; refine c_exit ?_; refine x_block_pass rfl ?_; refine x_then_exit (x_then_exit (x_block_exit (xZ hK11 (cR fun _ hK19 => ?_)))); refine oA (oZ hK19 (c_ret ?_)); refine x_scope_ret (?_); refine x_sub (Sub.refl _) (H' := ((K.b, .cells [.slice K.ra K.re.length K.rc, .slice K.ta K.w.length K.tc, .slice K.ba K.bl.length K.bc, .slice K.xa K.R.length K.xc, .slice s2.fa (zeroF :: s2.S.fs).length s2.fc, .map (some K.bn), .map (some K.bt), .map (some K.bf), .slice K.sa (K.N + 1) K.sc, .int .i64 (s2.S.fuel : Nat), .bool s2.d].toArray 103 (0, 0)) :: K.tl s2)) hzB ?_
      exact xR rfl rfl (⟨s2, rfl, rfl, hR2, hF2, he2, hd2⟩)
     ·have hEl2 : EvD K.sr S2 d1 (.rowL f u at_ (dwn at_ ((e : Int) - 1))) b S' d2 := by rcases hc with ⟨h, _⟩ | ⟨_, h, _⟩ | ⟨_, _, h⟩ <;> first | exact h | cases h | exact absurd (by omega) hl1
      rw [← he2, ← hd2] at hEl2
      refine oS eqF (oZ hK18 ?_); refine cF (c_skip (x_block (xZ hK15 (c_region (oM ?_))))); refine oS sU (oA (o_nil ?_)); exact xI (s2, (e : Int) - 1) ⟨hR2, hF2, hEl2, by dsimp only; rw [he2]; omega, by dsimp only; rw [he2]; omega, by dsimp only; omega, by dsimp only; omega⟩
    ·obtain ⟨rfl, rfl, rfl⟩ : b = true ∧ S' = S2 ∧ d2 = d1 := by rcases hc with ⟨_, h⟩ | ⟨h, _⟩ | ⟨h, _⟩ <;> first | exact h | cases h
     refine oZ hK17 ?_; refine cT (cR fun _ hK20 => ?_); refine oA (oZ hK20 (c_ret ?_)); refine x_then_ret (x_block_ret (x_then_ret (x_then_ret (x_block_ret (x_then_ret (x_scope_ret (?_)))))))
     refine x_sub (Sub.refl _) (H' := ((K.b, .cells [.slice K.ra K.re.length K.rc, .slice K.ta K.w.length K.tc, .slice K.ba K.bl.length K.bc, .slice K.xa K.R.length K.xc, .slice s2.fa (zeroF :: s2.S.fs).length s2.fc, .map (some K.bn), .map (some K.bt), .map (some K.bf), .slice K.sa (K.N + 1) K.sc, .int .i64 (s2.S.fuel : Nat), .bool s2.d].toArray 103 (0, 0)) :: K.tl s2)) hzB ?_; exact xR rfl rfl (⟨s2, rfl, rfl, hR2, hF2, he2, hd2⟩)
   ·rw [dwn_nil hee] at hEl
    obtain ⟨rfl, rfl, rfl⟩ := hEl.iRowL0
    refine oS geF (oZ hK14 ?_); refine cF ?_; refine c_exit ?_; refine x_then_exit (x_then_exit (x_block_exit (xZ hK11 (cR fun _ hK21 => ?_)))); refine oA (oZ hK21 (c_ret ?_)); refine x_scope_ret (?_); refine x_sub (Sub.refl _) (H' := ((K.b, .cells [.slice K.ra K.re.length K.rc, .slice K.ta K.w.length K.tc, .slice K.ba K.bl.length K.bc, .slice K.xa K.R.length K.xc, .slice q.fa (zeroF :: q.S.fs).length q.fc, .map (some K.bn), .map (some K.bt), .map (some K.bf), .slice K.sa (K.N + 1) K.sc, .int .i64 (q.S.fuel : Nat), .bool q.d].toArray 103 (0, 0)) :: K.tl q)) hzB ?_
    exact xR rfl rfl (⟨q, rfl, rfl, hRq, hFq, rfl, rfl⟩)
end Go.Proofs.YtloepfcndglmmaaDoor
