/- Part of the proofs over this seat: see the text that holds the theorem. Conditions: each theorem bears its own. -/
import Derived.Test.YtmompllplidphaaGreatDoorHTZ
import Derived.Test.YtmompllplidphaaGreatDoorMC9Z
import Derived.Test.YtmompllplidphaaGreatDoorHlB
import Derived.StillTail
import Derived.Test.YtmompllplidphaaGreatDoorMT3Z
namespace Go.Proofs.YtmompllplidphaaGreatDoor
open Go Go.HL Go.Proofs Go.HL.Kl Go.HL.Kl.Mc Go.HL.Sts
theorem with_fn (s : Sp) (p : Nat) (hp : p < 24) : HL.Fn Tryz.prog 96 [.agg (E3 (s)).toArray, .int .i64 p] (fun _ => True) [] (fun v _ => v = .agg (E3 (s ||| pit p)).toArray) := by
  refine fn_of Tryz.func96 rfl rfl rfl fun w0 hw => ?_
  rw [← withs_eq s hp]
  refine cR fun _ hK1 => ?_; refine o_box rfl rfl rfl fun b2 => ?_; refine o_alloc (l := E3 0) (by rfl) rfl fun b4 => ?_; refine oZ hK1 (c_seq fun _ hK2 => ?_); refine c_tail 9 (by kernel_rfl) ?_; refine .op rfl (s_move rfl) ?_; refine .op rfl (step_cast (v' := .int .i64 ((p / 8 : Nat) : Int)) (s_quo rfl rfl (by decide)) (congrArg _ (quoS hp))) ?_; refine .op rfl (s_idx1 rfl rfl (by omega)) ?_; refine .op rfl (s_ld rfl ((RdPK.own meA).cel (j := p / 8) (Es_get _ (by omega)) (by omega))) ?_; refine .op rfl (s_move rfl) ?_; refine .op rfl (step_cast (v' := .int .i64 ((p % 8 : Nat) : Int)) (s_rem rfl rfl (by decide)) (congrArg _ (remS hp))) ?_; refine .op rfl (step_cast (v' := Ep (1#8 <<< (p % 8))) (s_shl rfl rfl (by omega)) (vs_shl1 (by omega))) ?_; refine .op rfl (step_cast (s_or rfl rfl) (vs_or (wp s (p / 8)) (1#8 <<< (p % 8)))) ?_; refine .op rfl (s_idx1 rfl rfl (by omega)) ?_; refine .nil ?_; refine o_store rfl rfl rfl upA (by show p / 8 < 3; omega) rfl ?_
  rw [Es_set _ _ (by omega)]
  refine oZ hK2 (cR fun _ hK3 => ?_); refine oS (s_ldB rfl (RdPK.cels (.own meA)) lnA) ?_; refine o_stW rfl rfl upA lnA lnA onA ?_; refine oZ hK3 (c_ret ?_); refine ?_; exact x_ret rfl (.agg inferInstance inferInstance rfl (RdPK.cels (.own meA)) lnA (.nil)) (rfl)
theorem hasS_fn (s : Sp) (p : Nat) (hp : p < 24) : HL.Fn Tryz.prog 108 [.agg (E3 (s)).toArray, .int .i64 p] (fun _ => True) [] (fun v _ => v = .bool (s.getLsbD p)) := by
  refine fn_of Tryz.func108 rfl rfl rfl fun w0 hw => ?_; refine cR fun _ hK1 => ?_; refine o_box rfl rfl rfl fun b2 => ?_; refine oA (oZ hK1 (cR fun _ hK2 => ?_)); refine oM ?_; refine oS (step_cast (v' := .int .i64 ((p / 8 : Nat) : Int)) (s_quo rfl rfl (by decide)) (congrArg _ (quoS hp))) ?_; refine oS (s_idx1 rfl rfl (by omega)) ?_; refine oS (s_ld rfl ((RdPK.own meA).cel (j := p / 8) (Es_get _ (by omega)) (by omega))) ?_; refine oM ?_; refine oS (step_cast (v' := .int .i64 ((p % 8 : Nat) : Int)) (s_rem rfl rfl (by decide)) (congrArg _ (remS hp))) ?_; refine oS (s_shr rfl rfl (by omega)) ?_; refine oS (s_and rfl rfl) ?_; refine oS (step_cast (v' := .bool (s.getLsbD p)) (s_eql rfl rfl) (congrArg Value.bool (hasS s hp))) ?_; refine oA (oZ hK2 (c_ret ?_)); refine ?_; exact xR rfl rfl (rfl)
theorem orS_fn (a b : Sp) : HL.Fn Tryz.prog 109 [.agg (E3 (a)).toArray, .agg (E3 (b)).toArray] (fun _ => True) [] (fun v _ => v = .agg (E3 (a ||| b)).toArray) := by
  refine fn_of Tryz.func109 rfl rfl rfl fun w0 hw => ?_
  rw [← mapP_or a b]
  refine cR fun _ hK1 => ?_; refine o_box rfl rfl rfl fun b2 => ?_; refine o_box rfl rfl rfl fun b3 => ?_; refine o_alloc (l := E3 0) (by rfl) rfl fun b4 => ?_; refine oZ hK1 (c_seq fun _ hK2 => ?_); refine cR fun _ hK3 => ?_; refine oM (oZ hK3 (c_block ?_)); refine c_loopB (fun (i : Nat) => i ≤ 3) (fun (i : Nat) => [(6, .int .i64 i)]) [(2, _), (3, _), (4, _)] (fun (i : Nat) => [(b4, .cells (E3 0).toArray 90 (0, 0)), (b3, .cells (E3 (b)).toArray 90 (0, 0)), (b2, .cells (E3 ((mapP (fun i w => w ||| wp b i) a i))).toArray 90 (0, 0))]) (fun (i : Nat) => 3 - i) 0 (by omega) sbA sbA hzB ?_
  rintro i hI
  refine cR fun _ hK4 => ?_; refine oS (s_lss rfl rfl) ?_; refine oZ hK4 (c_seq fun _ hK5 => ?_); refine c_if rfl (fun hlt => ?_) (fun hlt => ?_)
  ·refine c_skip (xZ hK5 (c_seq fun _ hK6 => ?_)); refine c_block (cR fun _ hK7 => ?_); refine oM (oA (oZ hK7 ?_)); refine c_tail 8 (by kernel_rfl) ?_; refine .op rfl (s_move rfl) ?_; refine .op rfl (s_idx1 rfl rfl (by omega)) ?_; refine .op rfl (s_ld rfl ((RdPK.own meA).cel (j := i) (Es_get _ (by omega)) (by omega))) ?_; refine .op rfl (s_move rfl) ?_; refine .op rfl (s_idx1 rfl rfl (by omega)) ?_; refine .op rfl (s_ld rfl ((RdPK.own meA).cel (j := i) (Es_get _ (by omega)) (by omega))) ?_; refine .op rfl (step_cast (s_or rfl rfl) (vs_or (wp _ i) (wp b i))) ?_; refine .op rfl (s_idx1 rfl rfl (by omega)) ?_; refine .nil ?_; refine o_store rfl rfl rfl upA (by show i < 3; omega) rfl ?_
   rw [Es_set _ _ (by omega)]
   refine o_nil (x_block (xZ hK6 (c_region ?_))); refine oS sD (oM (o_nil ?_)); exact xI (i + 1) (by omega)
  ·obtain rfl : i = 3 := by omega
   refine c_exit ?_; refine x_then_exit (x_then_exit (x_block_exit (xZ hK2 (cR fun _ hK8 => ?_)))); refine oS (s_ldB rfl (RdPK.cels (.own meA)) lnA) ?_; refine o_stW rfl rfl upA lnA lnA onA ?_; refine oZ hK8 (c_ret ?_); refine ?_; exact x_ret rfl (.agg inferInstance inferInstance rfl (RdPK.cels (.own meA)) lnA (.nil)) (rfl)
theorem meets_fn (a b : Sp) : HL.Fn Tryz.prog 110 [.agg (E3 (a)).toArray, .agg (E3 (b)).toArray] (fun _ => True) [] (fun v _ => v = .bool (decide (a &&& b ≠ 0))) := by
  refine fn_of Tryz.func110 rfl rfl rfl fun w0 hw => ?_; refine cR fun _ hK1 => ?_; refine o_box rfl rfl rfl fun b2 => ?_; refine o_box rfl rfl rfl fun b3 => ?_; refine oA (oZ hK1 (c_seq fun _ hK2 => ?_)); refine cR fun _ hK3 => ?_; refine oM (oZ hK3 (c_block ?_))
  -- not carried: 4
  refine c_loopB (fun (i : Nat) => i ≤ 3 ∧ ∀ j, j < i → wp a j &&& wp b j = 0#8) (fun (i : Nat) => [(6, .int .i64 i)]) [(2, _), (3, _)] (fun (i : Nat) => [(b3, .cells (E3 (b)).toArray 90 (0, 0)), (b2, .cells (E3 (a)).toArray 90 (0, 0))]) (fun (i : Nat) => 3 - i) 0 ⟨by omega, fun _ h => absurd h (Nat.not_lt_zero _)⟩ sbA sbA hzB ?_
  rintro i ⟨hI, hz⟩
  refine cR fun _ hK4 => ?_; refine oS (s_lss rfl rfl) ?_; refine oZ hK4 (c_seq fun _ hK5 => ?_); refine c_if rfl (fun hlt => ?_) (fun hlt => ?_)
  ·refine c_skip (xZ hK5 (c_seq fun _ hK6 => ?_)); refine c_block (cR fun _ hK7 => ?_); refine oM (oA (oZ hK7 (c_seq fun _ hK8 => ?_))); refine c_quiet (by kernel_rfl) ?_; refine .op rfl (s_move rfl) ?_; refine .op rfl (s_idx1 rfl rfl (by omega)) ?_; refine .op rfl (s_ld rfl ((RdPK.own meA).cel (j := i) (Es_get _ (by omega)) (by omega))) ?_; refine .op rfl (s_move rfl) ?_; refine .op rfl (s_idx1 rfl rfl (by omega)) ?_; refine .op rfl (s_ld rfl ((RdPK.own meA).cel (j := i) (Es_get _ (by omega)) (by omega))) ?_; refine .op rfl (step_cast (s_and rfl rfl) (vs_and (wp a i) (wp b i))) ?_
   by_cases hm : wp a i &&& wp b i ≠ 0#8
   ·refine .op rfl (step_cast (v' := .bool true) (s_neq rfl rfl) (congrArg Value.bool (decide_eq_true (fun h => hm (Ep_zero.1 h))))) ?_; refine .nil ?_; refine xZ hK8 ?_; refine cT (cR fun _ hK9 => ?_); refine oA (oZ hK9 (c_ret ?_)); refine x_block_ret (x_then_ret (x_then_ret (x_block_ret (x_then_ret (?_)))))
    exact xR rfl rfl (congrArg Value.bool (decide_eq_true (meet_yes hm)).symm)
   ·refine .op rfl (step_cast (v' := .bool false) (s_neq rfl rfl) (congrArg Value.bool (decide_eq_false (fun h => hm (fun e => h (Ep_zero.2 e)))))) ?_; refine .nil ?_; refine xZ hK8 ?_; refine cF (c_skip (x_block (xZ hK6 (c_region ?_)))); refine oS sD (oM (o_nil ?_)); exact xI (i + 1) ⟨by omega, meet_next hz (Classical.not_not.1 hm)⟩
  ·obtain rfl : i = 3 := by omega
   refine c_exit ?_; refine x_then_exit (x_then_exit (x_block_exit (xZ hK2 (cR fun _ hK10 => ?_)))); refine oA (oZ hK10 (c_ret ?_)); refine ?_; exact xR rfl rfl (congrArg Value.bool (decide_eq_false (fun h => h (meet_no hz))).symm)
theorem nothing_fn  : HL.Fn Tryz.prog 98 [] (fun _ => True) [] (fun v _ => v = .agg (Ep4 (nothP)).toArray) := by
  refine fn_of Tryz.func98 rfl rfl rfl fun w0 hw => ?_; refine cR fun _ hK1 => ?_; refine o_alloc (l := Ep4 zeroP) (by rfl) rfl fun b0 => ?_; refine oZ hK1 (cR fun _ hK2 => ?_); refine oS (s_buildA (cs := [_, _]) (vs := [_, _]) rfl rfl (.cons rfl rfl rfl rfl (.cons rfl rfl rfl rfl (.nil)))) ?_; refine oS (s_buildA (cs := [_, _]) (vs := [_, _]) rfl rfl (.cons rfl rfl rfl rfl (.cons rfl rfl rfl rfl (.nil)))) ?_; refine oS (s_buildA (cs := [_, _, _, _]) (vs := [_, _]) rfl rfl (.cons rfl rfl rfl rfl (.cons rfl rfl rfl rfl (.nil)))) ?_; refine oS (s_build (cs := [_, _, _, _, _, _, _, _, _, _, _, _, _, _, _, _]) (vs := [_]) rfl rfl (.cons rfl rfl rfl rfl rfl (.nil))) ?_; refine o_stW rfl rfl upA lnA lnA onA ?_; refine oZ hK2 (c_ret ?_); refine ?_
  exact x_ret rfl (.agg inferInstance inferInstance rfl (RdPK.cels (.own meA)) lnA (.nil)) (rfl)
end Go.Proofs.YtmompllplidphaaGreatDoor
namespace Go.HL
open Go
section
variable {P : Program} {ro : Option Nat} {ops : Array Oper} {Q : Pst} {md : Region.Mode} {S S0 : World → Prop} {late : Nat → Bool}
def waitsT (md : Region.Mode) (ops : Array Oper) : Nat → Nat → Nat → Bool
  | 0, _, _ => false
  | n + 1, j, i => match ops[j]? with
    | some o => o.after.toList.any fun e => Region.binds md e && (e.on == i || waitsT md ops n e.on i)
    | none => false
def Closed (md : Region.Mode) (ops : Array Oper) (li : Array Bool) : Prop := ∀ j oj, ops[j]? = some oj → li.getD j false = true → ∀ e ∈ oj.after, Region.binds md e = true → li.getD e.on false = true
def closedB (md : Region.Mode) (ops : Array Oper) (li : Array Bool) : Bool := (List.range ops.size).all fun j => !(li.getD j false) || (match ops[j]? with
  | some o => o.after.toList.all fun e => !(Region.binds md e) || li.getD e.on false
  | none => true)
theorem closedB_spec {li : Array Bool} (h : closedB md ops li = true) : Closed md ops li := fun j oj hj hl e he hb => by
  have hlt : j < ops.size := (Array.getElem?_eq_some_iff.1 hj).1
  have h1 := List.all_eq_true.1 h j (List.mem_range.2 hlt)
  rw [hl, hj] at h1
  simp only [Bool.not_true, Bool.false_or] at h1
  have h2 := List.all_eq_true.1 h1 e (by simpa using he)
  rw [hb] at h2
  simpa using h2
def lateTB (md : Region.Mode) (ops : Array Oper) (late : Nat → Bool) (f i : Nat) : Bool := (List.range ops.size).all fun j => !late j || waitsT md ops f j i
theorem lateTB_spec {f i : Nat} (h : lateTB md ops late f i = true) : ∀ j oj, ops[j]? = some oj → late j = true → ∃ f, waitsT md ops f j i = true := fun j oj hj hlj => by
  have hlt : j < ops.size := (Array.getElem?_eq_some_iff.1 hj).1
  have h1 := List.all_eq_true.1 h j (List.mem_range.2 hlt)
  rw [hlj] at h1
  simp only [Bool.not_true, Bool.false_or] at h1
  exact ⟨f, h1⟩
theorem Closed.waits {li : Array Bool} (hcl : Closed md ops li) {i : Nat} : ∀ (f j : Nat), waitsT md ops f j i = true → (∀ o, ops[j]? = some o → ∀ e ∈ o.after, Region.binds md e = true → li.getD e.on false = true) → li.getD i false = true
  | 0, _, h, _ => by cases h
  | f + 1, j, h, hp => by
    unfold waitsT at h
    split at h
    · rename_i o ho
      obtain ⟨e, he, hb⟩ := List.any_eq_true.1 h
      simp only [Bool.and_eq_true, Bool.or_eq_true, beq_iff_eq] at hb
      have hm : e ∈ o.after := by simpa using he
      have h1 := hp o ho e hm hb.1
      rcases hb.2 with h2 | h2
      · rw [← h2]; exact h1
      · exact hcl.waits f e.on h2 fun o' ho' x hx hbx => hcl e.on o' ho' h1 x hx hbx
    · cases h
theorem Closed.set {li : Array Bool} (hcl : Closed md ops li) {j : Nat} (hp : ∀ o, ops[j]? = some o → ∀ e ∈ o.after, Region.binds md e = true → li.getD e.on false = true) : Closed md ops (li.setIfInBounds j true) := fun k ok hk hl e he hb => by
  by_cases h : j = k
  · subst h; exact getD_set_true (hp ok hk e he hb)
  · rw [getD_set_ne false h] at hl
    exact getD_set_true (hcl k ok hk hl e he hb)
theorem wpL_firstT {i : Nat} {o : Oper} {v : Value} (hi : ops[i]? = some o) (hsel : ∀ (j : Nat) (o : Oper) cs b, ops[j]? = some o → o.op ≠ .select cs b) (hQ : ∀ c a w, Q (.panic c) (a.put o.dst v) w → Q (.panic c) a w)
    (hl : ∀ j oj, ops[j]? = some oj → late j = true → ∃ f, waitsT md ops f j i = true) :
    ∀ (n : Nat) (li : Array Bool) (a : Act) (w : World),
      (∀ j oj, ops[j]? = some oj → j ≠ i → li.getD j true = false → (∀ e ∈ oj.after, Region.binds md e = true → e.on ≠ i) → o.apart ops oj = true) →
      Closed md ops li → i ∈ Region.ready md ops li → YieldsIf P ops S o v a → S w → S0 w → wpL ro P md ops Q S S0 late n (li.setIfInBounds i true) (a.put o.dst v) w → wpL ro P md ops Q S S0 late (n + 1) li a w := by
  intro n
  induction n with
  | zero =>
    intro li a w _ hcl hr hy hS hS0 h
    refine ⟨fun h0 => absurd (h0 ▸ hr) (by simp), fun j hj => ?_⟩
    by_cases e : j = i
    · subst e; exact yif_op hi hy hS ⟨fun _ h => h, hS0, h⟩
    · have := ready_mono hj e
      rw [h.1] at this; cases this
  | succ n ih =>
    intro li a w hf hcl hr hy hS hS0 h
    refine ⟨fun h0 => absurd (h0 ▸ hr) (by simp), fun j hj => ?_⟩
    by_cases e : j = i
    · subst e; exact yif_op hi hy hS ⟨fun _ h => h, hS0, h⟩
    · have h1 := h.2 j (ready_mono hj e)
      obtain ⟨hu, oj, hoj, hall⟩ := mem_ready.1 hj
      have hno : ∀ x ∈ oj.after, Region.binds md x = true → x.on ≠ i := by
        intro x hx hb he
        have e1 := hall x hx hb
        have e0 := (mem_ready.1 hr).1
        rw [he] at e1
        rcases Nat.lt_or_ge i li.size with hs | hs
        · simp [hs] at e0 e1; rw [e0] at e1; cases e1
        · simp [Array.getElem?_eq_none hs] at e1
      have hlate : late j = false := by
        cases hj' : late j
        · rfl
        · obtain ⟨f, hwt⟩ := hl j oj hoj hj'
          have h9 := hcl.waits f j hwt fun o' ho' x hx hb => by rw [hoj] at ho'; cases ho'; exact hall x hx hb
          rw [getD_both (mem_ready.1 hr).1] at h9; cases h9
      have h2 := wpOpR_putIf hoj (hf j oj hoj e hu hno) (fun cs b => hsel i o cs b hi) (fun cs b => hsel j oj cs b hoj) hQ hy h1
      have hf' : ∀ k ok, ops[k]? = some ok → k ≠ i → (li.setIfInBounds j true).getD k true = false → (∀ x ∈ ok.after, Region.binds md x = true → x.on ≠ i) → o.apart ops ok = true := by
        intro k ok hk hki hun hn
        refine hf k ok hk hki ?_ hn
        by_cases ejk : j = k
        · subst ejk; exact hu
        · rwa [getD_set_ne true ejk] at hun
      refine wpOpIn_mono (fun a' w' h3 => ⟨h3.2.1, h3.2.2.1, ih (li.setIfInBounds j true) a' w' hf' (hcl.set fun o' ho' x hx hb => by rw [hoj] at ho'; cases ho'; exact hall x hx hb) (ready_mono hr (Ne.symm e)) h3.1 (h3.2.1 hlate hS) h3.2.2.1 ?_⟩) h2
      rw [Array.setIfInBounds_comm _ _ e]
      exact h3.2.2.2
end
section
variable {P : Program} {κ : Cx} {Q : Pst} {L L' : Loc} {H H' : Hp} {ops : Array Oper} {rest : List Oper} {ty t t' : TypeId} {d : Nat} {pos : String} {af : Array Edge} {v u : Value} {x y z : Operand} {op : Op} {late : Nat → Bool}
theorem e_takeT (i : Nat) {fuel : Nat} {listed : Array Bool} {Hs : Hp} {g : Option (Nat × Bool)} (hi : ops[i]? = some ⟨some d, op, ty, pos, af, g⟩) (hsl : Region.noSelect ops = true) (hfr : Region.free .any ops listed i = true) (hr : (Region.ready .any ops listed).contains i = true)
    (f : Nat) (hcl : closedB .any ops listed = true) (hlt : lateTB .any ops late f i = true) (hg : ∀ a : Act, Fr a κ.n κ.ds L → Region.wanted ⟨some d, op, ty, pos, af, g⟩ (yielded ops a.tmps) = true) (hn : Nat.blt d κ.n = true) (hS : HSub H Hs) (hs : Step P κ op ty L Hs v) (h : E P κ ops Q Hs late fuel (listed.setIfInBounds i true) ((d, v) :: L) H) : E P κ ops Q Hs late (fuel + 1) listed L H := by
  refine ⟨fun ro a w hro ok => ?_⟩
  exact wpL_firstT hi (Region.noSelect_spec hsl) (fun c a w h => h.elim) (lateTB_spec hlt) fuel listed a w (Region.free_spec hi hfr) (closedB_spec hcl) (by simpa using hr)
    (.inl ⟨hg a ok.fr, fun w' st => hs.out a.eval w' _ _ _ _ (fun x u hu => ok.fr.ev hu) st⟩) (ok.st.sub hS) (ok.st.sub HSub.nil) (h.out ro _ _ hro ⟨ok.fr.put hn v, ok.st⟩)
end
end Go.HL
namespace Go.HL
open Go
section
variable {P : Program} {κ : Cx} {Q : Pst} {L L' : Loc} {H H' : Hp} {ops : Array Oper} {rest : List Oper} {ty t t' : TypeId} {d : Nat} {pos : String} {af : Array Edge} {v u : Value} {x y z : Operand} {α : Type} {E : α → List Value} {k : Nat}
theorem Fn.sub {f : FuncId} {args : List Value} {pre : World → Prop} {S : Hp} {post post' : Value → Hp → Prop} (h : Fn P f args pre S post) (hq : ∀ v S', post v S' → ∃ S2, HSub S' S2 ∧ post' v S2) : Fn P f args pre S post' :=
  ⟨h.enters, fun w hw hS => (h.calls w hw hS).mono fun e w' hpost => by
    obtain ⟨v, S', he, hv, hst⟩ := hpost.out
    obtain ⟨S2, h1, h2⟩ := hq _ _ hv
    exact ⟨v, S2, he, h2, hst.sub h1⟩⟩
end
end Go.HL
namespace Go.Proofs.YtmompllplidphaaGreatDoor
open Go Go.HL Go.Proofs Go.HL.Kl Go.HL.Kl.Mc Go.HL.Sts
theorem joins_fn (bx : Nat) (ra : Option Addr) (rc rn : Nat) (sa : Option Addr) (sc sn : Nat) (fa : Option Addr) (fc : Nat) (fol : List Sp) (Sf : Hp) (hf : OwnS E3 3 90 (.slice fa fol.length fc) fol Sf) (a b : Sp) (hl : fol.length ≤ 24) : HL.Fn Tryz.prog 134 [.pointer (some ⟨bx, 0, none⟩), .agg (E3 (a)).toArray, .agg (E3 (b)).toArray] (fun _ => True) ((bx, .cells [.slice ra rn rc, .slice sa sn sc, .slice fa fol.length fc].toArray 86 (0, 0)) :: Sf) (fun _ S' => ∃ Sf', S' = ((bx, .cells [.slice ra rn rc, .slice sa sn sc, .slice fa (joinF fol a b).length fc].toArray 86 (0, 0)) :: Sf') ∧ OwnS E3 3 90 (.slice fa (joinF fol a b).length fc) (joinF fol a b) Sf') := by
  refine fn_of Tryz.func134 rfl rfl rfl fun w0 hw => ?_
  rw [joinF_len]
  refine cR fun _ hK1 => ?_; refine o_box rfl rfl rfl fun b4 => ?_; refine o_box rfl rfl rfl fun b5 => ?_; refine oZ hK1 (cR fun _ hK2 => ?_); refine oM ?_; refine oS sN ?_; refine oS sF ?_; refine oS sL ?_; refine oS sC (oM (oZ hK2 (c_block ?_))); refine c_loop2 (fun (i : Nat) (Si : Hp) => i ≤ fol.length ∧ OwnS E3 3 90 (.slice fa fol.length fc) (joinTo fol a b i) Si) (fun (i : Nat) (Si : Hp) => [(12, .int .i64 i)]) [(0, _), (4, _), (5, _), (11, _)] (fun (i : Nat) (Si : Hp) => (b4, .cells (E3 (a)).toArray 90 (0, 0)) :: (b5, .cells (E3 (b)).toArray 90 (0, 0)) :: (bx, .cells [.slice ra rn rc, .slice sa sn sc, .slice fa fol.length fc].toArray 86 (0, 0)) :: Si) (fun (i : Nat) (Si : Hp) => fol.length - i) 0 Sf ⟨by omega, by simpa [joinTo] using hf⟩ sbA sbA hzB ?_
  rintro i Si ⟨hI, hO⟩
  have hjl := joinTo_len fol a b i
  have hsl := hO.sl
  rw [hjl] at hsl
  refine cR fun _ hK3 => ?_; refine oS (s_lss rfl rfl) ?_; refine oZ hK3 (c_seq fun _ hK4 => ?_); refine c_if rfl (fun hlt => ?_) (fun hlt => ?_)
  ·obtain ⟨s, hs⟩ : ∃ s, fol[i]? = some s := gE
   refine c_skip (xZ hK4 (c_seq fun _ hK5 => ?_)); refine c_block (cR fun _ hK6 => ?_); refine oM (oA (oZ hK6 (cR fun _ hK7 => ?_))); refine oS (s_ldB rfl (RdPK.cels (.own meA)) lnA) ?_; refine oM ?_; refine o_callP (hasS_fn a i (by omega)) rfl rfl rfl (fun _ _ => trivial) (fun v17 hv17 => ?_); subst hv17
   cases hb : BitVec.getLsbD a i
   ·refine oZ hK7 ?_; refine cF (c_skip (x_block (xZ hK5 (c_region ?_)))); refine oS sD (oM (o_nil ?_)); exact xI (i + 1, _) ⟨by omega, by rw [← joinTo_no hs hb]; exact hO⟩
   ·refine oZ hK7 ?_; refine cT ?_; refine c_drawE ((b4, .cells (E3 (a)).toArray 90 (0, 0)) :: (b5, .cells (E3 (b)).toArray 90 (0, 0)) :: (bx, .cells [.slice ra rn rc, .slice sa sn sc, .slice fa fol.length fc].toArray 86 (0, 0)) :: Si) (fun i => Nat.beq i 15) ?_; refine eK 0 rfl sM ?_; refine eK 1 rfl sN ?_; refine eK 2 rfl sF ?_; refine eK 3 rfl sL ?_; refine eK 4 rfl sM ?_; refine eK 5 rfl sM ?_; refine eK 6 rfl sN ?_; refine eK 7 rfl sF ?_; refine eK 8 rfl sL ?_; refine eK 9 rfl sM ?_; refine eK 10 rfl (s_idx rfl rfl (by assumption) (by omega)) ?_; refine eK 11 rfl (s_ldB rfl ((hO.rdk hiA).lds i (joinTo_get hs) rfl) lnA) ?_; refine eK 12 rfl (s_ldB rfl (RdPK.cels (.own meA)) lnA) ?_; refine eO 13 rfl ?_; refine o_callP (orS_fn s b) rfl rfl rfl (fun _ _ => trivial) (fun v31 hv31 => ?_); subst hv31
    refine oX (eO 14 rfl ?_); refine oS (s_idx rfl rfl (by assumption) (by omega)) ?_; refine oX (eO 15 rfl ?_); refine o_stSE i (s ||| b) hO pkA rfl rfl (by omega) (by rw [Int.toNat_natCast]) fun S15 hO15 => ?_
    rw [joinTo_yes hs hb] at hO15
    refine o_nil ?_; refine x_oneL rfl ?_; refine e_done (by kernel_rfl) ?_; refine x_block (xZ hK5 (c_region ?_)); refine oS sD (oM (o_nil ?_)); exact xI (i + 1, _) ⟨by omega, hO15⟩
  ·obtain rfl : i = fol.length := by omega
   rw [joinTo_end] at hO
   refine c_exit ?_; refine x_then_exit (x_then_exit (x_block_exit ?_)); refine x_sub (Sub.refl _) (H' := (bx, .cells [.slice ra rn rc, .slice sa sn sc, .slice fa fol.length fc].toArray 86 (0, 0)) :: Si) hzB ?_; exact x_end rfl (.nil) (⟨_, rfl, hO⟩)
theorem alt_fn (a b : Pt) : HL.Fn Tryz.prog 101 [.agg (Ep4 (a)).toArray, .agg (Ep4 (b)).toArray] (fun _ => True) [] (fun v _ => v = .agg (Ep4 (altP a b)).toArray) := by
  refine fn_of Tryz.func101 rfl rfl rfl fun w0 hw => ?_
  rw [← altTo_end a b]
  refine cR fun _ hK1 => ?_; refine o_box rfl rfl rfl fun b2 => ?_; refine o_box rfl rfl rfl fun b3 => ?_; refine o_alloc (l := Ep4 zeroP) (by rfl) rfl fun b4 => ?_; refine oZ hK1 (c_seq fun _ hK2 => ?_); refine cR fun _ hK3 => ?_; refine oM (oZ hK3 (c_block ?_)); refine c_loopB (fun (i : Nat) => i ≤ 2) (fun (i : Nat) => [(7, .int .i64 i)]) [(2, _), (3, _), (4, _)] (fun (i : Nat) => [(b4, .cells (Ep4 zeroP).toArray 93 (0, 0)), (b3, .cells (Ep4 (b)).toArray 93 (0, 0)), (b2, .cells (Ep4 (altTo a b i)).toArray 93 (0, 0))]) (fun (i : Nat) => 2 - i) 0 (by omega) sbA sbA hzB ?_
  rintro i hI
  refine cR fun _ hK4 => ?_; refine oS (s_lss rfl rfl) ?_; refine oZ hK4 (c_seq fun _ hK5 => ?_); refine c_if rfl (fun hlt => ?_) (fun hlt => ?_)
  ·refine c_skip (xZ hK5 (c_seq fun _ hK6 => ?_)); refine c_block (cR fun _ hK7 => ?_); refine oM (oA (oZ hK7 (c_seq fun _ hK8 => ?_))); refine c_drawE ([(b4, .cells (Ep4 zeroP).toArray 93 (0, 0)), (b3, .cells (Ep4 (b)).toArray 93 (0, 0)), (b2, .cells (Ep4 (altTo a b i)).toArray 93 (0, 0))]) (fun i => Nat.beq i 22 || Nat.beq i 25) ?_; refine eP 0 rfl sM ?_; refine eP 1 rfl sM ?_; refine eP 2 rfl sM ?_; refine eP 3 rfl sF ?_; refine eP 4 rfl (s_indexA rfl rfl (by omega)) ?_; refine e_takeT 5 rfl (by kernel_rfl) (by kernel_rfl) (by kernel_rfl) 40 (by kernel_rfl) (by kernel_rfl) (fun _ _ => rfl) rfl hzB (s_ldB rfl ((RdPK.cels (RdPK.own' meA (Ep4_F (i := i) (by omega) (by omega))))) lnA) ?_; refine eP 6 rfl sM ?_; refine eP 7 rfl sF ?_; refine eP 8 rfl (s_indexA rfl rfl (by omega)) ?_; refine e_takeT 9 rfl (by kernel_rfl) (by kernel_rfl) (by kernel_rfl) 40 (by kernel_rfl) (by kernel_rfl) (fun _ _ => rfl) rfl hzB (s_ldB rfl ((RdPK.cels (RdPK.own' meA (Ep4_F (i := i) (by omega) (by omega))))) lnA) ?_; refine eP 11 rfl sM ?_; refine eP 12 rfl sF ?_; refine eP 13 rfl (s_indexA rfl rfl (by omega)) ?_; refine e_takeT 14 rfl (by kernel_rfl) (by kernel_rfl) (by kernel_rfl) 40 (by kernel_rfl) (by kernel_rfl) (fun _ _ => rfl) rfl hzB (s_ldB rfl ((RdPK.cels (RdPK.own' meA (Ep4_L (i := i) (by omega) (by omega))))) lnA) ?_; refine eP 15 rfl sM ?_; refine eP 16 rfl sF ?_; refine eP 17 rfl (s_indexA rfl rfl (by omega)) ?_; refine e_takeT 18 rfl (by kernel_rfl) (by kernel_rfl) (by kernel_rfl) 40 (by kernel_rfl) (by kernel_rfl) (fun _ _ => rfl) rfl hzB (s_ldB rfl ((RdPK.cels (RdPK.own' meA (Ep4_L (i := i) (by omega) (by omega))))) lnA) ?_
   refine eP 20 rfl sF ?_; refine eP 23 rfl sF (eO 10 rfl ?_); refine o_callP (orS_fn (getF (altTo a b i) i) (getF b i)) rfl rfl rfl (fun _ _ => trivial) (fun v20 hv20 => ?_); subst hv20
   refine oX ?_; refine eP 21 rfl (s_indexA rfl rfl (by omega)) ?_; refine eO 19 rfl ?_; refine o_callP (orS_fn (getL (altTo a b i) i) (getL b i)) rfl rfl rfl (fun _ _ => trivial) (fun v29 hv29 => ?_); subst hv29
   refine oX (eO 22 rfl ?_); refine o_storeA (l := _) (off := _) rfl rfl rfl (Es_one _) upA (by show _ ≤ 16; rw [Es_len]; omega) (fun _ _ => frz0) ?_
   rw [Ep4_setF (i := i) (by omega) (by omega)]
   refine o_nil ?_; refine x_oneL rfl ?_; refine eP 24 rfl (s_indexA rfl rfl (by omega)) ?_; refine eO 25 rfl ?_; refine o_storeA (l := _) (off := _) rfl rfl rfl (Es_one _) upA (by show _ ≤ 16; rw [Es_len]; omega) (fun _ _ => frz0) ?_
   rw [Ep4_setL (i := i) (by omega) (by omega)]
   refine o_nil ?_; refine x_oneL rfl ?_; refine eZ hK8 (cR fun _ hK9 => ?_); refine oM (oZ hK9 (c_block ?_)); refine c_loopB (fun (k : Nat) => k ≤ 2) (fun (k : Nat) => [(34, .int .i64 k)]) [(2, _), (3, _), (4, _), (5, _), (7, _), (8, _), (9, _), (10, _), (11, _), (12, _), (13, _), (14, _), (15, _), (16, _), (17, _), (18, _), (19, _), (20, _), (21, _), (22, _), (23, _), (24, _), (25, _), (26, _), (27, _), (28, _), (29, _), (30, _), (31, _), (32, _), (33, _)] (fun (k : Nat) => [(b4, .cells (Ep4 zeroP).toArray 93 (0, 0)), (b3, .cells (Ep4 (b)).toArray 93 (0, 0)), (b2, .cells (Ep4 (altN (alt1 (altTo a b i) b i) b i k)).toArray 93 (0, 0))]) (fun (k : Nat) => 2 - k) 0 (by omega) sbA sbA hzB ?_
   rintro k hK
   refine cR fun _ hK10 => ?_; refine oS (s_lss rfl rfl) ?_; refine oZ hK10 (c_seq fun _ hK11 => ?_); refine c_if rfl (fun hlk => ?_) (fun hlk => ?_)
   ·refine c_skip (xZ hK11 (c_seq fun _ hK12 => ?_)); refine c_block (cR fun _ hK13 => ?_); refine oM (oA (oZ hK13 ?_)); refine c_drawE ([(b4, .cells (Ep4 zeroP).toArray 93 (0, 0)), (b3, .cells (Ep4 (b)).toArray 93 (0, 0)), (b2, .cells (Ep4 (altN (alt1 (altTo a b i) b i) b i k)).toArray 93 (0, 0))]) (fun i => Nat.beq i 19) ?_; refine eK 0 rfl sM ?_; refine eK 1 rfl sM ?_; refine eK 2 rfl sM ?_; refine eK 3 rfl sM ?_; refine eK 4 rfl sF ?_; refine eK 5 rfl (s_indexA rfl rfl (by omega)) ?_; refine eK 6 rfl (s_indexA rfl rfl (by omega)) ?_; refine eK 7 rfl (s_ld rfl (.own meA (Ep4_N (i := i) (k := k) (by omega) (by omega) (by omega)))) ?_
    by_cases hb : getN (altN (alt1 (altTo a b i) b i) b i k) i k = true
    ·refine eK 8 rfl (step_cast (v' := .bool true) (s_move rfl) (by rw [hb])) ?_; refine eS 9 rfl (eS 10 rfl (eS 11 rfl (eS 12 rfl (eS 13 rfl (eS 14 rfl ?_))))); refine eK 15 rfl sT ?_; refine eP 16 rfl sF ?_; refine eP 17 rfl (s_indexA rfl rfl (by omega)) ?_; refine eP 18 rfl (s_indexA rfl rfl (by omega)) ?_; refine eO 19 rfl ?_; refine o_store rfl rfl rfl upA (by rw [Ep4_len]; omega) rfl ?_
     rw [Ep4_setN (i := i) (k := k) (by omega) (by omega) (by omega)]
     first | rw [altN_t hb] | rw [altN_f (by simpa using hb)]
     refine o_nil ?_; refine x_oneL rfl ?_; refine e_done (by kernel_rfl) ?_; refine x_block (xZ hK12 (c_region ?_)); refine oS sD (oM (o_nil ?_)); exact xI (k + 1) (by omega)
    ·refine eK 8 rfl (step_cast (v' := .bool false) (s_move rfl) (by rw [Bool.not_eq_true] at hb; rw [hb])) ?_; refine eG 9 rfl sM ?_; refine eG 10 rfl sM ?_; refine eG 11 rfl sF ?_; refine eG 12 rfl (s_indexA rfl rfl (by omega)) ?_; refine eG 13 rfl (s_indexA rfl rfl (by omega)) ?_; refine eG 14 rfl (s_ld rfl (.own meA (Ep4_N (i := i) (k := k) (by omega) (by omega) (by omega)))) ?_; refine eK 15 rfl sP ?_; refine eP 16 rfl sF ?_; refine eP 17 rfl (s_indexA rfl rfl (by omega)) ?_; refine eP 18 rfl (s_indexA rfl rfl (by omega)) ?_; refine eO 19 rfl ?_; refine o_store rfl rfl rfl upA (by rw [Ep4_len]; omega) rfl ?_
     rw [Ep4_setN (i := i) (k := k) (by omega) (by omega) (by omega)]
     first | rw [altN_t hb] | rw [altN_f (by simpa using hb)]
     refine o_nil ?_; refine x_oneL rfl ?_; refine e_done (by kernel_rfl) ?_; refine x_block (xZ hK12 (c_region ?_)); refine oS sD (oM (o_nil ?_)); exact xI (k + 1) (by omega)
   ·obtain rfl : k = 2 := by omega
    refine c_exit ?_; refine x_then_exit (x_then_exit (x_block_exit (x_block (xZ hK6 (c_region ?_))))); refine oS sD (oM (o_nil ?_)); exact xI (i + 1) (by omega)
  ·obtain rfl : i = 2 := by omega
   refine c_exit ?_; refine x_then_exit (x_then_exit (x_block_exit (xZ hK2 (cR fun _ hK14 => ?_)))); refine oS (s_ldB rfl (RdPK.cels (.own meA)) lnA) ?_; refine o_stW rfl rfl upA lnA lnA onA ?_; refine oZ hK14 (c_ret ?_); refine ?_; exact x_ret rfl (.agg inferInstance inferInstance rfl (RdPK.cels (.own meA)) lnA (.nil)) (rfl)
theorem catO_fn (bx : Nat) (ra : Option Addr) (rc rn : Nat) (sa : Option Addr) (sc sn : Nat) (fa : Option Addr) (fc : Nat) (fol : List Sp) (Sf : Hp) (hf : OwnS E3 3 90 (.slice fa fol.length fc) fol Sf) (a b : Pt) (hl : fol.length ≤ 24) : HL.Fn Tryz.prog 99 [.pointer (some ⟨bx, 0, none⟩), .agg (Ep4 (a)).toArray, .agg (Ep4 (b)).toArray] (fun _ => True) ((bx, .cells [.slice ra rn rc, .slice sa sn sc, .slice fa fol.length fc].toArray 86 (0, 0)) :: Sf) (fun v S' => ∃ S2, HSub S' S2 ∧ v = .agg (Ep4 (catP a b)).toArray ∧ ∃ Sf', S2 = ((bx, .cells [.slice ra rn rc, .slice sa sn sc, .slice fa (joinF fol a.l0 b.f0).length fc].toArray 86 (0, 0)) :: Sf') ∧ OwnS E3 3 90 (.slice fa (joinF fol a.l0 b.f0).length fc) (joinF fol a.l0 b.f0) Sf') := by
  refine fn_of Tryz.func99 rfl rfl rfl fun w0 hw => ?_
  rw [← catTo_end a b]
  refine cR fun _ hK1 => ?_; refine o_box rfl rfl rfl fun b4 => ?_; refine o_box rfl rfl rfl fun b5 => ?_; refine o_alloc (l := Ep4 zeroP) (by rfl) rfl fun b6 => ?_; refine oZ hK1 (cR fun _ hK2 => ?_); refine o_alloc (l := Ep4 zeroP) (by rfl) rfl fun b7 => ?_; refine oZ hK2 (cR fun _ hK3 => ?_); refine oM ?_; refine oS sF ?_; refine oS (s_indexA rfl rfl (by omega)) ?_; refine oS (s_ldB rfl ((RdPK.cels (RdPK.own' meA (Ep4_L (i := 0) (by omega) (by omega))))) lnA) ?_; refine oS sF ?_; refine oS (s_indexA rfl rfl (by omega)) ?_; refine oS (s_ldB rfl ((RdPK.cels (RdPK.own' meA (Ep4_F (i := 0) (by omega) (by omega))))) lnA) ?_; refine o_call (joins_fn bx ra rc rn sa sc sn fa fc fol Sf hf (getL a 0) (getF b 0) hl) rfl rfl rfl ((Pick.takeC pkA pkA)) (fun _ _ => trivial) (fun v17 S17x ⟨S17, hS17x, hO17⟩ => ?_)
  subst hS17x; refine oZ hK3 (c_seq fun _ hK4 => ?_); refine cR fun _ hK5 => ?_; refine oM (oZ hK5 (c_block ?_)); refine c_loopB (fun (i : Nat) => i ≤ 2) (fun (i : Nat) => [(18, .int .i64 i)]) [(4, _), (5, _), (6, _), (7, _)] (fun (i : Nat) => [(b7, .cells (Ep4 (catTo a b i)).toArray 93 (0, 0)), (b6, .cells (Ep4 zeroP).toArray 93 (0, 0)), (b5, .cells (Ep4 (b)).toArray 93 (0, 0)), (b4, .cells (Ep4 (a)).toArray 93 (0, 0))] ++ ((bx, .cells [.slice ra rn rc, .slice sa sn sc, .slice fa (joinF fol a.l0 b.f0).length fc].toArray 86 (0, 0)) :: S17)) (fun (i : Nat) => 2 - i) 0 (by omega) sbA sbA hzB ?_
  rintro i hI
  refine cR fun _ hK6 => ?_; refine oS (s_lss rfl rfl) ?_; refine oZ hK6 (c_seq fun _ hK7 => ?_); refine c_if rfl (fun hlt => ?_) (fun hlt => ?_)
  ·refine c_skip (xZ hK7 (c_seq fun _ hK8 => ?_)); refine c_block (cR fun _ hK9 => ?_); refine oM (oA (oZ hK9 (c_seq fun _ hK10 => ?_))); refine c_drawE ([(b5, .cells (Ep4 (b)).toArray 93 (0, 0)), (b4, .cells (Ep4 (a)).toArray 93 (0, 0))]) (fun i => false) ?_; refine eK 0 rfl sM ?_; refine eK 1 rfl sM ?_; refine eK 2 rfl sM ?_; refine eK 3 rfl sF ?_; refine eK 4 rfl (s_indexA rfl rfl (by omega)) ?_; refine eK 5 rfl (s_ldB rfl ((RdPK.cels (RdPK.own' meA (Ep4_F (i := i) (by omega) (by omega))))) lnA) ?_; refine eK 6 rfl sM ?_; refine eK 7 rfl sF ?_; refine eK 8 rfl (s_indexA rfl rfl (by omega)) ?_; refine eK 9 rfl (s_ldB rfl ((RdPK.cels (RdPK.own' meA (Ep4_L (i := i) (by omega) (by omega))))) lnA) ?_; refine eP 10 rfl sF ?_; refine eP 13 rfl sF ?_; refine eP 11 rfl (s_indexA rfl rfl (by omega)) ?_; refine eO 12 rfl ?_; refine o_storeA (l := _) (off := _) rfl rfl rfl (Es_one _) upA (by show _ ≤ 16; rw [Es_len]; omega) (fun _ _ => frz0) ?_
   rw [Ep4_setF (i := i) (by omega) (by omega)]
   refine oX ?_; refine eP 14 rfl (s_indexA rfl rfl (by omega)) ?_; refine eO 15 rfl ?_; refine o_storeA (l := _) (off := _) rfl rfl rfl (Es_one _) upA (by show _ ≤ 16; rw [Es_len]; omega) (fun _ _ => frz0) ?_
   rw [Ep4_setL (i := i) (by omega) (by omega)]
   rw [cat1_eq]
   refine oX (eZ hK10 ?_); refine c_seqJ (ι := Unit) (fun _g => True) (fun _g => []) [(4, _), (5, _), (6, _), (7, _), (8, _), (18, _), (19, _), (20, _), (21, _), (22, _), (23, _), (24, _), (25, _), (26, _), (27, _), (28, _), (29, _), (30, _), (31, _), (32, _), (33, _), (34, _)] (fun _g => [(b7, .cells (Ep4 ((cat2 (cat1 (catTo a b i) a b i) a b i))).toArray 93 (0, 0)), (b6, .cells (Ep4 zeroP).toArray 93 (0, 0)), (b5, .cells (Ep4 (b)).toArray 93 (0, 0)), (b4, .cells (Ep4 (a)).toArray 93 (0, 0))] ++ ((bx, .cells [.slice ra rn rc, .slice sa sn sc, .slice fa (joinF fol a.l0 b.f0).length fc].toArray 86 (0, 0)) :: S17)) sbA ?_ ?_
   ·rintro _g _
    refine c_seqJ (ι := Unit) (fun _g => True) (fun _g => []) [(4, _), (5, _), (6, _), (7, _), (8, _), (18, _), (19, _), (20, _), (21, _), (22, _), (23, _), (24, _), (25, _), (26, _), (27, _), (28, _), (29, _), (30, _), (31, _), (32, _), (33, _), (34, _)] (fun _g => [(b7, .cells (Ep4 ((cat3 (cat2 (cat1 (catTo a b i) a b i) a b i) a b i))).toArray 93 (0, 0)), (b6, .cells (Ep4 zeroP).toArray 93 (0, 0)), (b5, .cells (Ep4 (b)).toArray 93 (0, 0)), (b4, .cells (Ep4 (a)).toArray 93 (0, 0))] ++ ((bx, .cells [.slice ra rn rc, .slice sa sn sc, .slice fa (joinF fol a.l0 b.f0).length fc].toArray 86 (0, 0)) :: S17)) sbA ?_ ?_
    ·rintro _g _
     refine cR fun _ hK13 => ?_; refine oM (oZ hK13 (c_block ?_)); refine c_loopB (fun (k : Nat) => k ≤ 2) (fun (k : Nat) => [(69, .int .i64 k)]) [(4, _), (5, _), (6, _), (7, _), (8, _), (18, _), (19, _), (20, _), (21, _), (22, _), (23, _), (24, _), (25, _), (26, _), (27, _), (28, _), (29, _), (30, _), (31, _), (32, _), (33, _), (34, _)] (fun (k : Nat) => [(b7, .cells (Ep4 (catN (cat3 (cat2 (cat1 (catTo a b i) a b i) a b i) a b i) a b i k)).toArray 93 (0, 0)), (b6, .cells (Ep4 zeroP).toArray 93 (0, 0)), (b5, .cells (Ep4 (b)).toArray 93 (0, 0)), (b4, .cells (Ep4 (a)).toArray 93 (0, 0))] ++ ((bx, .cells [.slice ra rn rc, .slice sa sn sc, .slice fa (joinF fol a.l0 b.f0).length fc].toArray 86 (0, 0)) :: S17)) (fun (k : Nat) => 2 - k) 0 (by omega) sbA sbA hzB ?_
     rintro k hK
     refine cR fun _ hK14 => ?_; refine oS (s_lss rfl rfl) ?_; refine oZ hK14 (c_seq fun _ hK15 => ?_); refine c_if rfl (fun hlk => ?_) (fun hlk => ?_)
     ·refine c_skip (xZ hK15 (c_seq fun _ hK16 => ?_)); refine c_block (cR fun _ hK17 => ?_); refine oM (oA (oZ hK17 ?_)); refine c_drawE ([(b7, .cells (Ep4 (catN (cat3 (cat2 (cat1 (catTo a b i) a b i) a b i) a b i) a b i k)).toArray 93 (0, 0)), (b6, .cells (Ep4 zeroP).toArray 93 (0, 0)), (b5, .cells (Ep4 (b)).toArray 93 (0, 0)), (b4, .cells (Ep4 (a)).toArray 93 (0, 0))]) (fun i => Nat.beq i 19) ?_; refine eK 0 rfl sM ?_; refine eK 1 rfl sM ?_; refine eK 2 rfl sM ?_; refine eK 3 rfl sM ?_; refine eK 4 rfl sF ?_; refine eK 5 rfl (s_indexA rfl rfl (by omega)) ?_; refine eK 6 rfl (s_indexA rfl rfl (by omega)) ?_; refine eK 7 rfl (s_ld rfl (.own meA (Ep4_N (i := i) (k := k) (by omega) (by omega) (by omega)))) ?_
      by_cases hb : getN a i k = true
      ·refine eK 8 rfl (step_cast (v' := .bool true) (s_move rfl) (by rw [hb])) ?_; refine eG 9 rfl sM ?_; refine eG 10 rfl sM ?_; refine eG 11 rfl sF ?_; refine eG 12 rfl (s_indexA rfl rfl (by omega)) ?_; refine eG 13 rfl (s_indexA rfl rfl (by omega)) ?_; refine eG 14 rfl (s_ld rfl (.own meA (Ep4_N (i := i) (k := k) (by omega) (by omega) (by omega)))) ?_; refine eK 15 rfl sT ?_; refine eP 16 rfl sF ?_; refine eP 17 rfl (s_indexA rfl rfl (by omega)) ?_; refine eP 18 rfl (s_indexA rfl rfl (by omega)) ?_; refine eO 19 rfl ?_; refine o_store rfl rfl rfl upA (by rw [Ep4_len]; omega) rfl ?_
       rw [Ep4_setN (i := i) (k := k) (by omega) (by omega) (by omega)]
       first | rw [catN_t hb] | rw [catN_f (by simpa using hb)]
       refine o_nil ?_; refine x_oneL rfl ?_; refine e_done (by kernel_rfl) ?_; refine x_block (xZ hK16 (c_region ?_)); refine oS sD (oM (o_nil ?_)); exact xI (k + 1) (by omega)
      ·refine eK 8 rfl (step_cast (v' := .bool false) (s_move rfl) (by rw [Bool.not_eq_true] at hb; rw [hb])) ?_; refine eS 9 rfl (eS 10 rfl (eS 11 rfl (eS 12 rfl (eS 13 rfl (eS 14 rfl ?_))))); refine eK 15 rfl sP ?_; refine eP 16 rfl sF ?_; refine eP 17 rfl (s_indexA rfl rfl (by omega)) ?_; refine eP 18 rfl (s_indexA rfl rfl (by omega)) ?_; refine eO 19 rfl ?_; refine o_store rfl rfl rfl upA (by rw [Ep4_len]; omega) rfl ?_
       rw [Ep4_setN (i := i) (k := k) (by omega) (by omega) (by omega)]
       first | rw [catN_t hb] | rw [catN_f (by simpa using hb)]
       refine o_nil ?_; refine x_oneL rfl ?_; refine e_done (by kernel_rfl) ?_; refine x_block (xZ hK16 (c_region ?_)); refine oS sD (oM (o_nil ?_)); exact xI (k + 1) (by omega)
     ·obtain rfl : k = 2 := by omega
      refine c_exit ?_; refine x_then_exit (x_then_exit (x_block_exit (x_block (xZ hK8 (c_region ?_))))); refine oS sD (oM (o_nil ?_)); exact xI (i + 1) (by omega)
    ·intro _ hJ12
     refine cR fun _ hK18 => ?_; refine oM ?_; refine oS sF ?_; refine oS (s_indexA rfl rfl (by omega)) ?_; refine oS (s_indexA rfl rfl (by omega)) ?_
     by_cases hn2 : getN b 0 i = true
     ·refine oS (step_cast (v' := .bool true) (s_ld rfl (.own meA (Ep4_N (i := 0) (k := i) (by omega) (by omega) (by omega)))) (by rw [hn2])) ?_; refine oZ hK18 ?_; refine cT ?_; refine c_drawE ([(b7, .cells (Ep4 ((cat2 (cat1 (catTo a b i) a b i) a b i))).toArray 93 (0, 0)), (b6, .cells (Ep4 zeroP).toArray 93 (0, 0)), (b5, .cells (Ep4 (b)).toArray 93 (0, 0)), (b4, .cells (Ep4 (a)).toArray 93 (0, 0))]) (fun i => Nat.beq i 12) ?_; refine eK 0 rfl sM ?_; refine eK 1 rfl sM ?_; refine eK 2 rfl sF ?_; refine eK 3 rfl (s_indexA rfl rfl (by omega)) ?_; refine eK 4 rfl (s_ldB rfl ((RdPK.cels (RdPK.own' meA (Ep4_L (i := i) (by omega) (by omega))))) lnA) ?_; refine eK 5 rfl sM ?_; refine eK 6 rfl sF ?_; refine eK 7 rfl (s_indexA rfl rfl (by omega)) ?_; refine eK 8 rfl (s_ldB rfl ((RdPK.cels (RdPK.own' meA (Ep4_L (i := i) (by omega) (by omega))))) lnA) ?_; refine eP 10 rfl sF (eO 9 rfl ?_); refine o_callP (orS_fn (getL (cat2 (cat1 (catTo a b i) a b i) a b i) i) (getL a i)) rfl rfl rfl (fun _ _ => trivial) (fun v66 hv66 => ?_); subst hv66
      refine oX ?_; refine eP 11 rfl (s_indexA rfl rfl (by omega)) ?_; refine eO 12 rfl ?_; refine o_storeA (l := _) (off := _) rfl rfl rfl (Es_one _) upA (by show _ ≤ 16; rw [Es_len]; omega) (fun _ _ => frz0) ?_
      rw [Ep4_setL (i := i) (by omega) (by omega)]
      rw [cat3_t hn2]
      refine o_nil ?_; refine x_oneL rfl ?_; refine e_done (by kernel_rfl) ?_; exact x_then (hJ12 () _ _ trivial sbA sbA hzB)
     ·refine oS (step_cast (v' := .bool false) (s_ld rfl (.own meA (Ep4_N (i := 0) (k := i) (by omega) (by omega) (by omega)))) (by rw [eq_false_of_ne_true hn2])) ?_; refine oZ hK18 ?_; refine cF (c_skip ?_); exact x_then (hJ12 () _ _ trivial sbA sbA (by rw [cat3_f hn2]; exact hzB))
   ·intro _ hJ11
    refine cR fun _ hK19 => ?_; refine oM ?_; refine oS sF ?_; refine oS (s_indexA rfl rfl (by omega)) ?_; refine oS (s_indexA rfl rfl (by omega)) ?_
    by_cases hn1 : getN a i 0 = true
    ·refine oS (step_cast (v' := .bool true) (s_ld rfl (.own meA (Ep4_N (i := i) (k := 0) (by omega) (by omega) (by omega)))) (by rw [hn1])) ?_; refine oZ hK19 ?_; refine cT ?_; refine c_drawE ([(b7, .cells (Ep4 ((cat1 (catTo a b i) a b i))).toArray 93 (0, 0)), (b6, .cells (Ep4 zeroP).toArray 93 (0, 0)), (b5, .cells (Ep4 (b)).toArray 93 (0, 0)), (b4, .cells (Ep4 (a)).toArray 93 (0, 0))]) (fun i => Nat.beq i 12) ?_; refine eK 0 rfl sM ?_; refine eK 1 rfl sM ?_; refine eK 2 rfl sF ?_; refine eK 3 rfl (s_indexA rfl rfl (by omega)) ?_; refine eK 4 rfl (s_ldB rfl ((RdPK.cels (RdPK.own' meA (Ep4_F (i := i) (by omega) (by omega))))) lnA) ?_; refine eK 5 rfl sM ?_; refine eK 6 rfl sF ?_; refine eK 7 rfl (s_indexA rfl rfl (by omega)) ?_; refine eK 8 rfl (s_ldB rfl ((RdPK.cels (RdPK.own' meA (Ep4_F (i := i) (by omega) (by omega))))) lnA) ?_; refine eP 10 rfl sF (eO 9 rfl ?_); refine o_callP (orS_fn (getF (cat1 (catTo a b i) a b i) i) (getF b i)) rfl rfl rfl (fun _ _ => trivial) (fun v49 hv49 => ?_); subst hv49
     refine oX ?_; refine eP 11 rfl (s_indexA rfl rfl (by omega)) ?_; refine eO 12 rfl ?_; refine o_storeA (l := _) (off := _) rfl rfl rfl (Es_one _) upA (by show _ ≤ 16; rw [Es_len]; omega) (fun _ _ => frz0) ?_
     rw [Ep4_setF (i := i) (by omega) (by omega)]
     rw [cat2_t hn1]
     refine o_nil ?_; refine x_oneL rfl ?_; refine e_done (by kernel_rfl) ?_; exact x_then (hJ11 () _ _ trivial sbA sbA hzB)
    ·refine oS (step_cast (v' := .bool false) (s_ld rfl (.own meA (Ep4_N (i := i) (k := 0) (by omega) (by omega) (by omega)))) (by rw [eq_false_of_ne_true hn1])) ?_; refine oZ hK19 ?_; refine cF (c_skip ?_); exact x_then (hJ11 () _ _ trivial sbA sbA (by rw [cat2_f hn1]; exact hzB))
  ·obtain rfl : i = 2 := by omega
   refine c_exit ?_; refine x_then_exit (x_then_exit (x_block_exit (xZ hK4 (cR fun _ hK20 => ?_)))); refine oS (s_ldB rfl (RdPK.cels (.own meA)) lnA) ?_; refine o_stW rfl rfl upA lnA lnA onA ?_; refine oZ hK20 (c_ret ?_); refine ?_; exact x_ret rfl (.agg inferInstance inferInstance rfl (RdPK.cels (.own meA)) lnA (.nil)) (⟨(bx, .cells [.slice ra rn rc, .slice sa sn sc, .slice fa (joinF fol a.l0 b.f0).length fc].toArray 86 (0, 0)) :: S17, by exact hzB, rfl, S17, rfl, hO17⟩)
theorem cat_fn (bx : Nat) (ra : Option Addr) (rc rn : Nat) (sa : Option Addr) (sc sn : Nat) (fa : Option Addr) (fc : Nat) (fol : List Sp) (Sf : Hp) (hf : OwnS E3 3 90 (.slice fa fol.length fc) fol Sf) (a b : Pt) (hl : fol.length ≤ 24) : HL.Fn Tryz.prog 99 [.pointer (some ⟨bx, 0, none⟩), .agg (Ep4 (a)).toArray, .agg (Ep4 (b)).toArray] (fun _ => True) ((bx, .cells [.slice ra rn rc, .slice sa sn sc, .slice fa fol.length fc].toArray 86 (0, 0)) :: Sf) (fun v S' => v = .agg (Ep4 (catP a b)).toArray ∧ ∃ Sf', S' = ((bx, .cells [.slice ra rn rc, .slice sa sn sc, .slice fa (joinF fol a.l0 b.f0).length fc].toArray 86 (0, 0)) :: Sf') ∧ OwnS E3 3 90 (.slice fa (joinF fol a.l0 b.f0).length fc) (joinF fol a.l0 b.f0) Sf') :=
  HL.Fn.sub (catO_fn bx ra rc rn sa sc sn fa fc fol Sf hf a b hl) fun v S' ⟨S2, h1, h2⟩ => ⟨S2, h1, h2⟩
end Go.Proofs.YtmompllplidphaaGreatDoor
namespace Go.HL.Kl.Mc
open Go Go.HL Go.HL.Kl
theorem flat_inj : ∀ (f g : F) (r s : List Nd), f.wf → g.wf → f.num = g.num → f.flat ++ r = g.flat ++ s → f = g ∧ r = s
  | .nil, .nil, r, s, _, _, _, h => ⟨rfl, h⟩
  | .nil, .nd _ _ _, _, _, _, _, hn, _ => by simp [F.num] at hn
  | .nd _ _ _, .nil, _, _, _, _, hn, _ => by simp [F.num] at hn
  | .nd x ks f, .nd y js g, r, s, hf, hg, hn, h => by
    simp only [F.flat, List.cons_append, List.append_assoc, List.cons.injEq] at h
    obtain ⟨rfl, h⟩ := h
    have hk : ks.num = js.num := by have := hf.2.1; have := hg.2.1; omega
    obtain ⟨e1, h1⟩ := flat_inj ks js _ _ hf.2.2.1 hg.2.2.1 hk h
    obtain ⟨e2, h2⟩ := flat_inj f g _ _ hf.2.2.2 hg.2.2.2 (by simpa [F.num] using hn) h1
    exact ⟨by rw [e1, e2], h2⟩
def ShpP (re : List Nd) : Prop := (∃ en, shN re 260 0 [] 0 = some (re.length, en)) ∧ ∃ x ks, Shp re x ks
noncomputable def shapedB (re : List Nd) : Bool := @decide (ShpP re) (Classical.propDecidable _)
theorem shapedB_iff {re : List Nd} : shapedB re = true ↔ ShpP re := by
  unfold shapedB
  constructor
  · intro h; exact @of_decide_eq_true _ (Classical.propDecidable _) h
  · intro h; exact @decide_eq_true _ (Classical.propDecidable _) h
theorem shapedB_no {re : List Nd} (h : ¬ ShpP re) : shapedB re = false := Bool.eq_false_iff.2 fun h' => h (shapedB_iff.1 h')
theorem shp_none {re : List Nd} (h : shN re 260 0 [] 0 = none) : shapedB re = false := shapedB_no fun ⟨⟨en, h'⟩, _⟩ => by rw [h] at h'; cases h'
theorem shp_end {re : List Nd} {j : Nat} {en : List Bool} (h : shN re 260 0 [] 0 = some (j, en)) (hj : j ≠ re.length) : shapedB re = false := shapedB_no fun ⟨⟨en', h'⟩, _⟩ => by
  rw [h] at h'; cases h'; exact hj rfl
theorem shp_tree {re : List Nd} {en : List Bool} (h : shN re 260 0 [] 0 = some (re.length, en)) : ∃ x ks, Part re (.nd x ks .nil) 0 re.length ∧ ks.depth + 1 ≤ 260 ∧ shapedB re = decide (cut (F.nd x ks .nil).weight ≤ 16384) := by
  obtain ⟨x, ks, ht⟩ := shN_tree _ _ _ _ _ _ h
  have hp := ht.part
  have hflat : re = x :: ks.flat := by simpa using ht.flat
  refine ⟨x, ks, hp, ht.dep, ?_⟩
  by_cases hw : (F.nd x ks .nil).weight ≤ 16384
  · rw [decide_eq_true (by unfold cut; omega)]
    exact shapedB_iff.2 ⟨⟨en, h⟩, x, ks, ⟨ht.wf, hflat, ht.dep, hw⟩⟩
  · rw [decide_eq_false (by unfold cut; omega)]
    refine shapedB_no fun ⟨_, y, js, hs⟩ => hw ?_
    have := flat_inj (.nd x ks .nil) (.nd y js .nil) [] [] ht.wf hs.wf rfl (by simp only [F.flat, List.append_nil]; rw [← hflat, ← hs.flat])
    rw [this.1]; exact hs.weight
noncomputable def refsB (re : List Nd) : Bool := shapedB re && re.any fun x => x.op == 8
theorem refs_yes {re : List Nd} {x : Nd} (hs : shapedB re = true) (hx : x ∈ re) (h8 : x.op = 8) : refsB re = true := by
  rw [refsB, hs, Bool.true_and, List.any_eq_true]
  exact ⟨x, hx, by simp [h8]⟩
theorem refs_no {re : List Nd} (h : ∀ j (x : Nd), j < re.length → re[j]? = some x → ¬ x.op = 8) : refsB re = false := by
  have : (re.any fun x => x.op == 8) = false := by
    rw [Bool.eq_false_iff]
    intro h'
    obtain ⟨x, hx, h8⟩ := List.any_eq_true.1 h'
    obtain ⟨j, hj⟩ := List.getElem?_of_mem hx
    exact h j x (List.getElem?_eq_some_iff.1 hj).1 hj (by simpa using h8)
  rw [refsB, this, Bool.and_false]
theorem refs_step {re : List Nd} {j : Nat} {x : Nd} (h : ∀ q (x : Nd), q < j → re[q]? = some x → ¬ x.op = 8) (hx : re[j]? = some x) (h8 : ¬ x.op = 8) : ∀ q (x : Nd), q < j + 1 → re[q]? = some x → ¬ x.op = 8 := by
  intro q y hq hy
  by_cases e : q = j
  · subst e; rw [hx] at hy; cases hy; exact h8
  · exact h q y (by omega) hy
theorem refs_shp {re : List Nd} (h : shapedB re = false) : refsB re = false := by rw [refsB, h, Bool.false_and]
def Eix (n : Nat) : List Value := [.int .i64 n]
instance : Enc Eix 1 := ⟨fun _ => rfl, fun _ _ h => by simp [Eix] at h; subst h; rfl⟩
def EndsOk (re : List Nd) (a : Nat) (l : List Nat) : Prop := l.length = re.length ∧ ∀ (i : Nat) (x : Nd) (ks r : F) (i' : Nat), a ≤ i → Part re (.nd x ks r) i i' → l[i]? = some (i + 1 + ks.size)
def codeOne (x : Nd) (ks : F) (b : Nat) : List In := oneC x (fun b => code ks false b 0) (fun b => code ks true b (b + lenM ks true)) (lenM ks false) b
def lenT (x : Nd) (ks : F) : Nat := lenOne x (lenM ks false) (lenM ks true)
def jmps : F → Nat → List Nat
  | .nil, _ => []
  | .nd x ks r, b => match r with
    | .nil => []
    | _ => (b + 1 + lenT x ks) :: jmps r (b + lenT x ks + 2)
def patch (l : List In) (ps : List Nat) (e : Nat) : List In := ps.foldl (fun l p => l.set p ⟨4, 0, e, 0⟩) l
section
variable {x : Nd} {ks : F} {b : Nat}
end
def IsJ (l : List In) (p : Nat) : Prop := ∃ v : Int, l[p]? = some ⟨4, 0, v, 0⟩
end Go.HL.Kl.Mc
namespace Go.HL.Kl.Mc
open Go Go.HL Go.HL.Kl
theorem F.size_weight : ∀ f : F, f.size ≤ f.weight
  | .nil => Nat.le_refl _
  | .nd x ks r => by
    have h1 := F.size_weight ks
    have h2 := F.size_weight r
    have h3 : ks.weight ≤ times x * ks.weight := Nat.le_mul_of_pos_left _ (times_pos x)
    simp only [F.size, F.weight]; omega
theorem Shp.len {re : List Nd} {x : Nd} {ks : F} (h : Shp re x ks) : re.length ≤ 16384 := by
  have h1 := F.size_weight (.nd x ks .nil)
  have := h.weight
  rw [h.flat]
  simp only [F.size] at h1
  simp only [List.length_cons, F.flat_size]
  omega
theorem Shp.part {re : List Nd} {x : Nd} {ks : F} (h : Shp re x ks) : Part re (.nd x ks .nil) 0 re.length := by
  refine ⟨h.wf, by rw [List.drop_length, List.drop_zero, List.append_nil]; simp [F.flat, h.flat], ?_, Nat.le_refl _⟩
  rw [h.flat]; simp [F.size, F.flat_size]
inductive CompP (re : List Nd) (v : Value) (S' : Hp) : Prop
  | shape (hs : shapedB re = false) (hv : v = .tuple #[.slice none 0 0, .int .i64 49])
  | ref (hs : shapedB re = true) (hr : refsB re = true) (hv : v = .tuple #[.slice none 0 0, .int .i64 44])
  | ok {x : Nd} {ks : F} {a : Option Addr} (hs : shapedB re = true) (hr : refsB re = false) (h : Shp re x ks) (hv : v = .tuple #[.slice a (mach (.nd x ks .nil)).length (mach (.nd x ks .nil)).length, .int .i64 0]) (hm : RdS Ein (.slice a (mach (.nd x ks .nil)).length (mach (.nd x ks .nil)).length) (mach (.nd x ks .nil)) S')
inductive CompO (T : Nat) (re : List Nd) (v : Value) (S' : Hp) : Prop
  | shape (hs : shapedB re = false) (hv : v = .tuple #[.slice none 0 0, .int .i64 49]) (hn : S' = [])
  | ref (hs : shapedB re = true) (hr : refsB re = true) (hv : v = .tuple #[.slice none 0 0, .int .i64 44]) (hn : S' = [])
  | ok {x : Nd} {ks : F} {a : Option Addr} (hs : shapedB re = true) (hr : refsB re = false) (h : Shp re x ks) (hv : v = .tuple #[.slice a (mach (.nd x ks .nil)).length (mach (.nd x ks .nil)).length, .int .i64 0]) (hm : OwnS Ein 7 T (.slice a (mach (.nd x ks .nil)).length (mach (.nd x ks .nil)).length) (mach (.nd x ks .nil)) S')
end Go.HL.Kl.Mc
namespace Go.HL.Sts
open Go Go.HL Go.HL.Kl Go.HL.Kl.Mc
theorem iterM_succ (f : Pt → Mk) : ∀ (n : Nat) (c : Pt) (x : Plc), iterM f (n + 1) c x = f (iterM f n c x).1 (iterM f n c x).2
  | 0, c, x => rfl
  | n + 1, c, x => by rw [iterM, iterM_succ f n]; rfl
theorem partM_set {n : Nd} {ks : F} (h : n.op = 1) (x : Plc) : partM n ks x = setM n.set x := by simp [partM, oneM, h]
theorem partM_begin {n : Nd} {ks : F} (h : n.op = 2) (x : Plc) : partM n ks x = ({ zeroP with n10 := true, n11 := true }, x) := by simp [partM, oneM, h]
theorem partM_end {n : Nd} {ks : F} (h : n.op = 3) (x : Plc) : partM n ks x = ({ zeroP with n01 := true, n11 := true }, x) := by simp [partM, oneM, h]
theorem partM_cat {n : Nd} {ks : F} (h : n.op = 4) (x : Plc) : partM n ks x = kidsM ks false nothP x := by simp [partM, oneM, h]
theorem partM_alt {n : Nd} {ks : F} (h : n.op = 5) (x : Plc) : partM n ks x = kidsM ks true zeroP x := by simp [partM, oneM, h]
theorem partM_rep {n : Nd} {y : Nd} {js : F} (h : n.op = 6) (x : Plc) : partM n (.nd y js .nil) x = repM (partM y js) n.mn n.mx x := by
  rw [← kids_one y js]; show oneM n _ x = _; simp [oneM, h]
theorem partM_group {n : Nd} {y : Nd} {js : F} (h : n.op = 7) (x : Plc) : partM n (.nd y js .nil) x = partM y js x := by
  rw [← kids_one y js]; show oneM n _ x = _; simp [oneM, h]
theorem partM_ref {n : Nd} {ks : F} (h1 : ¬ n.op = 1) (h2 : ¬ n.op = 2) (h3 : ¬ n.op = 3) (h4 : ¬ n.op = 4) (h5 : ¬ n.op = 5) (h6 : ¬ n.op = 6) (h7 : ¬ n.op = 7) (x : Plc) : partM n ks x = (zeroP, x) := by simp [partM, oneM, h1, h2, h3, h4, h5, h6, h7]
theorem kidsM_cat (n : Nd) (ks r : F) (c : Pt) (x : Plc) : kidsM (.nd n ks r) false c x = kidsM r false (catM c (partM n ks) x).1 (catM c (partM n ks) x).2 := by
  simp [kidsM, catM, partM]
theorem kidsM_alt (n : Nd) (ks r : F) (c : Pt) (x : Plc) : kidsM (.nd n ks r) true c x = kidsM r true (altP c (partM n ks x).1) (partM n ks x).2 := by
  simp [kidsM, partM]
theorem cntM_nd (n : Nd) (ks r : F) : cntM (.nd n ks r) = cnt1 n ks + cntM r := rfl
theorem cnt1_op {n : Nd} {ks : F} (h : n.op = 4 ∨ n.op = 5 ∨ n.op = 7) : cnt1 n ks = cntM ks := by
  unfold cnt1
  rw [if_neg (by omega), if_neg (by omega), if_pos h]
theorem cnt1_rep {n : Nd} {ks : F} (h : n.op = 6) : cnt1 n ks = reps n * cntM ks := by
  unfold cnt1
  rw [if_neg (by omega), if_pos h]
theorem cnt1_set {n : Nd} {ks : F} (h : n.op = 1) : cnt1 n ks = 1 := by simp [cnt1, h]
theorem cnt_kid (y : Nd) (js : F) : cntM (.nd y js .nil) = cnt1 y js := by rw [cntM_nd]; rfl
theorem one_kid {n : Nd} {ks : F} (hw : (F.nd n ks .nil).wf) (h : n.op = 6 ∨ n.op = 7) : ∃ y js, ks = .nd y js .nil := by
  have hk := hw.1
  simp only [ndOk, Bool.and_eq_true, kidsOk] at hk
  rw [if_pos h] at hk
  have h1 : n.kids = 1 := by simpa using hk.2
  have h2 := hw.2.1
  rw [h1] at h2
  match ks with
  | .nil => simp [F.num] at h2
  | .nd y js .nil => exact ⟨y, js, rfl⟩
  | .nd y js (.nd _ _ _) => simp only [F.num] at h2; omega
theorem En_Ec {n : Nd} : ∀ (j : Nat) u, (Ec n.set)[j]? = some u → (En n)[1 + j]? = some u := nd_set
theorem Ep4_begin : splice (Ep4 zeroP) 2 [.bool true, .bool true] = Ep4 { zeroP with n10 := true, n11 := true } := rfl
theorem Ep4_end : ((Ep4 zeroP).set 1 (.bool true)).set 3 (.bool true) = Ep4 { zeroP with n01 := true, n11 := true } := rfl
theorem Ep4_sets (s : Sp) : splice (splice (Ep4 zeroP) 4 (E3 s ++ E3 s)) 10 (E3 s ++ E3 s) = Ep4 ⟨false, false, false, false, s, s, s, s⟩ := rfl
theorem iter_len {m : Mk} {n : Nat} (h : Adds m n) (x : Plc) (hx : x.fol.length = x.sets.length) (k : Nat) : (iterM (fun c => catM c m) k nothP x).2.sets.length = x.sets.length + k * n ∧ (iterM (fun c => catM c m) k nothP x).2.fol.length = (iterM (fun c => catM c m) k nothP x).2.sets.length :=
  Adds.iter (f := fun c => catM c m) (fun c => h.cat c) k nothP x hx
def moreM (K : Mk) : Pt → Mk := fun more y => (altP nothP (catL K more y).1, (catL K more y).2)
theorem more_len {m : Mk} {n : Nat} (h : Adds m n) (x : Plc) (hx : x.fol.length = x.sets.length) (k : Nat) : (iterM (moreM m) k nothP x).2.sets.length = x.sets.length + k * n ∧ (iterM (moreM m) k nothP x).2.fol.length = (iterM (moreM m) k nothP x).2.sets.length :=
  Adds.iter (f := moreM m) (fun c => fun y hy => h.catL c y hy) k nothP x hx
theorem repM_neg {K : Mk} {mn mx : Int} (h : mx < 0) (x : Plc) : repM K mn mx x = (catP (iterM (fun c => catM c K) mn.toNat nothP x).1 (altP nothP (K (iterM (fun c => catM c K) mn.toNat nothP x).2).1), ((K (iterM (fun c => catM c K) mn.toNat nothP x).2).2.join (K (iterM (fun c => catM c K) mn.toNat nothP x).2).1.l0 (K (iterM (fun c => catM c K) mn.toNat nothP x).2).1.f0).join (iterM (fun c => catM c K) mn.toNat nothP x).1.l0 (altP nothP (K (iterM (fun c => catM c K) mn.toNat nothP x).2).1).f0) := by
  unfold repM
  simp only [h, if_true]
theorem repM_pos {K : Mk} {mn mx : Int} (h : ¬ mx < 0) (x : Plc) : repM K mn mx x = (catP (iterM (fun c => catM c K) mn.toNat nothP x).1 (iterM (moreM K) (mx - mn).toNat nothP (iterM (fun c => catM c K) mn.toNat nothP x).2).1, (iterM (moreM K) (mx - mn).toNat nothP (iterM (fun c => catM c K) mn.toNat nothP x).2).2.join (iterM (fun c => catM c K) mn.toNat nothP x).1.l0 (iterM (moreM K) (mx - mn).toNat nothP (iterM (fun c => catM c K) mn.toNat nothP x).2).1.f0) := by
  unfold repM
  simp only [h, if_false]
  rfl
theorem mul_lt {a b n : Nat} (h : a < b) : a * n + n ≤ b * n := by
  have : (a + 1) * n ≤ b * n := Nat.mul_le_mul_right n h
  rwa [Nat.succ_mul] at this
end Go.HL.Sts
