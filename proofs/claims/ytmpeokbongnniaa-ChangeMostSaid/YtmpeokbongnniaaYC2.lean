/- Part of the proofs over this seat: see the text that holds the theorem. Conditions: each theorem bears its own. -/
import Derived.Test.YtmpeokbongnniaaHTZ
import Derived.Test.YtmpeokbongnniaaMK6Z
import Derived.Test.YtmpeokbongnniaaYZW9Z
namespace Go.Proofs.Ytmpeokbongnniaa
open Go Go.HL Go.Proofs Go.HL.Kl Go.HL.Kl.Mc Go.HL.Kl.Mc.AskE
theorem fill_all {L ll : List Sp} {k : Nat} (hl : ll.length = L.length) (h : ∀ i, i < k → ll[i]? = L[i]?) (hk : L.length ≤ k) : ll = L := List.ext_getElem? fun i => by
  rcases Nat.lt_or_ge i L.length with h' | h'
  · exact h i (by omega)
  · rw [List.getElem?_eq_none h', List.getElem?_eq_none (by omega)]
theorem set_fill {L ll : List Sp} {k : Nat} {s : Sp} (hl : ll.length = L.length) (h : ∀ i, i < k → ll[i]? = L[i]?) (hs : L[k]? = some s) : ∀ i, i < k + 1 → (ll.set k s)[i]? = L[i]? := fun i hi => by
  have hk := (List.getElem?_eq_some_iff.1 hs).1
  by_cases e : i = k
  · subst e
    rw [List.getElem?_set_self (by omega), hs]
  · rw [List.getElem?_set_ne (Ne.symm e)]; exact h i (by omega)
instance tmR : TM Try.prog 24 "Find" 81 := tm_ofP Try.underlying24 (by kernel_rfl)
instance tmP : TM Try.prog 63 "Find" 115 := tm_ofP Try.underlying63 (by kernel_rfl)
/-- what a finder's Find does -/
def FindC (fF : FuncId) {σ : Type} (w : List UInt8) (vF : Value) (HS : σ → Hp → Prop) (stp : σ → Nat → Bool → List Sp → σ → Prop) (preF : Hp → World → Prop) : Prop :=
  ∀ (s : σ) (S St : Hp) (xa : Option Addr) (xc a : Nat), HS s S → a ≤ w.length → OwnS Eb 1 5 (.slice xa w.length xc) w St → (∃ b L s', stp s a b L s') →
    HL.Fn Try.prog fF [vF, .slice xa w.length xc, .int .i64 a] (preF (S ++ St)) (S ++ St) (fun v S' => ∃ b L s' a' c' S1 SL, v = .tuple #[.slice a' L.length c', .bool b] ∧ S' = S1 ++ SL ∧ HS s' S1 ∧ OwnS Esp 2 51 (.slice a' L.length c') L SL ∧ stp s a b L s')
/-- what is read goes on to be readable -/
def PreS (preF : Hp → World → Prop) : Prop := ∀ {w0 w : World} {H0 H S : Hp}, preF H0 w0 → St w0 w (keys H0) H → HIn S H → preF S w
/-- what a match hands over: a list of its own -/
def EvSp (L : List Sp) (vs : List Value) (Sx : Hp) : Prop := ∃ a c, vs = [.slice a L.length c] ∧ OwnS Esp 2 51 (.slice a L.length c) L Sx
theorem mt_meas {n a p q : Nat} {last : Int} {L : List Sp} (hg : GoodL n a L p q) (hl : ¬ (p = q ∧ last = p)) : 2 * (n + 1 - q) + (if (q : Int) = (q : Nat) then 0 else 1) < 2 * (n + 1 - a) + (if last = (a : Nat) then 0 else 1) := by
  have h1 := hg.ge
  have h2 := hg.le
  have h3 := hg.ln
  rw [if_pos rfl]
  split
  · have : a < q := by
      rcases Nat.lt_or_ge a q with h' | h'
      · exact h'
      · exact absurd ⟨by omega, by omega⟩ hl
    omega
  · omega
theorem lies_t (s : Sp) (n : Int) (h : (0 ≤ s.fr ∧ s.fr ≤ s.to ∧ s.to ≤ n)) : HL.Fn Try.prog 44 [.agg (Esp s).toArray, .int .i64 n] (fun _ => True) [] (fun v _ => v = .bool true) := by
  refine fn_of Try.func44 rfl rfl rfl fun w0 hw => ?_
  refine c_seq fun _ hK1 => ?_
  refine c_region ?_
  refine o_box rfl rfl rfl fun b2 => ?_
  refine o_step rfl (s_assign rfl) ?_
  refine o_nil ?_
  refine x_then (hK1 _ _ ?_)
  refine c_seq fun _ hK2 => ?_
  refine c_region ?_
  refine o_step rfl (s_field rfl rfl (by decide)) ?_
  refine o_step rfl (s_ld rfl (.own meA rfl)) ?_
  refine o_step rfl (s_leq_t rfl rfl (by omega)) ?_
  refine o_step rfl (s_move rfl) ?_
  refine o_yes rfl rfl ?_
  refine o_step rfl (s_field rfl rfl (by decide)) ?_
  refine o_yes rfl rfl ?_
  refine o_step rfl (s_ld rfl (.own meA rfl)) ?_
  refine o_yes rfl rfl ?_
  refine o_step rfl (s_field rfl rfl (by decide)) ?_
  refine o_yes rfl rfl ?_
  refine o_step rfl (s_ld rfl (.own meA rfl)) ?_
  refine o_yes rfl rfl ?_
  refine o_step rfl (s_leq_t rfl rfl (by omega)) ?_
  refine o_step rfl (s_pick_t rfl rfl) ?_
  refine o_step rfl (s_move rfl) ?_
  refine o_yes rfl rfl ?_
  refine o_step rfl (s_field rfl rfl (by decide)) ?_
  refine o_yes rfl rfl ?_
  refine o_step rfl (s_ld rfl (.own meA rfl)) ?_
  refine o_yes rfl rfl ?_
  refine o_step rfl (s_move rfl) ?_
  refine o_yes rfl rfl ?_
  refine o_step rfl (s_leq_t rfl rfl (by omega)) ?_
  refine o_step rfl (s_pick_t rfl rfl) ?_
  refine o_step rfl (s_assign rfl) ?_
  refine o_nil ?_
  refine x_then (hK2 _ _ ?_)
  refine c_ret ?_
  refine ?_
  exact x_ret rfl (.tmp rfl (.nil)) (rfl)

theorem lies_f (s : Sp) (n : Int) (h : ¬ (0 ≤ s.fr ∧ s.fr ≤ s.to ∧ s.to ≤ n)) : HL.Fn Try.prog 44 [.agg (Esp s).toArray, .int .i64 n] (fun _ => True) [] (fun v _ => v = .bool false) := by
  refine fn_of Try.func44 rfl rfl rfl fun w0 hw => ?_
  refine c_seq fun _ hK1 => ?_
  refine c_region ?_
  refine o_box rfl rfl rfl fun b2 => ?_
  refine o_step rfl (s_assign rfl) ?_
  refine o_nil ?_
  refine x_then (hK1 _ _ ?_)
  refine c_seq fun _ hK2 => ?_
  refine c_region ?_
  refine o_step rfl (s_field rfl rfl (by decide)) ?_
  refine o_step rfl (s_ld rfl (.own meA rfl)) ?_
  by_cases h1 : (0 : Int) ≤ s.fr
  ·
   refine o_step rfl (step_cast (v' := .bool true) (s_leq rfl rfl) (by rw [decide_eq_true h1])) ?_
   refine o_step rfl (s_move rfl) ?_
   refine o_yes rfl rfl ?_
   refine o_step rfl (s_field rfl rfl (by decide)) ?_
   refine o_yes rfl rfl ?_
   refine o_step rfl (s_ld rfl (.own meA rfl)) ?_
   refine o_yes rfl rfl ?_
   refine o_step rfl (s_field rfl rfl (by decide)) ?_
   refine o_yes rfl rfl ?_
   refine o_step rfl (s_ld rfl (.own meA rfl)) ?_
   refine o_yes rfl rfl ?_
   by_cases h2 : s.fr ≤ s.to
   ·
    refine o_step rfl (step_cast (v' := .bool true) (s_leq rfl rfl) (by rw [decide_eq_true h2])) ?_
    refine o_step rfl (s_pick_t rfl rfl) ?_
    refine o_step rfl (s_move rfl) ?_
    refine o_yes rfl rfl ?_
    refine o_step rfl (s_field rfl rfl (by decide)) ?_
    refine o_yes rfl rfl ?_
    refine o_step rfl (s_ld rfl (.own meA rfl)) ?_
    refine o_yes rfl rfl ?_
    refine o_step rfl (s_move rfl) ?_
    refine o_yes rfl rfl ?_
    refine o_step rfl (s_leq_f rfl rfl (fun h3 => h ⟨h1, h2, h3⟩)) ?_
    refine o_step rfl (s_pick_t rfl rfl) ?_
    refine o_step rfl (s_assign rfl) ?_
    refine o_nil ?_
    refine x_then (hK2 _ _ ?_)
    refine c_ret ?_
    refine ?_
    exact x_ret rfl (.tmp rfl (.nil)) (rfl)
   ·
    refine o_step rfl (step_cast (v' := .bool false) (s_leq rfl rfl) (by rw [decide_eq_false h2])) ?_
    refine o_step rfl (s_pick_t rfl rfl) ?_
    refine o_step rfl (s_move rfl) ?_
    refine o_no rfl rfl rfl rfl ?_
    refine o_no rfl rfl rfl rfl ?_
    refine o_no rfl rfl rfl rfl ?_
    refine o_no rfl rfl rfl rfl ?_
    refine o_step rfl (s_pick_f rfl rfl) ?_
    refine o_step rfl (s_assign rfl) ?_
    refine o_nil ?_
    refine x_then (hK2 _ _ ?_)
    refine c_ret ?_
    refine ?_
    exact x_ret rfl (.tmp rfl (.nil)) (rfl)
  ·
   refine o_step rfl (step_cast (v' := .bool false) (s_leq rfl rfl) (by rw [decide_eq_false h1])) ?_
   refine o_step rfl (s_move rfl) ?_
   refine o_no rfl rfl rfl rfl ?_
   refine o_no rfl rfl rfl rfl ?_
   refine o_no rfl rfl rfl rfl ?_
   refine o_no rfl rfl rfl rfl ?_
   refine o_no rfl rfl rfl rfl ?_
   refine o_step rfl (s_pick_f rfl rfl) ?_
   refine o_step rfl (s_move rfl) ?_
   refine o_no rfl rfl rfl rfl ?_
   refine o_no rfl rfl rfl rfl ?_
   refine o_no rfl rfl rfl rfl ?_
   refine o_no rfl rfl rfl rfl ?_
   refine o_step rfl (s_pick_f rfl rfl) ?_
   refine o_step rfl (s_assign rfl) ?_
   refine o_nil ?_
   refine x_then (hK2 _ _ ?_)
   refine c_ret ?_
   refine ?_
   exact x_ret rfl (.tmp rfl (.nil)) (rfl)

set_option maxHeartbeats 4000000 in
theorem matchesR_fn {σ : Type} (w : List UInt8) (hwl : w.length ≤ 1000000) (vF : Value) (HS : σ → Hp → Prop) (stp : σ → Nat → Bool → List Sp → σ → Prop) (preF : Hp → World → Prop) (hdet : Det stp) (hF : FindC 81 w vF HS stp preF) (hst : PreS preF) (hv1 : vF.oneCell' = true) (bt br : Nat) (xa : Option Addr) (xc : Nat) (s0 : σ) (S0 : Hp) (hs0 : HS s0 S0) (xs : List (List Sp)) (hM0 : MtS stp w.length s0 0 (-1) xs)
    (l : Nat) (HY HX : List (List Sp) → Hp → Prop) (hY : ∀ pre x vs Sx B, HY pre B → pre ++ [x] <+: xs → EvSp x vs Sx → Yd Try.prog l vs (B ++ Sx) (fun v B' => (v = .bool true ∧ HY (pre ++ [x]) B') ∨ (v = .bool false ∧ HX (pre ++ [x]) B'))) (B : Hp) (hB : HY [] B) : HL.Fn Try.prog 43 [.func (.yield l) #[] #[], pt bt, pt br] (fun W => preF (((bt, .cells [.slice xa w.length xc].toArray 23 (0, 0)) :: (br, .cells [vF].toArray 24 (0, 0)) :: S0) ++ B) W ∧ Rd Eb W (.slice xa w.length xc) w ∧ Apart (keys (((bt, .cells [.slice xa w.length xc].toArray 23 (0, 0)) :: (br, .cells [vF].toArray 24 (0, 0)) :: S0) ++ B)) (.slice xa w.length xc)) (((bt, .cells [.slice xa w.length xc].toArray 23 (0, 0)) :: (br, .cells [vF].toArray 24 (0, 0)) :: S0) ++ B) (fun _ S' => ∃ S1 B', S' = S1 ++ B' ∧ (∃ s2 S2, S1 = (bt, .cells [.slice xa w.length xc].toArray 23 (0, 0)) :: (br, .cells [vF].toArray 24 (0, 0)) :: S2 ∧ HS s2 S2) ∧ (HY xs B' ∨ ∃ p, p <+: xs ∧ HX p B')) := by
  refine fn_of Try.func43 rfl rfl rfl fun w0 hw => ?_
  obtain ⟨hp0, hx0, ha0⟩ := hw
  have hsx := hx0.sl
  refine c_seq fun _ hK1 => ?_
  refine c_region ?_
  refine o_step rfl (s_assign rfl) ?_
  refine o_nil ?_
  refine x_then (hK1 _ _ ?_)
  refine c_seq fun _ hK2 => ?_
  refine c_region ?_
  refine o_step rfl (s_assign rfl) ?_
  refine o_nil ?_
  refine x_then (hK2 _ _ ?_)
  refine c_block ?_
  refine c_loop7 (fun (a : Nat) (last : Int) (s : σ) (Sf : Hp) (B1 : Hp) (p : List (List Sp)) (r : List (List Sp)) => xs = p ++ r ∧ MtS stp w.length s a last r ∧ HS s Sf ∧ HY p B1 ∧ a ≤ w.length + 1) (fun (a : Nat) (last : Int) (s : σ) (Sf : Hp) (B1 : Hp) (p : List (List Sp)) (r : List (List Sp)) => [(4, .int .i64 last), (5, .int .i64 a)]) [(0, _), (1, _), (2, _)] (fun (a : Nat) (last : Int) (s : σ) (Sf : Hp) (B1 : Hp) (p : List (List Sp)) (r : List (List Sp)) => (bt, .cells [.slice xa w.length xc].toArray 23 (0, 0)) :: (br, .cells [vF].toArray 24 (0, 0)) :: (Sf ++ B1)) (fun (a : Nat) (last : Int) (s : σ) (Sf : Hp) (B1 : Hp) (p : List (List Sp)) (r : List (List Sp)) => 2 * (w.length + 1 - a) + (if last = (a : Nat) then 0 else 1)) 0 (-1) s0 S0 B [] xs ⟨rfl, hM0, hs0, hB, by omega⟩ sbA sbA (by exact HSub.refl _) ?_
  rintro a last s Sf B1 p r ⟨hxs, hM, hs, hHB, hal⟩
  refine c_seq fun _ hK3 => ?_
  refine c_seq fun _ hK4 => ?_
  refine c_region ?_
  refine o_step rfl (s_move rfl) ?_
  refine o_step rfl (s_ld rfl (.own meA rfl)) ?_
  refine o_step rfl (s_len rfl) ?_
  refine o_step rfl (s_leq rfl rfl) ?_
  refine o_nil ?_
  refine x_then (hK4 _ _ ?_)
  refine c_if rfl (fun hle => ?_) (fun hle => ?_)
  ·
   have ha : a ≤ w.length := by omega
   refine c_skip ?_
   refine x_then (hK3 _ _ ?_)
   refine c_block ?_
   refine c_seq fun _ hK5 => ?_
   refine c_drawE ([(bt, .cells [.slice xa w.length xc].toArray 23 (0, 0)), (br, .cells [vF].toArray 24 (0, 0))]) (fun i => false) ?_
   refine e_tk 0 rfl hzB (s_ld rfl (.own meA rfl)) ?_
   refine e_pr 1 rfl (s_iface (by kernel_rfl) rfl) ?_
   refine e_tk 2 rfl hzB (s_ld rfl (.own meA rfl)) ?_
   refine e_pr 4 rfl (s_move rfl) ?_
   refine e_one 3 rfl (by kernel_rfl) ?_
   refine o_call (clone_fn xa xc w) rfl rfl rfl (by exact .nil) (fun _ st => (RdK.old hx0 ha0).out _ st) (fun v20 S20 ⟨a20, c20, hv20, hS20⟩ => ?_)
   subst hv20
   refine o_nil ?_
   refine x_oneS hzB ?_
   refine e_one 5 rfl (by kernel_rfl) ?_
   refine o_invoke (hF s Sf S20 a20 c20 a hs ha hS20 (hM.has ha)) rfl rfl rfl ((Pick.takeA pkA pkA)) (fun _ st => hst hp0 st (hin_sub hzB)) (fun v22 S22 ⟨b, L, s2, a22, c22, S1, SL, hv22, hS22, hs2, hOL, hstp⟩ => ?_)
   subst hv22
   subst hS22
   cases b
   ·
    obtain rfl := hM.at_none hdet ha hstp
    rw [List.append_nil] at hxs
    subst hxs
    refine o_nil ?_
    refine x_oneS hzB ?_
    refine e_pr 6 rfl (s_move rfl) ?_
    refine e_pr 7 rfl (s_extract rfl rfl) ?_
    refine e_pr 8 rfl (s_extract rfl rfl) ?_
    refine e_pr 9 rfl (s_assign rfl) ?_
    refine e_pr 10 rfl (s_assign rfl) ?_
    refine e_done (by kernel_rfl) ?_
    refine x_then (hK5 _ _ ?_)
    refine c_seq fun _ hK6 => ?_
    refine c_seq fun _ hK7 => ?_
    refine c_quiet (by kernel_rfl) ?_
    refine .op rfl (s_move rfl) ?_
    refine .op rfl (s_not rfl) ?_
    refine .op rfl (s_move rfl) ?_
    refine .no rfl rfl rfl rfl ?_
    refine .no rfl rfl rfl rfl ?_
    refine .no rfl rfl rfl rfl ?_
    refine .op rfl (s_pick_t rfl rfl) ?_
    refine .op rfl (s_move rfl) ?_
    refine .no rfl rfl rfl rfl ?_
    refine .no rfl rfl rfl rfl ?_
    refine .no rfl rfl rfl rfl ?_
    refine .no rfl rfl rfl rfl ?_
    refine .no rfl rfl rfl rfl ?_
    refine .no rfl rfl rfl rfl ?_
    refine .no rfl rfl rfl rfl ?_
    refine .op rfl (s_pick_t rfl rfl) ?_
    refine .op rfl (s_move rfl) ?_
    refine .no rfl rfl rfl rfl ?_
    refine .no rfl rfl rfl rfl ?_
    refine .no rfl rfl rfl rfl ?_
    refine .no rfl rfl rfl rfl ?_
    refine .no rfl rfl rfl rfl ?_
    refine .no rfl rfl rfl rfl ?_
    refine .op rfl (s_pick_t rfl rfl) ?_
    refine .nil ?_
    refine x_then (hK7 _ _ ?_)
    refine c_true rfl ?_
    refine c_ret ?_
    refine x_then_ret (x_block_ret (x_then_ret (x_block_ret (?_))))
    refine x_sub (Sub.refl _) (H' := ((bt, .cells [.slice xa w.length xc].toArray 23 (0, 0)) :: (br, .cells [vF].toArray 24 (0, 0)) :: S1) ++ B1) hzB ?_
    exact x_ret rfl (.nil) (⟨_, B1, rfl, ⟨s2, S1, rfl, hs2⟩, .inl hHB⟩)
   ·
    obtain ⟨p2, q2, hg, hcase⟩ := hM.at_some hdet ha hstp
    have hgh := hg.hd
    have hg1 := hg.ge
    have hg2 := hg.le
    have hg3 := hg.ln
    have hLl := hg.len
    have hLp : 0 < L.length := (List.getElem?_eq_some_iff.1 hgh).1
    have hOs := hOL.sl
    refine o_nil ?_
    refine x_oneS hzB ?_
    refine e_pr 6 rfl (s_move rfl) ?_
    refine e_pr 7 rfl (s_extract rfl rfl) ?_
    refine e_pr 8 rfl (s_extract rfl rfl) ?_
    refine e_pr 9 rfl (s_assign rfl) ?_
    refine e_pr 10 rfl (s_assign rfl) ?_
    refine e_done (by kernel_rfl) ?_
    refine x_then (hK5 _ _ ?_)
    refine c_seq fun _ hK8 => ?_
    refine c_seq fun _ hK9 => ?_
    refine c_quiet (by kernel_rfl) ?_
    refine .op rfl (s_move rfl) ?_
    refine .op rfl (s_not rfl) ?_
    refine .op rfl (s_move rfl) ?_
    refine .yes rfl rfl rfl (s_move rfl) ?_
    refine .yes rfl rfl rfl (s_len rfl) ?_
    refine .yes rfl rfl rfl (s_eql_f rfl rfl (by omega)) ?_
    refine .op rfl (s_pick_f rfl rfl) ?_
    refine .op rfl (s_move rfl) ?_
    refine .yes rfl rfl rfl (s_move rfl) ?_
    refine .yes rfl rfl rfl (s_idx rfl rfl hOs (by omega)) ?_
    refine .yes rfl rfl rfl (s_ldB rfl ((hOL.rdk hiA).lds 0 hgh rfl) (by rfl)) ?_
    refine .yes rfl rfl rfl (s_ld rfl (.own meA rfl)) ?_
    refine .yes rfl rfl rfl (s_len rfl) ?_
    refine .call (fun _ fr => by rw [wanted_of fr rfl rfl rfl]; rfl) rfl rfl rfl (lies_t ⟨p2, q2⟩ w.length ⟨by simp only; omega, by simp only; omega, by simp only; omega⟩) (fun _ _ => trivial) ?_
    refine .yes rfl rfl rfl (s_not rfl) ?_
    refine .op rfl (s_pick_f rfl rfl) ?_
    refine .op rfl (s_move rfl) ?_
    refine .yes rfl rfl rfl (s_move rfl) ?_
    refine .yes rfl rfl rfl (s_idx rfl rfl hOs (by omega)) ?_
    refine .yes rfl rfl rfl (s_field rfl rfl (by decide)) ?_
    refine .yes rfl rfl rfl (s_ld rfl ((hOL.rdk hiA).ld 0 0 hgh rfl (by decide) (by omega))) ?_
    refine .yes rfl rfl rfl (s_move rfl) ?_
    refine .yes rfl rfl rfl (s_lss_f rfl rfl (by show ¬ ((p2 : Int) < a); omega)) ?_
    refine .op rfl (s_pick_f rfl rfl) ?_
    refine .nil ?_
    refine x_then (hK9 _ _ ?_)
    refine c_false rfl ?_
    refine c_skip ?_
    refine x_then (hK8 _ _ ?_)
    refine c_seq fun _ hK10 => ?_
    refine c_region ?_
    refine o_step rfl (s_move rfl) ?_
    refine o_step rfl (s_idx rfl rfl hOs (by omega)) ?_
    refine o_step rfl (s_ldB rfl ((hOL.rdk hiA).lds 0 hgh rfl) (by rfl)) ?_
    refine o_alloc (l := Esp ⟨0, 0⟩) rfl rfl fun b8 => ?_
    refine o_stW rfl rfl upA lnA lnA onA ?_
    refine o_nil ?_
    refine x_then (hK10 _ _ ?_)
    refine c_seq fun _ hK11 => ?_
    refine c_seq fun _ hK12 => ?_
    refine c_region ?_
    refine o_step rfl (s_field rfl rfl (by decide)) ?_
    refine o_step rfl (s_ld rfl (.own meA rfl)) ?_
    refine o_step rfl (s_field rfl rfl (by decide)) ?_
    refine o_step rfl (s_ld rfl (.own meA rfl)) ?_
    by_cases hpq : (p2 : Int) = q2
    ·
     refine o_step rfl (step_cast (v' := .bool true) (s_eql rfl rfl) (by rw [decide_eq_true hpq])) ?_
     refine o_step rfl (s_move rfl) ?_
     refine o_yes rfl rfl ?_
     refine o_step rfl (s_field rfl rfl (by decide)) ?_
     refine o_yes rfl rfl ?_
     refine o_step rfl (s_ld rfl (.own meA rfl)) ?_
     refine o_yes rfl rfl ?_
     refine o_step rfl (s_move rfl) ?_
     refine o_yes rfl rfl ?_
     by_cases hql : (q2 : Int) = last
     ·
      obtain ⟨_, _, hM2⟩ := hcase.resolve_right (fun h => h.1 ⟨by omega, by omega⟩)
      refine o_step rfl (step_cast (v' := .bool true) (s_eql rfl rfl) (by rw [decide_eq_true hql])) ?_
      refine o_step rfl (s_pick_t rfl rfl) ?_
      refine o_nil ?_
      refine x_then (hK12 _ _ ?_)
      refine c_true rfl ?_
      refine c_seq fun _ hK13 => ?_
      refine c_region ?_
      refine o_step rfl (s_move rfl) ?_
      refine o_step rfl (s_add rfl rfl (by omega)) ?_
      refine o_step rfl (s_assign rfl) ?_
      refine o_nil ?_
      refine x_then (hK13 _ _ ?_)
      refine c_exit ?_
      refine x_then_exit ?_
      refine x_block_exit ?_
      exact x_then (x_inv (a + 1, last, s2, S1, B1, p, r) ⟨hxs, hM2, hs2, hHB, by dsimp only; omega⟩ (by dsimp only; split <;> split <;> omega) sbA hzB)
     ·
      have hnl : ¬ (p2 = q2 ∧ last = p2) := fun h => hql (by omega)
      obtain ⟨_, r2, hr2, hM2⟩ := hcase.resolve_left (fun h => hnl ⟨h.1, h.2.1⟩)
      have hpre : p ++ [L] <+: xs := ⟨r2, by rw [hxs, hr2, List.append_assoc]; rfl⟩
      refine o_step rfl (step_cast (v' := .bool false) (s_eql rfl rfl) (by rw [decide_eq_false hql])) ?_
      refine o_step rfl (s_pick_t rfl rfl) ?_
      refine o_nil ?_
      refine x_then (hK12 _ _ ?_)
      refine c_false rfl ?_
      refine c_skip ?_
      refine x_then (hK11 _ _ ?_)
      refine c_seq fun _ hK14 => ?_
      refine c_region ?_
      refine o_step rfl (s_move rfl) ?_
      refine o_step rfl (s_len rfl) ?_
      refine o_make (E := Esp) (zx := ⟨0, 0⟩) (n := L.length) rfl rfl rfl (by omega) (by omega) rfl fun b67 S67 hS67 => ?_
      refine o_step rfl (s_assign rfl) ?_
      refine o_nil ?_
      refine x_then (hK14 _ _ ?_)
      refine c_seq fun _ hK15 => ?_
      refine c_seq fun _ hK16 => ?_
      refine c_region ?_
      refine o_step rfl (s_move rfl) ?_
      refine o_step rfl (s_len rfl) ?_
      refine o_step rfl (s_move rfl) ?_
      refine o_nil ?_
      refine x_then (hK16 _ _ ?_)
      refine c_block ?_
      refine c_loop3 (fun (k : Nat) (ll : List Sp) (Sl : Hp) => k ≤ L.length ∧ ll.length = L.length ∧ (∀ i, i < k → ll[i]? = L[i]?) ∧ OwnS Esp 2 51 (.slice (some ⟨b67, 0, none⟩) L.length L.length) ll Sl) (fun (k : Nat) (ll : List Sp) (Sl : Hp) => [(70, .int .i64 k)]) [(0, _), (1, _), (2, _), (4, _), (5, _), (6, _), (7, _), (8, _), (9, _), (12, _), (13, _), (14, _), (15, _), (16, _), (17, _), (18, _), (19, _), (20, _), (21, _), (22, _), (23, _), (24, _), (25, _), (26, _), (27, _), (28, _), (29, _), (30, _), (31, _), (32, _), (33, _), (34, _), (35, _), (36, _), (37, _), (38, _), (39, _), (40, _), (41, _), (42, _), (43, _), (44, _), (45, _), (46, _), (47, _), (48, _), (49, _), (50, _), (51, _), (52, _), (53, _), (54, _), (55, _), (56, _), (57, _), (58, _), (59, _), (60, _), (61, _), (62, _), (65, _), (66, _), (67, _), (68, _), (69, _)] (fun (k : Nat) (ll : List Sp) (Sl : Hp) => (b8, .cells (Esp ⟨p2, q2⟩).toArray 51 (0, 0)) :: (bt, .cells [.slice xa w.length xc].toArray 23 (0, 0)) :: (br, .cells [vF].toArray 24 (0, 0)) :: (S1 ++ (SL ++ (Sl ++ B1)))) (fun (k : Nat) (ll : List Sp) (Sl : Hp) => L.length - k) 0 _ S67 ⟨Nat.zero_le _, List.length_replicate, fun i hi => by omega, hS67⟩ sbA sbA hzB ?_
      rintro k ll Sl ⟨hk, hll, hfi, hO⟩
      have hos := hO.sl
      rw [hll] at hos
      refine c_seq fun _ hK17 => ?_
      refine c_region ?_
      refine o_step rfl (s_lss rfl rfl) ?_
      refine o_nil ?_
      refine x_then (hK17 _ _ ?_)
      refine c_seq fun _ hK18 => ?_
      refine c_if rfl (fun hkl => ?_) (fun hkl => ?_)
      ·
       obtain ⟨sk, hsk⟩ : ∃ s, L[k]? = some s := ⟨_, List.getElem?_eq_getElem (by omega)⟩
       have hskm := List.mem_of_getElem? hsk
       rcases hg.all sk hskm with hno | hok
       ·
        subst hno
        refine c_skip ?_
        refine x_then (hK18 _ _ ?_)
        refine c_seq fun _ hK19 => ?_
        refine c_block ?_
        refine c_seq fun _ hK20 => ?_
        refine c_region ?_
        refine o_step rfl (s_move rfl) ?_
        refine o_step rfl (s_idx rfl rfl hOs (by omega)) ?_
        refine o_step rfl (s_ldB rfl ((hOL.rdk hiA).lds k hsk rfl) (by rfl)) ?_
        refine o_alloc (l := Esp ⟨0, 0⟩) rfl rfl fun b11 => ?_
        refine o_step rfl (s_assign rfl) ?_
        refine o_stW rfl rfl upA lnA lnA onA ?_
        refine o_nil ?_
        refine x_then (hK20 _ _ ?_)
        refine c_seq fun _ hK21 => ?_
        refine c_region ?_
        refine o_step rfl (s_move rfl) ?_
        refine o_step rfl (s_move rfl) ?_
        refine o_step rfl (s_ldB rfl (RdPK.cels (.own meA)) lnA) ?_
        refine o_step rfl (s_idx rfl rfl hos (by omega)) ?_
        refine o_stSE k noS hO pkA rfl rfl (by omega) (by rw [Int.toNat_natCast]) fun S'' hS'' => ?_
        refine o_nil ?_
        refine x_then (hK21 _ _ ?_)
        refine c_seq fun _ hK22 => ?_
        refine c_region ?_
        refine o_step rfl (s_ldB rfl (RdPK.cels (.own meA)) lnA) ?_
        refine o_step rfl (s_ld rfl (.own meA rfl)) ?_
        refine o_step rfl (s_len rfl) ?_
        refine o_callP (lies_f noS w.length (fun h => absurd h.1 (by decide))) rfl rfl rfl (fun _ _ => trivial) (fun v82 hv82 => ?_)
        subst hv82
        refine o_step rfl (s_not rfl) ?_
        refine o_nil ?_
        refine x_then (hK22 _ _ ?_)
        refine c_true rfl ?_
        refine c_region ?_
        refine o_step rfl (s_move rfl) ?_
        refine o_step rfl (s_move rfl) ?_
        refine o_step rfl (s_build (cs := [_, _]) (vs := [_, _]) rfl rfl (.cons rfl rfl rfl rfl rfl (.cons rfl rfl rfl rfl rfl (.nil)))) ?_
        refine o_step rfl (s_idx rfl rfl hos (by omega)) ?_
        refine o_stSE k noS hS'' pkA rfl rfl (by rw [List.length_set]; omega) (by rw [Int.toNat_natCast]) fun S' hS' => ?_
        rw [List.set_set] at hS'
        refine o_nil ?_
        refine x_block ?_
        refine x_then (hK19 _ _ ?_)
        refine c_region ?_
        refine o_step rfl (s_add rfl rfl (by omega)) ?_
        refine o_step rfl (s_move rfl) ?_
        refine o_nil ?_
        exact x_then (x_inv (k + 1, _, S') ⟨by dsimp only; omega, by rw [List.length_set]; exact hll, set_fill hll hfi hsk, hS'⟩ (by first | omega | (dsimp only; omega)) sbA hzB)
       ·
        refine c_skip ?_
        refine x_then (hK18 _ _ ?_)
        refine c_seq fun _ hK23 => ?_
        refine c_block ?_
        refine c_seq fun _ hK24 => ?_
        refine c_region ?_
        refine o_step rfl (s_move rfl) ?_
        refine o_step rfl (s_idx rfl rfl hOs (by omega)) ?_
        refine o_step rfl (s_ldB rfl ((hOL.rdk hiA).lds k hsk rfl) (by rfl)) ?_
        refine o_alloc (l := Esp ⟨0, 0⟩) rfl rfl fun b11 => ?_
        refine o_step rfl (s_assign rfl) ?_
        refine o_stW rfl rfl upA lnA lnA onA ?_
        refine o_nil ?_
        refine x_then (hK24 _ _ ?_)
        refine c_seq fun _ hK25 => ?_
        refine c_region ?_
        refine o_step rfl (s_move rfl) ?_
        refine o_step rfl (s_move rfl) ?_
        refine o_step rfl (s_ldB rfl (RdPK.cels (.own meA)) lnA) ?_
        refine o_step rfl (s_idx rfl rfl hos (by omega)) ?_
        refine o_stSE k sk hO pkA rfl rfl (by omega) (by rw [Int.toNat_natCast]) fun S' hS' => ?_
        refine o_nil ?_
        refine x_then (hK25 _ _ ?_)
        refine c_seq fun _ hK26 => ?_
        refine c_region ?_
        refine o_step rfl (s_ldB rfl (RdPK.cels (.own meA)) lnA) ?_
        refine o_step rfl (s_ld rfl (.own meA rfl)) ?_
        refine o_step rfl (s_len rfl) ?_
        refine o_callP (lies_t sk w.length hok) rfl rfl rfl (fun _ _ => trivial) (fun v82 hv82 => ?_)
        subst hv82
        refine o_step rfl (s_not rfl) ?_
        refine o_nil ?_
        refine x_then (hK26 _ _ ?_)
        refine c_false rfl ?_
        refine c_skip ?_
        refine x_block ?_
        refine x_then (hK23 _ _ ?_)
        refine c_region ?_
        refine o_step rfl (s_add rfl rfl (by omega)) ?_
        refine o_step rfl (s_move rfl) ?_
        refine o_nil ?_
        exact x_then (x_inv (k + 1, _, S') ⟨by dsimp only; omega, by rw [List.length_set]; exact hll, set_fill hll hfi hsk, hS'⟩ (by first | omega | (dsimp only; omega)) sbA hzB)
      ·
       rw [fill_all hll hfi (by omega)] at hO
       refine c_exit ?_
       refine x_then_exit ?_
       refine x_then_exit ?_
       refine x_block_exit ?_
       refine x_then (hK15 _ _ ?_)
       refine c_seq fun _ hK27 => ?_
       refine c_seq fun _ hK28 => ?_
       refine c_region ?_
       refine o_step rfl (s_move rfl) ?_
       refine o_step rfl (s_move rfl) ?_
       refine o_yield (hY p L _ _ B1 hHB hpre ⟨_, _, rfl, hO⟩) rfl rfl rfl ((Pick.takeA pkA pkA)) (fun v91 S91 hv91 => ?_)
       rcases hv91 with ⟨rfl, hH3⟩ | ⟨rfl, hX3⟩
       ·
        refine o_step rfl (s_not rfl) ?_
        refine o_nil ?_
        refine x_then (hK28 _ _ ?_)
        refine c_false rfl ?_
        refine c_skip ?_
        refine x_then (hK27 _ _ ?_)
        refine c_quiet (by kernel_rfl) ?_
        refine .op rfl (s_field rfl rfl (by decide)) ?_
        refine .op rfl (s_ld rfl (.own meA rfl)) ?_
        refine .op rfl (s_field rfl rfl (by decide)) ?_
        refine .op rfl (s_ld rfl (.own meA rfl)) ?_
        refine .op rfl (s_assign rfl) ?_
        refine .op rfl (s_assign rfl) ?_
        refine .nil ?_
        refine x_block ?_
        exact x_then (x_inv (q2, (q2 : Int), s2, S1, S91, p ++ [L], r2) ⟨by rw [hxs, hr2, List.append_assoc]; rfl, hM2, hs2, hH3, by dsimp only; omega⟩ (by dsimp only; exact mt_meas hg hnl) sbA hzB)
       ·
        refine o_step rfl (s_not rfl) ?_
        refine o_nil ?_
        refine x_then (hK28 _ _ ?_)
        refine c_true rfl ?_
        refine c_ret ?_
        refine x_then_ret (x_block_ret (x_then_ret (x_block_ret (?_))))
        refine x_sub (Sub.refl _) (H' := ((bt, .cells [.slice xa w.length xc].toArray 23 (0, 0)) :: (br, .cells [vF].toArray 24 (0, 0)) :: S1) ++ S91) hzB ?_
        exact x_ret rfl (.nil) (⟨_, S91, rfl, ⟨s2, S1, rfl, hs2⟩, .inr ⟨_, hpre, hX3⟩⟩)
    ·
     have hnl : ¬ (p2 = q2 ∧ last = p2) := fun h => hpq (by omega)
     obtain ⟨_, r2, hr2, hM2⟩ := hcase.resolve_left (fun h => hnl ⟨h.1, h.2.1⟩)
     have hpre : p ++ [L] <+: xs := ⟨r2, by rw [hxs, hr2, List.append_assoc]; rfl⟩
     refine o_step rfl (step_cast (v' := .bool false) (s_eql rfl rfl) (by rw [decide_eq_false hpq])) ?_
     refine o_step rfl (s_move rfl) ?_
     refine o_no rfl rfl rfl rfl ?_
     refine o_no rfl rfl rfl rfl ?_
     refine o_no rfl rfl rfl rfl ?_
     refine o_no rfl rfl rfl rfl ?_
     refine o_step rfl (s_pick_f rfl rfl) ?_
     refine o_nil ?_
     refine x_then (hK12 _ _ ?_)
     refine c_false rfl ?_
     refine c_skip ?_
     refine x_then (hK11 _ _ ?_)
     refine c_seq fun _ hK29 => ?_
     refine c_region ?_
     refine o_step rfl (s_move rfl) ?_
     refine o_step rfl (s_len rfl) ?_
     refine o_make (E := Esp) (zx := ⟨0, 0⟩) (n := L.length) rfl rfl rfl (by omega) (by omega) rfl fun b67 S67 hS67 => ?_
     refine o_step rfl (s_assign rfl) ?_
     refine o_nil ?_
     refine x_then (hK29 _ _ ?_)
     refine c_seq fun _ hK30 => ?_
     refine c_seq fun _ hK31 => ?_
     refine c_region ?_
     refine o_step rfl (s_move rfl) ?_
     refine o_step rfl (s_len rfl) ?_
     refine o_step rfl (s_move rfl) ?_
     refine o_nil ?_
     refine x_then (hK31 _ _ ?_)
     refine c_block ?_
     refine c_loop3 (fun (k : Nat) (ll : List Sp) (Sl : Hp) => k ≤ L.length ∧ ll.length = L.length ∧ (∀ i, i < k → ll[i]? = L[i]?) ∧ OwnS Esp 2 51 (.slice (some ⟨b67, 0, none⟩) L.length L.length) ll Sl) (fun (k : Nat) (ll : List Sp) (Sl : Hp) => [(70, .int .i64 k)]) [(0, _), (1, _), (2, _), (4, _), (5, _), (6, _), (7, _), (8, _), (9, _), (12, _), (13, _), (14, _), (15, _), (16, _), (17, _), (18, _), (19, _), (20, _), (21, _), (22, _), (23, _), (24, _), (25, _), (26, _), (27, _), (28, _), (29, _), (30, _), (31, _), (32, _), (33, _), (34, _), (35, _), (36, _), (37, _), (38, _), (39, _), (40, _), (41, _), (42, _), (43, _), (44, _), (45, _), (46, _), (47, _), (48, _), (49, _), (50, _), (51, _), (52, _), (53, _), (54, _), (55, _), (56, _), (57, _), (58, _), (59, _), (60, _), (61, _), (62, _), (65, _), (66, _), (67, _), (68, _), (69, _)] (fun (k : Nat) (ll : List Sp) (Sl : Hp) => (b8, .cells (Esp ⟨p2, q2⟩).toArray 51 (0, 0)) :: (bt, .cells [.slice xa w.length xc].toArray 23 (0, 0)) :: (br, .cells [vF].toArray 24 (0, 0)) :: (S1 ++ (SL ++ (Sl ++ B1)))) (fun (k : Nat) (ll : List Sp) (Sl : Hp) => L.length - k) 0 _ S67 ⟨Nat.zero_le _, List.length_replicate, fun i hi => by omega, hS67⟩ sbA sbA hzB ?_
     rintro k ll Sl ⟨hk, hll, hfi, hO⟩
     have hos := hO.sl
     rw [hll] at hos
     refine c_seq fun _ hK32 => ?_
     refine c_region ?_
     refine o_step rfl (s_lss rfl rfl) ?_
     refine o_nil ?_
     refine x_then (hK32 _ _ ?_)
     refine c_seq fun _ hK33 => ?_
     refine c_if rfl (fun hkl => ?_) (fun hkl => ?_)
     ·
      obtain ⟨sk, hsk⟩ : ∃ s, L[k]? = some s := ⟨_, List.getElem?_eq_getElem (by omega)⟩
      have hskm := List.mem_of_getElem? hsk
      rcases hg.all sk hskm with hno | hok
      ·
       subst hno
       refine c_skip ?_
       refine x_then (hK33 _ _ ?_)
       refine c_seq fun _ hK34 => ?_
       refine c_block ?_
       refine c_seq fun _ hK35 => ?_
       refine c_region ?_
       refine o_step rfl (s_move rfl) ?_
       refine o_step rfl (s_idx rfl rfl hOs (by omega)) ?_
       refine o_step rfl (s_ldB rfl ((hOL.rdk hiA).lds k hsk rfl) (by rfl)) ?_
       refine o_alloc (l := Esp ⟨0, 0⟩) rfl rfl fun b11 => ?_
       refine o_step rfl (s_assign rfl) ?_
       refine o_stW rfl rfl upA lnA lnA onA ?_
       refine o_nil ?_
       refine x_then (hK35 _ _ ?_)
       refine c_seq fun _ hK36 => ?_
       refine c_region ?_
       refine o_step rfl (s_move rfl) ?_
       refine o_step rfl (s_move rfl) ?_
       refine o_step rfl (s_ldB rfl (RdPK.cels (.own meA)) lnA) ?_
       refine o_step rfl (s_idx rfl rfl hos (by omega)) ?_
       refine o_stSE k noS hO pkA rfl rfl (by omega) (by rw [Int.toNat_natCast]) fun S'' hS'' => ?_
       refine o_nil ?_
       refine x_then (hK36 _ _ ?_)
       refine c_seq fun _ hK37 => ?_
       refine c_region ?_
       refine o_step rfl (s_ldB rfl (RdPK.cels (.own meA)) lnA) ?_
       refine o_step rfl (s_ld rfl (.own meA rfl)) ?_
       refine o_step rfl (s_len rfl) ?_
       refine o_callP (lies_f noS w.length (fun h => absurd h.1 (by decide))) rfl rfl rfl (fun _ _ => trivial) (fun v82 hv82 => ?_)
       subst hv82
       refine o_step rfl (s_not rfl) ?_
       refine o_nil ?_
       refine x_then (hK37 _ _ ?_)
       refine c_true rfl ?_
       refine c_region ?_
       refine o_step rfl (s_move rfl) ?_
       refine o_step rfl (s_move rfl) ?_
       refine o_step rfl (s_build (cs := [_, _]) (vs := [_, _]) rfl rfl (.cons rfl rfl rfl rfl rfl (.cons rfl rfl rfl rfl rfl (.nil)))) ?_
       refine o_step rfl (s_idx rfl rfl hos (by omega)) ?_
       refine o_stSE k noS hS'' pkA rfl rfl (by rw [List.length_set]; omega) (by rw [Int.toNat_natCast]) fun S' hS' => ?_
       rw [List.set_set] at hS'
       refine o_nil ?_
       refine x_block ?_
       refine x_then (hK34 _ _ ?_)
       refine c_region ?_
       refine o_step rfl (s_add rfl rfl (by omega)) ?_
       refine o_step rfl (s_move rfl) ?_
       refine o_nil ?_
       exact x_then (x_inv (k + 1, _, S') ⟨by dsimp only; omega, by rw [List.length_set]; exact hll, set_fill hll hfi hsk, hS'⟩ (by first | omega | (dsimp only; omega)) sbA hzB)
      ·
       refine c_skip ?_
       refine x_then (hK33 _ _ ?_)
       refine c_seq fun _ hK38 => ?_
       refine c_block ?_
       refine c_seq fun _ hK39 => ?_
       refine c_region ?_
       refine o_step rfl (s_move rfl) ?_
       refine o_step rfl (s_idx rfl rfl hOs (by omega)) ?_
       refine o_step rfl (s_ldB rfl ((hOL.rdk hiA).lds k hsk rfl) (by rfl)) ?_
       refine o_alloc (l := Esp ⟨0, 0⟩) rfl rfl fun b11 => ?_
       refine o_step rfl (s_assign rfl) ?_
       refine o_stW rfl rfl upA lnA lnA onA ?_
       refine o_nil ?_
       refine x_then (hK39 _ _ ?_)
       refine c_seq fun _ hK40 => ?_
       refine c_region ?_
       refine o_step rfl (s_move rfl) ?_
       refine o_step rfl (s_move rfl) ?_
       refine o_step rfl (s_ldB rfl (RdPK.cels (.own meA)) lnA) ?_
       refine o_step rfl (s_idx rfl rfl hos (by omega)) ?_
       refine o_stSE k sk hO pkA rfl rfl (by omega) (by rw [Int.toNat_natCast]) fun S' hS' => ?_
       refine o_nil ?_
       refine x_then (hK40 _ _ ?_)
       refine c_seq fun _ hK41 => ?_
       refine c_region ?_
       refine o_step rfl (s_ldB rfl (RdPK.cels (.own meA)) lnA) ?_
       refine o_step rfl (s_ld rfl (.own meA rfl)) ?_
       refine o_step rfl (s_len rfl) ?_
       refine o_callP (lies_t sk w.length hok) rfl rfl rfl (fun _ _ => trivial) (fun v82 hv82 => ?_)
       subst hv82
       refine o_step rfl (s_not rfl) ?_
       refine o_nil ?_
       refine x_then (hK41 _ _ ?_)
       refine c_false rfl ?_
       refine c_skip ?_
       refine x_block ?_
       refine x_then (hK38 _ _ ?_)
       refine c_region ?_
       refine o_step rfl (s_add rfl rfl (by omega)) ?_
       refine o_step rfl (s_move rfl) ?_
       refine o_nil ?_
       exact x_then (x_inv (k + 1, _, S') ⟨by dsimp only; omega, by rw [List.length_set]; exact hll, set_fill hll hfi hsk, hS'⟩ (by first | omega | (dsimp only; omega)) sbA hzB)
     ·
      rw [fill_all hll hfi (by omega)] at hO
      refine c_exit ?_
      refine x_then_exit ?_
      refine x_then_exit ?_
      refine x_block_exit ?_
      refine x_then (hK30 _ _ ?_)
      refine c_seq fun _ hK42 => ?_
      refine c_seq fun _ hK43 => ?_
      refine c_region ?_
      refine o_step rfl (s_move rfl) ?_
      refine o_step rfl (s_move rfl) ?_
      refine o_yield (hY p L _ _ B1 hHB hpre ⟨_, _, rfl, hO⟩) rfl rfl rfl ((Pick.takeA pkA pkA)) (fun v91 S91 hv91 => ?_)
      rcases hv91 with ⟨rfl, hH3⟩ | ⟨rfl, hX3⟩
      ·
       refine o_step rfl (s_not rfl) ?_
       refine o_nil ?_
       refine x_then (hK43 _ _ ?_)
       refine c_false rfl ?_
       refine c_skip ?_
       refine x_then (hK42 _ _ ?_)
       refine c_quiet (by kernel_rfl) ?_
       refine .op rfl (s_field rfl rfl (by decide)) ?_
       refine .op rfl (s_ld rfl (.own meA rfl)) ?_
       refine .op rfl (s_field rfl rfl (by decide)) ?_
       refine .op rfl (s_ld rfl (.own meA rfl)) ?_
       refine .op rfl (s_assign rfl) ?_
       refine .op rfl (s_assign rfl) ?_
       refine .nil ?_
       refine x_block ?_
       exact x_then (x_inv (q2, (q2 : Int), s2, S1, S91, p ++ [L], r2) ⟨by rw [hxs, hr2, List.append_assoc]; rfl, hM2, hs2, hH3, by dsimp only; omega⟩ (by dsimp only; exact mt_meas hg hnl) sbA hzB)
      ·
       refine o_step rfl (s_not rfl) ?_
       refine o_nil ?_
       refine x_then (hK43 _ _ ?_)
       refine c_true rfl ?_
       refine c_ret ?_
       refine x_then_ret (x_block_ret (x_then_ret (x_block_ret (?_))))
       refine x_sub (Sub.refl _) (H' := ((bt, .cells [.slice xa w.length xc].toArray 23 (0, 0)) :: (br, .cells [vF].toArray 24 (0, 0)) :: S1) ++ S91) hzB ?_
       exact x_ret rfl (.nil) (⟨_, S91, rfl, ⟨s2, S1, rfl, hs2⟩, .inr ⟨_, hpre, hX3⟩⟩)
  ·
   obtain rfl := hM.out_nil (by omega)
   rw [List.append_nil] at hxs
   subst hxs
   refine c_exit ?_
   refine x_then_exit ?_
   refine x_then_exit ?_
   refine x_block_exit ?_
   refine x_sub (Sub.refl _) (H' := ((bt, .cells [.slice xa w.length xc].toArray 23 (0, 0)) :: (br, .cells [vF].toArray 24 (0, 0)) :: Sf) ++ B1) hzB ?_
   exact x_end rfl (.nil) (⟨_, B1, rfl, ⟨s, Sf, rfl, hs⟩, .inl hHB⟩)

set_option maxHeartbeats 4000000 in
theorem matchesP_fn {σ : Type} (w : List UInt8) (hwl : w.length ≤ 1000000) (vF : Value) (HS : σ → Hp → Prop) (stp : σ → Nat → Bool → List Sp → σ → Prop) (preF : Hp → World → Prop) (hdet : Det stp) (hF : FindC 115 w vF HS stp preF) (hst : PreS preF) (hv1 : vF.oneCell' = true) (bt br : Nat) (xa : Option Addr) (xc : Nat) (s0 : σ) (S0 : Hp) (hs0 : HS s0 S0) (xs : List (List Sp)) (hM0 : MtS stp w.length s0 0 (-1) xs)
    (l : Nat) (HY HX : List (List Sp) → Hp → Prop) (hY : ∀ pre x vs Sx B, HY pre B → pre ++ [x] <+: xs → EvSp x vs Sx → Yd Try.prog l vs (B ++ Sx) (fun v B' => (v = .bool true ∧ HY (pre ++ [x]) B') ∨ (v = .bool false ∧ HX (pre ++ [x]) B'))) (B : Hp) (hB : HY [] B) : HL.Fn Try.prog 55 [.func (.yield l) #[] #[], pt bt, pt br] (fun W => preF (((bt, .cells [.slice xa w.length xc].toArray 23 (0, 0)) :: (br, .cells [vF].toArray 63 (0, 0)) :: S0) ++ B) W ∧ Rd Eb W (.slice xa w.length xc) w ∧ Apart (keys (((bt, .cells [.slice xa w.length xc].toArray 23 (0, 0)) :: (br, .cells [vF].toArray 63 (0, 0)) :: S0) ++ B)) (.slice xa w.length xc)) (((bt, .cells [.slice xa w.length xc].toArray 23 (0, 0)) :: (br, .cells [vF].toArray 63 (0, 0)) :: S0) ++ B) (fun _ S' => ∃ S1 B', S' = S1 ++ B' ∧ (∃ s2 S2, S1 = (bt, .cells [.slice xa w.length xc].toArray 23 (0, 0)) :: (br, .cells [vF].toArray 63 (0, 0)) :: S2 ∧ HS s2 S2) ∧ (HY xs B' ∨ ∃ p, p <+: xs ∧ HX p B')) := by
  refine fn_of Try.func55 rfl rfl rfl fun w0 hw => ?_
  obtain ⟨hp0, hx0, ha0⟩ := hw
  have hsx := hx0.sl
  refine c_seq fun _ hK1 => ?_
  refine c_region ?_
  refine o_step rfl (s_assign rfl) ?_
  refine o_nil ?_
  refine x_then (hK1 _ _ ?_)
  refine c_seq fun _ hK2 => ?_
  refine c_region ?_
  refine o_step rfl (s_assign rfl) ?_
  refine o_nil ?_
  refine x_then (hK2 _ _ ?_)
  refine c_block ?_
  refine c_loop7 (fun (a : Nat) (last : Int) (s : σ) (Sf : Hp) (B1 : Hp) (p : List (List Sp)) (r : List (List Sp)) => xs = p ++ r ∧ MtS stp w.length s a last r ∧ HS s Sf ∧ HY p B1 ∧ a ≤ w.length + 1) (fun (a : Nat) (last : Int) (s : σ) (Sf : Hp) (B1 : Hp) (p : List (List Sp)) (r : List (List Sp)) => [(4, .int .i64 last), (5, .int .i64 a)]) [(0, _), (1, _), (2, _)] (fun (a : Nat) (last : Int) (s : σ) (Sf : Hp) (B1 : Hp) (p : List (List Sp)) (r : List (List Sp)) => (bt, .cells [.slice xa w.length xc].toArray 23 (0, 0)) :: (br, .cells [vF].toArray 63 (0, 0)) :: (Sf ++ B1)) (fun (a : Nat) (last : Int) (s : σ) (Sf : Hp) (B1 : Hp) (p : List (List Sp)) (r : List (List Sp)) => 2 * (w.length + 1 - a) + (if last = (a : Nat) then 0 else 1)) 0 (-1) s0 S0 B [] xs ⟨rfl, hM0, hs0, hB, by omega⟩ sbA sbA (by exact HSub.refl _) ?_
  rintro a last s Sf B1 p r ⟨hxs, hM, hs, hHB, hal⟩
  refine c_seq fun _ hK3 => ?_
  refine c_seq fun _ hK4 => ?_
  refine c_region ?_
  refine o_step rfl (s_move rfl) ?_
  refine o_step rfl (s_ld rfl (.own meA rfl)) ?_
  refine o_step rfl (s_len rfl) ?_
  refine o_step rfl (s_leq rfl rfl) ?_
  refine o_nil ?_
  refine x_then (hK4 _ _ ?_)
  refine c_if rfl (fun hle => ?_) (fun hle => ?_)
  ·
   have ha : a ≤ w.length := by omega
   refine c_skip ?_
   refine x_then (hK3 _ _ ?_)
   refine c_block ?_
   refine c_seq fun _ hK5 => ?_
   refine c_drawE ([(bt, .cells [.slice xa w.length xc].toArray 23 (0, 0)), (br, .cells [vF].toArray 63 (0, 0))]) (fun i => false) ?_
   refine e_tk 0 rfl hzB (s_ld rfl (.own meA rfl)) ?_
   refine e_pr 1 rfl (s_iface (by kernel_rfl) rfl) ?_
   refine e_tk 2 rfl hzB (s_ld rfl (.own meA rfl)) ?_
   refine e_pr 4 rfl (s_move rfl) ?_
   refine e_one 3 rfl (by kernel_rfl) ?_
   refine o_call (clone_fn xa xc w) rfl rfl rfl (by exact .nil) (fun _ st => (RdK.old hx0 ha0).out _ st) (fun v20 S20 ⟨a20, c20, hv20, hS20⟩ => ?_)
   subst hv20
   refine o_nil ?_
   refine x_oneS hzB ?_
   refine e_one 5 rfl (by kernel_rfl) ?_
   refine o_invoke (hF s Sf S20 a20 c20 a hs ha hS20 (hM.has ha)) rfl rfl rfl ((Pick.takeA pkA pkA)) (fun _ st => hst hp0 st (hin_sub hzB)) (fun v22 S22 ⟨b, L, s2, a22, c22, S1, SL, hv22, hS22, hs2, hOL, hstp⟩ => ?_)
   subst hv22
   subst hS22
   cases b
   ·
    obtain rfl := hM.at_none hdet ha hstp
    rw [List.append_nil] at hxs
    subst hxs
    refine o_nil ?_
    refine x_oneS hzB ?_
    refine e_pr 6 rfl (s_move rfl) ?_
    refine e_pr 7 rfl (s_extract rfl rfl) ?_
    refine e_pr 8 rfl (s_extract rfl rfl) ?_
    refine e_pr 9 rfl (s_assign rfl) ?_
    refine e_pr 10 rfl (s_assign rfl) ?_
    refine e_done (by kernel_rfl) ?_
    refine x_then (hK5 _ _ ?_)
    refine c_seq fun _ hK6 => ?_
    refine c_seq fun _ hK7 => ?_
    refine c_quiet (by kernel_rfl) ?_
    refine .op rfl (s_move rfl) ?_
    refine .op rfl (s_not rfl) ?_
    refine .op rfl (s_move rfl) ?_
    refine .no rfl rfl rfl rfl ?_
    refine .no rfl rfl rfl rfl ?_
    refine .no rfl rfl rfl rfl ?_
    refine .op rfl (s_pick_t rfl rfl) ?_
    refine .op rfl (s_move rfl) ?_
    refine .no rfl rfl rfl rfl ?_
    refine .no rfl rfl rfl rfl ?_
    refine .no rfl rfl rfl rfl ?_
    refine .no rfl rfl rfl rfl ?_
    refine .no rfl rfl rfl rfl ?_
    refine .no rfl rfl rfl rfl ?_
    refine .no rfl rfl rfl rfl ?_
    refine .op rfl (s_pick_t rfl rfl) ?_
    refine .op rfl (s_move rfl) ?_
    refine .no rfl rfl rfl rfl ?_
    refine .no rfl rfl rfl rfl ?_
    refine .no rfl rfl rfl rfl ?_
    refine .no rfl rfl rfl rfl ?_
    refine .no rfl rfl rfl rfl ?_
    refine .no rfl rfl rfl rfl ?_
    refine .op rfl (s_pick_t rfl rfl) ?_
    refine .nil ?_
    refine x_then (hK7 _ _ ?_)
    refine c_true rfl ?_
    refine c_ret ?_
    refine x_then_ret (x_block_ret (x_then_ret (x_block_ret (?_))))
    refine x_sub (Sub.refl _) (H' := ((bt, .cells [.slice xa w.length xc].toArray 23 (0, 0)) :: (br, .cells [vF].toArray 63 (0, 0)) :: S1) ++ B1) hzB ?_
    exact x_ret rfl (.nil) (⟨_, B1, rfl, ⟨s2, S1, rfl, hs2⟩, .inl hHB⟩)
   ·
    obtain ⟨p2, q2, hg, hcase⟩ := hM.at_some hdet ha hstp
    have hgh := hg.hd
    have hg1 := hg.ge
    have hg2 := hg.le
    have hg3 := hg.ln
    have hLl := hg.len
    have hLp : 0 < L.length := (List.getElem?_eq_some_iff.1 hgh).1
    have hOs := hOL.sl
    refine o_nil ?_
    refine x_oneS hzB ?_
    refine e_pr 6 rfl (s_move rfl) ?_
    refine e_pr 7 rfl (s_extract rfl rfl) ?_
    refine e_pr 8 rfl (s_extract rfl rfl) ?_
    refine e_pr 9 rfl (s_assign rfl) ?_
    refine e_pr 10 rfl (s_assign rfl) ?_
    refine e_done (by kernel_rfl) ?_
    refine x_then (hK5 _ _ ?_)
    refine c_seq fun _ hK8 => ?_
    refine c_seq fun _ hK9 => ?_
    refine c_quiet (by kernel_rfl) ?_
    refine .op rfl (s_move rfl) ?_
    refine .op rfl (s_not rfl) ?_
    refine .op rfl (s_move rfl) ?_
    refine .yes rfl rfl rfl (s_move rfl) ?_
    refine .yes rfl rfl rfl (s_len rfl) ?_
    refine .yes rfl rfl rfl (s_eql_f rfl rfl (by omega)) ?_
    refine .op rfl (s_pick_f rfl rfl) ?_
    refine .op rfl (s_move rfl) ?_
    refine .yes rfl rfl rfl (s_move rfl) ?_
    refine .yes rfl rfl rfl (s_idx rfl rfl hOs (by omega)) ?_
    refine .yes rfl rfl rfl (s_ldB rfl ((hOL.rdk hiA).lds 0 hgh rfl) (by rfl)) ?_
    refine .yes rfl rfl rfl (s_ld rfl (.own meA rfl)) ?_
    refine .yes rfl rfl rfl (s_len rfl) ?_
    refine .call (fun _ fr => by rw [wanted_of fr rfl rfl rfl]; rfl) rfl rfl rfl (lies_t ⟨p2, q2⟩ w.length ⟨by simp only; omega, by simp only; omega, by simp only; omega⟩) (fun _ _ => trivial) ?_
    refine .yes rfl rfl rfl (s_not rfl) ?_
    refine .op rfl (s_pick_f rfl rfl) ?_
    refine .op rfl (s_move rfl) ?_
    refine .yes rfl rfl rfl (s_move rfl) ?_
    refine .yes rfl rfl rfl (s_idx rfl rfl hOs (by omega)) ?_
    refine .yes rfl rfl rfl (s_field rfl rfl (by decide)) ?_
    refine .yes rfl rfl rfl (s_ld rfl ((hOL.rdk hiA).ld 0 0 hgh rfl (by decide) (by omega))) ?_
    refine .yes rfl rfl rfl (s_move rfl) ?_
    refine .yes rfl rfl rfl (s_lss_f rfl rfl (by show ¬ ((p2 : Int) < a); omega)) ?_
    refine .op rfl (s_pick_f rfl rfl) ?_
    refine .nil ?_
    refine x_then (hK9 _ _ ?_)
    refine c_false rfl ?_
    refine c_skip ?_
    refine x_then (hK8 _ _ ?_)
    refine c_seq fun _ hK10 => ?_
    refine c_region ?_
    refine o_step rfl (s_move rfl) ?_
    refine o_step rfl (s_idx rfl rfl hOs (by omega)) ?_
    refine o_step rfl (s_ldB rfl ((hOL.rdk hiA).lds 0 hgh rfl) (by rfl)) ?_
    refine o_alloc (l := Esp ⟨0, 0⟩) rfl rfl fun b8 => ?_
    refine o_stW rfl rfl upA lnA lnA onA ?_
    refine o_nil ?_
    refine x_then (hK10 _ _ ?_)
    refine c_seq fun _ hK11 => ?_
    refine c_seq fun _ hK12 => ?_
    refine c_region ?_
    refine o_step rfl (s_field rfl rfl (by decide)) ?_
    refine o_step rfl (s_ld rfl (.own meA rfl)) ?_
    refine o_step rfl (s_field rfl rfl (by decide)) ?_
    refine o_step rfl (s_ld rfl (.own meA rfl)) ?_
    by_cases hpq : (p2 : Int) = q2
    ·
     refine o_step rfl (step_cast (v' := .bool true) (s_eql rfl rfl) (by rw [decide_eq_true hpq])) ?_
     refine o_step rfl (s_move rfl) ?_
     refine o_yes rfl rfl ?_
     refine o_step rfl (s_field rfl rfl (by decide)) ?_
     refine o_yes rfl rfl ?_
     refine o_step rfl (s_ld rfl (.own meA rfl)) ?_
     refine o_yes rfl rfl ?_
     refine o_step rfl (s_move rfl) ?_
     refine o_yes rfl rfl ?_
     by_cases hql : (q2 : Int) = last
     ·
      obtain ⟨_, _, hM2⟩ := hcase.resolve_right (fun h => h.1 ⟨by omega, by omega⟩)
      refine o_step rfl (step_cast (v' := .bool true) (s_eql rfl rfl) (by rw [decide_eq_true hql])) ?_
      refine o_step rfl (s_pick_t rfl rfl) ?_
      refine o_nil ?_
      refine x_then (hK12 _ _ ?_)
      refine c_true rfl ?_
      refine c_seq fun _ hK13 => ?_
      refine c_region ?_
      refine o_step rfl (s_move rfl) ?_
      refine o_step rfl (s_add rfl rfl (by omega)) ?_
      refine o_step rfl (s_assign rfl) ?_
      refine o_nil ?_
      refine x_then (hK13 _ _ ?_)
      refine c_exit ?_
      refine x_then_exit ?_
      refine x_block_exit ?_
      exact x_then (x_inv (a + 1, last, s2, S1, B1, p, r) ⟨hxs, hM2, hs2, hHB, by dsimp only; omega⟩ (by dsimp only; split <;> split <;> omega) sbA hzB)
     ·
      have hnl : ¬ (p2 = q2 ∧ last = p2) := fun h => hql (by omega)
      obtain ⟨_, r2, hr2, hM2⟩ := hcase.resolve_left (fun h => hnl ⟨h.1, h.2.1⟩)
      have hpre : p ++ [L] <+: xs := ⟨r2, by rw [hxs, hr2, List.append_assoc]; rfl⟩
      refine o_step rfl (step_cast (v' := .bool false) (s_eql rfl rfl) (by rw [decide_eq_false hql])) ?_
      refine o_step rfl (s_pick_t rfl rfl) ?_
      refine o_nil ?_
      refine x_then (hK12 _ _ ?_)
      refine c_false rfl ?_
      refine c_skip ?_
      refine x_then (hK11 _ _ ?_)
      refine c_seq fun _ hK14 => ?_
      refine c_region ?_
      refine o_step rfl (s_move rfl) ?_
      refine o_step rfl (s_len rfl) ?_
      refine o_make (E := Esp) (zx := ⟨0, 0⟩) (n := L.length) rfl rfl rfl (by omega) (by omega) rfl fun b67 S67 hS67 => ?_
      refine o_step rfl (s_assign rfl) ?_
      refine o_nil ?_
      refine x_then (hK14 _ _ ?_)
      refine c_seq fun _ hK15 => ?_
      refine c_seq fun _ hK16 => ?_
      refine c_region ?_
      refine o_step rfl (s_move rfl) ?_
      refine o_step rfl (s_len rfl) ?_
      refine o_step rfl (s_move rfl) ?_
      refine o_nil ?_
      refine x_then (hK16 _ _ ?_)
      refine c_block ?_
      refine c_loop3 (fun (k : Nat) (ll : List Sp) (Sl : Hp) => k ≤ L.length ∧ ll.length = L.length ∧ (∀ i, i < k → ll[i]? = L[i]?) ∧ OwnS Esp 2 51 (.slice (some ⟨b67, 0, none⟩) L.length L.length) ll Sl) (fun (k : Nat) (ll : List Sp) (Sl : Hp) => [(70, .int .i64 k)]) [(0, _), (1, _), (2, _), (4, _), (5, _), (6, _), (7, _), (8, _), (9, _), (12, _), (13, _), (14, _), (15, _), (16, _), (17, _), (18, _), (19, _), (20, _), (21, _), (22, _), (23, _), (24, _), (25, _), (26, _), (27, _), (28, _), (29, _), (30, _), (31, _), (32, _), (33, _), (34, _), (35, _), (36, _), (37, _), (38, _), (39, _), (40, _), (41, _), (42, _), (43, _), (44, _), (45, _), (46, _), (47, _), (48, _), (49, _), (50, _), (51, _), (52, _), (53, _), (54, _), (55, _), (56, _), (57, _), (58, _), (59, _), (60, _), (61, _), (62, _), (65, _), (66, _), (67, _), (68, _), (69, _)] (fun (k : Nat) (ll : List Sp) (Sl : Hp) => (b8, .cells (Esp ⟨p2, q2⟩).toArray 51 (0, 0)) :: (bt, .cells [.slice xa w.length xc].toArray 23 (0, 0)) :: (br, .cells [vF].toArray 63 (0, 0)) :: (S1 ++ (SL ++ (Sl ++ B1)))) (fun (k : Nat) (ll : List Sp) (Sl : Hp) => L.length - k) 0 _ S67 ⟨Nat.zero_le _, List.length_replicate, fun i hi => by omega, hS67⟩ sbA sbA hzB ?_
      rintro k ll Sl ⟨hk, hll, hfi, hO⟩
      have hos := hO.sl
      rw [hll] at hos
      refine c_seq fun _ hK17 => ?_
      refine c_region ?_
      refine o_step rfl (s_lss rfl rfl) ?_
      refine o_nil ?_
      refine x_then (hK17 _ _ ?_)
      refine c_seq fun _ hK18 => ?_
      refine c_if rfl (fun hkl => ?_) (fun hkl => ?_)
      ·
       obtain ⟨sk, hsk⟩ : ∃ s, L[k]? = some s := ⟨_, List.getElem?_eq_getElem (by omega)⟩
       have hskm := List.mem_of_getElem? hsk
       rcases hg.all sk hskm with hno | hok
       ·
        subst hno
        refine c_skip ?_
        refine x_then (hK18 _ _ ?_)
        refine c_seq fun _ hK19 => ?_
        refine c_block ?_
        refine c_seq fun _ hK20 => ?_
        refine c_region ?_
        refine o_step rfl (s_move rfl) ?_
        refine o_step rfl (s_idx rfl rfl hOs (by omega)) ?_
        refine o_step rfl (s_ldB rfl ((hOL.rdk hiA).lds k hsk rfl) (by rfl)) ?_
        refine o_alloc (l := Esp ⟨0, 0⟩) rfl rfl fun b11 => ?_
        refine o_step rfl (s_assign rfl) ?_
        refine o_stW rfl rfl upA lnA lnA onA ?_
        refine o_nil ?_
        refine x_then (hK20 _ _ ?_)
        refine c_seq fun _ hK21 => ?_
        refine c_region ?_
        refine o_step rfl (s_move rfl) ?_
        refine o_step rfl (s_move rfl) ?_
        refine o_step rfl (s_ldB rfl (RdPK.cels (.own meA)) lnA) ?_
        refine o_step rfl (s_idx rfl rfl hos (by omega)) ?_
        refine o_stSE k noS hO pkA rfl rfl (by omega) (by rw [Int.toNat_natCast]) fun S'' hS'' => ?_
        refine o_nil ?_
        refine x_then (hK21 _ _ ?_)
        refine c_seq fun _ hK22 => ?_
        refine c_region ?_
        refine o_step rfl (s_ldB rfl (RdPK.cels (.own meA)) lnA) ?_
        refine o_step rfl (s_ld rfl (.own meA rfl)) ?_
        refine o_step rfl (s_len rfl) ?_
        refine o_callP (lies_f noS w.length (fun h => absurd h.1 (by decide))) rfl rfl rfl (fun _ _ => trivial) (fun v82 hv82 => ?_)
        subst hv82
        refine o_step rfl (s_not rfl) ?_
        refine o_nil ?_
        refine x_then (hK22 _ _ ?_)
        refine c_true rfl ?_
        refine c_region ?_
        refine o_step rfl (s_move rfl) ?_
        refine o_step rfl (s_move rfl) ?_
        refine o_step rfl (s_build (cs := [_, _]) (vs := [_, _]) rfl rfl (.cons rfl rfl rfl rfl rfl (.cons rfl rfl rfl rfl rfl (.nil)))) ?_
        refine o_step rfl (s_idx rfl rfl hos (by omega)) ?_
        refine o_stSE k noS hS'' pkA rfl rfl (by rw [List.length_set]; omega) (by rw [Int.toNat_natCast]) fun S' hS' => ?_
        rw [List.set_set] at hS'
        refine o_nil ?_
        refine x_block ?_
        refine x_then (hK19 _ _ ?_)
        refine c_region ?_
        refine o_step rfl (s_add rfl rfl (by omega)) ?_
        refine o_step rfl (s_move rfl) ?_
        refine o_nil ?_
        exact x_then (x_inv (k + 1, _, S') ⟨by dsimp only; omega, by rw [List.length_set]; exact hll, set_fill hll hfi hsk, hS'⟩ (by first | omega | (dsimp only; omega)) sbA hzB)
       ·
        refine c_skip ?_
        refine x_then (hK18 _ _ ?_)
        refine c_seq fun _ hK23 => ?_
        refine c_block ?_
        refine c_seq fun _ hK24 => ?_
        refine c_region ?_
        refine o_step rfl (s_move rfl) ?_
        refine o_step rfl (s_idx rfl rfl hOs (by omega)) ?_
        refine o_step rfl (s_ldB rfl ((hOL.rdk hiA).lds k hsk rfl) (by rfl)) ?_
        refine o_alloc (l := Esp ⟨0, 0⟩) rfl rfl fun b11 => ?_
        refine o_step rfl (s_assign rfl) ?_
        refine o_stW rfl rfl upA lnA lnA onA ?_
        refine o_nil ?_
        refine x_then (hK24 _ _ ?_)
        refine c_seq fun _ hK25 => ?_
        refine c_region ?_
        refine o_step rfl (s_move rfl) ?_
        refine o_step rfl (s_move rfl) ?_
        refine o_step rfl (s_ldB rfl (RdPK.cels (.own meA)) lnA) ?_
        refine o_step rfl (s_idx rfl rfl hos (by omega)) ?_
        refine o_stSE k sk hO pkA rfl rfl (by omega) (by rw [Int.toNat_natCast]) fun S' hS' => ?_
        refine o_nil ?_
        refine x_then (hK25 _ _ ?_)
        refine c_seq fun _ hK26 => ?_
        refine c_region ?_
        refine o_step rfl (s_ldB rfl (RdPK.cels (.own meA)) lnA) ?_
        refine o_step rfl (s_ld rfl (.own meA rfl)) ?_
        refine o_step rfl (s_len rfl) ?_
        refine o_callP (lies_t sk w.length hok) rfl rfl rfl (fun _ _ => trivial) (fun v82 hv82 => ?_)
        subst hv82
        refine o_step rfl (s_not rfl) ?_
        refine o_nil ?_
        refine x_then (hK26 _ _ ?_)
        refine c_false rfl ?_
        refine c_skip ?_
        refine x_block ?_
        refine x_then (hK23 _ _ ?_)
        refine c_region ?_
        refine o_step rfl (s_add rfl rfl (by omega)) ?_
        refine o_step rfl (s_move rfl) ?_
        refine o_nil ?_
        exact x_then (x_inv (k + 1, _, S') ⟨by dsimp only; omega, by rw [List.length_set]; exact hll, set_fill hll hfi hsk, hS'⟩ (by first | omega | (dsimp only; omega)) sbA hzB)
      ·
       rw [fill_all hll hfi (by omega)] at hO
       refine c_exit ?_
       refine x_then_exit ?_
       refine x_then_exit ?_
       refine x_block_exit ?_
       refine x_then (hK15 _ _ ?_)
       refine c_seq fun _ hK27 => ?_
       refine c_seq fun _ hK28 => ?_
       refine c_region ?_
       refine o_step rfl (s_move rfl) ?_
       refine o_step rfl (s_move rfl) ?_
       refine o_yield (hY p L _ _ B1 hHB hpre ⟨_, _, rfl, hO⟩) rfl rfl rfl ((Pick.takeA pkA pkA)) (fun v91 S91 hv91 => ?_)
       rcases hv91 with ⟨rfl, hH3⟩ | ⟨rfl, hX3⟩
       ·
        refine o_step rfl (s_not rfl) ?_
        refine o_nil ?_
        refine x_then (hK28 _ _ ?_)
        refine c_false rfl ?_
        refine c_skip ?_
        refine x_then (hK27 _ _ ?_)
        refine c_quiet (by kernel_rfl) ?_
        refine .op rfl (s_field rfl rfl (by decide)) ?_
        refine .op rfl (s_ld rfl (.own meA rfl)) ?_
        refine .op rfl (s_field rfl rfl (by decide)) ?_
        refine .op rfl (s_ld rfl (.own meA rfl)) ?_
        refine .op rfl (s_assign rfl) ?_
        refine .op rfl (s_assign rfl) ?_
        refine .nil ?_
        refine x_block ?_
        exact x_then (x_inv (q2, (q2 : Int), s2, S1, S91, p ++ [L], r2) ⟨by rw [hxs, hr2, List.append_assoc]; rfl, hM2, hs2, hH3, by dsimp only; omega⟩ (by dsimp only; exact mt_meas hg hnl) sbA hzB)
       ·
        refine o_step rfl (s_not rfl) ?_
        refine o_nil ?_
        refine x_then (hK28 _ _ ?_)
        refine c_true rfl ?_
        refine c_ret ?_
        refine x_then_ret (x_block_ret (x_then_ret (x_block_ret (?_))))
        refine x_sub (Sub.refl _) (H' := ((bt, .cells [.slice xa w.length xc].toArray 23 (0, 0)) :: (br, .cells [vF].toArray 63 (0, 0)) :: S1) ++ S91) hzB ?_
        exact x_ret rfl (.nil) (⟨_, S91, rfl, ⟨s2, S1, rfl, hs2⟩, .inr ⟨_, hpre, hX3⟩⟩)
    ·
     have hnl : ¬ (p2 = q2 ∧ last = p2) := fun h => hpq (by omega)
     obtain ⟨_, r2, hr2, hM2⟩ := hcase.resolve_left (fun h => hnl ⟨h.1, h.2.1⟩)
     have hpre : p ++ [L] <+: xs := ⟨r2, by rw [hxs, hr2, List.append_assoc]; rfl⟩
     refine o_step rfl (step_cast (v' := .bool false) (s_eql rfl rfl) (by rw [decide_eq_false hpq])) ?_
     refine o_step rfl (s_move rfl) ?_
     refine o_no rfl rfl rfl rfl ?_
     refine o_no rfl rfl rfl rfl ?_
     refine o_no rfl rfl rfl rfl ?_
     refine o_no rfl rfl rfl rfl ?_
     refine o_step rfl (s_pick_f rfl rfl) ?_
     refine o_nil ?_
     refine x_then (hK12 _ _ ?_)
     refine c_false rfl ?_
     refine c_skip ?_
     refine x_then (hK11 _ _ ?_)
     refine c_seq fun _ hK29 => ?_
     refine c_region ?_
     refine o_step rfl (s_move rfl) ?_
     refine o_step rfl (s_len rfl) ?_
     refine o_make (E := Esp) (zx := ⟨0, 0⟩) (n := L.length) rfl rfl rfl (by omega) (by omega) rfl fun b67 S67 hS67 => ?_
     refine o_step rfl (s_assign rfl) ?_
     refine o_nil ?_
     refine x_then (hK29 _ _ ?_)
     refine c_seq fun _ hK30 => ?_
     refine c_seq fun _ hK31 => ?_
     refine c_region ?_
     refine o_step rfl (s_move rfl) ?_
     refine o_step rfl (s_len rfl) ?_
     refine o_step rfl (s_move rfl) ?_
     refine o_nil ?_
     refine x_then (hK31 _ _ ?_)
     refine c_block ?_
     refine c_loop3 (fun (k : Nat) (ll : List Sp) (Sl : Hp) => k ≤ L.length ∧ ll.length = L.length ∧ (∀ i, i < k → ll[i]? = L[i]?) ∧ OwnS Esp 2 51 (.slice (some ⟨b67, 0, none⟩) L.length L.length) ll Sl) (fun (k : Nat) (ll : List Sp) (Sl : Hp) => [(70, .int .i64 k)]) [(0, _), (1, _), (2, _), (4, _), (5, _), (6, _), (7, _), (8, _), (9, _), (12, _), (13, _), (14, _), (15, _), (16, _), (17, _), (18, _), (19, _), (20, _), (21, _), (22, _), (23, _), (24, _), (25, _), (26, _), (27, _), (28, _), (29, _), (30, _), (31, _), (32, _), (33, _), (34, _), (35, _), (36, _), (37, _), (38, _), (39, _), (40, _), (41, _), (42, _), (43, _), (44, _), (45, _), (46, _), (47, _), (48, _), (49, _), (50, _), (51, _), (52, _), (53, _), (54, _), (55, _), (56, _), (57, _), (58, _), (59, _), (60, _), (61, _), (62, _), (65, _), (66, _), (67, _), (68, _), (69, _)] (fun (k : Nat) (ll : List Sp) (Sl : Hp) => (b8, .cells (Esp ⟨p2, q2⟩).toArray 51 (0, 0)) :: (bt, .cells [.slice xa w.length xc].toArray 23 (0, 0)) :: (br, .cells [vF].toArray 63 (0, 0)) :: (S1 ++ (SL ++ (Sl ++ B1)))) (fun (k : Nat) (ll : List Sp) (Sl : Hp) => L.length - k) 0 _ S67 ⟨Nat.zero_le _, List.length_replicate, fun i hi => by omega, hS67⟩ sbA sbA hzB ?_
     rintro k ll Sl ⟨hk, hll, hfi, hO⟩
     have hos := hO.sl
     rw [hll] at hos
     refine c_seq fun _ hK32 => ?_
     refine c_region ?_
     refine o_step rfl (s_lss rfl rfl) ?_
     refine o_nil ?_
     refine x_then (hK32 _ _ ?_)
     refine c_seq fun _ hK33 => ?_
     refine c_if rfl (fun hkl => ?_) (fun hkl => ?_)
     ·
      obtain ⟨sk, hsk⟩ : ∃ s, L[k]? = some s := ⟨_, List.getElem?_eq_getElem (by omega)⟩
      have hskm := List.mem_of_getElem? hsk
      rcases hg.all sk hskm with hno | hok
      ·
       subst hno
       refine c_skip ?_
       refine x_then (hK33 _ _ ?_)
       refine c_seq fun _ hK34 => ?_
       refine c_block ?_
       refine c_seq fun _ hK35 => ?_
       refine c_region ?_
       refine o_step rfl (s_move rfl) ?_
       refine o_step rfl (s_idx rfl rfl hOs (by omega)) ?_
       refine o_step rfl (s_ldB rfl ((hOL.rdk hiA).lds k hsk rfl) (by rfl)) ?_
       refine o_alloc (l := Esp ⟨0, 0⟩) rfl rfl fun b11 => ?_
       refine o_step rfl (s_assign rfl) ?_
       refine o_stW rfl rfl upA lnA lnA onA ?_
       refine o_nil ?_
       refine x_then (hK35 _ _ ?_)
       refine c_seq fun _ hK36 => ?_
       refine c_region ?_
       refine o_step rfl (s_move rfl) ?_
       refine o_step rfl (s_move rfl) ?_
       refine o_step rfl (s_ldB rfl (RdPK.cels (.own meA)) lnA) ?_
       refine o_step rfl (s_idx rfl rfl hos (by omega)) ?_
       refine o_stSE k noS hO pkA rfl rfl (by omega) (by rw [Int.toNat_natCast]) fun S'' hS'' => ?_
       refine o_nil ?_
       refine x_then (hK36 _ _ ?_)
       refine c_seq fun _ hK37 => ?_
       refine c_region ?_
       refine o_step rfl (s_ldB rfl (RdPK.cels (.own meA)) lnA) ?_
       refine o_step rfl (s_ld rfl (.own meA rfl)) ?_
       refine o_step rfl (s_len rfl) ?_
       refine o_callP (lies_f noS w.length (fun h => absurd h.1 (by decide))) rfl rfl rfl (fun _ _ => trivial) (fun v82 hv82 => ?_)
       subst hv82
       refine o_step rfl (s_not rfl) ?_
       refine o_nil ?_
       refine x_then (hK37 _ _ ?_)
       refine c_true rfl ?_
       refine c_region ?_
       refine o_step rfl (s_move rfl) ?_
       refine o_step rfl (s_move rfl) ?_
       refine o_step rfl (s_build (cs := [_, _]) (vs := [_, _]) rfl rfl (.cons rfl rfl rfl rfl rfl (.cons rfl rfl rfl rfl rfl (.nil)))) ?_
       refine o_step rfl (s_idx rfl rfl hos (by omega)) ?_
       refine o_stSE k noS hS'' pkA rfl rfl (by rw [List.length_set]; omega) (by rw [Int.toNat_natCast]) fun S' hS' => ?_
       rw [List.set_set] at hS'
       refine o_nil ?_
       refine x_block ?_
       refine x_then (hK34 _ _ ?_)
       refine c_region ?_
       refine o_step rfl (s_add rfl rfl (by omega)) ?_
       refine o_step rfl (s_move rfl) ?_
       refine o_nil ?_
       exact x_then (x_inv (k + 1, _, S') ⟨by dsimp only; omega, by rw [List.length_set]; exact hll, set_fill hll hfi hsk, hS'⟩ (by first | omega | (dsimp only; omega)) sbA hzB)
      ·
       refine c_skip ?_
       refine x_then (hK33 _ _ ?_)
       refine c_seq fun _ hK38 => ?_
       refine c_block ?_
       refine c_seq fun _ hK39 => ?_
       refine c_region ?_
       refine o_step rfl (s_move rfl) ?_
       refine o_step rfl (s_idx rfl rfl hOs (by omega)) ?_
       refine o_step rfl (s_ldB rfl ((hOL.rdk hiA).lds k hsk rfl) (by rfl)) ?_
       refine o_alloc (l := Esp ⟨0, 0⟩) rfl rfl fun b11 => ?_
       refine o_step rfl (s_assign rfl) ?_
       refine o_stW rfl rfl upA lnA lnA onA ?_
       refine o_nil ?_
       refine x_then (hK39 _ _ ?_)
       refine c_seq fun _ hK40 => ?_
       refine c_region ?_
       refine o_step rfl (s_move rfl) ?_
       refine o_step rfl (s_move rfl) ?_
       refine o_step rfl (s_ldB rfl (RdPK.cels (.own meA)) lnA) ?_
       refine o_step rfl (s_idx rfl rfl hos (by omega)) ?_
       refine o_stSE k sk hO pkA rfl rfl (by omega) (by rw [Int.toNat_natCast]) fun S' hS' => ?_
       refine o_nil ?_
       refine x_then (hK40 _ _ ?_)
       refine c_seq fun _ hK41 => ?_
       refine c_region ?_
       refine o_step rfl (s_ldB rfl (RdPK.cels (.own meA)) lnA) ?_
       refine o_step rfl (s_ld rfl (.own meA rfl)) ?_
       refine o_step rfl (s_len rfl) ?_
       refine o_callP (lies_t sk w.length hok) rfl rfl rfl (fun _ _ => trivial) (fun v82 hv82 => ?_)
       subst hv82
       refine o_step rfl (s_not rfl) ?_
       refine o_nil ?_
       refine x_then (hK41 _ _ ?_)
       refine c_false rfl ?_
       refine c_skip ?_
       refine x_block ?_
       refine x_then (hK38 _ _ ?_)
       refine c_region ?_
       refine o_step rfl (s_add rfl rfl (by omega)) ?_
       refine o_step rfl (s_move rfl) ?_
       refine o_nil ?_
       exact x_then (x_inv (k + 1, _, S') ⟨by dsimp only; omega, by rw [List.length_set]; exact hll, set_fill hll hfi hsk, hS'⟩ (by first | omega | (dsimp only; omega)) sbA hzB)
     ·
      rw [fill_all hll hfi (by omega)] at hO
      refine c_exit ?_
      refine x_then_exit ?_
      refine x_then_exit ?_
      refine x_block_exit ?_
      refine x_then (hK30 _ _ ?_)
      refine c_seq fun _ hK42 => ?_
      refine c_seq fun _ hK43 => ?_
      refine c_region ?_
      refine o_step rfl (s_move rfl) ?_
      refine o_step rfl (s_move rfl) ?_
      refine o_yield (hY p L _ _ B1 hHB hpre ⟨_, _, rfl, hO⟩) rfl rfl rfl ((Pick.takeA pkA pkA)) (fun v91 S91 hv91 => ?_)
      rcases hv91 with ⟨rfl, hH3⟩ | ⟨rfl, hX3⟩
      ·
       refine o_step rfl (s_not rfl) ?_
       refine o_nil ?_
       refine x_then (hK43 _ _ ?_)
       refine c_false rfl ?_
       refine c_skip ?_
       refine x_then (hK42 _ _ ?_)
       refine c_quiet (by kernel_rfl) ?_
       refine .op rfl (s_field rfl rfl (by decide)) ?_
       refine .op rfl (s_ld rfl (.own meA rfl)) ?_
       refine .op rfl (s_field rfl rfl (by decide)) ?_
       refine .op rfl (s_ld rfl (.own meA rfl)) ?_
       refine .op rfl (s_assign rfl) ?_
       refine .op rfl (s_assign rfl) ?_
       refine .nil ?_
       refine x_block ?_
       exact x_then (x_inv (q2, (q2 : Int), s2, S1, S91, p ++ [L], r2) ⟨by rw [hxs, hr2, List.append_assoc]; rfl, hM2, hs2, hH3, by dsimp only; omega⟩ (by dsimp only; exact mt_meas hg hnl) sbA hzB)
      ·
       refine o_step rfl (s_not rfl) ?_
       refine o_nil ?_
       refine x_then (hK43 _ _ ?_)
       refine c_true rfl ?_
       refine c_ret ?_
       refine x_then_ret (x_block_ret (x_then_ret (x_block_ret (?_))))
       refine x_sub (Sub.refl _) (H' := ((bt, .cells [.slice xa w.length xc].toArray 23 (0, 0)) :: (br, .cells [vF].toArray 63 (0, 0)) :: S1) ++ S91) hzB ?_
       exact x_ret rfl (.nil) (⟨_, S91, rfl, ⟨s2, S1, rfl, hs2⟩, .inr ⟨_, hpre, hX3⟩⟩)
  ·
   obtain rfl := hM.out_nil (by omega)
   rw [List.append_nil] at hxs
   subst hxs
   refine c_exit ?_
   refine x_then_exit ?_
   refine x_then_exit ?_
   refine x_block_exit ?_
   refine x_sub (Sub.refl _) (H' := ((bt, .cells [.slice xa w.length xc].toArray 23 (0, 0)) :: (br, .cells [vF].toArray 63 (0, 0)) :: Sf) ++ B1) hzB ?_
   exact x_end rfl (.nil) (⟨_, B1, rfl, ⟨s, Sf, rfl, hs⟩, .inl hHB⟩)
end Go.Proofs.Ytmpeokbongnniaa
