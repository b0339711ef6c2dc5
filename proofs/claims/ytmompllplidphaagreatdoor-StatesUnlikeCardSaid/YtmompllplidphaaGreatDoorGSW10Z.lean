/- Part of the proofs over this seat: see the text that holds the theorem. Conditions: each theorem bears its own. -/
import Derived.Test.YtmompllplidphaaGreatDoorHTZ
import Derived.Test.YtmompllplidphaaGreatDoorGSW9Z
import Derived.Test.YtmompllplidphaaGreatDoorHlB
namespace Go.Proofs.YtmompllplidphaaGreatDoor
open Go Go.HL Go.Proofs Go.HL.Kl Go.HL.Kl.Mc Go.HL.Sts
structure RdD (d : Df) (aa : Option Addr) (ac : Nat) (na : Option Addr) (nc : Nat) (rows : List (Sl Int)) (ea : Option Addr) (ec : Nat) (w : World) : Prop where
  at_ : Rd Ec w (.slice aa d.atoms.length ac) d.atoms
  nx : Rd Esl w (.slice na rows.length nc) rows
  rw_ : ∀ s ∈ rows, Rd Ei w s.v s.xs
  en : Rd Ebo w (.slice ea d.ends.length ec) d.ends
theorem RdD.old {d : Df} {aa : Option Addr} {ac : Nat} {na : Option Addr} {nc : Nat} {rows : List (Sl Int)} {ea : Option Addr} {ec : Nat} {w0 w : World} {H : Hp} (h : RdD d aa ac na nc rows ea ec w0) (st : St w0 w [] H) : RdD d aa ac na nc rows ea ec w :=
  ⟨(RdK.old0 (n := 0) (ds := []) h.at_).out w st, (RdK.old0 (n := 0) (ds := []) h.nx).out w st, fun s hs => (RdK.old0 (n := 0) (ds := []) (h.rw_ s hs)).out w st, (RdK.old0 (n := 0) (ds := []) h.en).out w st⟩
theorem min_fn (a : Option Addr) (c : Nat) (xs : List Int) (h0 : 0 < xs.length) : HL.Fn Tryz.prog 123 [.slice a xs.length c] (fun w => Rd Ei w (.slice a xs.length c) xs) [] (fun v _ => ∃ m : Int, v = .int .i64 m ∧ m ∈ xs ∧ ∀ x ∈ xs, m ≤ x) := by
  refine fn_of Tryz.func123 rfl rfl rfl fun w0 hw => ?_
  have hsx := hw.sl
  have hbx := hsx.le
  obtain ⟨x0, hx0⟩ : ∃ x, xs[0]? = some x := ⟨_, List.getElem?_eq_getElem h0⟩
  refine cR fun _ hK1 => ?_; refine oA (oZ hK1 (c_seq fun _ hK2 => ?_)); refine cR fun _ hK3 => ?_; refine oM ?_; refine oS sC ?_; refine oS (s_lss_f rfl rfl (by omega)) ?_; refine oZ hK3 ?_; refine cFZ hK2 (cR fun _ hK4 => ?_); refine oM ?_; refine oS (s_idx rfl rfl hsx (by omega)) ?_; refine oS (s_ld rfl ((RdK.old0 hw).ld 0 0 hx0 rfl (by decide) (by omega))) ?_; refine oA (oZ hK4 (c_seq fun _ hK5 => ?_)); refine cR fun _ hK6 => ?_; refine oA (oZ hK6 ?_)
  refine c_block ?_; refine c_loop2 (fun (k : Nat) (m : Int) => 1 ≤ k ∧ k ≤ xs.length ∧ m ∈ xs ∧ ∀ x ∈ xs.take k, m ≤ x) (fun (k : Nat) (m : Int) => [(3, .int .i64 m), (4, .int .i64 k)]) [(0, _), (2, _)] (fun (k : Nat) (m : Int) => []) (fun (k : Nat) (m : Int) => xs.length - k) 1 x0 ⟨Nat.le_refl _, h0, List.mem_of_getElem? hx0, fun x hx => by rw [take_succ_get (k := 0) hx0] at hx; simp at hx; omega⟩ sbA sbA hzB ?_
  rintro k m ⟨h1, hk, hm, hr⟩
  refine c_seq fun _ hK7 => ?_; refine cR fun _ hK8 => ?_; refine oM (oM ?_); refine oS sC ?_
  by_cases hlt : k < xs.length
  ·obtain ⟨y, hy⟩ : ∃ y, xs[k]? = some y := gE
   refine oS (step_cast (v' := .bool true) (s_lss rfl rfl) (congrArg Value.bool (decide_eq_true (by omega)))) ?_; refine oZ hK8 ?_; refine cTZ hK7 (c_seq fun _ hK9 => ?_); refine c_block (c_region (oM (oM (oM ?_)))); refine oS (s_idx rfl rfl hsx (by omega)) ?_; refine oS (s_ld rfl ((RdK.old0 hw).ld k 0 hy rfl (by decide) (by omega))) ?_; refine oS (s_min rfl rfl) ?_; refine oA (o_nil (x_block (xZ hK9 (c_region (oM ?_))))); refine oS sD (oA (o_nil ?_)); exact xI (k + 1, min m y) ⟨by omega, by omega, by show min m y ∈ xs; rcases (show min m y = m ∨ min m y = y by omega) with h | h; (· rw [h]; exact hm); (· rw [h]; exact List.mem_of_getElem? hy), fun x hx => by rw [take_succ_get hy] at hx; rcases List.mem_append.1 hx with h | h; (· have := hr x h; dsimp only; omega); (· rw [List.mem_singleton.1 h]; dsimp only; omega)⟩
  ·obtain rfl : k = xs.length := by omega
   refine oS (step_cast (v' := .bool false) (s_lss rfl rfl) (congrArg Value.bool (decide_eq_false (by omega)))) ?_; refine oZ hK8 ?_; refine cF ?_; refine c_exit ?_; refine x_then_exit (x_then_exit (x_block_exit (xZ hK5 (cR fun _ hK10 => ?_)))); refine oM (oA (oZ hK10 (c_ret ?_))); refine ?_; exact xR rfl rfl (⟨m, rfl, hm, fun x hx => hr x (by rw [List.take_length]; exact hx)⟩)
theorem max_fn (a : Option Addr) (c : Nat) (xs : List Int) (h0 : 0 < xs.length) : HL.Fn Tryz.prog 124 [.slice a xs.length c] (fun w => Rd Ei w (.slice a xs.length c) xs) [] (fun v _ => ∃ m : Int, v = .int .i64 m ∧ m ∈ xs ∧ ∀ x ∈ xs, x ≤ m) := by
  refine fn_of Tryz.func124 rfl rfl rfl fun w0 hw => ?_
  have hsx := hw.sl
  have hbx := hsx.le
  obtain ⟨x0, hx0⟩ : ∃ x, xs[0]? = some x := ⟨_, List.getElem?_eq_getElem h0⟩
  refine cR fun _ hK1 => ?_; refine oA (oZ hK1 (c_seq fun _ hK2 => ?_)); refine cR fun _ hK3 => ?_; refine oM ?_; refine oS sC ?_; refine oS (s_lss_f rfl rfl (by omega)) ?_; refine oZ hK3 ?_; refine cFZ hK2 (cR fun _ hK4 => ?_); refine oM ?_; refine oS (s_idx rfl rfl hsx (by omega)) ?_; refine oS (s_ld rfl ((RdK.old0 hw).ld 0 0 hx0 rfl (by decide) (by omega))) ?_; refine oA (oZ hK4 (c_seq fun _ hK5 => ?_)); refine cR fun _ hK6 => ?_; refine oA (oZ hK6 ?_)
  refine c_block ?_; refine c_loop2 (fun (k : Nat) (m : Int) => 1 ≤ k ∧ k ≤ xs.length ∧ m ∈ xs ∧ ∀ x ∈ xs.take k, x ≤ m) (fun (k : Nat) (m : Int) => [(3, .int .i64 m), (4, .int .i64 k)]) [(0, _), (2, _)] (fun (k : Nat) (m : Int) => []) (fun (k : Nat) (m : Int) => xs.length - k) 1 x0 ⟨Nat.le_refl _, h0, List.mem_of_getElem? hx0, fun x hx => by rw [take_succ_get (k := 0) hx0] at hx; simp at hx; omega⟩ sbA sbA hzB ?_
  rintro k m ⟨h1, hk, hm, hr⟩
  refine c_seq fun _ hK7 => ?_; refine cR fun _ hK8 => ?_; refine oM (oM ?_); refine oS sC ?_
  by_cases hlt : k < xs.length
  ·obtain ⟨y, hy⟩ : ∃ y, xs[k]? = some y := gE
   refine oS (step_cast (v' := .bool true) (s_lss rfl rfl) (congrArg Value.bool (decide_eq_true (by omega)))) ?_; refine oZ hK8 ?_; refine cTZ hK7 (c_seq fun _ hK9 => ?_); refine c_block (c_region (oM (oM (oM ?_)))); refine oS (s_idx rfl rfl hsx (by omega)) ?_; refine oS (s_ld rfl ((RdK.old0 hw).ld k 0 hy rfl (by decide) (by omega))) ?_; refine oS (s_max rfl rfl) ?_; refine oA (o_nil (x_block (xZ hK9 (c_region (oM ?_))))); refine oS sD (oA (o_nil ?_)); exact xI (k + 1, max m y) ⟨by omega, by omega, by show max m y ∈ xs; rcases (show max m y = m ∨ max m y = y by omega) with h | h; (· rw [h]; exact hm); (· rw [h]; exact List.mem_of_getElem? hy), fun x hx => by rw [take_succ_get hy] at hx; rcases List.mem_append.1 hx with h | h; (· have := hr x h; dsimp only; omega); (· rw [List.mem_singleton.1 h]; dsimp only; omega)⟩
  ·obtain rfl : k = xs.length := by omega
   refine oS (step_cast (v' := .bool false) (s_lss rfl rfl) (congrArg Value.bool (decide_eq_false (by omega)))) ?_; refine oZ hK8 ?_; refine cF ?_; refine c_exit ?_; refine x_then_exit (x_then_exit (x_block_exit (xZ hK5 (cR fun _ hK10 => ?_)))); refine oM (oA (oZ hK10 (c_ret ?_))); refine ?_; exact xR rfl rfl (⟨m, rfl, hm, fun x hx => hr x (by rw [List.take_length]; exact hx)⟩)
set_option maxHeartbeats 2000000 in
theorem shaped2_fn (d : Df) (aa : Option Addr) (ac : Nat) (na : Option Addr) (nc : Nat) (rows : List (Sl Int)) (ea : Option Addr) (ec : Nat) (hx : d.next = rows.map Sl.xs) : HL.Fn Tryz.prog 75 [.agg [.slice aa d.atoms.length ac, .slice na rows.length nc, .slice ea d.ends.length ec].toArray] (fun w => RdD d aa ac na nc rows ea ec w ∧ Tb [] w) [] (fun v _ => v = .bool (shP d)) := by
  refine fn_ofM Tryz.func75 rfl rfl rfl fun w0 hw => ?_
  have hsa := hw.1.at_.sl
  have hsn := hw.1.nx.sl
  have hse := hw.1.en.sl
  have hba := hsa.le
  have hbn := hsn.le
  have hnl : d.next.length = rows.length := by rw [hx, List.length_map]
  refine c_seqD fun _ hK1 => ?_; refine c_region ?_; refine o_box rfl rfl rfl fun b1 => ?_; refine oA (o_nil ?_); refine x_then (hK1 _ _ _ ?_); refine c_seqD fun _ hK2 => ?_; refine c_region ?_; refine oS sF ?_; refine oS sL ?_; refine oS sC (oA (o_nil ?_)); refine x_then (hK2 _ _ _ ?_); refine c_seqD fun _ hK3 => ?_; refine c_seqD fun _ hK4 => ?_; refine c_region (oM ?_)
  by_cases g1 : d.ends.length < 1
  ·refine oS (step_cast (v' := .bool true) (s_lss rfl rfl) (congrArg Value.bool (decide_eq_true (by omega)))) ?_; refine oM ?_; refine oN ?_; refine oN ?_; refine oS sT (oM ?_); refine oN ?_; refine oN ?_; refine oN ?_; refine oN ?_; refine oN ?_; refine oS sT (oM ?_); refine oN ?_; refine oN ?_; refine oN ?_; refine oN ?_; refine oS sT (oM ?_); refine oN ?_; refine oN ?_; refine oN ?_; refine oN ?_; refine oS sT (o_nil ?_); refine x_then (hK4 _ _ _ ?_); refine cT ?_; refine c_seqD fun _ hK5 => ?_; refine c_region (oA (o_nil ?_)); refine x_then (hK5 _ _ _ ?_); refine c_ret ?_; refine x_then_ret (?_); exact x_retM (.nil) .nil rfl (.tmp rfl (.nil)) ((congrArg Value.bool (shP_size (fun h => by obtain ⟨q1, q2, q3, q4, q5⟩ := h; omega)).symm))
  ·refine oS (step_cast (v' := .bool false) (s_lss rfl rfl) (congrArg Value.bool (decide_eq_false (by omega)))) ?_; refine oM ?_; refine oY (oM ?_); refine oY ?_
   by_cases g2 : 256 < d.ends.length
   ·refine oS (step_cast (v' := .bool true) (s_gtr rfl rfl) (congrArg Value.bool (decide_eq_true (by omega)))) ?_; refine oS sP (oM ?_); refine oN ?_; refine oN ?_; refine oN ?_; refine oN ?_; refine oN ?_; refine oS sT (oM ?_); refine oN ?_; refine oN ?_; refine oN ?_; refine oN ?_; refine oS sT (oM ?_); refine oN ?_; refine oN ?_; refine oN ?_; refine oN ?_; refine oS sT (o_nil ?_); refine x_then (hK4 _ _ _ ?_); refine cT ?_; refine c_seqD fun _ hK6 => ?_; refine c_region (oA (o_nil ?_)); refine x_then (hK6 _ _ _ ?_); refine c_ret ?_; refine x_then_ret (?_); exact x_retM (.nil) .nil rfl (.tmp rfl (.nil)) ((congrArg Value.bool (shP_size (fun h => by obtain ⟨q1, q2, q3, q4, q5⟩ := h; omega)).symm))
   ·refine oS (step_cast (v' := .bool false) (s_gtr rfl rfl) (congrArg Value.bool (decide_eq_false (by omega)))) ?_; refine oS sP (oM ?_); refine oY ?_; refine oS sF ?_; refine oY ?_; refine oS sL ?_; refine oY ?_; refine oS sC ?_; refine oY (oM ?_); refine oY ?_
    by_cases g3 : rows.length ≠ d.ends.length
    ·refine oS (step_cast (v' := .bool true) (s_neq rfl rfl) (congrArg Value.bool (decide_eq_true (by omega)))) ?_; refine oS sP (oM ?_); refine oN ?_; refine oN ?_; refine oN ?_; refine oN ?_; refine oS sT (oM ?_); refine oN ?_; refine oN ?_; refine oN ?_; refine oN ?_; refine oS sT (o_nil ?_); refine x_then (hK4 _ _ _ ?_); refine cT ?_; refine c_seqD fun _ hK7 => ?_; refine c_region (oA (o_nil ?_)); refine x_then (hK7 _ _ _ ?_); refine c_ret ?_; refine x_then_ret (?_); exact x_retM (.nil) .nil rfl (.tmp rfl (.nil)) ((congrArg Value.bool (shP_size (fun h => by obtain ⟨q1, q2, q3, q4, q5⟩ := h; omega)).symm))
    ·refine oS (step_cast (v' := .bool false) (s_neq rfl rfl) (congrArg Value.bool (decide_eq_false (by omega)))) ?_; refine oS sP (oM ?_); refine oY ?_; refine oS sF ?_; refine oY ?_; refine oS sL ?_; refine oY ?_; refine oS sC ?_; refine oY ?_
     by_cases g4 : d.atoms.length < 1
     ·refine oS (step_cast (v' := .bool true) (s_lss rfl rfl) (congrArg Value.bool (decide_eq_true (by omega)))) ?_; refine oS sP (oM ?_); refine oN ?_; refine oN ?_; refine oN ?_; refine oN ?_; refine oS sT (o_nil ?_); refine x_then (hK4 _ _ _ ?_); refine cT ?_; refine c_seqD fun _ hK8 => ?_; refine c_region (oA (o_nil ?_)); refine x_then (hK8 _ _ _ ?_); refine c_ret ?_; refine x_then_ret (?_); exact x_retM (.nil) .nil rfl (.tmp rfl (.nil)) ((congrArg Value.bool (shP_size (fun h => by obtain ⟨q1, q2, q3, q4, q5⟩ := h; omega)).symm))
     ·refine oS (step_cast (v' := .bool false) (s_lss rfl rfl) (congrArg Value.bool (decide_eq_false (by omega)))) ?_; refine oS sP (oM ?_); refine oY ?_; refine oS sF ?_; refine oY ?_; refine oS sL ?_; refine oY ?_; refine oS sC ?_; refine oY ?_
      by_cases g5 : 256 < d.atoms.length
      ·refine oS (step_cast (v' := .bool true) (s_gtr rfl rfl) (congrArg Value.bool (decide_eq_true (by omega)))) ?_; refine oS sP (o_nil ?_); refine x_then (hK4 _ _ _ ?_); refine cT ?_; refine c_seqD fun _ hK9 => ?_; refine c_region (oA (o_nil ?_)); refine x_then (hK9 _ _ _ ?_); refine c_ret ?_; refine x_then_ret (?_); exact x_retM (.nil) .nil rfl (.tmp rfl (.nil)) ((congrArg Value.bool (shP_size (fun h => by obtain ⟨q1, q2, q3, q4, q5⟩ := h; omega)).symm))
      ·have hsz : sizeOk d := ⟨by omega, by omega, by omega, by omega, by omega⟩
       refine oS (step_cast (v' := .bool false) (s_gtr rfl rfl) (congrArg Value.bool (decide_eq_false (by omega)))) ?_; refine oS sP (o_nil ?_); refine x_then (hK4 _ _ _ ?_); refine cF (c_skip ?_); refine x_then (hK3 _ _ _ ?_); refine c_seqD fun _ hK10 => ?_; refine c_region ?_; refine o_alloc (l := Ec 0#256) (by rw [Ec_zero]; rfl) rfl fun b4 => ?_; refine o_nil ?_; refine x_then (hK10 _ _ _ ?_); refine c_seqD fun _ hK11 => ?_; refine c_region (oA (o_nil ?_)); refine x_then (hK11 _ _ _ ?_); refine c_seqD fun _ hK12 => ?_; refine c_seqD fun _ hK13 => ?_; refine c_region ?_; refine oS sF ?_; refine oS sL ?_; refine oS sC (oM (o_nil ?_)); refine x_then (hK13 _ _ _ ?_); refine c_block ?_
       -- not carried: 2
       refine c_loopM (fun (k : Nat) => k ≤ d.atoms.length ∧ shA d.atoms 0 (-1) = shA (d.atoms.drop k) (allT d.atoms k) (lastT d.atoms k)) (fun (k : Nat) => [(43, .int .i64 k), (5, .int .i64 (lastT d.atoms k))]) [(1, _), (3, _), (4, _), (41, _), (42, _)] (fun (k : Nat) => [(b1, .cells [.slice aa d.atoms.length ac, .slice na rows.length nc, .slice ea d.ends.length ec].toArray 30 (0, 0)), (b4, .cells (Ec (allT d.atoms k)).toArray 39 (0, 0))]) (fun (k : Nat) => d.atoms.length - k) 0 ⟨Nat.zero_le _, by rw [List.drop_zero]; rfl⟩ sbA sbA rfl hzB ?_
       intro k ds0 Ms0 hI0 hM0
       obtain ⟨hk, hsh⟩ := hI0
       have hlg := lastT_ge d.atoms k
       refine c_seqD fun _ hK14 => ?_; refine c_region ?_; refine oS (s_lss rfl rfl) ?_; refine o_nil ?_; refine x_then (hK14 _ _ _ ?_); refine c_seqD fun _ hK15 => ?_; refine c_if rfl (fun hlk => ?_) (fun hlk => ?_)
       ·obtain ⟨a, hak⟩ : ∃ a, d.atoms[k]? = some a := gE
        refine c_skip ?_; refine x_then (hK15 _ _ _ ?_); refine c_seqD fun _ hK16 => ?_; refine c_block ?_; refine c_seqD fun _ hK17 => ?_; refine c_region ?_; refine oS (s_idx rfl rfl hsa (by omega)) ?_; refine oS (s_ldB rfl ((RdK.old0 hw.1.at_).lds k hak (by simp only [Int.toNat_natCast])) lnA) ?_; refine o_alloc (l := Ec 0#256) (by rw [Ec_zero]; rfl) rfl fun b7 => ?_; refine o_stW rfl rfl upA lnA lnA onA ?_; refine o_nil ?_; refine x_then (hK17 _ _ _ ?_); refine c_seqD fun _ hK18 => ?_; refine c_region ?_; refine o_alloc rfl rfl fun b8 => ?_; refine o_store rfl rfl rfl upA ltA rfl ?_; refine o_nil ?_; refine x_then (hK18 _ _ _ ?_); refine c_seqD fun _ hK19 => ?_; refine c_seqD fun _ hK20 => ?_; refine c_region ?_; refine oS (s_ldB rfl (RdPK.cels (.own meA)) lnA) ?_; refine o_call (all_fn a) rfl rfl rfl (by exact .nil) (fun _ _ => trivial) (fun v48 S48 ⟨b48, hv48, hS48⟩ => ?_)
        subst hv48; subst hS48
        refine o_nil ?_; refine x_then (hK20 _ _ _ ?_); refine c_block ?_; refine c_range (α := Nat) (B0 := [(b8, .cells [.int .i64 (-1)].toArray 3 (0, 0))]) (fun p B => p = [] ∧ B = [(b8, .cells [.int .i64 (-1)].toArray 3 (0, 0))]) (fun c p B => c = .exit 2 ∧ ∃ x : Nat, p = [x] ∧ B = [(b8, .cells [.int .i64 x].toArray 3 (0, 0))]) rfl (all_it b48 a) ((Pick.takeC pkA pkA)) ((fun w H1 S1 st hs => tb_of hw.2 st hs)) ⟨rfl, rfl⟩ (by kernel_rfl) (fun _ => rfl) (by kernel_rfl) ?_ ?_ ?_
        ·rintro l r p x B W er1 er2 ⟨rfl, rfl⟩ hx post hy hn
         have hxl : x < 256 := mems_lt hx
         refine c_region (oA (o_nil ?_)); refine x_then (x_begin upA (by kernel_rfl) ?_); refine c_block ?_; refine c_seqD fun _ hK21 => ?_; refine c_region (oM ?_); refine oS (step_cast (v' := .int .i64 ((x : Nat) : Int)) (s_conv rfl) (congrArg _ (conv64 (by omega)))) ?_; refine o_store rfl rfl rfl upA ltA rfl ?_; refine o_nil ?_; refine x_then (hK21 _ _ _ ?_); refine c_exit ?_; refine x_block_pass rfl ?_; exact x_rexit upA (hn _ _ ⟨rfl, x, rfl, rfl⟩)
        ·rintro D0 S0r B0 rfl ⟨hmm, rfl⟩
         have hfi := firstI_nil hmm
         refine x_block ?_; refine x_then (hK19 _ _ _ ?_); refine c_seqD fun _ hK22 => ?_; refine c_seqD fun _ hK23 => ?_; refine c_region ?_; refine oS sL (oM ?_)
         by_cases hle : (-1 : Int) ≤ lastT d.atoms k
         ·refine oS (step_cast (v' := .bool true) (s_leq rfl rfl) (congrArg Value.bool (decide_eq_true hle))) ?_; refine oM ?_; refine oN ?_; refine oN ?_; refine oN ?_; refine oN ?_; refine oN ?_; refine oS sT (o_nil ?_); refine x_then (hK23 _ _ _ ?_); refine cT ?_; refine c_seqD fun _ hK24 => ?_; refine c_region (oA (o_nil ?_)); refine x_then (hK24 _ _ _ ?_); refine c_ret ?_; refine x_then_ret (x_block_ret (x_then_ret (x_then_ret (x_block_ret (x_then_ret (?_))))))
          exact x_retM (.cons (hM0)) (Pick.takeC pkA pkA) rfl (.tmp rfl (.nil)) ((congrArg Value.bool (shP_atoms (by rw [hsh, sh_bad hak (.inl (by rw [hfi]; exact hle))])).symm))
         ·omega
        ·rintro D0 S0r c p B0 rfl hpx ⟨rfl, x, rfl, rfl⟩
         have hfi := firstI_head hpx
         refine c_exit ?_; refine x_block_exit ?_; refine x_then (hK19 _ _ _ ?_); refine c_seqD fun _ hK25 => ?_; refine c_seqD fun _ hK26 => ?_; refine c_region ?_; refine oS sL (oM ?_)
         by_cases hle : (x : Int) ≤ lastT d.atoms k
         ·refine oS (step_cast (v' := .bool true) (s_leq rfl rfl) (congrArg Value.bool (decide_eq_true hle))) ?_; refine oM ?_; refine oN ?_; refine oN ?_; refine oN ?_; refine oN ?_; refine oN ?_; refine oS sT (o_nil ?_); refine x_then (hK26 _ _ _ ?_); refine cT ?_; refine c_seqD fun _ hK27 => ?_; refine c_region (oA (o_nil ?_)); refine x_then (hK27 _ _ _ ?_); refine c_ret ?_; refine x_then_ret (x_block_ret (x_then_ret (x_then_ret (x_block_ret (x_then_ret (?_))))))
          exact x_retM (.cons (hM0)) (Pick.takeC pkA pkA) rfl (.tmp rfl (.nil)) ((congrArg Value.bool (shP_atoms (by rw [hsh, sh_bad hak (.inl (by rw [hfi]; exact hle))])).symm))
         ·refine oS (step_cast (v' := .bool false) (s_leq rfl rfl) (congrArg Value.bool (decide_eq_false hle))) ?_; refine oM ?_; refine oY ?_; refine oS (s_ldB rfl (RdPK.cels (.own meA)) lnA) ?_; refine oY ?_; refine oS (s_ldB rfl (RdPK.cels (.own meA)) lnA) ?_; refine oY ?_; refine o_callP (and_fn (allT d.atoms k) a) rfl rfl rfl (fun _ _ => trivial) (fun v58 hv58 => ?_); subst hv58
          refine oY ?_; refine oS (step_cast (v' := .agg (Ec 0#256).toArray) (s_build0 rfl) (by rw [Ec_zero]; rfl)) ?_; refine oY ?_
          by_cases hmt : allT d.atoms k &&& a ≠ 0#256
          ·refine oS (step_cast (v' := .bool true) (s_neq_cl (c := allT d.atoms k &&& a) (d := 0#256) rfl (by rw [Ec_zero]; rfl)) (congrArg Value.bool (decide_eq_true hmt))) ?_; refine oS sP (o_nil ?_); refine x_then (hK26 _ _ _ ?_); refine cT ?_; refine c_seqD fun _ hK28 => ?_; refine c_region (oA (o_nil ?_)); refine x_then (hK28 _ _ _ ?_); refine c_ret ?_; refine x_then_ret (x_block_ret (x_then_ret (x_then_ret (x_block_ret (x_then_ret (?_))))))
           exact x_retM (.cons (hM0)) (Pick.takeC pkA pkA) rfl (.tmp rfl (.nil)) ((congrArg Value.bool (shP_atoms (by rw [hsh, sh_bad hak (.inr hmt)])).symm))
          ·refine oS (step_cast (v' := .bool false) (s_neq_cl (c := allT d.atoms k &&& a) (d := 0#256) rfl (by rw [Ec_zero]; rfl)) (congrArg Value.bool (decide_eq_false hmt))) ?_; refine oS sP (o_nil ?_); refine x_then (hK26 _ _ _ ?_); refine cF (c_skip ?_); refine x_then (hK25 _ _ _ ?_); refine c_seqD fun _ hK29 => ?_; refine c_region ?_; refine oS (step_cast (v' := .int .i64 (lastT d.atoms (k + 1))) (s_ld rfl (.own meA rfl)) (by rw [lastT, hak, Option.getD_some, hfi])) ?_; refine oA (o_nil ?_); refine x_then (hK29 _ _ _ ?_); refine c_region ?_; refine oS (s_ldB rfl (RdPK.cels (.own meA)) lnA) ?_; refine oS (s_ldB rfl (RdPK.cels (.own meA)) lnA) ?_; refine o_callP (or_fn (allT d.atoms k) a) rfl rfl rfl (fun _ _ => trivial) (fun v65 hv65 => ?_)
           rw [← allT_succ hak] at hv65
           subst hv65; refine o_stW rfl rfl upA lnA lnA onA ?_; refine o_nil (x_block ?_); refine x_then (hK16 _ _ _ ?_); refine c_region ?_; refine oS sD (oM (o_nil ?_)); exact x_then (x_invM (k + 1) ⟨by omega, hsh.trans (sh_next hak (by rw [hfi]; exact hle) hmt)⟩ (by first | omega | (dsimp only; omega)) (.cons (hM0)) sbA (Pick.takeC pkA pkA) hzB)
       ·obtain rfl : k = d.atoms.length := by omega
        rw [sh_end] at hsh
        refine c_exit ?_; refine x_then_exit (x_then_exit (x_block_exit ?_)); refine x_then (hK12 _ _ _ ?_); refine c_seqD fun _ hK30 => ?_; refine c_seqD fun _ hK31 => ?_; refine c_drawE ((b1, .cells [.slice aa d.atoms.length ac, .slice na rows.length nc, .slice ea d.ends.length ec].toArray 30 (0, 0)) :: (b4, .cells (Ec (allT d.atoms d.atoms.length)).toArray 39 (0, 0)) :: Ms0) (fun i => false) ?_; refine eK 0 rfl (s_ldB rfl (RdPK.cels (.own meA)) lnA) ?_; refine eP 1 rfl (step_cast (v' := .agg (Ec 0#256).toArray) (s_build0 rfl) (by rw [Ec_zero]; rfl)) ?_; refine eO 2 rfl ?_; refine o_callP (not_fn 0#256) rfl rfl rfl (fun _ _ => trivial) (fun v69 hv69 => ?_); subst hv69
        refine oX ?_
        by_cases hfl : allT d.atoms d.atoms.length ≠ fullC
        ·refine eP 3 rfl (step_cast (v' := .bool true) (s_neq_cl (c := allT d.atoms d.atoms.length) (d := fullC) rfl rfl) (congrArg Value.bool (decide_eq_true hfl))) ?_; refine e_done (by kernel_rfl) ?_; refine x_then (hK31 _ _ _ ?_); refine cT ?_; refine c_seqD fun _ hK32 => ?_; refine c_region (oA (o_nil ?_)); refine x_then (hK32 _ _ _ ?_); refine c_ret ?_; refine x_then_ret (?_); exact x_retM (hM0) pkA rfl (.tmp rfl (.nil)) ((congrArg Value.bool (shP_atoms (by rw [hsh, decide_eq_false hfl])).symm))
        ·refine eP 3 rfl (step_cast (v' := .bool false) (s_neq_cl (c := allT d.atoms d.atoms.length) (d := fullC) rfl rfl) (congrArg Value.bool (decide_eq_false hfl))) ?_; refine e_done (by kernel_rfl) ?_; refine x_then (hK31 _ _ _ ?_); refine cF (c_skip ?_); refine x_then (hK30 _ _ _ ?_); refine c_seqD fun _ hK33 => ?_; refine c_seqD fun _ hK34 => ?_; refine c_region ?_; refine oS sF ?_; refine oS sL ?_; refine oS sC (oM (o_nil ?_)); refine x_then (hK34 _ _ _ ?_); refine c_block ?_; refine c_loopB (fun (q : Nat) => q ≤ rows.length ∧ ∀ i s, i < q → rows[i]? = some s → rowOk d.ends.length d.atoms.length s.xs) (fun (q : Nat) => [(74, .int .i64 q)]) [(1, _), (3, _), (72, _), (73, _)] (fun (q : Nat) => (b1, .cells [.slice aa d.atoms.length ac, .slice na rows.length nc, .slice ea d.ends.length ec].toArray 30 (0, 0)) :: Ms0) (fun (q : Nat) => rows.length - q) 0 ⟨Nat.zero_le _, fun i s hi _ => by omega⟩ sbA sbA hzB ?_
         rintro q ⟨hq, hro⟩
         refine c_seqD fun _ hK35 => ?_; refine c_region ?_; refine oS (s_lss rfl rfl) ?_; refine o_nil ?_; refine x_then (hK35 _ _ _ ?_); refine c_seqD fun _ hK36 => ?_; refine c_if rfl (fun hlq => ?_) (fun hlq => ?_)
         ·obtain ⟨s, hs⟩ : ∃ s, rows[q]? = some s := gE
          have hsm := List.mem_of_getElem? hs
          have hsx := (hw.1.rw_ s hsm).sl
          have hbx := hsx.le
          refine c_skip ?_; refine x_then (hK36 _ _ _ ?_); refine c_seqD fun _ hK37 => ?_; refine c_block ?_; refine c_seqD fun _ hK38 => ?_; refine c_region ?_; refine oS (s_idx rfl rfl hsn (by omega)) ?_; refine oS (s_ld rfl ((RdK.old0 hw.1.nx).ld q 0 hs rfl (by decide) (by omega))) ?_; refine oA (o_nil ?_); refine x_then (hK38 _ _ _ ?_); refine c_seqD fun _ hK39 => ?_; refine c_region (oM ?_); refine oS sC ?_; refine oS sF ?_; refine oS sL ?_; refine oS sC ?_
          by_cases hln : s.xs.length ≠ d.atoms.length
          ·have hbad : shP d = false := shP_row (r := s.xs) (by rw [hx]; exact List.mem_map.2 ⟨s, hsm, rfl⟩) (fun h => hln h.1)
           refine oS (step_cast (v' := .bool true) (s_neq rfl rfl) (congrArg Value.bool (decide_eq_true (by omega)))) ?_; refine oM ?_; refine oN ?_; refine oN ?_; refine oN ?_; refine oS sT (oM ?_); refine oN ?_; refine oN ?_; refine oN ?_; refine oN ?_; refine oS sT (o_nil ?_); refine x_then (hK39 _ _ _ ?_); refine cT ?_; refine c_seqD fun _ hK40 => ?_; refine c_region (oA (o_nil ?_)); refine x_then (hK40 _ _ _ ?_); refine c_ret ?_; refine x_block_ret (x_then_ret (x_then_ret (x_block_ret (x_then_ret (?_)))))
           exact x_retM (hM0) pkA rfl (.tmp rfl (.nil)) ((congrArg Value.bool hbad.symm))
          ·refine oS (step_cast (v' := .bool false) (s_neq rfl rfl) (congrArg Value.bool (decide_eq_false (by omega)))) ?_; refine oM ?_; refine oY (oM ?_); refine oY ?_; refine o_callP (min_fn s.a s.c s.xs (by omega)) rfl rfl rfl (fun w st => (RdK.old0 (hw.1.rw_ s hsm)).out w st) (fun v86 ⟨mn, hv86, hmnm, hmna⟩ => ?_); subst hv86
           refine oY ?_
           by_cases hmn : mn < -1
           ·have hbad : shP d = false := shP_row (r := s.xs) (by rw [hx]; exact List.mem_map.2 ⟨s, hsm, rfl⟩) (fun h => by have := (h.2 mn hmnm).1; omega)
            refine oS (step_cast (v' := .bool true) (s_lss rfl rfl) (congrArg Value.bool (decide_eq_true (by omega)))) ?_; refine oS sP (oM ?_); refine oN ?_; refine oN ?_; refine oN ?_; refine oN ?_; refine oS sT (o_nil ?_); refine x_then (hK39 _ _ _ ?_); refine cT ?_; refine c_seqD fun _ hK41 => ?_; refine c_region (oA (o_nil ?_)); refine x_then (hK41 _ _ _ ?_); refine c_ret ?_; refine x_block_ret (x_then_ret (x_then_ret (x_block_ret (x_then_ret (?_)))))
            exact x_retM (hM0) pkA rfl (.tmp rfl (.nil)) ((congrArg Value.bool hbad.symm))
           ·refine oS (step_cast (v' := .bool false) (s_lss rfl rfl) (congrArg Value.bool (decide_eq_false (by omega)))) ?_; refine oS sP (oM ?_); refine oY (oM ?_); refine oY ?_; refine o_callP (max_fn s.a s.c s.xs (by omega)) rfl rfl rfl (fun w st => (RdK.old0 (hw.1.rw_ s hsm)).out w st) (fun v91 ⟨mx, hv91, hmxm, hmxa⟩ => ?_); subst hv91
            refine oY (oM ?_); refine oY ?_
            by_cases hmx : mx ≥ (d.ends.length : Int)
            ·have hbad : shP d = false := shP_row (r := s.xs) (by rw [hx]; exact List.mem_map.2 ⟨s, hsm, rfl⟩) (fun h => by have := (h.2 mx hmxm).2; omega)
             refine oS (step_cast (v' := .bool true) (s_geq rfl rfl) (congrArg Value.bool (decide_eq_true (by omega)))) ?_; refine oS sP (o_nil ?_); refine x_then (hK39 _ _ _ ?_); refine cT ?_; refine c_seqD fun _ hK42 => ?_; refine c_region (oA (o_nil ?_)); refine x_then (hK42 _ _ _ ?_); refine c_ret ?_; refine x_block_ret (x_then_ret (x_then_ret (x_block_ret (x_then_ret (?_)))))
             exact x_retM (hM0) pkA rfl (.tmp rfl (.nil)) ((congrArg Value.bool hbad.symm))
            ·refine oS (step_cast (v' := .bool false) (s_geq rfl rfl) (congrArg Value.bool (decide_eq_false (by omega)))) ?_; refine oS sP (o_nil ?_); refine x_then (hK39 _ _ _ ?_); refine cF (c_skip (x_block ?_)); refine x_then (hK37 _ _ _ ?_); refine c_region ?_; refine oS sD (oM (o_nil ?_)); exact xI (q + 1) ⟨by omega, fun i s' hi hs' => by rcases Nat.lt_or_ge i q with h | h; (· exact hro i s' h hs'); (· rw [show i = q by omega, hs] at hs'; obtain rfl := Option.some.inj hs'; exact ⟨by omega, fun x hx => ⟨by have := hmna x hx; omega, by have := hmxa x hx; omega⟩⟩)⟩
         ·obtain rfl : q = rows.length := by omega
          refine c_exit ?_; refine x_then_exit (x_then_exit (x_block_exit ?_)); refine x_then (hK33 _ _ _ ?_); refine c_seqD fun _ hK43 => ?_; refine c_region (oA (o_nil ?_)); refine x_then (hK43 _ _ _ ?_); refine c_ret ?_; refine ?_; exact x_retM (hM0) pkA rfl (.tmp rfl (.nil)) ((congrArg Value.bool (shP_true hsz (by rw [hsh, decide_eq_true (Classical.not_not.1 hfl)]) (fun r hr => by rw [hx] at hr; obtain ⟨s, hs, rfl⟩ := List.mem_map.1 hr; obtain ⟨i, hi⟩ := List.getElem?_of_mem hs; exact hro i s (List.getElem?_eq_some_iff.1 hi).1 hi)).symm))
set_option maxHeartbeats 2000000 in
theorem atomsO_fn (d : Df) (aa : Option Addr) (ac : Nat) (na : Option Addr) (nc : Nat) (rows : List (Sl Int)) (ea : Option Addr) (ec : Nat) (hx : d.next = rows.map Sl.xs) : HL.Fn Tryz.prog 76 [.agg [.slice aa d.atoms.length ac, .slice na rows.length nc, .slice ea d.ends.length ec].toArray] (fun w => RdD d aa ac na nc rows ea ec w ∧ Tb [] w) [] (fun v _ => v = .agg (arrI (fun i => (Sts.lst d.atoms i d.atoms.length : Nat))).toArray) := by
  refine fn_ofM Tryz.func76 rfl rfl rfl fun w0 hw => ?_
  have hsa := hw.1.at_.sl
  have hba := hsa.le
  refine c_seqD fun _ hK1 => ?_; refine c_region ?_; refine o_box rfl rfl rfl fun b1 => ?_; refine o_alloc (l := arrI (fun _ => 0)) (by rw [arrI_zero]; rfl) rfl fun b2 => ?_; refine o_nil ?_; refine x_then (hK1 _ _ _ ?_); refine c_seqD fun _ hK2 => ?_; refine c_region ?_; refine o_alloc (l := arrI (fun _ => 0)) (by rw [arrI_zero]; rfl) rfl fun b3 => ?_; refine o_nil ?_; refine x_then (hK2 _ _ _ ?_); refine c_seqD fun _ hK3 => ?_; refine c_seqD fun _ hK4 => ?_; refine c_region ?_; refine oS sF ?_; refine oS sL ?_; refine oS sC (oM (o_nil ?_)); refine x_then (hK4 _ _ _ ?_); refine c_block ?_; refine c_loopM (fun (k : Nat) => k ≤ d.atoms.length) (fun (k : Nat) => [(10, .int .i64 k)]) [(2, _), (3, _), (8, _), (9, _)] (fun (k : Nat) => [(b1, .cells [.slice aa d.atoms.length ac, .slice na rows.length nc, .slice ea d.ends.length ec].toArray 30 (0, 0)), (b2, .cells (arrI (fun _ => 0)).toArray 116 (0, 0)), (b3, .cells (arrI (fun i => (Sts.lst d.atoms i k : Nat))).toArray 116 (0, 0))]) (fun (k : Nat) => d.atoms.length - k) 0 (Nat.zero_le _) sbA sbA rfl hzB ?_
  intro k ds0 Ms0 hI0 hM0
  obtain hk := hI0
  refine c_seqD fun _ hK5 => ?_; refine c_region ?_; refine oS (s_lss rfl rfl) ?_; refine o_nil ?_; refine x_then (hK5 _ _ _ ?_); refine c_seqD fun _ hK6 => ?_; refine c_if rfl (fun hlk => ?_) (fun hlk => ?_)
  ·obtain ⟨a, hak⟩ : ∃ a, d.atoms[k]? = some a := gE
   refine c_skip ?_; refine x_then (hK6 _ _ _ ?_); refine c_seqD fun _ hK7 => ?_; refine c_block ?_; refine c_seqD fun _ hK8 => ?_; refine c_region (oM ?_); refine oS (s_idx rfl rfl hsa (by omega)) ?_; refine oS (s_ldB rfl ((RdK.old0 hw.1.at_).lds k hak (by simp only [Int.toNat_natCast])) lnA) ?_; refine o_alloc rfl rfl fun b4 => ?_; refine o_alloc (l := Ec 0#256) (by rw [Ec_zero]; rfl) rfl fun b5 => ?_; refine o_store rfl rfl rfl upA ltA rfl ?_; refine o_stW rfl rfl upA lnA lnA onA ?_; refine o_nil ?_; refine x_then (hK8 _ _ _ ?_); refine c_seqD fun _ hK9 => ?_; refine c_region ?_; refine oS (s_ldB rfl (RdPK.cels (.own meA)) lnA) ?_; refine o_call (all_fn a) rfl rfl rfl (by exact .nil) (fun _ _ => trivial) (fun v16 S16 ⟨b16, hv16, hS16⟩ => ?_); subst hv16
   subst hS16; refine o_nil ?_; refine x_then (hK9 _ _ _ ?_); refine c_block ?_; refine c_range (α := Nat) (B0 := (b3, .cells (arrI (fun i => if i ∈ ([] : List Nat) then (k : Int) else (Sts.lst d.atoms i k : Nat))).toArray 116 (0, 0)) :: [(b4, .cells [.int .i64 k].toArray 3 (0, 0))]) (fun p B => B = (b3, .cells (arrI (fun i => if i ∈ p then (k : Int) else (Sts.lst d.atoms i k : Nat))).toArray 116 (0, 0)) :: [(b4, .cells [.int .i64 k].toArray 3 (0, 0))]) (fun c p B => False) rfl (all_it b16 a) ((Pick.takeC pkA (Pick.takeC pkA pkA))) ((fun w H1 S1 st hs => tb_of hw.2 st hs)) rfl (by kernel_rfl) (fun _ => rfl) (by kernel_rfl) ?_ ?_ ?_
   ·rintro l r p x B W er1 er2 rfl hx post hy hn
    have hxl : x < 256 := mems_lt hx
    refine c_region (oA (o_nil ?_)); refine x_then (x_begin upA (by kernel_rfl) ?_); refine c_block (c_region (oM ?_)); refine oS sL ?_; refine oS (s_indexA rfl rfl (by omega)) ?_; refine o_store rfl rfl rfl upA (by rw [arrI_len]; omega) rfl ?_
    rw [show 0 + ((x : Nat) : Int).toNat * 1 = x by omega, arrI_set hxl, lst_snoc]
    refine o_nil (x_block ?_); exact x_rnormal upA (hy _ rfl)
   ·rintro D0 S0r B0 rfl rfl
    refine x_block (x_block ?_); refine x_then (hK7 _ _ _ ?_); refine c_region ?_; refine oS sD (oM (o_nil ?_))
    rw [lst_arr hak]
    exact x_then (x_invM (k + 1) (by omega) (by first | omega | (dsimp only; omega)) (.cons (hM0)) sbA (Pick.takeC pkA pkA) hzB)
   ·rintro D0 S0r c p B0 rfl hpx hX
    exact hX.elim
  ·obtain rfl : k = d.atoms.length := by omega
   refine c_exit ?_; refine x_then_exit (x_then_exit (x_block_exit ?_)); refine x_then (hK3 _ _ _ ?_); refine c_seqD fun _ hK10 => ?_; refine c_region ?_; refine oS (s_ldB rfl (RdPK.cels (.own meA)) (arrI_len _)) ?_; refine o_stW rfl rfl upA (arrI_len _) (arrI_len _) (arrI_one _) ?_; refine o_nil ?_; refine x_then (hK10 _ _ _ ?_); refine c_ret ?_; refine ?_; exact x_retM (hM0) pkA rfl (.agg inferInstance inferInstance rfl (RdPK.cels (.own meA)) (arrI_len _) (.nil)) (rfl)
set_option maxHeartbeats 2000000 in
theorem takes2_fn (d : Df) (aa : Option Addr) (ac : Nat) (na : Option Addr) (nc : Nat) (rows : List (Sl Int)) (ea : Option Addr) (ec : Nat) (hx : d.next = rows.map Sl.xs) (ta : Option Addr) (tc : Nat) (w : List UInt8) : HL.Fn Tryz.prog 27 [.agg [.slice aa d.atoms.length ac, .slice na rows.length nc, .slice ea d.ends.length ec].toArray, .slice ta w.length tc] (fun W => RdD d aa ac na nc rows ea ec W ∧ Tb [] W ∧ Rd Eb W (.slice ta w.length tc) w) [] (fun v _ => v = .bool (takesP d w)) := by
  refine fn_ofM Tryz.func27 rfl rfl rfl fun w0 hw => ?_
  have hsn := hw.1.nx.sl
  have hse := hw.1.en.sl
  have hst := hw.2.2.sl
  have hbt := hst.le
  have hnl : d.next.length = rows.length := by rw [hx, List.length_map]
  refine c_seqD fun _ hK1 => ?_; refine c_region ?_; refine o_box rfl rfl rfl fun b2 => ?_; refine oA (o_nil ?_); refine x_then (hK1 _ _ _ ?_); refine c_seqD fun _ hK2 => ?_; refine c_seqD fun _ hK3 => ?_; refine c_region ?_; refine oS (s_ldB rfl (RdPK.cels (.own meA)) lnA) ?_; refine o_callP (shaped2_fn d aa ac na nc rows ea ec hx) rfl rfl rfl (fun w st => ⟨hw.1.old st, tb_of hw.2.1 st HSub.nil⟩) (fun v10 hv10 => ?_); subst hv10
  cases hsh : shP d
  ·refine oS (s_not rfl) ?_; refine o_nil ?_; refine x_then (hK3 _ _ _ ?_); refine cT ?_; refine c_seqD fun _ hK4 => ?_; refine c_region (oA (o_nil ?_)); refine x_then (hK4 _ _ _ ?_); refine c_ret ?_; refine x_then_ret (?_); exact x_retM (.nil) .nil rfl (.tmp rfl (.nil)) ((congrArg Value.bool (takesP_no hsh).symm))
  ·have hS := shP_iff.1 hsh
   obtain ⟨z1, z2, z3, z4, z5⟩ := hS.sz
   refine oS (s_not rfl) ?_; refine o_nil ?_; refine x_then (hK3 _ _ _ ?_); refine cF (c_skip ?_); refine x_then (hK2 _ _ _ ?_); refine c_seqD fun _ hK5 => ?_; refine c_region ?_; refine oS (s_ldB rfl (RdPK.cels (.own meA)) lnA) ?_; refine o_callP (atomsO_fn d aa ac na nc rows ea ec hx) rfl rfl rfl (fun w st => ⟨hw.1.old st, tb_of hw.2.1 st HSub.nil⟩) (fun v13 hv13 => ?_); subst hv13
   refine o_alloc (l := arrI (fun _ => 0)) (by rw [arrI_zero]; rfl) rfl fun b5 => ?_; refine o_stW rfl rfl upA (arrI_len _) (arrI_len _) (arrI_one _) ?_; refine o_nil ?_; refine x_then (hK5 _ _ _ ?_); refine c_seqD fun _ hK6 => ?_; refine c_region (oA (o_nil ?_)); refine x_then (hK6 _ _ _ ?_); refine c_seqD fun _ hK7 => ?_; refine c_seqD fun _ hK8 => ?_; refine c_region (oM ?_); refine oS sC (oM (o_nil ?_)); refine x_then (hK8 _ _ _ ?_); refine c_block ?_
   -- not carried: 4
   refine c_loop2 (fun (k : Nat) (q : Nat) => k ≤ w.length ∧ q < d.ends.length ∧ tkP d (w.drop k) (q : Int) = tkP d w 0) (fun (k : Nat) (q : Nat) => [(16, .int .i64 k), (6, .int .i64 q)]) [(2, _), (5, _), (14, _), (15, _)] (fun (k : Nat) (q : Nat) => [(b2, .cells [.slice aa d.atoms.length ac, .slice na rows.length nc, .slice ea d.ends.length ec].toArray 30 (0, 0)), (b5, .cells (arrI (fun i => (Sts.lst d.atoms i d.atoms.length : Nat))).toArray 116 (0, 0))]) (fun (k : Nat) (q : Nat) => w.length - k) 0 0 ⟨Nat.zero_le _, by omega, by rw [List.drop_zero]; rfl⟩ sbA sbA hzB ?_
   rintro k q ⟨hk, hqn, htk⟩
   refine c_seqD fun _ hK9 => ?_; refine c_region ?_; refine oS (s_lss rfl rfl) ?_; refine o_nil ?_; refine x_then (hK9 _ _ _ ?_); refine c_seqD fun _ hK10 => ?_; refine c_if rfl (fun hlk => ?_) (fun hlk => ?_)
   ·obtain ⟨u, huk⟩ : ∃ u, w[k]? = some u := gE
    have hu8 := u.toNat_lt
    obtain ⟨s, hs⟩ : ∃ s, rows[q]? = some s := gE
    have hsm := List.mem_of_getElem? hs
    have hsx := (hw.1.rw_ s hsm).sl
    have hrow : d.next[q]? = some s.xs := by rw [hx, List.getElem?_map, hs]; rfl
    have hsk := (hS.rows s.xs (List.mem_of_getElem? hrow)).1
    have hll := lst_lt d.atoms u.toNat z4
    obtain ⟨v, hv⟩ : ∃ v, s.xs[Sts.lst d.atoms u.toNat d.atoms.length]? = some v := gE
    have hnv := nxt_get hrow hv
    have hvb := (hS.rows s.xs (List.mem_of_getElem? hrow)).2 v (List.mem_of_getElem? hv)
    refine c_skip ?_; refine x_then (hK10 _ _ _ ?_); refine c_seqD fun _ hK11 => ?_; refine c_block ?_; refine c_seqD fun _ hK12 => ?_; refine c_region ?_; refine oS (s_idx rfl rfl hst (by omega)) ?_; refine oS (s_ld rfl ((RdK.old0 hw.2.2).ld k 0 huk rfl (by decide) (by omega))) ?_; refine oA (o_nil ?_); refine x_then (hK12 _ _ _ ?_); refine c_seqD fun _ hK13 => ?_; refine c_drawE ([(b2, .cells [.slice aa d.atoms.length ac, .slice na rows.length nc, .slice ea d.ends.length ec].toArray 30 (0, 0)), (b5, .cells (arrI (fun i => (Sts.lst d.atoms i d.atoms.length : Nat))).toArray 116 (0, 0))]) (fun i => false) ?_; refine eP 0 rfl sF ?_; refine eK 1 rfl sL ?_; refine eP 2 rfl sM ?_; refine eP 3 rfl (s_idx rfl rfl hsn (by omega)) ?_; refine eK 4 rfl (s_ld rfl ((RdK.old0 hw.1.nx).ld q 0 hs rfl (by decide) (by omega))) ?_; refine eP 5 rfl sM ?_; refine eP 6 rfl (s_indexA rfl rfl (by omega)) ?_; refine eK 7 rfl (s_ld rfl ((RdPK.own meA).cel (j := u.toNat) (arrI_get hu8) (by omega))) ?_; refine eP 8 rfl (s_idx rfl rfl hsx (by omega)) ?_; refine eK 9 rfl (s_ld rfl ((RdK.old0 (hw.1.rw_ s hsm)).ld (Sts.lst d.atoms u.toNat d.atoms.length) 0 hv rfl (by decide) (by simp only [Sl.v]; omega))) ?_; refine eP 10 rfl sA ?_; refine e_done (by kernel_rfl) ?_; refine x_then (hK13 _ _ _ ?_); refine c_seqD fun _ hK14 => ?_; refine c_region (oM ?_)
    by_cases hneg : v < 0
    ·refine oS (step_cast (v' := .bool true) (s_lss rfl rfl) (congrArg Value.bool (decide_eq_true hneg))) ?_; refine o_nil ?_; refine x_then (hK14 _ _ _ ?_); refine cT ?_; refine c_seqD fun _ hK15 => ?_; refine c_region (oA (o_nil ?_)); refine x_then (hK15 _ _ _ ?_); refine c_ret ?_; refine x_block_ret (x_then_ret (x_then_ret (x_block_ret (x_then_ret (?_)))))
     exact x_retM (.nil) .nil rfl (.tmp rfl (.nil)) ((congrArg Value.bool (by rw [takesP_yes hsh, ← htk, tkP_stop huk hnv hneg])))
    ·obtain ⟨q1, rfl⟩ := Int.eq_ofNat_of_zero_le (show 0 ≤ v by omega)
     refine oS (step_cast (v' := .bool false) (s_lss rfl rfl) (congrArg Value.bool (decide_eq_false hneg))) ?_; refine o_nil ?_; refine x_then (hK14 _ _ _ ?_); refine cF (c_skip (x_block ?_)); refine x_then (hK11 _ _ _ ?_); refine c_region ?_; refine oS sD (oM (o_nil ?_)); exact xI (k + 1, q1) ⟨by omega, by dsimp only; omega, by rw [← htk, tkP_next huk hnv (by omega)]⟩
   ·obtain rfl : k = w.length := by omega
    obtain ⟨e, he⟩ : ∃ e, d.ends[q]? = some e := gE
    refine c_exit ?_; refine x_then_exit (x_then_exit (x_block_exit ?_)); refine x_then (hK7 _ _ _ ?_); refine c_seqD fun _ hK16 => ?_; refine c_region ?_; refine oS sF ?_; refine oS sL (oM ?_); refine oS (s_idx rfl rfl hse (by omega)) ?_; refine oS (s_ld rfl ((RdK.old0 hw.1.en).ld q 0 he rfl (by decide) (by omega))) ?_; refine oA (o_nil ?_); refine x_then (hK16 _ _ _ ?_); refine c_ret ?_; refine ?_; exact x_retM (.nil) .nil rfl (.tmp rfl (.nil)) ((congrArg Value.bool (by rw [takesP_yes hsh, ← htk, tkP_end he])))
end Go.Proofs.YtmompllplidphaaGreatDoor
