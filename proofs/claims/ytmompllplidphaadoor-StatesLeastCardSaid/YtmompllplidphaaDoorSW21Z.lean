/- Part of the proofs over this seat: see the text that holds the theorem. Conditions: each theorem bears its own. -/
import Derived.Test.YtmompllplidphaaDoorHDZ
import Derived.Test.YtmompllplidphaaDoorSM16Z
namespace Go.Proofs.YtmompllplidphaaDoor
open Go Go.HL Go.Proofs Go.HL.Kl Go.HL.Kl.Mc Go.HL.Sts
theorem longRe_fn (ra : Option Addr) (rc : Nat) (re : List Nd) (hre : ∀ x ∈ re, -128 ≤ x.op ∧ x.op < 128) : HL.Fn Tryd.prog 22 [.slice ra re.length rc] (fun W => Rd En W (.slice ra re.length rc) re) [] (fun v _ => ∃ b, v = .bool b) := by
  refine fn_of Tryd.func22 rfl rfl rfl fun w0 hw => ?_
  refine c_seq fun _ hK1 => ?_
  refine c_region ?_
  refine o_step rfl (s_assign rfl) ?_
  refine o_nil ?_
  refine x_then (hK1 _ _ ?_)
  refine c_seq fun _ hK2 => ?_
  refine c_region ?_
  refine o_step rfl (s_move rfl) ?_
  refine o_step rfl (s_len rfl) ?_
  refine o_callP (longN_fn re.length) rfl rfl rfl (fun _ _ => trivial) (fun v5 hv5 => ?_)
  subst hv5
  cases hlg : decide ((re.length : Int) > 2147483647)
  ·
   refine o_step rfl (s_move rfl) ?_
   refine o_yes rfl rfl ?_
   refine o_step rfl (s_move rfl) ?_
   refine o_yes rfl rfl ?_
   refine o_callP (beyond_fn ra rc re hre) rfl rfl rfl (fun w st => (RdK.old0 hw).out w st) (fun v8 ⟨b8, hv8⟩ => ?_)
   subst hv8
   refine o_step rfl (s_pick_f rfl rfl) ?_
   refine o_step rfl (s_assign rfl) ?_
   refine o_nil ?_
   refine x_then (hK2 _ _ ?_)
   refine c_ret ?_
   refine ?_
   exact x_ret rfl (.tmp rfl (.nil)) (⟨_, rfl⟩)
  ·
   refine o_step rfl (s_move rfl) ?_
   refine o_no rfl rfl rfl rfl ?_
   refine o_no rfl rfl rfl rfl ?_
   refine o_step rfl (s_pick_t rfl rfl) ?_
   refine o_step rfl (s_assign rfl) ?_
   refine o_nil ?_
   refine x_then (hK2 _ _ ?_)
   refine c_ret ?_
   refine ?_
   exact x_ret rfl (.tmp rfl (.nil)) (⟨_, rfl⟩)
theorem goA_fn (d : Df) (aa : Option Addr) (ac : Nat) (na : Option Addr) (nc : Nat) (rows : List (Sl Int)) (ea : Option Addr) (ec : Nat) (hx : d.next = rows.map Sl.xs) (hS : Sts.Shp d) (b3 b1 : Nat) (p k : Nat) (hp : p ≤ d.ends.length) (hk : k < d.atoms.length) : HL.Fn Tryd.prog 67 [.int .i64 p, .int .i64 k, .pointer (some ⟨b3, 0, none⟩), .pointer (some ⟨b1, 0, none⟩)] (fun w => RdD d aa ac na nc rows ea ec w ∧ Apart (keys [(b3, .cells [.int .i64 d.ends.length].toArray 3 (0, 0)), (b1, .cells [.slice aa d.atoms.length ac, .slice na rows.length nc, .slice ea d.ends.length ec].toArray 26 (0, 0))]) (.slice na rows.length nc) ∧ ∀ s ∈ rows, Apart (keys [(b3, .cells [.int .i64 d.ends.length].toArray 3 (0, 0)), (b1, .cells [.slice aa d.atoms.length ac, .slice na rows.length nc, .slice ea d.ends.length ec].toArray 26 (0, 0))]) s.v) [(b3, .cells [.int .i64 d.ends.length].toArray 3 (0, 0)), (b1, .cells [.slice aa d.atoms.length ac, .slice na rows.length nc, .slice ea d.ends.length ec].toArray 26 (0, 0))] (fun v S' => v = .int .i64 (goE d p k : Nat) ∧ S' = [(b3, .cells [.int .i64 d.ends.length].toArray 3 (0, 0)), (b1, .cells [.slice aa d.atoms.length ac, .slice na rows.length nc, .slice ea d.ends.length ec].toArray 26 (0, 0))]) := by
  refine fn_of Tryd.func67 rfl rfl rfl fun w0 hw => ?_
  obtain ⟨hw, hap⟩ := hw
  have hsn := hw.nx.sl
  have hnl : d.next.length = rows.length := by rw [hx, List.length_map]
  have hne := hS.sz.2.2.1
  refine c_seq fun _ hK1 => ?_
  refine c_region ?_
  refine o_step rfl (s_assign rfl) ?_
  refine o_nil ?_
  refine x_then (hK1 _ _ ?_)
  refine c_seq fun _ hK2 => ?_
  refine c_seq fun _ hK3 => ?_
  refine c_region ?_
  refine o_step rfl (s_move rfl) ?_
  refine o_step rfl (s_ld rfl (.own meA rfl)) ?_
  by_cases hpn : p = d.ends.length
  ·
   refine o_step rfl (step_cast (v' := .bool true) (s_eql rfl rfl) (congrArg Value.bool (decide_eq_true (by omega)))) ?_
   refine o_step rfl (s_move rfl) ?_
   refine o_no rfl rfl rfl rfl ?_
   refine o_no rfl rfl rfl rfl ?_
   refine o_no rfl rfl rfl rfl ?_
   refine o_no rfl rfl rfl rfl ?_
   refine o_no rfl rfl rfl rfl ?_
   refine o_no rfl rfl rfl rfl ?_
   refine o_no rfl rfl rfl rfl ?_
   refine o_no rfl rfl rfl rfl ?_
   refine o_no rfl rfl rfl rfl ?_
   refine o_step rfl (s_pick_t rfl rfl) ?_
   refine o_nil ?_
   refine x_then (hK3 _ _ ?_)
   refine c_true rfl ?_
   refine c_seq fun _ hK4 => ?_
   refine c_region ?_
   refine o_step rfl (s_ld rfl (.own meA rfl)) ?_
   refine o_step rfl (s_assign rfl) ?_
   refine o_nil ?_
   refine x_then (hK4 _ _ ?_)
   refine c_ret ?_
   refine x_then_ret (?_)
   exact x_ret rfl (.tmp rfl (.nil)) (⟨congrArg (fun n : Nat => Value.int .i64 n) (by unfold goE; rw [if_pos (.inl hpn)]), rfl⟩)
  ·
   obtain ⟨s, hs⟩ : ∃ s, rows[p]? = some s := ⟨_, List.getElem?_eq_getElem (by omega)⟩
   have hsm := List.mem_of_getElem? hs
   have hsx := (hw.rw_ s hsm).sl
   have hrow : d.next[p]? = some s.xs := by rw [hx, List.getElem?_map, hs]; rfl
   have hsk := (hS.rows s.xs (List.mem_of_getElem? hrow)).1
   obtain ⟨v, hv⟩ : ∃ v, s.xs[k]? = some v := ⟨_, List.getElem?_eq_getElem (by omega)⟩
   have hnv := nxt_get hrow hv
   refine o_step rfl (step_cast (v' := .bool false) (s_eql rfl rfl) (congrArg Value.bool (decide_eq_false (by omega)))) ?_
   refine o_step rfl (s_move rfl) ?_
   refine o_yes rfl rfl ?_
   refine o_step rfl (s_field rfl rfl (by decide)) ?_
   refine o_yes rfl rfl ?_
   refine o_step rfl (s_ld rfl (.own meA rfl)) ?_
   refine o_yes rfl rfl ?_
   refine o_step rfl (s_move rfl) ?_
   refine o_yes rfl rfl ?_
   refine o_step rfl (s_idx rfl rfl hsn (by omega)) ?_
   refine o_yes rfl rfl ?_
   refine o_step rfl (s_ld rfl ((RdK.old hw.nx hap.1).ld p 0 hs rfl (by decide) (by omega))) ?_
   refine o_yes rfl rfl ?_
   refine o_step rfl (s_move rfl) ?_
   refine o_yes rfl rfl ?_
   refine o_step rfl (s_idx rfl rfl hsx (by omega)) ?_
   refine o_yes rfl rfl ?_
   refine o_step rfl (s_ld rfl ((RdK.old (hw.rw_ s hsm) (hap.2 s hsm)).ld k 0 hv rfl (by decide) (by first | omega | (simp only [Sl.v]; omega)))) ?_
   refine o_yes rfl rfl ?_
   by_cases hneg : v < 0
   ·
    refine o_step rfl (step_cast (v' := .bool true) (s_lss rfl rfl) (congrArg Value.bool (decide_eq_true hneg))) ?_
    refine o_step rfl (s_pick_f rfl rfl) ?_
    refine o_nil ?_
    refine x_then (hK3 _ _ ?_)
    refine c_true rfl ?_
    refine c_seq fun _ hK5 => ?_
    refine c_region ?_
    refine o_step rfl (s_ld rfl (.own meA rfl)) ?_
    refine o_step rfl (s_assign rfl) ?_
    refine o_nil ?_
    refine x_then (hK5 _ _ ?_)
    refine c_ret ?_
    refine x_then_ret (?_)
    exact x_ret rfl (.tmp rfl (.nil)) (⟨congrArg (fun n : Nat => Value.int .i64 n) (by unfold goE; rw [hnv, if_pos (.inr hneg)]), rfl⟩)
   ·
    refine o_step rfl (step_cast (v' := .bool false) (s_lss rfl rfl) (congrArg Value.bool (decide_eq_false hneg))) ?_
    refine o_step rfl (s_pick_f rfl rfl) ?_
    refine o_nil ?_
    refine x_then (hK3 _ _ ?_)
    refine c_false rfl ?_
    refine c_skip ?_
    refine x_then (hK2 _ _ ?_)
    refine c_seq fun _ hK6 => ?_
    refine c_region ?_
    refine o_step rfl (s_field rfl rfl (by decide)) ?_
    refine o_step rfl (s_ld rfl (.own meA rfl)) ?_
    refine o_step rfl (s_move rfl) ?_
    refine o_step rfl (s_idx rfl rfl hsn (by omega)) ?_
    refine o_step rfl (s_ld rfl ((RdK.old hw.nx hap.1).ld p 0 hs rfl (by decide) (by omega))) ?_
    refine o_step rfl (s_move rfl) ?_
    refine o_step rfl (s_idx rfl rfl hsx (by omega)) ?_
    refine o_step rfl (s_ld rfl ((RdK.old (hw.rw_ s hsm) (hap.2 s hsm)).ld k 0 hv rfl (by decide) (by first | omega | (simp only [Sl.v]; omega)))) ?_
    refine o_step rfl (s_assign rfl) ?_
    refine o_nil ?_
    refine x_then (hK6 _ _ ?_)
    refine c_ret ?_
    refine ?_
    exact x_ret rfl (.tmp rfl (.nil)) (⟨congrArg (Value.int .i64) (by unfold goE; rw [hnv, if_neg (by omega)]; omega), rfl⟩)
set_option maxHeartbeats 4000000 in
theorem apart_fn (d : Df) (aa : Option Addr) (ac : Nat) (na : Option Addr) (nc : Nat) (rows : List (Sl Int)) (ea : Option Addr) (ec : Nat) (hx : d.next = rows.map Sl.xs) (hS : Sts.Shp d) (hD : ∀ i j, i < d.ends.length → j < d.ends.length → i ≠ j → ∃ t, (∀ k ∈ t, k < d.atoms.length) ∧ accD d (i : Int) t ≠ accD d (j : Int) t) (hL : 1 < d.ends.length → ∀ i, i < d.ends.length → ∃ t, (∀ k ∈ t, k < d.atoms.length) ∧ accD d (i : Int) t = true) : HL.Fn Tryd.prog 29 [.agg [.slice aa d.atoms.length ac, .slice na rows.length nc, .slice ea d.ends.length ec].toArray] (fun w => RdD d aa ac na nc rows ea ec w) [] (fun v _ => v = .bool true) := by
  refine fn_of Tryd.func29 rfl rfl rfl fun w0 hw => ?_
  have hsn := hw.nx.sl
  have hse := hw.en.sl
  have hn6 := hS.sz.2.1
  have hn1 := hS.sz.1
  have hat6 := hS.sz.2.2.2.2
  refine c_seq fun _ hK1 => ?_
  refine c_region ?_
  refine o_box rfl rfl rfl fun b1 => ?_
  refine o_step rfl (s_assign rfl) ?_
  refine o_nil ?_
  refine x_then (hK1 _ _ ?_)
  refine c_seq fun _ hK2 => ?_
  refine c_region ?_
  refine o_step rfl (s_field rfl rfl (by decide)) ?_
  refine o_step rfl (s_ld rfl (.own meA rfl)) ?_
  refine o_step rfl (s_len rfl) ?_
  refine o_alloc rfl rfl fun b3 => ?_
  refine o_store rfl rfl rfl upA ltA rfl ?_
  refine o_nil ?_
  refine x_then (hK2 _ _ ?_)
  refine c_seq fun _ hK3 => ?_
  refine c_region ?_
  refine o_step rfl (s_ld rfl (.own meA rfl)) ?_
  refine o_step rfl (s_add rfl rfl (by omega)) ?_
  refine o_make (E := Ehd) (zx := (⟨none, 0, 0⟩ : Hd)) (n := d.ends.length + 1) rfl rfl rfl (by omega) (by omega) rfl fun b19 S19 hS19 => ?_
  rw [← filZ_nil] at hS19
  refine o_step rfl (s_assign rfl) ?_
  refine o_nil ?_
  refine x_then (hK3 _ _ ?_)
  refine c_seq fun _ hK4 => ?_
  refine c_seq fun _ hK5 => ?_
  refine c_region ?_
  refine o_step rfl (s_assign rfl) ?_
  refine o_nil ?_
  refine x_then (hK5 _ _ ?_)
  refine c_block ?_
  refine c_loop4 (fun (p : Nat) (heads : List Hd) (SB : Hp) (SL : Hp) => p ≤ d.ends.length + 1 ∧ heads.length = p ∧ OwnS Ehd 1 24 (.slice (some ⟨b19, 0, none⟩) (d.ends.length + 1) (d.ends.length + 1)) (filZ ⟨none, 0, 0⟩ heads (d.ends.length + 1)) SB ∧ OwnH heads (iniT d p) SL) (fun (p : Nat) (heads : List Hd) (SB : Hp) (SL : Hp) => [(5, .int .i64 p)]) [(1, _), (2, _), (3, _), (4, _)] (fun (p : Nat) (heads : List Hd) (SB : Hp) (SL : Hp) => (b3, .cells [.int .i64 d.ends.length].toArray 3 (0, 0)) :: (b1, .cells [.slice aa d.atoms.length ac, .slice na rows.length nc, .slice ea d.ends.length ec].toArray 26 (0, 0)) :: (SB ++ SL)) (fun (p : Nat) (heads : List Hd) (SB : Hp) (SL : Hp) => d.ends.length + 1 - p) 0 [] S19 [] ⟨by omega, rfl, hS19, .nil⟩ sbA sbA hzB ?_
  rintro p heads SB SL ⟨hp, hhl, hB, hH⟩
  have hsb := hB.sl
  rw [filZ_len (by omega)] at hsb
  refine c_seq fun _ hK6 => ?_
  refine c_seq fun _ hK7 => ?_
  refine c_region ?_
  refine o_step rfl (s_move rfl) ?_
  refine o_step rfl (s_ld rfl (.own meA rfl)) ?_
  by_cases hlt : p ≤ d.ends.length
  ·
   refine o_step rfl (step_cast (v' := .bool true) (s_leq rfl rfl) (congrArg Value.bool (decide_eq_true (by omega)))) ?_
   refine o_nil ?_
   refine x_then (hK7 _ _ ?_)
   refine c_true rfl ?_
   refine c_skip ?_
   refine x_then (hK6 _ _ ?_)
   refine c_seq fun _ hK8 => ?_
   refine c_block ?_
   refine c_seq fun _ hK9 => ?_
   refine c_region ?_
   refine o_step rfl (s_move rfl) ?_
   refine o_step rfl (s_move rfl) ?_
   refine o_step rfl (s_ld rfl (.own meA rfl)) ?_
   refine o_step rfl (s_add rfl rfl (by omega)) ?_
   refine o_make (E := Ebo) (zx := false) (n := d.ends.length + 1) rfl rfl rfl (by omega) (by omega) rfl fun b29 S29 hS29 => ?_
   rw [← filZ_nil] at hS29
   refine o_step rfl (s_idx rfl rfl hsb (by omega)) ?_
   refine o_stS1 p (⟨some ⟨b29, 0, none⟩, d.ends.length + 1, d.ends.length + 1⟩ : Hd) hB pkA rfl rfl rfl (by rw [filZ_len (by omega)]; omega) (by omega) fun S30 hS30 => ?_
   have hpg : ((filZ (⟨none, 0, 0⟩ : Hd) heads (d.ends.length + 1)).set p (⟨some ⟨b29, 0, none⟩, d.ends.length + 1, d.ends.length + 1⟩ : Hd))[p]? = some (⟨some ⟨b29, 0, none⟩, d.ends.length + 1, d.ends.length + 1⟩ : Hd) := filZ_get hhl (by omega)
   rw [filZ_set hhl (by omega)] at hS30 hpg
   have hs30 := hS30.sl
   rw [filZ_len (by simp; omega)] at hs30
   refine o_nil ?_
   refine x_then (hK9 _ _ ?_)
   refine c_seq fun _ hK10 => ?_
   refine c_region ?_
   refine o_step rfl (s_assign rfl) ?_
   refine o_nil ?_
   refine x_then (hK10 _ _ ?_)
   refine c_block ?_
   refine c_loop2 (fun (q : Nat) (Sr : Hp) => q ≤ d.ends.length + 1 ∧ OwnS Ebo 1 4 (.slice (some ⟨b29, 0, none⟩) (d.ends.length + 1) (d.ends.length + 1)) (filZ false ((iniRow d p).take q) (d.ends.length + 1)) Sr) (fun (q : Nat) (Sr : Hp) => [(6, .int .i64 q)]) [(1, _), (2, _), (3, _), (4, _), (5, _), (20, _), (21, _), (22, _), (25, _), (26, _), (27, _), (28, _), (29, _), (30, _)] (fun (q : Nat) (Sr : Hp) => (b3, .cells [.int .i64 d.ends.length].toArray 3 (0, 0)) :: (b1, .cells [.slice aa d.atoms.length ac, .slice na rows.length nc, .slice ea d.ends.length ec].toArray 26 (0, 0)) :: (S30 ++ (SL ++ Sr))) (fun (q : Nat) (Sr : Hp) => d.ends.length + 1 - q) 0 S29 ⟨by omega, by rw [List.take_zero]; exact hS29⟩ sbA sbA hzB ?_
   rintro q Sr ⟨hq, hRw⟩
   have hsr := hRw.sl
   rw [filZ_len (by rw [List.length_take, iniRow_len]; omega)] at hsr
   refine c_seq fun _ hK11 => ?_
   refine c_seq fun _ hK12 => ?_
   refine c_region ?_
   refine o_step rfl (s_move rfl) ?_
   refine o_step rfl (s_ld rfl (.own meA rfl)) ?_
   by_cases hlt : q ≤ d.ends.length
   ·
    refine o_step rfl (step_cast (v' := .bool true) (s_leq rfl rfl) (congrArg Value.bool (decide_eq_true (by omega)))) ?_
    refine o_nil ?_
    refine x_then (hK12 _ _ ?_)
    refine c_true rfl ?_
    refine c_skip ?_
    refine x_then (hK11 _ _ ?_)
    refine c_seq fun _ hK13 => ?_
    refine c_block ?_
    refine c_drawE ((b3, .cells [.int .i64 d.ends.length].toArray 3 (0, 0)) :: (b1, .cells [.slice aa d.atoms.length ac, .slice na rows.length nc, .slice ea d.ends.length ec].toArray 26 (0, 0)) :: (S30 ++ Sr)) (fun i => Nat.beq i 27) ?_
    refine e_pure 0 rfl (by kernel_rfl) (by kernel_rfl) (by kernel_rfl) rfl (s_move rfl) ?_
    refine e_pure 1 rfl (by kernel_rfl) (by kernel_rfl) (by kernel_rfl) rfl (s_move rfl) ?_
    refine e_pure 2 rfl (by kernel_rfl) (by kernel_rfl) (by kernel_rfl) rfl (s_idx rfl rfl hs30 (by omega)) ?_
    refine e_take 3 rfl (by kernel_rfl) (by kernel_rfl) (by kernel_rfl) (by kernel_rfl) (fun _ _ => rfl) rfl hzB (step_cast (v' := .slice (some ⟨b29, 0, none⟩) (d.ends.length + 1) (d.ends.length + 1)) (s_ld rfl ((hS30.rdk hiA).ld p 0 hpg rfl (by decide) (by omega))) rfl) ?_
    refine e_pure 4 rfl (by kernel_rfl) (by kernel_rfl) (by kernel_rfl) rfl (s_move rfl) ?_
    refine e_pure 5 rfl (by kernel_rfl) (by kernel_rfl) (by kernel_rfl) rfl (s_move rfl) ?_
    refine e_take 6 rfl (by kernel_rfl) (by kernel_rfl) (by kernel_rfl) (by kernel_rfl) (fun _ _ => rfl) rfl hzB (s_ld rfl (.own meA rfl)) ?_
    by_cases hpe : p < d.ends.length
    ·
     obtain ⟨e, he⟩ : ∃ e, d.ends[p]? = some e := ⟨_, List.getElem?_eq_getElem (by omega)⟩
     have hep : endE d p = e := by unfold endE; rw [decide_eq_true (show p < d.ends.length by omega), he]; rfl
     refine e_pure 7 rfl (by kernel_rfl) (by kernel_rfl) (by kernel_rfl) rfl (step_cast (v' := .bool true) (s_lss rfl rfl) (congrArg Value.bool (decide_eq_true (by omega)))) ?_
     refine e_pure 8 rfl (by kernel_rfl) (by kernel_rfl) (by kernel_rfl) rfl (s_move rfl) ?_
     refine e_take 9 rfl (by kernel_rfl) (by kernel_rfl) (by kernel_rfl) (by kernel_rfl) (fun _ fr => by rw [wanted_of fr rfl rfl rfl]; rfl) rfl hzB (s_field rfl rfl (by decide)) ?_
     refine e_take 10 rfl (by kernel_rfl) (by kernel_rfl) (by kernel_rfl) (by kernel_rfl) (fun _ fr => by rw [wanted_of fr rfl rfl rfl]; rfl) rfl hzB (s_ld rfl (.own meA rfl)) ?_
     refine e_take 11 rfl (by kernel_rfl) (by kernel_rfl) (by kernel_rfl) (by kernel_rfl) (fun _ fr => by rw [wanted_of fr rfl rfl rfl]; rfl) rfl hzB (s_move rfl) ?_
     refine e_take 12 rfl (by kernel_rfl) (by kernel_rfl) (by kernel_rfl) (by kernel_rfl) (fun _ fr => by rw [wanted_of fr rfl rfl rfl]; rfl) rfl hzB (s_idx rfl rfl hse (by omega)) ?_
     refine e_take 13 rfl (by kernel_rfl) (by kernel_rfl) (by kernel_rfl) (by kernel_rfl) (fun _ fr => by rw [wanted_of fr rfl rfl rfl]; rfl) rfl hzB (s_ld rfl ((RdK.old0 hw.en).ld p 0 he rfl (by decide) (by omega))) ?_
     refine e_pure 14 rfl (by kernel_rfl) (by kernel_rfl) (by kernel_rfl) rfl (s_pick_t rfl rfl) ?_
     refine e_pure 15 rfl (by kernel_rfl) (by kernel_rfl) (by kernel_rfl) rfl (s_move rfl) ?_
     refine e_take 16 rfl (by kernel_rfl) (by kernel_rfl) (by kernel_rfl) (by kernel_rfl) (fun _ _ => rfl) rfl hzB (s_ld rfl (.own meA rfl)) ?_
     by_cases hqe : q < d.ends.length
     ·
      obtain ⟨f, hf⟩ : ∃ e, d.ends[q]? = some e := ⟨_, List.getElem?_eq_getElem (by omega)⟩
      have heq : endE d q = f := by unfold endE; rw [decide_eq_true (show q < d.ends.length by omega), hf]; rfl
      refine e_pure 17 rfl (by kernel_rfl) (by kernel_rfl) (by kernel_rfl) rfl (step_cast (v' := .bool true) (s_lss rfl rfl) (congrArg Value.bool (decide_eq_true (by omega)))) ?_
      refine e_pure 18 rfl (by kernel_rfl) (by kernel_rfl) (by kernel_rfl) rfl (s_move rfl) ?_
      refine e_take 19 rfl (by kernel_rfl) (by kernel_rfl) (by kernel_rfl) (by kernel_rfl) (fun _ fr => by rw [wanted_of fr rfl rfl rfl]; rfl) rfl hzB (s_field rfl rfl (by decide)) ?_
      refine e_take 20 rfl (by kernel_rfl) (by kernel_rfl) (by kernel_rfl) (by kernel_rfl) (fun _ fr => by rw [wanted_of fr rfl rfl rfl]; rfl) rfl hzB (s_ld rfl (.own meA rfl)) ?_
      refine e_take 21 rfl (by kernel_rfl) (by kernel_rfl) (by kernel_rfl) (by kernel_rfl) (fun _ fr => by rw [wanted_of fr rfl rfl rfl]; rfl) rfl hzB (s_move rfl) ?_
      refine e_take 22 rfl (by kernel_rfl) (by kernel_rfl) (by kernel_rfl) (by kernel_rfl) (fun _ fr => by rw [wanted_of fr rfl rfl rfl]; rfl) rfl hzB (s_idx rfl rfl hse (by omega)) ?_
      refine e_take 23 rfl (by kernel_rfl) (by kernel_rfl) (by kernel_rfl) (by kernel_rfl) (fun _ fr => by rw [wanted_of fr rfl rfl rfl]; rfl) rfl hzB (s_ld rfl ((RdK.old0 hw.en).ld q 0 hf rfl (by decide) (by omega))) ?_
      refine e_pure 24 rfl (by kernel_rfl) (by kernel_rfl) (by kernel_rfl) rfl (s_pick_t rfl rfl) ?_
      refine e_pure 25 rfl (by kernel_rfl) (by kernel_rfl) (by kernel_rfl) rfl (s_neq_bool rfl rfl) ?_
      refine e_pure 26 rfl (by kernel_rfl) (by kernel_rfl) (by kernel_rfl) rfl (s_idx rfl rfl hsr (by omega)) ?_
      refine e_one 27 rfl (by kernel_rfl) ?_
      refine o_stS1 q _ hRw pkA rfl rfl rfl (by rw [filZ_len (by rw [List.length_take, iniRow_len]; omega)]; omega) (by omega) fun S62 hS62 => ?_
      refine o_nil ?_
      refine x_oneL rfl ?_
      refine e_done (by kernel_rfl) ?_
      refine x_block ?_
      refine x_then (hK13 _ _ ?_)
      refine c_region ?_
      refine o_step rfl (s_move rfl) ?_
      refine o_step rfl (s_add rfl rfl (by omega)) ?_
      refine o_step rfl (s_assign rfl) ?_
      refine o_nil ?_
      exact x_then (x_inv (q + 1, S62) ⟨by omega, by rw [← iniRow_step (d := d) (p := p) (by omega) (by rw [hep, heq])]; exact hS62⟩ (by first | omega | (dsimp only; omega)) sbA hzB)
     ·
      have heq : endE d q = false := by unfold endE; rw [decide_eq_false (show ¬ q < d.ends.length by omega)]; rfl
      refine e_pure 17 rfl (by kernel_rfl) (by kernel_rfl) (by kernel_rfl) rfl (step_cast (v' := .bool false) (s_lss rfl rfl) (congrArg Value.bool (decide_eq_false (by omega)))) ?_
      refine e_pure 18 rfl (by kernel_rfl) (by kernel_rfl) (by kernel_rfl) rfl (s_move rfl) ?_
      refine e_skip 19 rfl (by kernel_rfl) (by kernel_rfl) (by kernel_rfl) rfl rfl rfl rfl ?_
      refine e_skip 20 rfl (by kernel_rfl) (by kernel_rfl) (by kernel_rfl) rfl rfl rfl rfl ?_
      refine e_skip 21 rfl (by kernel_rfl) (by kernel_rfl) (by kernel_rfl) rfl rfl rfl rfl ?_
      refine e_skip 22 rfl (by kernel_rfl) (by kernel_rfl) (by kernel_rfl) rfl rfl rfl rfl ?_
      refine e_skip 23 rfl (by kernel_rfl) (by kernel_rfl) (by kernel_rfl) rfl rfl rfl rfl ?_
      refine e_pure 24 rfl (by kernel_rfl) (by kernel_rfl) (by kernel_rfl) rfl (s_pick_f rfl rfl) ?_
      refine e_pure 25 rfl (by kernel_rfl) (by kernel_rfl) (by kernel_rfl) rfl (s_neq_bool rfl rfl) ?_
      refine e_pure 26 rfl (by kernel_rfl) (by kernel_rfl) (by kernel_rfl) rfl (s_idx rfl rfl hsr (by omega)) ?_
      refine e_one 27 rfl (by kernel_rfl) ?_
      refine o_stS1 q _ hRw pkA rfl rfl rfl (by rw [filZ_len (by rw [List.length_take, iniRow_len]; omega)]; omega) (by omega) fun S62 hS62 => ?_
      refine o_nil ?_
      refine x_oneL rfl ?_
      refine e_done (by kernel_rfl) ?_
      refine x_block ?_
      refine x_then (hK13 _ _ ?_)
      refine c_region ?_
      refine o_step rfl (s_move rfl) ?_
      refine o_step rfl (s_add rfl rfl (by omega)) ?_
      refine o_step rfl (s_assign rfl) ?_
      refine o_nil ?_
      exact x_then (x_inv (q + 1, S62) ⟨by omega, by rw [← iniRow_step (d := d) (p := p) (by omega) (by rw [hep, heq])]; exact hS62⟩ (by first | omega | (dsimp only; omega)) sbA hzB)
    ·
     have hep : endE d p = false := by unfold endE; rw [decide_eq_false (show ¬ p < d.ends.length by omega)]; rfl
     refine e_pure 7 rfl (by kernel_rfl) (by kernel_rfl) (by kernel_rfl) rfl (step_cast (v' := .bool false) (s_lss rfl rfl) (congrArg Value.bool (decide_eq_false (by omega)))) ?_
     refine e_pure 8 rfl (by kernel_rfl) (by kernel_rfl) (by kernel_rfl) rfl (s_move rfl) ?_
     refine e_skip 9 rfl (by kernel_rfl) (by kernel_rfl) (by kernel_rfl) rfl rfl rfl rfl ?_
     refine e_skip 10 rfl (by kernel_rfl) (by kernel_rfl) (by kernel_rfl) rfl rfl rfl rfl ?_
     refine e_skip 11 rfl (by kernel_rfl) (by kernel_rfl) (by kernel_rfl) rfl rfl rfl rfl ?_
     refine e_skip 12 rfl (by kernel_rfl) (by kernel_rfl) (by kernel_rfl) rfl rfl rfl rfl ?_
     refine e_skip 13 rfl (by kernel_rfl) (by kernel_rfl) (by kernel_rfl) rfl rfl rfl rfl ?_
     refine e_pure 14 rfl (by kernel_rfl) (by kernel_rfl) (by kernel_rfl) rfl (s_pick_f rfl rfl) ?_
     refine e_pure 15 rfl (by kernel_rfl) (by kernel_rfl) (by kernel_rfl) rfl (s_move rfl) ?_
     refine e_take 16 rfl (by kernel_rfl) (by kernel_rfl) (by kernel_rfl) (by kernel_rfl) (fun _ _ => rfl) rfl hzB (s_ld rfl (.own meA rfl)) ?_
     by_cases hqe : q < d.ends.length
     ·
      obtain ⟨f, hf⟩ : ∃ e, d.ends[q]? = some e := ⟨_, List.getElem?_eq_getElem (by omega)⟩
      have heq : endE d q = f := by unfold endE; rw [decide_eq_true (show q < d.ends.length by omega), hf]; rfl
      refine e_pure 17 rfl (by kernel_rfl) (by kernel_rfl) (by kernel_rfl) rfl (step_cast (v' := .bool true) (s_lss rfl rfl) (congrArg Value.bool (decide_eq_true (by omega)))) ?_
      refine e_pure 18 rfl (by kernel_rfl) (by kernel_rfl) (by kernel_rfl) rfl (s_move rfl) ?_
      refine e_take 19 rfl (by kernel_rfl) (by kernel_rfl) (by kernel_rfl) (by kernel_rfl) (fun _ fr => by rw [wanted_of fr rfl rfl rfl]; rfl) rfl hzB (s_field rfl rfl (by decide)) ?_
      refine e_take 20 rfl (by kernel_rfl) (by kernel_rfl) (by kernel_rfl) (by kernel_rfl) (fun _ fr => by rw [wanted_of fr rfl rfl rfl]; rfl) rfl hzB (s_ld rfl (.own meA rfl)) ?_
      refine e_take 21 rfl (by kernel_rfl) (by kernel_rfl) (by kernel_rfl) (by kernel_rfl) (fun _ fr => by rw [wanted_of fr rfl rfl rfl]; rfl) rfl hzB (s_move rfl) ?_
      refine e_take 22 rfl (by kernel_rfl) (by kernel_rfl) (by kernel_rfl) (by kernel_rfl) (fun _ fr => by rw [wanted_of fr rfl rfl rfl]; rfl) rfl hzB (s_idx rfl rfl hse (by omega)) ?_
      refine e_take 23 rfl (by kernel_rfl) (by kernel_rfl) (by kernel_rfl) (by kernel_rfl) (fun _ fr => by rw [wanted_of fr rfl rfl rfl]; rfl) rfl hzB (s_ld rfl ((RdK.old0 hw.en).ld q 0 hf rfl (by decide) (by omega))) ?_
      refine e_pure 24 rfl (by kernel_rfl) (by kernel_rfl) (by kernel_rfl) rfl (s_pick_t rfl rfl) ?_
      refine e_pure 25 rfl (by kernel_rfl) (by kernel_rfl) (by kernel_rfl) rfl (s_neq_bool rfl rfl) ?_
      refine e_pure 26 rfl (by kernel_rfl) (by kernel_rfl) (by kernel_rfl) rfl (s_idx rfl rfl hsr (by omega)) ?_
      refine e_one 27 rfl (by kernel_rfl) ?_
      refine o_stS1 q _ hRw pkA rfl rfl rfl (by rw [filZ_len (by rw [List.length_take, iniRow_len]; omega)]; omega) (by omega) fun S62 hS62 => ?_
      refine o_nil ?_
      refine x_oneL rfl ?_
      refine e_done (by kernel_rfl) ?_
      refine x_block ?_
      refine x_then (hK13 _ _ ?_)
      refine c_region ?_
      refine o_step rfl (s_move rfl) ?_
      refine o_step rfl (s_add rfl rfl (by omega)) ?_
      refine o_step rfl (s_assign rfl) ?_
      refine o_nil ?_
      exact x_then (x_inv (q + 1, S62) ⟨by omega, by rw [← iniRow_step (d := d) (p := p) (by omega) (by rw [hep, heq])]; exact hS62⟩ (by first | omega | (dsimp only; omega)) sbA hzB)
     ·
      have heq : endE d q = false := by unfold endE; rw [decide_eq_false (show ¬ q < d.ends.length by omega)]; rfl
      refine e_pure 17 rfl (by kernel_rfl) (by kernel_rfl) (by kernel_rfl) rfl (step_cast (v' := .bool false) (s_lss rfl rfl) (congrArg Value.bool (decide_eq_false (by omega)))) ?_
      refine e_pure 18 rfl (by kernel_rfl) (by kernel_rfl) (by kernel_rfl) rfl (s_move rfl) ?_
      refine e_skip 19 rfl (by kernel_rfl) (by kernel_rfl) (by kernel_rfl) rfl rfl rfl rfl ?_
      refine e_skip 20 rfl (by kernel_rfl) (by kernel_rfl) (by kernel_rfl) rfl rfl rfl rfl ?_
      refine e_skip 21 rfl (by kernel_rfl) (by kernel_rfl) (by kernel_rfl) rfl rfl rfl rfl ?_
      refine e_skip 22 rfl (by kernel_rfl) (by kernel_rfl) (by kernel_rfl) rfl rfl rfl rfl ?_
      refine e_skip 23 rfl (by kernel_rfl) (by kernel_rfl) (by kernel_rfl) rfl rfl rfl rfl ?_
      refine e_pure 24 rfl (by kernel_rfl) (by kernel_rfl) (by kernel_rfl) rfl (s_pick_f rfl rfl) ?_
      refine e_pure 25 rfl (by kernel_rfl) (by kernel_rfl) (by kernel_rfl) rfl (s_neq_bool rfl rfl) ?_
      refine e_pure 26 rfl (by kernel_rfl) (by kernel_rfl) (by kernel_rfl) rfl (s_idx rfl rfl hsr (by omega)) ?_
      refine e_one 27 rfl (by kernel_rfl) ?_
      refine o_stS1 q _ hRw pkA rfl rfl rfl (by rw [filZ_len (by rw [List.length_take, iniRow_len]; omega)]; omega) (by omega) fun S62 hS62 => ?_
      refine o_nil ?_
      refine x_oneL rfl ?_
      refine e_done (by kernel_rfl) ?_
      refine x_block ?_
      refine x_then (hK13 _ _ ?_)
      refine c_region ?_
      refine o_step rfl (s_move rfl) ?_
      refine o_step rfl (s_add rfl rfl (by omega)) ?_
      refine o_step rfl (s_assign rfl) ?_
      refine o_nil ?_
      exact x_then (x_inv (q + 1, S62) ⟨by omega, by rw [← iniRow_step (d := d) (p := p) (by omega) (by rw [hep, heq])]; exact hS62⟩ (by first | omega | (dsimp only; omega)) sbA hzB)
   ·
    obtain rfl : q = d.ends.length + 1 := by omega
    rw [List.take_of_length_le (by rw [iniRow_len]; omega), filZ_full (iniRow_len d p)] at hRw
    refine o_step rfl (step_cast (v' := .bool false) (s_leq rfl rfl) (congrArg Value.bool (decide_eq_false (by omega)))) ?_
    refine o_nil ?_
    refine x_then (hK12 _ _ ?_)
    refine c_false rfl ?_
    refine c_exit ?_
    refine x_then_exit ?_
    refine x_then_exit ?_
    refine x_block_exit ?_
    refine x_block ?_
    refine x_then (hK8 _ _ ?_)
    refine c_region ?_
    refine o_step rfl (s_move rfl) ?_
    refine o_step rfl (s_add rfl rfl (by omega)) ?_
    refine o_step rfl (s_assign rfl) ?_
    refine o_nil ?_
    exact x_then (x_inv (p + 1, heads ++ [(⟨some ⟨b29, 0, none⟩, d.ends.length + 1, d.ends.length + 1⟩ : Hd)], S30, SL ++ Sr) ⟨by omega, by simp [hhl], hS30, by rw [iniT_succ]; exact hH.snoc (h := (⟨some ⟨b29, 0, none⟩, d.ends.length + 1, d.ends.length + 1⟩ : Hd)) hRw⟩ (by first | omega | (dsimp only; omega)) sbA hzB)
  ·
   obtain rfl : p = d.ends.length + 1 := by omega
   rw [filZ_full (by omega)] at hB
   refine o_step rfl (step_cast (v' := .bool false) (s_leq rfl rfl) (congrArg Value.bool (decide_eq_false (by omega)))) ?_
   refine o_nil ?_
   refine x_then (hK7 _ _ ?_)
   refine c_false rfl ?_
   refine c_exit ?_
   refine x_then_exit ?_
   refine x_then_exit ?_
   refine x_block_exit ?_
   refine x_then (hK4 _ _ ?_)
   refine c_seq fun _ hK14 => ?_
   have hsbf := hB.sl
   have hhlU := hH.len
   rw [(iniT_mat d).1.len] at hhlU
   rw [show heads.length = d.ends.length + 1 by omega] at hsbf
   refine c_region ?_
   refine o_step rfl (s_func (us := []) (vs := [_, _]) rfl rfl) ?_
   refine o_step rfl (s_assign rfl) ?_
   refine o_nil ?_
   refine x_then (hK14 _ _ ?_)
   refine c_seq fun _ hK15 => ?_
   refine c_seq fun _ hK16 => ?_
   refine c_region ?_
   refine o_step rfl (s_assign rfl) ?_
   refine o_nil ?_
   refine x_then (hK16 _ _ ?_)
   refine c_block ?_
   refine c_loop3 (fun (more : Bool) (U : List (List Bool)) (SL : Hp) => MatI d U ∧ IniU d U ∧ (more = false → ClU d U) ∧ OwnH heads U SL) (fun (more : Bool) (U : List (List Bool)) (SL : Hp) => [(8, .bool more)]) [(1, _), (2, _), (3, _), (4, _), (7, _)] (fun (more : Bool) (U : List (List Bool)) (SL : Hp) => (b3, .cells [.int .i64 d.ends.length].toArray 3 (0, 0)) :: (b1, .cells [.slice aa d.atoms.length ac, .slice na rows.length nc, .slice ea d.ends.length ec].toArray 26 (0, 0)) :: (SB ++ SL)) (fun (more : Bool) (U : List (List Bool)) (SL : Hp) => deadU U + (if more then 1 else 0)) true _ SL ⟨(iniT_mat d).1, (iniT_mat d).2, fun h => (by cases h), hH⟩ sbA sbA hzB ?_
   rintro more U0 SL ⟨hM, hI, hC, hH⟩
   refine c_seq fun _ hK17 => ?_
   refine c_seq fun _ hK18 => ?_
   refine c_region ?_
   refine o_step rfl (s_move rfl) ?_
   refine o_nil ?_
   refine x_then (hK18 _ _ ?_)
   refine c_cond rfl (fun hmo => ?_) (fun hmo => ?_)
   ·
    subst hmo
    refine c_skip ?_
    refine x_then (hK17 _ _ ?_)
    refine c_block ?_
    refine c_seq fun _ hK19 => ?_
    refine c_region ?_
    refine o_step rfl (s_assign rfl) ?_
    refine o_nil ?_
    refine x_then (hK19 _ _ ?_)
    refine c_seq fun _ hK20 => ?_
    refine c_region ?_
    refine o_step rfl (s_assign rfl) ?_
    refine o_nil ?_
    refine x_then (hK20 _ _ ?_)
    refine c_block ?_
    refine c_loop4 (fun (p : Nat) (more : Bool) (U : List (List Bool)) (SL : Hp) => p ≤ d.ends.length + 1 ∧ SwI d U0 U more p 0 0 ∧ IniU d U ∧ OwnH heads U SL) (fun (p : Nat) (more : Bool) (U : List (List Bool)) (SL : Hp) => [(9, .int .i64 p), (8, .bool more)]) [(1, _), (2, _), (3, _), (4, _), (7, _), (64, _)] (fun (p : Nat) (more : Bool) (U : List (List Bool)) (SL : Hp) => (b3, .cells [.int .i64 d.ends.length].toArray 3 (0, 0)) :: (b1, .cells [.slice aa d.atoms.length ac, .slice na rows.length nc, .slice ea d.ends.length ec].toArray 26 (0, 0)) :: (SB ++ SL)) (fun (p : Nat) (more : Bool) (U : List (List Bool)) (SL : Hp) => d.ends.length + 1 - p) 0 false U0 SL ⟨by omega, SwI.zero hM, hI, hH⟩ sbA sbA hzB ?_
    rintro p more U SL ⟨hp, hsw, hI, hH⟩
    refine c_seq fun _ hK21 => ?_
    refine c_seq fun _ hK22 => ?_
    refine c_region ?_
    refine o_step rfl (s_move rfl) ?_
    refine o_step rfl (s_ld rfl (.own meA rfl)) ?_
    by_cases hlt : p ≤ d.ends.length
    ·
     refine o_step rfl (step_cast (v' := .bool true) (s_leq rfl rfl) (congrArg Value.bool (decide_eq_true (by omega)))) ?_
     refine o_nil ?_
     refine x_then (hK22 _ _ ?_)
     refine c_true rfl ?_
     refine c_skip ?_
     refine x_then (hK21 _ _ ?_)
     refine c_seq fun _ hK23 => ?_
     refine c_block ?_
     refine c_seq fun _ hK24 => ?_
     refine c_region ?_
     refine o_step rfl (s_assign rfl) ?_
     refine o_nil ?_
     refine x_then (hK24 _ _ ?_)
     refine c_block ?_
     refine c_loop4 (fun (q : Nat) (more : Bool) (U : List (List Bool)) (SL : Hp) => q ≤ d.ends.length + 1 ∧ SwI d U0 U more p q 0 ∧ IniU d U ∧ OwnH heads U SL) (fun (q : Nat) (more : Bool) (U : List (List Bool)) (SL : Hp) => [(10, .int .i64 q), (8, .bool more)]) [(1, _), (2, _), (3, _), (4, _), (7, _), (9, _), (64, _), (65, _), (66, _), (67, _)] (fun (q : Nat) (more : Bool) (U : List (List Bool)) (SL : Hp) => (b3, .cells [.int .i64 d.ends.length].toArray 3 (0, 0)) :: (b1, .cells [.slice aa d.atoms.length ac, .slice na rows.length nc, .slice ea d.ends.length ec].toArray 26 (0, 0)) :: (SB ++ SL)) (fun (q : Nat) (more : Bool) (U : List (List Bool)) (SL : Hp) => d.ends.length + 1 - q) 0 more U SL ⟨by omega, hsw, hI, hH⟩ sbA sbA hzB ?_
     rintro q more U SL ⟨hq, hsw, hI, hH⟩
     refine c_seq fun _ hK25 => ?_
     refine c_seq fun _ hK26 => ?_
     refine c_region ?_
     refine o_step rfl (s_move rfl) ?_
     refine o_step rfl (s_ld rfl (.own meA rfl)) ?_
     by_cases hlt : q ≤ d.ends.length
     ·
      refine o_step rfl (step_cast (v' := .bool true) (s_leq rfl rfl) (congrArg Value.bool (decide_eq_true (by omega)))) ?_
      refine o_nil ?_
      refine x_then (hK26 _ _ ?_)
      refine c_true rfl ?_
      refine c_skip ?_
      refine x_then (hK25 _ _ ?_)
      refine c_seq fun _ hK27 => ?_
      refine c_block ?_
      refine c_seq fun _ hK28 => ?_
      refine c_region ?_
      refine o_step rfl (s_assign rfl) ?_
      refine o_nil ?_
      refine x_then (hK28 _ _ ?_)
      refine c_block ?_
      refine c_loop4 (fun (k : Nat) (more : Bool) (U : List (List Bool)) (SL : Hp) => k ≤ d.atoms.length ∧ SwI d U0 U more p q k ∧ IniU d U ∧ OwnH heads U SL) (fun (k : Nat) (more : Bool) (U : List (List Bool)) (SL : Hp) => [(11, .int .i64 k), (8, .bool more)]) [(1, _), (2, _), (3, _), (4, _), (7, _), (9, _), (10, _), (64, _), (65, _), (66, _), (67, _), (70, _), (71, _), (72, _)] (fun (k : Nat) (more : Bool) (U : List (List Bool)) (SL : Hp) => (b3, .cells [.int .i64 d.ends.length].toArray 3 (0, 0)) :: (b1, .cells [.slice aa d.atoms.length ac, .slice na rows.length nc, .slice ea d.ends.length ec].toArray 26 (0, 0)) :: (SB ++ SL)) (fun (k : Nat) (more : Bool) (U : List (List Bool)) (SL : Hp) => d.atoms.length - k) 0 more U SL ⟨by omega, hsw, hI, hH⟩ sbA sbA hzB ?_
      rintro k more U SL ⟨hk, hsw, hI, hH⟩
      have hM := hsw.mat
      obtain ⟨rp, hrp, hrpl, hrq⟩ := hM.get (p := p) (q := q) (by omega) (by omega)
      obtain ⟨hp_, hhp⟩ : ∃ h, heads[p]? = some h := ⟨_, List.getElem?_eq_getElem (by omega)⟩
      obtain ⟨hslp, hslpn⟩ := hH.sl hhp hrp
      have hul : U.length = d.ends.length + 1 := hM.len
      refine c_seq fun _ hK29 => ?_
      refine c_seq fun _ hK30 => ?_
      refine c_region ?_
      refine o_step rfl (s_move rfl) ?_
      refine o_step rfl (s_field rfl rfl (by decide)) ?_
      refine o_step rfl (s_ld rfl (.own meA rfl)) ?_
      refine o_step rfl (s_len rfl) ?_
      by_cases hlt : k < d.atoms.length
      ·
       refine o_step rfl (step_cast (v' := .bool true) (s_lss rfl rfl) (congrArg Value.bool (decide_eq_true (by omega)))) ?_
       refine o_step rfl (s_move rfl) ?_
       refine o_yes rfl rfl ?_
       refine o_step rfl (s_move rfl) ?_
       refine o_yes rfl rfl ?_
       refine o_step rfl (s_move rfl) ?_
       refine o_yes rfl rfl ?_
       refine o_step rfl (s_idx rfl rfl hsbf (by omega)) ?_
       refine o_yes rfl rfl ?_
       refine o_step rfl (s_ld rfl ((hB.rdk hiA).ld p 0 hhp rfl (by decide) (by omega))) ?_
       refine o_yes rfl rfl ?_
       refine o_step rfl (s_move rfl) ?_
       refine o_yes rfl rfl ?_
       refine o_step rfl (s_idx rfl rfl hslp (by omega)) ?_
       refine o_yes rfl rfl ?_
       by_cases hpq : uG U p q = true
       ·
        refine o_step rfl (step_cast (v' := .bool true) (s_ld rfl ((hH.rdk hiA hhp hrp).ld q 0 hrq rfl (by decide) (by simp only [Hd.v]; omega))) (by rw [hpq])) ?_
        refine o_yes rfl rfl ?_
        refine o_step rfl (s_not rfl) ?_
        refine o_step rfl (s_pick_t rfl rfl) ?_
        refine o_nil ?_
        refine x_then (hK30 _ _ ?_)
        refine c_false rfl ?_
        refine c_exit ?_
        refine x_then_exit ?_
        refine x_then_exit ?_
        refine x_block_exit ?_
        refine x_block ?_
        refine x_then (hK27 _ _ ?_)
        refine c_region ?_
        refine o_step rfl (s_move rfl) ?_
        refine o_step rfl (s_add rfl rfl (by omega)) ?_
        refine o_step rfl (s_assign rfl) ?_
        refine o_nil ?_
        exact x_then (x_inv (q + 1, more, U, SL) ⟨by omega, hsw.col (by first | (exact .inr hpq) | (exact .inl (by omega))), hI, hH⟩ (by first | omega | (dsimp only; omega)) sbA hzB)
       ·
        rw [Bool.not_eq_true] at hpq
        have hfq := hrq
        rw [hpq] at hfq
        have hga := goE_le hS (p := p) (k := k) (by omega) (by omega)
        have hgb := goE_le hS (p := q) (k := k) (by omega) (by omega)
        obtain ⟨ra_, hra, hral, hrb⟩ := hM.get hga hgb
        obtain ⟨ha_, hha⟩ : ∃ h, heads[goE d p k]? = some h := ⟨_, List.getElem?_eq_getElem (by omega)⟩
        obtain ⟨hsla, hslan⟩ := hH.sl hha hra
        refine o_step rfl (step_cast (v' := .bool false) (s_ld rfl ((hH.rdk hiA hhp hrp).ld q 0 hrq rfl (by decide) (by simp only [Hd.v]; omega))) (by rw [hpq])) ?_
        refine o_yes rfl rfl ?_
        refine o_step rfl (s_not rfl) ?_
        refine o_step rfl (s_pick_t rfl rfl) ?_
        refine o_nil ?_
        refine x_then (hK30 _ _ ?_)
        refine c_true rfl ?_
        refine c_skip ?_
        refine x_then (hK29 _ _ ?_)
        refine c_seq fun _ hK31 => ?_
        refine c_block ?_
        refine c_seq fun _ hK32 => ?_
        refine c_drawE ((b3, .cells [.int .i64 d.ends.length].toArray 3 (0, 0)) :: (b1, .cells [.slice aa d.atoms.length ac, .slice na rows.length nc, .slice ea d.ends.length ec].toArray 26 (0, 0)) :: (SB ++ SL)) (fun i => false) ?_
        refine e_pure 0 rfl (by kernel_rfl) (by kernel_rfl) (by kernel_rfl) rfl (s_move rfl) ?_
        refine e_pure 1 rfl (by kernel_rfl) (by kernel_rfl) (by kernel_rfl) rfl (s_move rfl) ?_
        refine e_pure 2 rfl (by kernel_rfl) (by kernel_rfl) (by kernel_rfl) rfl (s_move rfl) ?_
        refine e_pure 3 rfl (by kernel_rfl) (by kernel_rfl) (by kernel_rfl) rfl (s_move rfl) ?_
        refine e_pure 7 rfl (by kernel_rfl) (by kernel_rfl) (by kernel_rfl) rfl (s_move rfl) ?_
        refine e_pure 8 rfl (by kernel_rfl) (by kernel_rfl) (by kernel_rfl) rfl (s_move rfl) ?_
        refine e_pure 9 rfl (by kernel_rfl) (by kernel_rfl) (by kernel_rfl) rfl (s_move rfl) ?_
        refine e_one 4 rfl (by kernel_rfl) ?_
        refine o_callC (us := []) (vs := [_, _]) (cs := [.pointer (some ⟨b3, 0, none⟩), .pointer (some ⟨b1, 0, none⟩)]) (goA_fn d aa ac na nc rows ea ec hx hS b3 b1 p k (by omega) (by omega)) rfl rfl rfl ((Pick.takeC pkA pkA)) (fun w st => ⟨hw.old st, St.apart_old st (by exact hiB) hw.nx (by decide), fun s hs => St.apart_old (a := s.a) (c := s.c) st (by exact hiB) (hw.rw_ s hs) (by decide)⟩) (fun v96 S96 ⟨hv96, hS96⟩ => ?_)
        subst hv96
        subst hS96
        refine o_nil ?_
        refine x_oneS hzB ?_
        refine e_pure 5 rfl (by kernel_rfl) (by kernel_rfl) (by kernel_rfl) rfl (s_idx rfl rfl hsbf (by omega)) ?_
        refine e_take 6 rfl (by kernel_rfl) (by kernel_rfl) (by kernel_rfl) (by kernel_rfl) (fun _ _ => rfl) rfl hzB (s_ld rfl ((hB.rdk hiA).ld (goE d p k) 0 hha rfl (by decide) (by omega))) ?_
        refine e_one 10 rfl (by kernel_rfl) ?_
        refine o_callC (us := []) (vs := [_, _]) (cs := [.pointer (some ⟨b3, 0, none⟩), .pointer (some ⟨b1, 0, none⟩)]) (goA_fn d aa ac na nc rows ea ec hx hS b3 b1 q k (by omega) (by omega)) rfl rfl rfl ((Pick.takeC pkA pkA)) (fun w st => ⟨hw.old st, St.apart_old st (by exact hiB) hw.nx (by decide), fun s hs => St.apart_old (a := s.a) (c := s.c) st (by exact hiB) (hw.rw_ s hs) (by decide)⟩) (fun v102 S102 ⟨hv102, hS102⟩ => ?_)
        subst hv102
        subst hS102
        refine o_nil ?_
        refine x_oneS hzB ?_
        refine e_pure 11 rfl (by kernel_rfl) (by kernel_rfl) (by kernel_rfl) rfl (s_idx rfl rfl hsla (by omega)) ?_
        by_cases hab : uG U (goE d p k) (goE d q k) = true
        ·
         have hI0 := hI
         obtain ⟨xs, S1, Sn, S2, hx1, rfl, hO1, hput⟩ := hH.at hhp
         rw [hrp] at hx1
         obtain rfl := Option.some.inj hx1
         refine e_take 12 rfl (by kernel_rfl) (by kernel_rfl) (by kernel_rfl) (by kernel_rfl) (fun _ _ => rfl) rfl hzB (step_cast (v' := .bool true) (s_ld rfl ((hH.rdk hiA hha hra).ld (goE d q k) 0 hrb rfl (by decide) (by simp only [Hd.v]; omega))) (by rw [hab])) ?_
         refine e_done (by kernel_rfl) ?_
         refine x_then (hK32 _ _ ?_)
         refine c_true rfl ?_
         refine c_seq fun _ hK33 => ?_
         refine c_region ?_
         refine o_step rfl (s_move rfl) ?_
         refine o_step rfl (s_move rfl) ?_
         refine o_step rfl (s_idx rfl rfl hsbf (by omega)) ?_
         refine o_step rfl (s_ld rfl ((hB.rdk hiA).ld p 0 hhp rfl (by decide) (by omega))) ?_
         refine o_step rfl (s_move rfl) ?_
         refine o_step rfl (s_idx rfl rfl hslp (by omega)) ?_
         refine o_stS1 q true hO1 pkA rfl rfl rfl (by omega) (by simp only [Hd.v]; omega) fun S110 hS110 => ?_
         refine o_nil ?_
         refine x_then (hK33 _ _ ?_)
         refine c_region ?_
         refine o_step rfl (s_assign rfl) ?_
         refine o_nil ?_
         refine x_block ?_
         refine x_then (hK31 _ _ ?_)
         refine c_region ?_
         refine o_step rfl (s_move rfl) ?_
         refine o_step rfl (s_add rfl rfl (by omega)) ?_
         refine o_step rfl (s_assign rfl) ?_
         refine o_nil ?_
         exact x_then (x_inv (k + 1, true, _, S1 ++ (S110 ++ S2)) ⟨by omega, hsw.yes (by omega) hrp hfq, fun p1 q1 h1 h2 h3 => (by rw [uG_set hM hrp (by omega), hI p1 q1 h1 h2 h3, Bool.or_true]), hput _ _ hS110⟩ (by first | omega | (dsimp only; omega)) sbA hzB)
        ·
         rw [Bool.not_eq_true] at hab
         refine e_take 12 rfl (by kernel_rfl) (by kernel_rfl) (by kernel_rfl) (by kernel_rfl) (fun _ _ => rfl) rfl hzB (step_cast (v' := .bool false) (s_ld rfl ((hH.rdk hiA hha hra).ld (goE d q k) 0 hrb rfl (by decide) (by simp only [Hd.v]; omega))) (by rw [hab])) ?_
         refine e_done (by kernel_rfl) ?_
         refine x_then (hK32 _ _ ?_)
         refine c_false rfl ?_
         refine c_skip ?_
         refine x_block ?_
         refine x_then (hK31 _ _ ?_)
         refine c_region ?_
         refine o_step rfl (s_move rfl) ?_
         refine o_step rfl (s_add rfl rfl (by omega)) ?_
         refine o_step rfl (s_assign rfl) ?_
         refine o_nil ?_
         exact x_then (x_inv (k + 1, more, U, SL) ⟨by omega, hsw.no hab, hI, hH⟩ (by first | omega | (dsimp only; omega)) sbA hzB)
      ·
       refine o_step rfl (step_cast (v' := .bool false) (s_lss rfl rfl) (congrArg Value.bool (decide_eq_false (by omega)))) ?_
       refine o_step rfl (s_move rfl) ?_
       refine o_no rfl rfl rfl rfl ?_
       refine o_no rfl rfl rfl rfl ?_
       refine o_no rfl rfl rfl rfl ?_
       refine o_no rfl rfl rfl rfl ?_
       refine o_no rfl rfl rfl rfl ?_
       refine o_no rfl rfl rfl rfl ?_
       refine o_no rfl rfl rfl rfl ?_
       refine o_no rfl rfl rfl rfl ?_
       refine o_step rfl (s_pick_f rfl rfl) ?_
       refine o_nil ?_
       refine x_then (hK30 _ _ ?_)
       refine c_false rfl ?_
       refine c_exit ?_
       refine x_then_exit ?_
       refine x_then_exit ?_
       refine x_block_exit ?_
       refine x_block ?_
       refine x_then (hK27 _ _ ?_)
       refine c_region ?_
       refine o_step rfl (s_move rfl) ?_
       refine o_step rfl (s_add rfl rfl (by omega)) ?_
       refine o_step rfl (s_assign rfl) ?_
       refine o_nil ?_
       exact x_then (x_inv (q + 1, more, U, SL) ⟨by omega, hsw.col (by first | (exact .inr hpq) | (exact .inl (by omega))), hI, hH⟩ (by first | omega | (dsimp only; omega)) sbA hzB)
     ·
      obtain rfl : q = d.ends.length + 1 := by omega
      refine o_step rfl (step_cast (v' := .bool false) (s_leq rfl rfl) (congrArg Value.bool (decide_eq_false (by omega)))) ?_
      refine o_nil ?_
      refine x_then (hK26 _ _ ?_)
      refine c_false rfl ?_
      refine c_exit ?_
      refine x_then_exit ?_
      refine x_then_exit ?_
      refine x_block_exit ?_
      refine x_block ?_
      refine x_then (hK23 _ _ ?_)
      refine c_region ?_
      refine o_step rfl (s_move rfl) ?_
      refine o_step rfl (s_add rfl rfl (by omega)) ?_
      refine o_step rfl (s_assign rfl) ?_
      refine o_nil ?_
      exact x_then (x_inv (p + 1, more, U, SL) ⟨by omega, hsw.row (by omega), hI, hH⟩ (by first | omega | (dsimp only; omega)) sbA hzB)
    ·
     refine o_step rfl (step_cast (v' := .bool false) (s_leq rfl rfl) (congrArg Value.bool (decide_eq_false (by omega)))) ?_
     refine o_nil ?_
     refine x_then (hK22 _ _ ?_)
     refine c_false rfl ?_
     refine c_exit ?_
     refine x_then_exit ?_
     refine x_then_exit ?_
     refine x_block_exit ?_
     refine x_block ?_
     exact x_then (x_inv (more, U, SL) ⟨hsw.mat, hI, fun h => (by subst h; exact hsw.closed (by omega)), hH⟩ (by dsimp only; cases more with | true => (have := hsw.some rfl; simp; omega) | false => (have := (hsw.none rfl).1; simp [this])) sbA hzB)
   ·
    subst hmo
    have hCl := hC rfl
    have hhl2 := hH.len
    have hall : ∀ p q, p < d.ends.length → q < d.ends.length → p ≠ q → uG U0 p q = true := fun p q hp hq hpq => by obtain ⟨t, ht, ha⟩ := hD p q hp hq hpq; exact closed_apart hS hCl hI t p q (by omega) (by omega) ht (by unfold qI; rw [if_neg (by omega), if_neg (by omega)]; exact ha)
    have hdn : 1 < d.ends.length → ∀ p, p < d.ends.length → uG U0 p d.ends.length = true := fun h1 p hp => by obtain ⟨t, ht, ha⟩ := hL h1 p hp; exact closed_apart hS hCl hI t p d.ends.length (by omega) (by omega) ht (by unfold qI; rw [if_neg (by omega), if_pos rfl, ha, accD_neg d t (by decide)]; decide)
    obtain ⟨U, hU0⟩ : ∃ U, U = U0 := ⟨_, rfl⟩
    subst hU0
    refine c_exit ?_
    refine x_then_exit ?_
    refine x_then_exit ?_
    refine x_block_exit ?_
    refine x_then (hK15 _ _ ?_)
    refine c_seq fun _ hK34 => ?_
    refine c_seq fun _ hK35 => ?_
    refine c_region ?_
    refine o_step rfl (s_assign rfl) ?_
    refine o_nil ?_
    refine x_then (hK35 _ _ ?_)
    refine c_block ?_
    -- not carried: 2
    refine c_loopB (fun (p : Nat) => p ≤ d.ends.length) (fun (p : Nat) => [(12, .int .i64 p)]) [(3, _), (4, _)] (fun (p : Nat) => (b3, .cells [.int .i64 d.ends.length].toArray 3 (0, 0)) :: (b1, .cells [.slice aa d.atoms.length ac, .slice na rows.length nc, .slice ea d.ends.length ec].toArray 26 (0, 0)) :: (SB ++ SL)) (fun (p : Nat) => d.ends.length - p) 0 (by omega) sbA sbA hzB ?_
    rintro p hp
    refine c_seq fun _ hK36 => ?_
    refine c_seq fun _ hK37 => ?_
    refine c_region ?_
    refine o_step rfl (s_move rfl) ?_
    refine o_step rfl (s_ld rfl (.own meA rfl)) ?_
    by_cases hlt : p < d.ends.length
    ·
     obtain ⟨rp, hrp, hrpl, hrn⟩ := hM.get (p := p) (q := d.ends.length) (by omega) (by omega)
     obtain ⟨hp_, hhp⟩ : ∃ h, heads[p]? = some h := ⟨_, List.getElem?_eq_getElem (by have := hM.len; omega)⟩
     obtain ⟨hslp, hslpn⟩ := hH.sl hhp hrp
     refine o_step rfl (step_cast (v' := .bool true) (s_lss rfl rfl) (congrArg Value.bool (decide_eq_true (by omega)))) ?_
     refine o_nil ?_
     refine x_then (hK37 _ _ ?_)
     refine c_true rfl ?_
     refine c_skip ?_
     refine x_then (hK36 _ _ ?_)
     refine c_seq fun _ hK38 => ?_
     refine c_block ?_
     refine c_seq fun _ hK39 => ?_
     refine c_seq fun _ hK40 => ?_
     refine c_region ?_
     refine o_step rfl (s_assign rfl) ?_
     refine o_nil ?_
     refine x_then (hK40 _ _ ?_)
     refine c_block ?_
     refine c_loopB (fun (q : Nat) => q ≤ p) (fun (q : Nat) => [(13, .int .i64 q)]) [(3, _), (4, _), (12, _), (111, _), (112, _), (113, _)] (fun (q : Nat) => (b3, .cells [.int .i64 d.ends.length].toArray 3 (0, 0)) :: (b1, .cells [.slice aa d.atoms.length ac, .slice na rows.length nc, .slice ea d.ends.length ec].toArray 26 (0, 0)) :: (SB ++ SL)) (fun (q : Nat) => p - q) 0 (by omega) sbA sbA hzB ?_
     rintro q hq
     refine c_seq fun _ hK41 => ?_
     refine c_seq fun _ hK42 => ?_
     refine c_region ?_
     refine o_step rfl (s_move rfl) ?_
     refine o_step rfl (s_move rfl) ?_
     by_cases hlt : q < p
     ·
      have hrq := (hM.get (p := p) (q := q) (by omega) (by omega)).choose_spec
      obtain ⟨rp2, hrp2, _, hrq⟩ := hM.get (p := p) (q := q) (by omega) (by omega)
      rw [hrp] at hrp2
      obtain rfl := Option.some.inj hrp2
      rw [hall p q (by omega) (by omega) (by omega)] at hrq
      refine o_step rfl (step_cast (v' := .bool true) (s_lss rfl rfl) (congrArg Value.bool (decide_eq_true (by omega)))) ?_
      refine o_nil ?_
      refine x_then (hK42 _ _ ?_)
      refine c_true rfl ?_
      refine c_skip ?_
      refine x_then (hK41 _ _ ?_)
      refine c_seq fun _ hK43 => ?_
      refine c_block ?_
      refine c_seq fun _ hK44 => ?_
      refine c_region ?_
      refine o_step rfl (s_move rfl) ?_
      refine o_step rfl (s_move rfl) ?_
      refine o_step rfl (s_idx rfl rfl hsbf (by omega)) ?_
      refine o_step rfl (s_ld rfl ((hB.rdk hiA).ld p 0 hhp rfl (by decide) (by omega))) ?_
      refine o_step rfl (s_move rfl) ?_
      refine o_step rfl (s_idx rfl rfl hslp (by omega)) ?_
      refine o_step rfl (s_ld rfl ((hH.rdk hiA hhp hrp).ld q 0 hrq rfl (by decide) (by simp only [Hd.v]; omega))) ?_
      refine o_step rfl (s_not rfl) ?_
      refine o_nil ?_
      refine x_then (hK44 _ _ ?_)
      refine c_false rfl ?_
      refine c_skip ?_
      refine x_block ?_
      refine x_then (hK43 _ _ ?_)
      refine c_region ?_
      refine o_step rfl (s_move rfl) ?_
      refine o_step rfl (s_add rfl rfl (by omega)) ?_
      refine o_step rfl (s_assign rfl) ?_
      refine o_nil ?_
      exact x_then (x_inv (q + 1) (by omega) (by first | omega | (dsimp only; omega)) sbA hzB)
     ·
      refine o_step rfl (step_cast (v' := .bool false) (s_lss rfl rfl) (congrArg Value.bool (decide_eq_false (by omega)))) ?_
      refine o_nil ?_
      refine x_then (hK42 _ _ ?_)
      refine c_false rfl ?_
      refine c_exit ?_
      refine x_then_exit ?_
      refine x_then_exit ?_
      refine x_block_exit ?_
      refine x_then (hK39 _ _ ?_)
      refine c_seq fun _ hK45 => ?_
      refine c_drawE ((b3, .cells [.int .i64 d.ends.length].toArray 3 (0, 0)) :: (b1, .cells [.slice aa d.atoms.length ac, .slice na rows.length nc, .slice ea d.ends.length ec].toArray 26 (0, 0)) :: (SB ++ SL)) (fun i => false) ?_
      refine e_pure 0 rfl (by kernel_rfl) (by kernel_rfl) (by kernel_rfl) rfl (s_move rfl) ?_
      refine e_pure 1 rfl (by kernel_rfl) (by kernel_rfl) (by kernel_rfl) rfl (s_move rfl) ?_
      refine e_pure 2 rfl (by kernel_rfl) (by kernel_rfl) (by kernel_rfl) rfl (s_idx rfl rfl hsbf (by omega)) ?_
      refine e_take 3 rfl (by kernel_rfl) (by kernel_rfl) (by kernel_rfl) (by kernel_rfl) (fun _ _ => rfl) rfl hzB (s_ld rfl ((hB.rdk hiA).ld p 0 hhp rfl (by decide) (by omega))) ?_
      refine e_take 4 rfl (by kernel_rfl) (by kernel_rfl) (by kernel_rfl) (by kernel_rfl) (fun _ _ => rfl) rfl hzB (s_ld rfl (.own meA rfl)) ?_
      refine e_pure 5 rfl (by kernel_rfl) (by kernel_rfl) (by kernel_rfl) rfl (s_idx rfl rfl hslp (by omega)) ?_
      by_cases hpn : uG U p d.ends.length = true
      ·
       refine e_take 6 rfl (by kernel_rfl) (by kernel_rfl) (by kernel_rfl) (by kernel_rfl) (fun _ _ => rfl) rfl hzB (step_cast (v' := .bool true) (s_ld rfl ((hH.rdk hiA hhp hrp).ld d.ends.length 0 hrn rfl (by decide) (by simp only [Hd.v]; omega))) (by rw [hpn])) ?_
       refine e_pure 7 rfl (by kernel_rfl) (by kernel_rfl) (by kernel_rfl) rfl (s_not rfl) ?_
       refine e_pure 8 rfl (by kernel_rfl) (by kernel_rfl) (by kernel_rfl) rfl (s_move rfl) ?_
       refine e_skip 9 rfl (by kernel_rfl) (by kernel_rfl) (by kernel_rfl) rfl rfl rfl rfl ?_
       refine e_skip 10 rfl (by kernel_rfl) (by kernel_rfl) (by kernel_rfl) rfl rfl rfl rfl ?_
       refine e_pure 11 rfl (by kernel_rfl) (by kernel_rfl) (by kernel_rfl) rfl (s_pick_f rfl rfl) ?_
       refine e_done (by kernel_rfl) ?_
       refine x_then (hK45 _ _ ?_)
       refine c_false rfl ?_
       refine c_skip ?_
       refine x_block ?_
       refine x_then (hK38 _ _ ?_)
       refine c_region ?_
       refine o_step rfl (s_move rfl) ?_
       refine o_step rfl (s_add rfl rfl (by omega)) ?_
       refine o_step rfl (s_assign rfl) ?_
       refine o_nil ?_
       exact x_then (x_inv (p + 1) (by omega) (by first | omega | (dsimp only; omega)) sbA hzB)
      ·
       refine e_take 6 rfl (by kernel_rfl) (by kernel_rfl) (by kernel_rfl) (by kernel_rfl) (fun _ _ => rfl) rfl hzB (step_cast (v' := .bool false) (s_ld rfl ((hH.rdk hiA hhp hrp).ld d.ends.length 0 hrn rfl (by decide) (by simp only [Hd.v]; omega))) (by rw [Bool.not_eq_true] at hpn; rw [hpn])) ?_
       refine e_pure 7 rfl (by kernel_rfl) (by kernel_rfl) (by kernel_rfl) rfl (s_not rfl) ?_
       refine e_pure 8 rfl (by kernel_rfl) (by kernel_rfl) (by kernel_rfl) rfl (s_move rfl) ?_
       refine e_take 9 rfl (by kernel_rfl) (by kernel_rfl) (by kernel_rfl) (by kernel_rfl) (fun _ fr => by rw [wanted_of fr rfl rfl rfl]; rfl) rfl hzB (s_ld rfl (.own meA rfl)) ?_
       by_cases h1n : 1 < d.ends.length
       ·
        exact absurd (hdn h1n p (by omega)) hpn
       ·
        refine e_take 10 rfl (by kernel_rfl) (by kernel_rfl) (by kernel_rfl) (by kernel_rfl) (fun _ fr => by rw [wanted_of fr rfl rfl rfl]; rfl) rfl hzB (step_cast (v' := .bool false) (s_gtr rfl rfl) (congrArg Value.bool (decide_eq_false (by omega)))) ?_
        refine e_pure 11 rfl (by kernel_rfl) (by kernel_rfl) (by kernel_rfl) rfl (s_pick_t rfl rfl) ?_
        refine e_done (by kernel_rfl) ?_
        refine x_then (hK45 _ _ ?_)
        refine c_false rfl ?_
        refine c_skip ?_
        refine x_block ?_
        refine x_then (hK38 _ _ ?_)
        refine c_region ?_
        refine o_step rfl (s_move rfl) ?_
        refine o_step rfl (s_add rfl rfl (by omega)) ?_
        refine o_step rfl (s_assign rfl) ?_
        refine o_nil ?_
        exact x_then (x_inv (p + 1) (by omega) (by first | omega | (dsimp only; omega)) sbA hzB)
    ·
     refine o_step rfl (step_cast (v' := .bool false) (s_lss rfl rfl) (congrArg Value.bool (decide_eq_false (by omega)))) ?_
     refine o_nil ?_
     refine x_then (hK37 _ _ ?_)
     refine c_false rfl ?_
     refine c_exit ?_
     refine x_then_exit ?_
     refine x_then_exit ?_
     refine x_block_exit ?_
     refine x_then (hK34 _ _ ?_)
     refine c_seq fun _ hK46 => ?_
     refine c_region ?_
     refine o_step rfl (s_assign rfl) ?_
     refine o_nil ?_
     refine x_then (hK46 _ _ ?_)
     refine c_ret ?_
     refine ?_
     exact x_ret rfl (.tmp rfl (.nil)) (rfl)
end Go.Proofs.YtmompllplidphaaDoor
namespace Go.HL.Sts
open Go Go.HL Go.HL.Kl Go.HL.Kl.Mc
theorem wdRun_len {fol rds : List Sp} {l1 : Sp} : ∀ (f q : Nat) (w : Wd), q + f = full → w.met.Nodup → w.next.length = q + 1 → w.ends.length = q + 1 → q ≤ w.met.length →
    (wdRun fol rds l1 f q w).next.length = (wdRun fol rds l1 f q w).met.length + 1 ∧ (wdRun fol rds l1 f q w).ends.length = (wdRun fol rds l1 f q w).met.length + 1 ∧ (wdRun fol rds l1 f q w).met.Nodup
  | 0, q, w, hf, hn, h1, h2, h3 => by
    have := sets_len hn
    unfold full at hf
    omega
  | f + 1, q, w, hf, hn, h1, h2, h3 => by
    unfold wdRun
    by_cases hq : q < w.met.length
    · rw [if_pos hq]
      have hm := rowT_mono (folTo fol (w.met[q]?.getD 0) fol.length) rds w.met
      exact wdRun_len f (q + 1) _ (by omega) (rowT_nodup _ _ _ hn) (by simp [wdStep, Wd.row, h1]) (by simp [wdStep, Wd.row, h2]) (by show q + 1 ≤ (rowT rds _ w.met).2.length; omega)
    · rw [if_neg hq]
      exact ⟨by omega, by omega, hn⟩
theorem wideM_len (x : Plc) (root : Pt) (atoms : List Kl.Cl) : (wideM x root atoms).next.length = (wideM x root atoms).met.length + 1 ∧ (wideM x root atoms).ends.length = (wideM x root atoms).met.length + 1 ∧ (wideM x root atoms).met.Nodup :=
  wdRun_len _ _ _ (by omega) (rowT_nodup _ _ _ List.nodup_nil) (by simp [wdInit, Wd.row]) (by simp [wdInit, Wd.row]) (Nat.zero_le _)
theorem wdM_ok (re : List Nd) (n : Nd) (ks : F) : WOk (wdM re n ks).next (wdM re n ks).ends (atoms (setsOf re)).length := by
  obtain ⟨h1, h2, _⟩ := wideM_len (partM n ks ⟨[], []⟩).2 (partM n ks ⟨[], []⟩).1 (atoms (setsOf re))
  have hb := wideM_bnd (partM n ks ⟨[], []⟩).2 (partM n ks ⟨[], []⟩).1 (atoms (setsOf re))
  refine ⟨?_, ?_, (atoms_len2 _).1, hb.len, fun r hr v hv => ?_⟩
  · exact h2.trans h1.symm
  · show 0 < (wideM _ _ _).next.length; omega
  · have := hb.bnd r hr v hv
    show v < (wideM _ _ _).next.length; omega
theorem mk_ok {re : List Nd} {d : Df} (h : mkOk re d) : ∃ (n : Nd) (ks : F) (lv : List Bool) (m : Lm), Mc.Shp re n ks ∧ refsB re = false ∧ (F.nd n ks .nil).weight ≤ 20 ∧ d.atoms = atoms (setsOf re) ∧ MkOk (wdM re n ks) lv d.atoms.length m d ∧ lmM (wdM re n ks) (partsM (wdM re n ks).next (wdM re n ks).ends d.atoms.length) lv = some m ∧ Sts.Shp d := by
  obtain ⟨n, ks, lv, m, hS, hr, hw, hl, hm, h1, h2, h3⟩ := h
  have hW := wdM_ok re n ks
  rw [← h3] at hW
  have hm' : lmM (wdM re n ks) (partsM (wdM re n ks).next (wdM re n ks).ends d.atoms.length) lv = some m := by rw [h3]; exact hm
  have hk : MkOk (wdM re n ks) lv d.atoms.length m d := ⟨hW, hl, lm_spec hW hl.1 hm', h1, h2⟩
  refine ⟨n, ks, lv, m, hS, hr, hw, h3, hk, hm', hk.shp (by rw [h3]; exact atoms_atm _) rfl (by rw [h3]; exact (atoms_len2 _).2)⟩
theorem mkErr_ne {re : List Nd} {e : Int} (h : mkErr re e) : e ≠ 0 := by
  rcases h with ⟨_, rfl⟩ | ⟨_, _, rfl⟩ | ⟨_, _, _, _, _, rfl⟩ | ⟨_, _, _, _, _, _, _, _, rfl⟩ <;> decide
theorem MkOk.trace {w : Wd} {lv : List Bool} {K : Nat} {m : Lm} {d : Df} (h : MkOk w lv K m d) (hm : lmM w (partsM w.next w.ends K) lv = some m) : LmT w (partsM w.next w.ends K) lv K 0 ⟨[0], [], []⟩ m := ⟨LmI.zero h.hw.pos, _, hm⟩
end Go.HL.Sts
