/- Which lists are well shaped, as an answer. Conditions: none. -/
import Derived.Test.YtloepfcndglmmaaDoorVZN2Z
import Derived.Test.YtloepfcndglmmaaDoorVZN4
import Derived.Test.YtloepfcndglmmaaDoorHlB
import GoSem.Instr.MapUpdate
import GoSem.Instr.MakeMap
import Derived.Test.YtloepfcndglmmaaDoorVZF1Z
namespace Go.HL.Kl.Mc
open Go Go.HL Go.HL.Kl
theorem flat_inj : ∀ (f g : F) (r s : List Nd), f.wf → g.wf → f.num = g.num → f.flat ++ r = g.flat ++ s → f = g ∧ r = s
  | .nil, .nil, r, s, _, _, _, h => ⟨rfl, h⟩
  | .nil, .nd _ _ _, _, _, _, _, hn, _ => by simp [F.num] at hn
  | .nd _ _ _, .nil, _, _, _, _, hn, _ => by simp [F.num] at hn
  | .nd x ks f, .nd y js g, r, s, hf, hg, hn, h => by
    simp only [F.flat, List.cons_append, List.append_assoc, List.cons.injEq] at h
    obtain ⟨rfl, h⟩ := h
    have hk : ks.num = js.num := by have := hf.2.1; have := hg.2.1; omega
    obtain ⟨e1, h1⟩ := flat_inj ks js _ _ hf.2.2.1 hg.2.2.1 hk h
    obtain ⟨e2, h2⟩ := flat_inj f g _ _ hf.2.2.2 hg.2.2.2 (by simpa [F.num] using hn) h1
    exact ⟨by rw [e1, e2], h2⟩
def ShpP (re : List Nd) : Prop := (∃ en, shN re 260 0 [] 0 = some (re.length, en)) ∧ ∃ x ks, Shp re x ks
noncomputable def shapedB (re : List Nd) : Bool := @decide (ShpP re) (Classical.propDecidable _)
theorem shapedB_iff {re : List Nd} : shapedB re = true ↔ ShpP re := by
  unfold shapedB
  constructor
  · intro h; exact @of_decide_eq_true _ (Classical.propDecidable _) h
  · intro h; exact @decide_eq_true _ (Classical.propDecidable _) h
theorem shapedB_no {re : List Nd} (h : ¬ ShpP re) : shapedB re = false := Bool.eq_false_iff.2 fun h' => h (shapedB_iff.1 h')
theorem shp_none {re : List Nd} (h : shN re 260 0 [] 0 = none) : shapedB re = false := shapedB_no fun ⟨⟨en, h'⟩, _⟩ => by rw [h] at h'; cases h'
theorem shp_end {re : List Nd} {j : Nat} {en : List Bool} (h : shN re 260 0 [] 0 = some (j, en)) (hj : j ≠ re.length) : shapedB re = false := shapedB_no fun ⟨⟨en', h'⟩, _⟩ => by
  rw [h] at h'; cases h'; exact hj rfl
theorem shp_tree {re : List Nd} {en : List Bool} (h : shN re 260 0 [] 0 = some (re.length, en)) : ∃ x ks, Part re (.nd x ks .nil) 0 re.length ∧ ks.depth + 1 ≤ 260 ∧ shapedB re = decide (cut (F.nd x ks .nil).weight ≤ 16384) := by
  obtain ⟨x, ks, ht⟩ := shN_tree _ _ _ _ _ _ h
  have hp := ht.part
  have hflat : re = x :: ks.flat := by simpa using ht.flat
  refine ⟨x, ks, hp, ht.dep, ?_⟩
  by_cases hw : (F.nd x ks .nil).weight ≤ 16384
  · rw [decide_eq_true (by unfold cut; omega)]
    exact shapedB_iff.2 ⟨⟨en, h⟩, x, ks, ⟨ht.wf, hflat, ht.dep, hw⟩⟩
  · rw [decide_eq_false (by unfold cut; omega)]
    refine shapedB_no fun ⟨_, y, js, hs⟩ => hw ?_
    have := flat_inj (.nd x ks .nil) (.nd y js .nil) [] [] ht.wf hs.wf rfl (by simp only [F.flat, List.append_nil]; rw [← hflat, ← hs.flat])
    rw [this.1]; exact hs.weight
noncomputable def refsB (re : List Nd) : Bool := shapedB re && re.any fun x => x.op == 8
theorem cut_fin2 {t a : Nat} (ht : 1 ≤ t) : min (1 + (t : Int) * (cut a : Int)) 16385 = (cut (1 + t * a) : Nat) := by
  rw [← cut_fin ht, Int.mul_comm, Int.add_comm]
end Go.HL.Kl.Mc
namespace Go.Proofs.YtloepfcndglmmaaDoor
open Go Go.HL Go.Proofs Go.HL.Kl Go.HL.Kl.Mc
set_option maxHeartbeats 1000000 in
theorem rWeigh_step (x : Nd) (ks : F) (ih : ∀ y ks1, ks1.size < ks.size → WeighC Tryd.prog 81 y ks1) (ra : Option Addr) (rc : Nat) (re : List Nd) (i i1 : Nat) (hre : ∀ x ∈ re, -128 ≤ x.op ∧ x.op < 128) (hp : Part re (.nd x ks .nil) i i1) : HL.Fn Tryd.prog 81 [.slice ra re.length rc, .int .i64 i] (fun w => Rd En w (.slice ra re.length rc) re) [] (fun v _ => v = .tuple #[.int .i64 (cut (F.nd x ks .nil).weight), .int .i64 i1]) := by
  refine fn_of Tryd.func81 rfl rfl rfl fun w0 hw => ?_
  have hsl := hw.sl
  have hbl := hsl.le
  obtain ⟨hx, hpk, hpn⟩ := hp.head
  have hii : i1 = i + 1 + ks.size := by simpa [F.size] using hpn.len
  have hile := hp.le
  have hok : ndOk x = true := hp.wf.1
  have hk0 := ndOk_kids hok
  have hkn : (ks.num : Int) = x.kids := hp.wf.2.1
  have hop := hre x (List.mem_of_getElem? hx)
  have hilt : i < re.length := (List.getElem?_eq_some_iff.1 hx).1
  have htl := times_le hok
  have htp := times_pos x
  have hns := F.num_le ks
  have hpkl := hpk.le
  rw [← hii] at hpk
  refine c_seq fun _ hK1 => ?_
  refine c_region ?_
  refine o_step rfl (s_assign rfl) ?_
  refine o_step rfl (s_assign rfl) ?_
  refine o_nil ?_
  refine x_then (hK1 _ _ ?_)
  refine c_seq fun _ hK2 => ?_
  refine c_region ?_
  refine o_step rfl (s_move rfl) ?_
  refine o_step rfl (s_move rfl) ?_
  refine o_step rfl (s_idx rfl rfl hsl (by omega)) ?_
  refine o_step rfl (s_ldB rfl ((RdK.old0 hw).lds i hx rfl) (by rfl)) ?_
  refine o_alloc (l := En zN) (by rw [En_zero]; rfl) rfl fun b6 => ?_
  refine o_stW rfl rfl upA lnA lnA onA ?_
  refine o_nil ?_
  refine x_then (hK2 _ _ ?_)
  refine c_seq fun _ hK3 => ?_
  refine c_region ?_
  refine o_step rfl (s_assign rfl) ?_
  refine o_nil ?_
  refine x_then (hK3 _ _ ?_)
  refine c_seq fun _ hK4 => ?_
  refine c_region ?_
  refine o_step rfl (s_move rfl) ?_
  refine o_step rfl (s_add rfl rfl (by omega)) ?_
  refine o_step rfl (s_assign rfl) ?_
  refine o_nil ?_
  refine x_then (hK4 _ _ ?_)
  refine c_seq fun _ hK5 => ?_
  refine c_seq fun _ hK6 => ?_
  refine c_region ?_
  refine o_step rfl (s_assign rfl) ?_
  refine o_nil ?_
  refine x_then (hK6 _ _ ?_)
  refine c_block ?_
  refine c_loop4 (fun (k : Nat) (to : Nat) (dw : Nat) (r : F) => k + r.num = ks.num ∧ Part re r to i1 ∧ dw + r.weight = ks.weight ∧ r.size ≤ ks.size) (fun (k : Nat) (to : Nat) (dw : Nat) (r : F) => [(9, .int .i64 k), (7, .int .i64 (cut dw)), (8, .int .i64 to)]) [(0, _), (4, _), (5, _), (6, _)] (fun (k : Nat) (to : Nat) (dw : Nat) (r : F) => [(b6, .cells (En x).toArray 80 (0, 0))]) (fun (k : Nat) (to : Nat) (dw : Nat) (r : F) => ks.num - k) 0 (i + 1) 0 ks ⟨by omega, hpk, by omega, Nat.le_refl _⟩ sbA sbA hzB ?_
  rintro k to dw r ⟨hkr, hpr, hdw, hrs⟩
  have hcl := cut_le dw
  refine c_seq fun _ hK7 => ?_
  refine c_seq fun _ hK8 => ?_
  refine c_region ?_
  refine o_step rfl (s_move rfl) ?_
  refine o_step rfl (s_field rfl rfl (by decide)) ?_
  refine o_step rfl (s_ld rfl (.own meA rfl)) ?_
  by_cases hkl : (k : Int) < x.kids
  ·
   obtain ⟨y, ks1, r1, rfl⟩ : ∃ y ks1 r1, r = F.nd y ks1 r1 := by cases r with | nil => simp [F.num] at hkr; omega | nd y a b => exact ⟨y, a, b, rfl⟩
   obtain ⟨hy, hpy, hpt⟩ := hpr.head
   have hpy1 : Part re (.nd y ks1 .nil) to (to + 1 + ks1.size) := hpr.one
   have hrs2 : ks1.size < ks.size := by simp only [F.size] at hrs; omega
   have hcy := cut_le (F.nd y ks1 .nil).weight
   have hpyl := hpy1.le
   refine o_step rfl (step_cast (v' := .bool true) (s_lss rfl rfl) (by rw [decide_eq_true (by omega)])) ?_
   refine o_nil ?_
   refine x_then (hK8 _ _ ?_)
   refine c_true rfl ?_
   refine c_skip ?_
   refine x_then (hK7 _ _ ?_)
   refine c_seq fun _ hK9 => ?_
   refine c_block ?_
   refine c_seq fun _ hK10 => ?_
   refine c_region ?_
   refine o_step rfl (s_move rfl) ?_
   refine o_step rfl (s_move rfl) ?_
   refine o_callP (ih y ks1 hrs2 ra rc re to (to + 1 + ks1.size) hre hpy1) rfl rfl rfl (fun w st => (RdK.old0 hw).out w st) (fun v28 hv28 => ?_)
   subst hv28
   refine o_step rfl (s_move rfl) ?_
   refine o_step rfl (s_extract rfl rfl) ?_
   refine o_step rfl (s_extract rfl rfl) ?_
   refine o_step rfl (s_assign rfl) ?_
   refine o_step rfl (s_assign rfl) ?_
   refine o_nil ?_
   refine x_then (hK10 _ _ ?_)
   refine c_seq fun _ hK11 => ?_
   refine c_region ?_
   refine o_step rfl (s_move rfl) ?_
   refine o_step rfl (s_move rfl) ?_
   refine o_step rfl (s_add rfl rfl (by omega)) ?_
   refine o_step rfl (step_cast (v' := .int .i64 (cut (dw + (F.nd y ks1 .nil).weight))) (s_min rfl rfl) (by rw [← cut_add]; unfold cut; congr 1; omega)) ?_
   refine o_step rfl (s_assign rfl) ?_
   refine o_nil ?_
   refine x_then (hK11 _ _ ?_)
   refine c_region ?_
   refine o_step rfl (s_move rfl) ?_
   refine o_step rfl (s_assign rfl) ?_
   refine o_nil ?_
   refine x_block ?_
   refine x_then (hK9 _ _ ?_)
   refine c_region ?_
   refine o_step rfl (s_move rfl) ?_
   refine o_step rfl (s_add rfl rfl (by omega)) ?_
   refine o_step rfl (s_assign rfl) ?_
   refine o_nil ?_
   exact x_then (x_inv (k + 1, to + 1 + ks1.size, dw + (F.nd y ks1 .nil).weight, r1) ⟨by simp only [F.num] at hkr; dsimp only; omega, hpt, by simp only [F.weight] at hdw ⊢; omega, by simp only [F.size] at hrs; dsimp only; omega⟩ (by first | omega | (dsimp only; omega)) sbA hzB)
  ·
   obtain rfl : r = F.nil := by cases r with | nil => rfl | nd y a b => simp only [F.num] at hkr; omega
   have hto : to = i1 := by have := hpr.len; simp [F.size] at this; omega
   obtain rfl : dw = ks.weight := by simpa [F.weight] using hdw
   subst hto
   refine o_step rfl (step_cast (v' := .bool false) (s_lss rfl rfl) (by rw [decide_eq_false (by omega)])) ?_
   refine o_nil ?_
   refine x_then (hK8 _ _ ?_)
   refine c_false rfl ?_
   refine c_exit ?_
   refine x_then_exit ?_
   refine x_then_exit ?_
   refine x_block_exit ?_
   refine x_then (hK5 _ _ ?_)
   refine c_seq fun _ hK12 => ?_
   refine c_region ?_
   refine o_step rfl (s_assign rfl) ?_
   refine o_nil ?_
   refine x_then (hK12 _ _ ?_)
   refine c_seq fun _ hK13 => ?_
   refine c_seq fun _ hK14 => ?_
   refine c_region ?_
   refine o_step rfl (s_field rfl rfl (by decide)) ?_
   refine o_step rfl (s_ld rfl (.own meA rfl)) ?_
   refine o_step rfl (s_convI rfl (by omega)) ?_
   by_cases h6 : x.op = 6
   ·
    have hrf := rep_flds hok h6
    refine o_step rfl (step_cast (v' := .bool true) (s_eql rfl rfl) (by rw [decide_eq_true (by omega)])) ?_
    refine o_nil ?_
    refine x_then (hK14 _ _ ?_)
    refine c_true rfl ?_
    refine c_seq fun _ hK15 => ?_
    refine c_region ?_
    refine o_step rfl (s_field rfl rfl (by decide)) ?_
    refine o_step rfl (s_ld rfl (.own meA rfl)) ?_
    refine o_step rfl (s_max rfl rfl) ?_
    refine o_step rfl (s_assign rfl) ?_
    refine o_nil ?_
    refine x_then (hK15 _ _ ?_)
    refine c_seq fun _ hK16 => ?_
    refine c_region ?_
    refine o_step rfl (s_field rfl rfl (by decide)) ?_
    refine o_step rfl (s_ld rfl (.own meA rfl)) ?_
    by_cases hmx : x.mx < 0
    ·
     have ht1 : (times x : Int) = x.mn + 1 := by rw [times, if_pos h6, if_pos hmx]; omega
     have hclw := cut_le ks.weight
     have hm1 : (times x : Int) * (cut ks.weight : Int) ≤ 4194560 := by rw [Int.mul_comm]; exact mul_leZ hclw htl
     have hm0 : 0 ≤ (times x : Int) * (cut ks.weight : Int) := mul_0Z _ _
     have hfin := cut_fin2 (t := times x) (a := ks.weight) htp
     rw [ht1] at hfin hm1 hm0
     refine o_step rfl (step_cast (v' := .bool true) (s_lss rfl rfl) (by rw [decide_eq_true (by omega)])) ?_
     refine o_nil ?_
     refine x_then (hK16 _ _ ?_)
     refine c_true rfl ?_
     refine c_region ?_
     refine o_step rfl (s_field rfl rfl (by decide)) ?_
     refine o_step rfl (s_ld rfl (.own meA rfl)) ?_
     refine o_step rfl (s_add rfl rfl (by omega)) ?_
     refine o_step rfl (s_assign rfl) ?_
     refine o_nil ?_
     refine x_then (hK13 _ _ ?_)
     refine c_seq fun _ hK17 => ?_
     refine c_region ?_
     refine o_step rfl (s_move rfl) ?_
     refine o_step rfl (s_move rfl) ?_
     refine o_step rfl (s_mul rfl rfl (by omega)) ?_
     refine o_step rfl (s_add rfl rfl (by omega)) ?_
     refine o_step rfl (step_cast (v' := .int .i64 (cut (1 + times x * ks.weight) : Nat)) (s_min rfl rfl) (congrArg (Value.int .i64) hfin)) ?_
     refine o_step rfl (s_move rfl) ?_
     refine o_step rfl (s_assign rfl) ?_
     refine o_step rfl (s_assign rfl) ?_
     refine o_nil ?_
     refine x_then (hK17 _ _ ?_)
     refine c_ret ?_
     refine ?_
     exact x_ret rfl (.tmp rfl (.tmp rfl (.nil))) ((by rw [weight_one]; rfl))
    ·
     have ht1 : (times x : Int) = max x.mx 1 := by rw [times, if_pos h6, if_neg hmx]; omega
     have hclw := cut_le ks.weight
     have hm1 : (times x : Int) * (cut ks.weight : Int) ≤ 4194560 := by rw [Int.mul_comm]; exact mul_leZ hclw htl
     have hm0 : 0 ≤ (times x : Int) * (cut ks.weight : Int) := mul_0Z _ _
     have hfin := cut_fin2 (t := times x) (a := ks.weight) htp
     rw [ht1] at hfin hm1 hm0
     refine o_step rfl (step_cast (v' := .bool false) (s_lss rfl rfl) (by rw [decide_eq_false (by omega)])) ?_
     refine o_nil ?_
     refine x_then (hK16 _ _ ?_)
     refine c_false rfl ?_
     refine c_skip ?_
     refine x_then (hK13 _ _ ?_)
     refine c_seq fun _ hK18 => ?_
     refine c_region ?_
     refine o_step rfl (s_move rfl) ?_
     refine o_step rfl (s_move rfl) ?_
     refine o_step rfl (s_mul rfl rfl (by omega)) ?_
     refine o_step rfl (s_add rfl rfl (by omega)) ?_
     refine o_step rfl (step_cast (v' := .int .i64 (cut (1 + times x * ks.weight) : Nat)) (s_min rfl rfl) (congrArg (Value.int .i64) hfin)) ?_
     refine o_step rfl (s_move rfl) ?_
     refine o_step rfl (s_assign rfl) ?_
     refine o_step rfl (s_assign rfl) ?_
     refine o_nil ?_
     refine x_then (hK18 _ _ ?_)
     refine c_ret ?_
     refine ?_
     exact x_ret rfl (.tmp rfl (.tmp rfl (.nil))) ((by rw [weight_one]; rfl))
   ·
    have ht1 : (times x : Int) = 1 := by rw [times, if_neg h6]; rfl
    have hclw := cut_le ks.weight
    have hm1 : (times x : Int) * (cut ks.weight : Int) ≤ 4194560 := by rw [Int.mul_comm]; exact mul_leZ hclw htl
    have hm0 : 0 ≤ (times x : Int) * (cut ks.weight : Int) := mul_0Z _ _
    have hfin := cut_fin2 (t := times x) (a := ks.weight) htp
    rw [ht1] at hfin hm1 hm0
    refine o_step rfl (step_cast (v' := .bool false) (s_eql rfl rfl) (by rw [decide_eq_false (by omega)])) ?_
    refine o_nil ?_
    refine x_then (hK14 _ _ ?_)
    refine c_false rfl ?_
    refine c_skip ?_
    refine x_then (hK13 _ _ ?_)
    refine c_seq fun _ hK19 => ?_
    refine c_region ?_
    refine o_step rfl (s_move rfl) ?_
    refine o_step rfl (s_move rfl) ?_
    refine o_step rfl (s_mul rfl rfl (by omega)) ?_
    refine o_step rfl (s_add rfl rfl (by omega)) ?_
    refine o_step rfl (step_cast (v' := .int .i64 (cut (1 + times x * ks.weight) : Nat)) (s_min rfl rfl) (congrArg (Value.int .i64) hfin)) ?_
    refine o_step rfl (s_move rfl) ?_
    refine o_step rfl (s_assign rfl) ?_
    refine o_step rfl (s_assign rfl) ?_
    refine o_nil ?_
    refine x_then (hK19 _ _ ?_)
    refine c_ret ?_
    refine ?_
    exact x_ret rfl (.tmp rfl (.tmp rfl (.nil))) ((by rw [weight_one]; rfl))
theorem weigh_fn : ∀ (n : Nat) (x : Nd) (ks : F), ks.size < n → WeighC Tryd.prog 51 x ks := by
  intro n
  induction n with
  | zero => intro x ks h; omega
  | succ n ih => exact fun x ks h ra rc re i i1 h1 h2 => weigh_step x ks (fun y ks1 hs => ih y ks1 (by omega)) ra rc re i i1 h1 h2
theorem rWeigh_fn : ∀ (n : Nat) (x : Nd) (ks : F), ks.size < n → WeighC Tryd.prog 81 x ks := by
  intro n
  induction n with
  | zero => intro x ks h; omega
  | succ n ih => exact fun x ks h ra rc re i i1 h1 h2 => rWeigh_step x ks (fun y ks1 hs => ih y ks1 (by omega)) ra rc re i i1 h1 h2
theorem shaped_fn (ra : Option Addr) (rc : Nat) (re : List Nd) (hre : ∀ x ∈ re, -128 ≤ x.op ∧ x.op < 128) : HL.Fn Tryd.prog 26 [.slice ra re.length rc] (fun w => Rd En w (.slice ra re.length rc) re) [] (fun v _ => v = .bool (shapedB re)) := by
  refine fn_of Tryd.func26 rfl rfl rfl fun w0 hw => ?_
  have hsl := hw.sl
  have hbl := hsl.le
  refine c_seq fun _ hK1 => ?_
  refine c_region ?_
  refine o_step rfl (s_assign rfl) ?_
  refine o_nil ?_
  refine x_then (hK1 _ _ ?_)
  refine c_seq fun _ hK2 => ?_
  refine c_region ?_
  refine o_step rfl (s_move rfl) ?_
  refine o_step rfl (s_build (cs := [_, _, _]) (vs := [_]) rfl rfl (.cons rfl rfl rfl rfl rfl (.nil))) ?_
  refine o_box rfl rfl rfl fun b8 => ?_
  refine o_step rfl (s_assign rfl) ?_
  refine o_nil ?_
  refine x_then (hK2 _ _ ?_)
  refine c_seq fun _ hK3 => ?_
  refine c_seq fun _ hK4 => ?_
  refine c_region ?_
  refine o_step rfl (s_move rfl) ?_
  refine o_call (node_fn 260 b8 ra rc re 0 0 0 none 0 [] [] hre rfl (Nat.zero_le _) (by decide) (by decide) .nil) rfl rfl rfl (by exact .one) (fun w st => ⟨(RdK.old0 hw).out w st, St.apart_M st (by exact HIn.one) hw (Apart.nil) (by decide)⟩) (fun v10 S10 hv10 => ?_)
  rcases hst : shN re 260 0 [] 0 with _ | ⟨j, enx⟩
  ·
   obtain rfl : v10 = .bool false := by rw [hst] at hv10; exact hv10
   have hN := shp_none hst
   refine o_step rfl (s_not rfl) ?_
   refine o_step rfl (s_move rfl) ?_
   refine o_no rfl rfl rfl rfl ?_
   refine o_no rfl rfl rfl rfl ?_
   refine o_no rfl rfl rfl rfl ?_
   refine o_no rfl rfl rfl rfl ?_
   refine o_no rfl rfl rfl rfl ?_
   refine o_no rfl rfl rfl rfl ?_
   refine o_no rfl rfl rfl rfl ?_
   refine o_step rfl (s_pick_t rfl rfl) ?_
   refine o_nil ?_
   refine x_then (hK4 _ _ ?_)
   refine c_true rfl ?_
   refine c_seq fun _ hK5 => ?_
   refine c_region ?_
   refine o_step rfl (s_assign rfl) ?_
   refine o_nil ?_
   refine x_then (hK5 _ _ ?_)
   refine c_ret ?_
   refine x_then_ret (?_)
   exact x_ret rfl (.tmp rfl (.nil)) ((congrArg Value.bool hN.symm))
  ·
   obtain ⟨hu10, ea3, ec3, Se3, rfl, hO3⟩ : v10 = .bool true ∧ ∃ ea3 ec3 Se3, S10 = LookB 107 b8 ra rc re j ea3 ec3 enx :: Se3 ∧ OwnS Ebo 1 4 (.slice ea3 enx.length ec3) enx Se3 := by rw [hst] at hv10; exact hv10
   subst hu10
   unfold LookB
   refine o_step rfl (s_not rfl) ?_
   refine o_step rfl (s_move rfl) ?_
   refine o_yes rfl rfl ?_
   refine o_step rfl (s_move rfl) ?_
   refine o_yes rfl rfl ?_
   refine o_step rfl (s_nil rfl) ?_
   refine o_yes rfl rfl ?_
   refine o_step rfl (s_field rfl rfl (by decide)) ?_
   refine o_yes rfl rfl ?_
   refine o_step rfl (s_ld rfl (.own meA rfl)) ?_
   refine o_yes rfl rfl ?_
   refine o_step rfl (s_move rfl) ?_
   refine o_yes rfl rfl ?_
   refine o_step rfl (s_len rfl) ?_
   refine o_yes rfl rfl ?_
   by_cases hj : j ≠ re.length
   ·
    have hN := shp_end hst hj
    refine o_step rfl (step_cast (v' := .bool true) (s_neq rfl rfl) (by rw [decide_eq_true (by omega)])) ?_
    refine o_step rfl (s_pick_f rfl rfl) ?_
    refine o_nil ?_
    refine x_then (hK4 _ _ ?_)
    refine c_true rfl ?_
    refine c_seq fun _ hK6 => ?_
    refine c_region ?_
    refine o_step rfl (s_assign rfl) ?_
    refine o_nil ?_
    refine x_then (hK6 _ _ ?_)
    refine c_ret ?_
    refine x_then_ret (?_)
    exact x_ret rfl (.tmp rfl (.nil)) ((congrArg Value.bool hN.symm))
   ·
    obtain rfl : j = re.length := Decidable.not_not.1 hj
    obtain ⟨x, ks, hpt, hdp, hshp⟩ := shp_tree hst
    refine o_step rfl (step_cast (v' := .bool false) (s_neq rfl rfl) (by rw [decide_eq_false (by omega)])) ?_
    refine o_step rfl (s_pick_f rfl rfl) ?_
    refine o_nil ?_
    refine x_then (hK4 _ _ ?_)
    refine c_false rfl ?_
    refine c_skip ?_
    refine x_then (hK3 _ _ ?_)
    refine c_seq fun _ hK7 => ?_
    refine c_region ?_
    refine o_step rfl (s_move rfl) ?_
    refine o_callP (weigh_fn (ks.size + 1) x ks (by omega) ra rc re 0 re.length hre hpt) rfl rfl rfl (fun w st => (RdK.old0 hw).out w st) (fun v23 hv23 => ?_)
    subst hv23
    refine o_step rfl (s_move rfl) ?_
    refine o_step rfl (s_extract rfl rfl) ?_
    refine o_step rfl (s_extract rfl rfl) ?_
    refine o_step rfl (s_assign rfl) ?_
    refine o_step rfl (s_assign rfl) ?_
    refine o_nil ?_
    refine x_then (hK7 _ _ ?_)
    refine c_seq fun _ hK8 => ?_
    refine c_region ?_
    refine o_step rfl (s_move rfl) ?_
    refine o_step rfl (s_leq rfl rfl) ?_
    refine o_step rfl (s_assign rfl) ?_
    refine o_nil ?_
    refine x_then (hK8 _ _ ?_)
    refine c_ret ?_
    refine ?_
    exact x_ret rfl (.tmp rfl (.nil)) ((congrArg Value.bool (by rw [hshp]; exact decide_eq_decide.2 (by omega))))
theorem rShaped_fn (ra : Option Addr) (rc : Nat) (re : List Nd) (hre : ∀ x ∈ re, -128 ≤ x.op ∧ x.op < 128) : HL.Fn Tryd.prog 42 [.slice ra re.length rc] (fun w => Rd En w (.slice ra re.length rc) re) [] (fun v _ => v = .bool (shapedB re)) := by
  refine fn_of Tryd.func42 rfl rfl rfl fun w0 hw => ?_
  have hsl := hw.sl
  have hbl := hsl.le
  refine c_seq fun _ hK1 => ?_
  refine c_region ?_
  refine o_step rfl (s_assign rfl) ?_
  refine o_nil ?_
  refine x_then (hK1 _ _ ?_)
  refine c_seq fun _ hK2 => ?_
  refine c_region ?_
  refine o_step rfl (s_move rfl) ?_
  refine o_step rfl (s_build (cs := [_, _, _]) (vs := [_]) rfl rfl (.cons rfl rfl rfl rfl rfl (.nil))) ?_
  refine o_box rfl rfl rfl fun b8 => ?_
  refine o_step rfl (s_assign rfl) ?_
  refine o_nil ?_
  refine x_then (hK2 _ _ ?_)
  refine c_seq fun _ hK3 => ?_
  refine c_seq fun _ hK4 => ?_
  refine c_region ?_
  refine o_step rfl (s_move rfl) ?_
  refine o_call (rNode_fn 260 b8 ra rc re 0 0 0 none 0 [] [] hre rfl (Nat.zero_le _) (by decide) (by decide) .nil) rfl rfl rfl (by exact .one) (fun w st => ⟨(RdK.old0 hw).out w st, St.apart_M st (by exact HIn.one) hw (Apart.nil) (by decide)⟩) (fun v10 S10 hv10 => ?_)
  rcases hst : shN re 260 0 [] 0 with _ | ⟨j, enx⟩
  ·
   obtain rfl : v10 = .bool false := by rw [hst] at hv10; exact hv10
   have hN := shp_none hst
   refine o_step rfl (s_not rfl) ?_
   refine o_step rfl (s_move rfl) ?_
   refine o_no rfl rfl rfl rfl ?_
   refine o_no rfl rfl rfl rfl ?_
   refine o_no rfl rfl rfl rfl ?_
   refine o_no rfl rfl rfl rfl ?_
   refine o_no rfl rfl rfl rfl ?_
   refine o_no rfl rfl rfl rfl ?_
   refine o_no rfl rfl rfl rfl ?_
   refine o_step rfl (s_pick_t rfl rfl) ?_
   refine o_nil ?_
   refine x_then (hK4 _ _ ?_)
   refine c_true rfl ?_
   refine c_seq fun _ hK5 => ?_
   refine c_region ?_
   refine o_step rfl (s_assign rfl) ?_
   refine o_nil ?_
   refine x_then (hK5 _ _ ?_)
   refine c_ret ?_
   refine x_then_ret (?_)
   exact x_ret rfl (.tmp rfl (.nil)) ((congrArg Value.bool hN.symm))
  ·
   obtain ⟨hu10, ea3, ec3, Se3, rfl, hO3⟩ : v10 = .bool true ∧ ∃ ea3 ec3 Se3, S10 = LookB 132 b8 ra rc re j ea3 ec3 enx :: Se3 ∧ OwnS Ebo 1 4 (.slice ea3 enx.length ec3) enx Se3 := by rw [hst] at hv10; exact hv10
   subst hu10
   unfold LookB
   refine o_step rfl (s_not rfl) ?_
   refine o_step rfl (s_move rfl) ?_
   refine o_yes rfl rfl ?_
   refine o_step rfl (s_move rfl) ?_
   refine o_yes rfl rfl ?_
   refine o_step rfl (s_nil rfl) ?_
   refine o_yes rfl rfl ?_
   refine o_step rfl (s_field rfl rfl (by decide)) ?_
   refine o_yes rfl rfl ?_
   refine o_step rfl (s_ld rfl (.own meA rfl)) ?_
   refine o_yes rfl rfl ?_
   refine o_step rfl (s_move rfl) ?_
   refine o_yes rfl rfl ?_
   refine o_step rfl (s_len rfl) ?_
   refine o_yes rfl rfl ?_
   by_cases hj : j ≠ re.length
   ·
    have hN := shp_end hst hj
    refine o_step rfl (step_cast (v' := .bool true) (s_neq rfl rfl) (by rw [decide_eq_true (by omega)])) ?_
    refine o_step rfl (s_pick_f rfl rfl) ?_
    refine o_nil ?_
    refine x_then (hK4 _ _ ?_)
    refine c_true rfl ?_
    refine c_seq fun _ hK6 => ?_
    refine c_region ?_
    refine o_step rfl (s_assign rfl) ?_
    refine o_nil ?_
    refine x_then (hK6 _ _ ?_)
    refine c_ret ?_
    refine x_then_ret (?_)
    exact x_ret rfl (.tmp rfl (.nil)) ((congrArg Value.bool hN.symm))
   ·
    obtain rfl : j = re.length := Decidable.not_not.1 hj
    obtain ⟨x, ks, hpt, hdp, hshp⟩ := shp_tree hst
    refine o_step rfl (step_cast (v' := .bool false) (s_neq rfl rfl) (by rw [decide_eq_false (by omega)])) ?_
    refine o_step rfl (s_pick_f rfl rfl) ?_
    refine o_nil ?_
    refine x_then (hK4 _ _ ?_)
    refine c_false rfl ?_
    refine c_skip ?_
    refine x_then (hK3 _ _ ?_)
    refine c_seq fun _ hK7 => ?_
    refine c_region ?_
    refine o_step rfl (s_move rfl) ?_
    refine o_callP (rWeigh_fn (ks.size + 1) x ks (by omega) ra rc re 0 re.length hre hpt) rfl rfl rfl (fun w st => (RdK.old0 hw).out w st) (fun v23 hv23 => ?_)
    subst hv23
    refine o_step rfl (s_move rfl) ?_
    refine o_step rfl (s_extract rfl rfl) ?_
    refine o_step rfl (s_extract rfl rfl) ?_
    refine o_step rfl (s_assign rfl) ?_
    refine o_step rfl (s_assign rfl) ?_
    refine o_nil ?_
    refine x_then (hK7 _ _ ?_)
    refine c_seq fun _ hK8 => ?_
    refine c_region ?_
    refine o_step rfl (s_move rfl) ?_
    refine o_step rfl (s_leq rfl rfl) ?_
    refine o_step rfl (s_assign rfl) ?_
    refine o_nil ?_
    refine x_then (hK8 _ _ ?_)
    refine c_ret ?_
    refine ?_
    exact x_ret rfl (.tmp rfl (.nil)) ((congrArg Value.bool (by rw [hshp]; exact decide_eq_decide.2 (by omega))))
end Go.Proofs.YtloepfcndglmmaaDoor
namespace Go.HL
open Go
structure Ky where
  a : Int
  b : Int
  c : Int
  d : Int
  deriving DecidableEq
def Ek (k : Ky) : List Value := [.int .i64 k.a, .int .i64 k.b, .int .i64 k.c, .int .i64 k.d]
instance : Enc Ek 4 := ⟨fun _ => rfl, fun x v hv => by
  simp only [Ek, List.mem_cons, List.not_mem_nil, or_false] at hv
  rcases hv with rfl | rfl | rfl | rfl <;> rfl⟩
structure Me where
  k : Ky
  v : Int
  born : Nat
def Me.enc (e : Me) : MapEntry := { key := .agg (Ek e.k).toArray, val := .int .i8 e.v, born := e.born }
def mpO (es : List Me) (c : Nat) : Obj := .map (es.map Me.enc).toArray c
def getK (es : List Me) (k : Ky) : Int := ((es.find? (fun e => decide (k = e.k))).map (·.v)).getD 0
def putAt (v : Int) : List Me → Ky → List Me
  | [], _ => []
  | e :: es, k => if k = e.k then { e with v := v } :: es else e :: putAt v es k
section
variable {P : Program} {κ : Cx} {Q : Pst} {L : Loc} {H H' : Hp} {ops : Array Oper} {rest : List Oper} {ty t t' : TypeId} {d : Nat} {pos : String} {af : Array Edge} {x y z : Operand}
theorem ky_struct {l : List (Nat × Nat)} [tq : TQ P t l] : ∃ fs : Array Field, P.underlying t = some (.struct fs) ∧ fs.toList.map (fun f => (f.type, f.offset)) = l := by
  have hq := tq.out
  cases hu : P.underlying t with
  | none => simp [hu] at hq
  | some D =>
    rw [hu] at hq
    cases D
    case struct fs =>
      simp only [Option.bind_some, fieldsOf] at hq
      split at hq
      case isFalse => cases hq
      case isTrue hc =>
        simp only [Option.some.injEq] at hq
        exact ⟨fs, rfl, hq⟩
    all_goals simp [fieldsOf] at hq
theorem forIn_ok {β : Type} {f : β → PUnit → Sem (ForInStep PUnit)} {w : World} : ∀ {l : List β}, (∀ x ∈ l, (f x ⟨⟩).run P w = .ok (.yield ⟨⟩) w) → (forIn (m := Sem) l PUnit.unit f).run P w = .ok ⟨⟩ w := by
  intro l
  induction l with
  | nil => intro _; simp
  | cons x l ih =>
    intro h
    rw [List.forIn_cons, Sem.run_bind, h x List.mem_cons_self, Result.andThen_ok]
    exact ih fun y hy => h y (List.mem_cons_of_mem _ hy)
theorem checkInt {e n : Nat} {b : Bool} {v : Value} [TU P e (.int .i64)] (w : World) : (Instr.checkKey b (n + 1) e v).run P w = .ok () w := by
  unfold Instr.checkKey
  rw [Sem.run_bind, run_u, Result.andThen_ok]
  cases v <;> simp
theorem o_mmap (hn : Nat.blt d κ.n = true) (h : ∀ b, O P κ ops Q rest ((d, .map (some b)) :: L) ((b, mpO [] 0) :: H)) : O P κ ops Q (⟨some d, .makeMap t none, ty, pos, af, none⟩ :: rest) L H :=
  o_gen (fun u H' => ∃ b, u = .map (some b) ∧ H' = (b, mpO [] 0) :: H) hn
    (fun ρ w pos af g hρ st => ⟨_, _, _, by simp [execOp, Instr.makeMap, newObj, Sem.run, mpO], ⟨_, rfl, rfl⟩, st.alloc _⟩)
    (fun u H' ⟨b, hu, hH⟩ => by subst hu; subst hH; exact h b)
end
end Go.HL
namespace Go.HL
open Go
section
variable {P : Program} {κ : Cx} {Q : Pst} {L L' : Loc} {H H' : Hp} {ops : Array Oper} {rest : List Oper} {ty t t' : TypeId} {d : Nat} {pos : String} {af : Array Edge} {v u : Value} {x y z : Operand} {α : Type} {E : α → List Value} {k : Nat}
theorem Fn.sub {f : FuncId} {args : List Value} {pre : World → Prop} {S : Hp} {post post' : Value → Hp → Prop} (h : Fn P f args pre S post) (hq : ∀ v S', post v S' → ∃ S2, HSub S' S2 ∧ post' v S2) : Fn P f args pre S post' :=
  ⟨h.enters, fun w hw hS => (h.calls w hw hS).mono fun e w' hpost => by
    obtain ⟨v, S', he, hv, hst⟩ := hpost.out
    obtain ⟨S2, h1, h2⟩ := hq _ _ hv
    exact ⟨v, S2, he, h2, hst.sub h1⟩⟩
end
end Go.HL
namespace Go.HL
open Go
/-- values that are keys of a type: they are compared by what they stand for -/
class KE (P : Program) (kt : TypeId) {κ : Type} [DecidableEq κ] (Ek : κ → Value) : Prop where
  eq : ∀ w a b, (Op.equal kt (Ek a) (Ek b)).run P w = .ok (decide (a = b)) w
  check : ∀ w b k, (Instr.checkKey b 10000 kt (Ek k)).run P w = .ok () w
  bits : ∀ k, Instr.sameBits 10000 (Ek k) (Ek k) = true
  und : ∃ d, P.underlying kt = some d ∧ ((∀ k k', Instr.sameNow d (Ek k) (Ek k') = none) ∨ ∀ k k', Instr.sameNow d (Ek k) (Ek k') = some (decide (k = k')))
structure Mx (κ : Type) where
  k : κ
  v : Value
  born : Nat
section
variable {κ : Type} [DecidableEq κ] {Ek : κ → Value}
def Mx.enc (Ek : κ → Value) (e : Mx κ) : MapEntry := { key := Ek e.k, val := e.v, born := e.born }
def mxO (Ek : κ → Value) (es : List (Mx κ)) (c : Nat) : Obj := .map (es.map (Mx.enc Ek)).toArray c
def getM (es : List (Mx κ)) (k : κ) : Option Value := (es.find? (fun e => decide (k = e.k))).map (·.v)
def putM (v : Value) : List (Mx κ) → κ → List (Mx κ)
  | [], _ => []
  | e :: es, k => if k = e.k then { e with v := v } :: es else e :: putM v es k
theorem getM_nil (k : κ) : getM ([] : List (Mx κ)) k = none := rfl
theorem getM_cons (e : Mx κ) (es : List (Mx κ)) (k : κ) : getM (e :: es) k = if k = e.k then some e.v else getM es k := by
  unfold getM
  by_cases h : k = e.k <;> simp [List.find?_cons, h]
theorem getM_none {es : List (Mx κ)} {k : κ} (h : ∀ e ∈ es, k ≠ e.k) : getM es k = none := by
  induction es with
  | nil => rfl
  | cons e es ih => rw [getM_cons, if_neg (h e List.mem_cons_self)]; exact ih fun e' he => h e' (List.mem_cons_of_mem _ he)
theorem getM_push {es : List (Mx κ)} {k : κ} (hn : ∀ e ∈ es, k ≠ e.k) (v : Value) (n : Nat) (j : κ) : getM (es ++ [⟨k, v, n⟩]) j = if j = k then some v else getM es j := by
  induction es with
  | nil => simp [getM_cons, getM_nil]
  | cons e es ih =>
    rw [List.cons_append, getM_cons, getM_cons, ih (fun e' h => hn e' (List.mem_cons_of_mem _ h))]
    by_cases h : j = k
    · subst h; rw [if_neg (hn e List.mem_cons_self)]; simp
    · simp [h]
theorem putM_len (v : Value) : ∀ (es : List (Mx κ)) (k : κ), (putM v es k).length = es.length
  | [], _ => rfl
  | e :: es, k => by
    unfold putM
    split
    · rfl
    · rw [List.length_cons, putM_len v es k, List.length_cons]
theorem getM_put {es : List (Mx κ)} {k : κ} (h : ∃ e ∈ es, k = e.k) (v : Value) (j : κ) : getM (putM v es k) j = if j = k then some v else getM es j := by
  induction es with
  | nil => obtain ⟨e, he, _⟩ := h; cases he
  | cons e es ih =>
    unfold putM
    by_cases hk : k = e.k
    · rw [if_pos hk, getM_cons, getM_cons]
      by_cases hj : j = k
      · simp [hj, hk]
      · rw [if_neg (by simp; rw [← hk]; exact hj), if_neg hj, if_neg (by rw [← hk]; exact hj)]
    · rw [if_neg hk, getM_cons, getM_cons, ih (by
        obtain ⟨e', he, hk'⟩ := h
        rcases List.mem_cons.1 he with rfl | he
        · exact absurd hk' hk
        · exact ⟨e', he, hk'⟩)]
      by_cases hj : j = k
      · subst hj; rw [if_neg hk]; simp
      · simp [hj]
end
section
variable {P : Program} {κ : Cx} {Q : Pst} {L : Loc} {H : Hp} {ops : Array Oper} {rest : List Oper} {ty t kt : TypeId} {d : Nat} {pos : String} {af : Array Edge} {x : Operand} {K : Type} {Ek : K → Value}
theorem run_getObj2 {w : World} {b c : Nat} {es : List (Mx K)} (h : w.heap[b]? = some (mxO Ek es c)) : (getObj b).run P w = .ok (mxO Ek es c) w := by
  simp [getObj, Sem.run, h, mxO]
theorem run_setObj2 {w : World} {b c : Nat} {es : List (Mx K)} (hb : w.heap[b]? = some (mxO Ek es c)) (o : Obj) : (setObj b o).run P w = .ok () { w with heap := w.heap.setIfInBounds b o } := by
  simp [setObj, Sem.run, hb, mxO]
theorem s_lenmap {vt b c : Nat} {es : List (Mx K)} [TU P t (.map kt vt)] (hx : ev L x = some (.map (some b))) (hm : (b, mxO Ek es c) ∈ H) : Step P κ (.call ⟨.builtin .len, #[x], #[t]⟩) ty L H (.int .i64 es.length) :=
  ⟨fun ρ w d pos af g hρ st => by
    have ho := run_getObj2 (P := P) (st.has _ _ hm)
    simp [execOp, resolve, invoke, builtin, Builtin.len_, hρ _ _ hx, run_u, ho, mxO, goInt]⟩
theorem o_mmap2 (hn : Nat.blt d κ.n = true) (h : ∀ b, O P κ ops Q rest ((d, .map (some b)) :: L) ((b, mxO Ek [] 0) :: H)) : O P κ ops Q (⟨some d, .makeMap t none, ty, pos, af, none⟩ :: rest) L H :=
  o_mmap hn fun b => by simpa [mpO, mxO] using h b
end
section
variable {P : Program} {κ : Cx} {Q : Pst} {L : Loc} {H H' : Hp} {ops : Array Oper} {rest : List Oper} {ty t t' kt : TypeId} {d : Nat} {pos : String} {af : Array Edge} {x y z : Operand} {K : Type} [DecidableEq K] {Ek : K → Value}
/-- what a search for a key comes to -/
def Found (Ek : K → Value) (es : List (Mx K)) (k : K) (i : Nat) (r : Option (Nat × Value)) : Prop :=
  (r = none ∧ ∀ e ∈ es, k ≠ e.k) ∨ ∃ j v, r = some (i + j, v) ∧ getM es k = some v ∧ (∃ e, es[j]? = some e ∧ k = e.k) ∧ ∀ u, (es.map (Mx.enc Ek)).toArray.modify j (fun e => { e with val := u, key := Ek k }) = ((putM u es k).map (Mx.enc Ek)).toArray
theorem Found.nil {k : K} {i : Nat} : Found Ek [] k i none := .inl ⟨rfl, fun e h => by cases h⟩
theorem Found.here {e : Mx K} {es : List (Mx K)} {k : K} {i : Nat} (h : k = e.k) : Found Ek (e :: es) k i (some (i, e.v)) :=
  .inr ⟨0, e.v, by simp, by rw [getM_cons, if_pos h], ⟨e, rfl, h⟩, fun u => by
    apply Array.ext'
    rw [Array.toList_modify]
    simp [putM, h, Mx.enc]⟩
theorem Found.later {e : Mx K} {es : List (Mx K)} {k : K} {i : Nat} {r : Option (Nat × Value)} (h : ¬ k = e.k) (hc : Found Ek es k (i + 1) r) : Found Ek (e :: es) k i r := by
  rcases hc with ⟨h1, h2⟩ | ⟨j, v, h1, h2, ⟨e', he', hk⟩, h4⟩
  · exact .inl ⟨h1, fun e' he' => by rcases List.mem_cons.1 he' with rfl | he'; exact h; exact h2 e' he'⟩
  · refine .inr ⟨j + 1, v, by rw [h1]; congr 2; omega, by rw [getM_cons, if_neg h, h2], ⟨e', by simpa using he', hk⟩, fun u => ?_⟩
    have := congrArg Array.toList (h4 u)
    rw [Array.toList_modify] at this
    apply Array.ext'
    rw [Array.toList_modify]
    simp only [putM, if_neg h, List.map_cons, List.modify_succ_cons]
    rw [show (List.map (Mx.enc Ek) es).modify j _ = _ from this]
theorem find_ask2 [ke : KE P kt Ek] (w : World) (k : K) : ∀ (es : List (Mx K)) (i : Nat), ∃ r, (Instr.findAsking kt (Ek k) (es.map (Mx.enc Ek)) i).run P w = .ok r w ∧ Found Ek es k i r := by
  intro es
  induction es with
  | nil => intro i; exact ⟨none, by simp [Instr.findAsking], .nil⟩
  | cons e es ih =>
    intro i
    simp only [List.map_cons]
    unfold Instr.findAsking
    rw [Sem.run_bind]
    rw [show (Mx.enc Ek e).key = Ek e.k from rfl, ke.eq, Result.andThen_ok]
    by_cases h : k = e.k
    · exact ⟨some (i, e.v), by simp [h, Mx.enc], .here h⟩
    · obtain ⟨r, hr, hc⟩ := ih (i + 1)
      exact ⟨r, by simp [h, hr], .later h hc⟩
theorem find_now2 {D : TypeDesc} (hD : ∀ k k' : K, Instr.sameNow D (Ek k) (Ek k') = some (decide (k = k'))) (k : K) : ∀ (es : List (Mx K)) (i : Nat), ∃ r, Instr.findNow D (Ek k) (es.map (Mx.enc Ek)) i = some r ∧ Found Ek es k i r := by
  intro es
  induction es with
  | nil => intro i; exact ⟨none, rfl, .nil⟩
  | cons e es ih =>
    intro i
    simp only [List.map_cons]
    unfold Instr.findNow
    rw [show (Mx.enc Ek e).key = Ek e.k from rfl, hD]
    by_cases h : k = e.k
    · exact ⟨some (i, e.v), by simp [h, Mx.enc], .here h⟩
    · obtain ⟨r, hr, hc⟩ := ih (i + 1)
      exact ⟨r, by simp [h, hr], .later h hc⟩
theorem find_key2 [ke : KE P kt Ek] (w : World) (k : K) (es : List (Mx K)) : ∃ r, (Instr.findKey kt (Ek k) (es.map (Mx.enc Ek))).run P w = .ok r w ∧ Found Ek es k 0 r := by
  obtain ⟨D, hu, hs⟩ := ke.und
  unfold Instr.findKey
  rw [Sem.run_bind, run_underlying hu, Result.andThen_ok]
  rcases hs with hs | hs
  · obtain ⟨r, hr, hc⟩ := find_ask2 (P := P) (kt := kt) (Ek := Ek) w k es 0
    refine ⟨r, ?_, hc⟩
    cases es with
    | nil =>
      simp only [List.map_nil, Instr.findNow]
      simpa [Instr.findAsking] using hr
    | cons e es =>
      have hn : Instr.findNow D (Ek k) ((e :: es).map (Mx.enc Ek)) 0 = none := by
        simp only [List.map_cons, Instr.findNow]
        rw [show (Mx.enc Ek e).key = Ek e.k from rfl, hs]
      rw [hn]
      exact hr
  · obtain ⟨r, hr, hc⟩ := find_now2 hs k es 0
    exact ⟨r, by rw [hr]; simp, hc⟩
theorem run_look2 {vt b c : Nat} {es : List (Mx K)} {k : K} {zv : Value} {ok : Bool} {w : World} [ke : KE P kt Ek] [TU P t (.map kt vt)] [tz : TZ P vt zv] (hm : w.heap[b]? = some (mxO Ek es c)) :
    (Instr.lookup t (.map (some b)) (Ek k) ok).run P w = .ok (if ok then .tuple #[(getM es k).getD zv, .bool (getM es k).isSome] else (getM es k).getD zv) w := by
  have ho := run_getObj2 (P := P) hm
  obtain ⟨r, hr, hc⟩ := find_key2 (P := P) (kt := kt) (Ek := Ek) w k es
  have hck := fun b => ke.check w b k
  unfold Instr.lookup
  simp only [Sem.run_bind, run_u, Result.andThen_ok, ho, mxO, hck, Sem.run_pure]
  rw [hr]
  rcases hc with ⟨h1, h2⟩ | ⟨j, v, h1, h2, _⟩
  · subst h1
    rw [getM_none h2]
    simp [run_zero]
  · subst h1
    rw [h2]
    simp
theorem s_look2 {vt b c : Nat} {es : List (Mx K)} {k : K} {zv : Value} [ke : KE P kt Ek] [TU P t (.map kt vt)] [tz : TZ P vt zv] (hx : ev L x = some (.map (some b))) (hy : ev L y = some (Ek k)) (hm : (b, mxO Ek es c) ∈ H) :
    Step P κ (.lookup t x y false) ty L H ((getM es k).getD zv) :=
  ⟨fun ρ w d pos af g hρ st => by
    have hl := run_look2 (P := P) (t := t) (kt := kt) (vt := vt) (Ek := Ek) (k := k) (ok := false) (st.has _ _ hm)
    simp [execOp, hρ _ _ hx, hρ _ _ hy, hl]⟩
/-- with comma-ok -/
theorem s_look2k {vt b c : Nat} {es : List (Mx K)} {k : K} {zv : Value} [ke : KE P kt Ek] [TU P t (.map kt vt)] [tz : TZ P vt zv] (hx : ev L x = some (.map (some b))) (hy : ev L y = some (Ek k)) (hm : (b, mxO Ek es c) ∈ H) :
    Step P κ (.lookup t x y true) ty L H (.tuple #[(getM es k).getD zv, .bool (getM es k).isSome]) :=
  ⟨fun ρ w d pos af g hρ st => by
    have hl := run_look2 (P := P) (t := t) (kt := kt) (vt := vt) (Ek := Ek) (k := k) (ok := true) (st.has _ _ hm)
    simp [execOp, hρ _ _ hx, hρ _ _ hy, hl]⟩
theorem o_mset2 {vt b c : Nat} {es : List (Mx K)} {k : K} {u : Value} {R : Hp} [ke : KE P kt Ek] [TU P t (.map kt vt)] (hx : ev L x = some (.map (some b))) (hy : ev L y = some (Ek k)) (hz : ev L z = some u)
    (hpk : Pick H [(b, mxO Ek es c)] R) (h : ∀ es' c', (∀ j, getM es' j = if j = k then some u else getM es j) → es'.length = es.length + (if (getM es k).isSome then 0 else 1) → O P κ ops Q rest L ((b, mxO Ek es' c') :: R)) : O P κ ops Q (⟨none, .mapUpdate t x y z, ty, pos, af, none⟩ :: rest) L H := by
  refine ⟨fun ro a w hro ok => op_want rfl ?_⟩
  have e1 := ok.fr.ev hx
  have e2 := ok.fr.ev hy
  have e3 := ok.fr.ev hz
  have st := ok.st.perm hpk.perm
  have ho := run_getObj2 (P := P) (st.has _ _ (List.mem_cons_self))
  obtain ⟨r, hr, hc⟩ := find_key2 (P := P) (kt := kt) (Ek := Ek) w k es
  have hck := fun b => ke.check w b k
  have key : ∃ es' c', (Instr.mapUpdate t (.map (some b)) (Ek k) u).run P w = .ok () { w with heap := w.heap.setIfInBounds b (mxO Ek es' c') } ∧ (∀ j, getM es' j = if j = k then some u else getM es j) ∧ es'.length = es.length + (if (getM es k).isSome then 0 else 1) := by
    rcases hc with ⟨h1, h2⟩ | ⟨j, v, h1, h2, ⟨e', he', hk⟩, h4⟩
    · refine ⟨es ++ [⟨k, u, c⟩], c + 1, ?_, fun j => getM_push h2 u c j, by rw [getM_none h2]; simp⟩
      unfold Instr.mapUpdate
      simp only [Sem.run_bind, run_u, Result.andThen_ok, ho, mxO, hck]
      rw [hr, h1]
      simp only [Result.andThen_ok]
      rw [run_setObj2 (P := P) (Ek := Ek) (es := es) (c := c) (st.has _ _ (List.mem_cons_self))]
      simp [mxO, Mx.enc]
    · refine ⟨putM u es k, c, ?_, fun j => getM_put ⟨e', List.mem_of_getElem? he', hk⟩ u j, by rw [h2, putM_len]; simp⟩
      have hj : ((es.map (Mx.enc Ek)).toArray[j]?).map (·.key) = some (Ek k) := by
        simp [he', Mx.enc, hk]
      have hkey : (((es.map (Mx.enc Ek)).toArray[j]?).map (·.key)).getD (Ek k) = Ek k := by rw [hj]; rfl
      unfold Instr.mapUpdate
      simp only [Sem.run_bind, run_u, Result.andThen_ok, ho, mxO, hck]
      rw [hr, h1]
      simp only [Result.andThen_ok, Nat.zero_add, Sem.run_bind]
      rw [hkey]
      simp only [Instr.keyThatStays, ke.bits, if_true, Sem.run_pure, Result.andThen_ok]
      rw [h4 u, run_setObj2 (P := P) (Ek := Ek) (es := es) (c := c) (st.has _ _ (List.mem_cons_self))]
  obtain ⟨es', c', hrun, hg, hlen⟩ := key
  have hx' : (execOp a.eval ⟨none, .mapUpdate t x y z, ty, pos, af, none⟩).run P w = .ok .skip { w with heap := w.heap.setIfInBounds b (mxO Ek es' c') } := by
    simp [execOp, e1, e2, e3, hrun]
  exact op_skip hx' ((h es' c' hg hlen).out ro _ _ hro.tail ⟨ok.fr, St.put st rfl rfl rfl rfl⟩)
/-- keys that are numbers -/
theorem KE.int {k : IntKind} [tu : TU P kt (.int k)] [TG P kt true] : KE P kt (fun a : Int => .int k a) where
  eq := fun w a b => by
    have h : ∀ w, (Op.equalIn (9999 + 1) kt (.int k a) (.int k b)).run P w = .ok (a == b) w := fun w => re_int w 9999
    rw [show decide (a = b) = (a == b) from by by_cases e : a = b <;> simp [e]]
    exact h w
  check := fun w b k' => by
    show (Instr.checkKey b (9999 + 1) kt _).run P w = .ok () w
    unfold Instr.checkKey
    rw [Sem.run_bind, run_u, Result.andThen_ok]
    simp
  bits := fun k' => by simp [Instr.sameBits]
  und := ⟨_, tu.out, .inr fun a b => by simp [Instr.sameNow]; by_cases e : a = b <;> simp [e]⟩
end
end Go.HL
namespace Go.HL.Kl.Mc
open Go Go.HL Go.HL.Kl
def addI (l : List Int) (n : Int) : List Int := if n ∈ l then l else l ++ [n]
def ref1 (l : List Int) (x : Nd) : List Int := if x.op = 8 then addI l x.n else l
/-- the numbers that are referred to, each once -/
def refsI (re : List Nd) : List Int := re.foldl ref1 []
theorem refsI_take {re : List Nd} {q : Nat} {x : Nd} (h : re[q]? = some x) : refsI (re.take (q + 1)) = ref1 (refsI (re.take q)) x := by
  unfold refsI
  rw [List.take_add_one, h]; simp
theorem ref1_len {l : List Int} {x : Nd} : l.length ≤ (ref1 l x).length ∧ (ref1 l x).length ≤ l.length + 1 := by
  unfold ref1 addI
  split
  · split <;> simp
  · simp
theorem refsI_le {re : List Nd} : ∀ q, q ≤ re.length → (refsI (re.take q)).length ≤ q
  | 0, _ => by simp [refsI]
  | q + 1, h => by
    obtain ⟨x, hx⟩ : ∃ x, re[q]? = some x := ⟨_, List.getElem?_eq_getElem (by omega)⟩
    rw [refsI_take hx]
    have := refsI_le (re := re) q (by omega)
    have := (ref1_len (l := refsI (re.take q)) (x := x)).2
    omega
def EkI (a : Int) : Value := .int .i64 a
/-- the map counts what is referred to -/
structure CntI (es : List (Mx Int)) (l : List Int) (q : Nat) : Prop where
  len : es.length = l.length
  iff : ∀ k, k ∈ l ↔ (getM es k).isSome = true
  val : ∀ k v, getM es k = some v → ∃ n : Nat, v = .int .i64 n ∧ n ≤ q
theorem CntI.nil : CntI [] [] 0 := ⟨rfl, fun k => by simp [getM], fun k v h => by simp [getM] at h⟩
theorem CntI.up {es : List (Mx Int)} {l : List Int} {q : Nat} (h : CntI es l q) : CntI es l (q + 1) := ⟨h.len, h.iff, fun k v hv => by
  obtain ⟨n, h1, h2⟩ := h.val k v hv
  exact ⟨n, h1, by omega⟩⟩
theorem CntI.get {es : List (Mx Int)} {l : List Int} {q : Nat} (h : CntI es l q) (k : Int) : ∃ n : Nat, (getM es k).getD (.int .i64 0) = .int .i64 n ∧ n ≤ q := by
  cases e : getM es k with
  | none => exact ⟨0, rfl, Nat.zero_le _⟩
  | some v =>
    obtain ⟨n, h1, h2⟩ := h.val k v e
    exact ⟨n, by rw [h1]; rfl, h2⟩
theorem CntI.set {es es' : List (Mx Int)} {l : List Int} {q n : Nat} {k : Int} (h : CntI es l q) (hn : n ≤ q) (hs : ∀ j, getM es' j = if j = k then some (.int .i64 ((n + 1 : Nat) : Int)) else getM es j) (hl : es'.length = es.length + (if (getM es k).isSome then 0 else 1)) : CntI es' (addI l k) (q + 1) := by
  refine ⟨?_, fun j => ?_, fun j v hv => ?_⟩
  · rw [hl, h.len]
    unfold addI
    by_cases hk : k ∈ l
    · rw [if_pos hk, if_pos ((h.iff k).1 hk)]; rfl
    · rw [if_neg hk, if_neg fun e => hk ((h.iff k).2 e)]; simp
  · rw [hs]
    by_cases e : j = k
    · subst e
      rw [if_pos rfl]
      unfold addI
      split
      · simp_all
      · simp
    · rw [if_neg e, ← h.iff j]
      unfold addI
      split
      · rfl
      · simp [e]
  · rw [hs] at hv
    by_cases e : j = k
    · rw [if_pos e] at hv
      cases hv
      exact ⟨n + 1, rfl, by omega⟩
    · rw [if_neg e] at hv
      obtain ⟨m, h1, h2⟩ := h.val j v hv
      exact ⟨m, h1, by omega⟩
theorem F.depth_le : ∀ f : F, f.depth ≤ f.size
  | .nil => Nat.le_refl _
  | .nd x ks r => by
    have := F.depth_le ks
    have := F.depth_le r
    simp only [F.depth, F.size]; omega
/-- the product, no more than 2^62 -/
def enL (by' : Nat) : Nat → Nat → Nat
  | 0, out => out
  | k + 1, out => if 4611686018427387904 / by' < out then 4611686018427387904 else enL by' k (out * by')
theorem enL_yes {b k out : Nat} (h : 4611686018427387904 / b < out) : enL b (k + 1) out = 4611686018427387904 := by rw [enL, if_pos h]
theorem enL_no {b k out : Nat} (h : ¬ 4611686018427387904 / b < out) : enL b (k + 1) out = enL b k (out * b) := by rw [enL, if_neg h]
theorem en_mul {b out : Nat} (hb : 0 < b) (h : ¬ 4611686018427387904 / b < out) : out * b ≤ 4611686018427387904 := by
  have h1 : out ≤ 4611686018427387904 / b := by omega
  exact (Nat.le_div_iff_mul_le hb).1 h1
def enN (ks : F) (wt : Nat) (re : List Nd) (n : Nat) : Nat := enL (n + 2) (2 * (ks.depth + 1) + 2 * (refsI re).length + 4) wt
theorem tdiv_nat {a b : Nat} : ((a : Int).tdiv (b : Int)) = ((a / b : Nat) : Int) := by
  rw [Int.natCast_ediv]; exact Int.tdiv_eq_ediv_of_nonneg (by omega)
theorem wrap_u64n {x : Nat} (h : x < 18446744073709551616) : IntKind.u64.wrap (x : Int) = x := by rw [wrap_u64]; omega
def Eix (n : Nat) : List Value := [.int .i64 n]
instance : Enc Eix 1 := ⟨fun _ => rfl, fun _ _ h => by simp [Eix] at h; subst h; rfl⟩
/-- of each node the place behind it and all in it, from a place on -/
def EndsOk (re : List Nd) (a : Nat) (l : List Nat) : Prop := l.length = re.length ∧ ∀ (i : Nat) (x : Nd) (ks r : F) (i' : Nat), a ≤ i → Part re (.nd x ks r) i i' → l[i]? = some (i + 1 + ks.size)
theorem Part.uniq {re : List Nd} {x y : Nd} {ks js r s : F} {i i' i2 : Nat} (h : Part re (.nd x ks r) i i') (h' : Part re (.nd y js s) i i2) : ks = js := by
  have h1 := h.one; have h2 := h'.one
  have := flat_inj (.nd x ks .nil) (.nd y js .nil) _ _ h1.wf h2.wf rfl (h1.flat.symm.trans h2.flat)
  have := this.1
  simp at this
  exact this.2
/-- the code of one node with all in it -/
def codeOne (x : Nd) (ks : F) (b : Nat) : List In := oneC x (fun b => code ks false b 0) (fun b => code ks true b (b + lenM ks true)) (lenM ks false) b
def lenT (x : Nd) (ks : F) : Nat := lenOne x (lenM ks false) (lenM ks true)
/-- of alternatives: the places of the jumps -/
def jmps : F → Nat → List Nat
  | .nil, _ => []
  | .nd x ks r, b => match r with
    | .nil => []
    | _ => (b + 1 + lenT x ks) :: jmps r (b + lenT x ks + 2)
/-- the jumps patched, the first j of them -/
def patch (l : List In) (ps : List Nat) (e : Nat) : List In := ps.foldl (fun l p => l.set p ⟨4, 0, e, 0⟩) l
section
variable {x : Nd} {ks : F} {b : Nat}
end
def IsJ (l : List In) (p : Nat) : Prop := ∃ v : Int, l[p]? = some ⟨4, 0, v, 0⟩
end Go.HL.Kl.Mc
namespace Go.HL.Kl.Mc
open Go Go.HL Go.HL.Kl
theorem F.size_weight : ∀ f : F, f.size ≤ f.weight
  | .nil => Nat.le_refl _
  | .nd x ks r => by
    have h1 := F.size_weight ks
    have h2 := F.size_weight r
    have h3 : ks.weight ≤ times x * ks.weight := Nat.le_mul_of_pos_left _ (times_pos x)
    simp only [F.size, F.weight]; omega
theorem Shp.len {re : List Nd} {x : Nd} {ks : F} (h : Shp re x ks) : re.length ≤ 16384 := by
  have h1 := F.size_weight (.nd x ks .nil)
  have := h.weight
  rw [h.flat]
  simp only [F.size] at h1
  simp only [List.length_cons, F.flat_size]
  omega
theorem Shp.part {re : List Nd} {x : Nd} {ks : F} (h : Shp re x ks) : Part re (.nd x ks .nil) 0 re.length := by
  refine ⟨h.wf, by rw [List.drop_length, List.drop_zero, List.append_nil]; simp [F.flat, h.flat], ?_, Nat.le_refl _⟩
  rw [h.flat]; simp [F.size, F.flat_size]
/-- an answer of Compile: none for what is not well shaped or has references, else the machine -/
inductive CompP (re : List Nd) (v : Value) (S' : Hp) : Prop
  | shape (hs : shapedB re = false) (hv : v = .tuple #[.slice none 0 0, .int .i64 49])
  | ref (hs : shapedB re = true) (hr : refsB re = true) (hv : v = .tuple #[.slice none 0 0, .int .i64 44])
  | ok {x : Nd} {ks : F} {a : Option Addr} (hs : shapedB re = true) (hr : refsB re = false) (h : Shp re x ks) (hv : v = .tuple #[.slice a (mach (.nd x ks .nil)).length (mach (.nd x ks .nil)).length, .int .i64 0]) (hm : RdS Ein (.slice a (mach (.nd x ks .nil)).length (mach (.nd x ks .nil)).length) (mach (.nd x ks .nil)) S')
/-- likewise: the machine is memory of one's own -/
inductive CompO (T : Nat) (re : List Nd) (v : Value) (S' : Hp) : Prop
  | shape (hs : shapedB re = false) (hv : v = .tuple #[.slice none 0 0, .int .i64 49]) (hn : S' = [])
  | ref (hs : shapedB re = true) (hr : refsB re = true) (hv : v = .tuple #[.slice none 0 0, .int .i64 44]) (hn : S' = [])
  | ok {x : Nd} {ks : F} {a : Option Addr} (hs : shapedB re = true) (hr : refsB re = false) (h : Shp re x ks) (hv : v = .tuple #[.slice a (mach (.nd x ks .nil)).length (mach (.nd x ks .nil)).length, .int .i64 0]) (hm : OwnS Ein 7 T (.slice a (mach (.nd x ks .nil)).length (mach (.nd x ks .nil)).length) (mach (.nd x ks .nil)) S')
end Go.HL.Kl.Mc
namespace Go.HL.Kl
open Go Go.HL
theorem wrap_i64n {x : Nat} (h : x < 9223372036854775808) : IntKind.i64.wrap (x : Int) = x := by
  simp [IntKind.wrap, IntKind.signed, IntKind.bits]; omega
end Go.HL.Kl
namespace Go.HL.Kl.Mc
open Go Go.HL Go.HL.Kl
noncomputable def mokB (m : List In) : Bool := @decide (MOk m) (Classical.propDecidable _)
/-- the first so many instructions are right -/
def MUp (m : List In) (q : Nat) : Prop := ∀ i t, i < q → m[i]? = some t → InOk (m.length - 1) t ∧ (t.op ≤ 3 → i + 1 < m.length)
/-- what an instruction of its kind should be -/
def wantI (t : In) : In := ⟨t.op, if t.op = 1 then t.set else 0, if t.op = 4 ∨ t.op = 5 then t.x else 0, if t.op = 5 then t.y else 0⟩
/-- where one step without a byte leads -/
def succs (t : In) (n p i : Nat) : List Nat :=
  if t.op = 2 then (if p = 0 then [i + 1] else []) else if t.op = 3 then (if p = n then [i + 1] else [])
  else if t.op = 4 then [t.x.toNat] else if t.op = 5 then [t.x.toNat, t.y.toNat] else []
/-- the search so far -/
structure Srch (m : List In) (n p from_ : Nat) (s0 sn : List Bool) (todo : List Nat) : Prop where
  len : sn.length = m.length
  a : ∀ i : Nat, s0[i]? = some true → sn[i]? = some true
  b : ∀ i : Nat, sn[i]? = some true → s0[i]? = some true ∨ EpsS m n p from_ i
  c : ∀ t ∈ todo, EpsS m n p from_ t ∧ t < m.length
  d : ∀ i j : Nat, sn[i]? = some true → Eps m n p i j → sn[j]? = some true ∨ j ∈ todo
  e : sn[from_]? = some true ∨ from_ ∈ todo
/-- how many are not yet seen -/
def unseen (l : List Bool) : Nat := l.countP (!·)
/-- the steps of the machine at which a place is begun -/
def Begn (m : List In) (w : List UInt8) (f p j : Nat) : Prop := (p = f ∧ j = 0) ∨ (f < p ∧ ∃ i, j = i + 1 ∧ Run m w (0, f) (i, p - 1) ∧ Eat m w i (p - 1))
/-- the answer -/
def EndsP (m : List In) (w : List UInt8) (f : Int) (out : List Bool) : Prop := out.length = w.length + 1 ∧ ∀ t : Nat, out[t]? = some true ↔ MOk m ∧ ∃ g : Nat, f = g ∧ g ≤ w.length ∧ Hit m w g t
/-- what reach has seen of the first k begun steps -/
def SeenP (m : List In) (w : List UInt8) (p : Nat) (q : List Nat) (k : Nat) (sn : List Bool) : Prop :=
  sn.length = m.length ∧ (∀ i : Nat, sn[i]? = some true ↔ ∃ t j : Nat, t < k ∧ q[t]? = some j ∧ EpsS m w.length p j i) ∧ ∀ i j : Nat, sn[i]? = some true → Eps m w.length p i j → sn[j]? = some true
/-- the second pass over the first k steps -/
structure PassP (m : List In) (w : List UInt8) (p : Nat) (sn out : List Bool) (k : Nat) (o2 : List Bool) (q2 : List Nat) : Prop where
  len : o2.length = out.length
  st : ∀ j, j ∈ q2 ↔ ∃ i, i < k ∧ j = i + 1 ∧ sn[i]? = some true ∧ Eat m w i p
  out : ∀ t : Nat, o2[t]? = some true ↔ out[t]? = some true ∨ (t = p ∧ ∃ i u, i < k ∧ sn[i]? = some true ∧ m[i]? = some u ∧ u.op = 6)
  le : q2.length ≤ k
/-- the answer of Ends: memory of its own -/
def EndsC (m : List In) (w : List UInt8) (f : Int) (v : Value) (S : Hp) : Prop := ∃ (a : Option Addr) (c : Nat) (out : List Bool), v = .slice a (w.length + 1) c ∧ OwnS Ebo 1 4 v out S ∧ EndsP m w f out
end Go.HL.Kl.Mc
namespace Go.Tab
open Go Go.HL
/-- the first j places of l hold f -/
structure Fill {α : Type} (f : Nat → α) (n j : Nat) (l : List α) : Prop where
  len : l.length = n
  get : ∀ i, i < j → l[i]? = some (f i)
def idT : List UInt8 := (List.range 256).map UInt8.ofNat
def at0 (t : List UInt8) (i : Nat) : UInt8 := t.getD i 0
def thenT (t u : List UInt8) : List UInt8 := (List.range 256).map fun i => at0 u (at0 t i).toNat
def applyT (t b : List UInt8) : List UInt8 := (List.range b.length).map fun i => at0 t (at0 b i).toNat
/-- the table of the first j pairs -/
def newAt (f t : List UInt8) : Nat → Option (List UInt8)
  | 0 => some idT
  | j + 1 => if at0 f j ∈ f.take j then none else (newAt f t j).map (·.set (at0 f j).toNat (at0 t j))
def newR (f t : List UInt8) : Option (List UInt8) := if f.length = t.length then newAt f t f.length else none
def zT : List UInt8 := List.replicate 256 0
/-- what New answers -/
def tabV (r : Option (List UInt8)) : Value := .tuple #[.agg (flat Eb (r.getD zT)).toArray, .int .i64 (if r.isSome then 0 else 60)]
def xyT : List UInt8 := (idT.set 97 120).set 98 121
attribute [irreducible] idT thenT applyT xyT
end Go.Tab
namespace Go.HL
open Go Go.Tab
section
variable {α : Type}
def wdlF (d : Nat → α) (xs : List α) (i : Nat) : α := (xs[i]?).getD (d i)
def wdl (d : Nat → α) (xs : List α) : List α := (List.range (xs.length + 64)).map (wdlF d xs)
attribute [irreducible] wdl wdlF
end
end Go.HL
namespace Go.HL.Kl.Mc
open Go Go.HL Go.HL.Kl
def spI (i : Nat) : In := ⟨0, 0, ((1048576 * 9 + i + 1 : Nat) : Int), -7⟩
/-- the node of one byte -/
def letN (b : UInt8) : Nd := ⟨1, bit b.toNat, 0, 0, 0, 0⟩
theorem En_one : En ⟨1, 0, 0, 0, 0, 0⟩ = [.int .i8 1, .int .u64 0, .int .u64 0, .int .u64 0, .int .u64 0, .int .i64 0, .int .i64 0, .int .i64 0, .int .i64 0] := by
  show _ :: (Ec 0#256 ++ _) = _
  rw [Ec_zero]; rfl
theorem letN_set (b : UInt8) : (En (⟨1, 0, 0, 0, 0, 0⟩ : Nd)).set (0 + 1 + (((b.toNat / 64 : Nat) : Int)).toNat * 1) (Ew (1#64 <<< (b.toNat % 64))) = En (letN b) := by
  have hb := b.toNat_lt
  have h := with_eq (0#256) (x := b.toNat) hb
  have h0 : ∀ i, wd 0#256 i = 0#64 := fun i => by simp [wd]
  rw [h0, BitVec.zero_or, BitVec.zero_or] at h
  show (_ :: (Ec 0#256 ++ _)).set _ _ = _ :: (Ec (bit b.toNat) ++ _)
  rw [← h, ← Ec_set _ _ (by omega), Int.toNat_natCast, show 0 + 1 + b.toNat / 64 * 1 = b.toNat / 64 + 1 by omega, List.set_cons_succ, List.set_append_left _ _ (by show b.toNat / 64 < 4; omega)]; rfl
def starN : Nd := ⟨6, 0, 0, 0, -1, 1⟩
def reW : List Nd := [starN, letN 97]
def ksW : F := .nd (letN 97) .nil .nil
def mW : List In := mach (.nd starN ksW .nil)
theorem let_ok : ndOk (letN 97) = true := by decide +kernel
theorem wfW : (F.nd starN ksW .nil).wf := ⟨by decide +kernel, rfl, ⟨let_ok, rfl, trivial, trivial⟩, trivial⟩
theorem Shp.uniq {re : List Nd} {x y : Nd} {ks js : F} (h : Shp re x ks) (h' : Shp re y js) : x = y ∧ ks = js := by
  have := flat_inj (.nd x ks .nil) (.nd y js .nil) [] [] h.wf h'.wf rfl (by simp only [F.flat, List.append_nil]; rw [← h.flat, ← h'.flat])
  simpa using this.1
def wW : List UInt8 := [97, 97, 98]
theorem En_star : En starN = [.int .i8 6, .int .u64 0, .int .u64 0, .int .u64 0, .int .u64 0, .int .i64 0, .int .i64 0, .int .i64 (-1), .int .i64 1] := by
  show _ :: (Ec 0#256 ++ _) = _
  rw [Ec_zero]; rfl
attribute [irreducible] mW
end Go.HL.Kl.Mc
