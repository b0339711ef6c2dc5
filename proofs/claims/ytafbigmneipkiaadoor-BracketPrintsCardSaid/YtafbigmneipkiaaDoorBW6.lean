/- Part of the proofs over this seat: see the text that holds the theorem. Conditions: each theorem bears its own. -/
import Derived.Test.YtafbigmneipkiaaDoorHlB
import Derived.Test.YtafbigmneipkiaaDoorBW5
import Derived.Test.YtafbigmneipkiaaDoorMC13
namespace Go.Proofs.YtafbigmneipkiaaDoor
open Go Go.HL Go.Proofs Go.Tab Go.HL.Kl Go.HL.Kl.Bk
theorem endM_le (b : UInt8) : (endM b).length ≤ 5 := by unfold endM; split <;> simp
theorem neg_t1 {c : Kl.Cl} (h : c ≠ rng 0 255) (h1 : c.getLsbD 10 = true) : neg c = true := by rw [neg, decide_eq_true h, h1]; rfl
theorem neg_t2 {c : Kl.Cl} (h : c ≠ rng 0 255) (h1 : c = 0) : neg c = true := by rw [neg, decide_eq_true h, decide_eq_true h1, Bool.or_true]; rfl
theorem neg_f1 {c : Kl.Cl} (h : ¬ c ≠ rng 0 255) : neg c = false := by rw [neg, decide_eq_false h]; rfl
theorem neg_f2 {c : Kl.Cl} (h : c ≠ rng 0 255) (h1 : c.getLsbD 10 = false) (h2 : ¬ c = 0) : neg c = false := by rw [neg, decide_eq_true h, h1, decide_eq_false h2]; rfl
theorem runs_take {l : List (Nat × Nat)} {k : Nat} {r : Nat × Nat} (h : l[k]? = some r) : (l.take (k + 1)).flatMap Bk.runM = (l.take k).flatMap Bk.runM ++ runM r := by
  rw [List.take_add_one, h, List.flatMap_append]; simp
set_option maxHeartbeats 2000000 in
theorem print_fn (c : Cl) : HL.Fn Tryd.prog 16 [.agg (Ec c).toArray] (TbB []) [] (fun v S' => ∃ a' c', v = .slice a' (printP c).length c' ∧ OwnS Em 2 35 (.slice a' (printP c).length c') (printP c) S') := by
  refine fn_of Tryd.func16 rfl rfl rfl fun w0 hw => ?_
  refine c_seq fun _ hK1 => ?_
  refine c_region ?_
  refine o_box rfl rfl rfl fun b1 => ?_
  refine o_step rfl (s_assign rfl) ?_
  refine o_nil ?_
  refine x_then (hK1 _ _ ?_)
  refine c_seq fun _ hK2 => ?_
  refine c_region ?_
  refine o_bs (E := Eb) (xs := [91]) (vs := [_]) rfl rfl rfl rfl rfl (by decide) (by decide) fun b7 S7 hS7 => ?_
  refine o_call (signs_fn (some ⟨b7, 0, none⟩) 1 [91] (by simp)) rfl rfl rfl (by exact .nil) (fun w st => (hS7.rdk hiA).out w st) (fun v8 S8 ⟨a8, c8, hv8, hS8⟩ => ?_)
  subst hv8
  refine o_step rfl (s_assign rfl) ?_
  refine o_nil ?_
  refine x_then (hK2 _ _ ?_)
  refine c_seq fun _ hK3 => ?_
  refine c_region ?_
  refine o_callP (range_fn 0 255 (by decide) (by decide)) rfl rfl rfl (fun _ _ => trivial) (fun v9 hv9 => ?_)
  subst hv9
  refine o_alloc (l := Ec 0#256) (by rw [Ec_zero]; rfl) rfl fun b4 => ?_
  refine o_stW rfl rfl upA (Ec_len _) (Ec_len _) (Ec_one _) ?_
  refine o_nil ?_
  refine x_then (hK3 _ _ ?_)
  refine c_seq fun _ hK4 => ?_
  refine c_seqJ (ι := Bool) (fun b => b = neg c) (fun b => [(21, .bool b)]) [(1, _), (2, _), (3, _)] (fun b => (b4, .cells (Ec (rng 0 255)).toArray 28 (0, 0)) :: (b1, .cells (Ec c).toArray 28 (0, 0)) :: S8) sbA ?_ ?_
  · rintro b hb
    refine c_cond rfl (fun hb2 => ?_) (fun hb2 => ?_)
    · skip
      have hn : neg c = true := by rw [← hb]; exact hb2
      have hbd : body c = ~~~c := by rw [body, if_pos hn]
      skip
      · skip
        refine c_seq fun _ hK6 => ?_
        refine c_region ?_
        refine o_step rfl (s_move rfl) ?_
        refine o_bs (E := Eb) (xs := [94]) (vs := [_]) rfl rfl rfl rfl rfl (by decide) (by decide) fun b23 S23 hS23 => ?_
        refine o_call (signs_fn (some ⟨b23, 0, none⟩) 1 [94] (by simp)) rfl rfl rfl (by exact .nil) (fun w st => (hS23.rdk hiA).out w st) (fun v24 S24 ⟨a24, c24, hv24, hS24⟩ => ?_)
        subst hv24
        refine o_app hS8 (hS24.rdk hiA) rfl rfl rfl rfl (by simp only [List.length_append, List.length_map, List.length_cons, List.length_nil] at *; omega) (by simp only [List.length_append, List.length_map, List.length_cons, List.length_nil] at *; omega) rfl pkA fun a25 c25 S25 hS25 => ?_
        refine o_step rfl (s_assign rfl) ?_
        refine o_nil ?_
        refine x_then (hK6 _ _ ?_)
        refine c_region ?_
        refine o_step rfl (s_ldB rfl (RdPK.cels (.own meA)) (Ec_len _)) ?_
        refine o_callP (not_fn c) rfl rfl rfl (fun _ _ => trivial) (fun v27 hv27 => ?_)
        subst hv27
        refine o_stW rfl rfl upA (Ec_len _) (Ec_len _) (Ec_one _) ?_
        refine o_nil ?_
        refine x_then (hK4 _ _ ?_)
        refine c_seq fun _ hK7 => ?_
        refine c_seq fun _ hK8 => ?_
        refine c_region ?_
        refine o_step rfl (s_ldB rfl (RdPK.cels (.own meA)) (Ec_len _)) ?_
        refine o_call (runs_fn (~~~c)) rfl rfl rfl (by exact .nil) (fun w st => tbB_of hw st HSub.nil) (fun v29 S29 ⟨a29, n29, hv29, hS29⟩ => ?_)
        subst hv29
        have hsl29 := hS29.sl
        have hrl := runs_le (~~~c)
        have hrr := runs_rise (~~~c)
        refine o_step rfl (s_len rfl) ?_
        refine o_step rfl (s_move rfl) ?_
        refine o_nil ?_
        refine x_then (hK8 _ _ ?_)
        refine c_block ?_
        refine c_loop3 (fun (k : Nat) (q : Sl Mk) (So : Hp) => k ≤ (runs (~~~c)).length ∧ q.xs = sgn 91 :: ((if neg c = true then [sgn 94] else []) ++ ((runs (~~~c)).take k).flatMap Bk.runM) ∧ q.xs.length ≤ 2 + 11 * k ∧ OwnS Em 2 35 (.slice q.a q.xs.length q.c) q.xs So) (fun (k : Nat) (q : Sl Mk) (So : Hp) => [(31, .int .i64 k), (3, .slice q.a q.xs.length q.c)]) [(2, _), (29, _), (30, _)] (fun (k : Nat) (q : Sl Mk) (So : Hp) => S29 ++ So) (fun (k : Nat) (q : Sl Mk) (So : Hp) => (runs (~~~c)).length - k) 0 ⟨a25, c25, [sgn 91] ++ [sgn 94]⟩ S25 ⟨by omega, by rw [if_pos hn]; rfl, by simp, hS25⟩ sbA sbA hzB ?_
        rintro k q So ⟨hk, hq, hql, hO⟩
        refine c_seq fun _ hK9 => ?_
        refine c_region ?_
        by_cases hkl : k < (runs (~~~c)).length
        · skip
          obtain ⟨r, hr⟩ : ∃ r, r = (runs (~~~c)).getD k (0, 0) := ⟨_, rfl⟩
          have hrg : (runs (~~~c))[k]? = some r := by rw [hr]; simp [List.getD, List.getElem?_eq_getElem hkl]
          obtain ⟨hr1, hr2, _⟩ := hrr k r hrg
          refine o_step rfl (step_cast (v' := .bool true) (s_lss rfl rfl) (by rw [decide_eq_true (by omega)])) ?_
          refine o_nil ?_
          refine x_then (hK9 _ _ ?_)
          refine c_seq fun _ hK10 => ?_
          refine c_true rfl ?_
          refine c_skip ?_
          refine x_then (hK10 _ _ ?_)
          refine c_seq fun _ hK11 => ?_
          refine c_block ?_
          refine c_seq fun _ hK12 => ?_
          refine c_region ?_
          refine o_step rfl (s_idx rfl rfl hsl29 (by omega)) ?_
          refine o_step rfl (s_ldB rfl ((hS29.rdk hiA).lds k hrg (by omega)) rfl) ?_
          refine o_alloc rfl rfl fun b6 => ?_
          refine o_stW rfl rfl upA (by rfl) (by rfl) (by simp [Er, Value.oneCell']) ?_
          refine o_nil ?_
          refine x_then (hK12 _ _ ?_)
          refine c_seq fun _ hK13 => ?_
          refine c_region ?_
          refine o_step rfl (s_move rfl) ?_
          refine o_step rfl (s_field rfl rfl (by decide)) ?_
          refine o_step rfl (s_ld rfl (.own meA rfl)) ?_
          refine o_call (endN_fn r.1 (by omega)) rfl rfl rfl (by exact .nil) (fun w st => tbB_of hw st HSub.nil) (fun v38 S38 ⟨a38, c38, hv38, hS38⟩ => ?_)
          subst hv38
          have hel38 := endM_le (UInt8.ofNat r.1)
          refine o_app hO (hS38.rdk hiA) rfl rfl rfl rfl (by simp only [List.length_append, List.length_map, List.length_cons, List.length_nil] at *; omega) (by simp only [List.length_append, List.length_map, List.length_cons, List.length_nil] at *; omega) rfl pkA fun a39 c39 S39 hS39 => ?_
          refine o_step rfl (s_assign rfl) ?_
          refine o_nil ?_
          refine x_then (hK13 _ _ ?_)
          refine c_seq fun _ hK14 => ?_
          refine c_region ?_
          refine o_step rfl (s_field rfl rfl (by decide)) ?_
          refine o_step rfl (s_ld rfl (.own meA rfl)) ?_
          refine o_step rfl (s_field rfl rfl (by decide)) ?_
          refine o_step rfl (s_ld rfl (.own meA rfl)) ?_
          refine o_step rfl (s_neq rfl rfl) ?_
          refine o_nil ?_
          refine x_then (hK14 _ _ ?_)
          refine c_if rfl (fun hne => ?_) (fun hne => ?_)
          · skip
            refine c_seq fun _ hK15 => ?_
            refine c_region ?_
            refine o_step rfl (s_move rfl) ?_
            refine o_bs (E := Eb) (xs := [45]) (vs := [_]) rfl rfl rfl rfl rfl (by decide) (by decide) fun b46 S46 hS46 => ?_
            refine o_call (signs_fn (some ⟨b46, 0, none⟩) 1 [45] (by simp)) rfl rfl rfl (by exact .nil) (fun w st => (hS46.rdk hiA).out w st) (fun v47 S47 ⟨a47, c47, hv47, hS47⟩ => ?_)
            subst hv47
            refine o_app hS39 (hS47.rdk hiA) rfl rfl rfl rfl (by simp only [List.length_append, List.length_map, List.length_cons, List.length_nil] at *; omega) (by simp only [List.length_append, List.length_map, List.length_cons, List.length_nil] at *; omega) rfl pkA fun a48 c48 S48 hS48 => ?_
            refine o_step rfl (s_assign rfl) ?_
            refine o_nil ?_
            refine x_then (hK15 _ _ ?_)
            refine c_region ?_
            refine o_step rfl (s_move rfl) ?_
            refine o_step rfl (s_field rfl rfl (by decide)) ?_
            refine o_step rfl (s_ld rfl (.own meA rfl)) ?_
            refine o_call (endN_fn r.2 (by omega)) rfl rfl rfl (by exact .nil) (fun w st => tbB_of hw st HSub.nil) (fun v52 S52 ⟨a52, c52, hv52, hS52⟩ => ?_)
            subst hv52
            have hel52 := endM_le (UInt8.ofNat r.2)
            refine o_app hS48 (hS52.rdk hiA) rfl rfl rfl rfl (by simp only [List.length_append, List.length_map, List.length_cons, List.length_nil] at *; omega) (by simp only [List.length_append, List.length_map, List.length_cons, List.length_nil] at *; omega) rfl pkA fun a53 c53 S53 hS53 => ?_
            refine o_step rfl (s_assign rfl) ?_
            refine o_nil ?_
            refine x_block ?_
            refine x_then (hK11 _ _ ?_)
            refine c_region ?_
            refine o_step rfl (s_add rfl rfl (by omega)) ?_
            refine o_step rfl (s_move rfl) ?_
            refine o_nil ?_
            exact x_then (x_inv (k + 1, ⟨a53, c53, q.xs ++ endM (UInt8.ofNat r.1) ++ [sgn 45] ++ endM (UInt8.ofNat r.2)⟩, S53) ⟨by omega, by rw [hq, runs_take hrg, Bk.runM, if_neg (show ¬ r.2 = r.1 by omega)]; simp, by simp only [List.length_append, List.length_singleton]; omega, hS53⟩ (by first | omega | (dsimp only; omega)) sbA hzB)
          · skip
            refine c_skip ?_
            refine x_block ?_
            refine x_then (hK11 _ _ ?_)
            refine c_region ?_
            refine o_step rfl (s_add rfl rfl (by omega)) ?_
            refine o_step rfl (s_move rfl) ?_
            refine o_nil ?_
            exact x_then (x_inv (k + 1, ⟨a39, c39, q.xs ++ endM (UInt8.ofNat r.1)⟩, S39) ⟨by omega, by rw [hq, runs_take hrg, Bk.runM, if_pos (show r.2 = r.1 by omega)]; simp, by simp only [List.length_append]; omega, hS39⟩ (by first | omega | (dsimp only; omega)) sbA hzB)
        · skip
          have hke : (runs (~~~c)).take k = (runs (~~~c)) := List.take_of_length_le (by omega)
          rw [hke] at hq
          refine o_step rfl (step_cast (v' := .bool false) (s_lss rfl rfl) (by rw [decide_eq_false (by omega)])) ?_
          refine o_nil ?_
          refine x_then (hK9 _ _ ?_)
          refine c_seq fun _ hK16 => ?_
          refine c_false rfl ?_
          refine c_exit ?_
          refine x_then_exit ?_
          refine x_then_exit ?_
          refine x_block_exit ?_
          refine x_then (hK7 _ _ ?_)
          refine c_seq fun _ hK17 => ?_
          refine c_region ?_
          refine o_step rfl (s_move rfl) ?_
          refine o_bs (E := Eb) (xs := [93]) (vs := [_]) rfl rfl rfl rfl rfl (by decide) (by decide) fun b56 S56 hS56 => ?_
          refine o_call (signs_fn (some ⟨b56, 0, none⟩) 1 [93] (by simp)) rfl rfl rfl (by exact .nil) (fun w st => (hS56.rdk hiA).out w st) (fun v57 S57 ⟨a57, c57, hv57, hS57⟩ => ?_)
          subst hv57
          refine o_app hO (hS57.rdk hiA) rfl rfl rfl rfl (by simp only [List.length_append, List.length_map, List.length_cons, List.length_nil] at *; omega) (by simp only [List.length_append, List.length_map, List.length_cons, List.length_nil] at *; omega) rfl pkA fun a58 c58 S58 hS58 => ?_
          have hpr : printP c = q.xs ++ [sgn 93] := by rw [hq, printP, hbd]; simp
          refine o_step rfl (s_assign rfl) ?_
          refine o_nil ?_
          refine x_then (hK17 _ _ ?_)
          refine c_ret ?_
          refine ?_
          refine x_sub (Sub.refl _) (H' := S58) hzB ?_
          exact x_ret rfl (.tmp rfl (.nil)) (⟨_, _, by rw [hpr]; rfl, by rw [hpr]; exact hS58⟩)
    · skip
      have hn : neg c = false := by rw [← hb]; exact hb2
      have hbd : body c = c := by rw [body, if_neg (by rw [hn]; decide)]
      skip
      · skip
        refine c_skip ?_
        refine x_then (hK4 _ _ ?_)
        refine c_seq fun _ hK18 => ?_
        refine c_seq fun _ hK19 => ?_
        refine c_region ?_
        refine o_step rfl (s_ldB rfl (RdPK.cels (.own meA)) (Ec_len _)) ?_
        refine o_call (runs_fn c) rfl rfl rfl (by exact .nil) (fun w st => tbB_of hw st HSub.nil) (fun v29 S29 ⟨a29, n29, hv29, hS29⟩ => ?_)
        subst hv29
        have hsl29 := hS29.sl
        have hrl := runs_le c
        have hrr := runs_rise c
        refine o_step rfl (s_len rfl) ?_
        refine o_step rfl (s_move rfl) ?_
        refine o_nil ?_
        refine x_then (hK19 _ _ ?_)
        refine c_block ?_
        refine c_loop3 (fun (k : Nat) (q : Sl Mk) (So : Hp) => k ≤ (runs c).length ∧ q.xs = sgn 91 :: ((if neg c = true then [sgn 94] else []) ++ ((runs c).take k).flatMap Bk.runM) ∧ q.xs.length ≤ 2 + 11 * k ∧ OwnS Em 2 35 (.slice q.a q.xs.length q.c) q.xs So) (fun (k : Nat) (q : Sl Mk) (So : Hp) => [(31, .int .i64 k), (3, .slice q.a q.xs.length q.c)]) [(2, _), (29, _), (30, _)] (fun (k : Nat) (q : Sl Mk) (So : Hp) => S29 ++ So) (fun (k : Nat) (q : Sl Mk) (So : Hp) => (runs c).length - k) 0 ⟨a8, c8, [sgn 91]⟩ S8 ⟨by omega, by rw [if_neg (by rw [hn]; decide)]; rfl, by simp, hS8⟩ sbA sbA hzB ?_
        rintro k q So ⟨hk, hq, hql, hO⟩
        refine c_seq fun _ hK20 => ?_
        refine c_region ?_
        by_cases hkl : k < (runs c).length
        · skip
          obtain ⟨r, hr⟩ : ∃ r, r = (runs c).getD k (0, 0) := ⟨_, rfl⟩
          have hrg : (runs c)[k]? = some r := by rw [hr]; simp [List.getD, List.getElem?_eq_getElem hkl]
          obtain ⟨hr1, hr2, _⟩ := hrr k r hrg
          refine o_step rfl (step_cast (v' := .bool true) (s_lss rfl rfl) (by rw [decide_eq_true (by omega)])) ?_
          refine o_nil ?_
          refine x_then (hK20 _ _ ?_)
          refine c_seq fun _ hK21 => ?_
          refine c_true rfl ?_
          refine c_skip ?_
          refine x_then (hK21 _ _ ?_)
          refine c_seq fun _ hK22 => ?_
          refine c_block ?_
          refine c_seq fun _ hK23 => ?_
          refine c_region ?_
          refine o_step rfl (s_idx rfl rfl hsl29 (by omega)) ?_
          refine o_step rfl (s_ldB rfl ((hS29.rdk hiA).lds k hrg (by omega)) rfl) ?_
          refine o_alloc rfl rfl fun b6 => ?_
          refine o_stW rfl rfl upA (by rfl) (by rfl) (by simp [Er, Value.oneCell']) ?_
          refine o_nil ?_
          refine x_then (hK23 _ _ ?_)
          refine c_seq fun _ hK24 => ?_
          refine c_region ?_
          refine o_step rfl (s_move rfl) ?_
          refine o_step rfl (s_field rfl rfl (by decide)) ?_
          refine o_step rfl (s_ld rfl (.own meA rfl)) ?_
          refine o_call (endN_fn r.1 (by omega)) rfl rfl rfl (by exact .nil) (fun w st => tbB_of hw st HSub.nil) (fun v38 S38 ⟨a38, c38, hv38, hS38⟩ => ?_)
          subst hv38
          have hel38 := endM_le (UInt8.ofNat r.1)
          refine o_app hO (hS38.rdk hiA) rfl rfl rfl rfl (by simp only [List.length_append, List.length_map, List.length_cons, List.length_nil] at *; omega) (by simp only [List.length_append, List.length_map, List.length_cons, List.length_nil] at *; omega) rfl pkA fun a39 c39 S39 hS39 => ?_
          refine o_step rfl (s_assign rfl) ?_
          refine o_nil ?_
          refine x_then (hK24 _ _ ?_)
          refine c_seq fun _ hK25 => ?_
          refine c_region ?_
          refine o_step rfl (s_field rfl rfl (by decide)) ?_
          refine o_step rfl (s_ld rfl (.own meA rfl)) ?_
          refine o_step rfl (s_field rfl rfl (by decide)) ?_
          refine o_step rfl (s_ld rfl (.own meA rfl)) ?_
          refine o_step rfl (s_neq rfl rfl) ?_
          refine o_nil ?_
          refine x_then (hK25 _ _ ?_)
          refine c_if rfl (fun hne => ?_) (fun hne => ?_)
          · skip
            refine c_seq fun _ hK26 => ?_
            refine c_region ?_
            refine o_step rfl (s_move rfl) ?_
            refine o_bs (E := Eb) (xs := [45]) (vs := [_]) rfl rfl rfl rfl rfl (by decide) (by decide) fun b46 S46 hS46 => ?_
            refine o_call (signs_fn (some ⟨b46, 0, none⟩) 1 [45] (by simp)) rfl rfl rfl (by exact .nil) (fun w st => (hS46.rdk hiA).out w st) (fun v47 S47 ⟨a47, c47, hv47, hS47⟩ => ?_)
            subst hv47
            refine o_app hS39 (hS47.rdk hiA) rfl rfl rfl rfl (by simp only [List.length_append, List.length_map, List.length_cons, List.length_nil] at *; omega) (by simp only [List.length_append, List.length_map, List.length_cons, List.length_nil] at *; omega) rfl pkA fun a48 c48 S48 hS48 => ?_
            refine o_step rfl (s_assign rfl) ?_
            refine o_nil ?_
            refine x_then (hK26 _ _ ?_)
            refine c_region ?_
            refine o_step rfl (s_move rfl) ?_
            refine o_step rfl (s_field rfl rfl (by decide)) ?_
            refine o_step rfl (s_ld rfl (.own meA rfl)) ?_
            refine o_call (endN_fn r.2 (by omega)) rfl rfl rfl (by exact .nil) (fun w st => tbB_of hw st HSub.nil) (fun v52 S52 ⟨a52, c52, hv52, hS52⟩ => ?_)
            subst hv52
            have hel52 := endM_le (UInt8.ofNat r.2)
            refine o_app hS48 (hS52.rdk hiA) rfl rfl rfl rfl (by simp only [List.length_append, List.length_map, List.length_cons, List.length_nil] at *; omega) (by simp only [List.length_append, List.length_map, List.length_cons, List.length_nil] at *; omega) rfl pkA fun a53 c53 S53 hS53 => ?_
            refine o_step rfl (s_assign rfl) ?_
            refine o_nil ?_
            refine x_block ?_
            refine x_then (hK22 _ _ ?_)
            refine c_region ?_
            refine o_step rfl (s_add rfl rfl (by omega)) ?_
            refine o_step rfl (s_move rfl) ?_
            refine o_nil ?_
            exact x_then (x_inv (k + 1, ⟨a53, c53, q.xs ++ endM (UInt8.ofNat r.1) ++ [sgn 45] ++ endM (UInt8.ofNat r.2)⟩, S53) ⟨by omega, by rw [hq, runs_take hrg, Bk.runM, if_neg (show ¬ r.2 = r.1 by omega)]; simp, by simp only [List.length_append, List.length_singleton]; omega, hS53⟩ (by first | omega | (dsimp only; omega)) sbA hzB)
          · skip
            refine c_skip ?_
            refine x_block ?_
            refine x_then (hK22 _ _ ?_)
            refine c_region ?_
            refine o_step rfl (s_add rfl rfl (by omega)) ?_
            refine o_step rfl (s_move rfl) ?_
            refine o_nil ?_
            exact x_then (x_inv (k + 1, ⟨a39, c39, q.xs ++ endM (UInt8.ofNat r.1)⟩, S39) ⟨by omega, by rw [hq, runs_take hrg, Bk.runM, if_pos (show r.2 = r.1 by omega)]; simp, by simp only [List.length_append]; omega, hS39⟩ (by first | omega | (dsimp only; omega)) sbA hzB)
        · skip
          have hke : (runs c).take k = (runs c) := List.take_of_length_le (by omega)
          rw [hke] at hq
          refine o_step rfl (step_cast (v' := .bool false) (s_lss rfl rfl) (by rw [decide_eq_false (by omega)])) ?_
          refine o_nil ?_
          refine x_then (hK20 _ _ ?_)
          refine c_seq fun _ hK27 => ?_
          refine c_false rfl ?_
          refine c_exit ?_
          refine x_then_exit ?_
          refine x_then_exit ?_
          refine x_block_exit ?_
          refine x_then (hK18 _ _ ?_)
          refine c_seq fun _ hK28 => ?_
          refine c_region ?_
          refine o_step rfl (s_move rfl) ?_
          refine o_bs (E := Eb) (xs := [93]) (vs := [_]) rfl rfl rfl rfl rfl (by decide) (by decide) fun b56 S56 hS56 => ?_
          refine o_call (signs_fn (some ⟨b56, 0, none⟩) 1 [93] (by simp)) rfl rfl rfl (by exact .nil) (fun w st => (hS56.rdk hiA).out w st) (fun v57 S57 ⟨a57, c57, hv57, hS57⟩ => ?_)
          subst hv57
          refine o_app hO (hS57.rdk hiA) rfl rfl rfl rfl (by simp only [List.length_append, List.length_map, List.length_cons, List.length_nil] at *; omega) (by simp only [List.length_append, List.length_map, List.length_cons, List.length_nil] at *; omega) rfl pkA fun a58 c58 S58 hS58 => ?_
          have hpr : printP c = q.xs ++ [sgn 93] := by rw [hq, printP, hbd]; simp
          refine o_step rfl (s_assign rfl) ?_
          refine o_nil ?_
          refine x_then (hK28 _ _ ?_)
          refine c_ret ?_
          refine ?_
          refine x_sub (Sub.refl _) (H' := S58) hzB ?_
          exact x_ret rfl (.tmp rfl (.nil)) (⟨_, _, by rw [hpr]; rfl, by rw [hpr]; exact hS58⟩)
  · intro _ hJ5
    refine c_region ?_
    refine o_step rfl (s_ldB rfl (RdPK.cels (.own meA)) (Ec_len _)) ?_
    refine o_step rfl (s_ldB rfl (RdPK.cels (.own meA)) (Ec_len _)) ?_
    by_cases hall : c ≠ rng 0 255
    · skip
      refine o_step rfl (step_cast (v' := .bool true) (s_neq_cl rfl rfl) (by rw [decide_eq_true hall])) ?_
      refine o_step rfl (s_move rfl) ?_
      refine o_yes rfl rfl ?_
      refine o_step rfl (s_ldB rfl (RdPK.cels (.own meA)) (Ec_len _)) ?_
      refine o_yes rfl rfl ?_
      refine o_callP (has_fn c 10 (by decide)) rfl rfl rfl (fun _ _ => trivial) (fun v15 hv15 => ?_)
      subst hv15
      cases h10 : c.getLsbD 10
      · skip
        refine o_yes rfl rfl ?_
        refine o_step rfl (s_move rfl) ?_
        refine o_yes rfl rfl ?_
        refine o_step rfl (s_ldB rfl (RdPK.cels (.own meA)) (Ec_len _)) ?_
        refine o_yes rfl rfl ?_
        refine o_step rfl (step_cast (v' := .agg (Ec 0#256).toArray) (s_build0 rfl) (by rw [Ec_zero]; rfl)) ?_
        refine o_yes rfl rfl ?_
        by_cases hz : c = 0#256
        · skip
          refine o_step rfl (step_cast (v' := .bool true) (s_eql_cl rfl rfl) (by rw [decide_eq_true hz])) ?_
          refine o_yes rfl rfl ?_
          refine o_step rfl (s_pick_f rfl rfl) ?_
          refine o_step rfl (s_pick_t rfl rfl) ?_
          refine o_nil ?_
          exact x_then (hJ5 true _ _ (neg_t2 hall hz).symm sbA sbA hzB)
        · skip
          refine o_step rfl (step_cast (v' := .bool false) (s_eql_cl rfl rfl) (by rw [decide_eq_false hz])) ?_
          refine o_yes rfl rfl ?_
          refine o_step rfl (s_pick_f rfl rfl) ?_
          refine o_step rfl (s_pick_t rfl rfl) ?_
          refine o_nil ?_
          exact x_then (hJ5 false _ _ (neg_f2 hall h10 hz).symm sbA sbA hzB)
      · skip
        refine o_yes rfl rfl ?_
        refine o_step rfl (s_move rfl) ?_
        refine o_no rfl rfl rfl rfl ?_
        refine o_no rfl rfl rfl rfl ?_
        refine o_no rfl rfl rfl rfl ?_
        refine o_yes rfl rfl ?_
        refine o_step rfl (s_pick_t rfl rfl) ?_
        refine o_step rfl (s_pick_t rfl rfl) ?_
        refine o_nil ?_
        exact x_then (hJ5 true _ _ (neg_t1 hall h10).symm sbA sbA hzB)
    · skip
      refine o_step rfl (step_cast (v' := .bool false) (s_neq_cl rfl rfl) (by rw [decide_eq_false hall])) ?_
      refine o_step rfl (s_move rfl) ?_
      refine o_no rfl rfl rfl rfl ?_
      refine o_no rfl rfl rfl rfl ?_
      refine o_no rfl rfl rfl rfl ?_
      refine o_noU rfl rfl rfl ?_
      refine o_noU rfl rfl rfl ?_
      refine o_noU rfl rfl rfl ?_
      refine o_no rfl rfl rfl rfl ?_
      refine o_step rfl (s_pick_f rfl rfl) ?_
      refine o_nil ?_
      exact x_then (hJ5 false _ _ (neg_f1 hall).symm sbA sbA hzB)
end Go.Proofs.YtafbigmneipkiaaDoor
