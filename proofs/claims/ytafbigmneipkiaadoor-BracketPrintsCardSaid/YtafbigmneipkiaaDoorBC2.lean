/- Part of the proofs over this seat: see the text that holds the theorem. Conditions: each theorem bears its own. -/
import Derived.Test.YtafbigmneipkiaaDoorHlB
import Derived.Test.YtafbigmneipkiaaDoorBC1
import Derived.Test.YtafbigmneipkiaaDoorMC16
namespace Go.Proofs.YtafbigmneipkiaaDoor
open Go Go.HL Go.Proofs Go.HL.Kl

theorem named_fn (s : ByteArray) : HL.Fn Tryd.prog 23 [.string s] (fun _ => True) [] (fun v _ => v = nmV (named s)) := by
  refine fn_of Tryd.func23 rfl rfl rfl fun w0 hw => ?_
  refine c_seq fun _ hK1 => ?_
  refine c_region ?_
  refine o_alloc (l := Ec 0#256) (by rw [Ec_zero]; rfl) rfl fun b2 => ?_
  refine o_step rfl (s_assign rfl) ?_
  refine o_nil ?_
  refine x_then (hK1 _ _ ?_)
  refine c_seq fun _ hK2 => ?_
  refine c_region ?_
  refine o_callP (range_fn 65 90 (by decide) (by decide)) rfl rfl rfl (fun _ _ => trivial) (fun v8 hv8 => ?_)
  subst hv8
  refine o_callP (range_fn 97 122 (by decide) (by decide)) rfl rfl rfl (fun _ _ => trivial) (fun v9 hv9 => ?_)
  subst hv9
  refine o_callP (range_fn 48 57 (by decide) (by decide)) rfl rfl rfl (fun _ _ => trivial) (fun v10 hv10 => ?_)
  subst hv10
  refine o_alloc (l := Ec 0#256) (by rw [Ec_zero]; rfl) rfl fun b4 => ?_
  refine o_alloc (l := Ec 0#256) (by rw [Ec_zero]; rfl) rfl fun b5 => ?_
  refine o_alloc (l := Ec 0#256) (by rw [Ec_zero]; rfl) rfl fun b6 => ?_
  refine o_stW rfl rfl upA lnA lnA (by first | exact Ec_one _ | exact flat_one _ _ | exact one_rep rfl | (simp [Value.oneCell']; done)) ?_
  refine o_stW rfl rfl upA lnA lnA (by first | exact Ec_one _ | exact flat_one _ _ | exact one_rep rfl | (simp [Value.oneCell']; done)) ?_
  refine o_stW rfl rfl upA lnA lnA (by first | exact Ec_one _ | exact flat_one _ _ | exact one_rep rfl | (simp [Value.oneCell']; done)) ?_
  refine o_nil ?_
  refine x_then (hK2 _ _ ?_)
  refine c_seq fun _ hK3 => ?_
  refine c_drawE ([(b6, .cells (Ec nmD).toArray 28 (0, 0)), (b5, .cells (Ec nmL).toArray 28 (0, 0)), (b4, .cells (Ec nmU).toArray 28 (0, 0)), (b2, .cells (Ec 0#256).toArray 28 (0, 0))]) (fun i => Nat.beq i 6) ?_
  refine e_take 0 rfl (by kernel_rfl) (by kernel_rfl) (by kernel_rfl) (by kernel_rfl) (fun _ _ => rfl) rfl hzA (s_ldB rfl (RdPK.cels (.own meA)) lnA) ?_
  refine e_take 1 rfl (by kernel_rfl) (by kernel_rfl) (by kernel_rfl) (by kernel_rfl) (fun _ _ => rfl) rfl hzA (s_ldB rfl (RdPK.cels (.own meA)) lnA) ?_
  refine e_take 3 rfl (by kernel_rfl) (by kernel_rfl) (by kernel_rfl) (by kernel_rfl) (fun _ _ => rfl) rfl hzA (s_ldB rfl (RdPK.cels (.own meA)) lnA) ?_
  refine e_join (ι := Nat) (fun b7 => [(13, .agg (Ec (nmU ||| nmL)).toArray), (15, .agg (Ec nmAN).toArray), (7, .pointer (some ⟨b7, 0, none⟩))]) [(0, _), (2, _), (3, _), (4, _), (5, _), (6, _)] (fun b7 => [(b7, .cells (Ec 0#256).toArray 28 (0, 0)), (b6, .cells (Ec nmD).toArray 28 (0, 0)), (b5, .cells (Ec nmL).toArray 28 (0, 0)), (b4, .cells (Ec nmU).toArray 28 (0, 0)), (b2, .cells (Ec 0#256).toArray 28 (0, 0))]) 1 #[true, true, true, true, true, true, false] sbA (fun hJ => ?_) ?_
  · skip
    refine e_any2 2 5 rfl rfl (by kernel_rfl) ?_ ?_
    · skip
      refine o_callP (or_fn _ _) rfl rfl rfl (fun _ _ => trivial) (fun v13 hv13 => ?_)
      subst hv13
      refine o_nil ?_
      refine x_oneS hzA ?_
      refine e_any2 4 5 rfl rfl (by kernel_rfl) ?_ ?_
      · skip
        refine o_callP (or_fn _ _) rfl rfl rfl (fun _ _ => trivial) (fun v15 hv15 => ?_)
        subst hv15
        refine o_nil ?_
        refine x_oneS hzA ?_
        refine e_one 5 rfl (by kernel_rfl) ?_
        refine o_alloc (l := Ec 0#256) (by rw [Ec_zero]; rfl) rfl fun b7 => ?_
        refine o_nil ?_
        refine x_oneS hzA ?_
        exact e_lst (by kernel_rfl) (hJ b7 _ _ sbA sbA hzA)
      · skip
        refine o_alloc (l := Ec 0#256) (by rw [Ec_zero]; rfl) rfl fun b7 => ?_
        refine o_nil ?_
        refine x_oneS hzA ?_
        refine e_one 4 rfl (by kernel_rfl) ?_
        refine o_callP (or_fn _ _) rfl rfl rfl (fun _ _ => trivial) (fun v15 hv15 => ?_)
        subst hv15
        refine o_nil ?_
        refine x_oneS hzA ?_
        exact e_lst (by kernel_rfl) (hJ b7 _ _ sbA sbA hzA)
    · skip
      refine o_alloc (l := Ec 0#256) (by rw [Ec_zero]; rfl) rfl fun b7 => ?_
      refine o_nil ?_
      refine x_oneS hzA ?_
      refine e_one 2 rfl (by kernel_rfl) ?_
      refine o_callP (or_fn _ _) rfl rfl rfl (fun _ _ => trivial) (fun v13 hv13 => ?_)
      subst hv13
      refine o_nil ?_
      refine x_oneS hzA ?_
      refine e_one 4 rfl (by kernel_rfl) ?_
      refine o_callP (or_fn _ _) rfl rfl rfl (fun _ _ => trivial) (fun v15 hv15 => ?_)
      subst hv15
      refine o_nil ?_
      refine x_oneS hzA ?_
      exact e_lst (by kernel_rfl) (hJ b7 _ _ sbA sbA hzA)
  · rintro b7
    refine e_one 6 rfl (by kernel_rfl) ?_
    refine o_stW rfl rfl upA lnA lnA (by first | exact Ec_one _ | exact flat_one _ _ | exact one_rep rfl | (simp [Value.oneCell']; done)) ?_
    refine o_nil ?_
    refine x_oneL rfl ?_
    refine e_done (by kernel_rfl) ?_
    refine x_then (hK3 _ _ ?_)
    refine c_seq fun _ hK4 => ?_
    refine c_seq fun _ hK5 => ?_
    refine c_region ?_
    refine o_step rfl (s_move rfl) ?_
    refine o_nil ?_
    refine x_then (hK5 _ _ ?_)
    refine c_block ?_
    refine c_seq fun _ hK6 => ?_
    refine c_region ?_
    refine o_step rfl (s_eql_str rfl rfl) ?_
    refine o_step rfl (s_assign rfl) ?_
    refine o_nil ?_
    refine x_then (hK6 _ _ ?_)
    refine c_if rfl (fun hif17 => ?_) (fun hif17 => ?_)
    · skip
      refine c_seq fun _ hK7 => ?_
      refine c_region ?_
      refine o_step rfl (s_ldB rfl (RdPK.cels (.own meA)) lnA) ?_
      refine o_stW rfl rfl upA lnA lnA (by first | exact Ec_one _ | exact flat_one _ _ | exact one_rep rfl | (simp [Value.oneCell']; done)) ?_
      refine o_step rfl (s_assign rfl) ?_
      refine o_nil ?_
      refine x_then (hK7 _ _ ?_)
      refine c_ret ?_
      refine x_block_ret (x_then_ret (?_))
      exact x_ret rfl (.agg inferInstance inferInstance rfl (RdPK.cels (.own meA)) lnA (.tmp rfl (.nil))) ((by unfold named; rw [if_pos hif17]; rfl))
    · skip
      refine c_seq fun _ hK8 => ?_
      refine c_region ?_
      refine o_step rfl (s_eql_str rfl rfl) ?_
      refine o_step rfl (s_assign rfl) ?_
      refine o_nil ?_
      refine x_then (hK8 _ _ ?_)
      refine c_if rfl (fun hif20 => ?_) (fun hif20 => ?_)
      · skip
        refine c_seq fun _ hK9 => ?_
        refine c_region ?_
        refine o_step rfl (s_ldB rfl (RdPK.cels (.own meA)) lnA) ?_
        refine o_step rfl (s_ldB rfl (RdPK.cels (.own meA)) lnA) ?_
        refine o_callP (or_fn _ _) rfl rfl rfl (fun _ _ => trivial) (fun v24 hv24 => ?_)
        subst hv24
        refine o_stW rfl rfl upA lnA lnA (by first | exact Ec_one _ | exact flat_one _ _ | exact one_rep rfl | (simp [Value.oneCell']; done)) ?_
        refine o_step rfl (s_assign rfl) ?_
        refine o_nil ?_
        refine x_then (hK9 _ _ ?_)
        refine c_ret ?_
        refine x_block_ret (x_then_ret (?_))
        exact x_ret rfl (.agg inferInstance inferInstance rfl (RdPK.cels (.own meA)) lnA (.tmp rfl (.nil))) ((by unfold named; rw [if_neg hif17, if_pos hif20]; rfl))
      · skip
        refine c_seq fun _ hK10 => ?_
        refine c_region ?_
        refine o_step rfl (s_eql_str rfl rfl) ?_
        refine o_step rfl (s_assign rfl) ?_
        refine o_nil ?_
        refine x_then (hK10 _ _ ?_)
        refine c_if rfl (fun hif25 => ?_) (fun hif25 => ?_)
        · skip
          refine c_seq fun _ hK11 => ?_
          refine c_region ?_
          refine o_bs (E := Eb) (xs := [32, 9]) (vs := [_, _]) rfl rfl rfl rfl rfl (by decide) (by decide) fun b27 S27 hS27 => ?_
          refine o_callP (of_fn _ _ [32, 9]) rfl rfl rfl (fun w st => (hS27.rdk hiA).out w st) (fun v28 hv28 => ?_)
          subst hv28
          refine o_stW rfl rfl upA lnA lnA (by first | exact Ec_one _ | exact flat_one _ _ | exact one_rep rfl | (simp [Value.oneCell']; done)) ?_
          refine o_step rfl (s_assign rfl) ?_
          refine o_nil ?_
          refine x_then (hK11 _ _ ?_)
          refine c_ret ?_
          refine x_block_ret (x_then_ret (?_))
          exact x_ret rfl (.agg inferInstance inferInstance rfl (RdPK.cels (.own meA)) lnA (.tmp rfl (.nil))) ((by unfold named; rw [if_neg hif17, if_neg hif20, if_pos hif25]; rfl))
        · skip
          refine c_seq fun _ hK12 => ?_
          refine c_region ?_
          refine o_step rfl (s_eql_str rfl rfl) ?_
          refine o_step rfl (s_assign rfl) ?_
          refine o_nil ?_
          refine x_then (hK12 _ _ ?_)
          refine c_if rfl (fun hif29 => ?_) (fun hif29 => ?_)
          · skip
            refine c_seq fun _ hK13 => ?_
            refine c_region ?_
            refine o_callP (range_fn 0 31 (by decide) (by decide)) rfl rfl rfl (fun _ _ => trivial) (fun v31 hv31 => ?_)
            subst hv31
            refine o_bs (E := Eb) (xs := [127]) (vs := [_]) rfl rfl rfl rfl rfl (by decide) (by decide) fun b32 S32 hS32 => ?_
            refine o_callP (of_fn _ _ [127]) rfl rfl rfl (fun w st => (hS32.rdk hiA).out w st) (fun v33 hv33 => ?_)
            subst hv33
            refine o_callP (or_fn _ _) rfl rfl rfl (fun _ _ => trivial) (fun v34 hv34 => ?_)
            subst hv34
            refine o_stW rfl rfl upA lnA lnA (by first | exact Ec_one _ | exact flat_one _ _ | exact one_rep rfl | (simp [Value.oneCell']; done)) ?_
            refine o_step rfl (s_assign rfl) ?_
            refine o_nil ?_
            refine x_then (hK13 _ _ ?_)
            refine c_ret ?_
            refine x_block_ret (x_then_ret (?_))
            exact x_ret rfl (.agg inferInstance inferInstance rfl (RdPK.cels (.own meA)) lnA (.tmp rfl (.nil))) ((by unfold named; rw [if_neg hif17, if_neg hif20, if_neg hif25, if_pos hif29]; rfl))
          · skip
            refine c_seq fun _ hK14 => ?_
            refine c_region ?_
            refine o_step rfl (s_eql_str rfl rfl) ?_
            refine o_step rfl (s_assign rfl) ?_
            refine o_nil ?_
            refine x_then (hK14 _ _ ?_)
            refine c_if rfl (fun hif35 => ?_) (fun hif35 => ?_)
            · skip
              refine c_seq fun _ hK15 => ?_
              refine c_region ?_
              refine o_step rfl (s_ldB rfl (RdPK.cels (.own meA)) lnA) ?_
              refine o_stW rfl rfl upA lnA lnA (by first | exact Ec_one _ | exact flat_one _ _ | exact one_rep rfl | (simp [Value.oneCell']; done)) ?_
              refine o_step rfl (s_assign rfl) ?_
              refine o_nil ?_
              refine x_then (hK15 _ _ ?_)
              refine c_ret ?_
              refine x_block_ret (x_then_ret (?_))
              exact x_ret rfl (.agg inferInstance inferInstance rfl (RdPK.cels (.own meA)) lnA (.tmp rfl (.nil))) ((by unfold named; rw [if_neg hif17, if_neg hif20, if_neg hif25, if_neg hif29, if_pos hif35]; rfl))
            · skip
              refine c_seq fun _ hK16 => ?_
              refine c_region ?_
              refine o_step rfl (s_eql_str rfl rfl) ?_
              refine o_step rfl (s_assign rfl) ?_
              refine o_nil ?_
              refine x_then (hK16 _ _ ?_)
              refine c_if rfl (fun hif38 => ?_) (fun hif38 => ?_)
              · skip
                refine c_seq fun _ hK17 => ?_
                refine c_region ?_
                refine o_callP (range_fn 33 126 (by decide) (by decide)) rfl rfl rfl (fun _ _ => trivial) (fun v40 hv40 => ?_)
                subst hv40
                refine o_stW rfl rfl upA lnA lnA (by first | exact Ec_one _ | exact flat_one _ _ | exact one_rep rfl | (simp [Value.oneCell']; done)) ?_
                refine o_step rfl (s_assign rfl) ?_
                refine o_nil ?_
                refine x_then (hK17 _ _ ?_)
                refine c_ret ?_
                refine x_block_ret (x_then_ret (?_))
                exact x_ret rfl (.agg inferInstance inferInstance rfl (RdPK.cels (.own meA)) lnA (.tmp rfl (.nil))) ((by unfold named; rw [if_neg hif17, if_neg hif20, if_neg hif25, if_neg hif29, if_neg hif35, if_pos hif38]; rfl))
              · skip
                refine c_seq fun _ hK18 => ?_
                refine c_region ?_
                refine o_step rfl (s_eql_str rfl rfl) ?_
                refine o_step rfl (s_assign rfl) ?_
                refine o_nil ?_
                refine x_then (hK18 _ _ ?_)
                refine c_if rfl (fun hif41 => ?_) (fun hif41 => ?_)
                · skip
                  refine c_seq fun _ hK19 => ?_
                  refine c_region ?_
                  refine o_step rfl (s_ldB rfl (RdPK.cels (.own meA)) lnA) ?_
                  refine o_stW rfl rfl upA lnA lnA (by first | exact Ec_one _ | exact flat_one _ _ | exact one_rep rfl | (simp [Value.oneCell']; done)) ?_
                  refine o_step rfl (s_assign rfl) ?_
                  refine o_nil ?_
                  refine x_then (hK19 _ _ ?_)
                  refine c_ret ?_
                  refine x_block_ret (x_then_ret (?_))
                  exact x_ret rfl (.agg inferInstance inferInstance rfl (RdPK.cels (.own meA)) lnA (.tmp rfl (.nil))) ((by unfold named; rw [if_neg hif17, if_neg hif20, if_neg hif25, if_neg hif29, if_neg hif35, if_neg hif38, if_pos hif41]; rfl))
                · skip
                  refine c_seq fun _ hK20 => ?_
                  refine c_region ?_
                  refine o_step rfl (s_eql_str rfl rfl) ?_
                  refine o_step rfl (s_assign rfl) ?_
                  refine o_nil ?_
                  refine x_then (hK20 _ _ ?_)
                  refine c_if rfl (fun hif44 => ?_) (fun hif44 => ?_)
                  · skip
                    refine c_seq fun _ hK21 => ?_
                    refine c_region ?_
                    refine o_callP (range_fn 32 126 (by decide) (by decide)) rfl rfl rfl (fun _ _ => trivial) (fun v46 hv46 => ?_)
                    subst hv46
                    refine o_stW rfl rfl upA lnA lnA (by first | exact Ec_one _ | exact flat_one _ _ | exact one_rep rfl | (simp [Value.oneCell']; done)) ?_
                    refine o_step rfl (s_assign rfl) ?_
                    refine o_nil ?_
                    refine x_then (hK21 _ _ ?_)
                    refine c_ret ?_
                    refine x_block_ret (x_then_ret (?_))
                    exact x_ret rfl (.agg inferInstance inferInstance rfl (RdPK.cels (.own meA)) lnA (.tmp rfl (.nil))) ((by unfold named; rw [if_neg hif17, if_neg hif20, if_neg hif25, if_neg hif29, if_neg hif35, if_neg hif38, if_neg hif41, if_pos hif44]; rfl))
                  · skip
                    refine c_seq fun _ hK22 => ?_
                    refine c_region ?_
                    refine o_step rfl (s_eql_str rfl rfl) ?_
                    refine o_step rfl (s_assign rfl) ?_
                    refine o_nil ?_
                    refine x_then (hK22 _ _ ?_)
                    refine c_if rfl (fun hif47 => ?_) (fun hif47 => ?_)
                    · skip
                      refine c_seq fun _ hK23 => ?_
                      refine c_drawE ([(b7, .cells (Ec nmAN).toArray 28 (0, 0)), (b6, .cells (Ec nmD).toArray 28 (0, 0)), (b5, .cells (Ec nmL).toArray 28 (0, 0)), (b4, .cells (Ec nmU).toArray 28 (0, 0)), (b2, .cells (Ec 0#256).toArray 28 (0, 0))]) (fun i => Nat.beq i 4 || Nat.beq i 5) ?_
                      refine e_take 1 rfl (by kernel_rfl) (by kernel_rfl) (by kernel_rfl) (by kernel_rfl) (fun _ _ => rfl) rfl hzA (s_ldB rfl (RdPK.cels (.own meA)) lnA) ?_
                      refine e_one 0 rfl (by kernel_rfl) ?_
                      refine o_callP (range_fn 33 126 (by decide) (by decide)) rfl rfl rfl (fun _ _ => trivial) (fun v49 hv49 => ?_)
                      subst hv49
                      refine o_nil ?_
                      refine x_oneS hzA ?_
                      refine e_one 2 rfl (by kernel_rfl) ?_
                      refine o_callP (not_fn _) rfl rfl rfl (fun _ _ => trivial) (fun v51 hv51 => ?_)
                      subst hv51
                      refine o_nil ?_
                      refine x_oneS hzA ?_
                      refine e_one 3 rfl (by kernel_rfl) ?_
                      refine o_callP (and_fn _ _) rfl rfl rfl (fun _ _ => trivial) (fun v52 hv52 => ?_)
                      subst hv52
                      refine o_nil ?_
                      refine x_oneS hzA ?_
                      refine e_one 4 rfl (by kernel_rfl) ?_
                      refine o_stW rfl rfl upA lnA lnA (by first | exact Ec_one _ | exact flat_one _ _ | exact one_rep rfl | (simp [Value.oneCell']; done)) ?_
                      refine o_nil ?_
                      refine x_oneL rfl ?_
                      refine e_one 5 rfl (by kernel_rfl) ?_
                      refine o_step rfl (s_assign rfl) ?_
                      refine o_nil ?_
                      refine x_oneL rfl ?_
                      refine e_done (by kernel_rfl) ?_
                      refine x_then (hK23 _ _ ?_)
                      refine c_ret ?_
                      refine x_block_ret (x_then_ret (?_))
                      exact x_ret rfl (.agg inferInstance inferInstance rfl (RdPK.cels (.own meA)) lnA (.tmp rfl (.nil))) ((by unfold named; rw [if_neg hif17, if_neg hif20, if_neg hif25, if_neg hif29, if_neg hif35, if_neg hif38, if_neg hif41, if_neg hif44, if_pos hif47]; rfl))
                    · skip
                      refine c_seq fun _ hK24 => ?_
                      refine c_region ?_
                      refine o_step rfl (s_eql_str rfl rfl) ?_
                      refine o_step rfl (s_assign rfl) ?_
                      refine o_nil ?_
                      refine x_then (hK24 _ _ ?_)
                      refine c_if rfl (fun hif53 => ?_) (fun hif53 => ?_)
                      · skip
                        refine c_seq fun _ hK25 => ?_
                        refine c_region ?_
                        refine o_callP (range_fn 9 13 (by decide) (by decide)) rfl rfl rfl (fun _ _ => trivial) (fun v55 hv55 => ?_)
                        subst hv55
                        refine o_bs (E := Eb) (xs := [32]) (vs := [_]) rfl rfl rfl rfl rfl (by decide) (by decide) fun b56 S56 hS56 => ?_
                        refine o_callP (of_fn _ _ [32]) rfl rfl rfl (fun w st => (hS56.rdk hiA).out w st) (fun v57 hv57 => ?_)
                        subst hv57
                        refine o_callP (or_fn _ _) rfl rfl rfl (fun _ _ => trivial) (fun v58 hv58 => ?_)
                        subst hv58
                        refine o_stW rfl rfl upA lnA lnA (by first | exact Ec_one _ | exact flat_one _ _ | exact one_rep rfl | (simp [Value.oneCell']; done)) ?_
                        refine o_step rfl (s_assign rfl) ?_
                        refine o_nil ?_
                        refine x_then (hK25 _ _ ?_)
                        refine c_ret ?_
                        refine x_block_ret (x_then_ret (?_))
                        exact x_ret rfl (.agg inferInstance inferInstance rfl (RdPK.cels (.own meA)) lnA (.tmp rfl (.nil))) ((by unfold named; rw [if_neg hif17, if_neg hif20, if_neg hif25, if_neg hif29, if_neg hif35, if_neg hif38, if_neg hif41, if_neg hif44, if_neg hif47, if_pos hif53]; rfl))
                      · skip
                        refine c_seq fun _ hK26 => ?_
                        refine c_region ?_
                        refine o_step rfl (s_eql_str rfl rfl) ?_
                        refine o_step rfl (s_assign rfl) ?_
                        refine o_nil ?_
                        refine x_then (hK26 _ _ ?_)
                        refine c_if rfl (fun hif59 => ?_) (fun hif59 => ?_)
                        · skip
                          refine c_seq fun _ hK27 => ?_
                          refine c_region ?_
                          refine o_step rfl (s_ldB rfl (RdPK.cels (.own meA)) lnA) ?_
                          refine o_stW rfl rfl upA lnA lnA (by first | exact Ec_one _ | exact flat_one _ _ | exact one_rep rfl | (simp [Value.oneCell']; done)) ?_
                          refine o_step rfl (s_assign rfl) ?_
                          refine o_nil ?_
                          refine x_then (hK27 _ _ ?_)
                          refine c_ret ?_
                          refine x_block_ret (x_then_ret (?_))
                          exact x_ret rfl (.agg inferInstance inferInstance rfl (RdPK.cels (.own meA)) lnA (.tmp rfl (.nil))) ((by unfold named; rw [if_neg hif17, if_neg hif20, if_neg hif25, if_neg hif29, if_neg hif35, if_neg hif38, if_neg hif41, if_neg hif44, if_neg hif47, if_neg hif53, if_pos hif59]; rfl))
                        · skip
                          refine c_seq fun _ hK28 => ?_
                          refine c_region ?_
                          refine o_step rfl (s_eql_str rfl rfl) ?_
                          refine o_step rfl (s_assign rfl) ?_
                          refine o_nil ?_
                          refine x_then (hK28 _ _ ?_)
                          refine c_if rfl (fun hif62 => ?_) (fun hif62 => ?_)
                          · skip
                            refine c_seq fun _ hK29 => ?_
                            refine c_drawE ([(b7, .cells (Ec nmAN).toArray 28 (0, 0)), (b6, .cells (Ec nmD).toArray 28 (0, 0)), (b5, .cells (Ec nmL).toArray 28 (0, 0)), (b4, .cells (Ec nmU).toArray 28 (0, 0)), (b2, .cells (Ec 0#256).toArray 28 (0, 0))]) (fun i => Nat.beq i 5 || Nat.beq i 6) ?_
                            refine e_take 0 rfl (by kernel_rfl) (by kernel_rfl) (by kernel_rfl) (by kernel_rfl) (fun _ _ => rfl) rfl hzA (s_ldB rfl (RdPK.cels (.own meA)) lnA) ?_
                            refine e_one 1 rfl (by kernel_rfl) ?_
                            refine o_callP (range_fn 65 70 (by decide) (by decide)) rfl rfl rfl (fun _ _ => trivial) (fun v65 hv65 => ?_)
                            subst hv65
                            refine o_nil ?_
                            refine x_oneS hzA ?_
                            refine e_one 2 rfl (by kernel_rfl) ?_
                            refine o_callP (range_fn 97 102 (by decide) (by decide)) rfl rfl rfl (fun _ _ => trivial) (fun v66 hv66 => ?_)
                            subst hv66
                            refine o_nil ?_
                            refine x_oneS hzA ?_
                            refine e_one 3 rfl (by kernel_rfl) ?_
                            refine o_callP (or_fn _ _) rfl rfl rfl (fun _ _ => trivial) (fun v67 hv67 => ?_)
                            subst hv67
                            refine o_nil ?_
                            refine x_oneS hzA ?_
                            refine e_one 4 rfl (by kernel_rfl) ?_
                            refine o_callP (or_fn _ _) rfl rfl rfl (fun _ _ => trivial) (fun v68 hv68 => ?_)
                            subst hv68
                            refine o_nil ?_
                            refine x_oneS hzA ?_
                            refine e_one 5 rfl (by kernel_rfl) ?_
                            refine o_stW rfl rfl upA lnA lnA (by first | exact Ec_one _ | exact flat_one _ _ | exact one_rep rfl | (simp [Value.oneCell']; done)) ?_
                            refine o_nil ?_
                            refine x_oneL rfl ?_
                            refine e_one 6 rfl (by kernel_rfl) ?_
                            refine o_step rfl (s_assign rfl) ?_
                            refine o_nil ?_
                            refine x_oneL rfl ?_
                            refine e_done (by kernel_rfl) ?_
                            refine x_then (hK29 _ _ ?_)
                            refine c_ret ?_
                            refine x_block_ret (x_then_ret (?_))
                            exact x_ret rfl (.agg inferInstance inferInstance rfl (RdPK.cels (.own meA)) lnA (.tmp rfl (.nil))) ((by unfold named; rw [if_neg hif17, if_neg hif20, if_neg hif25, if_neg hif29, if_neg hif35, if_neg hif38, if_neg hif41, if_neg hif44, if_neg hif47, if_neg hif53, if_neg hif59, if_pos hif62]; rfl))
                          · skip
                            refine c_skip ?_
                            refine x_block ?_
                            refine x_then (hK4 _ _ ?_)
                            refine c_seq fun _ hK30 => ?_
                            refine c_region ?_
                            refine o_step rfl (step_cast (v' := .agg (Ec 0#256).toArray) (s_build0 rfl) (by rw [Ec_zero]; rfl)) ?_
                            refine o_stW rfl rfl upA lnA lnA (by first | exact Ec_one _ | exact flat_one _ _ | exact one_rep rfl | (simp [Value.oneCell']; done)) ?_
                            refine o_step rfl (s_assign rfl) ?_
                            refine o_nil ?_
                            refine x_then (hK30 _ _ ?_)
                            refine c_ret ?_
                            refine ?_
                            exact x_ret rfl (.agg inferInstance inferInstance rfl (RdPK.cels (.own meA)) lnA (.tmp rfl (.nil))) ((by unfold named; rw [if_neg hif17, if_neg hif20, if_neg hif25, if_neg hif29, if_neg hif35, if_neg hif38, if_neg hif41, if_neg hif44, if_neg hif47, if_neg hif53, if_neg hif59, if_neg hif62]; rfl))

theorem rNamed_fn (s : ByteArray) : HL.Fn Tryd.prog 76 [.string s] (fun _ => True) [] (fun v _ => v = nmV (named s)) := by
  refine fn_of Tryd.func76 rfl rfl rfl fun w0 hw => ?_
  refine c_seq fun _ hK1 => ?_
  refine c_region ?_
  refine o_alloc (l := Ec 0#256) (by rw [Ec_zero]; rfl) rfl fun b2 => ?_
  refine o_step rfl (s_assign rfl) ?_
  refine o_nil ?_
  refine x_then (hK1 _ _ ?_)
  refine c_seq fun _ hK2 => ?_
  refine c_region ?_
  refine o_callP (rRange_fn 65 90 (by decide) (by decide)) rfl rfl rfl (fun _ _ => trivial) (fun v8 hv8 => ?_)
  subst hv8
  refine o_alloc (l := Ec 0#256) (by rw [Ec_zero]; rfl) rfl fun b4 => ?_
  refine o_stW rfl rfl upA lnA lnA (by first | exact Ec_one _ | exact flat_one _ _ | exact one_rep rfl | (simp [Value.oneCell']; done)) ?_
  refine o_nil ?_
  refine x_then (hK2 _ _ ?_)
  refine c_seq fun _ hK3 => ?_
  refine c_region ?_
  refine o_callP (rRange_fn 97 122 (by decide) (by decide)) rfl rfl rfl (fun _ _ => trivial) (fun v9 hv9 => ?_)
  subst hv9
  refine o_alloc (l := Ec 0#256) (by rw [Ec_zero]; rfl) rfl fun b5 => ?_
  refine o_stW rfl rfl upA lnA lnA (by first | exact Ec_one _ | exact flat_one _ _ | exact one_rep rfl | (simp [Value.oneCell']; done)) ?_
  refine o_nil ?_
  refine x_then (hK3 _ _ ?_)
  refine c_seq fun _ hK4 => ?_
  refine c_region ?_
  refine o_callP (rRange_fn 48 57 (by decide) (by decide)) rfl rfl rfl (fun _ _ => trivial) (fun v10 hv10 => ?_)
  subst hv10
  refine o_alloc (l := Ec 0#256) (by rw [Ec_zero]; rfl) rfl fun b6 => ?_
  refine o_stW rfl rfl upA lnA lnA (by first | exact Ec_one _ | exact flat_one _ _ | exact one_rep rfl | (simp [Value.oneCell']; done)) ?_
  refine o_nil ?_
  refine x_then (hK4 _ _ ?_)
  refine c_seq fun _ hK5 => ?_
  refine c_drawE ([(b6, .cells (Ec nmD).toArray 28 (0, 0)), (b5, .cells (Ec nmL).toArray 28 (0, 0)), (b4, .cells (Ec nmU).toArray 28 (0, 0)), (b2, .cells (Ec 0#256).toArray 28 (0, 0))]) (fun i => Nat.beq i 6) ?_
  refine e_take 0 rfl (by kernel_rfl) (by kernel_rfl) (by kernel_rfl) (by kernel_rfl) (fun _ _ => rfl) rfl hzA (s_ldB rfl (RdPK.cels (.own meA)) lnA) ?_
  refine e_take 1 rfl (by kernel_rfl) (by kernel_rfl) (by kernel_rfl) (by kernel_rfl) (fun _ _ => rfl) rfl hzA (s_ldB rfl (RdPK.cels (.own meA)) lnA) ?_
  refine e_take 3 rfl (by kernel_rfl) (by kernel_rfl) (by kernel_rfl) (by kernel_rfl) (fun _ _ => rfl) rfl hzA (s_ldB rfl (RdPK.cels (.own meA)) lnA) ?_
  refine e_join (ι := Nat) (fun b7 => [(13, .agg (Ec (nmU ||| nmL)).toArray), (15, .agg (Ec nmAN).toArray), (7, .pointer (some ⟨b7, 0, none⟩))]) [(0, _), (2, _), (3, _), (4, _), (5, _), (6, _)] (fun b7 => [(b7, .cells (Ec 0#256).toArray 28 (0, 0)), (b6, .cells (Ec nmD).toArray 28 (0, 0)), (b5, .cells (Ec nmL).toArray 28 (0, 0)), (b4, .cells (Ec nmU).toArray 28 (0, 0)), (b2, .cells (Ec 0#256).toArray 28 (0, 0))]) 1 #[true, true, true, true, true, true, false] sbA (fun hJ => ?_) ?_
  · skip
    refine e_any2 2 5 rfl rfl (by kernel_rfl) ?_ ?_
    · skip
      refine o_callP (rOr_fn _ _) rfl rfl rfl (fun _ _ => trivial) (fun v13 hv13 => ?_)
      subst hv13
      refine o_nil ?_
      refine x_oneS hzA ?_
      refine e_any2 4 5 rfl rfl (by kernel_rfl) ?_ ?_
      · skip
        refine o_callP (rOr_fn _ _) rfl rfl rfl (fun _ _ => trivial) (fun v15 hv15 => ?_)
        subst hv15
        refine o_nil ?_
        refine x_oneS hzA ?_
        refine e_one 5 rfl (by kernel_rfl) ?_
        refine o_alloc (l := Ec 0#256) (by rw [Ec_zero]; rfl) rfl fun b7 => ?_
        refine o_nil ?_
        refine x_oneS hzA ?_
        exact e_lst (by kernel_rfl) (hJ b7 _ _ sbA sbA hzA)
      · skip
        refine o_alloc (l := Ec 0#256) (by rw [Ec_zero]; rfl) rfl fun b7 => ?_
        refine o_nil ?_
        refine x_oneS hzA ?_
        refine e_one 4 rfl (by kernel_rfl) ?_
        refine o_callP (rOr_fn _ _) rfl rfl rfl (fun _ _ => trivial) (fun v15 hv15 => ?_)
        subst hv15
        refine o_nil ?_
        refine x_oneS hzA ?_
        exact e_lst (by kernel_rfl) (hJ b7 _ _ sbA sbA hzA)
    · skip
      refine o_alloc (l := Ec 0#256) (by rw [Ec_zero]; rfl) rfl fun b7 => ?_
      refine o_nil ?_
      refine x_oneS hzA ?_
      refine e_one 2 rfl (by kernel_rfl) ?_
      refine o_callP (rOr_fn _ _) rfl rfl rfl (fun _ _ => trivial) (fun v13 hv13 => ?_)
      subst hv13
      refine o_nil ?_
      refine x_oneS hzA ?_
      refine e_one 4 rfl (by kernel_rfl) ?_
      refine o_callP (rOr_fn _ _) rfl rfl rfl (fun _ _ => trivial) (fun v15 hv15 => ?_)
      subst hv15
      refine o_nil ?_
      refine x_oneS hzA ?_
      exact e_lst (by kernel_rfl) (hJ b7 _ _ sbA sbA hzA)
  · rintro b7
    refine e_one 6 rfl (by kernel_rfl) ?_
    refine o_stW rfl rfl upA lnA lnA (by first | exact Ec_one _ | exact flat_one _ _ | exact one_rep rfl | (simp [Value.oneCell']; done)) ?_
    refine o_nil ?_
    refine x_oneL rfl ?_
    refine e_done (by kernel_rfl) ?_
    refine x_then (hK5 _ _ ?_)
    refine c_seq fun _ hK6 => ?_
    refine c_seq fun _ hK7 => ?_
    refine c_region ?_
    refine o_step rfl (s_move rfl) ?_
    refine o_nil ?_
    refine x_then (hK7 _ _ ?_)
    refine c_block ?_
    refine c_seq fun _ hK8 => ?_
    refine c_region ?_
    refine o_step rfl (s_eql_str rfl rfl) ?_
    refine o_step rfl (s_assign rfl) ?_
    refine o_nil ?_
    refine x_then (hK8 _ _ ?_)
    refine c_if rfl (fun hif17 => ?_) (fun hif17 => ?_)
    · skip
      refine c_seq fun _ hK9 => ?_
      refine c_region ?_
      refine o_step rfl (s_ldB rfl (RdPK.cels (.own meA)) lnA) ?_
      refine o_stW rfl rfl upA lnA lnA (by first | exact Ec_one _ | exact flat_one _ _ | exact one_rep rfl | (simp [Value.oneCell']; done)) ?_
      refine o_step rfl (s_assign rfl) ?_
      refine o_nil ?_
      refine x_then (hK9 _ _ ?_)
      refine c_ret ?_
      refine x_block_ret (x_then_ret (?_))
      exact x_ret rfl (.agg inferInstance inferInstance rfl (RdPK.cels (.own meA)) lnA (.tmp rfl (.nil))) ((by subst hif17; rw [named_upper]; rfl))
    · skip
      refine c_seq fun _ hK10 => ?_
      refine c_region ?_
      refine o_step rfl (s_eql_str rfl rfl) ?_
      refine o_step rfl (s_assign rfl) ?_
      refine o_nil ?_
      refine x_then (hK10 _ _ ?_)
      refine c_if rfl (fun hif20 => ?_) (fun hif20 => ?_)
      · skip
        refine c_seq fun _ hK11 => ?_
        refine c_region ?_
        refine o_step rfl (s_ldB rfl (RdPK.cels (.own meA)) lnA) ?_
        refine o_stW rfl rfl upA lnA lnA (by first | exact Ec_one _ | exact flat_one _ _ | exact one_rep rfl | (simp [Value.oneCell']; done)) ?_
        refine o_step rfl (s_assign rfl) ?_
        refine o_nil ?_
        refine x_then (hK11 _ _ ?_)
        refine c_ret ?_
        refine x_block_ret (x_then_ret (?_))
        exact x_ret rfl (.agg inferInstance inferInstance rfl (RdPK.cels (.own meA)) lnA (.tmp rfl (.nil))) ((by subst hif20; rw [named_lower]; rfl))
      · skip
        refine c_seq fun _ hK12 => ?_
        refine c_region ?_
        refine o_step rfl (s_eql_str rfl rfl) ?_
        refine o_step rfl (s_assign rfl) ?_
        refine o_nil ?_
        refine x_then (hK12 _ _ ?_)
        refine c_if rfl (fun hif23 => ?_) (fun hif23 => ?_)
        · skip
          refine c_seq fun _ hK13 => ?_
          refine c_region ?_
          refine o_step rfl (s_ldB rfl (RdPK.cels (.own meA)) lnA) ?_
          refine o_step rfl (s_ldB rfl (RdPK.cels (.own meA)) lnA) ?_
          refine o_callP (rOr_fn _ _) rfl rfl rfl (fun _ _ => trivial) (fun v27 hv27 => ?_)
          subst hv27
          refine o_stW rfl rfl upA lnA lnA (by first | exact Ec_one _ | exact flat_one _ _ | exact one_rep rfl | (simp [Value.oneCell']; done)) ?_
          refine o_step rfl (s_assign rfl) ?_
          refine o_nil ?_
          refine x_then (hK13 _ _ ?_)
          refine c_ret ?_
          refine x_block_ret (x_then_ret (?_))
          exact x_ret rfl (.agg inferInstance inferInstance rfl (RdPK.cels (.own meA)) lnA (.tmp rfl (.nil))) ((by subst hif23; rw [named_alpha]; rfl))
        · skip
          refine c_seq fun _ hK14 => ?_
          refine c_region ?_
          refine o_step rfl (s_eql_str rfl rfl) ?_
          refine o_step rfl (s_assign rfl) ?_
          refine o_nil ?_
          refine x_then (hK14 _ _ ?_)
          refine c_if rfl (fun hif28 => ?_) (fun hif28 => ?_)
          · skip
            refine c_seq fun _ hK15 => ?_
            refine c_region ?_
            refine o_step rfl (s_ldB rfl (RdPK.cels (.own meA)) lnA) ?_
            refine o_stW rfl rfl upA lnA lnA (by first | exact Ec_one _ | exact flat_one _ _ | exact one_rep rfl | (simp [Value.oneCell']; done)) ?_
            refine o_step rfl (s_assign rfl) ?_
            refine o_nil ?_
            refine x_then (hK15 _ _ ?_)
            refine c_ret ?_
            refine x_block_ret (x_then_ret (?_))
            exact x_ret rfl (.agg inferInstance inferInstance rfl (RdPK.cels (.own meA)) lnA (.tmp rfl (.nil))) ((by subst hif28; rw [named_digit]; rfl))
          · skip
            refine c_seq fun _ hK16 => ?_
            refine c_region ?_
            refine o_step rfl (s_eql_str rfl rfl) ?_
            refine o_step rfl (s_assign rfl) ?_
            refine o_nil ?_
            refine x_then (hK16 _ _ ?_)
            refine c_if rfl (fun hif31 => ?_) (fun hif31 => ?_)
            · skip
              refine c_seq fun _ hK17 => ?_
              refine c_region ?_
              refine o_step rfl (s_ldB rfl (RdPK.cels (.own meA)) lnA) ?_
              refine o_stW rfl rfl upA lnA lnA (by first | exact Ec_one _ | exact flat_one _ _ | exact one_rep rfl | (simp [Value.oneCell']; done)) ?_
              refine o_step rfl (s_assign rfl) ?_
              refine o_nil ?_
              refine x_then (hK17 _ _ ?_)
              refine c_ret ?_
              refine x_block_ret (x_then_ret (?_))
              exact x_ret rfl (.agg inferInstance inferInstance rfl (RdPK.cels (.own meA)) lnA (.tmp rfl (.nil))) ((by subst hif31; rw [named_alnum]; rfl))
            · skip
              refine c_seq fun _ hK18 => ?_
              refine c_region ?_
              refine o_step rfl (s_eql_str rfl rfl) ?_
              refine o_step rfl (s_assign rfl) ?_
              refine o_nil ?_
              refine x_then (hK18 _ _ ?_)
              refine c_if rfl (fun hif34 => ?_) (fun hif34 => ?_)
              · skip
                refine c_seq fun _ hK19 => ?_
                refine c_drawE ([(b7, .cells (Ec nmAN).toArray 28 (0, 0)), (b6, .cells (Ec nmD).toArray 28 (0, 0)), (b5, .cells (Ec nmL).toArray 28 (0, 0)), (b4, .cells (Ec nmU).toArray 28 (0, 0)), (b2, .cells (Ec 0#256).toArray 28 (0, 0))]) (fun i => Nat.beq i 5 || Nat.beq i 6) ?_
                refine e_take 0 rfl (by kernel_rfl) (by kernel_rfl) (by kernel_rfl) (by kernel_rfl) (fun _ _ => rfl) rfl hzA (s_ldB rfl (RdPK.cels (.own meA)) lnA) ?_
                refine e_one 1 rfl (by kernel_rfl) ?_
                refine o_callP (rRange_fn 65 70 (by decide) (by decide)) rfl rfl rfl (fun _ _ => trivial) (fun v37 hv37 => ?_)
                subst hv37
                refine o_nil ?_
                refine x_oneS hzA ?_
                refine e_one 2 rfl (by kernel_rfl) ?_
                refine o_callP (rRange_fn 97 102 (by decide) (by decide)) rfl rfl rfl (fun _ _ => trivial) (fun v38 hv38 => ?_)
                subst hv38
                refine o_nil ?_
                refine x_oneS hzA ?_
                refine e_one 3 rfl (by kernel_rfl) ?_
                refine o_callP (rOr_fn _ _) rfl rfl rfl (fun _ _ => trivial) (fun v39 hv39 => ?_)
                subst hv39
                refine o_nil ?_
                refine x_oneS hzA ?_
                refine e_one 4 rfl (by kernel_rfl) ?_
                refine o_callP (rOr_fn _ _) rfl rfl rfl (fun _ _ => trivial) (fun v40 hv40 => ?_)
                subst hv40
                refine o_nil ?_
                refine x_oneS hzA ?_
                refine e_one 5 rfl (by kernel_rfl) ?_
                refine o_stW rfl rfl upA lnA lnA (by first | exact Ec_one _ | exact flat_one _ _ | exact one_rep rfl | (simp [Value.oneCell']; done)) ?_
                refine o_nil ?_
                refine x_oneL rfl ?_
                refine e_one 6 rfl (by kernel_rfl) ?_
                refine o_step rfl (s_assign rfl) ?_
                refine o_nil ?_
                refine x_oneL rfl ?_
                refine e_done (by kernel_rfl) ?_
                refine x_then (hK19 _ _ ?_)
                refine c_ret ?_
                refine x_block_ret (x_then_ret (?_))
                exact x_ret rfl (.agg inferInstance inferInstance rfl (RdPK.cels (.own meA)) lnA (.tmp rfl (.nil))) ((by subst hif34; rw [named_xdigit]; rfl))
              · skip
                refine c_seq fun _ hK20 => ?_
                refine c_region ?_
                refine o_step rfl (s_eql_str rfl rfl) ?_
                refine o_step rfl (s_assign rfl) ?_
                refine o_nil ?_
                refine x_then (hK20 _ _ ?_)
                refine c_if rfl (fun hif41 => ?_) (fun hif41 => ?_)
                · skip
                  refine c_seq fun _ hK21 => ?_
                  refine c_region ?_
                  refine o_bs (E := Eb) (xs := [9, 32]) (vs := [_, _]) rfl rfl rfl rfl rfl (by decide) (by decide) fun b43 S43 hS43 => ?_
                  refine o_callP (rOf_fn _ _ [9, 32]) rfl rfl rfl (fun w st => (hS43.rdk hiA).out w st) (fun v44 hv44 => ?_)
                  subst hv44
                  rw [show ofL [9, 32] = ofL [32, 9] from by decide +kernel]
                  refine o_stW rfl rfl upA lnA lnA (by first | exact Ec_one _ | exact flat_one _ _ | exact one_rep rfl | (simp [Value.oneCell']; done)) ?_
                  refine o_step rfl (s_assign rfl) ?_
                  refine o_nil ?_
                  refine x_then (hK21 _ _ ?_)
                  refine c_ret ?_
                  refine x_block_ret (x_then_ret (?_))
                  exact x_ret rfl (.agg inferInstance inferInstance rfl (RdPK.cels (.own meA)) lnA (.tmp rfl (.nil))) ((by subst hif41; rw [named_blank]; rfl))
                · skip
                  refine c_seq fun _ hK22 => ?_
                  refine c_region ?_
                  refine o_step rfl (s_eql_str rfl rfl) ?_
                  refine o_step rfl (s_assign rfl) ?_
                  refine o_nil ?_
                  refine x_then (hK22 _ _ ?_)
                  refine c_if rfl (fun hif45 => ?_) (fun hif45 => ?_)
                  · skip
                    refine c_seq fun _ hK23 => ?_
                    refine c_region ?_
                    refine o_callP (rRange_fn 9 13 (by decide) (by decide)) rfl rfl rfl (fun _ _ => trivial) (fun v47 hv47 => ?_)
                    subst hv47
                    refine o_bs (E := Eb) (xs := [32]) (vs := [_]) rfl rfl rfl rfl rfl (by decide) (by decide) fun b48 S48 hS48 => ?_
                    refine o_callP (rOf_fn _ _ [32]) rfl rfl rfl (fun w st => (hS48.rdk hiA).out w st) (fun v49 hv49 => ?_)
                    subst hv49
                    refine o_callP (rOr_fn _ _) rfl rfl rfl (fun _ _ => trivial) (fun v50 hv50 => ?_)
                    subst hv50
                    refine o_stW rfl rfl upA lnA lnA (by first | exact Ec_one _ | exact flat_one _ _ | exact one_rep rfl | (simp [Value.oneCell']; done)) ?_
                    refine o_step rfl (s_assign rfl) ?_
                    refine o_nil ?_
                    refine x_then (hK23 _ _ ?_)
                    refine c_ret ?_
                    refine x_block_ret (x_then_ret (?_))
                    exact x_ret rfl (.agg inferInstance inferInstance rfl (RdPK.cels (.own meA)) lnA (.tmp rfl (.nil))) ((by subst hif45; rw [named_space]; rfl))
                  · skip
                    refine c_seq fun _ hK24 => ?_
                    refine c_region ?_
                    refine o_step rfl (s_eql_str rfl rfl) ?_
                    refine o_step rfl (s_assign rfl) ?_
                    refine o_nil ?_
                    refine x_then (hK24 _ _ ?_)
                    refine c_if rfl (fun hif51 => ?_) (fun hif51 => ?_)
                    · skip
                      refine c_seq fun _ hK25 => ?_
                      refine c_region ?_
                      refine o_callP (rRange_fn 0 31 (by decide) (by decide)) rfl rfl rfl (fun _ _ => trivial) (fun v53 hv53 => ?_)
                      subst hv53
                      refine o_bs (E := Eb) (xs := [127]) (vs := [_]) rfl rfl rfl rfl rfl (by decide) (by decide) fun b54 S54 hS54 => ?_
                      refine o_callP (rOf_fn _ _ [127]) rfl rfl rfl (fun w st => (hS54.rdk hiA).out w st) (fun v55 hv55 => ?_)
                      subst hv55
                      refine o_callP (rOr_fn _ _) rfl rfl rfl (fun _ _ => trivial) (fun v56 hv56 => ?_)
                      subst hv56
                      refine o_stW rfl rfl upA lnA lnA (by first | exact Ec_one _ | exact flat_one _ _ | exact one_rep rfl | (simp [Value.oneCell']; done)) ?_
                      refine o_step rfl (s_assign rfl) ?_
                      refine o_nil ?_
                      refine x_then (hK25 _ _ ?_)
                      refine c_ret ?_
                      refine x_block_ret (x_then_ret (?_))
                      exact x_ret rfl (.agg inferInstance inferInstance rfl (RdPK.cels (.own meA)) lnA (.tmp rfl (.nil))) ((by subst hif51; rw [named_cntrl]; rfl))
                    · skip
                      refine c_seq fun _ hK26 => ?_
                      refine c_region ?_
                      refine o_step rfl (s_eql_str rfl rfl) ?_
                      refine o_step rfl (s_assign rfl) ?_
                      refine o_nil ?_
                      refine x_then (hK26 _ _ ?_)
                      refine c_if rfl (fun hif57 => ?_) (fun hif57 => ?_)
                      · skip
                        refine c_seq fun _ hK27 => ?_
                        refine c_region ?_
                        refine o_callP (rRange_fn 33 126 (by decide) (by decide)) rfl rfl rfl (fun _ _ => trivial) (fun v59 hv59 => ?_)
                        subst hv59
                        refine o_stW rfl rfl upA lnA lnA (by first | exact Ec_one _ | exact flat_one _ _ | exact one_rep rfl | (simp [Value.oneCell']; done)) ?_
                        refine o_step rfl (s_assign rfl) ?_
                        refine o_nil ?_
                        refine x_then (hK27 _ _ ?_)
                        refine c_ret ?_
                        refine x_block_ret (x_then_ret (?_))
                        exact x_ret rfl (.agg inferInstance inferInstance rfl (RdPK.cels (.own meA)) lnA (.tmp rfl (.nil))) ((by subst hif57; rw [named_graph]; rfl))
                      · skip
                        refine c_seq fun _ hK28 => ?_
                        refine c_region ?_
                        refine o_step rfl (s_eql_str rfl rfl) ?_
                        refine o_step rfl (s_assign rfl) ?_
                        refine o_nil ?_
                        refine x_then (hK28 _ _ ?_)
                        refine c_if rfl (fun hif60 => ?_) (fun hif60 => ?_)
                        · skip
                          refine c_seq fun _ hK29 => ?_
                          refine c_region ?_
                          refine o_callP (rRange_fn 32 126 (by decide) (by decide)) rfl rfl rfl (fun _ _ => trivial) (fun v62 hv62 => ?_)
                          subst hv62
                          refine o_stW rfl rfl upA lnA lnA (by first | exact Ec_one _ | exact flat_one _ _ | exact one_rep rfl | (simp [Value.oneCell']; done)) ?_
                          refine o_step rfl (s_assign rfl) ?_
                          refine o_nil ?_
                          refine x_then (hK29 _ _ ?_)
                          refine c_ret ?_
                          refine x_block_ret (x_then_ret (?_))
                          exact x_ret rfl (.agg inferInstance inferInstance rfl (RdPK.cels (.own meA)) lnA (.tmp rfl (.nil))) ((by subst hif60; rw [named_print]; rfl))
                        · skip
                          refine c_seq fun _ hK30 => ?_
                          refine c_region ?_
                          refine o_step rfl (s_eql_str rfl rfl) ?_
                          refine o_step rfl (s_assign rfl) ?_
                          refine o_nil ?_
                          refine x_then (hK30 _ _ ?_)
                          refine c_if rfl (fun hif63 => ?_) (fun hif63 => ?_)
                          · skip
                            refine c_seq fun _ hK31 => ?_
                            refine c_drawE ([(b7, .cells (Ec nmAN).toArray 28 (0, 0)), (b6, .cells (Ec nmD).toArray 28 (0, 0)), (b5, .cells (Ec nmL).toArray 28 (0, 0)), (b4, .cells (Ec nmU).toArray 28 (0, 0)), (b2, .cells (Ec 0#256).toArray 28 (0, 0))]) (fun i => Nat.beq i 4 || Nat.beq i 5) ?_
                            refine e_take 1 rfl (by kernel_rfl) (by kernel_rfl) (by kernel_rfl) (by kernel_rfl) (fun _ _ => rfl) rfl hzA (s_ldB rfl (RdPK.cels (.own meA)) lnA) ?_
                            refine e_one 0 rfl (by kernel_rfl) ?_
                            refine o_callP (rRange_fn 33 126 (by decide) (by decide)) rfl rfl rfl (fun _ _ => trivial) (fun v65 hv65 => ?_)
                            subst hv65
                            refine o_nil ?_
                            refine x_oneS hzA ?_
                            refine e_one 2 rfl (by kernel_rfl) ?_
                            refine o_callP (rNot_fn _) rfl rfl rfl (fun _ _ => trivial) (fun v67 hv67 => ?_)
                            subst hv67
                            refine o_nil ?_
                            refine x_oneS hzA ?_
                            refine e_one 3 rfl (by kernel_rfl) ?_
                            refine o_callP (rAnd_fn _ _) rfl rfl rfl (fun _ _ => trivial) (fun v68 hv68 => ?_)
                            subst hv68
                            refine o_nil ?_
                            refine x_oneS hzA ?_
                            refine e_one 4 rfl (by kernel_rfl) ?_
                            refine o_stW rfl rfl upA lnA lnA (by first | exact Ec_one _ | exact flat_one _ _ | exact one_rep rfl | (simp [Value.oneCell']; done)) ?_
                            refine o_nil ?_
                            refine x_oneL rfl ?_
                            refine e_one 5 rfl (by kernel_rfl) ?_
                            refine o_step rfl (s_assign rfl) ?_
                            refine o_nil ?_
                            refine x_oneL rfl ?_
                            refine e_done (by kernel_rfl) ?_
                            refine x_then (hK31 _ _ ?_)
                            refine c_ret ?_
                            refine x_block_ret (x_then_ret (?_))
                            exact x_ret rfl (.agg inferInstance inferInstance rfl (RdPK.cels (.own meA)) lnA (.tmp rfl (.nil))) ((by subst hif63; rw [named_punct]; rfl))
                          · skip
                            refine c_skip ?_
                            refine x_block ?_
                            refine x_then (hK6 _ _ ?_)
                            refine c_seq fun _ hK32 => ?_
                            refine c_region ?_
                            refine o_step rfl (step_cast (v' := .agg (Ec 0#256).toArray) (s_build0 rfl) (by rw [Ec_zero]; rfl)) ?_
                            refine o_stW rfl rfl upA lnA lnA (by first | exact Ec_one _ | exact flat_one _ _ | exact one_rep rfl | (simp [Value.oneCell']; done)) ?_
                            refine o_step rfl (s_assign rfl) ?_
                            refine o_nil ?_
                            refine x_then (hK32 _ _ ?_)
                            refine c_ret ?_
                            refine ?_
                            exact x_ret rfl (.agg inferInstance inferInstance rfl (RdPK.cels (.own meA)) lnA (.tmp rfl (.nil))) ((by unfold named; rw [if_neg hif31, if_neg hif23, if_neg hif41, if_neg hif51, if_neg hif28, if_neg hif57, if_neg hif20, if_neg hif60, if_neg hif63, if_neg hif45, if_neg hif17, if_neg hif34]; rfl))
end Go.Proofs.YtafbigmneipkiaaDoor
