/- Part of the proofs over this seat: see the text that holds the theorem. Conditions: each theorem bears its own. -/
import Derived.Test.YtmompllplidphaaDoorSW6Z
import Derived.Test.YtmompllplidphaaDoorMT7Z
namespace Go.Proofs.YtmompllplidphaaDoor
open Go Go.HL Go.Proofs Go.HL.Kl Go.HL.Kl.Mc Go.HL.Sts
def EkP (p : Nat × Nat) : Value := .agg (intsV .i64 [(p.1 : Int), (p.2 : Int)]).toArray
instance k109 : QK Tryd.prog 109 true 2 2 := QK.arr (m := 2) (e := 3) (se := 1) (QK.int (t := 3))
instance keP : KE Tryd.prog 109 EkP := KE.ofA (Ei := fun p : Nat × Nat => [(p.1 : Int), (p.2 : Int)]) (fun _ => rfl) (fun a b h => by
  simp only [List.cons.injEq, and_true] at h
  exact Prod.ext (Int.ofNat.inj h.1) (Int.ofNat.inj h.2)) (by decide) ⟨_, _, Tryd.underlying109⟩
/-- the numbers of the pairs that were met, as the heap's part S bears them -/
def StP (b7 : Nat) (seen : List (Nat × Nat)) (S : Hp) : Prop := ∃ (bm : Nat) (es : List (Mx (Nat × Nat))) (c : Nat), S = [(b7, .cells [.map (some bm)].toArray 113 (0, 0)), (bm, mxO EkP es c)] ∧ seen.Nodup ∧ es.length = seen.length ∧ ∀ s, getM es s = numM seen s
theorem part0_take {ends : List Bool} {q : Nat} {e : Bool} (h : ends[q]? = some e) : part0 (ends.take (q + 1)) = part0 (ends.take q) ++ [if e then 1 else 0] := by
  rw [take_succ_get h]; simp [part0]
theorem part0_yes {ends : List Bool} {q : Nat} (h : ends[q]? = some true) : (filZ 0 (part0 (ends.take q)) ends.length).set q 1 = filZ 0 (part0 (ends.take (q + 1))) ends.length := by
  have hq := (List.getElem?_eq_some_iff.1 h).1
  rw [part0_take h, filZ_set (by simp [part0]; omega) hq]; rfl
theorem part0_no {ends : List Bool} {q : Nat} (h : ends[q]? = some false) : filZ 0 (part0 (ends.take q)) ends.length = filZ 0 (part0 (ends.take (q + 1))) ends.length := by
  have hq := (List.getElem?_eq_some_iff.1 h).1
  rw [part0_take h, ← filZ_set0 (z := 0) (l := part0 (ends.take q)) (k := q) (by simp [part0]; omega) hq, filZ_set (by simp [part0]; omega) hq]; rfl
theorem cloneI_fn (a : Option Addr) (c n : Nat) (xs : List Nat) (hn : xs.length = n) (hxl : xs.length ≤ 4294967296) : HL.Fn Tryd.prog 94 [.slice a n c] (fun w => Rd Eix w (.slice a n c) xs) [] (fun v S' => ∃ a' c', v = .slice a' n c' ∧ OwnS Eix 1 3 (.slice a' n c') xs S') := by
  refine fn_of Tryd.func94 rfl rfl rfl fun w0 hw => ?_
  subst hn
  have hsx := hw.sl
  have hbx := hsx.le
  refine c_seq fun _ hK1 => ?_
  refine c_region ?_
  refine o_step rfl (s_assign rfl) ?_
  refine o_nil ?_
  refine x_then (hK1 _ _ ?_)
  refine c_seq fun _ hK2 => ?_
  refine c_seq fun _ hK3 => ?_
  refine c_region ?_
  refine o_step rfl (s_move rfl) ?_
  refine o_step rfl (s_eql_nils rfl rfl) ?_
  refine o_nil ?_
  refine x_then (hK3 _ _ ?_)
  refine c_cond rfl (fun hn => ?_) (fun hn => ?_)
  ·
   have ha : a = none := Option.isNone_iff_eq_none.1 hn
   subst ha
   have hx0 : xs = [] := List.eq_nil_of_length_eq_zero hsx.none
   subst hx0
   refine c_seq fun _ hK4 => ?_
   refine c_region ?_
   refine o_step rfl (s_assign rfl) ?_
   refine o_nil ?_
   refine x_then (hK4 _ _ ?_)
   refine c_ret ?_
   refine x_then_ret (?_)
   exact x_ret rfl (.tmp rfl (.nil)) (⟨_, _, rfl, .nil⟩)
  ·
   refine c_skip ?_
   refine x_then (hK2 _ _ ?_)
   refine c_seq fun _ hK5 => ?_
   refine c_region ?_
   refine o_bs (E := Eix) (xs := []) (vs := []) rfl rfl rfl rfl rfl (by decide) (by decide) fun b5 S5 hS5 => ?_
   refine o_step rfl (s_move rfl) ?_
   refine o_app hS5 (RdK.old0 hw) rfl rfl rfl rfl (by simp; omega) (by simp; omega) rfl pkA fun a7 c7 S7 hS7 => ?_
   refine o_step rfl (s_assign rfl) ?_
   refine o_nil ?_
   refine x_then (hK5 _ _ ?_)
   refine c_ret ?_
   refine ?_
   simp only [List.nil_append] at hS7
   exact x_ret rfl (.tmp rfl (.nil)) (⟨_, _, rfl, by simpa using hS7⟩)
theorem cloneB_fn (a : Option Addr) (c n : Nat) (xs : List Bool) (hn : xs.length = n) (hxl : xs.length ≤ 4294967296) : HL.Fn Tryd.prog 95 [.slice a n c] (fun w => Rd Ebo w (.slice a n c) xs) [] (fun v S' => ∃ a' c', v = .slice a' n c' ∧ OwnS Ebo 1 4 (.slice a' n c') xs S') := by
  refine fn_of Tryd.func95 rfl rfl rfl fun w0 hw => ?_
  subst hn
  have hsx := hw.sl
  have hbx := hsx.le
  refine c_seq fun _ hK1 => ?_
  refine c_region ?_
  refine o_step rfl (s_assign rfl) ?_
  refine o_nil ?_
  refine x_then (hK1 _ _ ?_)
  refine c_seq fun _ hK2 => ?_
  refine c_seq fun _ hK3 => ?_
  refine c_region ?_
  refine o_step rfl (s_move rfl) ?_
  refine o_step rfl (s_eql_nils rfl rfl) ?_
  refine o_nil ?_
  refine x_then (hK3 _ _ ?_)
  refine c_cond rfl (fun hn => ?_) (fun hn => ?_)
  ·
   have ha : a = none := Option.isNone_iff_eq_none.1 hn
   subst ha
   have hx0 : xs = [] := List.eq_nil_of_length_eq_zero hsx.none
   subst hx0
   refine c_seq fun _ hK4 => ?_
   refine c_region ?_
   refine o_step rfl (s_assign rfl) ?_
   refine o_nil ?_
   refine x_then (hK4 _ _ ?_)
   refine c_ret ?_
   refine x_then_ret (?_)
   exact x_ret rfl (.tmp rfl (.nil)) (⟨_, _, rfl, .nil⟩)
  ·
   refine c_skip ?_
   refine x_then (hK2 _ _ ?_)
   refine c_seq fun _ hK5 => ?_
   refine c_region ?_
   refine o_bs (E := Ebo) (xs := []) (vs := []) rfl rfl rfl rfl rfl (by decide) (by decide) fun b5 S5 hS5 => ?_
   refine o_step rfl (s_move rfl) ?_
   refine o_app hS5 (RdK.old0 hw) rfl rfl rfl rfl (by simp; omega) (by simp; omega) rfl pkA fun a7 c7 S7 hS7 => ?_
   refine o_step rfl (s_assign rfl) ?_
   refine o_nil ?_
   refine x_then (hK5 _ _ ?_)
   refine c_ret ?_
   refine ?_
   simp only [List.nil_append] at hS7
   exact x_ret rfl (.tmp rfl (.nil)) (⟨_, _, rfl, by simpa using hS7⟩)
theorem id_fn (b7 : Nat) (seen : List (Nat × Nat)) (S : Hp) (h : StP b7 seen S) (hsl : seen.length ≤ 16777220) (a b : Nat) : HL.Fn Tryd.prog 93 [.int .i64 a, .int .i64 b, .pointer (some ⟨b7, 0, none⟩)] (fun _ => True) S (fun v S' => v = .int .i64 ((idx seen (a, b) : Nat) : Int) ∧ StP b7 (addN seen (a, b)) S') := by
  refine fn_of Tryd.func93 rfl rfl rfl fun w0 hw => ?_
  obtain ⟨bm, es, c, rfl, hnd, hel, hg⟩ := h
  refine c_seq fun _ hK1 => ?_
  refine c_region ?_
  refine o_step rfl (s_assign rfl) ?_
  refine o_nil ?_
  refine x_then (hK1 _ _ ?_)
  refine c_seq fun _ hK2 => ?_
  refine c_region ?_
  refine o_step rfl (s_ld rfl (.own meA rfl)) ?_
  refine o_step rfl (s_move rfl) ?_
  refine o_step rfl (s_move rfl) ?_
  refine o_step rfl (step_cast (v' := EkP (a, b)) (s_buildA1 [.int .i64 a, .int .i64 b] rfl rfl rfl rfl (by simp [Value.oneCell'])) rfl) ?_
  by_cases hm : (a, b) ∈ seen
  ·
   refine o_step rfl (step_cast (v' := .tuple #[.int .i64 ((idx seen (a, b) : Nat) : Int), .bool true]) (s_look2k (Ek := EkP) (k := (a, b)) rfl rfl meA) (by rw [hg, numM_in hm]; rfl)) ?_
   refine o_step rfl (s_move rfl) ?_
   refine o_step rfl (s_extract rfl rfl) ?_
   refine o_step rfl (s_extract rfl rfl) ?_
   refine o_step rfl (s_assign rfl) ?_
   refine o_step rfl (s_assign rfl) ?_
   refine o_nil ?_
   refine x_then (hK2 _ _ ?_)
   refine c_seq fun _ hK3 => ?_
   refine c_seq fun _ hK4 => ?_
   refine c_region ?_
   refine o_step rfl (s_move rfl) ?_
   refine o_step rfl (s_not rfl) ?_
   refine o_nil ?_
   refine x_then (hK4 _ _ ?_)
   refine c_false rfl ?_
   refine c_skip ?_
   refine x_then (hK3 _ _ ?_)
   refine c_seq fun _ hK5 => ?_
   refine c_region ?_
   refine o_step rfl (s_move rfl) ?_
   refine o_step rfl (s_assign rfl) ?_
   refine o_nil ?_
   refine x_then (hK5 _ _ ?_)
   refine c_ret ?_
   refine ?_
   refine x_sub (Sub.refl _) (H' := [(b7, .cells [.map (some bm)].toArray 113 (0, 0)), (bm, mxO EkP es c)]) hzB ?_
   exact x_ret rfl (.tmp rfl (.nil)) (⟨rfl, by rw [map_old hm]; exact ⟨bm, es, c, rfl, hnd, hel, hg⟩⟩)
  ·
   refine o_step rfl (step_cast (v' := .tuple #[.int .i64 0, .bool false]) (s_look2k (Ek := EkP) (k := (a, b)) rfl rfl meA) (by rw [hg, numM_out hm]; rfl)) ?_
   refine o_step rfl (s_move rfl) ?_
   refine o_step rfl (s_extract rfl rfl) ?_
   refine o_step rfl (s_extract rfl rfl) ?_
   refine o_step rfl (s_assign rfl) ?_
   refine o_step rfl (s_assign rfl) ?_
   refine o_nil ?_
   refine x_then (hK2 _ _ ?_)
   refine c_seq fun _ hK6 => ?_
   refine c_seq fun _ hK7 => ?_
   refine c_region ?_
   refine o_step rfl (s_move rfl) ?_
   refine o_step rfl (s_not rfl) ?_
   refine o_nil ?_
   refine x_then (hK7 _ _ ?_)
   refine c_true rfl ?_
   refine c_seq fun _ hK8 => ?_
   refine c_region ?_
   refine o_step rfl (s_ld rfl (.own meA rfl)) ?_
   refine o_step rfl (step_cast (v' := .int .i64 ((seen.length : Nat) : Int)) (s_lenmap (Ek := EkP) (es := es) rfl meA) (by rw [hel])) ?_
   refine o_step rfl (s_assign rfl) ?_
   refine o_nil ?_
   refine x_then (hK8 _ _ ?_)
   refine c_region ?_
   refine o_step rfl (s_ld rfl (.own meA rfl)) ?_
   refine o_step rfl (s_move rfl) ?_
   refine o_step rfl (s_move rfl) ?_
   refine o_step rfl (step_cast (v' := EkP (a, b)) (s_buildA1 [.int .i64 a, .int .i64 b] rfl rfl rfl rfl (by simp [Value.oneCell'])) rfl) ?_
   refine o_step rfl (s_move rfl) ?_
   refine o_mset2 (Ek := EkP) (k := (a, b)) rfl rfl rfl pkA fun es' c' hset hel' => ?_
   refine o_nil ?_
   refine x_then (hK6 _ _ ?_)
   refine c_seq fun _ hK9 => ?_
   refine c_region ?_
   refine o_step rfl (s_move rfl) ?_
   refine o_step rfl (s_assign rfl) ?_
   refine o_nil ?_
   refine x_then (hK9 _ _ ?_)
   refine c_ret ?_
   refine ?_
   refine x_sub (Sub.refl _) (H' := [(b7, .cells [.map (some bm)].toArray 113 (0, 0)), (bm, mxO EkP es' c')]) hzB ?_
   exact x_ret rfl (.tmp rfl (.nil)) (⟨by rw [idx_out hm]; rfl, bm, es', c', rfl, add_nodup hnd _, by rw [hel', hg, numM_out hm, map_new hm, hel]; simp, map_add hm hg hset⟩)
set_option maxHeartbeats 1000000 in
theorem parts_fn (na : Option Addr) (nc : Nat) (rows : List (Sl Nat)) (ea : Option Addr) (ec : Nat) (ends : List Bool) (K : Nat) (hel : rows.length = ends.length) (h0 : 0 < rows.length) (hnl : rows.length ≤ 16777217) (hK0 : 0 < K) (hK256 : K ≤ 256) (hK : ∀ s ∈ rows, s.xs.length = K) (hbd : ∀ s ∈ rows, ∀ v ∈ s.xs, v < rows.length) : HL.Fn Tryd.prog 62 [.agg [.slice na rows.length nc, .slice ea ends.length ec].toArray] (fun w => Rd Esl w (.slice na rows.length nc) rows ∧ Rd Ebo w (.slice ea ends.length ec) ends ∧ ∀ s ∈ rows, Rd Eix w s.v s.xs) [] (fun v S' => ∃ a c, v = .slice a ends.length c ∧ OwnS Eix 1 3 (.slice a ends.length c) (partsM (rows.map Sl.xs) ends K) S') := by
  refine fn_of Tryd.func62 rfl rfl rfl fun w0 hw => ?_
  have hse := hw.2.1.sl
  have hsn := hw.1.sl
  have hxl : (rows.map Sl.xs).length = ends.length := by rw [List.length_map]; exact hel
  refine c_seq fun _ hK1 => ?_
  refine c_region ?_
  refine o_box rfl rfl rfl fun b1 => ?_
  refine o_step rfl (s_assign rfl) ?_
  refine o_nil ?_
  refine x_then (hK1 _ _ ?_)
  refine c_seq fun _ hK2 => ?_
  refine c_region ?_
  refine o_step rfl (s_field rfl rfl (by decide)) ?_
  refine o_step rfl (s_ld rfl (.own meA rfl)) ?_
  refine o_step rfl (s_len rfl) ?_
  refine o_make (E := Eix) (zx := 0) (n := ends.length) rfl rfl rfl (by omega) (by omega) rfl fun b15 S15 hS15 => ?_
  rw [← filZ_nil] at hS15
  have hs15 := hS15.sl
  rw [filZ_len (Nat.zero_le _)] at hs15
  refine o_step rfl (s_assign rfl) ?_
  refine o_nil ?_
  refine x_then (hK2 _ _ ?_)
  refine c_seq fun _ hK3 => ?_
  refine c_seq fun _ hK4 => ?_
  refine c_region ?_
  refine o_step rfl (s_field rfl rfl (by decide)) ?_
  refine o_step rfl (s_ld rfl (.own meA rfl)) ?_
  refine o_step rfl (s_len rfl) ?_
  refine o_step rfl (s_move rfl) ?_
  refine o_nil ?_
  refine x_then (hK4 _ _ ?_)
  refine c_block ?_
  refine c_loop2 (fun (q : Nat) (Sp : Hp) => q ≤ ends.length ∧ OwnS Eix 1 3 (.slice (some ⟨b15, 0, none⟩) ends.length ends.length) (filZ 0 (part0 (ends.take q)) ends.length) Sp) (fun (q : Nat) (Sp : Hp) => [(19, .int .i64 q)]) [(1, _), (2, _), (3, _), (17, _), (18, _)] (fun (q : Nat) (Sp : Hp) => (b1, .cells [.slice na rows.length nc, .slice ea ends.length ec].toArray 91 (0, 0)) :: Sp) (fun (q : Nat) (Sp : Hp) => ends.length - q) 0 S15 ⟨Nat.zero_le _, hS15⟩ sbA sbA hzB ?_
  rintro q Sp ⟨hq, hP⟩
  refine c_seq fun _ hK5 => ?_
  refine c_region ?_
  refine o_step rfl (s_lss rfl rfl) ?_
  refine o_nil ?_
  refine x_then (hK5 _ _ ?_)
  refine c_seq fun _ hK6 => ?_
  refine c_if rfl (fun hlt => ?_) (fun hlt => ?_)
  ·
   obtain ⟨e, heq⟩ : ∃ e, ends[q]? = some e := ⟨_, List.getElem?_eq_getElem (by omega)⟩
   refine c_skip ?_
   refine x_then (hK6 _ _ ?_)
   refine c_seq fun _ hK7 => ?_
   refine c_block ?_
   refine c_seq fun _ hK8 => ?_
   refine c_region ?_
   refine o_step rfl (s_move rfl) ?_
   refine o_step rfl (s_idx rfl rfl hse (by omega)) ?_
   refine o_step rfl (s_ld rfl ((RdK.old0 hw.2.1).ld q 0 heq rfl (by decide) (by omega))) ?_
   refine o_step rfl (s_assign rfl) ?_
   refine o_step rfl (s_assign rfl) ?_
   refine o_nil ?_
   refine x_then (hK8 _ _ ?_)
   refine c_seq fun _ hK9 => ?_
   refine c_region ?_
   refine o_step rfl (s_move rfl) ?_
   refine o_nil ?_
   refine x_then (hK9 _ _ ?_)
   refine c_cond rfl (fun he24 => ?_) (fun he24 => ?_)
   ·
    subst he24
    refine c_region ?_
    refine o_step rfl (s_move rfl) ?_
    refine o_step rfl (s_move rfl) ?_
    refine o_step rfl (s_idx rfl rfl hs15 (by omega)) ?_
    refine o_stS1 q 1 hP pkA rfl rfl rfl (by rw [filZ_len (by simp [part0]; omega)]; omega) (by first | rfl | omega | (rw [Int.toNat_natCast, Nat.mul_one])) fun S27 hS27 => ?_
    refine o_nil ?_
    refine x_block ?_
    refine x_then (hK7 _ _ ?_)
    refine c_region ?_
    refine o_step rfl (s_add rfl rfl (by omega)) ?_
    refine o_step rfl (s_move rfl) ?_
    refine o_nil ?_
    exact x_then (x_inv (q + 1, _) ⟨by omega, by rw [← part0_yes heq]; exact hS27⟩ (by first | omega | (dsimp only; omega)) sbA hzB)
   ·
    subst he24
    refine c_skip ?_
    refine x_block ?_
    refine x_then (hK7 _ _ ?_)
    refine c_region ?_
    refine o_step rfl (s_add rfl rfl (by omega)) ?_
    refine o_step rfl (s_move rfl) ?_
    refine o_nil ?_
    exact x_then (x_inv (q + 1, _) ⟨by omega, by rw [← part0_no heq]; exact hP⟩ (by first | omega | (dsimp only; omega)) sbA hzB)
  ·
   obtain rfl : q = ends.length := by omega
   refine c_exit ?_
   refine x_then_exit ?_
   refine x_then_exit ?_
   refine x_block_exit ?_
   refine x_then (hK3 _ _ ?_)
   refine c_seq fun _ hK10 => ?_
   refine c_region ?_
   refine o_step rfl (s_assign rfl) ?_
   refine o_nil ?_
   refine x_then (hK10 _ _ ?_)
   refine c_block ?_
   -- not carried: 2
   refine c_loop6 (fun (f : Nat) (many : Nat) (part : List Nat) (pa : Option Addr) (pc : Nat) (Sp : Hp) => ends.length + 2 ≤ f + many ∧ many ≤ ends.length ∧ partsT (rows.map Sl.xs) K f many part = partsM (rows.map Sl.xs) ends K ∧ Rnd (rows.map Sl.xs).length part many ∧ OwnS Eix 1 3 (.slice pa ends.length pc) part Sp) (fun (f : Nat) (many : Nat) (part : List Nat) (pa : Option Addr) (pc : Nat) (Sp : Hp) => [(3, .slice pa ends.length pc), (6, .int .i64 many)]) [(1, _)] (fun (f : Nat) (many : Nat) (part : List Nat) (pa : Option Addr) (pc : Nat) (Sp : Hp) => (b1, .cells [.slice na rows.length nc, .slice ea ends.length ec].toArray 91 (0, 0)) :: Sp) (fun (f : Nat) (many : Nat) (part : List Nat) (pa : Option Addr) (pc : Nat) (Sp : Hp) => ends.length + 1 - many) (ends.length + 2) 0 (part0 ends) (some ⟨b15, 0, none⟩) ends.length _ ⟨by omega, by omega, rfl, part0_rnd (by omega), by rw [List.take_length, filZ_full (by simp [part0])] at hP; exact hP⟩ sbA sbA hzB ?_
   rintro f many part pa pc Sp ⟨hf, hme, hpt, hR, hO⟩
   have hpl := hR.len
   have hso := hO.sl
   rw [show part.length = ends.length by omega] at hso
   obtain ⟨r0, hr0⟩ : ∃ r, rows[0]? = some r := ⟨_, List.getElem?_eq_getElem h0⟩
   have hr0k := hK r0 (List.mem_of_getElem? hr0)
   have hrs := (hw.2.2 r0 (List.mem_of_getElem? hr0)).sl
   refine c_block ?_
   refine c_seq fun _ hK11 => ?_
   refine c_region ?_
   refine o_mmap2 (Ek := EkP) rfl fun b29 => ?_
   refine o_alloc rfl rfl fun b7 => ?_
   refine o_store rfl rfl rfl upA ltA rfl ?_
   refine o_nil ?_
   refine x_then (hK11 _ _ ?_)
   refine c_seq fun _ hK12 => ?_
   refine c_region ?_
   refine o_step rfl (s_func (us := []) (vs := [_]) rfl rfl) ?_
   refine o_step rfl (s_assign rfl) ?_
   refine o_nil ?_
   refine x_then (hK12 _ _ ?_)
   refine c_seq fun _ hK13 => ?_
   refine c_region ?_
   refine o_step rfl (s_move rfl) ?_
   refine o_call (cloneI_fn pa pc ends.length part (by omega) (by omega)) rfl rfl rfl (by exact .nil) (fun w st => (hO.rdk hiA).out w st) (fun v32 S32 ⟨a32, c32, hv32, hS32⟩ => ?_)
   subst hv32
   have hs32 := hS32.sl
   rw [show part.length = ends.length by omega] at hs32
   refine o_step rfl (s_assign rfl) ?_
   refine o_nil ?_
   refine x_then (hK13 _ _ ?_)
   refine c_seq fun _ hK14 => ?_
   refine c_seq fun _ hK15 => ?_
   refine c_region ?_
   refine o_step rfl (s_field rfl rfl (by decide)) ?_
   refine o_step rfl (s_ld rfl (.own meA rfl)) ?_
   refine o_step rfl (s_idx rfl rfl hsn (by omega)) ?_
   refine o_step rfl (s_ld rfl ((RdK.old0 hw.1).ld 0 0 hr0 rfl (by decide) (by omega))) ?_
   refine o_step rfl (s_len rfl) ?_
   refine o_step rfl (s_move rfl) ?_
   refine o_nil ?_
   refine x_then (hK15 _ _ ?_)
   refine c_block ?_
   refine c_loop3 (fun (k : Nat) (Sn : Hp) (Sm : Hp) => k ≤ K ∧ OwnS Eix 1 3 (.slice a32 ends.length c32) (roundT (rows.map Sl.xs) part k).1 Sn ∧ StP b7 (roundT (rows.map Sl.xs) part k).2 Sm) (fun (k : Nat) (Sn : Hp) (Sm : Hp) => [(38, .int .i64 k)]) [(1, _), (3, _), (6, _), (7, _), (8, _), (9, _), (29, _), (30, _), (31, _), (32, _), (33, _), (34, _), (35, _), (36, _), (37, _)] (fun (k : Nat) (Sn : Hp) (Sm : Hp) => (b1, .cells [.slice na rows.length nc, .slice ea ends.length ec].toArray 91 (0, 0)) :: (Sp ++ (Sn ++ Sm))) (fun (k : Nat) (Sn : Hp) (Sm : Hp) => K - k) 0 S32 [(b7, .cells [.map (some b29)].toArray 113 (0, 0)), (b29, mxO EkP [] 0)] ⟨Nat.zero_le _, hS32, b29, [], 0, rfl, List.nodup_nil, rfl, fun s => rfl⟩ sbA sbA hzB ?_
   rintro k Sn Sm ⟨hk, hN, hM⟩
   refine c_seq fun _ hK16 => ?_
   refine c_region ?_
   refine o_step rfl (s_lss rfl rfl) ?_
   refine o_nil ?_
   refine x_then (hK16 _ _ ?_)
   refine c_seq fun _ hK17 => ?_
   refine c_if rfl (fun hlk => ?_) (fun hlk => ?_)
   ·
    have hcl := round_len hpl k
    have hcc : (col (rows.map Sl.xs) part k).length = (roundT (rows.map Sl.xs) part k).1.length := by simp [col]; omega
    obtain ⟨bm, es, c, rfl, hnd, hes, hg⟩ := hM
    refine c_skip ?_
    refine x_then (hK17 _ _ ?_)
    refine c_seq fun _ hK18 => ?_
    refine c_block ?_
    refine c_seq fun _ hK19 => ?_
    refine c_region ?_
    refine o_step rfl (s_move rfl) ?_
    refine o_step rfl (s_assign rfl) ?_
    refine o_nil ?_
    refine x_then (hK19 _ _ ?_)
    refine c_seq fun _ hK20 => ?_
    refine c_region ?_
    refine o_step rfl (s_ld rfl (.own meA rfl)) ?_
    refine o_clearmap (Ek := EkP) rfl pkA fun c' => ?_
    refine o_nil ?_
    refine x_then (hK20 _ _ ?_)
    refine c_seq fun _ hK21 => ?_
    refine c_region ?_
    refine o_step rfl (s_move rfl) ?_
    refine o_step rfl (s_len rfl) ?_
    refine o_step rfl (s_move rfl) ?_
    refine o_nil ?_
    refine x_then (hK21 _ _ ?_)
    refine c_block ?_
    refine c_loop3 (fun (q : Nat) (Sn2 : Hp) (Sm2 : Hp) => q ≤ ends.length ∧ OwnS Eix 1 3 (.slice a32 ends.length c32) (ups (roundT (rows.map Sl.xs) part k).1 (col (rows.map Sl.xs) part k) q) Sn2 ∧ StP b7 (upsS (roundT (rows.map Sl.xs) part k).1 (col (rows.map Sl.xs) part k) q) Sm2) (fun (q : Nat) (Sn2 : Hp) (Sm2 : Hp) => [(44, .int .i64 q)]) [(1, _), (3, _), (6, _), (7, _), (8, _), (9, _), (10, _), (29, _), (30, _), (31, _), (32, _), (33, _), (34, _), (35, _), (36, _), (37, _), (38, _), (39, _), (40, _), (41, _), (42, _), (43, _)] (fun (q : Nat) (Sn2 : Hp) (Sm2 : Hp) => (b1, .cells [.slice na rows.length nc, .slice ea ends.length ec].toArray 91 (0, 0)) :: (Sp ++ (Sn2 ++ Sm2))) (fun (q : Nat) (Sn2 : Hp) (Sm2 : Hp) => ends.length - q) 0 Sn [(b7, .cells [.map (some bm)].toArray 113 (0, 0)), (bm, mxO EkP [] c')] ⟨Nat.zero_le _, hN, bm, [], c', rfl, List.nodup_nil, rfl, fun s => rfl⟩ sbA sbA hzB ?_
    rintro q Sn2 Sm2 ⟨hq, hN2, hM2⟩
    refine c_seq fun _ hK22 => ?_
    refine c_region ?_
    refine o_step rfl (s_lss rfl rfl) ?_
    refine o_nil ?_
    refine x_then (hK22 _ _ ?_)
    refine c_seq fun _ hK23 => ?_
    refine c_if rfl (fun hlq => ?_) (fun hlq => ?_)
    ·
     obtain ⟨a, ha⟩ : ∃ a, (roundT (rows.map Sl.xs) part k).1[q]? = some a := ⟨_, List.getElem?_eq_getElem (by omega)⟩
     obtain ⟨s, hs⟩ : ∃ s, rows[q]? = some s := ⟨_, List.getElem?_eq_getElem (by omega)⟩
     have hsm := List.mem_of_getElem? hs
     have hsK := hK s hsm
     obtain ⟨to, hto⟩ : ∃ t, s.xs[k]? = some t := ⟨_, List.getElem?_eq_getElem (by omega)⟩
     have htl := hbd s hsm to (List.mem_of_getElem? hto)
     obtain ⟨b, hb⟩ : ∃ b, part[to]? = some b := ⟨_, List.getElem?_eq_getElem (by omega)⟩
     have hcb : (col (rows.map Sl.xs) part k)[q]? = some b := col_get (by rw [List.getElem?_map, hs]; rfl) hto hb
     have hsx := (hw.2.2 s hsm).sl
     have hs2 := hN2.sl
     rw [ups_len hcc (by omega), hcl, hxl] at hs2
     have hul := upsS_le (roundT (rows.map Sl.xs) part k).1 (col (rows.map Sl.xs) part k) q (by omega)
     refine c_skip ?_
     refine x_then (hK23 _ _ ?_)
     refine c_seq fun _ hK24 => ?_
     refine c_block ?_
     refine c_seq fun _ hK25 => ?_
     refine c_region ?_
     refine o_step rfl (s_move rfl) ?_
     refine o_step rfl (s_assign rfl) ?_
     refine o_nil ?_
     refine x_then (hK25 _ _ ?_)
     refine c_drawE ((b1, .cells [.slice na rows.length nc, .slice ea ends.length ec].toArray 91 (0, 0)) :: (Sp ++ Sn2)) (fun i => Nat.beq i 20) ?_
     refine e_pure 0 rfl (by kernel_rfl) (by kernel_rfl) (by kernel_rfl) rfl (s_move rfl) ?_
     refine e_pure 1 rfl (by kernel_rfl) (by kernel_rfl) (by kernel_rfl) rfl (s_move rfl) ?_
     refine e_pure 2 rfl (by kernel_rfl) (by kernel_rfl) (by kernel_rfl) rfl (s_move rfl) ?_
     refine e_pure 3 rfl (by kernel_rfl) (by kernel_rfl) (by kernel_rfl) rfl (s_move rfl) ?_
     refine e_pure 4 rfl (by kernel_rfl) (by kernel_rfl) (by kernel_rfl) rfl (s_move rfl) ?_
     refine e_pure 5 rfl (by kernel_rfl) (by kernel_rfl) (by kernel_rfl) rfl (s_idx rfl rfl hs2 (by omega)) ?_
     refine e_take 6 rfl (by kernel_rfl) (by kernel_rfl) (by kernel_rfl) (by kernel_rfl) (fun _ _ => rfl) rfl hzB (s_ld rfl ((hN2.rdk hiA).ld q 0 (ups_get hcc ha) rfl (by decide) (by omega))) ?_
     refine e_pure 7 rfl (by kernel_rfl) (by kernel_rfl) (by kernel_rfl) rfl (s_move rfl) ?_
     refine e_pure 8 rfl (by kernel_rfl) (by kernel_rfl) (by kernel_rfl) rfl (s_field rfl rfl (by decide)) ?_
     refine e_take 9 rfl (by kernel_rfl) (by kernel_rfl) (by kernel_rfl) (by kernel_rfl) (fun _ _ => rfl) rfl hzB (s_ld rfl (.own meA rfl)) ?_
     refine e_pure 10 rfl (by kernel_rfl) (by kernel_rfl) (by kernel_rfl) rfl (s_move rfl) ?_
     refine e_pure 11 rfl (by kernel_rfl) (by kernel_rfl) (by kernel_rfl) rfl (s_idx rfl rfl hsn (by omega)) ?_
     refine e_take 12 rfl (by kernel_rfl) (by kernel_rfl) (by kernel_rfl) (by kernel_rfl) (fun _ _ => rfl) rfl hzB (s_ld rfl ((RdK.old0 hw.1).ld q 0 hs rfl (by decide) (by omega))) ?_
     refine e_pure 13 rfl (by kernel_rfl) (by kernel_rfl) (by kernel_rfl) rfl (s_move rfl) ?_
     refine e_pure 14 rfl (by kernel_rfl) (by kernel_rfl) (by kernel_rfl) rfl (s_idx rfl rfl hsx (by omega)) ?_
     refine e_take 15 rfl (by kernel_rfl) (by kernel_rfl) (by kernel_rfl) (by kernel_rfl) (fun _ _ => rfl) rfl hzB (s_ld rfl ((RdK.old0 (hw.2.2 s hsm)).ld k 0 hto rfl (by decide) (by simp only [Sl.v]; omega))) ?_
     refine e_pure 16 rfl (by kernel_rfl) (by kernel_rfl) (by kernel_rfl) rfl (s_idx rfl rfl hso (by omega)) ?_
     refine e_take 17 rfl (by kernel_rfl) (by kernel_rfl) (by kernel_rfl) (by kernel_rfl) (fun _ _ => rfl) rfl hzB (s_ld rfl ((hO.rdk hiA).ld to 0 hb rfl (by decide) (by omega))) ?_
     refine e_one 18 rfl (by kernel_rfl) ?_
     refine o_callC (us := []) (vs := [_, _]) (cs := [.pointer (some ⟨b7, 0, none⟩)]) (id_fn b7 (upsS (roundT (rows.map Sl.xs) part k).1 (col (rows.map Sl.xs) part k) q) Sm2 hM2 (by omega) a b) rfl rfl rfl (pkA) (fun _ _ => trivial) (fun v65 S65 ⟨hv65, hS65⟩ => ?_)
     subst hv65
     refine o_nil ?_
     refine x_oneS hzB ?_
     refine e_pure 19 rfl (by kernel_rfl) (by kernel_rfl) (by kernel_rfl) rfl (s_idx rfl rfl hs2 (by omega)) ?_
     refine e_one 20 rfl (by kernel_rfl) ?_
     refine o_stS1 q (idx (upsS (roundT (rows.map Sl.xs) part k).1 (col (rows.map Sl.xs) part k) q) (a, b)) hN2 pkA rfl rfl rfl (by rw [ups_len hcc (by omega)]; omega) (by first | rfl | omega | (rw [Int.toNat_natCast, Nat.mul_one])) fun S66 hS66 => ?_
     refine o_nil ?_
     refine x_oneL rfl ?_
     refine e_done (by kernel_rfl) ?_
     refine x_block ?_
     refine x_then (hK24 _ _ ?_)
     refine c_region ?_
     refine o_step rfl (s_add rfl rfl (by omega)) ?_
     refine o_step rfl (s_move rfl) ?_
     refine o_nil ?_
     exact x_then (x_inv (q + 1, _, _) ⟨by omega, by rw [← (ups_step hcc ha hcb).1]; exact hS66, by rw [← (ups_step hcc ha hcb).2]; exact hS65⟩ (by first | omega | (dsimp only; omega)) sbA hzB)
    ·
     obtain rfl : q = (rows.map Sl.xs).length := by omega
     refine c_exit ?_
     refine x_then_exit ?_
     refine x_then_exit ?_
     refine x_block_exit ?_
     refine x_block ?_
     refine x_then (hK18 _ _ ?_)
     refine c_region ?_
     refine o_step rfl (s_add rfl rfl (by omega)) ?_
     refine o_step rfl (s_move rfl) ?_
     refine o_nil ?_
     exact x_then (x_inv (k + 1, _, _) ⟨by omega, by rw [← (ups_end hcl).1]; exact hN2, by rw [← (ups_end hcl).2]; exact hM2⟩ (by first | omega | (dsimp only; omega)) sbA hzB)
   ·
    obtain rfl : K = k := by omega
    obtain ⟨bm, es, c, rfl, hnd, hes, hg⟩ := hM
    refine c_exit ?_
    refine x_then_exit ?_
    refine x_then_exit ?_
    refine x_block_exit ?_
    refine x_then (hK14 _ _ ?_)
    refine c_seq fun _ hK26 => ?_
    refine c_seq fun _ hK27 => ?_
    refine c_region ?_
    refine o_step rfl (s_ld rfl (.own meA rfl)) ?_
    refine o_step rfl (step_cast (v' := .int .i64 (((roundT (rows.map Sl.xs) part K).2.length : Nat) : Int)) (s_lenmap (Ek := EkP) (es := es) rfl meA) (by rw [hes])) ?_
    refine o_step rfl (s_move rfl) ?_
    by_cases hmn : (roundT (rows.map Sl.xs) part K).2.length = many
    ·
     refine o_step rfl (step_cast (v' := .bool true) (s_eql rfl rfl) (congrArg Value.bool (decide_eq_true (by omega)))) ?_
     refine o_nil ?_
     refine x_then (hK27 _ _ ?_)
     refine c_true rfl ?_
     refine c_seq fun _ hK28 => ?_
     refine c_region ?_
     refine o_step rfl (s_move rfl) ?_
     refine o_step rfl (s_assign rfl) ?_
     refine o_nil ?_
     refine x_then (hK28 _ _ ?_)
     refine c_ret ?_
     refine x_then_ret (x_block_ret (x_then_ret (x_block_ret (?_))))
     refine x_sub (Sub.refl _) (H' := Sp) hzB ?_
     exact x_ret rfl (.tmp rfl (.nil)) (⟨_, _, rfl, by rw [← hpt, partsT_end hmn]; exact hO⟩)
    ·
     have hst := hR.step hK0 hmn
     refine o_step rfl (step_cast (v' := .bool false) (s_eql rfl rfl) (congrArg Value.bool (decide_eq_false (by omega)))) ?_
     refine o_nil ?_
     refine x_then (hK27 _ _ ?_)
     refine c_false rfl ?_
     refine c_skip ?_
     refine x_then (hK26 _ _ ?_)
     refine c_seq fun _ hK29 => ?_
     refine c_region ?_
     refine o_step rfl (s_ld rfl (.own meA rfl)) ?_
     refine o_step rfl (step_cast (v' := .int .i64 (((roundT (rows.map Sl.xs) part K).2.length : Nat) : Int)) (s_lenmap (Ek := EkP) (es := es) rfl meA) (by rw [hes])) ?_
     refine o_step rfl (s_assign rfl) ?_
     refine o_nil ?_
     refine x_then (hK29 _ _ ?_)
     refine c_region ?_
     refine o_step rfl (s_move rfl) ?_
     refine o_step rfl (s_assign rfl) ?_
     refine o_nil ?_
     refine x_block ?_
     exact x_then (x_inv (f - 1, (roundT (rows.map Sl.xs) part K).2.length, (roundT (rows.map Sl.xs) part K).1, a32, c32, Sn) ⟨by dsimp only; omega, by dsimp only; omega, by rw [← hpt, partsT_step (by omega) hmn], hst.1, hN⟩ (by first | omega | (dsimp only; omega)) sbA hzB)
theorem own_at {α : Type} {E : α → List Value} {k T : Nat} {sls : List (Sl α)} {xss : List (List α)} {S : Hp} (h : OwnL E k T sls xss S) : ∀ {n : Nat} {s : Sl α}, sls[n]? = some s →
    ∃ xs S1 Sn S2, xss[n]? = some xs ∧ S = S1 ++ (Sn ++ S2) ∧ OwnS E k T s.v xs Sn ∧ ∀ s' xs' Sn', OwnS E k T (Sl.v s') xs' Sn' → OwnL E k T (sls.set n s') (xss.set n xs') (S1 ++ (Sn' ++ S2)) := by
  induction h with
  | nil => intro n s hs; simp at hs
  | @cons s xs sls xss S R h hs ih =>
    intro n s' hn
    cases n with
    | zero =>
      simp at hn; subst hn
      exact ⟨xs, [], S, R, rfl, rfl, h, fun s' xs' Sn' h' => by simpa using OwnL.cons h' hs⟩
    | succ n =>
      obtain ⟨xs', S1, Sn, S2, h1, rfl, h3, h4⟩ := ih (by simpa using hn)
      exact ⟨xs', S ++ S1, Sn, S2, by simpa using h1, by simp, h3, fun y ys Sy hy => by simpa using OwnL.cons h (h4 y ys Sy hy)⟩
/-- lists owned, as their headers say -/
def OwnQ (sls : List (Sl Nat)) (S : Hp) : Prop := OwnL Eix 1 3 sls (sls.map Sl.xs) S
theorem OwnQ.at {sls : List (Sl Nat)} {S : Hp} (h : OwnQ sls S) {n : Nat} {s : Sl Nat} (hs : sls[n]? = some s) :
    ∃ S1 Sn S2, S = S1 ++ (Sn ++ S2) ∧ OwnS Eix 1 3 s.v s.xs Sn ∧ ∀ s' Sn', OwnS Eix 1 3 (Sl.v s') s'.xs Sn' → OwnQ (sls.set n s') (S1 ++ (Sn' ++ S2)) := by
  obtain ⟨xs, S1, Sn, S2, h1, h2, h3, h4⟩ := own_at h hs
  rw [List.getElem?_map, hs] at h1
  obtain rfl := (Option.some.inj h1)
  exact ⟨S1, Sn, S2, h2, h3, fun s' Sn' h' => by rw [OwnQ, List.map_set]; exact h4 s' _ Sn' h'⟩
theorem OwnQ.nils : ∀ n, OwnQ (List.replicate n ⟨none, 0, []⟩) []
  | 0 => .nil
  | n + 1 => OwnL.cons (S := []) (R := []) (s := ⟨none, 0, []⟩) .nil (OwnQ.nils n)
theorem bk_wk {next : List (List Nat)} {q k c c' : Nat} {bss : List (List Nat)} (h : BkI next q k c bss) (hc : c ≤ c') : BkI next q k c' bss := ⟨h.len, h.mem, fun l hl => Nat.le_trans (h.cnt l hl) hc⟩
theorem bk_step {next : List (List Nat)} {q k c to : Nat} {sls : List (Sl Nat)} {row : List Nat} {s s' : Sl Nat} (h : BkI next q k c (sls.map Sl.xs)) (hr : next[q]? = some row) (ht : row[k]? = some to) (hl : sls[to]? = some s) (hs : s'.xs = s.xs ++ [q]) : BkI next q (k + 1) (c + 1) ((sls.set to s').map Sl.xs) := by
  rw [List.map_set, hs]
  exact h.step hr ht (by rw [List.getElem?_map, hl]; rfl)
theorem last_ex {α : Type} {l : List α} (h : 0 < l.length) : ∃ i x, l = i ++ [x] := by
  rcases List.eq_nil_or_concat l with rfl | ⟨i, x, rfl⟩
  · simp at h
  · exact ⟨i, x, by simp⟩
set_option maxHeartbeats 1000000 in
theorem live_fn (na : Option Addr) (nc : Nat) (rows : List (Sl Nat)) (ea : Option Addr) (ec : Nat) (ends : List Bool) (K : Nat) (hel : rows.length = ends.length) (h0 : 0 < rows.length) (hnl : rows.length ≤ 16777217) (hK0 : 0 < K) (hK256 : K ≤ 256) (hKK : ∀ s ∈ rows, s.xs.length = K) (hbd : ∀ s ∈ rows, ∀ v ∈ s.xs, v < rows.length) : HL.Fn Tryd.prog 63 [.agg [.slice na rows.length nc, .slice ea ends.length ec].toArray] (fun w => Rd Esl w (.slice na rows.length nc) rows ∧ Rd Ebo w (.slice ea ends.length ec) ends ∧ ∀ s ∈ rows, Rd Eix w s.v s.xs) [] (fun v S' => ∃ a c lv, v = .slice a ends.length c ∧ OwnS Ebo 1 4 (.slice a ends.length c) lv S' ∧ LvOk (rows.map Sl.xs) ends lv) := by
  refine fn_of Tryd.func63 rfl rfl rfl fun w0 hw => ?_
  have hse := hw.2.1.sl
  have hsn := hw.1.sl
  have hxl : (rows.map Sl.xs).length = ends.length := by rw [List.length_map]; exact hel
  refine c_seq fun _ hK1 => ?_
  refine c_region ?_
  refine o_box rfl rfl rfl fun b1 => ?_
  refine o_step rfl (s_assign rfl) ?_
  refine o_nil ?_
  refine x_then (hK1 _ _ ?_)
  refine c_seq fun _ hK2 => ?_
  refine c_region ?_
  refine o_step rfl (s_field rfl rfl (by decide)) ?_
  refine o_step rfl (s_ld rfl (.own meA rfl)) ?_
  refine o_step rfl (s_len rfl) ?_
  refine o_make (E := Esl) (zx := (⟨none, 0, []⟩ : Sl Nat)) (n := ends.length) rfl rfl rfl (by omega) (by omega) rfl fun b18 S18 hS18 => ?_
  have hs18 := hS18.sl
  rw [List.length_replicate] at hs18
  refine o_step rfl (s_assign rfl) ?_
  refine o_nil ?_
  refine x_then (hK2 _ _ ?_)
  refine c_seq fun _ hK3 => ?_
  refine c_seq fun _ hK4 => ?_
  refine c_region ?_
  refine o_step rfl (s_field rfl rfl (by decide)) ?_
  refine o_step rfl (s_ld rfl (.own meA rfl)) ?_
  refine o_step rfl (s_len rfl) ?_
  refine o_step rfl (s_move rfl) ?_
  refine o_nil ?_
  refine x_then (hK4 _ _ ?_)
  refine c_block ?_
  refine c_loop4 (fun (q : Nat) (bsl : List (Sl Nat)) (Sb : Hp) (SL : Hp) => q ≤ ends.length ∧ OwnS Esl 1 46 (.slice (some ⟨b18, 0, none⟩) ends.length ends.length) bsl Sb ∧ OwnQ bsl SL ∧ BkI (rows.map Sl.xs) q 0 (q * 256) (bsl.map Sl.xs)) (fun (q : Nat) (bsl : List (Sl Nat)) (Sb : Hp) (SL : Hp) => [(22, .int .i64 q)]) [(1, _), (2, _), (3, _), (20, _), (21, _)] (fun (q : Nat) (bsl : List (Sl Nat)) (Sb : Hp) (SL : Hp) => (b1, .cells [.slice na rows.length nc, .slice ea ends.length ec].toArray 91 (0, 0)) :: (Sb ++ SL)) (fun (q : Nat) (bsl : List (Sl Nat)) (Sb : Hp) (SL : Hp) => ends.length - q) 0 (List.replicate ends.length ⟨none, 0, []⟩) S18 [] ⟨Nat.zero_le _, hS18, OwnQ.nils _, by have h := BkI.zero (rows.map Sl.xs); rw [hxl] at h; simpa using h⟩ sbA sbA hzB ?_
  rintro q bsl Sb SL ⟨hq, hB, hL, hK⟩
  refine c_seq fun _ hK5 => ?_
  refine c_region ?_
  refine o_step rfl (s_lss rfl rfl) ?_
  refine o_nil ?_
  refine x_then (hK5 _ _ ?_)
  refine c_seq fun _ hK6 => ?_
  refine c_if rfl (fun hlt => ?_) (fun hlt => ?_)
  ·
   obtain ⟨s, hs⟩ : ∃ s, rows[q]? = some s := ⟨_, List.getElem?_eq_getElem (by omega)⟩
   have hsm := List.mem_of_getElem? hs
   have hsK := hKK s hsm
   have hsx := (hw.2.2 s hsm).sl
   have hrow : (rows.map Sl.xs)[q]? = some s.xs := by rw [List.getElem?_map, hs]; rfl
   refine c_skip ?_
   refine x_then (hK6 _ _ ?_)
   refine c_seq fun _ hK7 => ?_
   refine c_block ?_
   refine c_seq fun _ hK8 => ?_
   refine c_region ?_
   refine o_step rfl (s_move rfl) ?_
   refine o_step rfl (s_idx rfl rfl hsn (by omega)) ?_
   refine o_step rfl (s_ld rfl ((RdK.old0 hw.1).ld q 0 hs rfl (by decide) (by omega))) ?_
   refine o_step rfl (s_assign rfl) ?_
   refine o_step rfl (s_assign rfl) ?_
   refine o_nil ?_
   refine x_then (hK8 _ _ ?_)
   refine c_seq fun _ hK9 => ?_
   refine c_region ?_
   refine o_step rfl (s_move rfl) ?_
   refine o_step rfl (s_len rfl) ?_
   refine o_step rfl (s_move rfl) ?_
   refine o_nil ?_
   refine x_then (hK9 _ _ ?_)
   refine c_block ?_
   refine c_loop4 (fun (k : Nat) (bsl : List (Sl Nat)) (Sb : Hp) (SL : Hp) => k ≤ s.xs.length ∧ OwnS Esl 1 46 (.slice (some ⟨b18, 0, none⟩) ends.length ends.length) bsl Sb ∧ OwnQ bsl SL ∧ BkI (rows.map Sl.xs) q k (q * 256 + k) (bsl.map Sl.xs)) (fun (k : Nat) (bsl : List (Sl Nat)) (Sb : Hp) (SL : Hp) => [(29, .int .i64 k)]) [(1, _), (2, _), (3, _), (4, _), (5, _), (20, _), (21, _), (22, _), (23, _), (24, _), (25, _), (26, _), (27, _), (28, _)] (fun (k : Nat) (bsl : List (Sl Nat)) (Sb : Hp) (SL : Hp) => (b1, .cells [.slice na rows.length nc, .slice ea ends.length ec].toArray 91 (0, 0)) :: (Sb ++ SL)) (fun (k : Nat) (bsl : List (Sl Nat)) (Sb : Hp) (SL : Hp) => s.xs.length - k) 0 bsl Sb SL ⟨Nat.zero_le _, hB, hL, bk_wk hK (by omega)⟩ sbA sbA hzB ?_
   rintro k bsl Sb SL ⟨hk, hB, hL, hK⟩
   refine c_seq fun _ hK10 => ?_
   refine c_region ?_
   refine o_step rfl (s_lss rfl rfl) ?_
   refine o_nil ?_
   refine x_then (hK10 _ _ ?_)
   refine c_seq fun _ hK11 => ?_
   refine c_if rfl (fun hlk => ?_) (fun hlk => ?_)
   ·
    obtain ⟨to, hto⟩ : ∃ t, s.xs[k]? = some t := ⟨_, List.getElem?_eq_getElem (by omega)⟩
    have htl := hbd s hsm to (List.mem_of_getElem? hto)
    have hbl : bsl.length = ends.length := by have := hK.len; rw [List.length_map] at this; omega
    have hsb := hB.sl
    rw [hbl] at hsb
    obtain ⟨bs, hbs⟩ : ∃ b, bsl[to]? = some b := ⟨_, List.getElem?_eq_getElem (by omega)⟩
    have hbc := hK.cnt bs.xs (List.mem_map.2 ⟨bs, List.mem_of_getElem? hbs, rfl⟩)
    obtain ⟨S1, Sn, S2, rfl, hO, hput⟩ := hL.at hbs
    refine c_skip ?_
    refine x_then (hK11 _ _ ?_)
    refine c_seq fun _ hK12 => ?_
    refine c_block ?_
    refine c_seq fun _ hK13 => ?_
    refine c_region ?_
    refine o_step rfl (s_idx rfl rfl hsx (by omega)) ?_
    refine o_step rfl (s_ld rfl ((RdK.old0 (hw.2.2 s hsm)).ld k 0 hto rfl (by decide) (by simp only [Sl.v]; omega))) ?_
    refine o_step rfl (s_assign rfl) ?_
    refine o_nil ?_
    refine x_then (hK13 _ _ ?_)
    refine c_region ?_
    refine o_step rfl (s_move rfl) ?_
    refine o_step rfl (s_move rfl) ?_
    refine o_step rfl (s_move rfl) ?_
    refine o_step rfl (s_move rfl) ?_
    refine o_step rfl (s_idx rfl rfl hsb (by omega)) ?_
    refine o_step rfl (s_ld rfl ((hB.rdk hiA).ld to 0 hbs rfl (by decide) (by omega))) ?_
    refine o_step rfl (s_move rfl) ?_
    refine o_bs (E := Eix) (xs := [q]) (vs := [_]) rfl rfl rfl rfl rfl (by decide) (by decide) fun b40 S40 hS40 => ?_
    refine o_app hO (hS40.rdk hiA) rfl rfl rfl rfl (by simp only [List.length_append, List.length_singleton]; omega) (by simp only [List.length_append, List.length_singleton]; omega) rfl pkA fun a41 c41 S41 hS41 => ?_
    refine o_step rfl (s_idx rfl rfl hsb (by omega)) ?_
    refine o_stS1 to (⟨a41, c41, bs.xs ++ [q]⟩ : Sl Nat) hB pkA rfl rfl rfl (by omega) (by first | rfl | omega | (rw [Int.toNat_natCast, Nat.mul_one])) fun S42 hS42 => ?_
    refine o_nil ?_
    refine x_block ?_
    refine x_then (hK12 _ _ ?_)
    refine c_region ?_
    refine o_step rfl (s_add rfl rfl (by omega)) ?_
    refine o_step rfl (s_move rfl) ?_
    refine o_nil ?_
    exact x_then (x_inv (k + 1, bsl.set to ⟨a41, c41, bs.xs ++ [q]⟩, _, _) ⟨by omega, hS42, hput ⟨a41, c41, bs.xs ++ [q]⟩ S41 hS41, bk_wk (bk_step (s' := ⟨a41, c41, bs.xs ++ [q]⟩) hK hrow hto hbs rfl) (by omega)⟩ (by first | omega | (dsimp only; omega)) sbA hzB)
   ·
    obtain rfl : s.xs.length = k := by omega
    refine c_exit ?_
    refine x_then_exit ?_
    refine x_then_exit ?_
    refine x_block_exit ?_
    refine x_block ?_
    refine x_then (hK7 _ _ ?_)
    refine c_region ?_
    refine o_step rfl (s_add rfl rfl (by omega)) ?_
    refine o_step rfl (s_move rfl) ?_
    refine o_nil ?_
    exact x_then (x_inv (q + 1, bsl, Sb, SL) ⟨by omega, hB, hL, bk_wk (hK.row hrow rfl) (by omega)⟩ (by first | omega | (dsimp only; omega)) sbA hzB)
  ·
   obtain rfl : q = rows.length := by omega
   have hbl : bsl.length = ends.length := by have := hK.len; rw [List.length_map] at this; omega
   have hsb := hB.sl
   rw [hbl] at hsb
   refine c_exit ?_
   refine x_then_exit ?_
   refine x_then_exit ?_
   refine x_block_exit ?_
   refine x_then (hK3 _ _ ?_)
   refine c_seq fun _ hK14 => ?_
   refine c_region ?_
   refine o_step rfl (s_field rfl rfl (by decide)) ?_
   refine o_step rfl (s_ld rfl (.own meA rfl)) ?_
   refine o_call (cloneB_fn ea ec ends.length ends rfl (by omega)) rfl rfl rfl (by exact .nil) (fun w st => (RdK.old0 hw.2.1).out w st) (fun v47 S47 ⟨a47, c47, hv47, hS47⟩ => ?_)
   subst hv47
   have hs47 := hS47.sl
   refine o_step rfl (s_assign rfl) ?_
   refine o_nil ?_
   refine x_then (hK14 _ _ ?_)
   refine c_seq fun _ hK15 => ?_
   refine c_region ?_
   refine o_step rfl (s_assign rfl) ?_
   refine o_nil ?_
   refine x_then (hK15 _ _ ?_)
   refine c_seq fun _ hK16 => ?_
   refine c_seq fun _ hK17 => ?_
   refine c_region ?_
   refine o_step rfl (s_move rfl) ?_
   refine o_step rfl (s_len rfl) ?_
   refine o_step rfl (s_move rfl) ?_
   refine o_nil ?_
   refine x_then (hK17 _ _ ?_)
   refine c_block ?_
   refine c_loop5 (fun (q : Nat) (td : List Nat) (ta : Option Addr) (tc : Nat) (St : Hp) => q ≤ ends.length ∧ td = todoE ends q ∧ OwnS Eix 1 3 (.slice ta td.length tc) td St) (fun (q : Nat) (td : List Nat) (ta : Option Addr) (tc : Nat) (St : Hp) => [(9, .slice ta td.length tc), (50, .int .i64 q)]) [(2, _), (3, _), (8, _), (48, _), (49, _)] (fun (q : Nat) (td : List Nat) (ta : Option Addr) (tc : Nat) (St : Hp) => (b1, .cells [.slice na rows.length nc, .slice ea ends.length ec].toArray 91 (0, 0)) :: (Sb ++ (SL ++ (S47 ++ St)))) (fun (q : Nat) (td : List Nat) (ta : Option Addr) (tc : Nat) (St : Hp) => ends.length - q) 0 [] none 0 [] ⟨Nat.zero_le _, rfl, OwnS.nil⟩ sbA sbA hzB ?_
   rintro q td ta tc St ⟨hq, htd, hT⟩
   refine c_seq fun _ hK18 => ?_
   refine c_region ?_
   refine o_step rfl (s_lss rfl rfl) ?_
   refine o_nil ?_
   refine x_then (hK18 _ _ ?_)
   refine c_seq fun _ hK19 => ?_
   refine c_if rfl (fun hl51 => ?_) (fun hl51 => ?_)
   ·
    obtain ⟨e, heq⟩ : ∃ e, ends[q]? = some e := ⟨_, List.getElem?_eq_getElem (by omega)⟩
    have htel := todoE_len ends q
    rw [← htd] at htel
    refine c_skip ?_
    refine x_then (hK19 _ _ ?_)
    refine c_seq fun _ hK20 => ?_
    refine c_block ?_
    refine c_seq fun _ hK21 => ?_
    refine c_region ?_
    refine o_step rfl (s_move rfl) ?_
    refine o_step rfl (s_idx rfl rfl hs47 (by omega)) ?_
    refine o_step rfl (s_ld rfl ((hS47.rdk hiA).ld q 0 heq rfl (by decide) (by omega))) ?_
    refine o_step rfl (s_assign rfl) ?_
    refine o_step rfl (s_assign rfl) ?_
    refine o_nil ?_
    refine x_then (hK21 _ _ ?_)
    refine c_seq fun _ hK22 => ?_
    refine c_region ?_
    refine o_step rfl (s_move rfl) ?_
    refine o_nil ?_
    refine x_then (hK22 _ _ ?_)
    refine c_cond rfl (fun he => ?_) (fun he => ?_)
    ·
     subst he
     refine c_region ?_
     refine o_step rfl (s_move rfl) ?_
     refine o_step rfl (s_move rfl) ?_
     refine o_bs (E := Eix) (xs := [q]) (vs := [_]) rfl rfl rfl rfl rfl (by decide) (by decide) fun b58 S58 hS58 => ?_
     refine o_app hT (hS58.rdk hiA) rfl rfl rfl rfl (by simp only [List.length_append, List.length_singleton]; omega) (by simp only [List.length_append, List.length_singleton]; omega) rfl pkA fun a59 c59 S59 hS59 => ?_
     refine o_step rfl (s_assign rfl) ?_
     refine o_nil ?_
     refine x_block ?_
     refine x_then (hK20 _ _ ?_)
     refine c_region ?_
     refine o_step rfl (s_add rfl rfl (by omega)) ?_
     refine o_step rfl (s_move rfl) ?_
     refine o_nil ?_
     exact x_then (x_inv (q + 1, td ++ [q], a59, c59, S59) ⟨by omega, by rw [todoE_yes heq, htd], hS59⟩ (by first | omega | (dsimp only; omega)) sbA hzB)
    ·
     subst he
     refine c_skip ?_
     refine x_block ?_
     refine x_then (hK20 _ _ ?_)
     refine c_region ?_
     refine o_step rfl (s_add rfl rfl (by omega)) ?_
     refine o_step rfl (s_move rfl) ?_
     refine o_nil ?_
     exact x_then (x_inv (q + 1, td, ta, tc, St) ⟨by omega, by rw [todoE_no heq, htd], hT⟩ (by first | omega | (dsimp only; omega)) sbA hzB)
   ·
    obtain rfl : q = ends.length := by omega
    refine c_exit ?_
    refine x_then_exit ?_
    refine x_then_exit ?_
    refine x_block_exit ?_
    refine x_then (hK16 _ _ ?_)
    refine c_seq fun _ hK23 => ?_
    refine c_block ?_
    refine c_loop6 (fun (lv : List Bool) (todo : List Nat) (Sv : Hp) (ta : Option Addr) (tc : Nat) (St : Hp) => LvI (rows.map Sl.xs) ends lv todo none ∧ OwnS Ebo 1 4 (.slice a47 ends.length c47) lv Sv ∧ OwnS Eix 1 3 (.slice ta todo.length tc) todo St ∧ 2 * dead lv + todo.length ≤ 2 * ends.length) (fun (lv : List Bool) (todo : List Nat) (Sv : Hp) (ta : Option Addr) (tc : Nat) (St : Hp) => [(9, .slice ta todo.length tc)]) [(2, _), (3, _), (8, _)] (fun (lv : List Bool) (todo : List Nat) (Sv : Hp) (ta : Option Addr) (tc : Nat) (St : Hp) => (b1, .cells [.slice na rows.length nc, .slice ea ends.length ec].toArray 91 (0, 0)) :: (Sb ++ (SL ++ (Sv ++ St)))) (fun (lv : List Bool) (todo : List Nat) (Sv : Hp) (ta : Option Addr) (tc : Nat) (St : Hp) => 2 * dead lv + todo.length) ends td S47 ta tc St ⟨by rw [htd]; exact LvI.init (by omega), hS47, hT, by have := dead_todo ends; rw [← htd] at this; omega⟩ sbA sbA hzB ?_
    rintro lv todo Sv ta tc St ⟨hI, hV, hT, hm⟩
    have hvl := hI.len
    have hsv := hV.sl
    have hst := hT.sl
    rw [show lv.length = ends.length by omega] at hsv
    refine c_seq fun _ hK24 => ?_
    refine c_seq fun _ hK25 => ?_
    refine c_region ?_
    refine o_step rfl (s_move rfl) ?_
    refine o_step rfl (s_len rfl) ?_
    by_cases hpos : (todo.length : Int) > 0
    ·
     obtain ⟨ini, q, rfl⟩ := last_ex (l := todo) (by omega)
     have hil : (ini ++ [q]).length = ini.length + 1 := by simp
     have hqv := hI.tod q (by simp)
     have hql := (List.getElem?_eq_some_iff.1 hqv).1
     obtain ⟨bq, hbq⟩ : ∃ b, bsl[q]? = some b := ⟨_, List.getElem?_eq_getElem (by omega)⟩
     obtain ⟨S1, Sn, S2, hSL, hO, _⟩ := hL.at hbq
     have hso := hO.sl
     have hbo := hso.le
     have hTp := hT.pre ini.length (by omega)
     rw [List.take_left] at hTp
     refine o_step rfl (step_cast (v' := .bool true) (s_gtr rfl rfl) (congrArg Value.bool (decide_eq_true hpos))) ?_
     refine o_nil ?_
     refine x_then (hK25 _ _ ?_)
     refine c_true rfl ?_
     refine c_skip ?_
     refine x_then (hK24 _ _ ?_)
     refine c_block ?_
     refine c_seq fun _ hK26 => ?_
     refine c_region ?_
     refine o_step rfl (s_move rfl) ?_
     refine o_step rfl (s_move rfl) ?_
     refine o_step rfl (s_len rfl) ?_
     refine o_step rfl (s_sub rfl rfl (by omega)) ?_
     refine o_step rfl (s_idx rfl rfl hst (by omega)) ?_
     refine o_step rfl (s_ld rfl ((hT.rdk hiA).ld ini.length 0 (show (ini ++ [q])[ini.length]? = some q by simp) rfl (by decide) (by omega))) ?_
     refine o_step rfl (s_assign rfl) ?_
     refine o_nil ?_
     refine x_then (hK26 _ _ ?_)
     refine c_seq fun _ hK27 => ?_
     refine c_region ?_
     refine o_step rfl (s_move rfl) ?_
     refine o_step rfl (s_move rfl) ?_
     refine o_step rfl (s_len rfl) ?_
     refine o_step rfl (s_sub rfl rfl (by omega)) ?_
     refine o_step rfl (step_cast (v' := .slice ta ini.length tc) (s_slice_hi rfl rfl (by have := hst.cap; omega)) (by congr 1; omega)) ?_
     refine o_step rfl (s_assign rfl) ?_
     refine o_nil ?_
     refine x_then (hK27 _ _ ?_)
     refine c_seq fun _ hK28 => ?_
     refine c_region ?_
     refine o_step rfl (s_move rfl) ?_
     refine o_step rfl (s_move rfl) ?_
     refine o_step rfl (s_idx rfl rfl hsb (by omega)) ?_
     refine o_step rfl (s_ld rfl ((hB.rdk hiA).ld q 0 hbq rfl (by decide) (by omega))) ?_
     refine o_step rfl (s_len rfl) ?_
     refine o_step rfl (s_move rfl) ?_
     refine o_nil ?_
     refine x_then (hK28 _ _ ?_)
     refine c_block ?_
     refine c_loop7 (fun (j : Nat) (lv2 : List Bool) (todo2 : List Nat) (Sv2 : Hp) (ta2 : Option Addr) (tc2 : Nat) (St2 : Hp) => j ≤ bq.xs.length ∧ LvI (rows.map Sl.xs) ends lv2 todo2 (some q) ∧ lv2[q]? = some true ∧ (∀ i, i < j → ∀ p, bq.xs[i]? = some p → lv2[p]? = some true) ∧ OwnS Ebo 1 4 (.slice a47 ends.length c47) lv2 Sv2 ∧ OwnS Eix 1 3 (.slice ta2 todo2.length tc2) todo2 St2 ∧ 2 * dead lv2 + todo2.length < 2 * dead lv + (ini.length + 1)) (fun (j : Nat) (lv2 : List Bool) (todo2 : List Nat) (Sv2 : Hp) (ta2 : Option Addr) (tc2 : Nat) (St2 : Hp) => [(9, .slice ta2 todo2.length tc2), (80, .int .i64 j)]) [(2, _), (3, _), (8, _), (12, _), (61, _), (62, _), (63, _), (64, _), (65, _), (66, _), (67, _), (68, _), (69, _), (70, _), (71, _), (72, _), (73, _), (74, _), (75, _), (76, _), (77, _), (78, _), (79, _)] (fun (j : Nat) (lv2 : List Bool) (todo2 : List Nat) (Sv2 : Hp) (ta2 : Option Addr) (tc2 : Nat) (St2 : Hp) => (b1, .cells [.slice na rows.length nc, .slice ea ends.length ec].toArray 91 (0, 0)) :: (Sb ++ (SL ++ (Sv2 ++ St2)))) (fun (j : Nat) (lv2 : List Bool) (todo2 : List Nat) (Sv2 : Hp) (ta2 : Option Addr) (tc2 : Nat) (St2 : Hp) => bq.xs.length - j) 0 lv ini Sv ta tc St ⟨Nat.zero_le _, hI.pop, hqv, fun i hi => by omega, hV, hTp, by omega⟩ sbA sbA hzB ?_
     rintro j lv2 todo2 Sv2 ta2 tc2 St2 ⟨hj, hI2, hqv2, hpr2, hV2, hT2, hm2⟩
     have hvl2 := hI2.len
     have hsv2 := hV2.sl
     rw [show lv2.length = ends.length by omega] at hsv2
     refine c_seq fun _ hK29 => ?_
     refine c_region ?_
     refine o_step rfl (s_lss rfl rfl) ?_
     refine o_nil ?_
     refine x_then (hK29 _ _ ?_)
     refine c_seq fun _ hK30 => ?_
     refine c_if rfl (fun hlj => ?_) (fun hlj => ?_)
     ·
      obtain ⟨p, hjp⟩ : ∃ p, bq.xs[j]? = some p := ⟨_, List.getElem?_eq_getElem (by omega)⟩
      have hpe := (hK.done (by omega) (by rw [List.getElem?_map, hbq]; rfl) p).1 (List.mem_of_getElem? hjp)
      have hpl : p < ends.length := by obtain ⟨row, hr, _⟩ := hpe; have := (List.getElem?_eq_some_iff.1 hr).1; omega
      obtain ⟨e, hpv⟩ : ∃ e, lv2[p]? = some e := ⟨_, List.getElem?_eq_getElem (by omega)⟩
      have hd2 := dead_le lv2
      refine c_skip ?_
      refine x_then (hK30 _ _ ?_)
      refine c_seq fun _ hK31 => ?_
      refine c_block ?_
      refine c_seq fun _ hK32 => ?_
      refine c_region ?_
      refine o_step rfl (s_idx rfl rfl hso (by omega)) ?_
      refine o_step rfl (s_ld rfl ((hO.rdk (by rw [hSL]; exact hiA)).ld j 0 hjp rfl (by decide) (by simp only [Sl.v]; omega))) ?_
      refine o_step rfl (s_assign rfl) ?_
      refine o_nil ?_
      refine x_then (hK32 _ _ ?_)
      refine c_seq fun _ hK33 => ?_
      refine c_region ?_
      refine o_step rfl (s_move rfl) ?_
      refine o_step rfl (s_move rfl) ?_
      refine o_step rfl (s_idx rfl rfl hsv2 (by omega)) ?_
      refine o_step rfl (s_ld rfl ((hV2.rdk hiA).ld p 0 hpv rfl (by decide) (by omega))) ?_
      refine o_step rfl (s_not rfl) ?_
      refine o_nil ?_
      refine x_then (hK33 _ _ ?_)
      refine c_cond rfl (fun he => ?_) (fun he => ?_)
      ·
       obtain rfl : e = false := by cases e <;> first | rfl | cases he
       refine c_seq fun _ hK34 => ?_
       refine c_region ?_
       refine o_step rfl (s_move rfl) ?_
       refine o_step rfl (s_move rfl) ?_
       refine o_step rfl (s_idx rfl rfl hsv2 (by omega)) ?_
       refine o_stS1 p true hV2 pkA rfl rfl rfl (by omega) (by first | rfl | omega | (rw [Int.toNat_natCast, Nat.mul_one])) fun S91 hS91 => ?_
       refine o_nil ?_
       refine x_then (hK34 _ _ ?_)
       refine c_region ?_
       refine o_step rfl (s_move rfl) ?_
       refine o_step rfl (s_move rfl) ?_
       refine o_bs (E := Eix) (xs := [p]) (vs := [_]) rfl rfl rfl rfl rfl (by decide) (by decide) fun b94 S94 hS94 => ?_
       refine o_app hT2 (hS94.rdk hiA) rfl rfl rfl rfl (by simp only [List.length_append, List.length_singleton]; omega) (by simp only [List.length_append, List.length_singleton]; omega) rfl pkA fun a95 c95 S95 hS95 => ?_
       refine o_step rfl (s_assign rfl) ?_
       refine o_nil ?_
       refine x_block ?_
       refine x_then (hK31 _ _ ?_)
       refine c_region ?_
       refine o_step rfl (s_add rfl rfl (by omega)) ?_
       refine o_step rfl (s_move rfl) ?_
       refine o_nil ?_
       exact x_then (x_inv (j + 1, lv2.set p true, todo2 ++ [p], S91, a95, c95, S95) ⟨by omega, hI2.push hqv2 hpe hpv, (lv_set hpv q).2 (.inr hqv2), fun i hi p' hp' => (lv_set hpv p').2 (by rcases Nat.lt_or_ge i j with h | h; (· exact .inr (hpr2 i h p' hp')); (· rw [show i = j by omega, hjp] at hp'; exact .inl (Option.some.inj hp').symm)), hS91, hS95, by have := dead_set hpv; simp only [List.length_append, List.length_singleton]; omega⟩ (by first | omega | (dsimp only; omega)) sbA hzB)
      ·
       obtain rfl : e = true := by cases e <;> first | rfl | cases he
       refine c_skip ?_
       refine x_block ?_
       refine x_then (hK31 _ _ ?_)
       refine c_region ?_
       refine o_step rfl (s_add rfl rfl (by omega)) ?_
       refine o_step rfl (s_move rfl) ?_
       refine o_nil ?_
       exact x_then (x_inv (j + 1, lv2, todo2, Sv2, ta2, tc2, St2) ⟨by omega, hI2, hqv2, fun i hi p' hp' => (by rcases Nat.lt_or_ge i j with h | h; (· exact hpr2 i h p' hp'); (· rw [show i = j by omega, hjp] at hp'; rw [← Option.some.inj hp']; exact hpv)), hV2, hT2, hm2⟩ (by first | omega | (dsimp only; omega)) sbA hzB)
     ·
      obtain rfl : j = bq.xs.length := by omega
      refine c_exit ?_
      refine x_then_exit ?_
      refine x_then_exit ?_
      refine x_block_exit ?_
      refine x_block ?_
      exact x_then (x_inv (lv2, todo2, Sv2, ta2, tc2, St2) ⟨hI2.close (fun p hp => by obtain ⟨i, hi⟩ := List.getElem?_of_mem ((hK.done (by omega) (by rw [List.getElem?_map, hbq]; rfl) p).2 hp); exact hpr2 i (List.getElem?_eq_some_iff.1 hi).1 p hi), hV2, hT2, by dsimp only; omega⟩ (by first | omega | (dsimp only; omega)) sbA hzB)
    ·
     have htn : todo = [] := List.eq_nil_of_length_eq_zero (by omega)
     subst htn
     refine o_step rfl (step_cast (v' := .bool false) (s_gtr rfl rfl) (congrArg Value.bool (decide_eq_false hpos))) ?_
     refine o_nil ?_
     refine x_then (hK25 _ _ ?_)
     refine c_false rfl ?_
     refine c_exit ?_
     refine x_then_exit ?_
     refine x_then_exit ?_
     refine x_block_exit ?_
     refine x_then (hK23 _ _ ?_)
     refine c_seq fun _ hK35 => ?_
     refine c_region ?_
     refine o_step rfl (s_move rfl) ?_
     refine o_step rfl (s_assign rfl) ?_
     refine o_nil ?_
     refine x_then (hK35 _ _ ?_)
     refine c_ret ?_
     refine ?_
     refine x_sub (Sub.refl _) (H' := Sv) hzB ?_
     exact x_ret rfl (.tmp rfl (.nil)) (⟨_, _, lv, rfl, hV, hI.done⟩)
end Go.Proofs.YtmompllplidphaaDoor
namespace Go.HL.Kl
open Go Go.HL
def mt (c a : Cl) : Bool := decide (c &&& a = 0#256)
/-- the classes, put together -/
def orA (l : List Cl) : Cl := l.foldl (fun c a => c ||| a) 0
theorem orA_get (l : List Cl) (x : Nat) : (orA l).getLsbD x = l.any (fun a => a.getLsbD x) := by
  have key : ∀ (l : List Cl) (c : Cl), (l.foldl (fun c a => c ||| a) c).getLsbD x = (c.getLsbD x || l.any (fun a => a.getLsbD x)) := by
    intro l
    induction l with
    | nil => intro c; simp
    | cons a l ih => intro c; rw [List.foldl_cons, ih, BitVec.getLsbD_or, List.any_cons, Bool.or_assoc]
  have := key l 0
  simpa [orA] using this
theorem and_zero_of {a b : Cl} (h : ∀ x, x < 256 → a.getLsbD x = true → b.getLsbD x = true → False) : a &&& b = 0#256 := by
  apply cl_ext
  intro x hx
  rw [BitVec.getLsbD_and]
  cases ha : a.getLsbD x <;> cases hb : b.getLsbD x <;> simp
  exact h x hx ha hb
theorem and_zero_bit {a b : Cl} (h : a &&& b = 0#256) {x : Nat} (ha : a.getLsbD x = true) (hb : b.getLsbD x = true) : False := by
  have := congrArg (fun c => BitVec.getLsbD c x) h
  simp only [BitVec.getLsbD_and, ha, hb, Bool.and_self, BitVec.getLsbD_zero] at this
  cases this
theorem orA_atoms (l : List Cl) : orA (atoms l) = rng 0 255 := by
  apply cl_ext
  intro x hx
  rw [orA_get, rng_all hx]
  obtain ⟨a, ha, hax⟩ := (atoms_pi l).all x hx
  exact List.any_eq_true.2 ⟨a, ha, hax⟩
theorem mt_bit {l : List Cl} {c a : Cl} (hc : c ∈ l) (ha : a ∈ atoms l) {x : Nat} (hx : a.getLsbD x = true) : mt c a = !c.getLsbD x := by
  have hx' := lt_of_bit hx
  cases hcx : c.getLsbD x
  · refine decide_eq_true (and_zero_of fun y hy h1 h2 => ?_)
    rw [(atoms_pi l).eq a ha x hx, cls_get l x hy] at h2
    have := List.all_eq_true.1 h2 c hc
    simp [hcx, h1] at this
  · exact decide_eq_false fun h => and_zero_bit h hcx hx
/-- those that c meets, put together -/
def orM (c : Cl) (l : List Cl) : Cl := orA (l.filter fun a => !mt c a)
end Go.HL.Kl
