/- Part of the proofs over this seat: see the text that holds the theorem. Conditions: each theorem bears its own. -/
import Derived.Test.YtmpeokbongnniaaHTZ
import Derived.Test.YtmpeokbongnniaaYC6
import Derived.Test.YtmpeokbongnniaaMQ2Z
import Derived.Test.YtmpeokbongnniaaMK6Z
import Derived.Test.YtmpeokbongnniaaYZM12Z
namespace Go.Proofs.Ytmpeokbongnniaa
open Go Go.HL Go.Proofs Go.HL.Kl Go.HL.Kl.Mc Go.HL.Kl.Mc.AskE
structure Td where
  ok : Bool
  sp : Sl Sp
def Etd (t : Td) : List Value := [.bool t.ok, t.sp.v]
instance : Enc Etd 2 := ⟨fun _ => rfl, fun _ v h => by
  simp only [Etd, List.mem_cons, List.not_mem_nil, or_false] at h
  rcases h with rfl | rfl <;> rfl⟩
def stpP (rows : List Td) (n : Nat) (_ : Nat) (b : Bool) (L : List Sp) (n' : Nat) : Prop := n ≤ 1000 ∧ n' = n + 1 ∧ ((∃ t, rows[n]? = some t ∧ b = t.ok ∧ L = t.sp.xs) ∨ (rows.length ≤ n ∧ b = false ∧ L = []))
theorem stpP_det {rows : List Td} : Det (stpP rows) := fun s a b L s' b2 L2 s2 h h' => by
  obtain ⟨_, rfl, h1⟩ := h
  obtain ⟨_, rfl, h2⟩ := h'
  rcases h1 with ⟨t, ht, rfl, rfl⟩ | ⟨hl, rfl, rfl⟩ <;> rcases h2 with ⟨t', ht', rfl, rfl⟩ | ⟨hl', rfl, rfl⟩
  · rw [ht] at ht'; obtain rfl := Option.some.inj ht'; exact ⟨rfl, rfl, rfl⟩
  · have := (List.getElem?_eq_some_iff.1 ht).1; omega
  · have := (List.getElem?_eq_some_iff.1 ht').1; omega
  · exact ⟨rfl, rfl, rfl⟩
def HSP (bP : Nat) (ra : Option Addr) (rc : Nat) (rows : List Td) (n : Nat) (S : Hp) : Prop := ∃ (ta pa ga : Option Addr) (tc pc gc : Nat) (tl : List (Sl UInt8)) (pl : List Nat) (gl : List (Sl Sp)) (S1 S2 S3 : Hp),
  S = (bP, .cells [.slice ra rows.length rc, .slice ta tl.length tc, .slice pa pl.length pc, .slice ga gl.length gc].toArray 67 (0, 0)) :: (S1 ++ (S2 ++ S3)) ∧ OwnS Esl 1 23 (.slice ta tl.length tc) tl S1 ∧ OwnS Eix 1 3 (.slice pa pl.length pc) pl S2 ∧ OwnS Esl 1 48 (.slice ga gl.length gc) gl S3 ∧ pl.length = n ∧ tl.length = n ∧ gl.length ≤ n
structure PlA (ra : Option Addr) (rc : Nat) (rows : List Td) (H : Hp) (W : World) : Prop where
  d1 : Rd Etd W (.slice ra rows.length rc) rows
  a1 : Apart (keys H) (.slice ra rows.length rc)
  d2 : ∀ t ∈ rows, Rd Esp W t.sp.v t.sp.xs ∧ Apart (keys H) t.sp.v
theorem plPre {ra : Option Addr} {rc : Nat} {rows : List Td} : PreS (PlA ra rc rows) := fun {w0 w H0 H S} h st hin =>
  ⟨(RdK.old (κ := ⟨0, [], w0, keys H0⟩) (H := H) h.d1 h.a1).out w st, St.apart_M st hin h.d1 h.a1 (by decide), fun t ht => ⟨(RdK.old (κ := ⟨0, [], w0, keys H0⟩) (H := H) (h.d2 t ht).1 (h.d2 t ht).2).out w st, St.apart_M st hin (h.d2 t ht).1 (h.d2 t ht).2 (by decide)⟩⟩
theorem pre_wide {L ll : List Sp} {k : Nat} (hl : ll.length = L.length + 64) (h : ∀ i, i < L.length → i < k → ll[i]? = L[i]?) (hk : L.length ≤ k) : ll.take L.length = L := List.ext_getElem? fun i => by
  rcases Nat.lt_or_ge i L.length with h' | h'
  · rw [List.getElem?_take_of_lt h']; exact h i h' (by omega)
  · rw [List.getElem?_eq_none (by simp; omega), List.getElem?_eq_none h']
theorem set_wide {L ll : List Sp} {k : Nat} {s : Sp} (hl : ll.length = L.length + 64) (hk : k < L.length + 64) (h : ∀ i, i < L.length → i < k → ll[i]? = L[i]?) (hs : k < L.length → L[k]? = some s) : ∀ i, i < L.length → i < k + 1 → (ll.set k s)[i]? = L[i]? := fun i h1 h2 => by
  by_cases e : i = k
  · subst e
    rw [List.getElem?_set_self (by omega), hs h1]
  · rw [List.getElem?_set_ne (Ne.symm e)]; exact h i h1 (by omega)
theorem num_fn (n i : Nat) (hn : n ≤ 1000) (hi : i ≤ 1099511627776) : HL.Fn Try.prog 117 [.int .i64 n, .int .i64 i] (fun _ => True) [] (fun v _ => v = .int .i64 (1048576 * n + i + 1)) := by
  refine fn_of Try.func117 rfl rfl rfl fun w0 hw => ?_; refine c_seq fun _ hK1 => ?_; refine c_region ?_; refine o_step rfl (s_assign rfl) ?_; refine o_nil ?_; refine x_then (hK1 _ _ ?_); refine c_seq fun _ hK2 => ?_; refine c_region ?_; refine o_step rfl (s_move rfl) ?_; refine o_step rfl (s_mul rfl rfl (by omega)) ?_; refine o_step rfl (s_move rfl) ?_; refine o_step rfl (s_add rfl rfl (by omega)) ?_; refine o_step rfl (s_add rfl rfl (by omega)) ?_; refine o_step rfl (s_assign rfl) ?_; refine o_nil ?_; refine x_then (hK2 _ _ ?_); refine c_ret ?_; refine ?_; exact x_ret rfl (.tmp rfl (.nil)) (rfl)

set_option maxHeartbeats 1000000 in
theorem wideSpans_fn (a : Option Addr) (c : Nat) (xs : List Sp) (hn : xs.length ≤ 1048576) : HL.Fn Try.prog 116 [.slice a xs.length c] (fun w => Rd Esp w (.slice a xs.length c) xs) [] (fun v S' => ∃ a' c', v = .slice a' xs.length c' ∧ OwnS Esp 2 51 (.slice a' xs.length c') xs S') := by
  refine fn_of Try.func116 rfl rfl rfl fun w0 hw => ?_
  have hs1 := hw.sl
  refine c_seq fun _ hK1 => ?_; refine c_region ?_; refine o_step rfl (s_assign rfl) ?_; refine o_nil ?_; refine x_then (hK1 _ _ ?_); refine c_seq fun _ hK2 => ?_; refine c_region ?_; refine o_step rfl (s_move rfl) ?_; refine o_step rfl (s_len rfl) ?_; refine o_step rfl (s_add rfl rfl (by omega)) ?_; refine o_make (E := Esp) (zx := ⟨0, 0⟩) (n := xs.length + 64) rfl rfl rfl (by omega) (by omega) rfl fun b8 S8 hS8 => ?_; refine o_step rfl (s_assign rfl) ?_; refine o_nil ?_; refine x_then (hK2 _ _ ?_); refine c_seq fun _ hK3 => ?_; refine c_seq fun _ hK4 => ?_; refine c_region ?_; refine o_step rfl (s_assign rfl) ?_; refine o_nil ?_; refine x_then (hK4 _ _ ?_); refine c_block ?_; refine c_loop3 (fun (k : Nat) (ll : List Sp) (Sl : Hp) => k ≤ xs.length + 64 ∧ ll.length = xs.length + 64 ∧ (∀ i, i < xs.length → i < k → ll[i]? = xs[i]?) ∧ OwnS Esp 2 51 (.slice (some ⟨b8, 0, none⟩) (xs.length + 64) (xs.length + 64)) ll Sl) (fun (k : Nat) (ll : List Sp) (Sl : Hp) => [(4, .int .i64 k)]) [(0, _), (2, _), (3, _)] (fun (k : Nat) (ll : List Sp) (Sl : Hp) => Sl) (fun (k : Nat) (ll : List Sp) (Sl : Hp) => xs.length + 64 - k) 0 _ S8 ⟨Nat.zero_le _, List.length_replicate, fun i _ hi => by omega, hS8⟩ sbA sbA hzB ?_
  rintro k ll Sl ⟨hk, hll, hfi, hO⟩
  have hos := hO.sl
  rw [hll] at hos
  refine c_seq fun _ hK5 => ?_; refine c_seq fun _ hK6 => ?_; refine c_region ?_; refine o_step rfl (s_move rfl) ?_; refine o_step rfl (s_move rfl) ?_; refine o_step rfl (s_len rfl) ?_; refine o_step rfl (s_lss rfl rfl) ?_; refine o_nil ?_; refine x_then (hK6 _ _ ?_); refine c_if rfl (fun hlt => ?_) (fun hlt => ?_)
  ·
   refine c_skip ?_; refine x_then (hK5 _ _ ?_); refine c_seq fun _ hK7 => ?_; refine c_block ?_; refine c_seq fun _ hK8 => ?_; refine c_region ?_; refine o_step rfl (s_move rfl) ?_; refine o_step rfl (s_move rfl) ?_; refine o_step rfl (s_len rfl) ?_; refine o_step rfl (s_lss rfl rfl) ?_; refine o_nil ?_; refine x_then (hK8 _ _ ?_); refine c_if rfl (fun hlx => ?_) (fun hlx => ?_)
   ·
    obtain ⟨sk, hsk⟩ : ∃ s, xs[k]? = some s := ⟨_, List.getElem?_eq_getElem (by omega)⟩
    refine c_region ?_; refine o_step rfl (s_move rfl) ?_; refine o_step rfl (s_move rfl) ?_; refine o_step rfl (s_move rfl) ?_; refine o_step rfl (s_move rfl) ?_; refine o_step rfl (s_idx rfl rfl hs1 (by omega)) ?_; refine o_step rfl (s_ldB rfl ((RdK.old0 hw).lds k hsk rfl) (by rfl)) ?_; refine o_step rfl (s_idx rfl rfl hos (by omega)) ?_; refine o_stSE k sk hO pkA rfl rfl (by omega) (by rw [Int.toNat_natCast]) fun S' hS' => ?_; refine o_nil ?_; refine x_block ?_; refine x_then (hK7 _ _ ?_); refine c_region ?_; refine o_step rfl (s_move rfl) ?_; refine o_step rfl (s_add rfl rfl (by omega)) ?_; refine o_step rfl (s_assign rfl) ?_; refine o_nil ?_; exact x_then (x_inv (k + 1, _, S') ⟨by dsimp only; omega, by rw [List.length_set]; exact hll, set_wide hll (by omega) hfi (fun _ => hsk), hS'⟩ (by first | omega | (dsimp only; omega)) sbA hzB)
   ·
    refine c_region ?_; refine o_step rfl (s_move rfl) ?_; refine o_step rfl (s_move rfl) ?_; refine o_step rfl (s_move rfl) ?_; refine o_callP (num_fn 9 k (by decide) (by omega)) rfl rfl rfl (fun _ _ => trivial) (fun v29 hv29 => ?_); subst hv29
    refine o_step rfl (s_build (cs := [_, _]) (vs := [_, _]) rfl rfl (.cons rfl rfl rfl rfl rfl (.cons rfl rfl rfl rfl rfl (.nil)))) ?_; refine o_step rfl (s_idx rfl rfl hos (by omega)) ?_; refine o_stSE k (⟨1048576 * (9 : Nat) + k + 1, -7⟩ : Sp) hO pkA rfl rfl (by omega) (by rw [Int.toNat_natCast]) fun S' hS' => ?_; refine o_nil ?_; refine x_block ?_; refine x_then (hK7 _ _ ?_); refine c_region ?_; refine o_step rfl (s_move rfl) ?_; refine o_step rfl (s_add rfl rfl (by omega)) ?_; refine o_step rfl (s_assign rfl) ?_; refine o_nil ?_; exact x_then (x_inv (k + 1, _, S') ⟨by dsimp only; omega, by rw [List.length_set]; exact hll, set_wide (s := ⟨1048576 * (9 : Nat) + k + 1, -7⟩) hll (by omega) hfi (fun h => absurd h (by omega)), hS'⟩ (by first | omega | (dsimp only; omega)) sbA hzB)
  ·
   have hpre := hO.pre xs.length (by omega)
   rw [pre_wide hll hfi (by omega)] at hpre
   refine c_exit ?_; refine x_then_exit ?_; refine x_then_exit ?_; refine x_block_exit ?_; refine x_then (hK3 _ _ ?_); refine c_seq fun _ hK9 => ?_; refine c_region ?_; refine o_step rfl (s_move rfl) ?_; refine o_step rfl (s_move rfl) ?_; refine o_step rfl (s_len rfl) ?_; refine o_step rfl (s_slice_hi rfl rfl (by omega)) ?_; refine o_step rfl (s_assign rfl) ?_; refine o_nil ?_; refine x_then (hK9 _ _ ?_); refine c_ret ?_; refine ?_; refine x_sub (Sub.refl _) (H' := Sl) hzB ?_; exact x_ret rfl (.tmp rfl (.nil)) (⟨_, _, rfl, hpre⟩)

set_option maxHeartbeats 2000000 in
theorem pFind_raw (bP : Nat) (ra : Option Addr) (rc : Nat) (rows : List Td) (ta pa ga : Option Addr) (tc pc gc : Nat) (tl : List (Sl UInt8)) (pl : List Nat) (gl : List (Sl Sp)) (S1 S2 S3 St : Hp) (h1 : OwnS Esl 1 23 (.slice ta tl.length tc) tl S1) (h2 : OwnS Eix 1 3 (.slice pa pl.length pc) pl S2) (h3 : OwnS Esl 1 48 (.slice ga gl.length gc) gl S3) (n : Nat) (hpl : pl.length = n) (htl : tl.length = n) (hgl : gl.length ≤ n) (hn : n ≤ 1000)
    (w : List UInt8) (hwl : w.length ≤ 1000000) (xa : Option Addr) (xc : Nat) (hx : OwnS Eb 1 5 (.slice xa w.length xc) w St) (a : Nat) (hrl : ∀ t ∈ rows, t.sp.xs.length ≤ 1048576) : HL.Fn Try.prog 115 [pt bP, .slice xa w.length xc, .int .i64 a] (PlA ra rc rows ((bP, .cells [.slice ra rows.length rc, .slice ta tl.length tc, .slice pa pl.length pc, .slice ga gl.length gc].toArray 67 (0, 0)) :: (S1 ++ (S2 ++ (S3 ++ St))))) ((bP, .cells [.slice ra rows.length rc, .slice ta tl.length tc, .slice pa pl.length pc, .slice ga gl.length gc].toArray 67 (0, 0)) :: (S1 ++ (S2 ++ (S3 ++ St)))) (fun v S' => ∃ b L s' a' c' S1' SL, v = .tuple #[.slice a' L.length c', .bool b] ∧ S' = S1' ++ SL ∧ HSP bP ra rc rows s' S1' ∧ OwnS Esp 2 51 (.slice a' L.length c') L SL ∧ stpP rows n a b L s') := by
  refine fn_of Try.func115 rfl rfl rfl fun w0 hw => ?_
  have hrs := hw.d1.sl
  have hrb := hrs.le
  have hxl := hx.sl
  refine c_seq fun _ hK1 => ?_; refine c_region ?_; refine o_step rfl (s_assign rfl) ?_; refine o_step rfl (s_assign rfl) ?_; refine o_nil ?_; refine x_then (hK1 _ _ ?_); refine c_seq fun _ hK2 => ?_; refine c_region ?_; refine o_step rfl (s_move rfl) ?_; refine o_step rfl (s_nil rfl) ?_; refine o_step rfl (s_field rfl rfl (by decide)) ?_; refine o_step rfl (s_ld rfl (.own meA rfl)) ?_; refine o_step rfl (s_len rfl) ?_; refine o_step rfl (s_assign rfl) ?_; refine o_nil ?_; refine x_then (hK2 _ _ ?_); refine c_seq fun _ hK3 => ?_; refine c_drawE ([(bP, .cells [.slice ra rows.length rc, .slice ta tl.length tc, .slice pa pl.length pc, .slice ga gl.length gc].toArray 67 (0, 0))]) (fun i => Nat.beq i 11) ?_; refine e_tk 0 rfl hzB (s_move rfl) ?_; refine e_tk 1 rfl hzB (s_move rfl) ?_; refine e_tk 2 rfl hzB (s_nil rfl) ?_; refine e_tk 3 rfl hzB (s_field rfl rfl (by decide)) ?_; refine e_tk 4 rfl hzB (s_ld rfl (.own meA rfl)) ?_
  refine e_tk 5 rfl hzB (s_move rfl) ?_; refine e_one 6 rfl (by kernel_rfl) ?_; refine o_call (copy_fn xa xc w) rfl rfl rfl (by exact .nil) (fun _ st => (hx.rdk hiA).out _ st) (fun v22 S22 ⟨a22, c22, hv22, hS22⟩ => ?_); subst hv22
  refine o_nil ?_; refine x_oneS hzB ?_; refine e_one 7 rfl (by kernel_rfl) ?_; refine o_bs (E := Esl) (xs := [(⟨a22, c22, w⟩ : Sl UInt8)]) (vs := [_]) rfl rfl rfl rfl rfl (by decide) (by decide) fun b23 S23 hS23 => ?_; refine o_nil ?_; refine x_oneS hzB ?_; refine e_one 8 rfl (by kernel_rfl) ?_; refine o_app h1 (hS23.rdk hiA) rfl rfl rfl rfl (by simp only [List.length_singleton]; omega) (by simp only [List.length_singleton]; omega) rfl pkA fun a24 c24 S24 hS24 => ?_; refine o_nil ?_; refine x_oneS hzB ?_; refine e_one 9 rfl (by kernel_rfl) ?_; refine o_step rfl (s_nil rfl) ?_; refine o_nil ?_; refine x_oneS hzB ?_; refine e_one 10 rfl (by kernel_rfl) ?_; refine o_step rfl (s_field rfl rfl (by decide)) ?_; refine o_nil ?_; refine x_oneS hzB ?_; refine e_one 11 rfl (by kernel_rfl) ?_; refine o_store rfl rfl rfl upA ltA rfl ?_; refine o_nil ?_; refine x_oneL rfl ?_; refine e_done (by kernel_rfl) ?_
  refine x_then (hK3 _ _ ?_); refine c_seq fun _ hK4 => ?_; refine c_region ?_; refine o_step rfl (s_move rfl) ?_; refine o_step rfl (s_move rfl) ?_; refine o_step rfl (s_nil rfl) ?_; refine o_step rfl (s_field rfl rfl (by decide)) ?_; refine o_step rfl (s_ld rfl (.own meA rfl)) ?_; refine o_step rfl (s_move rfl) ?_; refine o_bs (E := Eix) (xs := [a]) (vs := [_]) rfl rfl rfl rfl rfl (by decide) (by decide) fun b33 S33 hS33 => ?_; refine o_app h2 (hS33.rdk hiA) rfl rfl rfl rfl (by simp only [List.length_singleton]; omega) (by simp only [List.length_singleton]; omega) rfl pkA fun a34 c34 S34 hS34 => ?_; refine o_step rfl (s_nil rfl) ?_; refine o_step rfl (s_field rfl rfl (by decide)) ?_; refine o_store rfl rfl rfl upA ltA rfl ?_; refine o_nil ?_; refine x_then (hK4 _ _ ?_); refine c_seq fun _ hK5 => ?_; refine c_seq fun _ hK6 => ?_; refine c_region ?_; refine o_step rfl (s_assign rfl) ?_; refine o_nil ?_
  refine x_then (hK6 _ _ ?_); refine c_block ?_; refine c_loop3 (fun (i : Nat) (l : List UInt8) (Sn : Hp) => i ≤ w.length ∧ l.length = w.length ∧ OwnS Eb 1 5 (.slice xa w.length xc) l Sn) (fun (i : Nat) (l : List UInt8) (Sn : Hp) => [(9, .int .i64 i)]) [(0, _), (1, _), (6, _), (7, _), (8, _)] (fun (i : Nat) (l : List UInt8) (Sn : Hp) => (bP, .cells [.slice ra rows.length rc, .slice a24 (tl ++ [(⟨a22, c22, w⟩ : Sl UInt8)]).length c24, .slice a34 (pl ++ [a]).length c34, .slice ga gl.length gc].toArray 67 (0, 0)) :: (S24 ++ (S34 ++ (S3 ++ Sn)))) (fun (i : Nat) (l : List UInt8) (Sn : Hp) => w.length - i) 0 w St ⟨Nat.zero_le _, rfl, hx⟩ sbA sbA hzB ?_
  rintro i l Sn ⟨hi, hll, hO⟩
  have hos := hO.sl
  rw [hll] at hos
  refine c_seq fun _ hK7 => ?_; refine c_seq fun _ hK8 => ?_; refine c_region ?_; refine o_step rfl (s_move rfl) ?_; refine o_step rfl (s_move rfl) ?_; refine o_step rfl (s_len rfl) ?_; refine o_step rfl (s_lss rfl rfl) ?_; refine o_nil ?_; refine x_then (hK8 _ _ ?_); refine c_if rfl (fun hil => ?_) (fun hil => ?_)
  ·
   refine c_skip ?_; refine x_then (hK7 _ _ ?_); refine c_seq fun _ hK9 => ?_; refine c_block ?_; refine c_region ?_; refine o_step rfl (s_move rfl) ?_; refine o_step rfl (s_move rfl) ?_; refine o_step rfl (s_move rfl) ?_; refine o_step rfl (s_move rfl) ?_; refine o_step rfl (s_idx rfl rfl hos (by omega)) ?_; refine o_step rfl (s_ld rfl ((hO.rdk hiA).ld i 0 (Tab.at0_get (by omega)) rfl (by decide) (by omega))) ?_; refine o_step rfl (step_cast (v' := .int .u8 (UInt8.ofNat ((Tab.at0 l i).toNat + 1)).toNat) (s_addw rfl rfl) (congrArg (Value.int .u8) (wrap_u8 ((Tab.at0 l i).toNat + 1)))) ?_; refine o_step rfl (s_idx rfl rfl hos (by omega)) ?_; refine o_stS1 i (UInt8.ofNat ((Tab.at0 l i).toNat + 1)) hO pkA rfl rfl rfl (by omega) (by rw [Int.toNat_natCast, Nat.mul_one]) fun S' hS' => ?_; refine o_nil ?_; refine x_block ?_; refine x_then (hK9 _ _ ?_); refine c_region ?_; refine o_step rfl (s_move rfl) ?_
   refine o_step rfl (s_add rfl rfl (by omega)) ?_; refine o_step rfl (s_assign rfl) ?_; refine o_nil ?_; exact x_then (x_inv (i + 1, _, S') ⟨by dsimp only; omega, by rw [List.length_set]; exact hll, hS'⟩ (by first | omega | (dsimp only; omega)) sbA hzB)
  ·
   refine c_exit ?_; refine x_then_exit ?_; refine x_then_exit ?_; refine x_block_exit ?_; refine x_then (hK5 _ _ ?_); refine c_seq fun _ hK10 => ?_; refine c_seq fun _ hK11 => ?_; refine c_region ?_; refine o_step rfl (s_move rfl) ?_; refine o_step rfl (s_move rfl) ?_; refine o_step rfl (s_nil rfl) ?_; refine o_step rfl (s_field rfl rfl (by decide)) ?_; refine o_step rfl (s_ld rfl (.own meA rfl)) ?_; refine o_step rfl (s_len rfl) ?_; refine o_step rfl (s_geq rfl rfl) ?_; refine o_nil ?_; refine x_then (hK11 _ _ ?_); refine c_if rfl (fun hge => ?_) (fun hge => ?_)
   ·
    refine c_seq fun _ hK12 => ?_; refine c_region ?_; refine o_step rfl (s_assign rfl) ?_; refine o_step rfl (s_assign rfl) ?_; refine o_nil ?_; refine x_then (hK12 _ _ ?_); refine c_ret ?_; refine x_then_ret (?_); refine x_sub (Sub.refl _) (H' := ((bP, .cells [.slice ra rows.length rc, .slice a24 (tl ++ [(⟨a22, c22, w⟩ : Sl UInt8)]).length c24, .slice a34 (pl ++ [a]).length c34, .slice ga gl.length gc].toArray 67 (0, 0)) :: (S24 ++ (S34 ++ S3))) ++ []) (by rw [List.append_nil]; exact hzB) ?_; exact x_ret rfl (.tmp rfl (.tmp rfl (.nil))) (⟨false, [], n + 1, none, 0, _, [], rfl, rfl, ⟨_, _, _, _, _, _, _, _, _, _, _, _, rfl, hS24, hS34, h3, by simp; omega, by simp; omega, by omega⟩, .nil, hn, rfl, .inr ⟨by omega, rfl, rfl⟩⟩)
   ·
    obtain ⟨t, ht⟩ : ∃ t, rows[n]? = some t := ⟨_, List.getElem?_eq_getElem (by omega)⟩
    have htm := List.mem_of_getElem? ht
    refine c_skip ?_; refine x_then (hK10 _ _ ?_); refine c_seq fun _ hK13 => ?_; refine c_region ?_; refine o_step rfl (s_move rfl) ?_; refine o_step rfl (s_nil rfl) ?_; refine o_step rfl (s_field rfl rfl (by decide)) ?_; refine o_step rfl (s_ld rfl (.own meA rfl)) ?_; refine o_step rfl (s_move rfl) ?_; refine o_step rfl (s_idx rfl rfl hrs (by omega)) ?_; refine o_step rfl (s_field rfl rfl (by decide)) ?_; refine o_step rfl (s_ld rfl ((RdK.old hw.d1 hw.a1).ld n 1 ht rfl (by decide) (by omega))) ?_; refine o_call (wideSpans_fn t.sp.a t.sp.c t.sp.xs (hrl t htm)) rfl rfl rfl (by exact .nil) (fun _ st => (RdK.old (hw.d2 t htm).1 (hw.d2 t htm).2).out _ st) (fun v66 S66 ⟨a66, c66, hv66, hS66⟩ => ?_); subst hv66
    refine o_step rfl (s_assign rfl) ?_; refine o_nil ?_; refine x_then (hK13 _ _ ?_); refine c_seq fun _ hK14 => ?_; refine c_region ?_; refine o_step rfl (s_move rfl) ?_; refine o_step rfl (s_move rfl) ?_; refine o_step rfl (s_nil rfl) ?_; refine o_step rfl (s_field rfl rfl (by decide)) ?_; refine o_step rfl (s_ld rfl (.own meA rfl)) ?_; refine o_step rfl (s_move rfl) ?_; refine o_bs (E := Esl) (xs := [(⟨a66, c66, t.sp.xs⟩ : Sl Sp)]) (vs := [_]) rfl rfl rfl rfl rfl (by decide) (by decide) fun b73 S73 hS73 => ?_; refine o_app h3 (hS73.rdk hiA) rfl rfl rfl rfl (by simp only [List.length_singleton]; omega) (by simp only [List.length_singleton]; omega) rfl pkA fun a74 c74 S74 hS74 => ?_; refine o_step rfl (s_nil rfl) ?_; refine o_step rfl (s_field rfl rfl (by decide)) ?_; refine o_store rfl rfl rfl upA ltA rfl ?_; refine o_nil ?_; refine x_then (hK14 _ _ ?_); refine c_seq fun _ hK15 => ?_; refine c_quiet (by kernel_rfl) ?_
    refine .op rfl (s_move rfl) ?_; refine .op rfl (s_move rfl) ?_; refine .op rfl (s_nil rfl) ?_; refine .op rfl (s_field rfl rfl (by decide)) ?_; refine .op rfl (s_ld rfl (.own meA rfl)) ?_; refine .op rfl (s_move rfl) ?_; refine .op rfl (s_idx rfl rfl hrs (by omega)) ?_; refine .op rfl (s_field rfl rfl (by decide)) ?_; refine .op rfl (s_ld rfl ((RdK.old hw.d1 hw.a1).ld n 0 ht rfl (by decide) (by omega))) ?_; refine .op rfl (s_assign rfl) ?_; refine .op rfl (s_assign rfl) ?_; refine .nil ?_; refine x_then (hK15 _ _ ?_); refine c_ret ?_; refine ?_; refine x_sub (Sub.refl _) (H' := ((bP, .cells [.slice ra rows.length rc, .slice a24 (tl ++ [(⟨a22, c22, w⟩ : Sl UInt8)]).length c24, .slice a34 (pl ++ [a]).length c34, .slice a74 (gl ++ [(⟨a66, c66, t.sp.xs⟩ : Sl Sp)]).length c74].toArray 67 (0, 0)) :: (S24 ++ (S34 ++ S74))) ++ S66) (by simp only [List.cons_append, List.append_assoc]; exact hzB) ?_
    exact x_ret rfl (.tmp rfl (.tmp rfl (.nil))) (⟨t.ok, t.sp.xs, n + 1, a66, c66, _, S66, rfl, rfl, ⟨_, _, _, _, _, _, _, _, _, _, _, _, rfl, hS24, hS34, hS74, by simp; omega, by simp; omega, by simp; omega⟩, hS66, hn, rfl, .inl ⟨t, ht, rfl, rfl⟩⟩)

theorem plFind {bP : Nat} {ra : Option Addr} {rc : Nat} {rows : List Td} {w : List UInt8} (hwl : w.length ≤ 1000000) (hrl : ∀ t ∈ rows, t.sp.xs.length ≤ 1048576) : FindC 115 w (pt bP) (HSP bP ra rc rows) (stpP rows) (PlA ra rc rows) := by
  intro s S St xa xc a hs ha hO hex
  obtain ⟨ta, pa, ga, tc, pc, gc, tl, pl, gl, S1, S2, S3, rfl, h1, h2, h3, h4, h5, h6⟩ := hs
  obtain ⟨_, _, _, hn, _⟩ := hex
  simp only [List.cons_append, List.append_assoc]
  exact pFind_raw bP ra rc rows ta pa ga tc pc gc tl pl gl S1 S2 S3 St h1 h2 h3 s h4 h5 h6 hn w hwl xa xc hO a hrl
end Go.Proofs.Ytmpeokbongnniaa

/- Sizes of what comes out; the matches that are changed, one by one. Conditions: none. -/
namespace Go.HL.Kl.Mc
open Go Go.HL Go.HL.Kl AskE
def kF (first : Int) : Nat := (first - 1).toNat
theorem chs_step {first : Int} {all : Bool} {xs : List (List Sp)} {i : Nat} {L : List Sp} (h : xs[i]? = some L) : chs first all (xs.take (i + 1)) = if i < (first - 1).toNat ∨ (all = false ∧ chs first all (xs.take i) ≠ []) then chs first all (xs.take i) else chs first all (xs.take i) ++ [L] := by
  have hi := (List.getElem?_eq_some_iff.1 h).1
  have ht : xs.take (i + 1) = xs.take i ++ [L] := by rw [List.take_add_one, h]; rfl
  have hl : (xs.take i).length = i := by rw [List.length_take]; omega
  unfold chs
  generalize (first - 1).toNat = k
  by_cases hk : i < k
  · have e1 : (xs.take (i + 1)).drop k = [] := List.drop_of_length_le (by rw [List.length_take]; omega)
    have e2 : (xs.take i).drop k = [] := List.drop_of_length_le (by omega)
    rw [e1, e2]
    simp [hk]
  · have e1 : (xs.take (i + 1)).drop k = (xs.take i).drop k ++ [L] := by rw [ht, List.drop_append_of_le_length (by omega)]
    rw [e1]
    cases all with
    | true =>
      simp only [if_true, reduceCtorEq, false_and, or_false, hk, if_false]
    | false =>
      cases hd : (xs.take i).drop k with
      | nil => simp [hk]
      | cons y ys => simp [hk]
def sumD (cs : List (List Sp)) : Nat := (cs.map fun L => (hdS L).to.toNat - (hdS L).fr.toNat).sum
def sumL (P : List (Int × List UInt8)) (cs : List (List Sp)) : Nat := (cs.map fun L => longS L P).sum
def sumC (P : List (Int × List UInt8)) (cs : List (List Sp)) : Nat := (cs.map fun L => min (longS L P) 1099511627776).sum
theorem sumD_app {a b : List (List Sp)} : sumD (a ++ b) = sumD a + sumD b := by simp [sumD]
theorem sumC_app {P : List (Int × List UInt8)} {a b : List (List Sp)} : sumC P (a ++ b) = sumC P a + sumC P b := by simp [sumC]
theorem sumC_eq {P : List (Int × List UInt8)} {cs : List (List Sp)} (h : sumC P cs < 1099511627776) : sumC P cs = sumL P cs := by
  induction cs with
  | nil => rfl
  | cons x cs ih =>
    simp only [sumC, sumL, List.map_cons, List.sum_cons] at ih h ⊢
    rw [ih (by omega)]
    congr 1
    omega
theorem ChG.sumD_le {n a : Nat} {cs : List (List Sp)} (h : ChG n a cs) (ha : a ≤ n) : a + sumD cs ≤ n := by
  induction h with
  | nil => simpa [sumD] using ha
  | @cons a p q L xs hg hr ih =>
    have h1 := ih hg.ln
    have h2 := hg.ge
    have h3 := hg.le
    simp only [sumD, List.map_cons, List.sum_cons, hg.hds] at h1 ⊢
    simp only [Int.toNat_natCast]
    omega
theorem doF_len {w : List UInt8} {P : List (Int × List UInt8)} {a : Nat} {cs : List (List Sp)} (h : ChG w.length a cs) (ha : a ≤ w.length) : (doF w P a cs).length + sumD cs + a = w.length + sumL P cs := by
  induction h with
  | nil => simp [doF, sumD, sumL]; omega
  | @cons a p q L xs hg hr ih =>
    have h1 := ih hg.ln
    have h2 := hg.ge
    have h3 := hg.le
    have h4 := hg.ln
    rw [doF_cons hg, List.length_append, List.length_append, expd_len hg.all]
    simp only [sumD, sumL, List.map_cons, List.sum_cons, hg.hds, List.length_take, List.length_drop, Int.toNat_natCast] at h1 ⊢
    omega
theorem take_split {w : List UInt8} {e a p : Nat} (h1 : e ≤ a) (h2 : a ≤ p) : (w.drop e).take (a - e) ++ (w.drop a).take (p - a) = (w.drop e).take (p - e) := by
  have e1 : p - e = (a - e) + (p - a) := by omega
  rw [e1, List.take_add, List.drop_drop, show e + (a - e) = a by omega]
theorem drop_split {w : List UInt8} {e a : Nat} (h1 : e ≤ a) : (w.drop e).take (a - e) ++ w.drop a = w.drop e := by
  have h := List.take_append_drop (a - e) (w.drop e)
  rwa [List.drop_drop, show e + (a - e) = a by omega] at h
end Go.HL.Kl.Mc

/- Part of the proofs over this seat: see the text that holds the theorem. Conditions: each theorem bears its own. -/
namespace Go.Proofs.Ytmpeokbongnniaa
open Go Go.HL Go.Proofs Go.HL.Kl Go.HL.Kl.Mc Go.HL.Kl.Mc.AskE
def wK : List UInt8 := [97, 98, 97]
def xsK : List (List Sp) := [[⟨0, 1⟩], [⟨2, 3⟩]]
def PK : List (Int × List UInt8) := [(-1, [120, 121])]
theorem doK : doF wK PK 0 (chs 1 true xsK) = [120, 121, 98, 120, 121] := by decide
theorem mtK {b7 b10 : Nat} : MtS (stpP [⟨true, ⟨some ⟨b7, 0, none⟩, 1, [⟨0, 1⟩]⟩⟩, ⟨true, ⟨some ⟨b10, 0, none⟩, 1, [⟨2, 3⟩]⟩⟩]) wK.length 0 0 (-1) xsK :=
  .take (by decide) (s' := 1) (p := 0) (q := 1) ⟨by decide, rfl, .inl ⟨_, rfl, rfl, rfl⟩⟩ ⟨rfl, by decide, by decide, by decide, by decide, by decide⟩ (by decide)
    (.take (by decide) (s' := 2) (p := 2) (q := 3) ⟨by decide, rfl, .inl ⟨_, rfl, rfl, rfl⟩⟩ ⟨rfl, by decide, by decide, by decide, by decide, by decide⟩ (by decide)
      (.none (by decide) (s' := 3) ⟨by decide, rfl, .inr ⟨Nat.le_refl 2, rfl, rfl⟩⟩))
theorem rlK {b7 b10 : Nat} : ∀ t ∈ ([⟨true, ⟨some ⟨b7, 0, none⟩, 1, [⟨0, 1⟩]⟩⟩, ⟨true, ⟨some ⟨b10, 0, none⟩, 1, [⟨2, 3⟩]⟩⟩] : List Td), t.sp.xs.length ≤ 1048576 := fun t ht => by
  rcases List.mem_cons.1 ht with rfl | ht
  · show 1 ≤ 1048576; decide
  · obtain rfl := List.mem_singleton.1 ht
    show 1 ≤ 1048576; decide
theorem hspK {bP : Nat} {ra : Option Addr} {rc : Nat} {rows : List Td} : HSP bP ra rc rows 0 [(bP, .cells [.slice ra rows.length rc, .slice none 0 0, .slice none 0 0, .slice none 0 0].toArray 67 (0, 0))] :=
  ⟨none, none, none, 0, 0, 0, [], [], [], [], [], [], rfl, .nil, .nil, .nil, rfl, rfl, by decide⟩
theorem two_of {sls : List (Sl Sp)} (h : sls.map Sl.xs = xsK) : ∃ x1 x2, sls = [x1, x2] ∧ x1.xs = [⟨0, 1⟩] ∧ x2.xs = [⟨2, 3⟩] := by
  rcases sls with _ | ⟨x1, _ | ⟨x2, _ | ⟨x3, r⟩⟩⟩
  · simp [xsK] at h
  · simp [xsK] at h
  · simp only [xsK, List.map_cons, List.map_nil, List.cons.injEq, and_true] at h
    exact ⟨x1, x2, rfl, h.1, h.2⟩
  · simp [xsK] at h
set_option maxHeartbeats 2000000 in
theorem works_fn  : HL.Fn Try.prog 8 [] (fun _ => True) [] (fun v _ => v = .bool true) := by
  refine fn_of Try.func8 rfl rfl rfl fun w0 hw => ?_; refine c_seq fun _ hK1 => ?_; refine c_region ?_; refine o_step rfl (s_assign rfl) ?_; refine o_nil ?_; refine x_then (hK1 _ _ ?_); refine c_seq fun _ hK2 => ?_; refine c_region ?_; refine o_step rfl (s_build (cs := [_, _]) (vs := [_, _]) rfl rfl (.cons rfl rfl rfl rfl rfl (.cons rfl rfl rfl rfl rfl (.nil)))) ?_; refine o_bs (E := Esp) (xs := [⟨0, 1⟩]) (vs := [_]) rfl rfl rfl rfl rfl (by decide) (by decide) fun b7 S7 hS7 => ?_; refine o_step rfl (s_build (cs := [_, _]) (vs := [_, _]) rfl rfl (.cons rfl rfl rfl rfl rfl (.cons rfl rfl rfl rfl rfl (.nil)))) ?_; refine o_step rfl (s_build (cs := [_, _]) (vs := [_, _]) rfl rfl (.cons rfl rfl rfl rfl rfl (.cons rfl rfl rfl rfl rfl (.nil)))) ?_; refine o_bs (E := Esp) (xs := [⟨2, 3⟩]) (vs := [_]) rfl rfl rfl rfl rfl (by decide) (by decide) fun b10 S10 hS10 => ?_; refine o_step rfl (s_build (cs := [_, _]) (vs := [_, _]) rfl rfl (.cons rfl rfl rfl rfl rfl (.cons rfl rfl rfl rfl rfl (.nil)))) ?_
  refine o_bs (E := Etd) (xs := ([⟨true, ⟨some ⟨b7, 0, none⟩, 1, [⟨0, 1⟩]⟩⟩, ⟨true, ⟨some ⟨b10, 0, none⟩, 1, [⟨2, 3⟩]⟩⟩] : List Td)) (vs := [_, _]) rfl rfl rfl rfl rfl (by decide) (by decide) fun b12 S12 hS12 => ?_; refine o_step rfl (s_assign rfl) ?_; refine o_nil ?_; refine x_then (hK2 _ _ ?_); refine c_seq fun _ hK3 => ?_; refine c_region ?_; refine o_step rfl (s_move rfl) ?_; refine o_step rfl (s_build (cs := [_, _, _, _]) (vs := [_]) rfl rfl (.cons rfl rfl rfl rfl rfl (.nil))) ?_; refine o_box rfl rfl rfl fun b16 => ?_; refine o_bs (E := Eb) (xs := [120, 121]) (vs := [_, _]) rfl rfl rfl rfl rfl (by decide) (by decide) fun b17 S17 hS17 => ?_; refine o_conv_same rfl hS17 pkA rfl fun S18 hS18 => ?_; refine o_step rfl (s_build (cs := [_, _]) (vs := [_, _]) rfl rfl (.cons rfl rfl rfl rfl rfl (.cons rfl rfl rfl rfl rfl (.nil)))) ?_; refine o_bs (E := Epc) (xs := ([⟨-1, ⟨some ⟨b17, 0, none⟩, 2, [120, 121]⟩⟩] : List Pc)) (vs := [_]) rfl rfl rfl rfl rfl (by decide) (by decide) fun b20 S20 hS20 => ?_
  refine o_bs (E := Eb) (xs := wK) (vs := [_, _, _]) rfl rfl rfl rfl rfl (by decide) (by decide) fun b21 S21 hS21 => ?_; refine o_conv_same rfl hS21 pkA rfl fun S22 hS22 => ?_; refine o_call (doP_fn wK (by decide) (pt b16) (HSP b16 (some ⟨b12, 0, none⟩) 2 ([⟨true, ⟨some ⟨b7, 0, none⟩, 1, [⟨0, 1⟩]⟩⟩, ⟨true, ⟨some ⟨b10, 0, none⟩, 1, [⟨2, 3⟩]⟩⟩] : List Td)) (stpP ([⟨true, ⟨some ⟨b7, 0, none⟩, 1, [⟨0, 1⟩]⟩⟩, ⟨true, ⟨some ⟨b10, 0, none⟩, 1, [⟨2, 3⟩]⟩⟩] : List Td)) (PlA (some ⟨b12, 0, none⟩) 2 ([⟨true, ⟨some ⟨b7, 0, none⟩, 1, [⟨0, 1⟩]⟩⟩, ⟨true, ⟨some ⟨b10, 0, none⟩, 1, [⟨2, 3⟩]⟩⟩] : List Td)) stpP_det (plFind (by decide) rlK) plPre rfl (some ⟨b21, 0, none⟩) 3 0 [_] hspK xsK mtK (some ⟨b20, 0, none⟩) 1 ([⟨-1, ⟨some ⟨b17, 0, none⟩, 2, [120, 121]⟩⟩] : List Pc) 1 true 9 (by decide) (by rw [show (([⟨-1, ⟨some ⟨b17, 0, none⟩, 2, [120, 121]⟩⟩] : List Pc)).map Pc.abs = PK from rfl, doK]; decide)) rfl rfl rfl pkA (fun _ st => ⟨⟨(hS12.rdk hiA).out _ st, st.apart (S := [_]) pkA hS12 hiA, fun t ht => by rcases List.mem_cons.1 ht with rfl | ht; exact ⟨(hS7.rdk hiA).out _ st, st.apart (S := [_]) pkA hS7 hiA⟩; obtain rfl := List.mem_singleton.1 ht; exact ⟨(hS10.rdk hiA).out _ st, st.apart (S := [_]) pkA hS10 hiA⟩⟩, ⟨(hS22.rdk hiA).out _ st, st.apart (S := [_]) pkA hS22 hiA⟩, ⟨(hS20.rdk hiA).out _ st, st.apart (S := [_]) pkA hS20 hiA⟩, fun p hp => by obtain rfl := List.mem_singleton.1 hp; exact ⟨(hS18.rdk hiA).out _ st, st.apart (S := [_]) pkA hS18 hiA⟩⟩) (fun v23 S23 ⟨s2, S2, hs2, hcs⟩ => ?_)
  rw [show (([⟨-1, ⟨some ⟨b17, 0, none⟩, 2, [120, 121]⟩⟩] : List Pc)).map Pc.abs = PK from rfl, doK] at hcs
  obtain ⟨_, a23, c23, So, hv23, hSo, hS23⟩ := hcs.resolve_left (fun h => absurd h.1 (by decide))
  subst hv23; subst hS23
  refine o_step rfl (s_move rfl) ?_; refine o_step rfl (s_extract rfl rfl) ?_; refine o_step rfl (s_extract rfl rfl) ?_; refine o_step rfl (s_extract rfl rfl) ?_; refine o_step rfl (s_assign rfl) ?_; refine o_step rfl (s_assign rfl) ?_; refine o_step rfl (s_assign rfl) ?_; refine o_nil ?_; refine x_then (hK3 _ _ ?_); refine c_seq fun _ hK4 => ?_; refine c_region ?_; refine o_step rfl (s_move rfl) ?_; refine o_step rfl (s_build (cs := [_, _, _, _]) (vs := [_]) rfl rfl (.cons rfl rfl rfl rfl rfl (.nil))) ?_; refine o_box rfl rfl rfl fun b29 => ?_; refine o_bs (E := Eb) (xs := wK) (vs := [_, _, _]) rfl rfl rfl rfl rfl (by decide) (by decide) fun b30 S30 hS30 => ?_; refine o_conv_same rfl hS30 pkA rfl fun S31 hS31 => ?_; refine o_call (spansP_fn wK (by decide) (pt b29) (HSP b29 (some ⟨b12, 0, none⟩) 2 ([⟨true, ⟨some ⟨b7, 0, none⟩, 1, [⟨0, 1⟩]⟩⟩, ⟨true, ⟨some ⟨b10, 0, none⟩, 1, [⟨2, 3⟩]⟩⟩] : List Td)) (stpP ([⟨true, ⟨some ⟨b7, 0, none⟩, 1, [⟨0, 1⟩]⟩⟩, ⟨true, ⟨some ⟨b10, 0, none⟩, 1, [⟨2, 3⟩]⟩⟩] : List Td)) (PlA (some ⟨b12, 0, none⟩) 2 ([⟨true, ⟨some ⟨b7, 0, none⟩, 1, [⟨0, 1⟩]⟩⟩, ⟨true, ⟨some ⟨b10, 0, none⟩, 1, [⟨2, 3⟩]⟩⟩] : List Td)) stpP_det (plFind (by decide) rlK) plPre rfl (some ⟨b30, 0, none⟩) 3 0 [_] hspK xsK mtK) rfl rfl rfl pkA (fun _ st => ⟨⟨(hS12.rdk hiA).out _ st, st.apart (S := [_]) pkA hS12 hiA, fun t ht => by rcases List.mem_cons.1 ht with rfl | ht; exact ⟨(hS7.rdk hiA).out _ st, st.apart (S := [_]) pkA hS7 hiA⟩; obtain rfl := List.mem_singleton.1 ht; exact ⟨(hS10.rdk hiA).out _ st, st.apart (S := [_]) pkA hS10 hiA⟩⟩, ⟨(hS31.rdk hiA).out _ st, st.apart (S := [_]) pkA hS31 hiA⟩⟩) (fun v32 S32 ⟨a32, c32, sls, Sh, Sc, s3, S3, hv32, hS32, hO32, hx32, hL32, _⟩ => ?_)
  subst hv32; subst hS32
  obtain ⟨x1, x2, rfl, hx1, hx2⟩ := two_of hx32
  have hxe : ([x1, x2] : List (Sl Sp))[1]? = some x2 := rfl
  obtain ⟨hxs2, hxr2⟩ := OwnL.slv hL32 hxe rfl
  rw [← hx2] at hxs2 hxr2
  have hxl2 : x2.xs.length = 1 := by rw [hx2]; rfl
  have hx20 : x2.xs[0]? = some ⟨2, 3⟩ := by rw [hx2]; rfl
  have hos32 := hO32.sl
  have hlen2 : ([x1, x2] : List (Sl Sp)).length = 2 := rfl
  refine o_step rfl (s_assign rfl) ?_; refine o_nil ?_; refine x_then (hK4 _ _ ?_); refine c_seq fun _ hK5 => ?_; refine c_region ?_; refine o_step rfl (s_move rfl) ?_; refine o_step rfl (s_eql_t rfl rfl rfl) ?_; refine o_step rfl (s_move rfl) ?_; refine o_yes rfl rfl ?_; refine o_step rfl (s_move rfl) ?_; refine o_yes rfl rfl ?_; refine o_step rfl (s_eql_t rfl rfl (by decide)) ?_; refine o_step rfl (s_pick_t rfl rfl) ?_; refine o_step rfl (s_move rfl) ?_; refine o_yes rfl rfl ?_; refine o_step rfl (s_move rfl) ?_; refine o_yes rfl rfl ?_; refine o_bs (E := Eb) (xs := [120, 121, 98, 120, 121]) (vs := [_, _, _, _, _]) rfl rfl rfl rfl rfl (by decide) (by decide) fun b41 S41 hS41 => ?_; refine o_yes rfl rfl ?_; refine o_conv_same rfl hS41 pkA rfl fun S42 hS42 => ?_; refine o_yes rfl rfl ?_; refine o_callP (eqBytes_fn a23 (some ⟨b41, 0, none⟩) c23 5 [120, 121, 98, 120, 121] [120, 121, 98, 120, 121]) rfl rfl rfl (fun _ st => ⟨(hSo.rdk hiA).out _ st, (hS42.rdk hiA).out _ st⟩) (fun v43 hv43 => ?_)
  rw [decide_eq_true rfl] at hv43
  subst hv43; refine o_step rfl (s_pick_t rfl rfl) ?_; refine o_step rfl (s_move rfl) ?_; refine o_yes rfl rfl ?_; refine o_step rfl (s_move rfl) ?_; refine o_yes rfl rfl ?_; refine o_step rfl (s_len rfl) ?_; refine o_yes rfl rfl ?_; refine o_step rfl (s_eql_t rfl rfl (by omega)) ?_; refine o_step rfl (s_pick_t rfl rfl) ?_; refine o_step rfl (s_move rfl) ?_; refine o_yes rfl rfl ?_; refine o_step rfl (s_move rfl) ?_; refine o_yes rfl rfl ?_; refine o_step rfl (s_idx rfl rfl hos32 (by omega)) ?_; refine o_yes rfl rfl ?_; refine o_step rfl (s_ld rfl ((hO32.rdk hiA).ld 1 0 hxe rfl (by decide) (by omega))) ?_; refine o_yes rfl rfl ?_; refine o_step rfl (s_idx rfl rfl hxs2 (by omega)) ?_; refine o_yes rfl rfl ?_; refine o_step rfl (s_ldB rfl ((hxr2.rdk hiA).lds 0 hx20 rfl) (by rfl)) ?_; refine o_yes rfl rfl ?_; refine o_step rfl (s_build (cs := [_, _]) (vs := [_, _]) rfl rfl (.cons rfl rfl rfl rfl rfl (.cons rfl rfl rfl rfl rfl (.nil)))) ?_
  refine o_yes rfl rfl ?_; refine o_step rfl (step_cast (v' := .bool true) (s_eql_sp (p := ⟨2, 3⟩) (q := ⟨2, 3⟩) rfl rfl) (congrArg Value.bool (decide_eq_true rfl))) ?_; refine o_step rfl (s_pick_t rfl rfl) ?_; refine o_step rfl (s_assign rfl) ?_; refine o_nil ?_; refine x_then (hK5 _ _ ?_); refine c_ret ?_; refine ?_; exact x_ret rfl (.tmp rfl (.nil)) (rfl)

set_option maxHeartbeats 1000000 in
theorem made_fn (ra : Option Addr) (rc : Nat) (re : List Nd) (hre : ∀ x ∈ re, -128 ≤ x.op ∧ x.op < 128) (n : Nat) (hn : n ≤ 140737488355328) : HL.Fn Try.prog 6 [.slice ra re.length rc, .int .i64 n] (fun W => Rd En W (.slice ra re.length rc) re) [] (fun v S' => (v = .tuple #[.pointer none, .bool false]) ∨ (∃ bR, v = .tuple #[pt bR, .bool true] ∧ PlR bR re S' ∧ n ≤ 400)) := by
  refine fn_of Try.func6 rfl rfl rfl fun w0 hw => ?_; refine c_seq fun _ hK1 => ?_; refine c_region ?_; refine o_step rfl (s_assign rfl) ?_; refine o_step rfl (s_assign rfl) ?_; refine o_nil ?_; refine x_then (hK1 _ _ ?_); refine c_seq fun _ hK2 => ?_; refine c_seq fun _ hK3 => ?_; refine c_region ?_; refine o_step rfl (s_move rfl) ?_; refine o_callP (beyond_fn ra rc re hre) rfl rfl rfl (fun _ st => (RdK.old0 hw).out _ st) (fun v9 hv9 => ?_)
  obtain ⟨b, rfl⟩ := hv9
  cases b
  ·
   refine o_step rfl (s_move rfl) ?_; refine o_yes rfl rfl ?_; refine o_step rfl (s_move rfl) ?_; refine o_yes rfl rfl ?_; refine o_step rfl (s_len rfl) ?_; refine o_yes rfl rfl ?_; refine o_callP (long_fn _) rfl rfl rfl (fun _ _ => trivial) (fun v13 hv13 => ?_)
   by_cases hlg : (2147483647 : Int) < (re.length : Int)
   ·
    rw [decide_eq_true hlg] at hv13
    subst hv13; refine o_step rfl (s_pick_f rfl rfl) ?_; refine o_step rfl (s_move rfl) ?_; refine o_no rfl rfl rfl rfl ?_; refine o_no rfl rfl rfl rfl ?_; refine o_no rfl rfl rfl rfl ?_; refine o_step rfl (s_pick_t rfl rfl) ?_; refine o_step rfl (s_move rfl) ?_; refine o_no rfl rfl rfl rfl ?_; refine o_no rfl rfl rfl rfl ?_; refine o_no rfl rfl rfl rfl ?_; refine o_step rfl (s_pick_t rfl rfl) ?_; refine o_nil ?_; refine x_then (hK3 _ _ ?_); refine c_true rfl ?_; refine c_seq fun _ hK4 => ?_; refine c_region ?_; refine o_step rfl (s_assign rfl) ?_; refine o_step rfl (s_assign rfl) ?_; refine o_nil ?_; refine x_then (hK4 _ _ ?_); refine c_ret ?_; refine x_then_ret (?_); exact x_ret rfl (.tmp rfl (.tmp rfl (.nil))) (.inl rfl)
   ·
    rw [decide_eq_false hlg] at hv13
    subst hv13; refine o_step rfl (s_pick_f rfl rfl) ?_; refine o_step rfl (s_move rfl) ?_; refine o_yes rfl rfl ?_; refine o_step rfl (s_move rfl) ?_; refine o_yes rfl rfl ?_; refine o_call (copyNodes_fn ra rc re (by omega)) rfl rfl rfl (by exact .nil) (fun _ st => (RdK.old0 hw).out _ st) (fun v17 S17 ⟨a17, c17, hv17, hO17⟩ => ?_); subst hv17
    refine o_yes rfl rfl ?_; refine o_callP (refs_fn a17 c17 re hre) rfl rfl rfl (fun _ st => (hO17.rdk hiA).out _ st) (fun v18 hv18 => ?_); subst hv18
    cases hrf : refsB re
    ·
     refine o_step rfl (s_pick_f rfl rfl) ?_; refine o_step rfl (s_move rfl) ?_; refine o_yes rfl rfl ?_; refine o_step rfl (s_move rfl) ?_; refine o_yes rfl rfl ?_; refine o_step rfl (s_move rfl) ?_; refine o_yes rfl rfl ?_; refine o_callP (heavy_fn ra rc re hre (by omega) hrf n hn) rfl rfl rfl (fun _ st => (RdK.old0 hw).out _ st) (fun v23 hv23 => ?_)
     obtain ⟨b, rfl, hhv⟩ := hv23
     cases b
     ·
      refine o_step rfl (s_pick_f rfl rfl) ?_; refine o_nil ?_; refine x_then (hK3 _ _ ?_); refine c_false rfl ?_; refine c_skip ?_; refine x_then (hK2 _ _ ?_); refine c_seq fun _ hK5 => ?_; refine c_region ?_; refine o_step rfl (s_move rfl) ?_; refine o_call (copyNodes_fn ra rc re (by omega)) rfl rfl rfl (by exact .nil) (fun _ st => (RdK.old0 hw).out _ st) (fun v27 S27 ⟨a27, c27, hv27, hO27⟩ => ?_); subst hv27
      refine o_call (new_re a27 c27 re hre) rfl rfl rfl (by exact .nil) (fun _ st => (hO27.rdk hiA).out _ st) (fun v28 S28 h28 => ?_)
      rcases h28 with ⟨hs, hv⟩ | ⟨hs, hr, _, _, _⟩ | ⟨hs, hr, hv, hP⟩
      ·
       subst hv; refine o_step rfl (s_move rfl) ?_; refine o_step rfl (s_extract rfl rfl) ?_; refine o_step rfl (s_extract rfl rfl) ?_; refine o_step rfl (s_assign rfl) ?_; refine o_step rfl (s_assign rfl) ?_; refine o_nil ?_; refine x_then (hK5 _ _ ?_); refine c_seq fun _ hK6 => ?_; refine c_region ?_; refine o_step rfl (s_move rfl) ?_; refine o_step rfl (s_move rfl) ?_; refine o_step rfl (s_eql_f rfl rfl (by decide)) ?_; refine o_step rfl (s_move rfl) ?_; refine o_no rfl rfl rfl rfl ?_; refine o_no rfl rfl rfl rfl ?_; refine o_step rfl (s_pick_f rfl rfl) ?_; refine o_step rfl (s_assign rfl) ?_; refine o_step rfl (s_assign rfl) ?_; refine o_nil ?_; refine x_then (hK6 _ _ ?_); refine c_ret ?_; refine ?_; exact x_ret rfl (.tmp rfl (.tmp rfl (.nil))) (.inl rfl)
      ·
       rw [hrf] at hr
       cases hr
      ·
       subst hv; refine o_step rfl (s_move rfl) ?_; refine o_step rfl (s_extract rfl rfl) ?_; refine o_step rfl (s_extract rfl rfl) ?_; refine o_step rfl (s_assign rfl) ?_; refine o_step rfl (s_assign rfl) ?_; refine o_nil ?_; refine x_then (hK5 _ _ ?_); refine c_seq fun _ hK7 => ?_; refine c_region ?_; refine o_step rfl (s_move rfl) ?_; refine o_step rfl (s_move rfl) ?_; refine o_step rfl (s_eql_t rfl rfl rfl) ?_; refine o_step rfl (s_move rfl) ?_; refine o_yes rfl rfl ?_; refine o_step rfl (s_move rfl) ?_; refine o_yes rfl rfl ?_; refine o_step rfl (step_cast (v' := .bool true) (s_neq_nilp rfl rfl) rfl) ?_; refine o_step rfl (s_pick_t rfl rfl) ?_; refine o_step rfl (s_assign rfl) ?_; refine o_step rfl (s_assign rfl) ?_; refine o_nil ?_; refine x_then (hK7 _ _ ?_); refine c_ret ?_; refine ?_; refine x_sub (Sub.refl _) (H' := S28) hzB ?_; exact x_ret rfl (.tmp rfl (.tmp rfl (.nil))) (.inr ⟨_, rfl, hP, hhv rfl hs⟩)
     ·
      refine o_step rfl (s_pick_f rfl rfl) ?_; refine o_nil ?_; refine x_then (hK3 _ _ ?_); refine c_true rfl ?_; refine c_seq fun _ hK8 => ?_; refine c_region ?_; refine o_step rfl (s_assign rfl) ?_; refine o_step rfl (s_assign rfl) ?_; refine o_nil ?_; refine x_then (hK8 _ _ ?_); refine c_ret ?_; refine x_then_ret (?_); exact x_ret rfl (.tmp rfl (.tmp rfl (.nil))) (.inl rfl)
    ·
     refine o_step rfl (s_pick_f rfl rfl) ?_; refine o_step rfl (s_move rfl) ?_; refine o_no rfl rfl rfl rfl ?_; refine o_no rfl rfl rfl rfl ?_; refine o_no rfl rfl rfl rfl ?_; refine o_step rfl (s_pick_t rfl rfl) ?_; refine o_nil ?_; refine x_then (hK3 _ _ ?_); refine c_true rfl ?_; refine c_seq fun _ hK9 => ?_; refine c_region ?_; refine o_step rfl (s_assign rfl) ?_; refine o_step rfl (s_assign rfl) ?_; refine o_nil ?_; refine x_then (hK9 _ _ ?_); refine c_ret ?_; refine x_then_ret (?_); exact x_ret rfl (.tmp rfl (.tmp rfl (.nil))) (.inl rfl)
  ·
   refine o_step rfl (s_move rfl) ?_; refine o_no rfl rfl rfl rfl ?_; refine o_no rfl rfl rfl rfl ?_; refine o_no rfl rfl rfl rfl ?_; refine o_step rfl (s_pick_t rfl rfl) ?_; refine o_step rfl (s_move rfl) ?_; refine o_no rfl rfl rfl rfl ?_; refine o_no rfl rfl rfl rfl ?_; refine o_no rfl rfl rfl rfl ?_; refine o_step rfl (s_pick_t rfl rfl) ?_; refine o_step rfl (s_move rfl) ?_; refine o_no rfl rfl rfl rfl ?_; refine o_no rfl rfl rfl rfl ?_; refine o_no rfl rfl rfl rfl ?_; refine o_step rfl (s_pick_t rfl rfl) ?_; refine o_nil ?_; refine x_then (hK3 _ _ ?_); refine c_true rfl ?_; refine c_seq fun _ hK10 => ?_; refine c_region ?_; refine o_step rfl (s_assign rfl) ?_; refine o_step rfl (s_assign rfl) ?_; refine o_nil ?_; refine x_then (hK10 _ _ ?_); refine c_ret ?_; refine x_then_ret (?_); exact x_ret rfl (.tmp rfl (.tmp rfl (.nil))) (.inl rfl)

theorem far_fn (fa : Option Addr) (fc : Nat) (ps : List Pc) (xa : Option Addr) (xc : Nat) (w : List UInt8) (first : Int) (all : Bool) (most : Int) : HL.Fn Try.prog 13 [.agg #[.slice fa ps.length fc, .slice xa w.length xc, .int .i64 first, .bool all, .int .i64 most]] (fun W => (Rd Epc W (.slice fa ps.length fc) ps ∧ ∀ p ∈ ps, Rd Eb W p.t.v p.t.xs) ∧ Rd Eb W (.slice xa w.length xc) w) [] (fun v _ => ∃ b, v = .bool b ∧ (b = false → ps.length ≤ 2147483647)) := by
  refine fn_of Try.func13 rfl rfl rfl fun w0 hw => ?_
  obtain ⟨⟨h1, h1t⟩, h2⟩ := hw
  have hs1 := h1.sl
  have hb1 := hs1.le
  have hb2 := h2.sl.le
  refine c_seq fun _ hK1 => ?_; refine c_region ?_; refine o_box rfl rfl rfl fun b1 => ?_; refine o_step rfl (s_assign rfl) ?_; refine o_nil ?_; refine x_then (hK1 _ _ ?_); refine c_seq fun _ hK2 => ?_; refine c_region ?_; refine o_step rfl (s_field rfl rfl (by decide)) ?_; refine o_step rfl (s_ld rfl (.own meA rfl)) ?_; refine o_step rfl (s_len rfl) ?_; refine o_step rfl (s_field rfl rfl (by decide)) ?_; refine o_step rfl (s_ld rfl (.own meA rfl)) ?_; refine o_step rfl (s_len rfl) ?_; refine o_step rfl (s_add rfl rfl (by omega)) ?_; refine o_step rfl (s_assign rfl) ?_; refine o_nil ?_; refine x_then (hK2 _ _ ?_); refine c_seq fun _ hK3 => ?_; refine c_seq fun _ hK4 => ?_; refine c_region ?_; refine o_step rfl (s_assign rfl) ?_; refine o_nil ?_; refine x_then (hK4 _ _ ?_); refine c_block ?_; refine c_loop2 (fun (j : Nat) (N : Int) => j ≤ ps.length ∧ (ps.length : Int) ≤ N ∧ N ≤ 562949953421312) (fun (j : Nat) (N : Int) => [(4, .int .i64 j), (3, .int .i64 N)]) [(1, _), (2, _)] (fun (j : Nat) (N : Int) => [(b1, .cells [.slice fa ps.length fc, .slice xa w.length xc, .int .i64 first, .bool all, .int .i64 most].toArray 41 (0, 0))]) (fun (j : Nat) (N : Int) => ps.length - j) 0 ((ps.length : Int) + w.length) ⟨Nat.zero_le _, by omega, by omega⟩ sbA sbA hzB ?_
  rintro j N ⟨hj, hN1, hN2⟩
  refine c_seq fun _ hK5 => ?_; refine c_seq fun _ hK6 => ?_; refine c_region ?_; refine o_step rfl (s_move rfl) ?_; refine o_step rfl (s_field rfl rfl (by decide)) ?_; refine o_step rfl (s_ld rfl (.own meA rfl)) ?_; refine o_step rfl (s_len rfl) ?_
  by_cases hlt : j < ps.length
  ·
   obtain ⟨p, hp⟩ : ∃ p, ps[j]? = some p := ⟨_, List.getElem?_eq_getElem (by omega)⟩
   have hpl := (h1t p (List.mem_of_getElem? hp)).sl.le
   refine o_step rfl (step_cast (v' := .bool true) (s_lss rfl rfl) (by rw [decide_eq_true (by omega)])) ?_; refine o_step rfl (s_move rfl) ?_; refine o_yes rfl rfl ?_; refine o_step rfl (s_move rfl) ?_; refine o_yes rfl rfl ?_
   by_cases hsm : N < 2147483648
   ·
    refine o_step rfl (step_cast (v' := .bool true) (s_lss rfl rfl) (by rw [decide_eq_true (by omega)])) ?_; refine o_step rfl (s_pick_t rfl rfl) ?_; refine o_nil ?_; refine x_then (hK6 _ _ ?_); refine c_true rfl ?_; refine c_skip ?_; refine x_then (hK5 _ _ ?_); refine c_seq fun _ hK7 => ?_; refine c_block ?_; refine c_region ?_; refine o_step rfl (s_move rfl) ?_; refine o_step rfl (s_field rfl rfl (by decide)) ?_; refine o_step rfl (s_ld rfl (.own meA rfl)) ?_; refine o_step rfl (s_move rfl) ?_; refine o_step rfl (s_idx rfl rfl hs1 (by omega)) ?_; refine o_step rfl (s_field rfl rfl (by decide)) ?_; refine o_step rfl (s_ld rfl ((RdK.old0 h1).ld j 1 hp rfl (by decide) (by omega))) ?_; refine o_step rfl (s_len rfl) ?_; refine o_step rfl (s_add rfl rfl (by omega)) ?_; refine o_step rfl (s_assign rfl) ?_; refine o_nil ?_; refine x_block ?_; refine x_then (hK7 _ _ ?_); refine c_region ?_; refine o_step rfl (s_move rfl) ?_
    refine o_step rfl (s_add rfl rfl (by omega)) ?_; refine o_step rfl (s_assign rfl) ?_; refine o_nil ?_; exact x_then (x_inv (j + 1, N + p.t.xs.length) ⟨by dsimp only; omega, by dsimp only; omega, by dsimp only; omega⟩ (by first | omega | (dsimp only; omega)) sbA hzB)
   ·
    refine o_step rfl (step_cast (v' := .bool false) (s_lss rfl rfl) (by rw [decide_eq_false (by omega)])) ?_; refine o_step rfl (s_pick_t rfl rfl) ?_; refine o_nil ?_; refine x_then (hK6 _ _ ?_); refine c_false rfl ?_; refine c_exit ?_; refine x_then_exit ?_; refine x_then_exit ?_; refine x_block_exit ?_; refine x_then (hK3 _ _ ?_); refine c_seq fun _ hK8 => ?_; refine c_region ?_; refine o_step rfl (s_move rfl) ?_; refine o_callP (long_fn _) rfl rfl rfl (fun _ _ => trivial) (fun v33 hv33 => ?_); subst hv33
    refine o_step rfl (s_assign rfl) ?_; refine o_nil ?_; refine x_then (hK8 _ _ ?_); refine c_ret ?_; refine ?_; exact x_ret rfl (.tmp rfl (.nil)) (⟨_, rfl, fun h => by have := of_decide_eq_false h; omega⟩)
  ·
   refine o_step rfl (step_cast (v' := .bool false) (s_lss rfl rfl) (by rw [decide_eq_false (by omega)])) ?_; refine o_step rfl (s_move rfl) ?_; refine o_no rfl rfl rfl rfl ?_; refine o_no rfl rfl rfl rfl ?_; refine o_step rfl (s_pick_f rfl rfl) ?_; refine o_nil ?_; refine x_then (hK6 _ _ ?_); refine c_false rfl ?_; refine c_exit ?_; refine x_then_exit ?_; refine x_then_exit ?_; refine x_block_exit ?_; refine x_then (hK3 _ _ ?_); refine c_seq fun _ hK9 => ?_; refine c_region ?_; refine o_step rfl (s_move rfl) ?_; refine o_callP (long_fn _) rfl rfl rfl (fun _ _ => trivial) (fun v33 hv33 => ?_); subst hv33
   refine o_step rfl (s_assign rfl) ?_; refine o_nil ?_; refine x_then (hK9 _ _ ?_); refine c_ret ?_; refine ?_; exact x_ret rfl (.tmp rfl (.nil)) (⟨_, rfl, fun h => by have := of_decide_eq_false h; omega⟩)
end Go.Proofs.Ytmpeokbongnniaa

/- Part of the proofs over this seat: see the text that holds the theorem. Conditions: each theorem bears its own. -/
namespace Go.Proofs.Ytmpeokbongnniaa
open Go Go.HL Go.Proofs Go.HL.Kl Go.HL.Kl.Mc Go.HL.Kl.Mc.AskE
end Go.Proofs.Ytmpeokbongnniaa

/- An interface that holds something is not nil. Conditions: none. -/
namespace Go.HL
open Go
theorem s_eql_ifacen {P : Program} {κ : Cx} {L : Loc} {H : Hp} {ty t t' tv : TypeId} {x : Operand} {v : Value} (h : (P.underlying t).map noIf = some false) (hx : ev L x = some (.iface tv v)) : Step P κ (.binOp .eql t x (.const .nilIface) t') ty L H (.bool false) :=
  ⟨fun ρ w d pos af g hρ _ => by
    have hy := hρ (.const .nilIface) .nilIface rfl
    cases hu : P.underlying t with
    | none => simp [hu] at h
    | some D =>
      simp only [hu, Option.map_some, Option.some.injEq] at h
      have he : (Op.equal t (.iface tv v) .nilIface).run P w = .ok false w := by
        have key : ∀ n, (Op.equalIn (n + 1) t (.iface tv v) .nilIface).run P w = .ok false w := fun n => by
          cases D <;> first | (simp [noIf] at h; done) | simp [Op.equalIn, run_underlying hu]
        exact key 9999
      have h1 : (eqGuard .eql t x (.const .nilIface) (.iface tv v) .nilIface).run P w = .ok () w := by simp [eqGuard]
      have h2 : (binOp .eql t (.iface tv v) .nilIface).run P w = .ok (.bool false) w := by simp only [binOp, Sem.run_bind, he, Result.andThen_ok, Sem.run_pure]
      simp only [execOp, hρ _ _ hx, hy, Sem.run_bind, h1, Result.andThen_ok, h2, Sem.run_pure]⟩
end Go.HL
