/- Part of the proofs over this seat: see the text that holds the theorem. Conditions: each theorem bears its own. -/
import Derived.Test.YtmompllplidphaaGreatDoorHTZ
import Derived.Test.YtmompllplidphaaGreatDoorSM8Z
import Derived.Test.YtmompllplidphaaGreatDoorMC9Z
import Derived.Test.YtmompllplidphaaGreatDoorGSW3Z
import Derived.Test.YtmompllplidphaaGreatDoorHlB
namespace Go.Proofs.YtmompllplidphaaGreatDoor
open Go Go.HL Go.Proofs Go.HL.Kl Go.HL.Kl.Mc Go.HL.Sts
theorem own_at {α : Type} {E : α → List Value} {k T : Nat} {sls : List (Sl α)} {xss : List (List α)} {S : Hp} (h : OwnL E k T sls xss S) : ∀ {n : Nat} {s : Sl α}, sls[n]? = some s →
    ∃ xs S1 Sn S2, xss[n]? = some xs ∧ S = S1 ++ (Sn ++ S2) ∧ OwnS E k T s.v xs Sn ∧ ∀ s' xs' Sn', OwnS E k T (Sl.v s') xs' Sn' → OwnL E k T (sls.set n s') (xss.set n xs') (S1 ++ (Sn' ++ S2)) := by
  induction h with
  | nil => intro n s hs; simp at hs
  | @cons s xs sls xss S R h hs ih =>
    intro n s' hn
    cases n with
    | zero =>
      simp at hn; subst hn
      exact ⟨xs, [], S, R, rfl, rfl, h, fun s' xs' Sn' h' => by simpa using OwnL.cons h' hs⟩
    | succ n =>
      obtain ⟨xs', S1, Sn, S2, h1, rfl, h3, h4⟩ := ih (by simpa using hn)
      exact ⟨xs', S ++ S1, Sn, S2, by simpa using h1, by simp, h3, fun y ys Sy hy => by simpa using OwnL.cons h (h4 y ys Sy hy)⟩
def OwnQ (sls : List (Sl Nat)) (S : Hp) : Prop := OwnL Eix 1 3 sls (sls.map Sl.xs) S
theorem OwnQ.at {sls : List (Sl Nat)} {S : Hp} (h : OwnQ sls S) {n : Nat} {s : Sl Nat} (hs : sls[n]? = some s) :
    ∃ S1 Sn S2, S = S1 ++ (Sn ++ S2) ∧ OwnS Eix 1 3 s.v s.xs Sn ∧ ∀ s' Sn', OwnS Eix 1 3 (Sl.v s') s'.xs Sn' → OwnQ (sls.set n s') (S1 ++ (Sn' ++ S2)) := by
  obtain ⟨xs, S1, Sn, S2, h1, h2, h3, h4⟩ := own_at h hs
  rw [List.getElem?_map, hs] at h1
  obtain rfl := (Option.some.inj h1)
  exact ⟨S1, Sn, S2, h2, h3, fun s' Sn' h' => by rw [OwnQ, List.map_set]; exact h4 s' _ Sn' h'⟩
theorem OwnQ.nils : ∀ n, OwnQ (List.replicate n ⟨none, 0, []⟩) []
  | 0 => .nil
  | n + 1 => OwnL.cons (S := []) (R := []) (s := ⟨none, 0, []⟩) .nil (OwnQ.nils n)
theorem bk_wk {next : List (List Nat)} {q k c c' : Nat} {bss : List (List Nat)} (h : BkI next q k c bss) (hc : c ≤ c') : BkI next q k c' bss := ⟨h.len, h.mem, fun l hl => Nat.le_trans (h.cnt l hl) hc⟩
theorem bk_step {next : List (List Nat)} {q k c to : Nat} {sls : List (Sl Nat)} {row : List Nat} {s s' : Sl Nat} (h : BkI next q k c (sls.map Sl.xs)) (hr : next[q]? = some row) (ht : row[k]? = some to) (hl : sls[to]? = some s) (hs : s'.xs = s.xs ++ [q]) : BkI next q (k + 1) (c + 1) ((sls.set to s').map Sl.xs) := by
  rw [List.map_set, hs]
  exact h.step hr ht (by rw [List.getElem?_map, hl]; rfl)
theorem last_ex {α : Type} {l : List α} (h : 0 < l.length) : ∃ i x, l = i ++ [x] := by
  rcases List.eq_nil_or_concat l with rfl | ⟨i, x, rfl⟩
  · simp at h
  · exact ⟨i, x, by simp⟩
set_option maxHeartbeats 1000000 in
theorem live_fn (na : Option Addr) (nc : Nat) (rows : List (Sl Nat)) (ea : Option Addr) (ec : Nat) (ends : List Bool) (K : Nat) (hel : rows.length = ends.length) (h0 : 0 < rows.length) (hnl : rows.length ≤ 16777217) (hK0 : 0 < K) (hK256 : K ≤ 256) (hKK : ∀ s ∈ rows, s.xs.length = K) (hbd : ∀ s ∈ rows, ∀ v ∈ s.xs, v < rows.length) : HL.Fn Tryz.prog 43 [.agg [.slice na rows.length nc, .slice ea ends.length ec].toArray] (fun w => Rd Esl w (.slice na rows.length nc) rows ∧ Rd Ebo w (.slice ea ends.length ec) ends ∧ ∀ s ∈ rows, Rd Eix w s.v s.xs) [] (fun v S' => ∃ a c lv, v = .slice a ends.length c ∧ OwnS Ebo 1 4 (.slice a ends.length c) lv S' ∧ LvOk (rows.map Sl.xs) ends lv) := by
  refine fn_of Tryz.func43 rfl rfl rfl fun w0 hw => ?_
  have hse := hw.2.1.sl
  have hsn := hw.1.sl
  have hxl : (rows.map Sl.xs).length = ends.length := by rw [List.length_map]; exact hel
  refine cR fun _ hK1 => ?_; refine o_box rfl rfl rfl fun b1 => ?_; refine oA (oZ hK1 (cR fun _ hK2 => ?_)); refine oS sF ?_; refine oS sL ?_; refine oS sC ?_; refine o_make (E := Esl) (zx := (⟨none, 0, []⟩ : Sl Nat)) (n := ends.length) rfl rfl rfl (by omega) (by omega) rfl fun b18 S18 hS18 => ?_
  have hs18 := hS18.sl
  rw [List.length_replicate] at hs18
  refine oA (oZ hK2 (c_seq fun _ hK3 => ?_)); refine cR fun _ hK4 => ?_; refine oS sF ?_; refine oS sL ?_; refine oS sC (oM (oZ hK4 (c_block ?_))); refine c_loop4 (fun (q : Nat) (bsl : List (Sl Nat)) (Sb : Hp) (SL : Hp) => q ≤ ends.length ∧ OwnS Esl 1 36 (.slice (some ⟨b18, 0, none⟩) ends.length ends.length) bsl Sb ∧ OwnQ bsl SL ∧ BkI (rows.map Sl.xs) q 0 (q * 256) (bsl.map Sl.xs)) (fun (q : Nat) (bsl : List (Sl Nat)) (Sb : Hp) (SL : Hp) => [(22, .int .i64 q)]) [(1, _), (2, _), (3, _), (20, _), (21, _)] (fun (q : Nat) (bsl : List (Sl Nat)) (Sb : Hp) (SL : Hp) => (b1, .cells [.slice na rows.length nc, .slice ea ends.length ec].toArray 96 (0, 0)) :: (Sb ++ SL)) (fun (q : Nat) (bsl : List (Sl Nat)) (Sb : Hp) (SL : Hp) => ends.length - q) 0 (List.replicate ends.length ⟨none, 0, []⟩) S18 [] ⟨Nat.zero_le _, hS18, OwnQ.nils _, by have h := BkI.zero (rows.map Sl.xs); rw [hxl] at h; simpa using h⟩ sbA sbA hzB ?_
  rintro q bsl Sb SL ⟨hq, hB, hL, hK⟩
  refine cR fun _ hK5 => ?_; refine oS (s_lss rfl rfl) ?_; refine oZ hK5 (c_seq fun _ hK6 => ?_); refine c_if rfl (fun hlt => ?_) (fun hlt => ?_)
  ·obtain ⟨s, hs⟩ : ∃ s, rows[q]? = some s := gE
   have hsm := List.mem_of_getElem? hs
   have hsK := hKK s hsm
   have hsx := (hw.2.2 s hsm).sl
   have hrow : (rows.map Sl.xs)[q]? = some s.xs := by rw [List.getElem?_map, hs]; rfl
   refine c_skip (xZ hK6 (c_seq fun _ hK7 => ?_)); refine c_block (cR fun _ hK8 => ?_); refine oM ?_; refine oS (s_idx rfl rfl hsn (by omega)) ?_; refine oS (s_ld rfl ((RdK.old0 hw.1).ld q 0 hs rfl (by decide) (by omega))) ?_; refine oA (oA (oZ hK8 (cR fun _ hK9 => ?_))); refine oM ?_; refine oS sC (oM (oZ hK9 (c_block ?_))); refine c_loop4 (fun (k : Nat) (bsl : List (Sl Nat)) (Sb : Hp) (SL : Hp) => k ≤ s.xs.length ∧ OwnS Esl 1 36 (.slice (some ⟨b18, 0, none⟩) ends.length ends.length) bsl Sb ∧ OwnQ bsl SL ∧ BkI (rows.map Sl.xs) q k (q * 256 + k) (bsl.map Sl.xs)) (fun (k : Nat) (bsl : List (Sl Nat)) (Sb : Hp) (SL : Hp) => [(29, .int .i64 k)]) [(1, _), (2, _), (3, _), (4, _), (5, _), (20, _), (21, _), (22, _), (23, _), (24, _), (25, _), (26, _), (27, _), (28, _)] (fun (k : Nat) (bsl : List (Sl Nat)) (Sb : Hp) (SL : Hp) => (b1, .cells [.slice na rows.length nc, .slice ea ends.length ec].toArray 96 (0, 0)) :: (Sb ++ SL)) (fun (k : Nat) (bsl : List (Sl Nat)) (Sb : Hp) (SL : Hp) => s.xs.length - k) 0 bsl Sb SL ⟨Nat.zero_le _, hB, hL, bk_wk hK (by omega)⟩ sbA sbA hzB ?_
   rintro k bsl Sb SL ⟨hk, hB, hL, hK⟩
   refine cR fun _ hK10 => ?_; refine oS (s_lss rfl rfl) ?_; refine oZ hK10 (c_seq fun _ hK11 => ?_); refine c_if rfl (fun hlk => ?_) (fun hlk => ?_)
   ·obtain ⟨to, hto⟩ : ∃ t, s.xs[k]? = some t := gE
    have htl := hbd s hsm to (List.mem_of_getElem? hto)
    have hbl : bsl.length = ends.length := by have := hK.len; rw [List.length_map] at this; omega
    have hsb := hB.sl
    rw [hbl] at hsb
    obtain ⟨bs, hbs⟩ : ∃ b, bsl[to]? = some b := gE
    have hbc := hK.cnt bs.xs (List.mem_map.2 ⟨bs, List.mem_of_getElem? hbs, rfl⟩)
    obtain ⟨S1, Sn, S2, rfl, hO, hput⟩ := hL.at hbs
    refine c_skip (xZ hK11 (c_seq fun _ hK12 => ?_)); refine c_block (cR fun _ hK13 => ?_); refine oS (s_idx rfl rfl hsx (by omega)) ?_; refine oS (s_ld rfl ((RdK.old0 (hw.2.2 s hsm)).ld k 0 hto rfl (by decide) (by simp only [Sl.v]; omega))) ?_; refine oA (oZ hK13 (c_region (oM (oM (oM (oM ?_)))))); refine oS (s_idx rfl rfl hsb (by omega)) ?_; refine oS (s_ld rfl ((hB.rdk hiA).ld to 0 hbs rfl (by decide) (by omega))) ?_; refine oM ?_; refine o_bs (E := Eix) (xs := [q]) (vs := [_]) rfl rfl rfl rfl rfl (by decide) (by decide) fun b40 S40 hS40 => ?_; refine o_app hO (hS40.rdk hiA) rfl rfl rfl rfl (by simp only [List.length_append, List.length_singleton]; omega) (by simp only [List.length_append, List.length_singleton]; omega) rfl pkA fun a41 c41 S41 hS41 => ?_; refine oS (s_idx rfl rfl hsb (by omega)) ?_; refine o_stS1 to (⟨a41, c41, bs.xs ++ [q]⟩ : Sl Nat) hB pkA rfl rfl rfl (by omega) (by first | rfl | omega | (rw [Int.toNat_natCast, Nat.mul_one])) fun S42 hS42 => ?_; refine o_nil (x_block (xZ hK12 (c_region ?_))); refine oS sD (oM (o_nil ?_)); exact xI (k + 1, bsl.set to ⟨a41, c41, bs.xs ++ [q]⟩, _, _) ⟨by omega, hS42, hput ⟨a41, c41, bs.xs ++ [q]⟩ S41 hS41, bk_wk (bk_step (s' := ⟨a41, c41, bs.xs ++ [q]⟩) hK hrow hto hbs rfl) (by omega)⟩
   ·obtain rfl : s.xs.length = k := by omega
    refine c_exit ?_; refine x_then_exit (x_then_exit (x_block_exit (x_block (xZ hK7 (c_region ?_))))); refine oS sD (oM (o_nil ?_)); exact xI (q + 1, bsl, Sb, SL) ⟨by omega, hB, hL, bk_wk (hK.row hrow rfl) (by omega)⟩
  ·obtain rfl : q = rows.length := by omega
   have hbl : bsl.length = ends.length := by have := hK.len; rw [List.length_map] at this; omega
   have hsb := hB.sl
   rw [hbl] at hsb
   refine c_exit ?_; refine x_then_exit (x_then_exit (x_block_exit (xZ hK3 (cR fun _ hK14 => ?_)))); refine oS sF ?_; refine oS sL ?_; refine o_call (cloneB_fn ea ec ends.length ends rfl (by omega)) rfl rfl rfl (by exact .nil) (fun w st => (RdK.old0 hw.2.1).out w st) (fun v47 S47 ⟨a47, c47, hv47, hS47⟩ => ?_); subst hv47
   have hs47 := hS47.sl
   refine oA (oZ hK14 (cR fun _ hK15 => ?_)); refine oA (oZ hK15 (c_seq fun _ hK16 => ?_)); refine cR fun _ hK17 => ?_; refine oM ?_; refine oS sC (oM (oZ hK17 (c_block ?_))); refine c_loop5 (fun (q : Nat) (td : List Nat) (ta : Option Addr) (tc : Nat) (St : Hp) => q ≤ ends.length ∧ td = todoE ends q ∧ OwnS Eix 1 3 (.slice ta td.length tc) td St) (fun (q : Nat) (td : List Nat) (ta : Option Addr) (tc : Nat) (St : Hp) => [(9, .slice ta td.length tc), (50, .int .i64 q)]) [(2, _), (3, _), (8, _), (48, _), (49, _)] (fun (q : Nat) (td : List Nat) (ta : Option Addr) (tc : Nat) (St : Hp) => (b1, .cells [.slice na rows.length nc, .slice ea ends.length ec].toArray 96 (0, 0)) :: (Sb ++ (SL ++ (S47 ++ St)))) (fun (q : Nat) (td : List Nat) (ta : Option Addr) (tc : Nat) (St : Hp) => ends.length - q) 0 [] none 0 [] ⟨Nat.zero_le _, rfl, OwnS.nil⟩ sbA sbA hzB ?_
   rintro q td ta tc St ⟨hq, htd, hT⟩
   refine cR fun _ hK18 => ?_; refine oS (s_lss rfl rfl) ?_; refine oZ hK18 (c_seq fun _ hK19 => ?_); refine c_if rfl (fun hl51 => ?_) (fun hl51 => ?_)
   ·obtain ⟨e, heq⟩ : ∃ e, ends[q]? = some e := gE
    have htel := todoE_len ends q
    rw [← htd] at htel
    refine c_skip (xZ hK19 (c_seq fun _ hK20 => ?_)); refine c_block (cR fun _ hK21 => ?_); refine oM ?_; refine oS (s_idx rfl rfl hs47 (by omega)) ?_; refine oS (s_ld rfl ((hS47.rdk hiA).ld q 0 heq rfl (by decide) (by omega))) ?_; refine oA (oA (oZ hK21 (cR fun _ hK22 => ?_))); refine oM (oZ hK22 ?_); refine c_cond rfl (fun he => ?_) (fun he => ?_)
    ·subst he; refine c_region (oM (oM ?_)); refine o_bs (E := Eix) (xs := [q]) (vs := [_]) rfl rfl rfl rfl rfl (by decide) (by decide) fun b58 S58 hS58 => ?_; refine o_app hT (hS58.rdk hiA) rfl rfl rfl rfl (by simp only [List.length_append, List.length_singleton]; omega) (by simp only [List.length_append, List.length_singleton]; omega) rfl pkA fun a59 c59 S59 hS59 => ?_; refine oA (o_nil (x_block (xZ hK20 (c_region ?_)))); refine oS sD (oM (o_nil ?_)); exact xI (q + 1, td ++ [q], a59, c59, S59) ⟨by omega, by rw [todoE_yes heq, htd], hS59⟩
    ·subst he; refine c_skip (x_block (xZ hK20 (c_region ?_))); refine oS sD (oM (o_nil ?_)); exact xI (q + 1, td, ta, tc, St) ⟨by omega, by rw [todoE_no heq, htd], hT⟩
   ·obtain rfl : q = ends.length := by omega
    refine c_exit ?_; refine x_then_exit (x_then_exit (x_block_exit (xZ hK16 (c_seq fun _ hK23 => ?_)))); refine c_block ?_; refine c_loop6 (fun (lv : List Bool) (todo : List Nat) (Sv : Hp) (ta : Option Addr) (tc : Nat) (St : Hp) => LvI (rows.map Sl.xs) ends lv todo none ∧ OwnS Ebo 1 4 (.slice a47 ends.length c47) lv Sv ∧ OwnS Eix 1 3 (.slice ta todo.length tc) todo St ∧ 2 * dead lv + todo.length ≤ 2 * ends.length) (fun (lv : List Bool) (todo : List Nat) (Sv : Hp) (ta : Option Addr) (tc : Nat) (St : Hp) => [(9, .slice ta todo.length tc)]) [(2, _), (3, _), (8, _)] (fun (lv : List Bool) (todo : List Nat) (Sv : Hp) (ta : Option Addr) (tc : Nat) (St : Hp) => (b1, .cells [.slice na rows.length nc, .slice ea ends.length ec].toArray 96 (0, 0)) :: (Sb ++ (SL ++ (Sv ++ St)))) (fun (lv : List Bool) (todo : List Nat) (Sv : Hp) (ta : Option Addr) (tc : Nat) (St : Hp) => 2 * dead lv + todo.length) ends td S47 ta tc St ⟨by rw [htd]; exact LvI.init (by omega), hS47, hT, by have := dead_todo ends; rw [← htd] at this; omega⟩ sbA sbA hzB ?_
    rintro lv todo Sv ta tc St ⟨hI, hV, hT, hm⟩
    have hvl := hI.len
    have hsv := hV.sl
    have hst := hT.sl
    rw [show lv.length = ends.length by omega] at hsv
    refine c_seq fun _ hK24 => ?_; refine cR fun _ hK25 => ?_; refine oM ?_; refine oS sC ?_
    by_cases hpos : (todo.length : Int) > 0
    ·obtain ⟨ini, q, rfl⟩ := last_ex (l := todo) (by omega)
     have hil : (ini ++ [q]).length = ini.length + 1 := by simp
     have hqv := hI.tod q (by simp)
     have hql := (List.getElem?_eq_some_iff.1 hqv).1
     obtain ⟨bq, hbq⟩ : ∃ b, bsl[q]? = some b := gE
     obtain ⟨S1, Sn, S2, hSL, hO, _⟩ := hL.at hbq
     have hso := hO.sl
     have hbo := hso.le
     have hTp := hT.pre ini.length (by omega)
     rw [List.take_left] at hTp
     refine oS (step_cast (v' := .bool true) (s_gtr rfl rfl) (congrArg Value.bool (decide_eq_true hpos))) ?_; refine oZ hK25 ?_; refine cTZ hK24 (c_block (cR fun _ hK26 => ?_)); refine oM (oM ?_); refine oS sC ?_; refine oS sU ?_; refine oS (s_idx rfl rfl hst (by omega)) ?_; refine oS (s_ld rfl ((hT.rdk hiA).ld ini.length 0 (show (ini ++ [q])[ini.length]? = some q by simp) rfl (by decide) (by omega))) ?_; refine oA (oZ hK26 (cR fun _ hK27 => ?_)); refine oM (oM ?_); refine oS sC ?_; refine oS sU ?_
     refine oS (step_cast (v' := .slice ta ini.length tc) (s_slice_hi rfl rfl (by have := hst.cap; omega)) (by congr 1; omega)) ?_; refine oA (oZ hK27 (cR fun _ hK28 => ?_)); refine oM (oM ?_); refine oS (s_idx rfl rfl hsb (by omega)) ?_; refine oS (s_ld rfl ((hB.rdk hiA).ld q 0 hbq rfl (by decide) (by omega))) ?_; refine oS sC (oM (oZ hK28 (c_block ?_))); refine c_loop7 (fun (j : Nat) (lv2 : List Bool) (todo2 : List Nat) (Sv2 : Hp) (ta2 : Option Addr) (tc2 : Nat) (St2 : Hp) => j ≤ bq.xs.length ∧ LvI (rows.map Sl.xs) ends lv2 todo2 (some q) ∧ lv2[q]? = some true ∧ (∀ i, i < j → ∀ p, bq.xs[i]? = some p → lv2[p]? = some true) ∧ OwnS Ebo 1 4 (.slice a47 ends.length c47) lv2 Sv2 ∧ OwnS Eix 1 3 (.slice ta2 todo2.length tc2) todo2 St2 ∧ 2 * dead lv2 + todo2.length < 2 * dead lv + (ini.length + 1)) (fun (j : Nat) (lv2 : List Bool) (todo2 : List Nat) (Sv2 : Hp) (ta2 : Option Addr) (tc2 : Nat) (St2 : Hp) => [(9, .slice ta2 todo2.length tc2), (80, .int .i64 j)]) [(2, _), (3, _), (8, _), (12, _), (61, _), (62, _), (63, _), (64, _), (65, _), (66, _), (67, _), (68, _), (69, _), (70, _), (71, _), (72, _), (73, _), (74, _), (75, _), (76, _), (77, _), (78, _), (79, _)] (fun (j : Nat) (lv2 : List Bool) (todo2 : List Nat) (Sv2 : Hp) (ta2 : Option Addr) (tc2 : Nat) (St2 : Hp) => (b1, .cells [.slice na rows.length nc, .slice ea ends.length ec].toArray 96 (0, 0)) :: (Sb ++ (SL ++ (Sv2 ++ St2)))) (fun (j : Nat) (lv2 : List Bool) (todo2 : List Nat) (Sv2 : Hp) (ta2 : Option Addr) (tc2 : Nat) (St2 : Hp) => bq.xs.length - j) 0 lv ini Sv ta tc St ⟨Nat.zero_le _, hI.pop, hqv, fun i hi => by omega, hV, hTp, by omega⟩ sbA sbA hzB ?_
     rintro j lv2 todo2 Sv2 ta2 tc2 St2 ⟨hj, hI2, hqv2, hpr2, hV2, hT2, hm2⟩
     have hvl2 := hI2.len
     have hsv2 := hV2.sl
     rw [show lv2.length = ends.length by omega] at hsv2
     refine cR fun _ hK29 => ?_; refine oS (s_lss rfl rfl) ?_; refine oZ hK29 (c_seq fun _ hK30 => ?_); refine c_if rfl (fun hlj => ?_) (fun hlj => ?_)
     ·obtain ⟨p, hjp⟩ : ∃ p, bq.xs[j]? = some p := gE
      have hpe := (hK.done (by omega) (by rw [List.getElem?_map, hbq]; rfl) p).1 (List.mem_of_getElem? hjp)
      have hpl : p < ends.length := by obtain ⟨row, hr, _⟩ := hpe; have := (List.getElem?_eq_some_iff.1 hr).1; omega
      obtain ⟨e, hpv⟩ : ∃ e, lv2[p]? = some e := gE
      have hd2 := dead_le lv2
      refine c_skip (xZ hK30 (c_seq fun _ hK31 => ?_)); refine c_block (cR fun _ hK32 => ?_); refine oS (s_idx rfl rfl hso (by omega)) ?_; refine oS (s_ld rfl ((hO.rdk (by rw [hSL]; exact hiA)).ld j 0 hjp rfl (by decide) (by simp only [Sl.v]; omega))) ?_; refine oA (oZ hK32 (cR fun _ hK33 => ?_)); refine oM (oM ?_); refine oS (s_idx rfl rfl hsv2 (by omega)) ?_; refine oS (s_ld rfl ((hV2.rdk hiA).ld p 0 hpv rfl (by decide) (by omega))) ?_; refine oS (s_not rfl) ?_; refine oZ hK33 ?_; refine c_cond rfl (fun he => ?_) (fun he => ?_)
      ·obtain rfl : e = false := by cases e <;> first | rfl | cases he
       refine cR fun _ hK34 => ?_; refine oM (oM ?_); refine oS (s_idx rfl rfl hsv2 (by omega)) ?_; refine o_stS1 p true hV2 pkA rfl rfl rfl (by omega) (by first | rfl | omega | (rw [Int.toNat_natCast, Nat.mul_one])) fun S91 hS91 => ?_; refine oZ hK34 (c_region (oM (oM ?_))); refine o_bs (E := Eix) (xs := [p]) (vs := [_]) rfl rfl rfl rfl rfl (by decide) (by decide) fun b94 S94 hS94 => ?_; refine o_app hT2 (hS94.rdk hiA) rfl rfl rfl rfl (by simp only [List.length_append, List.length_singleton]; omega) (by simp only [List.length_append, List.length_singleton]; omega) rfl pkA fun a95 c95 S95 hS95 => ?_; refine oA (o_nil (x_block (xZ hK31 (c_region ?_)))); refine oS sD (oM (o_nil ?_)); exact xI (j + 1, lv2.set p true, todo2 ++ [p], S91, a95, c95, S95) ⟨by omega, hI2.push hqv2 hpe hpv, (lv_set hpv q).2 (.inr hqv2), fun i hi p' hp' => (lv_set hpv p').2 (by rcases Nat.lt_or_ge i j with h | h; (· exact .inr (hpr2 i h p' hp')); (· rw [show i = j by omega, hjp] at hp'; exact .inl (Option.some.inj hp').symm)), hS91, hS95, by have := dead_set hpv; simp only [List.length_append, List.length_singleton]; omega⟩
      ·obtain rfl : e = true := by cases e <;> first | rfl | cases he
       refine c_skip (x_block (xZ hK31 (c_region ?_))); refine oS sD (oM (o_nil ?_)); exact xI (j + 1, lv2, todo2, Sv2, ta2, tc2, St2) ⟨by omega, hI2, hqv2, fun i hi p' hp' => (by rcases Nat.lt_or_ge i j with h | h; (· exact hpr2 i h p' hp'); (· rw [show i = j by omega, hjp] at hp'; rw [← Option.some.inj hp']; exact hpv)), hV2, hT2, hm2⟩
     ·obtain rfl : j = bq.xs.length := by omega
      refine c_exit ?_; refine x_then_exit (x_then_exit (x_block_exit (x_block ?_))); exact xI (lv2, todo2, Sv2, ta2, tc2, St2) ⟨hI2.close (fun p hp => by obtain ⟨i, hi⟩ := List.getElem?_of_mem ((hK.done (by omega) (by rw [List.getElem?_map, hbq]; rfl) p).2 hp); exact hpr2 i (List.getElem?_eq_some_iff.1 hi).1 p hi), hV2, hT2, by dsimp only; omega⟩
    ·have htn : todo = [] := List.eq_nil_of_length_eq_zero (by omega)
     subst htn; refine oS (step_cast (v' := .bool false) (s_gtr rfl rfl) (congrArg Value.bool (decide_eq_false hpos))) ?_; refine oZ hK25 ?_; refine cF ?_; refine c_exit ?_; refine x_then_exit (x_then_exit (x_block_exit (xZ hK23 (cR fun _ hK35 => ?_)))); refine oM (oA (oZ hK35 (c_ret ?_))); refine ?_; refine x_sub (Sub.refl _) (H' := Sv) hzB ?_; exact xR rfl rfl (⟨_, _, lv, rfl, hV, hI.done⟩)
end Go.Proofs.YtmompllplidphaaGreatDoor
namespace Go.HL.Kl
open Go Go.HL
def mt (c a : Cl) : Bool := decide (c &&& a = 0#256)
def orA (l : List Cl) : Cl := l.foldl (fun c a => c ||| a) 0
theorem orA_get (l : List Cl) (x : Nat) : (orA l).getLsbD x = l.any (fun a => a.getLsbD x) := by
  have key : ∀ (l : List Cl) (c : Cl), (l.foldl (fun c a => c ||| a) c).getLsbD x = (c.getLsbD x || l.any (fun a => a.getLsbD x)) := by
    intro l
    induction l with
    | nil => intro c; simp
    | cons a l ih => intro c; rw [List.foldl_cons, ih, BitVec.getLsbD_or, List.any_cons, Bool.or_assoc]
  have := key l 0
  simpa [orA] using this
theorem orA_atoms (l : List Cl) : orA (atoms l) = rng 0 255 := by
  apply cl_ext
  intro x hx
  rw [orA_get, rng_all hx]
  obtain ⟨a, ha, hax⟩ := (atoms_pi l).all x hx
  exact List.any_eq_true.2 ⟨a, ha, hax⟩
def orM (c : Cl) (l : List Cl) : Cl := orA (l.filter fun a => !mt c a)
end Go.HL.Kl
namespace Go.HL.Sts
open Go Go.HL Go.HL.Kl Go.HL.Kl.Mc
theorem atoms_len2 (l : List Kl.Cl) : 0 < (atoms l).length ∧ (atoms l).length ≤ 256 := by
  refine ⟨?_, (atoms_pi l).dj.len⟩
  rcases Nat.eq_zero_or_pos (atoms l).length with h | h
  · have h0 := List.eq_nil_of_length_eq_zero h
    have h1 := orA_atoms l
    rw [h0] at h1
    have h2 := congrArg (fun c => BitVec.getLsbD c 0) h1
    simp only [rng_all (x := 0) (by omega)] at h2
    simp [orA] at h2
  · exact h
theorem setsOf_yes {re : List Nd} {k : Nat} {n : Nd} (h : re[k]? = some n) (h1 : n.op = 1) : setsOf (re.take (k + 1)) = setsOf (re.take k) ++ [n.set] := by
  rw [take_succ_get h]; simp [setsOf, h1]
theorem setsOf_no {re : List Nd} {k : Nat} {n : Nd} (h : re[k]? = some n) (h1 : n.op ≠ 1) : setsOf (re.take (k + 1)) = setsOf (re.take k) := by
  rw [take_succ_get h]; simp [setsOf, h1]
theorem setsOf_len (re : List Nd) (k : Nat) : (setsOf (re.take k)).length ≤ k := by
  have h1 := List.length_filter_le (fun n : Nd => decide (n.op = 1)) (re.take k)
  have h2 : (re.take k).length ≤ k := by simp; omega
  simp only [setsOf, List.length_map]; omega
theorem partsT_len {next : List (List Nat)} {K : Nat} : ∀ (f many : Nat) (part : List Nat), part.length = next.length → (partsT next K f many part).length = next.length
  | 0, _, part, h => h
  | f + 1, many, part, h => by
    unfold partsT
    split
    · exact h
    · exact partsT_len f _ _ (round_len h K)
theorem partsM_len {next : List (List Nat)} {ends : List Bool} {K : Nat} (h : ends.length = next.length) : (partsM next ends K).length = next.length := partsT_len _ _ _ (by simp [part0, h])
/-! a row of the least machine -/
def pt (part : List Nat) (m : Nat) : Nat := part[m]?.getD 0
theorem toT_dead {part : List Nat} {lv : List Bool} {met : List Nat} {to : Nat} (h : lv[to]? = some false) : toT part lv met to = (-1, met) := by simp [toT, h]
theorem toT_live {part : List Nat} {lv : List Bool} {met : List Nat} {to : Nat} (h : lv[to]? = some true) : toT part lv met to = (((idx (met.map (pt part)) (pt part to) : Nat) : Int), if pt part to ∈ met.map (pt part) then met else met ++ [to]) := by
  unfold toT
  rw [h]; rfl
theorem lrowK_succ {part : List Nat} {lv : List Bool} {r met : List Nat} {k to : Nat} (h : r[k]? = some to) : lrowT part lv (r.take (k + 1)) met = ((lrowT part lv (r.take k) met).1 ++ [(toT part lv (lrowT part lv (r.take k) met).2 to).1], (toT part lv (lrowT part lv (r.take k) met).2 to).2) := by
  rw [take_succ_get h, lrowT_snoc]
theorem lrowK_len {part : List Nat} {lv : List Bool} {r met : List Nat} {k : Nat} (h : k ≤ r.length) : (lrowT part lv (r.take k) met).1.length = k := by rw [lrowT_len, take_len h]
theorem toT_len (part : List Nat) (lv : List Bool) (met : List Nat) (to : Nat) : (toT part lv met to).2.length ≤ met.length + 1 ∧ met.length ≤ (toT part lv met to).2.length := by
  unfold toT
  split
  · simp
  · dsimp only; split <;> simp
theorem lrowT_mono (part : List Nat) (lv : List Bool) : ∀ (r met : List Nat), (lrowT part lv r met).2.length ≤ met.length + r.length ∧ met.length ≤ (lrowT part lv r met).2.length
  | [], met => by simp [lrowT]
  | to :: r, met => by
    have h1 := lrowT_mono part lv r (toT part lv met to).2
    have h2 := toT_len part lv met to
    simp only [lrowT, List.length_cons]
    omega
theorem lrowT_pre (part : List Nat) (lv : List Bool) : ∀ (r met : List Nat), ∃ t, (lrowT part lv r met).2 = met ++ t
  | [], met => ⟨[], by simp [lrowT]⟩
  | to :: r, met => by
    obtain ⟨t, ht⟩ := lrowT_pre part lv r (toT part lv met to).2
    have h2 : ∃ u, (toT part lv met to).2 = met ++ u := by
      unfold toT
      split
      · exact ⟨[], by simp⟩
      · dsimp only
        split
        · exact ⟨[], by simp⟩
        · exact ⟨[to], rfl⟩
    obtain ⟨u, hu⟩ := h2
    exact ⟨u ++ t, by show (lrowT part lv r (toT part lv met to).2).2 = _; rw [ht, hu, List.append_assoc]⟩
theorem lmRun_step {w : Wd} {part : List Nat} {lv : List Bool} {f i : Nat} {m : Lm} (hf : 0 < f) (hi : i < m.met.length) (hm : m.met.length ≤ 256) : lmRun w part lv f i m = lmRun w part lv (f - 1) (i + 1) (lmStep w part lv i m) := by
  obtain ⟨g, rfl⟩ : ∃ g, f = g + 1 := ⟨f - 1, by omega⟩
  simp only [lmRun, if_pos hi, if_neg (show ¬ 256 < m.met.length by omega), Nat.add_sub_cancel]
theorem lmRun_end {w : Wd} {part : List Nat} {lv : List Bool} {f i : Nat} {m : Lm} (hf : 0 < f) (hi : ¬ i < m.met.length) : lmRun w part lv f i m = some m := by
  obtain ⟨g, rfl⟩ : ∃ g, f = g + 1 := ⟨f - 1, by omega⟩
  simp only [lmRun, if_neg hi]
theorem lmRun_many {w : Wd} {part : List Nat} {lv : List Bool} {f i : Nat} {m : Lm} (hf : 0 < f) (hi : i < m.met.length) (hm : 256 < m.met.length) : lmRun w part lv f i m = none := by
  obtain ⟨g, rfl⟩ : ∃ g, f = g + 1 := ⟨f - 1, by omega⟩
  simp only [lmRun, if_pos hi, if_pos hm]
theorem lmStep_eq {w : Wd} {part : List Nat} {lv : List Bool} {i q : Nat} {m : Lm} {row : List Nat} {e : Bool} (hq : m.met[i]? = some q) (hr : w.next[q]? = some row) (he : w.ends[q]? = some e) : lmStep w part lv i m = ⟨(lrowT part lv row m.met).2, m.next ++ [(lrowT part lv row m.met).1], m.ends ++ [e]⟩ := by
  simp [lmStep, hq, hr, he]
theorem numI_add {l : List Nat} {s : Nat} (hs : s ∉ l) {g g' : Int → Option Value} (h : ∀ j : Nat, g j = numM l j)
    (h' : ∀ j : Int, g' j = if j = (s : Int) then some (.int .i64 ((l.length : Nat) : Int)) else g j) : ∀ j : Nat, g' j = numM (l ++ [s]) j := by
  have := map_add (g := fun j : Nat => g j) (g' := fun j : Nat => g' j) hs h (fun j => by
    rw [h' (j : Int)]
    by_cases e : j = s
    · rw [if_pos e, if_pos (by omega)]
    · rw [if_neg e, if_neg (by omega)])
  rwa [map_new hs] at this
theorem numM_one {p : Nat} (j : Nat) : (if (j : Int) = (p : Int) then some (Value.int .i64 0) else none) = numM [p] j := by
  by_cases e : j = p
  · subst e; rw [if_pos rfl, numM_in (by simp)]; simp [idx]
  · rw [if_neg (by omega), numM_out (by simp [e])]
theorem lv_no {lv : List Bool} {q : Nat} (h : q < lv.length) (hn : ¬ lv[q]? = some true) : lv[q]? = some false := by
  rw [List.getElem?_eq_getElem h] at hn ⊢
  cases e : lv[q] <;> simp_all
theorem pt_get {pm : List Nat} {m : Nat} (h : m < pm.length) : pm[m]? = some (pt pm m) := by
  unfold pt
  rw [List.getElem?_eq_getElem h]; rfl
def wdM (re : List Nd) (n : Nd) (ks : F) : Wd := wideM (partM n ks ⟨[], []⟩).2 (partM n ks ⟨[], []⟩).1 (atoms (setsOf re))
def lmOf (re : List Nd) (n : Nd) (ks : F) (lv : List Bool) : Option Lm := lmM (wdM re n ks) (partsM (wdM re n ks).next (wdM re n ks).ends (atoms (setsOf re)).length) lv
def mkErr (re : List Nd) (e : Int) : Prop := (shapedB re = false ∧ e = 49) ∨ (shapedB re = true ∧ refsB re = true ∧ e = 44) ∨ (∃ n ks, Mc.Shp re n ks ∧ refsB re = false ∧ 20 < (F.nd n ks .nil).weight ∧ e = 48) ∨
  ∃ n ks lv, Mc.Shp re n ks ∧ refsB re = false ∧ (F.nd n ks .nil).weight ≤ 20 ∧ LvOk (wdM re n ks).next (wdM re n ks).ends lv ∧ lmOf re n ks lv = none ∧ e = 51
def mkOk (re : List Nd) (d : Df) : Prop := shapedB re = true ∧ ∃ n ks lv m, Mc.Shp re n ks ∧ refsB re = false ∧ (F.nd n ks .nil).weight ≤ 20 ∧ LvOk (wdM re n ks).next (wdM re n ks).ends lv ∧ lmOf re n ks lv = some m ∧ d.next = m.next ∧ d.ends = m.ends ∧ d.atoms = atoms (setsOf re)
end Go.HL.Sts
namespace Go.HL
open Go
section
variable {P : Program} {κ : Cx} {Q : Pst} {L : Loc} {H : Hp}
theorem c_loop15 {ι0 ι1 ι2 ι3 ι4 ι5 ι6 ι7 ι8 ι9 ι10 ι11 ι12 ι13 ι14 : Type} {body : Code} (I : ι0 → ι1 → ι2 → ι3 → ι4 → ι5 → ι6 → ι7 → ι8 → ι9 → ι10 → ι11 → ι12 → ι13 → ι14 → Prop) (mods : ι0 → ι1 → ι2 → ι3 → ι4 → ι5 → ι6 → ι7 → ι8 → ι9 → ι10 → ι11 → ι12 → ι13 → ι14 → Loc) (base : Loc) (Hf : ι0 → ι1 → ι2 → ι3 → ι4 → ι5 → ι6 → ι7 → ι8 → ι9 → ι10 → ι11 → ι12 → ι13 → ι14 → Hp) (m : ι0 → ι1 → ι2 → ι3 → ι4 → ι5 → ι6 → ι7 → ι8 → ι9 → ι10 → ι11 → ι12 → ι13 → ι14 → Nat) (i0 : ι0) (i1 : ι1) (i2 : ι2) (i3 : ι3) (i4 : ι4) (i5 : ι5) (i6 : ι6) (i7 : ι7) (i8 : ι8) (i9 : ι9) (i10 : ι10) (i11 : ι11) (i12 : ι12) (i13 : ι13) (i14 : ι14) (h0 : I i0 i1 i2 i3 i4 i5 i6 i7 i8 i9 i10 i11 i12 i13 i14) (hL : Sub L (mods i0 i1 i2 i3 i4 i5 i6 i7 i8 i9 i10 i11 i12 i13 i14)) (hb : Sub L base) (hH : HSub H (Hf i0 i1 i2 i3 i4 i5 i6 i7 i8 i9 i10 i11 i12 i13 i14))
    (round : ∀ i0 i1 i2 i3 i4 i5 i6 i7 i8 i9 i10 i11 i12 i13 i14, I i0 i1 i2 i3 i4 i5 i6 i7 i8 i9 i10 i11 i12 i13 i14 → C P κ (Exit.then (Inv κ (fun p : ι0 × ι1 × ι2 × ι3 × ι4 × ι5 × ι6 × ι7 × ι8 × ι9 × ι10 × ι11 × ι12 × ι13 × ι14 => I p.1 p.2.1 p.2.2.1 p.2.2.2.1 p.2.2.2.2.1 p.2.2.2.2.2.1 p.2.2.2.2.2.2.1 p.2.2.2.2.2.2.2.1 p.2.2.2.2.2.2.2.2.1 p.2.2.2.2.2.2.2.2.2.1 p.2.2.2.2.2.2.2.2.2.2.1 p.2.2.2.2.2.2.2.2.2.2.2.1 p.2.2.2.2.2.2.2.2.2.2.2.2.1 p.2.2.2.2.2.2.2.2.2.2.2.2.2.1 p.2.2.2.2.2.2.2.2.2.2.2.2.2.2) (fun p => mods p.1 p.2.1 p.2.2.1 p.2.2.2.1 p.2.2.2.2.1 p.2.2.2.2.2.1 p.2.2.2.2.2.2.1 p.2.2.2.2.2.2.2.1 p.2.2.2.2.2.2.2.2.1 p.2.2.2.2.2.2.2.2.2.1 p.2.2.2.2.2.2.2.2.2.2.1 p.2.2.2.2.2.2.2.2.2.2.2.1 p.2.2.2.2.2.2.2.2.2.2.2.2.1 p.2.2.2.2.2.2.2.2.2.2.2.2.2.1 p.2.2.2.2.2.2.2.2.2.2.2.2.2.2 ++ base) (fun p => Hf p.1 p.2.1 p.2.2.1 p.2.2.2.1 p.2.2.2.2.1 p.2.2.2.2.2.1 p.2.2.2.2.2.2.1 p.2.2.2.2.2.2.2.1 p.2.2.2.2.2.2.2.2.1 p.2.2.2.2.2.2.2.2.2.1 p.2.2.2.2.2.2.2.2.2.2.1 p.2.2.2.2.2.2.2.2.2.2.2.1 p.2.2.2.2.2.2.2.2.2.2.2.2.1 p.2.2.2.2.2.2.2.2.2.2.2.2.2.1 p.2.2.2.2.2.2.2.2.2.2.2.2.2.2) (fun p => m p.1 p.2.1 p.2.2.1 p.2.2.2.1 p.2.2.2.2.1 p.2.2.2.2.2.1 p.2.2.2.2.2.2.1 p.2.2.2.2.2.2.2.1 p.2.2.2.2.2.2.2.2.1 p.2.2.2.2.2.2.2.2.2.1 p.2.2.2.2.2.2.2.2.2.2.1 p.2.2.2.2.2.2.2.2.2.2.2.1 p.2.2.2.2.2.2.2.2.2.2.2.2.1 p.2.2.2.2.2.2.2.2.2.2.2.2.2.1 p.2.2.2.2.2.2.2.2.2.2.2.2.2.2) (i0, i1, i2, i3, i4, i5, i6, i7, i8, i9, i10, i11, i12, i13, i14)) Q) body (mods i0 i1 i2 i3 i4 i5 i6 i7 i8 i9 i10 i11 i12 i13 i14 ++ base) (Hf i0 i1 i2 i3 i4 i5 i6 i7 i8 i9 i10 i11 i12 i13 i14)) : C P κ Q (.loop body) L H :=
  c_loop (fun p : ι0 × ι1 × ι2 × ι3 × ι4 × ι5 × ι6 × ι7 × ι8 × ι9 × ι10 × ι11 × ι12 × ι13 × ι14 => I p.1 p.2.1 p.2.2.1 p.2.2.2.1 p.2.2.2.2.1 p.2.2.2.2.2.1 p.2.2.2.2.2.2.1 p.2.2.2.2.2.2.2.1 p.2.2.2.2.2.2.2.2.1 p.2.2.2.2.2.2.2.2.2.1 p.2.2.2.2.2.2.2.2.2.2.1 p.2.2.2.2.2.2.2.2.2.2.2.1 p.2.2.2.2.2.2.2.2.2.2.2.2.1 p.2.2.2.2.2.2.2.2.2.2.2.2.2.1 p.2.2.2.2.2.2.2.2.2.2.2.2.2.2) (fun p => mods p.1 p.2.1 p.2.2.1 p.2.2.2.1 p.2.2.2.2.1 p.2.2.2.2.2.1 p.2.2.2.2.2.2.1 p.2.2.2.2.2.2.2.1 p.2.2.2.2.2.2.2.2.1 p.2.2.2.2.2.2.2.2.2.1 p.2.2.2.2.2.2.2.2.2.2.1 p.2.2.2.2.2.2.2.2.2.2.2.1 p.2.2.2.2.2.2.2.2.2.2.2.2.1 p.2.2.2.2.2.2.2.2.2.2.2.2.2.1 p.2.2.2.2.2.2.2.2.2.2.2.2.2.2 ++ base) (fun p => Hf p.1 p.2.1 p.2.2.1 p.2.2.2.1 p.2.2.2.2.1 p.2.2.2.2.2.1 p.2.2.2.2.2.2.1 p.2.2.2.2.2.2.2.1 p.2.2.2.2.2.2.2.2.1 p.2.2.2.2.2.2.2.2.2.1 p.2.2.2.2.2.2.2.2.2.2.1 p.2.2.2.2.2.2.2.2.2.2.2.1 p.2.2.2.2.2.2.2.2.2.2.2.2.1 p.2.2.2.2.2.2.2.2.2.2.2.2.2.1 p.2.2.2.2.2.2.2.2.2.2.2.2.2.2) (fun p => m p.1 p.2.1 p.2.2.1 p.2.2.2.1 p.2.2.2.2.1 p.2.2.2.2.2.1 p.2.2.2.2.2.2.1 p.2.2.2.2.2.2.2.1 p.2.2.2.2.2.2.2.2.1 p.2.2.2.2.2.2.2.2.2.1 p.2.2.2.2.2.2.2.2.2.2.1 p.2.2.2.2.2.2.2.2.2.2.2.1 p.2.2.2.2.2.2.2.2.2.2.2.2.1 p.2.2.2.2.2.2.2.2.2.2.2.2.2.1 p.2.2.2.2.2.2.2.2.2.2.2.2.2.2) (i0, i1, i2, i3, i4, i5, i6, i7, i8, i9, i10, i11, i12, i13, i14) h0 (hL.app hb) hH (fun p hp => round p.1 p.2.1 p.2.2.1 p.2.2.2.1 p.2.2.2.2.1 p.2.2.2.2.2.1 p.2.2.2.2.2.2.1 p.2.2.2.2.2.2.2.1 p.2.2.2.2.2.2.2.2.1 p.2.2.2.2.2.2.2.2.2.1 p.2.2.2.2.2.2.2.2.2.2.1 p.2.2.2.2.2.2.2.2.2.2.2.1 p.2.2.2.2.2.2.2.2.2.2.2.2.1 p.2.2.2.2.2.2.2.2.2.2.2.2.2.1 p.2.2.2.2.2.2.2.2.2.2.2.2.2.2 hp)
end
section
variable {P : Program} {κ : Cx} {Q : Pst} {L : Loc} {H H' : Hp} {ops : Array Oper} {rest : List Oper} {ty t t' kt : TypeId} {d : Nat} {pos : String} {af : Array Edge} {x y z : Operand} {K : Type} [DecidableEq K] {Ek : K → Value}
theorem o_ins2 {vt b c : Nat} {es : List (Mx K)} {k : K} {u : Value} {R : Hp} [ke : KE P kt Ek] [TU P t (.map kt vt)] (hx : ev L x = some (.map (some b))) (hy : ev L y = some (Ek k)) (hz : ev L z = some u)
    (hpk : Pick H [(b, mxO Ek es c)] R) (h : ∀ es' c', (∀ j, getM es' j = if j = k then some u else getM es j) → es'.length = es.length + (if (getM es k).isSome then 0 else 1) → O P κ ops Q rest L ((b, mxO Ek es' c') :: R)) : O P κ ops Q (⟨none, .insert t x y z, ty, pos, af, none⟩ :: rest) L H := by
  refine ⟨fun ro a w hro ok => op_want rfl ?_⟩
  have e1 := ok.fr.ev hx
  have e2 := ok.fr.ev hy
  have e3 := ok.fr.ev hz
  have st := ok.st.perm hpk.perm
  have ho := run_getObj2 (P := P) (st.has _ _ (List.mem_cons_self))
  obtain ⟨r, hr, hc⟩ := find_key2 (P := P) (kt := kt) (Ek := Ek) w k es
  have hck := fun b => ke.check w b k
  have key : ∃ es' c', (Instr.mapUpdate t (.map (some b)) (Ek k) u).run P w = .ok () { w with heap := w.heap.setIfInBounds b (mxO Ek es' c') } ∧ (∀ j, getM es' j = if j = k then some u else getM es j) ∧ es'.length = es.length + (if (getM es k).isSome then 0 else 1) := by
    rcases hc with ⟨h1, h2⟩ | ⟨j, v, h1, h2, ⟨e', he', hk⟩, h4⟩
    · refine ⟨es ++ [⟨k, u, c⟩], c + 1, ?_, fun j => getM_push h2 u c j, by rw [getM_none h2]; simp⟩
      unfold Instr.mapUpdate
      simp only [Sem.run_bind, run_u, Result.andThen_ok, ho, mxO, hck]
      rw [hr, h1]
      simp only [Result.andThen_ok]
      rw [run_setObj2 (P := P) (Ek := Ek) (es := es) (c := c) (st.has _ _ (List.mem_cons_self))]
      simp [mxO, Mx.enc]
    · refine ⟨putM u es k, c, ?_, fun j => getM_put ⟨e', List.mem_of_getElem? he', hk⟩ u j, by rw [h2, putM_len]; simp⟩
      have hj : ((es.map (Mx.enc Ek)).toArray[j]?).map (·.key) = some (Ek k) := by
        simp [he', Mx.enc, hk]
      have hkey : (((es.map (Mx.enc Ek)).toArray[j]?).map (·.key)).getD (Ek k) = Ek k := by rw [hj]; rfl
      unfold Instr.mapUpdate
      simp only [Sem.run_bind, run_u, Result.andThen_ok, ho, mxO, hck]
      rw [hr, h1]
      simp only [Result.andThen_ok, Nat.zero_add, Sem.run_bind]
      rw [hkey]
      simp only [Instr.keyThatStays, ke.bits, if_true, Sem.run_pure, Result.andThen_ok]
      rw [h4 u, run_setObj2 (P := P) (Ek := Ek) (es := es) (c := c) (st.has _ _ (List.mem_cons_self))]
  obtain ⟨es', c', hrun, hg, hlen⟩ := key
  have hx' : (execOp a.eval ⟨none, .insert t x y z, ty, pos, af, none⟩).run P w = .ok .skip { w with heap := w.heap.setIfInBounds b (mxO Ek es' c') } := by
    simp [execOp, e1, e2, e3, hrun]
  exact op_skip hx' ((h es' c' hg hlen).out ro _ _ hro.tail ⟨ok.fr, St.put st rfl rfl rfl rfl⟩)
end
end Go.HL
