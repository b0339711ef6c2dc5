/- What a replacement comes to, what a change comes to. Conditions: none. -/
import Derived.Test.YtmpeokbongnniaaMK6Z
import Derived.Test.YtmpeokbongnniaaHTZ
import Derived.Test.YtmpeokbongnniaaYC2
import Derived.Test.YtmpeokbongnniaaYZW9Z
import Derived.Test.YtmpeokbongnniaaYZN5Z
import Derived.Test.YtmpeokbongnniaaMT8Z
import Derived.Test.YtmpeokbongnniaaMT3Z
import Derived.Test.YtmpeokbongnniaaYZN1Z
namespace Go.HL.Kl.Mc
open Go Go.HL Go.HL.Kl AskE
structure Pc where
  g : Int
  t : Sl UInt8
def Epc (p : Pc) : List Value := [.int .i64 p.g, p.t.v]
instance : Enc Epc 2 := ⟨fun _ => rfl, fun _ v h => by
  simp only [Epc, List.mem_cons, List.not_mem_nil, or_false] at h
  rcases h with rfl | rfl <;> rfl⟩
def Pc.abs (p : Pc) : Int × List UInt8 := (p.g, p.t.xs)
def cutW (w : List UInt8) (s : Sp) : List UInt8 := if 0 ≤ s.fr ∧ s.fr ≤ s.to ∧ s.to ≤ w.length then (w.drop s.fr.toNat).take (s.to.toNat - s.fr.toNat) else []
def exA (w : List UInt8) (L : List Sp) (p : Int × List UInt8) : List UInt8 := if p.1 = -1 then p.2 else if p.1 < 0 ∨ (L.length : Int) ≤ p.1 then [] else cutW w (L.getD p.1.toNat noS)
def expd (w : List UInt8) (ps : List (Int × List UInt8)) (L : List Sp) : List UInt8 := (ps.map (exA w L)).flatten
def pcL (L : List Sp) (p : Int × List UInt8) : Nat := if p.1 = -1 then p.2.length else if p.1 < 0 ∨ (L.length : Int) ≤ p.1 then 0 else if 0 ≤ (L.getD p.1.toNat noS).fr ∧ (L.getD p.1.toNat noS).fr ≤ (L.getD p.1.toNat noS).to then ((L.getD p.1.toNat noS).to - (L.getD p.1.toNat noS).fr).toNat else 0
def longS (L : List Sp) (ps : List (Int × List UInt8)) : Nat := (ps.map (pcL L)).sum
theorem cutW_len {w : List UInt8} {s : Sp} (h : 0 ≤ s.fr ∧ s.fr ≤ s.to ∧ s.to ≤ w.length) : (cutW w s).length = (s.to - s.fr).toNat := by
  rw [cutW, if_pos h]; simp; omega
theorem exA_len {w : List UInt8} {L : List Sp} (hL : ∀ s ∈ L, s = noS ∨ (0 ≤ s.fr ∧ s.fr ≤ s.to ∧ s.to ≤ w.length)) (p : Int × List UInt8) : (exA w L p).length = pcL L p := by
  unfold exA pcL
  split
  · rfl
  split
  · rfl
  rename_i h1 h2
  have hm : L.getD p.1.toNat noS ∈ L := by
    have hlt : p.1.toNat < L.length := by omega
    rw [List.getD_eq_getElem?_getD, List.getElem?_eq_getElem hlt]
    exact List.getElem_mem hlt
  rcases hL _ hm with e | h
  · rw [e]; simp [cutW, noS]
  · rw [cutW_len h, if_pos ⟨h.1, h.2.1⟩]
theorem expd_len {w : List UInt8} {L : List Sp} (hL : ∀ s ∈ L, s = noS ∨ (0 ≤ s.fr ∧ s.fr ≤ s.to ∧ s.to ≤ w.length)) (ps : List (Int × List UInt8)) : (expd w ps L).length = longS L ps := by
  induction ps with
  | nil => rfl
  | cons p ps ih =>
    simp only [expd, longS, List.map_cons, List.flatten_cons, List.length_append, List.sum_cons] at ih ⊢
    rw [ih, exA_len hL]
theorem expd_take {w : List UInt8} {L : List Sp} {ps : List (Int × List UInt8)} {j : Nat} {p : Int × List UInt8} (h : ps[j]? = some p) : expd w (ps.take (j + 1)) L = expd w (ps.take j) L ++ exA w L p := by
  simp [expd, List.take_add_one, h]
theorem expd_app {w : List UInt8} {L : List Sp} (a b : List (Int × List UInt8)) : expd w (a ++ b) L = expd w a L ++ expd w b L := by simp [expd]
theorem expd_mono {w : List UInt8} {L : List Sp} {ps : List (Int × List UInt8)} (j : Nat) : (expd w (ps.take j) L).length ≤ (expd w ps L).length := by
  have h := congrArg List.length (expd_app (w := w) (L := L) (ps.take j) (ps.drop j))
  rw [List.take_append_drop, List.length_append] at h
  omega
theorem longS_take {L : List Sp} {ps : List (Int × List UInt8)} {j : Nat} {p : Int × List UInt8} (h : ps[j]? = some p) : longS L (ps.take (j + 1)) = longS L (ps.take j) + pcL L p := by
  simp [longS, List.take_add_one, h]
theorem longS_app {L : List Sp} (a b : List (Int × List UInt8)) : longS L (a ++ b) = longS L a + longS L b := by simp [longS]
theorem longS_mono {L : List Sp} {ps : List (Int × List UInt8)} (j : Nat) : longS L (ps.take j) ≤ longS L ps := by
  have h := longS_app (L := L) (ps.take j) (ps.drop j)
  rw [List.take_append_drop] at h
  omega
def chs (first : Int) (all : Bool) (xs : List (List Sp)) : List (List Sp) := if all = true then xs.drop (first - 1).toNat else (xs.drop (first - 1).toNat).take 1
def hdS (L : List Sp) : Sp := L.getD 0 noS
theorem GoodL.hds {n a p q : Nat} {L : List Sp} (h : GoodL n a L p q) : hdS L = ⟨p, q⟩ := by rw [hdS, List.getD_eq_getElem?_getD, h.hd]; rfl
def doF (w : List UInt8) (ps : List (Int × List UInt8)) : Nat → List (List Sp) → List UInt8
  | a, [] => w.drop a
  | a, L :: r => ((w.drop a).take ((hdS L).fr.toNat - a) ++ expd w ps L) ++ doF w ps (hdS L).to.toNat r
inductive ChG (n : Nat) : Nat → List (List Sp) → Prop
  | nil {a : Nat} : ChG n a []
  | cons {a p q : Nat} {L : List Sp} {xs : List (List Sp)} (hg : GoodL n a L p q) (hr : ChG n q xs) : ChG n a (L :: xs)
theorem ChG.mono {n a b : Nat} {xs : List (List Sp)} (h : ChG n b xs) (hab : a ≤ b) : ChG n a xs := by
  cases h with
  | nil => exact .nil
  | cons hg hr => exact .cons (hg.mono hab) hr
theorem ChL.g {n a : Nat} {last : Int} {xs : List (List Sp)} (h : ChL n a last xs) : ChG n a xs := by
  induction h with
  | nil => exact .nil
  | cons hg _ _ ih => exact .cons hg ih
theorem ChG.drop {n : Nat} : ∀ (k : Nat) {a : Nat} {xs : List (List Sp)}, ChG n a xs → ChG n a (xs.drop k)
  | 0, a, xs, h => h
  | k + 1, a, _, .nil => .nil
  | k + 1, a, _, .cons hg hr => (ChG.drop k hr).mono (Nat.le_trans hg.ge hg.le)
theorem ChG.take {n : Nat} : ∀ (k : Nat) {a : Nat} {xs : List (List Sp)}, ChG n a xs → ChG n a (xs.take k)
  | 0, a, xs, _ => .nil
  | k + 1, a, _, .nil => .nil
  | k + 1, a, _, .cons hg hr => .cons hg (ChG.take k hr)
theorem ChG.chs {n a : Nat} {xs : List (List Sp)} (h : ChG n a xs) (first : Int) (all : Bool) : ChG n a (chs first all xs) := by
  unfold Mc.chs
  split
  · exact h.drop _
  · exact (h.drop _).take _
theorem doF_cons {w : List UInt8} {ps : List (Int × List UInt8)} {a p q : Nat} {L : List Sp} {r : List (List Sp)} (hg : GoodL w.length a L p q) : doF w ps a (L :: r) = ((w.drop a).take (p - a) ++ expd w ps L) ++ doF w ps q r := by
  rw [doF, hg.hds]; simp
end Go.HL.Kl.Mc

/- Part of the proofs over this seat: see the text that holds the theorem. Conditions: each theorem bears its own. -/
namespace Go.Proofs.Ytmpeokbongnniaa
open Go Go.HL Go.Proofs Go.HL.Kl Go.HL.Kl.Mc Go.HL.Kl.Mc.AskE
theorem sp_le {s : Sp} {n : Nat} (h : s = noS ∨ (0 ≤ s.fr ∧ s.fr ≤ s.to ∧ s.to ≤ n)) : -1 ≤ s.fr ∧ s.fr ≤ n ∧ -1 ≤ s.to ∧ s.to ≤ n := by
  rcases h with rfl | h
  · exact ⟨by decide, by simp only [noS]; omega, by decide, by simp only [noS]; omega⟩
  · omega
theorem copySpans_fn (a : Option Addr) (c : Nat) (xs : List Sp) (hn : xs.length ≤ 4294967296) : HL.Fn Try.prog 19 [.slice a xs.length c] (fun w => Rd Esp w (.slice a xs.length c) xs) [] (fun v S' => ∃ a' c', v = .slice a' xs.length c' ∧ OwnS Esp 2 51 (.slice a' xs.length c') xs S') := by
  refine fn_of Try.func19 rfl rfl rfl fun w0 hw => ?_; refine c_seq fun _ hK1 => ?_; refine c_region ?_; refine o_step rfl (s_assign rfl) ?_; refine o_nil ?_; refine x_then (hK1 _ _ ?_); refine c_seq fun _ hK2 => ?_; refine c_region ?_; refine o_step rfl (s_assign rfl) ?_; refine o_nil ?_; refine x_then (hK2 _ _ ?_); refine c_seq fun _ hK3 => ?_; refine c_region ?_; refine o_step rfl (s_move rfl) ?_; refine o_step rfl (s_move rfl) ?_; refine o_app (OwnS.nil : OwnS Esp 2 51 (.slice none 0 0) [] []) (RdK.old0 hw) rfl rfl rfl rfl (by simp; omega) (by simp; omega) rfl pkA fun a6 c6 S6 hS6 => ?_
  rw [List.nil_append] at hS6
  rw [List.nil_append]
  refine o_step rfl (s_assign rfl) ?_; refine o_nil ?_; refine x_then (hK3 _ _ ?_); refine c_ret ?_; refine ?_; refine x_sub (Sub.refl _) (H' := S6) hzB ?_; exact x_ret rfl (.tmp rfl (.nil)) (⟨_, _, rfl, hS6⟩)

theorem copyNodes_fn (a : Option Addr) (c : Nat) (xs : List Nd) (hn : xs.length ≤ 2147483648) : HL.Fn Try.prog 22 [.slice a xs.length c] (fun w => Rd En w (.slice a xs.length c) xs) [] (fun v S' => ∃ a' c', v = .slice a' xs.length c' ∧ OwnS En 9 85 (.slice a' xs.length c') xs S') := by
  refine fn_of Try.func22 rfl rfl rfl fun w0 hw => ?_; refine c_seq fun _ hK1 => ?_; refine c_region ?_; refine o_step rfl (s_assign rfl) ?_; refine o_nil ?_; refine x_then (hK1 _ _ ?_); refine c_seq fun _ hK2 => ?_; refine c_region ?_; refine o_step rfl (s_assign rfl) ?_; refine o_nil ?_; refine x_then (hK2 _ _ ?_); refine c_seq fun _ hK3 => ?_; refine c_region ?_; refine o_step rfl (s_move rfl) ?_; refine o_step rfl (s_move rfl) ?_; refine o_app (OwnS.nil : OwnS En 9 85 (.slice none 0 0) [] []) (RdK.old0 hw) rfl rfl rfl rfl (by simp; omega) (by simp; omega) rfl pkA fun a6 c6 S6 hS6 => ?_
  rw [List.nil_append] at hS6
  rw [List.nil_append]
  refine o_step rfl (s_assign rfl) ?_; refine o_nil ?_; refine x_then (hK3 _ _ ?_); refine c_ret ?_; refine ?_; refine x_sub (Sub.refl _) (H' := S6) hzB ?_; exact x_ret rfl (.tmp rfl (.nil)) (⟨_, _, rfl, hS6⟩)

theorem copyPieceO_fn (p : Pc) : HL.Fn Try.prog 29 [.agg (Epc p).toArray] (fun w => Rd Eb w p.t.v p.t.xs) [] (fun v S' => ∃ S2, HSub S' S2 ∧ ∃ q : Pc, v = .agg (Epc q).toArray ∧ q.abs = p.abs ∧ OwnS Eb 1 5 q.t.v q.t.xs S2) := by
  refine fn_of Try.func29 rfl rfl rfl fun w0 hw => ?_; refine c_seq fun _ hK1 => ?_; refine c_region ?_; refine o_box rfl rfl rfl fun b1 => ?_; refine o_alloc (l := Epc ⟨0, ⟨none, 0, []⟩⟩) rfl rfl fun b2 => ?_; refine o_nil ?_; refine x_then (hK1 _ _ ?_); refine c_seq fun _ hK2 => ?_; refine c_drawE ([(b1, .cells (Epc p).toArray 36 (0, 0))]) (fun i => Nat.beq i 6) ?_; refine e_tk 0 rfl hzB (s_field rfl rfl (by decide)) ?_; refine e_tk 1 rfl hzB (s_ld rfl (.own meA rfl)) ?_; refine e_tk 2 rfl hzB (s_field rfl rfl (by decide)) ?_; refine e_tk 3 rfl hzB (s_ld rfl (.own meA rfl)) ?_; refine e_one 4 rfl (by kernel_rfl) ?_; refine o_call (copy_fn p.t.a p.t.c p.t.xs) rfl rfl rfl (by exact .nil) (fun _ st => (RdK.old0 hw).out _ st) (fun v7 S7 ⟨a7, c7, hv7, hS7⟩ => ?_); subst hv7
  refine o_nil ?_; refine x_oneS hzB ?_; refine e_one 5 rfl (by kernel_rfl) ?_; refine o_step rfl (s_build (cs := [_, _]) (vs := [_, _]) rfl rfl (.cons rfl rfl rfl rfl rfl (.cons rfl rfl rfl rfl rfl (.nil)))) ?_; refine o_nil ?_; refine x_oneS hzB ?_; refine e_one 6 rfl (by kernel_rfl) ?_; refine o_stW rfl rfl upA lnA lnA onA ?_; refine o_nil ?_; refine x_oneL rfl ?_; refine e_done (by kernel_rfl) ?_; refine x_then (hK2 _ _ ?_); refine c_ret ?_; refine ?_; exact x_ret rfl (.agg inferInstance inferInstance rfl (RdPK.cels (.own meA)) lnA (.nil)) (⟨S7, hzB, ⟨p.g, ⟨a7, c7, p.t.xs⟩⟩, rfl, rfl, hS7⟩)

theorem copyPiece_fn (p : Pc) : HL.Fn Try.prog 29 [.agg (Epc p).toArray] (fun w => Rd Eb w p.t.v p.t.xs) [] (fun v S' => ∃ q : Pc, v = .agg (Epc q).toArray ∧ q.abs = p.abs ∧ OwnS Eb 1 5 q.t.v q.t.xs S') :=
  Fn.sub (copyPieceO_fn p) fun v S' ⟨S2, h1, h2⟩ => ⟨S2, h1, h2⟩

theorem copyPieces_fn (a : Option Addr) (c : Nat) (ps : List Pc) (hn : ps.length ≤ 2147483648) : HL.Fn Try.prog 15 [.slice a ps.length c] (fun w => Rd Epc w (.slice a ps.length c) ps ∧ ∀ p ∈ ps, Rd Eb w p.t.v p.t.xs) [] (fun v S' => ∃ a' c' qs Sh Sc, v = .slice a' qs.length c' ∧ S' = Sh ++ Sc ∧ OwnS Epc 2 36 (.slice a' qs.length c') qs Sh ∧ qs.map Pc.abs = ps.map Pc.abs ∧ ∀ q ∈ qs, RdS Eb q.t.v q.t.xs Sc) := by
  refine fn_of Try.func15 rfl rfl rfl fun w0 hw => ?_
  obtain ⟨h1, h2⟩ := hw
  have hs1 := h1.sl
  refine c_seq fun _ hK1 => ?_; refine c_region ?_; refine o_step rfl (s_assign rfl) ?_; refine o_nil ?_; refine x_then (hK1 _ _ ?_); refine c_seq fun _ hK2 => ?_; refine c_region ?_; refine o_step rfl (s_assign rfl) ?_; refine o_nil ?_; refine x_then (hK2 _ _ ?_); refine c_seq fun _ hK3 => ?_; refine c_seq fun _ hK4 => ?_; refine c_region ?_; refine o_step rfl (s_assign rfl) ?_; refine o_nil ?_; refine x_then (hK4 _ _ ?_); refine c_block ?_; refine c_loop6 (fun (j : Nat) (a2 : Option Addr) (c2 : Nat) (qs : List Pc) (Sh : Hp) (Sc : Hp) => j ≤ ps.length ∧ qs.length = j ∧ qs.map Pc.abs = (ps.take j).map Pc.abs ∧ OwnS Epc 2 36 (.slice a2 qs.length c2) qs Sh ∧ ∀ q ∈ qs, RdS Eb q.t.v q.t.xs Sc) (fun (j : Nat) (a2 : Option Addr) (c2 : Nat) (qs : List Pc) (Sh : Hp) (Sc : Hp) => [(3, .slice a2 qs.length c2), (4, .int .i64 j)]) [(0, _), (2, _)] (fun (j : Nat) (a2 : Option Addr) (c2 : Nat) (qs : List Pc) (Sh : Hp) (Sc : Hp) => Sh ++ Sc) (fun (j : Nat) (a2 : Option Addr) (c2 : Nat) (qs : List Pc) (Sh : Hp) (Sc : Hp) => ps.length - j) 0 none 0 [] [] [] ⟨Nat.zero_le _, rfl, by simp, .nil, by simp⟩ sbA sbA (by exact HSub.nil) ?_
  rintro j a2 c2 qs Sh Sc ⟨hj, hql, hqa, hO, hR⟩
  refine c_seq fun _ hK5 => ?_; refine c_seq fun _ hK6 => ?_; refine c_region ?_; refine o_step rfl (s_move rfl) ?_; refine o_step rfl (s_move rfl) ?_; refine o_step rfl (s_len rfl) ?_; refine o_step rfl (s_lss rfl rfl) ?_; refine o_nil ?_; refine x_then (hK6 _ _ ?_); refine c_if rfl (fun hlt => ?_) (fun hlt => ?_)
  ·
   obtain ⟨p, hp⟩ : ∃ p, ps[j]? = some p := ⟨_, List.getElem?_eq_getElem (by omega)⟩
   have hpm := List.mem_of_getElem? hp
   refine c_skip ?_; refine x_then (hK5 _ _ ?_); refine c_seq fun _ hK7 => ?_; refine c_block ?_; refine c_region ?_; refine o_step rfl (s_move rfl) ?_; refine o_step rfl (s_move rfl) ?_; refine o_step rfl (s_move rfl) ?_; refine o_step rfl (s_idx rfl rfl (by assumption) (by omega)) ?_; refine o_step rfl (s_ldB rfl ((RdK.old0 h1).lds j hp rfl) (by rfl)) ?_; refine o_call (copyPiece_fn p) rfl rfl rfl (by exact .nil) (fun _ st => (RdK.old0 (h2 p hpm)).out _ st) (fun v16 S16 ⟨q, hv16, hqb, hOq⟩ => ?_); subst hv16
   refine o_bs (E := Epc) (xs := [q]) (vs := [_]) rfl rfl rfl rfl rfl (by decide) (by decide) fun b17 S17 hS17 => ?_; refine o_app hO (hS17.rdk hiA) rfl rfl rfl rfl (by simp only [List.length_singleton]; omega) (by simp only [List.length_singleton]; omega) rfl pkA fun a18 c18 S18 hS18 => ?_; refine o_step rfl (s_assign rfl) ?_; refine o_nil ?_; refine x_block ?_; refine x_then (hK7 _ _ ?_); refine c_region ?_; refine o_step rfl (s_move rfl) ?_; refine o_step rfl (s_add rfl rfl (by omega)) ?_; refine o_step rfl (s_assign rfl) ?_; refine o_nil ?_; exact x_then (x_inv (j + 1, a18, c18, qs ++ [q], S18, S16 ++ Sc) ⟨by dsimp only; omega, by simp [hql], by rw [List.map_append, hqa, List.take_add_one, hp, List.map_append]; simp [hqb], hS18, fun x hx => by rcases List.mem_append.1 hx with hx | hx; exact (hR x hx).mono HIn.appR; rw [List.mem_singleton.1 hx]; exact hOq.rds.mono HIn.appL⟩ (by first | omega | (dsimp only; omega)) sbA hzB)
  ·
   obtain rfl : j = ps.length := by omega
   rw [List.take_length] at hqa
   refine c_exit ?_; refine x_then_exit ?_; refine x_then_exit ?_; refine x_block_exit ?_; refine x_then (hK3 _ _ ?_); refine c_seq fun _ hK8 => ?_; refine c_region ?_; refine o_step rfl (s_move rfl) ?_; refine o_step rfl (s_assign rfl) ?_; refine o_nil ?_; refine x_then (hK8 _ _ ?_); refine c_ret ?_; refine ?_; exact x_ret rfl (.tmp rfl (.nil)) (⟨_, _, qs, Sh, Sc, rfl, rfl, hO, hqa, hR⟩)

set_option maxHeartbeats 1000000 in
theorem fLong_fn (a : Option Addr) (c : Nat) (ps : List Pc) (la : Option Addr) (lc : Nat) (L : List Sp) (n : Nat) (hn : n ≤ 1000000) (hL : ∀ s ∈ L, s = noS ∨ (0 ≤ s.fr ∧ s.fr ≤ s.to ∧ s.to ≤ n)) (hps : ∀ p ∈ ps, p.t.xs.length ≤ 140737488355328) : HL.Fn Try.prog 28 [.slice a ps.length c, .slice la L.length lc] (fun w => Rd Epc w (.slice a ps.length c) ps ∧ Rd Esp w (.slice la L.length lc) L) [] (fun v _ => v = .int .i64 ((min (longS L (ps.map Pc.abs)) 1099511627776 : Nat) : Int)) := by
  refine fn_of Try.func28 rfl rfl rfl fun w0 hw => ?_
  obtain ⟨h1, h2⟩ := hw
  have hs1 := h1.sl
  have hs2 := h2.sl
  have hb1 := hs1.le
  refine c_seq fun _ hK1 => ?_; refine c_region ?_; refine o_step rfl (s_assign rfl) ?_; refine o_nil ?_; refine x_then (hK1 _ _ ?_); refine c_seq fun _ hK2 => ?_; refine c_region ?_; refine o_step rfl (s_assign rfl) ?_; refine o_nil ?_; refine x_then (hK2 _ _ ?_); refine c_seq fun _ hK3 => ?_; refine c_seq fun _ hK4 => ?_; refine c_region ?_; refine o_step rfl (s_move rfl) ?_; refine o_step rfl (s_len rfl) ?_; refine o_step rfl (s_move rfl) ?_; refine o_nil ?_; refine x_then (hK4 _ _ ?_); refine c_block ?_
  -- not carried: 4
  refine c_loop2 (fun (j : Nat) (N : Nat) => j ≤ ps.length ∧ N = longS L ((ps.map Pc.abs).take j) ∧ N ≤ 1099511627776) (fun (j : Nat) (N : Nat) => [(12, .int .i64 j), (5, .int .i64 N)]) [(1, _), (10, _), (11, _)] (fun (j : Nat) (N : Nat) => []) (fun (j : Nat) (N : Nat) => ps.length - j) 0 0 ⟨Nat.zero_le _, rfl, by omega⟩ sbA sbA (by exact HSub.nil) ?_
  rintro j N ⟨hj, hN, hN2⟩
  refine c_seq fun _ hK5 => ?_; refine c_region ?_; refine o_step rfl (s_lss rfl rfl) ?_; refine o_nil ?_; refine x_then (hK5 _ _ ?_); refine c_seq fun _ hK6 => ?_; refine c_if rfl (fun hlt => ?_) (fun hlt => ?_)
  ·
   obtain ⟨p, hp⟩ : ∃ p, ps[j]? = some p := ⟨_, List.getElem?_eq_getElem (by omega)⟩
   have hpm := List.mem_of_getElem? hp
   have hpl := hps p hpm
   have hpa : (ps.map Pc.abs)[j]? = some p.abs := by rw [List.getElem?_map, hp]; rfl
   have hpa1 : p.abs.1 = p.g := rfl
   have hpa2 : p.abs.2 = p.t.xs := rfl
   refine c_skip ?_; refine x_then (hK6 _ _ ?_); refine c_seq fun _ hK7 => ?_; refine c_block ?_; refine c_seq fun _ hK8 => ?_; refine c_region ?_; refine o_step rfl (s_idx rfl rfl hs1 (by omega)) ?_; refine o_step rfl (s_ldB rfl ((RdK.old0 h1).lds j hp rfl) (by rfl)) ?_; refine o_alloc (l := Epc ⟨0, ⟨none, 0, []⟩⟩) rfl rfl fun b7 => ?_; refine o_stW rfl rfl upA lnA lnA onA ?_; refine o_nil ?_; refine x_then (hK8 _ _ ?_); refine c_seq fun _ hK9 => ?_; refine c_region ?_; refine o_step rfl (s_assign rfl) ?_; refine o_nil ?_; refine x_then (hK9 _ _ ?_); refine c_seqJ (ι := Nat) (fun k => pcL L p.abs = k ∧ k ≤ 140737488355328) (fun k => [(8, .int .i64 k)]) [(1, _), (5, _), (7, _), (10, _), (11, _), (12, _), (13, _), (14, _), (15, _)] (fun k => []) sbA ?_ ?_
   ·
    rintro k ⟨hk, hk2⟩
    refine c_seq fun _ hK11 => ?_; refine c_seq fun _ hK12 => ?_; refine c_region ?_; refine o_step rfl (s_move rfl) ?_; refine o_step rfl (s_move rfl) ?_; refine o_step rfl (s_sub rfl rfl (by omega)) ?_; refine o_step rfl (s_gtr rfl rfl) ?_; refine o_nil ?_; refine x_then (hK12 _ _ ?_); refine c_if rfl (fun hbig => ?_) (fun hbig => ?_)
    ·
     have hmo := longS_mono (L := L) (ps := ps.map Pc.abs) (j + 1)
     rw [longS_take hpa, ← hN, hk] at hmo
     refine c_seq fun _ hK13 => ?_; refine c_region ?_; refine o_step rfl (s_assign rfl) ?_; refine o_nil ?_; refine x_then (hK13 _ _ ?_); refine c_ret ?_; refine x_then_ret (x_block_ret (x_then_ret (x_then_ret (x_block_ret (x_then_ret (?_))))))
     exact x_ret rfl (.tmp rfl (.nil)) (by rw [Nat.min_eq_right (by omega)]; rfl)
    ·
     refine c_skip ?_; refine x_then (hK11 _ _ ?_); refine c_region ?_; refine o_step rfl (s_move rfl) ?_; refine o_step rfl (s_move rfl) ?_; refine o_step rfl (s_add rfl rfl (by omega)) ?_; refine o_step rfl (s_assign rfl) ?_; refine o_nil ?_; refine x_block ?_; refine x_then (hK7 _ _ ?_); refine c_region ?_; refine o_step rfl (s_add rfl rfl (by omega)) ?_; refine o_step rfl (s_move rfl) ?_; refine o_nil ?_; exact x_then (x_inv (j + 1, N + k) ⟨by dsimp only; omega, by rw [longS_take hpa, ← hN, hk], by dsimp only; omega⟩ (by first | omega | (dsimp only; omega)) sbA (by exact HSub.nil))
   ·
    intro _ hJ10
    refine c_seq fun _ hK14 => ?_; refine c_region ?_; refine o_step rfl (s_field rfl rfl (by decide)) ?_; refine o_step rfl (s_ld rfl (.own meA rfl)) ?_; refine o_step rfl (s_eql rfl rfl) ?_; refine o_nil ?_; refine x_then (hK14 _ _ ?_); refine c_if rfl (fun hg1 => ?_) (fun hg1 => ?_)
    ·
     refine c_region ?_; refine o_step rfl (s_field rfl rfl (by decide)) ?_; refine o_step rfl (s_ld rfl (.own meA rfl)) ?_; refine o_step rfl (s_len rfl) ?_; refine o_step rfl (s_assign rfl) ?_; refine o_nil ?_; exact x_then (hJ10 p.t.xs.length _ _ ⟨by rw [pcL, if_pos (by omega)]; rfl, by omega⟩ sbA sbA hzB)
    ·
     refine c_seq fun _ hK15 => ?_; refine c_region ?_; refine o_step rfl (s_field rfl rfl (by decide)) ?_; refine o_step rfl (s_ld rfl (.own meA rfl)) ?_
     by_cases hg0 : 0 ≤ p.g
     ·
      refine o_step rfl (step_cast (v' := .bool true) (s_geq rfl rfl) (by rw [decide_eq_true (by omega)])) ?_; refine o_step rfl (s_move rfl) ?_; refine o_yes rfl rfl ?_; refine o_step rfl (s_field rfl rfl (by decide)) ?_; refine o_yes rfl rfl ?_; refine o_step rfl (s_ld rfl (.own meA rfl)) ?_; refine o_yes rfl rfl ?_; refine o_step rfl (s_move rfl) ?_; refine o_yes rfl rfl ?_; refine o_step rfl (s_len rfl) ?_; refine o_yes rfl rfl ?_
      by_cases hgl : p.g < L.length
      ·
       obtain ⟨s, hs⟩ : ∃ s, L[p.g.toNat]? = some s := ⟨_, List.getElem?_eq_getElem (by omega)⟩
       have hso := hL s (List.mem_of_getElem? hs)
       have hsl := sp_le hso
       have hsd : L.getD p.g.toNat noS = s := by rw [List.getD_eq_getElem?_getD, hs]; rfl
       refine o_step rfl (step_cast (v' := .bool true) (s_lss rfl rfl) (by rw [decide_eq_true (by omega)])) ?_; refine o_step rfl (s_pick_t rfl rfl) ?_; refine o_nil ?_; refine x_then (hK15 _ _ ?_); refine c_true rfl ?_; refine c_seq fun _ hK16 => ?_; refine c_region ?_; refine o_step rfl (s_move rfl) ?_; refine o_step rfl (s_field rfl rfl (by decide)) ?_; refine o_step rfl (s_ld rfl (.own meA rfl)) ?_; refine o_step rfl (s_idx rfl rfl hs2 (by omega)) ?_; refine o_step rfl (s_ldB rfl ((RdK.old0 h2).lds p.g.toNat hs (by omega)) (by rfl)) ?_; refine o_alloc (l := Esp ⟨0, 0⟩) rfl rfl fun b9 => ?_; refine o_stW rfl rfl upA lnA lnA onA ?_; refine o_nil ?_; refine x_then (hK16 _ _ ?_); refine c_seq fun _ hK17 => ?_; refine c_region ?_; refine o_step rfl (s_field rfl rfl (by decide)) ?_; refine o_step rfl (s_ld rfl (.own meA rfl)) ?_
       by_cases hf0 : 0 ≤ s.fr
       ·
        refine o_step rfl (step_cast (v' := .bool true) (s_geq rfl rfl) (by rw [decide_eq_true (by omega)])) ?_; refine o_step rfl (s_move rfl) ?_; refine o_yes rfl rfl ?_; refine o_step rfl (s_field rfl rfl (by decide)) ?_; refine o_yes rfl rfl ?_; refine o_step rfl (s_ld rfl (.own meA rfl)) ?_; refine o_yes rfl rfl ?_; refine o_step rfl (s_field rfl rfl (by decide)) ?_; refine o_yes rfl rfl ?_; refine o_step rfl (s_ld rfl (.own meA rfl)) ?_; refine o_yes rfl rfl ?_
        by_cases hft : s.fr ≤ s.to
        ·
         refine o_step rfl (step_cast (v' := .bool true) (s_leq rfl rfl) (by rw [decide_eq_true (by omega)])) ?_; refine o_step rfl (s_pick_t rfl rfl) ?_; refine o_nil ?_; refine x_then (hK17 _ _ ?_); refine c_true rfl ?_; refine c_region ?_; refine o_step rfl (s_field rfl rfl (by decide)) ?_; refine o_step rfl (s_ld rfl (.own meA rfl)) ?_; refine o_step rfl (s_field rfl rfl (by decide)) ?_; refine o_step rfl (s_ld rfl (.own meA rfl)) ?_; refine o_step rfl (step_cast (v' := .int .i64 ((s.to - s.fr).toNat : Nat)) (s_sub rfl rfl (by omega)) (congrArg _ (by omega))) ?_; refine o_step rfl (s_assign rfl) ?_; refine o_nil ?_; exact x_then (hJ10 (s.to - s.fr).toNat _ _ ⟨by rw [pcL, if_neg (by omega), if_neg (by omega), hpa1, hsd, if_pos ⟨hf0, hft⟩], by omega⟩ sbA sbA hzB)
        ·
         refine o_step rfl (step_cast (v' := .bool false) (s_leq rfl rfl) (by rw [decide_eq_false (by omega)])) ?_; refine o_step rfl (s_pick_t rfl rfl) ?_; refine o_nil ?_; refine x_then (hK17 _ _ ?_); refine c_false rfl ?_; refine c_skip ?_; exact x_then (hJ10 0 _ _ ⟨by rw [pcL, if_neg (by omega), if_neg (by omega), hpa1, hsd, if_neg (by omega)], by omega⟩ sbA sbA hzB)
       ·
        refine o_step rfl (step_cast (v' := .bool false) (s_geq rfl rfl) (by rw [decide_eq_false (by omega)])) ?_; refine o_step rfl (s_move rfl) ?_; refine o_no rfl rfl rfl rfl ?_; refine o_no rfl rfl rfl rfl ?_; refine o_no rfl rfl rfl rfl ?_; refine o_no rfl rfl rfl rfl ?_; refine o_no rfl rfl rfl rfl ?_; refine o_step rfl (s_pick_f rfl rfl) ?_; refine o_nil ?_; refine x_then (hK17 _ _ ?_); refine c_false rfl ?_; refine c_skip ?_; exact x_then (hJ10 0 _ _ ⟨by rw [pcL, if_neg (by omega), if_neg (by omega), hpa1, hsd, if_neg (by omega)], by omega⟩ sbA sbA hzB)
      ·
       refine o_step rfl (step_cast (v' := .bool false) (s_lss rfl rfl) (by rw [decide_eq_false (by omega)])) ?_; refine o_step rfl (s_pick_t rfl rfl) ?_; refine o_nil ?_; refine x_then (hK15 _ _ ?_); refine c_false rfl ?_; refine c_skip ?_; exact x_then (hJ10 0 _ _ ⟨by rw [pcL, if_neg (by omega), if_pos (by omega)], by omega⟩ sbA sbA hzB)
     ·
      refine o_step rfl (step_cast (v' := .bool false) (s_geq rfl rfl) (by rw [decide_eq_false (by omega)])) ?_; refine o_step rfl (s_move rfl) ?_; refine o_no rfl rfl rfl rfl ?_; refine o_no rfl rfl rfl rfl ?_; refine o_no rfl rfl rfl rfl ?_; refine o_no rfl rfl rfl rfl ?_; refine o_no rfl rfl rfl rfl ?_; refine o_step rfl (s_pick_f rfl rfl) ?_; refine o_nil ?_; refine x_then (hK15 _ _ ?_); refine c_false rfl ?_; refine c_skip ?_; exact x_then (hJ10 0 _ _ ⟨by rw [pcL, if_neg (by omega), if_pos (by omega)], by omega⟩ sbA sbA hzB)
  ·
   obtain rfl : j = (ps.map Pc.abs).length := by rw [List.length_map]; omega
   rw [List.take_length] at hN
   refine c_exit ?_; refine x_then_exit ?_; refine x_then_exit ?_; refine x_block_exit ?_; refine x_then (hK3 _ _ ?_); refine c_seq fun _ hK18 => ?_; refine c_region ?_; refine o_step rfl (s_move rfl) ?_; refine o_step rfl (s_assign rfl) ?_; refine o_nil ?_; refine x_then (hK18 _ _ ?_); refine c_ret ?_; refine ?_; exact x_ret rfl (.tmp rfl (.nil)) (by rw [← hN, Nat.min_eq_left (by omega)]; rfl)
end Go.Proofs.Ytmpeokbongnniaa

/- Part of the proofs over this seat: see the text that holds the theorem. Conditions: each theorem bears its own. -/
namespace Go.Proofs.Ytmpeokbongnniaa
open Go Go.HL Go.Proofs Go.HL.Kl Go.HL.Kl.Mc Go.HL.Kl.Mc.AskE
theorem eqSpans_fn (a a2 : Option Addr) (c c2 : Nat) (xs ys : List Sp) : HL.Fn Try.prog 32 [.slice a xs.length c, .slice a2 ys.length c2] (fun w => Rd Esp w (.slice a xs.length c) xs ∧ Rd Esp w (.slice a2 ys.length c2) ys) [] (fun v _ => v = .bool (decide (xs = ys))) := by
  refine fn_of Try.func32 rfl rfl rfl fun w0 hw => ?_
  obtain ⟨hx, hy⟩ := hw
  have hsx := hx.sl
  have hsy := hy.sl
  have hbx := hsx.le
  have hby := hsy.le
  refine c_seq fun _ hK1 => ?_; refine c_region ?_; refine o_step rfl (s_assign rfl) ?_; refine o_nil ?_; refine x_then (hK1 _ _ ?_); refine c_seq fun _ hK2 => ?_; refine c_seq fun _ hK3 => ?_; refine c_region ?_; refine o_step rfl (s_move rfl) ?_; refine o_step rfl (s_len rfl) ?_; refine o_step rfl (s_move rfl) ?_; refine o_step rfl (s_len rfl) ?_; refine o_step rfl (s_neq rfl rfl) ?_; refine o_nil ?_; refine x_then (hK3 _ _ ?_); refine c_if rfl (fun hl => ?_) (fun hl => ?_)
  ·
   refine c_seq fun _ hK4 => ?_; refine c_region ?_; refine o_step rfl (s_assign rfl) ?_; refine o_nil ?_; refine x_then (hK4 _ _ ?_); refine c_ret ?_; refine x_then_ret (?_); exact x_ret rfl (.tmp rfl (.nil)) ((congrArg Value.bool (decide_eq_false (by intro e; subst e; omega)).symm))
  ·
   refine c_skip ?_; refine x_then (hK2 _ _ ?_); refine c_seq fun _ hK5 => ?_; refine c_seq fun _ hK6 => ?_; refine c_region ?_; refine o_step rfl (s_assign rfl) ?_; refine o_nil ?_; refine x_then (hK6 _ _ ?_); refine c_block ?_
   -- not carried: 4
   refine c_loopB (fun (j : Nat) => j ≤ xs.length ∧ ∀ i, i < j → xs[i]? = ys[i]?) (fun (j : Nat) => [(5, .int .i64 j)]) [(0, _), (1, _)] (fun (j : Nat) => _) (fun (j : Nat) => xs.length - j) 0 ⟨by omega, fun i hi => by omega⟩ sbA sbA hzB ?_
   rintro j ⟨hj, hjt⟩
   refine c_seq fun _ hK7 => ?_; refine c_seq fun _ hK8 => ?_; refine c_region ?_; refine o_step rfl (s_move rfl) ?_; refine o_step rfl (s_move rfl) ?_; refine o_step rfl (s_len rfl) ?_; refine o_step rfl (s_lss rfl rfl) ?_; refine o_nil ?_; refine x_then (hK8 _ _ ?_); refine c_if rfl (fun hlt => ?_) (fun hlt => ?_)
   ·
    obtain ⟨x, hxj⟩ : ∃ x, xs[j]? = some x := ⟨_, List.getElem?_eq_getElem (by omega)⟩
    obtain ⟨y, hyj⟩ : ∃ y, ys[j]? = some y := ⟨_, List.getElem?_eq_getElem (by omega)⟩
    refine c_skip ?_; refine x_then (hK7 _ _ ?_); refine c_seq fun _ hK9 => ?_; refine c_block ?_; refine c_seq fun _ hK10 => ?_; refine c_drawE ([]) (fun i => false) ?_; refine e_tk 0 rfl (by exact HSub.nil) (s_move rfl) ?_; refine e_tk 1 rfl (by exact HSub.nil) (s_move rfl) ?_; refine e_tk 2 rfl (by exact HSub.nil) (s_idx rfl rfl hsx (by omega)) ?_; refine e_tk 3 rfl (by exact HSub.nil) (s_ldB rfl ((RdK.old0 hx).lds j hxj (by omega)) (by rfl)) ?_; refine e_tk 4 rfl (by exact HSub.nil) (s_move rfl) ?_; refine e_tk 5 rfl (by exact HSub.nil) (s_move rfl) ?_; refine e_tk 6 rfl (by exact HSub.nil) (s_idx rfl rfl hsy (by omega)) ?_; refine e_tk 7 rfl (by exact HSub.nil) (s_ldB rfl ((RdK.old0 hy).lds j hyj (by omega)) (by rfl)) ?_; refine e_tk 8 rfl (by exact HSub.nil) (s_neq_sp rfl rfl) ?_; refine e_done (by kernel_rfl) ?_; refine x_then (hK10 _ _ ?_); refine c_ifn rfl (fun hne => ?_) (fun hne => ?_)
    ·
     refine c_seq fun _ hK11 => ?_; refine c_region ?_; refine o_step rfl (s_assign rfl) ?_; refine o_nil ?_; refine x_then (hK11 _ _ ?_); refine c_ret ?_; refine x_block_ret (x_then_ret (x_then_ret (x_block_ret (x_then_ret (?_)))))
     exact x_ret rfl (.tmp rfl (.nil)) ((congrArg Value.bool (decide_eq_false (by intro e; subst e; rw [hxj] at hyj; cases hyj; exact hne rfl)).symm))
    ·
     refine c_skip ?_; refine x_block ?_; refine x_then (hK9 _ _ ?_); refine c_region ?_; refine o_step rfl (s_move rfl) ?_; refine o_step rfl (s_add rfl rfl (by omega)) ?_; refine o_step rfl (s_assign rfl) ?_; refine o_nil ?_; exact x_then (x_inv (j + 1) ⟨by omega, fun i hi => by rcases Nat.lt_or_ge i j with h | h; exact hjt i h; rw [show i = j by omega, hxj, hyj, hne]⟩ (by first | omega | (dsimp only; omega)) sbA hzB)
   ·
    refine c_exit ?_; refine x_then_exit ?_; refine x_then_exit ?_; refine x_block_exit ?_; refine x_then (hK5 _ _ ?_); refine c_seq fun _ hK12 => ?_; refine c_region ?_; refine o_step rfl (s_assign rfl) ?_; refine o_nil ?_; refine x_then (hK12 _ _ ?_); refine c_ret ?_; refine ?_; exact x_ret rfl (.tmp rfl (.nil)) ((congrArg Value.bool (decide_eq_true (ext_upto (by omega) fun i hi => hjt i (by omega))).symm))

end Go.Proofs.Ytmpeokbongnniaa

/- Part of the proofs over this seat: see the text that holds the theorem. Conditions: each theorem bears its own. -/
namespace Go.Proofs.Ytmpeokbongnniaa
open Go Go.HL Go.Proofs Go.HL.Kl Go.HL.Kl.Mc
end Go.Proofs.Ytmpeokbongnniaa

/- Part of the proofs over this seat: see the text that holds the theorem. Conditions: each theorem bears its own. -/
namespace Go.Proofs.Ytmpeokbongnniaa
open Go Go.HL Go.Proofs Go.HL.Kl Go.HL.Kl.Mc
end Go.Proofs.Ytmpeokbongnniaa

/- Part of the proofs over this seat: see the text that holds the theorem. Conditions: each theorem bears its own. -/
namespace Go.Proofs.Ytmpeokbongnniaa
open Go Go.HL Go.Proofs Go.HL.Kl Go.HL.Kl.Mc
end Go.Proofs.Ytmpeokbongnniaa

/- Part of the proofs over this seat: see the text that holds the theorem. Conditions: each theorem bears its own. -/
namespace Go.Proofs.Ytmpeokbongnniaa
open Go Go.HL Go.Proofs Go.HL.Kl Go.HL.Kl.Mc
end Go.Proofs.Ytmpeokbongnniaa

/- Part of the proofs over this seat: see the text that holds the theorem. Conditions: each theorem bears its own. -/
namespace Go.Proofs.Ytmpeokbongnniaa
open Go Go.HL Go.Proofs Go.HL.Kl Go.HL.Kl.Mc
theorem rWeight_fn (ra : Option Addr) (rc : Nat) (re : List Nd) (hre : ∀ x ∈ re, -128 ≤ x.op ∧ x.op < 128) : HL.Fn Try.prog 38 [.slice ra re.length rc] (fun w => Rd En w (.slice ra re.length rc) re) [] (fun v _ => ∃ n : Nat, n ≤ 16385 ∧ v = .int .i64 n) := by
  refine fn_of Try.func38 rfl rfl rfl fun w0 hw => ?_; refine c_seq fun _ hK1 => ?_; refine c_region ?_; refine o_step rfl (s_assign rfl) ?_; refine o_nil ?_; refine x_then (hK1 _ _ ?_); refine c_seq fun _ hK2 => ?_; refine c_seq fun _ hK3 => ?_; refine c_region ?_; refine o_step rfl (s_move rfl) ?_; refine o_callP (rShaped_fn ra rc re hre) rfl rfl rfl (fun w st => (RdK.old0 hw).out w st) (fun v6 hv6 => ?_); subst hv6
  cases hsb : shapedB re
  ·
   refine o_step rfl (s_not rfl) ?_; refine o_nil ?_; refine x_then (hK3 _ _ ?_); refine c_true rfl ?_; refine c_seq fun _ hK4 => ?_; refine c_region ?_; refine o_step rfl (s_assign rfl) ?_; refine o_nil ?_; refine x_then (hK4 _ _ ?_); refine c_ret ?_; refine x_then_ret (?_); exact x_ret rfl (.tmp rfl (.nil)) (⟨0, by omega, rfl⟩)
  ·
   obtain ⟨_, x, ks, hs⟩ := shapedB_iff.1 hsb
   refine o_step rfl (s_not rfl) ?_; refine o_nil ?_; refine x_then (hK3 _ _ ?_); refine c_false rfl ?_; refine c_skip ?_; refine x_then (hK2 _ _ ?_); refine c_seq fun _ hK5 => ?_; refine c_region ?_; refine o_step rfl (s_move rfl) ?_; refine o_callP (rWeigh_fn (ks.size + 1) x ks (by omega) ra rc re 0 _ hre hs.part) rfl rfl rfl (fun w st => (RdK.old0 hw).out w st) (fun v10 hv10 => ?_); subst hv10
   refine o_step rfl (s_move rfl) ?_; refine o_step rfl (s_extract rfl rfl) ?_; refine o_step rfl (s_extract rfl rfl) ?_; refine o_step rfl (s_assign rfl) ?_; refine o_step rfl (s_assign rfl) ?_; refine o_nil ?_; refine x_then (hK5 _ _ ?_); refine c_seq fun _ hK6 => ?_; refine c_region ?_; refine o_step rfl (s_move rfl) ?_; refine o_step rfl (s_assign rfl) ?_; refine o_nil ?_; refine x_then (hK6 _ _ ?_); refine c_ret ?_; refine ?_; exact x_ret rfl (.tmp rfl (.nil)) (⟨_, cut_le _, rfl⟩)

set_option maxHeartbeats 1000000 in
theorem beyond_fn (ra : Option Addr) (rc : Nat) (re : List Nd) (hre : ∀ x ∈ re, -128 ≤ x.op ∧ x.op < 128) : HL.Fn Try.prog 20 [.slice ra re.length rc] (fun w => Rd En w (.slice ra re.length rc) re) [] (fun v _ => ∃ b, v = .bool b) := by
  refine fn_of Try.func20 rfl rfl rfl fun w0 hw => ?_
  have hsl := hw.sl
  have hbl := hsl.le
  refine c_seq fun _ hK1 => ?_; refine c_region ?_; refine o_step rfl (s_assign rfl) ?_; refine o_nil ?_; refine x_then (hK1 _ _ ?_); refine c_seq fun _ hK2 => ?_; refine c_region ?_; refine o_step rfl (s_assign rfl) ?_; refine o_nil ?_; refine x_then (hK2 _ _ ?_); refine c_seq fun _ hK3 => ?_; refine c_seq fun _ hK4 => ?_; refine c_region ?_; refine o_step rfl (s_assign rfl) ?_; refine o_nil ?_; refine x_then (hK4 _ _ ?_); refine c_block ?_
  -- not carried: 2
  refine c_loop3 (fun (j : Nat) (q : Sl Int) (S : Hp) => j ≤ re.length ∧ q.xs.length ≤ 65536 ∧ OwnS Ei 1 3 (.slice q.a q.xs.length q.c) q.xs S) (fun (j : Nat) (q : Sl Int) (S : Hp) => [(4, .int .i64 j), (3, .slice q.a q.xs.length q.c)]) [(0, _)] (fun (j : Nat) (q : Sl Int) (S : Hp) => S) (fun (j : Nat) (q : Sl Int) (S : Hp) => re.length - j) 0 ⟨none, 0, []⟩ [] ⟨by omega, by simp, .nil⟩ sbA sbA hzB ?_
  rintro j q0 S0 ⟨hj, hq0, hO0⟩
  refine c_seq fun _ hK5 => ?_; refine c_seq fun _ hK6 => ?_; refine c_region ?_; refine o_step rfl (s_move rfl) ?_; refine o_step rfl (s_move rfl) ?_; refine o_step rfl (s_len rfl) ?_
  by_cases hjl : j < re.length
  ·
   obtain ⟨x, hx⟩ : ∃ x, re[j]? = some x := ⟨_, List.getElem?_eq_getElem hjl⟩
   refine o_step rfl (step_cast (v' := .bool true) (s_lss rfl rfl) (by rw [decide_eq_true (by omega)])) ?_; refine o_nil ?_; refine x_then (hK6 _ _ ?_); refine c_true rfl ?_; refine c_skip ?_; refine x_then (hK5 _ _ ?_); refine c_seq fun _ hK7 => ?_; refine c_block ?_; refine c_seq fun _ hK8 => ?_; refine c_block ?_; refine c_loop2 (fun (q : Sl Int) (S : Hp) => q.xs.length ≤ 65536 ∧ OwnS Ei 1 3 (.slice q.a q.xs.length q.c) q.xs S) (fun (q : Sl Int) (S : Hp) => [(3, .slice q.a q.xs.length q.c)]) [(0, _), (4, _), (5, _), (6, _), (7, _), (8, _)] (fun (q : Sl Int) (S : Hp) => S) (fun (q : Sl Int) (S : Hp) => q.xs.length) q0 S0 ⟨hq0, hO0⟩ sbA sbA hzB ?_
   rintro q S ⟨hq, hO⟩
   have hOs := hO.sl
   have hOc := hOs.cap
   refine c_seq fun _ hK9 => ?_; refine c_seq fun _ hK10 => ?_; refine c_region ?_; refine o_step rfl (s_move rfl) ?_; refine o_step rfl (s_len rfl) ?_
   by_cases hp0 : (q.xs.length : Int) > 0
   ·
    obtain ⟨u, hu⟩ : ∃ u, q.xs[q.xs.length - 1]? = some u := ⟨_, List.getElem?_eq_getElem (by omega)⟩
    have hO1 := hO.pre (q.xs.length - 1) (by omega)
    have hql1 : (q.xs.take (q.xs.length - 1)).length = q.xs.length - 1 := by rw [List.length_take]; omega
    refine o_step rfl (step_cast (v' := .bool true) (s_gtr rfl rfl) (by rw [decide_eq_true (by omega)])) ?_; refine o_step rfl (s_move rfl) ?_; refine o_yes rfl rfl ?_; refine o_step rfl (s_move rfl) ?_; refine o_yes rfl rfl ?_; refine o_step rfl (s_move rfl) ?_; refine o_yes rfl rfl ?_; refine o_step rfl (s_len rfl) ?_; refine o_yes rfl rfl ?_; refine o_step rfl (s_sub rfl rfl (by omega)) ?_; refine o_yes rfl rfl ?_; refine o_step rfl (s_idx rfl rfl hOs (by omega)) ?_; refine o_yes rfl rfl ?_; refine o_step rfl (s_ld rfl ((hO.rdk hiA).ld (q.xs.length - 1) 0 hu rfl (by decide) (by omega))) ?_; refine o_yes rfl rfl ?_
    by_cases hle : u ≤ 0
    ·
     refine o_step rfl (step_cast (v' := .bool true) (s_leq rfl rfl) (by rw [decide_eq_true (by omega)])) ?_; refine o_step rfl (s_pick_t rfl rfl) ?_; refine o_nil ?_; refine x_then (hK10 _ _ ?_); refine c_true rfl ?_; refine c_skip ?_; refine x_then (hK9 _ _ ?_); refine c_block ?_; refine c_region ?_; refine o_step rfl (s_move rfl) ?_; refine o_step rfl (s_move rfl) ?_; refine o_step rfl (s_len rfl) ?_; refine o_step rfl (s_sub rfl rfl (by omega)) ?_; refine o_step rfl (step_cast (v' := .slice q.a (q.xs.take (q.xs.length - 1)).length q.c) (s_slice_hi rfl rfl (by omega)) (by rw [hql1]; congr 1; omega)) ?_; refine o_step rfl (s_assign rfl) ?_; refine o_nil ?_; refine x_block ?_; exact x_then (x_inv (⟨q.a, q.c, q.xs.take (q.xs.length - 1)⟩, S) ⟨by rw [hql1]; omega, by dsimp only; rw [hql1]; exact hO1⟩ (by dsimp only; rw [hql1]; omega) sbA hzB)
    ·
     refine o_step rfl (step_cast (v' := .bool false) (s_leq rfl rfl) (by rw [decide_eq_false (by omega)])) ?_; refine o_step rfl (s_pick_t rfl rfl) ?_; refine o_nil ?_; refine x_then (hK10 _ _ ?_); refine c_false rfl ?_; refine c_exit ?_; refine x_then_exit ?_; refine x_then_exit ?_; refine x_block_exit ?_; refine x_then (hK8 _ _ ?_); refine c_seq fun _ hK11 => ?_; refine c_seq fun _ hK12 => ?_; refine c_region ?_; refine o_step rfl (s_move rfl) ?_; refine o_step rfl (s_len rfl) ?_
     by_cases hp1 : (q.xs.length : Int) > 0
     ·
      obtain ⟨u2, hu2⟩ : ∃ u, q.xs[q.xs.length - 1]? = some u := ⟨_, List.getElem?_eq_getElem (by omega)⟩
      refine o_step rfl (step_cast (v' := .bool true) (s_gtr rfl rfl) (by rw [decide_eq_true (by omega)])) ?_; refine o_nil ?_; refine x_then (hK12 _ _ ?_); refine c_true rfl ?_; refine c_region ?_; refine o_step rfl (s_move rfl) ?_; refine o_step rfl (s_move rfl) ?_; refine o_step rfl (s_len rfl) ?_; refine o_step rfl (s_sub rfl rfl (by omega)) ?_; refine o_step rfl (s_move rfl) ?_; refine o_step rfl (s_move rfl) ?_; refine o_step rfl (s_len rfl) ?_; refine o_step rfl (s_sub rfl rfl (by omega)) ?_; refine o_step rfl (s_idx rfl rfl hOs (by omega)) ?_; refine o_step rfl (s_ld rfl ((hO.rdk hiA).ld (q.xs.length - 1) 0 hu2 rfl (by decide) (by omega))) ?_; refine o_step rfl (s_subw rfl rfl) ?_; refine o_step rfl (s_idx rfl rfl hOs (by omega)) ?_; refine o_stS1 (q.xs.length - 1) _ hO pkA rfl rfl rfl (by omega) (by omega) fun S' hS' => ?_
      have hO := hS'
      refine o_nil ?_; refine x_then (hK11 _ _ ?_); refine c_seq fun _ hK13 => ?_; refine c_region ?_; refine o_step rfl (s_move rfl) ?_; refine o_step rfl (s_move rfl) ?_; refine o_step rfl (s_move rfl) ?_; refine o_step rfl (s_idx rfl rfl hsl (by omega)) ?_; refine o_step rfl (s_field rfl rfl (by decide)) ?_; refine o_step rfl (s_ld rfl ((RdK.old0 hw).ld j 8 hx rfl (by decide) (by omega))) ?_; refine o_bs (E := Ei) (xs := [x.kids]) (vs := [_]) rfl rfl rfl rfl rfl (by decide) (by decide) fun b49 S49 hS49 => ?_; refine o_app hO (hS49.rdk hiA) rfl rfl rfl rfl (by simp; omega) (by simp; omega) rfl pkA fun a50 c50 S50 hS50 => ?_; refine o_step rfl (s_assign rfl) ?_; refine o_nil ?_; refine x_then (hK13 _ _ ?_); refine c_seq fun _ hK14 => ?_; refine c_region ?_; refine o_step rfl (s_move rfl) ?_; refine o_step rfl (s_len rfl) ?_; refine o_step rfl (s_gtr rfl rfl) ?_; refine o_nil ?_; refine x_then (hK14 _ _ ?_)
      refine c_if rfl (fun hbig => ?_) (fun hbig => ?_)
      ·
       refine c_seq fun _ hK15 => ?_; refine c_region ?_; refine o_step rfl (s_assign rfl) ?_; refine o_nil ?_; refine x_then (hK15 _ _ ?_); refine c_ret ?_; refine x_block_ret (x_then_ret (x_then_ret (x_block_ret (x_then_ret (?_)))))
       exact x_ret rfl (.tmp rfl (.nil)) (⟨_, rfl⟩)
      ·
       refine c_skip ?_; refine x_block ?_; refine x_then (hK7 _ _ ?_); refine c_region ?_; refine o_step rfl (s_move rfl) ?_; refine o_step rfl (s_add rfl rfl (by omega)) ?_; refine o_step rfl (s_assign rfl) ?_; refine o_nil ?_; exact x_then (x_inv (j + 1, ⟨a50, c50, _⟩, S50) ⟨by omega, by dsimp only; omega, hS50⟩ (by first | omega | (dsimp only; omega)) sbA hzB)
     ·
      refine o_step rfl (step_cast (v' := .bool false) (s_gtr rfl rfl) (by rw [decide_eq_false (by omega)])) ?_; refine o_nil ?_; refine x_then (hK12 _ _ ?_); refine c_false rfl ?_; refine c_skip ?_; refine x_then (hK11 _ _ ?_); refine c_seq fun _ hK16 => ?_; refine c_region ?_; refine o_step rfl (s_move rfl) ?_; refine o_step rfl (s_move rfl) ?_; refine o_step rfl (s_move rfl) ?_; refine o_step rfl (s_idx rfl rfl hsl (by omega)) ?_; refine o_step rfl (s_field rfl rfl (by decide)) ?_; refine o_step rfl (s_ld rfl ((RdK.old0 hw).ld j 8 hx rfl (by decide) (by omega))) ?_; refine o_bs (E := Ei) (xs := [x.kids]) (vs := [_]) rfl rfl rfl rfl rfl (by decide) (by decide) fun b49 S49 hS49 => ?_; refine o_app hO (hS49.rdk hiA) rfl rfl rfl rfl (by simp; omega) (by simp; omega) rfl pkA fun a50 c50 S50 hS50 => ?_; refine o_step rfl (s_assign rfl) ?_; refine o_nil ?_; refine x_then (hK16 _ _ ?_); refine c_seq fun _ hK17 => ?_
      refine c_region ?_; refine o_step rfl (s_move rfl) ?_; refine o_step rfl (s_len rfl) ?_; refine o_step rfl (s_gtr rfl rfl) ?_; refine o_nil ?_; refine x_then (hK17 _ _ ?_); refine c_if rfl (fun hbig => ?_) (fun hbig => ?_)
      ·
       refine c_seq fun _ hK18 => ?_; refine c_region ?_; refine o_step rfl (s_assign rfl) ?_; refine o_nil ?_; refine x_then (hK18 _ _ ?_); refine c_ret ?_; refine x_block_ret (x_then_ret (x_then_ret (x_block_ret (x_then_ret (?_)))))
       exact x_ret rfl (.tmp rfl (.nil)) (⟨_, rfl⟩)
      ·
       refine c_skip ?_; refine x_block ?_; refine x_then (hK7 _ _ ?_); refine c_region ?_; refine o_step rfl (s_move rfl) ?_; refine o_step rfl (s_add rfl rfl (by omega)) ?_; refine o_step rfl (s_assign rfl) ?_; refine o_nil ?_; exact x_then (x_inv (j + 1, ⟨a50, c50, _⟩, S50) ⟨by omega, by dsimp only; omega, hS50⟩ (by first | omega | (dsimp only; omega)) sbA hzB)
   ·
    refine o_step rfl (step_cast (v' := .bool false) (s_gtr rfl rfl) (by rw [decide_eq_false (by omega)])) ?_; refine o_step rfl (s_move rfl) ?_; refine o_no rfl rfl rfl rfl ?_; refine o_no rfl rfl rfl rfl ?_; refine o_no rfl rfl rfl rfl ?_; refine o_no rfl rfl rfl rfl ?_; refine o_no rfl rfl rfl rfl ?_; refine o_no rfl rfl rfl rfl ?_; refine o_no rfl rfl rfl rfl ?_; refine o_step rfl (s_pick_f rfl rfl) ?_; refine o_nil ?_; refine x_then (hK10 _ _ ?_); refine c_false rfl ?_; refine c_exit ?_; refine x_then_exit ?_; refine x_then_exit ?_; refine x_block_exit ?_; refine x_then (hK8 _ _ ?_); refine c_seq fun _ hK19 => ?_; refine c_seq fun _ hK20 => ?_; refine c_region ?_; refine o_step rfl (s_move rfl) ?_; refine o_step rfl (s_len rfl) ?_
    by_cases hp1 : (q.xs.length : Int) > 0
    ·
     obtain ⟨u2, hu2⟩ : ∃ u, q.xs[q.xs.length - 1]? = some u := ⟨_, List.getElem?_eq_getElem (by omega)⟩
     refine o_step rfl (step_cast (v' := .bool true) (s_gtr rfl rfl) (by rw [decide_eq_true (by omega)])) ?_; refine o_nil ?_; refine x_then (hK20 _ _ ?_); refine c_true rfl ?_; refine c_region ?_; refine o_step rfl (s_move rfl) ?_; refine o_step rfl (s_move rfl) ?_; refine o_step rfl (s_len rfl) ?_; refine o_step rfl (s_sub rfl rfl (by omega)) ?_; refine o_step rfl (s_move rfl) ?_; refine o_step rfl (s_move rfl) ?_; refine o_step rfl (s_len rfl) ?_; refine o_step rfl (s_sub rfl rfl (by omega)) ?_; refine o_step rfl (s_idx rfl rfl hOs (by omega)) ?_; refine o_step rfl (s_ld rfl ((hO.rdk hiA).ld (q.xs.length - 1) 0 hu2 rfl (by decide) (by omega))) ?_; refine o_step rfl (s_subw rfl rfl) ?_; refine o_step rfl (s_idx rfl rfl hOs (by omega)) ?_; refine o_stS1 (q.xs.length - 1) _ hO pkA rfl rfl rfl (by omega) (by omega) fun S' hS' => ?_
     have hO := hS'
     refine o_nil ?_; refine x_then (hK19 _ _ ?_); refine c_seq fun _ hK21 => ?_; refine c_region ?_; refine o_step rfl (s_move rfl) ?_; refine o_step rfl (s_move rfl) ?_; refine o_step rfl (s_move rfl) ?_; refine o_step rfl (s_idx rfl rfl hsl (by omega)) ?_; refine o_step rfl (s_field rfl rfl (by decide)) ?_; refine o_step rfl (s_ld rfl ((RdK.old0 hw).ld j 8 hx rfl (by decide) (by omega))) ?_; refine o_bs (E := Ei) (xs := [x.kids]) (vs := [_]) rfl rfl rfl rfl rfl (by decide) (by decide) fun b49 S49 hS49 => ?_; refine o_app hO (hS49.rdk hiA) rfl rfl rfl rfl (by simp; omega) (by simp; omega) rfl pkA fun a50 c50 S50 hS50 => ?_; refine o_step rfl (s_assign rfl) ?_; refine o_nil ?_; refine x_then (hK21 _ _ ?_); refine c_seq fun _ hK22 => ?_; refine c_region ?_; refine o_step rfl (s_move rfl) ?_; refine o_step rfl (s_len rfl) ?_; refine o_step rfl (s_gtr rfl rfl) ?_; refine o_nil ?_; refine x_then (hK22 _ _ ?_)
     refine c_if rfl (fun hbig => ?_) (fun hbig => ?_)
     ·
      refine c_seq fun _ hK23 => ?_; refine c_region ?_; refine o_step rfl (s_assign rfl) ?_; refine o_nil ?_; refine x_then (hK23 _ _ ?_); refine c_ret ?_; refine x_block_ret (x_then_ret (x_then_ret (x_block_ret (x_then_ret (?_)))))
      exact x_ret rfl (.tmp rfl (.nil)) (⟨_, rfl⟩)
     ·
      refine c_skip ?_; refine x_block ?_; refine x_then (hK7 _ _ ?_); refine c_region ?_; refine o_step rfl (s_move rfl) ?_; refine o_step rfl (s_add rfl rfl (by omega)) ?_; refine o_step rfl (s_assign rfl) ?_; refine o_nil ?_; exact x_then (x_inv (j + 1, ⟨a50, c50, _⟩, S50) ⟨by omega, by dsimp only; omega, hS50⟩ (by first | omega | (dsimp only; omega)) sbA hzB)
    ·
     refine o_step rfl (step_cast (v' := .bool false) (s_gtr rfl rfl) (by rw [decide_eq_false (by omega)])) ?_; refine o_nil ?_; refine x_then (hK20 _ _ ?_); refine c_false rfl ?_; refine c_skip ?_; refine x_then (hK19 _ _ ?_); refine c_seq fun _ hK24 => ?_; refine c_region ?_; refine o_step rfl (s_move rfl) ?_; refine o_step rfl (s_move rfl) ?_; refine o_step rfl (s_move rfl) ?_; refine o_step rfl (s_idx rfl rfl hsl (by omega)) ?_; refine o_step rfl (s_field rfl rfl (by decide)) ?_; refine o_step rfl (s_ld rfl ((RdK.old0 hw).ld j 8 hx rfl (by decide) (by omega))) ?_; refine o_bs (E := Ei) (xs := [x.kids]) (vs := [_]) rfl rfl rfl rfl rfl (by decide) (by decide) fun b49 S49 hS49 => ?_; refine o_app hO (hS49.rdk hiA) rfl rfl rfl rfl (by simp; omega) (by simp; omega) rfl pkA fun a50 c50 S50 hS50 => ?_; refine o_step rfl (s_assign rfl) ?_; refine o_nil ?_; refine x_then (hK24 _ _ ?_); refine c_seq fun _ hK25 => ?_
     refine c_region ?_; refine o_step rfl (s_move rfl) ?_; refine o_step rfl (s_len rfl) ?_; refine o_step rfl (s_gtr rfl rfl) ?_; refine o_nil ?_; refine x_then (hK25 _ _ ?_); refine c_if rfl (fun hbig => ?_) (fun hbig => ?_)
     ·
      refine c_seq fun _ hK26 => ?_; refine c_region ?_; refine o_step rfl (s_assign rfl) ?_; refine o_nil ?_; refine x_then (hK26 _ _ ?_); refine c_ret ?_; refine x_block_ret (x_then_ret (x_then_ret (x_block_ret (x_then_ret (?_)))))
      exact x_ret rfl (.tmp rfl (.nil)) (⟨_, rfl⟩)
     ·
      refine c_skip ?_; refine x_block ?_; refine x_then (hK7 _ _ ?_); refine c_region ?_; refine o_step rfl (s_move rfl) ?_; refine o_step rfl (s_add rfl rfl (by omega)) ?_; refine o_step rfl (s_assign rfl) ?_; refine o_nil ?_; exact x_then (x_inv (j + 1, ⟨a50, c50, _⟩, S50) ⟨by omega, by dsimp only; omega, hS50⟩ (by first | omega | (dsimp only; omega)) sbA hzB)
  ·
   refine o_step rfl (step_cast (v' := .bool false) (s_lss rfl rfl) (by rw [decide_eq_false (by omega)])) ?_; refine o_nil ?_; refine x_then (hK6 _ _ ?_); refine c_false rfl ?_; refine c_exit ?_; refine x_then_exit ?_; refine x_then_exit ?_; refine x_block_exit ?_; refine x_then (hK3 _ _ ?_); refine c_seq fun _ hK27 => ?_; refine c_region ?_; refine o_step rfl (s_assign rfl) ?_; refine o_nil ?_; refine x_then (hK27 _ _ ?_); refine c_ret ?_; refine ?_; exact x_ret rfl (.tmp rfl (.nil)) (⟨_, rfl⟩)

end Go.Proofs.Ytmpeokbongnniaa
