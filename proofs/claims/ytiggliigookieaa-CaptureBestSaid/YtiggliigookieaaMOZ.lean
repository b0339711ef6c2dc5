/- Nodes, instructions and their lists as they come in. Conditions: none. -/
import Derived.Test.YtiggliigookieaaHlB
import Derived.Test.YtiggliigookieaaKF1Z
import Derived.Test.YtiggliigookieaaM1Z
import Derived.Test.YtiggliigookieaaKW5Z
import Derived.Test.YtiggliigookieaaKN5Z
import Derived.Test.YtiggliigookieaaKN1Z
namespace Go.HL.Kl.Mc
open Go Go.HL Go.HL.Kl Go.RowKit Go.ChangeShapes Go.WideShapes Go.ChangeAt
def Ew1 (w : BitVec 64) : List Value := [Ew w]
instance : Enc Ew1 1 := ⟨fun _ => rfl, fun _ v hv => by simp [Ew1, Ew] at hv; subst hv; rfl⟩
theorem open_u64 {P : Program} {t : TypeId} (ht : P.underlying t = some (.int .u64)) : Opens P t Ew1 (fun _ _ => True) := by
  refine ⟨fun enc w fuel cs x h _ => ?_⟩
  obtain ⟨n, rfl, _, hw⟩ := DataW.trod_int ht h
  have hb : 0 ≤ n ∧ n ≤ 18446744073709551615 := by
    simp only [Lit.wf] at hw
    simpa [IntKind.min, IntKind.max, IntKind.signed, IntKind.bits] using hw
  refine ⟨BitVec.ofNat 64 n.toNat, ?_, trivial⟩
  have e : (BitVec.ofNat 64 n.toNat).toNat = n.toNat := by
    rw [BitVec.toNat_ofNat]
    exact Nat.mod_eq_of_lt (by rw [show (2 : Nat) ^ 64 = 18446744073709551616 from by decide]; omega)
  simp only [Ew1, Ew, e, List.cons.injEq, Value.int.injEq, true_and, and_true]
  omega
def mk4 (a b c d : BitVec 64) : Cl := setw (setw (setw (setw 0 0 a) 1 b) 2 c) 3 d
theorem mk4_wd (a b c d : BitVec 64) : Ec (mk4 a b c d) = [Ew a, Ew b, Ew c, Ew d] := by
  simp [Ec, mk4, wd_setw]
theorem open_cl {P : Program} {t e : TypeId} (ht : P.underlying t = some (.array 4 e)) (he : P.underlying e = some (.int .u64)) (hk : P.cellsOf e = 1) (hc : P.cellsOf t = 4) : Opens P t Ec (fun _ _ => True) := by
  refine ⟨fun enc w fuel cs x h hw => ?_⟩
  obtain ⟨xs, rfl, hl, _⟩ := (open_array ht hk (by rw [hc]) (open_u64 he)).out enc w fuel cs x h hw
  match xs, hl with
  | [a, b, c, d], _ => exact ⟨mk4 a b c d, by rw [mk4_wd]; rfl, trivial⟩
def Ei8 (n : Int) : List Value := [.int .i8 n]
instance : Enc Ei8 1 := ⟨fun _ => rfl, fun _ _ h => by simp [Ei8] at h; subst h; rfl⟩
theorem open_i8 {P : Program} {t : TypeId} (ht : P.underlying t = some (.int .i8)) : Opens P t Ei8 (fun _ n => -128 ≤ n ∧ n < 128) := by
  refine ⟨fun enc w fuel cs x h _ => ?_⟩
  obtain ⟨n, rfl, _, hw⟩ := DataW.trod_int ht h
  refine ⟨n, rfl, ?_⟩
  simp only [Lit.wf] at hw
  have : -128 ≤ n ∧ n ≤ 127 := by simpa [IntKind.min, IntKind.max, IntKind.signed, IntKind.bits] using hw
  omega
theorem open_struct6 {P : Program} {t : TypeId} {f0 f1 f2 f3 f4 f5 : Field} {α0 α1 α2 α3 α4 α5 γ : Type} {E0 : α0 → List Value} {E1 : α1 → List Value} {E2 : α2 → List Value} {E3 : α3 → List Value} {E4 : α4 → List Value} {E5 : α5 → List Value} {E : γ → List Value} {M0 : World → α0 → Prop} {M1 : World → α1 → Prop} {M2 : World → α2 → Prop} {M3 : World → α3 → Prop} {M4 : World → α4 → Prop} {M5 : World → α5 → Prop} {Mem : World → γ → Prop}
    (ht : P.underlying t = some (.struct #[f0, f1, f2, f3, f4, f5])) (h0 : f0.offset = 0) (h1 : f1.offset = P.cellsOf f0.type) (h2 : f2.offset = P.cellsOf f0.type + P.cellsOf f1.type) (h3 : f3.offset = P.cellsOf f0.type + P.cellsOf f1.type + P.cellsOf f2.type)
    (h4 : f4.offset = P.cellsOf f0.type + P.cellsOf f1.type + P.cellsOf f2.type + P.cellsOf f3.type) (h5 : f5.offset = P.cellsOf f0.type + P.cellsOf f1.type + P.cellsOf f2.type + P.cellsOf f3.type + P.cellsOf f4.type) (hc : P.cellsOf t = P.cellsOf f0.type + P.cellsOf f1.type + P.cellsOf f2.type + P.cellsOf f3.type + P.cellsOf f4.type + P.cellsOf f5.type)
    (o0 : Opens P f0.type E0 M0) (o1 : Opens P f1.type E1 M1) (o2 : Opens P f2.type E2 M2) (o3 : Opens P f3.type E3 M3) (o4 : Opens P f4.type E4 M4) (o5 : Opens P f5.type E5 M5) (mk : ∀ w a b c d e f, M0 w a → M1 w b → M2 w c → M3 w d → M4 w e → M5 w f → ∃ z, E z = E0 a ++ (E1 b ++ (E2 c ++ (E3 d ++ (E4 e ++ E5 f)))) ∧ Mem w z) : Opens P t E Mem := by
  refine ⟨fun enc w fuel cs x h hw => ?_⟩
  obtain ⟨hl, n, hf⟩ := trod_fields ht h hw
  obtain ⟨y0, e0, w0⟩ := hf 0 f0 rfl
  obtain ⟨y1, e1, w1⟩ := hf 1 f1 rfl
  obtain ⟨y2, e2, w2⟩ := hf 2 f2 rfl
  obtain ⟨y3, e3, w3⟩ := hf 3 f3 rfl
  obtain ⟨y4, e4, w4⟩ := hf 4 f4 rfl
  obtain ⟨y5, e5, w5⟩ := hf 5 f5 rfl
  obtain ⟨a, ha, ma⟩ := o0.out enc w _ _ _ e0 w0
  obtain ⟨b, hb, mb⟩ := o1.out enc w _ _ _ e1 w1
  obtain ⟨c, hcc, mc⟩ := o2.out enc w _ _ _ e2 w2
  obtain ⟨d, hd, md⟩ := o3.out enc w _ _ _ e3 w3
  obtain ⟨e, he, me⟩ := o4.out enc w _ _ _ e4 w4
  obtain ⟨f, hff, mf⟩ := o5.out enc w _ _ _ e5 w5
  obtain ⟨z, hz, hm⟩ := mk w a b c d e f ma mb mc md me mf
  refine ⟨z, ?_, hm⟩
  rw [hz, ← ha, ← hb, ← hcc, ← hd, ← he, ← hff, h0, h1, h2, h3, h4, h5, List.drop_zero, List.take_of_length_le (l := cs.drop (P.cellsOf f0.type + _ + _ + _ + _)) (by rw [List.length_drop]; omega), ← cells_split, ← cells_split, ← cells_split, ← cells_split, List.take_append_drop]
end Go.HL.Kl.Mc

/- Part of the proofs over this seat: see the text that holds the theorem. Conditions: each theorem bears its own. -/
namespace Go.HL
open Go
/-! lists of lists: for the bag that looks whether lists share memory -/
section
variable {α : Type} {E : α → List Value} {k : Nat} {T : TypeId}
/-- lists that the heap's part S bears, each owned: headers, and what they hold -/
inductive OwnL (E : α → List Value) (k : Nat) (T : TypeId) : List (Sl α) → List (List α) → Hp → Prop
  | nil : OwnL E k T [] [] []
  | cons {s : Sl α} {xs : List α} {sls : List (Sl α)} {xss : List (List α)} {S R : Hp} (h : OwnS E k T s.v xs S) (hs : OwnL E k T sls xss R) : OwnL E k T (s :: sls) (xs :: xss) (S ++ R)
/-- what is written into the list n -/
def mkL (f : Nat → Nat → α) (n m : Nat) : List α := (List.range m).map (f n)
/-- likewise, all of them marked, from the list n on -/
inductive OwnF (E : α → List Value) (k : Nat) (T : TypeId) (f : Nat → Nat → α) : Nat → List (Sl α) → Hp → Prop
  | nil {n : Nat} : OwnF E k T f n [] []
  | cons {n : Nat} {s : Sl α} {sls : List (Sl α)} {S R : Hp} (h : OwnS E k T s.v (mkL f n s.xs.length) S) (hs : OwnF E k T f (n + 1) sls R) : OwnF E k T f n (s :: sls) (S ++ R)
/-- the first n lists have been gone on with -/
structure Done (E : α → List Value) (f : Nat → Nat → α) (sls ones mores : List (Sl α)) (G : Hp) (n : Nat) : Prop where
  out : ∀ j, j < n → ∃ s o m, sls[j]? = some s ∧ ones[j]? = some o ∧ mores[j]? = some m ∧ o.xs = mkL f j (s.xs.length + 1) ∧ m.xs = mkL f j (s.xs.length + 70) ∧ IsSl s.v s.xs.length ∧ IsSl o.v o.xs.length ∧ IsSl m.v m.xs.length ∧ RdS E s.v (mkL f j s.xs.length) G ∧ RdS E o.v o.xs G ∧ RdS E m.v m.xs G
end
end Go.HL

/- Compile's errors; nodes written over. Conditions: none. -/
namespace Go.HL.Kl.Mc
open Go Go.HL Go.HL.Kl
/-- the error of Compile -/
noncomputable def errC (re : List Nd) : Int := if shapedB re = false then 49 else if refsB re = true then 44 else 0
/-- the first j nodes are sets -/
structure SetsTo (l : List Nd) (n j : Nat) : Prop where
  len : l.length = n
  rng : ∀ x ∈ l, -128 ≤ x.op ∧ x.op < 128
  get : ∀ t, t < j → ∃ y, l[t]? = some y ∧ y.op = 1 ∧ y.kids = 0
def cls9 (j : Nat) : Cl := mk4 9#64 0#64 (BitVec.ofNat 64 j) 0#64
attribute [irreducible] cls9
def spN (i : Nat) : Nd := ⟨0, 0, ((1048576 * 9 + i + 1 : Nat) : Int), -7, 0, 0⟩
end Go.HL.Kl.Mc

/- What Best and Find answer. Conditions: none. -/
namespace Go.HL.Kl.Mc
open Go Go.HL Go.HL.Kl AskE
/-- a regex that captures take, and a place of a derivation -/
structure May (re : List Nd) (w : List UInt8) (x : Nd) (ks : F) : Prop where
  sh : shapedB re = true
  rf : refsB re = false
  hs : Shp re x ks
def CapO (T : Nat) (w : List UInt8) (re : List Nd) (x : Nd) (ks : F) (p q : Nat) (v : Value) (S' : Hp) : Prop := ∃ a cc, v = .tuple #[.slice a (capsV w re x ks p q).length cc, .bool true] ∧ OwnS Esp 2 T (.slice a (capsV w re x ks p q).length cc) (capsV w re x ks p q) S'
def BestP (T : Nat) (re : List Nd) (w : List UInt8) (fr to : Int) (v : Value) (S' : Hp) : Prop :=
  (∃ x ks, ∃ p q : Nat, May re w x ks ∧ fr = p ∧ to = q ∧ p ≤ q ∧ q ≤ w.length ∧ der1 w x ks p q ∧ CapO T w re x ks p q v S') ∨
  ((¬ ∃ x ks, ∃ p q : Nat, May re w x ks ∧ fr = p ∧ to = q ∧ p ≤ q ∧ q ≤ w.length ∧ der1 w x ks p q) ∧ v = .tuple #[.slice none 0 0, .bool false] ∧ S' = [])
/-- the leftmost, there the longest -/
structure Lft (w : List UInt8) (x : Nd) (ks : F) (f p q : Nat) : Prop where
  ge : f ≤ p
  le : p ≤ q
  len : q ≤ w.length
  der : der1 w x ks p q
  left : ∀ p' q', f ≤ p' → p' < p → q' ≤ w.length → ¬ der1 w x ks p' q'
  long : ∀ q', q < q' → q' ≤ w.length → ¬ der1 w x ks p q'
def FindP (T : Nat) (re : List Nd) (w : List UInt8) (f : Int) (v : Value) (S' : Hp) : Prop :=
  (∃ x ks, ∃ g p q : Nat, May re w x ks ∧ f = g ∧ Lft w x ks g p q ∧ CapO T w re x ks p q v S') ∨
  ((¬ ∃ x ks, ∃ g p q : Nat, May re w x ks ∧ f = g ∧ g ≤ p ∧ q ≤ w.length ∧ der1 w x ks p q) ∧ v = .tuple #[.slice none 0 0, .bool false] ∧ S' = [])
end Go.HL.Kl.Mc

/- Part of the proofs over this seat: see the text that holds the theorem. Conditions: each theorem bears its own. -/
namespace Go.Proofs.Ytiggliigookieaa
open Go Go.HL Go.Proofs Go.HL.Kl Go.HL.Kl.Mc Go.HL.Kl.Mc.AskE
set_option maxHeartbeats 1000000 in
theorem captures_fn (K : AskE) (hK : K.ok) (hn : K.nF = 39) (hr : K.rF = 41) (hsb : shapedB K.re = true) (x : Nd) (ks : F) (hs : Shp K.re x ks) (p q : Nat) (hpq : p ≤ q) (hq : q ≤ K.tx.length) (hd : der1 K.tx x ks p q) (es : List Me) (c : Nat) (hes : MapOk K.tx K.re es) : HL.Fn Try.prog 26 [pt K.bS, .agg (Esp ⟨p, q⟩).toArray] (fun W => Env W K [K.bM]) [(K.bM, mpO es c)] (CapsP K 25 (capsV K.tx K.re x ks p q)) := by
  refine fn_of Try.func26 rfl rfl rfl fun w0 hw => ?_
  have hgl : gcn K.re ≤ K.re.length := List.countP_le_length
  have hrl := hK.len
  refine c_seq fun _ hK1 => ?_
  refine c_region ?_
  refine o_box rfl rfl rfl fun b3 => ?_
  refine o_step rfl (s_assign rfl) ?_
  refine o_nil ?_
  refine x_then (hK1 _ _ ?_)
  refine c_seq fun _ hK2 => ?_
  refine c_region ?_
  refine o_step rfl (s_move rfl) ?_
  refine o_step rfl (s_nil rfl) ?_
  refine o_step rfl (s_field rfl rfl (by decide)) ?_
  refine o_step rfl (s_ld rfl ((RdPK.old hw.p4 hw.n4).cel (j := 0) rfl rfl)) ?_
  refine o_callP (groups_fn K.ra K.rc K.re hK.rng) rfl rfl rfl (fun w st => (RdK.old hw.d1 hw.a1).out w st) (fun v11 hv11 => ?_)
  rw [hsb, if_pos rfl] at hv11
  subst hv11
  refine o_step rfl (s_add rfl rfl (by omega)) ?_
  refine o_make (E := Esp) (zx := ⟨0, 0⟩) (n := (gcn K.re + 1)) rfl rfl rfl (by omega) (by omega) rfl fun b13 S13 hS13 => ?_
  refine o_step rfl (s_assign rfl) ?_
  refine o_nil ?_
  refine x_then (hK2 _ _ ?_)
  refine c_seq fun _ hK3 => ?_
  refine c_seq fun _ hK4 => ?_
  refine c_region ?_
  refine o_step rfl (s_move rfl) ?_
  refine o_step rfl (s_len rfl) ?_
  refine o_step rfl (s_move rfl) ?_
  refine o_nil ?_
  refine x_then (hK4 _ _ ?_)
  refine c_block ?_
  refine c_loop3 (fun (j : Nat) (l : List Sp) (S : Hp) => j ≤ (gcn K.re + 1) ∧ Tab.Fill (fun _ => noS) (gcn K.re + 1) j l ∧ OwnS Esp 2 25 (.slice (some ⟨b13, 0, none⟩) (gcn K.re + 1) (gcn K.re + 1)) l S) (fun (j : Nat) (l : List Sp) (S : Hp) => [(16, .int .i64 j)]) [(0, _), (3, _), (4, _), (5, _), (15, _)] (fun (j : Nat) (l : List Sp) (S : Hp) => S ++ [(b3, .cells (Esp ⟨p, q⟩).toArray 25 (0, 0)), (K.bM, mpO es c)]) (fun (j : Nat) (l : List Sp) (S : Hp) => (gcn K.re + 1) - j) 0 _ _ ⟨by omega, .zero List.length_replicate, hS13⟩ sbA sbA hzB ?_
  rintro j l S ⟨hj, hl, hS⟩
  have hls := hS.sl
  rw [hl.len] at hls
  refine c_seq fun _ hK5 => ?_
  refine c_region ?_
  by_cases hjl : (j : Int) < gcn K.re + 1
  ·
   have hll := hl.len
   refine o_step rfl (step_cast (v' := .bool true) (s_lss rfl rfl) (by rw [decide_eq_true (by omega)])) ?_
   refine o_nil ?_
   refine x_then (hK5 _ _ ?_)
   refine c_seq fun _ hK6 => ?_
   refine c_true rfl ?_
   refine c_skip ?_
   refine x_then (hK6 _ _ ?_)
   refine c_seq fun _ hK7 => ?_
   refine c_block ?_
   refine c_seq fun _ hK8 => ?_
   refine c_region ?_
   refine o_step rfl (s_move rfl) ?_
   refine o_step rfl (s_assign rfl) ?_
   refine o_nil ?_
   refine x_then (hK8 _ _ ?_)
   refine c_region ?_
   refine o_step rfl (s_move rfl) ?_
   refine o_step rfl (s_move rfl) ?_
   refine o_step rfl (step_cast (v' := .agg (Esp noS).toArray) (s_build (cs := [_, _]) (vs := [_, _]) rfl rfl (.cons rfl rfl rfl rfl rfl (.cons rfl rfl rfl rfl rfl (.nil)))) rfl) ?_
   refine o_step rfl (s_idx rfl rfl hls (by omega)) ?_
   refine o_stSE j noS hS pkA rfl rfl (by omega) (by rw [Int.toNat_natCast]) fun S' hS' => ?_
   refine o_nil ?_
   refine x_block ?_
   refine x_then (hK7 _ _ ?_)
   refine c_region ?_
   refine o_step rfl (s_add rfl rfl (by omega)) ?_
   refine o_step rfl (s_move rfl) ?_
   refine o_nil ?_
   exact x_then (x_inv (j + 1, _, _) ⟨by omega, hl.step (by omega) rfl, hS'⟩ (by first | omega | (dsimp only; omega)) sbA hzB)
  ·
   have hd2 := fill_rep hl (by omega)
   subst hd2
   refine o_step rfl (step_cast (v' := .bool false) (s_lss rfl rfl) (by rw [decide_eq_false (by omega)])) ?_
   refine o_nil ?_
   refine x_then (hK5 _ _ ?_)
   refine c_seq fun _ hK9 => ?_
   refine c_false rfl ?_
   refine c_exit ?_
   refine x_then_exit ?_
   refine x_then_exit ?_
   refine x_block_exit ?_
   refine x_then (hK3 _ _ ?_)
   refine c_seq fun _ hK10 => ?_
   refine c_region ?_
   refine o_step rfl (s_move rfl) ?_
   refine o_step rfl (s_field rfl rfl (by decide)) ?_
   refine o_step rfl (s_ld rfl ((.own meA rfl : Cel _ _ _ (.int .i64 (p : Int))))) ?_
   refine o_step rfl (s_field rfl rfl (by decide)) ?_
   refine o_step rfl (s_ld rfl ((.own meA rfl : Cel _ _ _ (.int .i64 (q : Int))))) ?_
   refine o_step rfl (s_move rfl) ?_
   refine o_call (take_all hK hn hr _ x ks (Nat.lt_succ_self _) 0 _ p q es c (some ⟨b13, 0, none⟩) _ _ (List.replicate (gcn K.re + 1) noS) S hs.part hpq hq hd hes List.length_replicate (slots_of hsb) hS) rfl rfl rfl ((Pick.takeC pkA pkA)) (fun w st => hw.sub (S := (K.bM, mpO es c) :: S) st (hin_cons meA hiA)) (fun v30 S30 ⟨es30, c30, Sc30, hS30, hm30, hO30⟩ => ?_)
   subst hS30
   have hl30 : (bst1 K.tx x ks p q (List.replicate (gcn K.re + 1) noS)).length = (gcn K.re + 1) := by rw [bst1_len, List.length_replicate]
   have hs30 := hO30.sl
   rw [hl30] at hs30
   refine o_nil ?_
   refine x_then (hK10 _ _ ?_)
   refine c_seq fun _ hK11 => ?_
   refine c_region ?_
   refine o_step rfl (s_move rfl) ?_
   refine o_step rfl (s_ldB rfl (RdPK.cels (.own meA)) lnA) ?_
   refine o_step rfl (s_idx rfl rfl hs30 (by omega)) ?_
   refine o_stSE 0 ⟨p, q⟩ hO30 pkA rfl rfl (by rw [hl30]; omega) (by rfl) fun S' hS' => ?_
   refine o_nil ?_
   refine x_then (hK11 _ _ ?_)
   refine c_seq fun _ hK12 => ?_
   refine c_region ?_
   refine o_step rfl (s_move rfl) ?_
   refine o_step rfl (s_assign rfl) ?_
   refine o_nil ?_
   refine x_then (hK12 _ _ ?_)
   refine c_ret ?_
   refine ?_
   refine x_sub (Sub.refl _) (H' := (K.bM, mpO es30 c30) :: S') hzB ?_
   exact x_ret rfl (.tmp rfl (.nil)) (⟨es30, c30, some ⟨b13, 0, none⟩, (gcn K.re + 1), S', by rw [capsV_len]; rfl, rfl, by rw [capsV_len]; exact hS'⟩)

set_option maxHeartbeats 1000000 in
theorem best_fn (ra : Option Addr) (rc : Nat) (re : List Nd) (hre : ∀ x ∈ re, -128 ≤ x.op ∧ x.op < 128) (ta : Option Addr) (tc : Nat) (w : List UInt8) (hwl : w.length ≤ 1000000) (fr to : Int) : HL.Fn Try.prog 10 [.slice ra re.length rc, .slice ta w.length tc, .agg (Esp ⟨fr, to⟩).toArray] (fun W => Rd En W (.slice ra re.length rc) re ∧ Rd Eb W (.slice ta w.length tc) w) [] (BestP 25 re w fr to) := by
  refine fn_of Try.func10 rfl rfl rfl fun w0 hw => ?_
  refine c_seq fun _ hK1 => ?_
  refine c_region ?_
  refine o_box rfl rfl rfl fun b5 => ?_
  refine o_step rfl (s_assign rfl) ?_
  refine o_step rfl (s_assign rfl) ?_
  refine o_nil ?_
  refine x_then (hK1 _ _ ?_)
  refine c_seq fun _ hK2 => ?_
  refine c_seq fun _ hK3 => ?_
  refine c_region ?_
  refine o_step rfl (s_move rfl) ?_
  refine o_callP (shaped_fn ra rc re hre) rfl rfl rfl (fun w st => (RdK.old0 hw.1).out w st) (fun v10 hv10 => ?_)
  subst hv10
  cases hsb : shapedB re
  ·
   refine o_step rfl (s_not rfl) ?_
   refine o_step rfl (s_move rfl) ?_
   refine o_no rfl rfl rfl rfl ?_
   refine o_no rfl rfl rfl rfl ?_
   refine o_step rfl (s_pick_t rfl rfl) ?_
   refine o_step rfl (s_move rfl) ?_
   refine o_no rfl rfl rfl rfl ?_
   refine o_no rfl rfl rfl rfl ?_
   refine o_no rfl rfl rfl rfl ?_
   refine o_step rfl (s_pick_t rfl rfl) ?_
   refine o_step rfl (s_move rfl) ?_
   refine o_no rfl rfl rfl rfl ?_
   refine o_no rfl rfl rfl rfl ?_
   refine o_no rfl rfl rfl rfl ?_
   refine o_no rfl rfl rfl rfl ?_
   refine o_no rfl rfl rfl rfl ?_
   refine o_step rfl (s_pick_t rfl rfl) ?_
   refine o_step rfl (s_move rfl) ?_
   refine o_no rfl rfl rfl rfl ?_
   refine o_no rfl rfl rfl rfl ?_
   refine o_no rfl rfl rfl rfl ?_
   refine o_no rfl rfl rfl rfl ?_
   refine o_no rfl rfl rfl rfl ?_
   refine o_step rfl (s_pick_t rfl rfl) ?_
   refine o_nil ?_
   refine x_then (hK3 _ _ ?_)
   refine c_true rfl ?_
   refine c_seq fun _ hK4 => ?_
   refine c_region ?_
   refine o_step rfl (s_assign rfl) ?_
   refine o_step rfl (s_assign rfl) ?_
   refine o_nil ?_
   refine x_then (hK4 _ _ ?_)
   refine c_ret ?_
   refine x_then_ret (?_)
   refine x_sub (Sub.refl _) (H' := []) HSub.nil ?_
   exact x_ret rfl (.tmp rfl (.tmp rfl (.nil))) (.inr ⟨fun ⟨x2, ks2, p2, q2, hm, h1, h2, h3, h4, h5⟩ => (by have := hm.sh; rw [hsb] at this; cases this), rfl, rfl⟩)
  ·
   obtain ⟨_, x, ks, hs⟩ := shapedB_iff.1 hsb
   refine o_step rfl (s_not rfl) ?_
   refine o_step rfl (s_move rfl) ?_
   refine o_yes rfl rfl ?_
   refine o_step rfl (s_move rfl) ?_
   refine o_yes rfl rfl ?_
   refine o_callP (refs_fn ra rc re hre) rfl rfl rfl (fun w st => (RdK.old0 hw.1).out w st) (fun v14 hv14 => ?_)
   subst hv14
   cases hrb : refsB re
   ·
    have hr8 := no_refs hsb hrb
    refine o_step rfl (s_pick_f rfl rfl) ?_
    refine o_step rfl (s_move rfl) ?_
    refine o_yes rfl rfl ?_
    refine o_step rfl (s_field rfl rfl (by decide)) ?_
    refine o_yes rfl rfl ?_
    refine o_step rfl (s_ld rfl ((.own meA rfl : Cel _ _ _ (.int .i64 fr)))) ?_
    refine o_yes rfl rfl ?_
    by_cases hf0 : fr < 0
    ·
     refine o_step rfl (step_cast (v' := .bool true) (s_lss rfl rfl) (by rw [decide_eq_true (by omega)])) ?_
     refine o_step rfl (s_pick_f rfl rfl) ?_
     refine o_step rfl (s_move rfl) ?_
     refine o_no rfl rfl rfl rfl ?_
     refine o_no rfl rfl rfl rfl ?_
     refine o_no rfl rfl rfl rfl ?_
     refine o_no rfl rfl rfl rfl ?_
     refine o_no rfl rfl rfl rfl ?_
     refine o_step rfl (s_pick_t rfl rfl) ?_
     refine o_step rfl (s_move rfl) ?_
     refine o_no rfl rfl rfl rfl ?_
     refine o_no rfl rfl rfl rfl ?_
     refine o_no rfl rfl rfl rfl ?_
     refine o_no rfl rfl rfl rfl ?_
     refine o_no rfl rfl rfl rfl ?_
     refine o_step rfl (s_pick_t rfl rfl) ?_
     refine o_nil ?_
     refine x_then (hK3 _ _ ?_)
     refine c_true rfl ?_
     refine c_seq fun _ hK5 => ?_
     refine c_region ?_
     refine o_step rfl (s_assign rfl) ?_
     refine o_step rfl (s_assign rfl) ?_
     refine o_nil ?_
     refine x_then (hK5 _ _ ?_)
     refine c_ret ?_
     refine x_then_ret (?_)
     refine x_sub (Sub.refl _) (H' := []) HSub.nil ?_
     exact x_ret rfl (.tmp rfl (.tmp rfl (.nil))) (.inr ⟨fun ⟨x2, ks2, p2, q2, hm, h1, h2, h3, h4, h5⟩ => (by omega), rfl, rfl⟩)
    ·
     refine o_step rfl (step_cast (v' := .bool false) (s_lss rfl rfl) (by rw [decide_eq_false (by omega)])) ?_
     refine o_step rfl (s_pick_f rfl rfl) ?_
     refine o_step rfl (s_move rfl) ?_
     refine o_yes rfl rfl ?_
     refine o_step rfl (s_field rfl rfl (by decide)) ?_
     refine o_yes rfl rfl ?_
     refine o_step rfl (s_ld rfl ((.own meA rfl : Cel _ _ _ (.int .i64 fr)))) ?_
     refine o_yes rfl rfl ?_
     refine o_step rfl (s_field rfl rfl (by decide)) ?_
     refine o_yes rfl rfl ?_
     refine o_step rfl (s_ld rfl ((.own meA rfl : Cel _ _ _ (.int .i64 to)))) ?_
     refine o_yes rfl rfl ?_
     by_cases hft : fr > to
     ·
      refine o_step rfl (step_cast (v' := .bool true) (s_gtr rfl rfl) (by rw [decide_eq_true (by omega)])) ?_
      refine o_step rfl (s_pick_f rfl rfl) ?_
      refine o_step rfl (s_move rfl) ?_
      refine o_no rfl rfl rfl rfl ?_
      refine o_no rfl rfl rfl rfl ?_
      refine o_no rfl rfl rfl rfl ?_
      refine o_no rfl rfl rfl rfl ?_
      refine o_no rfl rfl rfl rfl ?_
      refine o_step rfl (s_pick_t rfl rfl) ?_
      refine o_nil ?_
      refine x_then (hK3 _ _ ?_)
      refine c_true rfl ?_
      refine c_seq fun _ hK6 => ?_
      refine c_region ?_
      refine o_step rfl (s_assign rfl) ?_
      refine o_step rfl (s_assign rfl) ?_
      refine o_nil ?_
      refine x_then (hK6 _ _ ?_)
      refine c_ret ?_
      refine x_then_ret (?_)
      refine x_sub (Sub.refl _) (H' := []) HSub.nil ?_
      exact x_ret rfl (.tmp rfl (.tmp rfl (.nil))) (.inr ⟨fun ⟨x2, ks2, p2, q2, hm, h1, h2, h3, h4, h5⟩ => (by omega), rfl, rfl⟩)
     ·
      refine o_step rfl (step_cast (v' := .bool false) (s_gtr rfl rfl) (by rw [decide_eq_false (by omega)])) ?_
      refine o_step rfl (s_pick_f rfl rfl) ?_
      refine o_step rfl (s_move rfl) ?_
      refine o_yes rfl rfl ?_
      refine o_step rfl (s_field rfl rfl (by decide)) ?_
      refine o_yes rfl rfl ?_
      refine o_step rfl (s_ld rfl ((.own meA rfl : Cel _ _ _ (.int .i64 to)))) ?_
      refine o_yes rfl rfl ?_
      refine o_step rfl (s_move rfl) ?_
      refine o_yes rfl rfl ?_
      refine o_step rfl (s_len rfl) ?_
      refine o_yes rfl rfl ?_
      by_cases htl : to > w.length
      ·
       refine o_step rfl (step_cast (v' := .bool true) (s_gtr rfl rfl) (by rw [decide_eq_true (by omega)])) ?_
       refine o_step rfl (s_pick_f rfl rfl) ?_
       refine o_nil ?_
       refine x_then (hK3 _ _ ?_)
       refine c_true rfl ?_
       refine c_seq fun _ hK7 => ?_
       refine c_region ?_
       refine o_step rfl (s_assign rfl) ?_
       refine o_step rfl (s_assign rfl) ?_
       refine o_nil ?_
       refine x_then (hK7 _ _ ?_)
       refine c_ret ?_
       refine x_then_ret (?_)
       refine x_sub (Sub.refl _) (H' := []) HSub.nil ?_
       exact x_ret rfl (.tmp rfl (.tmp rfl (.nil))) (.inr ⟨fun ⟨x2, ks2, p2, q2, hm, h1, h2, h3, h4, h5⟩ => (by omega), rfl, rfl⟩)
      ·
       refine o_step rfl (step_cast (v' := .bool false) (s_gtr rfl rfl) (by rw [decide_eq_false (by omega)])) ?_
       refine o_step rfl (s_pick_f rfl rfl) ?_
       refine o_nil ?_
       refine x_then (hK3 _ _ ?_)
       refine c_false rfl ?_
       refine c_skip ?_
       refine x_then (hK2 _ _ ?_)
       refine c_seq fun _ hK8 => ?_
       refine c_region ?_
       refine o_step rfl (s_move rfl) ?_
       refine o_step rfl (s_move rfl) ?_
       obtain ⟨p, rfl⟩ : ∃ p : Nat, fr = p := ⟨fr.toNat, by omega⟩
       obtain ⟨q, rfl⟩ : ∃ q : Nat, to = q := ⟨to.toNat, by omega⟩
       refine o_call (ask_fn ra rc re ta tc w hre hr8 (by have := hs.len; omega) hwl x ks hs.part) rfl rfl rfl (by exact .nil) (fun w st => ⟨(RdK.old0 hw.1).out w st, (RdK.old0 hw.2).out w st⟩) (fun v37 S37 ⟨K, Se, hn, hr, e1, e2, e3, e4, hK, hv37, hE, hS37⟩ => ?_)
       subst e1
       subst e2
       subst hv37
       subst hS37
       simp only [vre, vtx, Value.slice.injEq] at e3 e4
       obtain ⟨rfl, _, rfl⟩ := e3
       obtain ⟨rfl, _, rfl⟩ := e4
       refine o_step rfl (s_assign rfl) ?_
       refine o_nil ?_
       refine x_then (hK8 _ _ ?_)
       refine c_seq fun _ hK9 => ?_
       refine c_seq fun _ hK10 => ?_
       refine c_drawE ([(b5, .cells (Esp ⟨p, q⟩).toArray 25 (0, 0)), (K.bS, .cells K.cells.toArray 65 (0, 0))]) (fun i => false) ?_
       refine e_take 0 rfl (by kernel_rfl) (by kernel_rfl) (by kernel_rfl) (by kernel_rfl) (fun _ _ => rfl) rfl hzB (s_move rfl) ?_
       refine e_take 1 rfl (by kernel_rfl) (by kernel_rfl) (by kernel_rfl) (by kernel_rfl) (fun _ _ => rfl) rfl hzB (s_nil rfl) ?_
       refine e_take 2 rfl (by kernel_rfl) (by kernel_rfl) (by kernel_rfl) (by kernel_rfl) (fun _ _ => rfl) rfl hzB (s_field rfl rfl (by decide)) ?_
       refine e_take 3 rfl (by kernel_rfl) (by kernel_rfl) (by kernel_rfl) (by kernel_rfl) (fun _ _ => rfl) rfl hzB (s_ld rfl (.own meA rfl)) ?_
       refine e_take 4 rfl (by kernel_rfl) (by kernel_rfl) (by kernel_rfl) (by kernel_rfl) (fun _ _ => rfl) rfl hzB (s_field rfl rfl (by decide)) ?_
       refine e_take 5 rfl (by kernel_rfl) (by kernel_rfl) (by kernel_rfl) (by kernel_rfl) (fun _ _ => rfl) rfl hzB (s_ld rfl ((.own meA rfl : Cel _ _ _ (.int .i64 (p : Int))))) ?_
       refine e_take 6 rfl (by kernel_rfl) (by kernel_rfl) (by kernel_rfl) (by kernel_rfl) (fun _ _ => rfl) rfl hzB (s_field rfl rfl (by decide)) ?_
       refine e_take 7 rfl (by kernel_rfl) (by kernel_rfl) (by kernel_rfl) (by kernel_rfl) (fun _ _ => rfl) rfl hzB (s_ld rfl ((.own meA rfl : Cel _ _ _ (.int .i64 (q : Int))))) ?_
       refine e_one 8 rfl (by kernel_rfl) ?_
       refine o_callC (us := []) (vs := [_, _, _]) (cs := [pt K.bRe, pt K.bTx, pt K.bA]) (node_all hK hn hr _ x ks (Nat.lt_succ_self _) 0 _ p q [] 0 hs.part (by omega) (by omega) .nil) rfl rfl rfl pkA (fun w st => Env.make (K := K) (S := [(K.bM, mpO [] 0)]) st pkA hw.1 hw.2 hE hiA meA meA meA meA) (fun v46 S46 ⟨es46, c46, hv46, hS46, hm46⟩ => ?_)
       subst hv46
       subst hS46
       cases hb46 : dQ (der1 K.tx x ks p q)
       ·
        refine o_nil ?_
        refine x_oneS hzB ?_
        refine e_take 9 rfl (by kernel_rfl) (by kernel_rfl) (by kernel_rfl) (by kernel_rfl) (fun _ _ => rfl) rfl hzB (s_not rfl) ?_
        refine e_done (by kernel_rfl) ?_
        refine x_then (hK10 _ _ ?_)
        refine c_true rfl ?_
        refine c_seq fun _ hK11 => ?_
        refine c_region ?_
        refine o_step rfl (s_assign rfl) ?_
        refine o_step rfl (s_assign rfl) ?_
        refine o_nil ?_
        refine x_then (hK11 _ _ ?_)
        refine c_ret ?_
        refine x_then_ret (?_)
        refine x_sub (Sub.refl _) (H' := []) HSub.nil ?_
        exact x_ret rfl (.tmp rfl (.tmp rfl (.nil))) (.inr ⟨fun ⟨x2, ks2, p2, q2, hm, h1, h2, h3, h4, h5⟩ => (by obtain ⟨rfl, rfl⟩ := hs.uniq hm.hs; obtain rfl : p = p2 := (by omega); obtain rfl : q = q2 := (by omega); rw [dQ_t h5] at hb46; cases hb46), rfl, rfl⟩)
       ·
        refine o_nil ?_
        refine x_oneS hzB ?_
        refine e_take 9 rfl (by kernel_rfl) (by kernel_rfl) (by kernel_rfl) (by kernel_rfl) (fun _ _ => rfl) rfl hzB (s_not rfl) ?_
        refine e_done (by kernel_rfl) ?_
        refine x_then (hK10 _ _ ?_)
        refine c_false rfl ?_
        refine c_skip ?_
        refine x_then (hK9 _ _ ?_)
        refine c_seq fun _ hK12 => ?_
        refine c_region ?_
        refine o_step rfl (s_move rfl) ?_
        refine o_step rfl (s_ldB rfl (RdPK.cels (.own meA)) lnA) ?_
        refine o_call (captures_fn K hK hn hr hsb x ks hs p q (by omega) (by omega) (dQ_iff.1 hb46) es46 c46 hm46) rfl rfl rfl pkA (fun w st => Env.make (K := K) (S := [(K.bM, mpO es46 c46)]) st pkA hw.1 hw.2 hE hiA meA meA meA meA) (fun v50 S50 ⟨es50, c50, a50, cc50, Sc50, hv50, hS50, hO50⟩ => ?_)
        subst hv50
        subst hS50
        refine o_step rfl (s_assign rfl) ?_
        refine o_step rfl (s_assign rfl) ?_
        refine o_nil ?_
        refine x_then (hK12 _ _ ?_)
        refine c_ret ?_
        refine ?_
        refine x_sub (Sub.refl _) (H' := Sc50) hzB ?_
        exact x_ret rfl (.tmp rfl (.tmp rfl (.nil))) (.inl ⟨x, ks, p, q, ⟨hsb, hrb, hs⟩, rfl, rfl, by omega, by omega, dQ_iff.1 hb46, a50, cc50, rfl, hO50⟩)
   ·
    refine o_step rfl (s_pick_f rfl rfl) ?_
    refine o_step rfl (s_move rfl) ?_
    refine o_no rfl rfl rfl rfl ?_
    refine o_no rfl rfl rfl rfl ?_
    refine o_no rfl rfl rfl rfl ?_
    refine o_step rfl (s_pick_t rfl rfl) ?_
    refine o_step rfl (s_move rfl) ?_
    refine o_no rfl rfl rfl rfl ?_
    refine o_no rfl rfl rfl rfl ?_
    refine o_no rfl rfl rfl rfl ?_
    refine o_no rfl rfl rfl rfl ?_
    refine o_no rfl rfl rfl rfl ?_
    refine o_step rfl (s_pick_t rfl rfl) ?_
    refine o_step rfl (s_move rfl) ?_
    refine o_no rfl rfl rfl rfl ?_
    refine o_no rfl rfl rfl rfl ?_
    refine o_no rfl rfl rfl rfl ?_
    refine o_no rfl rfl rfl rfl ?_
    refine o_no rfl rfl rfl rfl ?_
    refine o_step rfl (s_pick_t rfl rfl) ?_
    refine o_nil ?_
    refine x_then (hK3 _ _ ?_)
    refine c_true rfl ?_
    refine c_seq fun _ hK13 => ?_
    refine c_region ?_
    refine o_step rfl (s_assign rfl) ?_
    refine o_step rfl (s_assign rfl) ?_
    refine o_nil ?_
    refine x_then (hK13 _ _ ?_)
    refine c_ret ?_
    refine x_then_ret (?_)
    refine x_sub (Sub.refl _) (H' := []) HSub.nil ?_
    exact x_ret rfl (.tmp rfl (.tmp rfl (.nil))) (.inr ⟨fun ⟨x2, ks2, p2, q2, hm, h1, h2, h3, h4, h5⟩ => (by have := hm.rf; rw [hrb] at this; cases this), rfl, rfl⟩)

set_option maxHeartbeats 1000000 in
theorem find_fn (ra : Option Addr) (rc : Nat) (re : List Nd) (hre : ∀ x ∈ re, -128 ≤ x.op ∧ x.op < 128) (ta : Option Addr) (tc : Nat) (w : List UInt8) (hwl : w.length ≤ 1000000) (fi : Int) : HL.Fn Try.prog 15 [.slice ra re.length rc, .slice ta w.length tc, .int .i64 fi] (fun W => Rd En W (.slice ra re.length rc) re ∧ Rd Eb W (.slice ta w.length tc) w) [] (FindP 25 re w fi) := by
  refine fn_of Try.func15 rfl rfl rfl fun w0 hw => ?_
  have hst := hw.2.sl
  refine c_seq fun _ hK1 => ?_
  refine c_region ?_
  refine o_step rfl (s_assign rfl) ?_
  refine o_step rfl (s_assign rfl) ?_
  refine o_nil ?_
  refine x_then (hK1 _ _ ?_)
  refine c_seq fun _ hK2 => ?_
  refine c_seq fun _ hK3 => ?_
  refine c_region ?_
  refine o_step rfl (s_move rfl) ?_
  refine o_callP (shaped_fn ra rc re hre) rfl rfl rfl (fun w st => (RdK.old0 hw.1).out w st) (fun v12 hv12 => ?_)
  subst hv12
  cases hsb : shapedB re
  ·
   refine o_step rfl (s_not rfl) ?_
   refine o_step rfl (s_move rfl) ?_
   refine o_no rfl rfl rfl rfl ?_
   refine o_no rfl rfl rfl rfl ?_
   refine o_step rfl (s_pick_t rfl rfl) ?_
   refine o_step rfl (s_move rfl) ?_
   refine o_no rfl rfl rfl rfl ?_
   refine o_no rfl rfl rfl rfl ?_
   refine o_step rfl (s_pick_t rfl rfl) ?_
   refine o_step rfl (s_move rfl) ?_
   refine o_no rfl rfl rfl rfl ?_
   refine o_no rfl rfl rfl rfl ?_
   refine o_no rfl rfl rfl rfl ?_
   refine o_no rfl rfl rfl rfl ?_
   refine o_step rfl (s_pick_t rfl rfl) ?_
   refine o_nil ?_
   refine x_then (hK3 _ _ ?_)
   refine c_true rfl ?_
   refine c_seq fun _ hK4 => ?_
   refine c_region ?_
   refine o_step rfl (s_assign rfl) ?_
   refine o_step rfl (s_assign rfl) ?_
   refine o_nil ?_
   refine x_then (hK4 _ _ ?_)
   refine c_ret ?_
   refine x_then_ret (?_)
   refine x_sub (Sub.refl _) (H' := []) HSub.nil ?_
   exact x_ret rfl (.tmp rfl (.tmp rfl (.nil))) (.inr ⟨fun ⟨x2, ks2, g2, p2, q2, hm, h1, h2, h3, h4⟩ => (by have := hm.sh; rw [hsb] at this; cases this), rfl, rfl⟩)
  ·
   obtain ⟨_, x, ks, hs⟩ := shapedB_iff.1 hsb
   refine o_step rfl (s_not rfl) ?_
   refine o_step rfl (s_move rfl) ?_
   refine o_yes rfl rfl ?_
   refine o_step rfl (s_move rfl) ?_
   refine o_yes rfl rfl ?_
   refine o_callP (refs_fn ra rc re hre) rfl rfl rfl (fun w st => (RdK.old0 hw.1).out w st) (fun v16 hv16 => ?_)
   subst hv16
   cases hrb : refsB re
   ·
    have hr8 := no_refs hsb hrb
    refine o_step rfl (s_pick_f rfl rfl) ?_
    refine o_step rfl (s_move rfl) ?_
    refine o_yes rfl rfl ?_
    refine o_step rfl (s_move rfl) ?_
    refine o_yes rfl rfl ?_
    by_cases hf0 : fi < 0
    ·
     refine o_step rfl (step_cast (v' := .bool true) (s_lss rfl rfl) (by rw [decide_eq_true (by omega)])) ?_
     refine o_step rfl (s_pick_f rfl rfl) ?_
     refine o_step rfl (s_move rfl) ?_
     refine o_no rfl rfl rfl rfl ?_
     refine o_no rfl rfl rfl rfl ?_
     refine o_no rfl rfl rfl rfl ?_
     refine o_no rfl rfl rfl rfl ?_
     refine o_step rfl (s_pick_t rfl rfl) ?_
     refine o_nil ?_
     refine x_then (hK3 _ _ ?_)
     refine c_true rfl ?_
     refine c_seq fun _ hK5 => ?_
     refine c_region ?_
     refine o_step rfl (s_assign rfl) ?_
     refine o_step rfl (s_assign rfl) ?_
     refine o_nil ?_
     refine x_then (hK5 _ _ ?_)
     refine c_ret ?_
     refine x_then_ret (?_)
     refine x_sub (Sub.refl _) (H' := []) HSub.nil ?_
     exact x_ret rfl (.tmp rfl (.tmp rfl (.nil))) (.inr ⟨fun ⟨x2, ks2, g2, p2, q2, hm, h1, h2, h3, h4⟩ => (by omega), rfl, rfl⟩)
    ·
     refine o_step rfl (step_cast (v' := .bool false) (s_lss rfl rfl) (by rw [decide_eq_false (by omega)])) ?_
     refine o_step rfl (s_pick_f rfl rfl) ?_
     refine o_step rfl (s_move rfl) ?_
     refine o_yes rfl rfl ?_
     refine o_step rfl (s_move rfl) ?_
     refine o_yes rfl rfl ?_
     refine o_step rfl (s_move rfl) ?_
     refine o_yes rfl rfl ?_
     refine o_step rfl (s_len rfl) ?_
     refine o_yes rfl rfl ?_
     by_cases hfl : fi > w.length
     ·
      refine o_step rfl (step_cast (v' := .bool true) (s_gtr rfl rfl) (by rw [decide_eq_true (by omega)])) ?_
      refine o_step rfl (s_pick_f rfl rfl) ?_
      refine o_nil ?_
      refine x_then (hK3 _ _ ?_)
      refine c_true rfl ?_
      refine c_seq fun _ hK6 => ?_
      refine c_region ?_
      refine o_step rfl (s_assign rfl) ?_
      refine o_step rfl (s_assign rfl) ?_
      refine o_nil ?_
      refine x_then (hK6 _ _ ?_)
      refine c_ret ?_
      refine x_then_ret (?_)
      refine x_sub (Sub.refl _) (H' := []) HSub.nil ?_
      exact x_ret rfl (.tmp rfl (.tmp rfl (.nil))) (.inr ⟨fun ⟨x2, ks2, g2, p2, q2, hm, h1, h2, h3, h4⟩ => (by have := der1_up _ _ h4; omega), rfl, rfl⟩)
     ·
      refine o_step rfl (step_cast (v' := .bool false) (s_gtr rfl rfl) (by rw [decide_eq_false (by omega)])) ?_
      refine o_step rfl (s_pick_f rfl rfl) ?_
      refine o_nil ?_
      refine x_then (hK3 _ _ ?_)
      refine c_false rfl ?_
      refine c_skip ?_
      refine x_then (hK2 _ _ ?_)
      refine c_seq fun _ hK7 => ?_
      refine c_region ?_
      refine o_step rfl (s_move rfl) ?_
      refine o_step rfl (s_move rfl) ?_
      obtain ⟨f, rfl⟩ : ∃ f : Nat, fi = f := ⟨fi.toNat, by omega⟩
      refine o_call (ask_fn ra rc re ta tc w hre hr8 (by have := hs.len; omega) hwl x ks hs.part) rfl rfl rfl (by exact .nil) (fun w st => ⟨(RdK.old0 hw.1).out w st, (RdK.old0 hw.2).out w st⟩) (fun v30 S30 ⟨K, Se, hn, hr, e1, e2, e3, e4, hK, hv30, hE, hS30⟩ => ?_)
      subst e1
      subst e2
      subst hv30
      subst hS30
      simp only [vre, vtx, Value.slice.injEq] at e3 e4
      obtain ⟨rfl, _, rfl⟩ := e3
      obtain ⟨rfl, _, rfl⟩ := e4
      refine o_step rfl (s_assign rfl) ?_
      refine o_nil ?_
      refine x_then (hK7 _ _ ?_)
      refine c_seq fun _ hK8 => ?_
      refine c_seq fun _ hK9 => ?_
      refine c_region ?_
      refine o_step rfl (s_move rfl) ?_
      refine o_step rfl (s_assign rfl) ?_
      refine o_nil ?_
      refine x_then (hK9 _ _ ?_)
      refine c_block ?_
      -- not carried: 6 7
      refine c_loop3 (fun (i : Nat) (es2 : List Me) (c2 : Nat) => f ≤ i ∧ i ≤ K.tx.length + 1 ∧ (∀ p2 q2, f ≤ p2 → p2 < i → q2 ≤ K.tx.length → ¬ der1 K.tx x ks p2 q2) ∧ MapOk K.tx K.re es2) (fun (i : Nat) (es2 : List Me) (c2 : Nat) => [(9, .int .i64 i)]) [(1, _), (8, _)] (fun (i : Nat) (es2 : List Me) (c2 : Nat) => (K.bM, mpO es2 c2) :: (K.bRe, .cells [K.vre].toArray 22 (0, 0)) :: (K.bTx, .cells [K.vtx].toArray 23 (0, 0)) :: (K.bA, .cells [pt K.bS].toArray 59 (0, 0)) :: (K.bS, .cells K.cells.toArray 65 (0, 0)) :: Se) (fun (i : Nat) (es2 : List Me) (c2 : Nat) => K.tx.length + 1 - i) f [] 0 ⟨by omega, by omega, fun p2 q2 h1 h2 => by omega, .nil⟩ sbA sbA hzB ?_
      rintro i es2 c2 ⟨hi1, hi2, hno, hes2⟩
      refine c_seq fun _ hK10 => ?_
      refine c_seq fun _ hK11 => ?_
      refine c_region ?_
      refine o_step rfl (s_move rfl) ?_
      refine o_step rfl (s_move rfl) ?_
      refine o_step rfl (s_len rfl) ?_
      by_cases hil : (i : Int) ≤ K.tx.length
      ·
       refine o_step rfl (step_cast (v' := .bool true) (s_leq rfl rfl) (by rw [decide_eq_true (by omega)])) ?_
       refine o_nil ?_
       refine x_then (hK11 _ _ ?_)
       refine c_true rfl ?_
       refine c_skip ?_
       refine x_then (hK10 _ _ ?_)
       refine c_seq fun _ hK12 => ?_
       refine c_block ?_
       refine c_seq fun _ hK13 => ?_
       refine c_region ?_
       refine o_step rfl (s_move rfl) ?_
       refine o_step rfl (s_len rfl) ?_
       refine o_step rfl (s_assign rfl) ?_
       refine o_nil ?_
       refine x_then (hK13 _ _ ?_)
       refine c_block ?_
       refine c_loop3 (fun (n : Nat) (es3 : List Me) (c3 : Nat) => i ≤ n ∧ n ≤ K.tx.length + 1 ∧ (∀ q2, n ≤ q2 → q2 ≤ K.tx.length → ¬ der1 K.tx x ks i q2) ∧ MapOk K.tx K.re es3) (fun (n : Nat) (es3 : List Me) (c3 : Nat) => [(10, .int .i64 ((n : Int) - 1))]) [(1, _), (8, _), (9, _), (32, _), (33, _), (34, _), (35, _), (38, _), (39, _)] (fun (n : Nat) (es3 : List Me) (c3 : Nat) => (K.bM, mpO es3 c3) :: (K.bRe, .cells [K.vre].toArray 22 (0, 0)) :: (K.bTx, .cells [K.vtx].toArray 23 (0, 0)) :: (K.bA, .cells [pt K.bS].toArray 59 (0, 0)) :: (K.bS, .cells K.cells.toArray 65 (0, 0)) :: Se) (fun (n : Nat) (es3 : List Me) (c3 : Nat) => n) (K.tx.length + 1) es2 c2 ⟨by omega, by omega, fun q2 h1 h2 => by omega, hes2⟩ (by exact Sub.cons' rfl (by congr 1; omega) sbA) sbA hzB ?_
       rintro n es3 c3 ⟨hn1, hn2, hno3, hes3⟩
       refine c_seq fun _ hK14 => ?_
       refine c_seq fun _ hK15 => ?_
       refine c_region ?_
       refine o_step rfl (s_move rfl) ?_
       refine o_step rfl (s_move rfl) ?_
       by_cases hni : (n : Int) - 1 ≥ i
       ·
        obtain ⟨a, rfl⟩ : ∃ a, n = a + 1 := ⟨n - 1, by omega⟩
        refine o_step rfl (step_cast (v' := .bool true) (s_geq rfl rfl) (by rw [decide_eq_true (by omega)])) ?_
        refine o_nil ?_
        refine x_then (hK15 _ _ ?_)
        refine c_true rfl ?_
        refine c_skip ?_
        refine x_then (hK14 _ _ ?_)
        refine c_seq fun _ hK16 => ?_
        refine c_block ?_
        refine c_seq fun _ hK17 => ?_
        refine c_region ?_
        refine o_step rfl (s_move rfl) ?_
        refine o_step rfl (s_nil rfl) ?_
        refine o_step rfl (s_field rfl rfl (by decide)) ?_
        refine o_step rfl (s_ld rfl (.own meA rfl)) ?_
        refine o_step rfl (s_move rfl) ?_
        refine o_step rfl (step_cast (v' := .int .i64 (a : Int)) (s_move rfl) (congrArg (Value.int .i64) (by omega))) ?_
        refine o_callC (us := []) (vs := [_, _, _]) (cs := [pt K.bRe, pt K.bTx, pt K.bA]) (node_all hK hn hr _ x ks (Nat.lt_succ_self _) 0 _ i a es3 c3 hs.part (by omega) (by omega) hes3) rfl rfl rfl pkA (fun w st => Env.make (K := K) (S := [(K.bM, mpO es3 c3)]) st pkA hw.1 hw.2 hE hiA meA meA meA meA) (fun v51 S51 ⟨es51, c51, hv51, hS51, hm51⟩ => ?_)
        subst hv51
        subst hS51
        cases hb51 : dQ (der1 K.tx x ks i a)
        ·
         have hn51 : ¬ der1 K.tx x ks i a := fun h => by rw [dQ_t h] at hb51; cases hb51
         refine o_nil ?_
         refine x_then (hK17 _ _ ?_)
         refine c_false rfl ?_
         refine c_skip ?_
         refine x_block ?_
         refine x_then (hK16 _ _ ?_)
         refine c_region ?_
         refine o_step rfl (s_move rfl) ?_
         refine o_step rfl (s_sub rfl rfl (by omega)) ?_
         refine o_step rfl (s_assign rfl) ?_
         refine o_nil ?_
         exact x_then (x_inv (a, es51, c51) ⟨by omega, by omega, fun q2 h1 h2 => if e : q2 = a then by subst e; exact hn51 else hno3 q2 (by omega) h2, hm51⟩ (by first | omega | (dsimp only; omega)) (by exact Sub.cons' rfl (by congr 1; omega) sbA) hzB)
        ·
         refine o_nil ?_
         refine x_then (hK17 _ _ ?_)
         refine c_true rfl ?_
         refine c_seq fun _ hK18 => ?_
         refine c_region ?_
         refine o_step rfl (s_move rfl) ?_
         refine o_step rfl (s_move rfl) ?_
         refine o_step rfl (step_cast (v' := .int .i64 (a : Int)) (s_move rfl) (congrArg (Value.int .i64) (by omega))) ?_
         refine o_step rfl (s_build (cs := [_, _]) (vs := [_, _]) rfl rfl (.cons rfl rfl rfl rfl rfl (.cons rfl rfl rfl rfl rfl (.nil)))) ?_
         refine o_call (captures_fn K hK hn hr hsb x ks hs i a (by omega) (by omega) (dQ_iff.1 hb51) es51 c51 hm51) rfl rfl rfl pkA (fun w st => Env.make (K := K) (S := [(K.bM, mpO es51 c51)]) st pkA hw.1 hw.2 hE hiA meA meA meA meA) (fun v56 S56 ⟨es56, c56, a56, cc56, Sc56, hv56, hS56, hO56⟩ => ?_)
         subst hv56
         subst hS56
         refine o_step rfl (s_assign rfl) ?_
         refine o_step rfl (s_assign rfl) ?_
         refine o_nil ?_
         refine x_then (hK18 _ _ ?_)
         refine c_ret ?_
         refine x_block_ret (x_then_ret (x_then_ret (x_block_ret (x_block_ret (x_then_ret (x_then_ret (x_block_ret (x_then_ret (?_)))))))))
         refine x_sub (Sub.refl _) (H' := Sc56) hzB ?_
         exact x_ret rfl (.tmp rfl (.tmp rfl (.nil))) (.inl ⟨x, ks, f, i, a, ⟨hsb, hrb, hs⟩, rfl, ⟨hi1, by omega, by omega, dQ_iff.1 hb51, hno, fun q2 h1 h2 => hno3 q2 (by omega) h2⟩, a56, cc56, rfl, hO56⟩)
       ·
        obtain rfl : i = n := by omega
        refine o_step rfl (step_cast (v' := .bool false) (s_geq rfl rfl) (by rw [decide_eq_false (by omega)])) ?_
        refine o_nil ?_
        refine x_then (hK15 _ _ ?_)
        refine c_false rfl ?_
        refine c_exit ?_
        refine x_then_exit ?_
        refine x_then_exit ?_
        refine x_block_exit ?_
        refine x_block ?_
        refine x_then (hK12 _ _ ?_)
        refine c_region ?_
        refine o_step rfl (s_move rfl) ?_
        refine o_step rfl (s_add rfl rfl (by omega)) ?_
        refine o_step rfl (s_assign rfl) ?_
        refine o_nil ?_
        exact x_then (x_inv ((i + 1), es3, c3) ⟨by omega, by omega, fun p2 q2 h1 h2 h3 h4 => if e : p2 = i then by subst e; exact hno3 q2 (der1_up _ _ h4) h3 h4 else hno p2 q2 h1 (by omega) h3 h4, hes3⟩ (by first | omega | (dsimp only; omega)) sbA hzB)
      ·
       refine o_step rfl (step_cast (v' := .bool false) (s_leq rfl rfl) (by rw [decide_eq_false (by omega)])) ?_
       refine o_nil ?_
       refine x_then (hK11 _ _ ?_)
       refine c_false rfl ?_
       refine c_exit ?_
       refine x_then_exit ?_
       refine x_then_exit ?_
       refine x_block_exit ?_
       refine x_then (hK8 _ _ ?_)
       refine c_seq fun _ hK19 => ?_
       refine c_region ?_
       refine o_step rfl (s_assign rfl) ?_
       refine o_step rfl (s_assign rfl) ?_
       refine o_nil ?_
       refine x_then (hK19 _ _ ?_)
       refine c_ret ?_
       refine ?_
       refine x_sub (Sub.refl _) (H' := []) HSub.nil ?_
       exact x_ret rfl (.tmp rfl (.tmp rfl (.nil))) (.inr ⟨fun ⟨x2, ks2, g2, p2, q2, hm, h1, h2, h3, h4⟩ => (by obtain ⟨rfl, rfl⟩ := hs.uniq hm.hs; have := der1_up _ _ h4; exact hno p2 q2 (by omega) (by omega) h3 h4), rfl, rfl⟩)
   ·
    refine o_step rfl (s_pick_f rfl rfl) ?_
    refine o_step rfl (s_move rfl) ?_
    refine o_no rfl rfl rfl rfl ?_
    refine o_no rfl rfl rfl rfl ?_
    refine o_step rfl (s_pick_t rfl rfl) ?_
    refine o_step rfl (s_move rfl) ?_
    refine o_no rfl rfl rfl rfl ?_
    refine o_no rfl rfl rfl rfl ?_
    refine o_no rfl rfl rfl rfl ?_
    refine o_no rfl rfl rfl rfl ?_
    refine o_step rfl (s_pick_t rfl rfl) ?_
    refine o_nil ?_
    refine x_then (hK3 _ _ ?_)
    refine c_true rfl ?_
    refine c_seq fun _ hK20 => ?_
    refine c_region ?_
    refine o_step rfl (s_assign rfl) ?_
    refine o_step rfl (s_assign rfl) ?_
    refine o_nil ?_
    refine x_then (hK20 _ _ ?_)
    refine c_ret ?_
    refine x_then_ret (?_)
    refine x_sub (Sub.refl _) (H' := []) HSub.nil ?_
    exact x_ret rfl (.tmp rfl (.tmp rfl (.nil))) (.inr ⟨fun ⟨x2, ks2, g2, p2, q2, hm, h1, h2, h3, h4⟩ => (by have := hm.rf; rw [hrb] at this; cases this), rfl, rfl⟩)
end Go.Proofs.Ytiggliigookieaa

/- Machines of parts: rows of sets, searched and put together. Conditions: none. -/
namespace Go.HL.Kl.Mc
open Go Go.HL Go.HL.Kl
/-- rows of sets -/
structure RowsP (rs : List (Sl Bool)) (N : Nat) (D : Nat → Nat → Prop) : Prop where
  len : rs.length = N + 1
  get : ∀ p, p ≤ N → ∃ s, rs[p]? = some s ∧ IsS s.xs N (D p)
/-- the first k rows -/
structure RowsTo (rs : List (Sl Bool)) (N k : Nat) (D : Nat → Nat → Prop) : Prop where
  len : rs.length = k
  get : ∀ p, p < k → ∃ s, rs[p]? = some s ∧ IsS s.xs N (D p)
/-- rows that a part of the heap bears -/
structure RdRows (W : World) (v : Value) (rs : List (Sl Bool)) : Prop where
  out : Rd (Esl (α := Bool)) W v rs
  row : ∀ s ∈ rs, Rd Ebo W (.slice s.a s.xs.length s.c) s.xs
/-! a set, added place by place -/
def orTo (a b : List Bool) (i : Nat) : List Bool := (List.range a.length).map fun j => if j < i then orF a b j else bo0 a j
def fromTo (D : Nat → Nat → Prop) (P : Nat → Prop) (k q : Nat) : Prop := ∃ p, p < k ∧ P p ∧ D p q
structure AgP (N : Nat) (D : Nat → Nat → Prop) (p : Nat) (out : List Bool) (todo : List Nat) : Prop where
  len : out.length = N + 1
  me : out[p]? = some true
  sound : ∀ q : Nat, out[q]? = some true → ∃ k, pow D k p q
  td : ∀ t ∈ todo, out[t]? = some true
  closed : ∀ q : Nat, out[q]? = some true → q ∉ todo → ∀ r, r ≤ N → D q r → out[r]? = some true
/-- the place t at hand, its first k targets looked at -/
structure AgK (N : Nat) (D : Nat → Nat → Prop) (p t k : Nat) (out : List Bool) (todo : List Nat) : Prop where
  len : out.length = N + 1
  me : out[p]? = some true
  tt : out[t]? = some true
  sound : ∀ q : Nat, out[q]? = some true → ∃ k, pow D k p q
  td : ∀ t ∈ todo, out[t]? = some true
  closed : ∀ q : Nat, out[q]? = some true → q ∉ todo → q ≠ t → ∀ r, r ≤ N → D q r → out[r]? = some true
  part : ∀ r, r < k → D t r → out[r]? = some true
def mvN (g : Nat) (x : Nd) : Nd := if 0 < x.n then { x with n := IntKind.i64.wrap (x.n + g) } else x
def F.mv (g : Nat) : F → F
  | .nil => .nil
  | .nd x ks r => .nd (mvN g x) (ks.mv g) (r.mv g)
/-- two regexes under one node -/
def catN : Nd := ⟨4, 0, 0, 0, 0, 2⟩
def altN : Nd := ⟨5, 0, 0, 0, 0, 2⟩
def twoL (n : Nd) (a b : List Nd) (g : Nat) : List Nd := n :: (a ++ b.map (mvN g))
end Go.HL.Kl.Mc
namespace Go.HL.Kl.Mc
open Go Go.HL Go.HL.Kl
def mvTo (g : Nat) (b : List Nd) (j : Nat) : List Nd := (b.take j).map (mvN g) ++ b.drop j
/-- the answer of runs -/
def RowsC (N : Nat) (D : Nat → Nat → Prop) (v : Value) (S : Hp) : Prop := ∃ (a : Option Addr) (c : Nat) (rs : List (Sl Bool)), v = .slice a rs.length c ∧ RowsP rs N D ∧ ∀ W : World, (∀ b o, (b, o) ∈ S → W.heap[b]? = some o) → RdRows W (.slice a rs.length c) rs
/-- read as rows, in every world that bears this part -/
def RdRS (v : Value) (rs : List (Sl Bool)) (S : Hp) : Prop := ∀ W : World, (∀ b o, (b, o) ∈ S → W.heap[b]? = some o) → RdRows W v rs
end Go.HL.Kl.Mc

/- What Compile answers, as a pair; nodes written out. Conditions: none. -/
namespace Go.HL.Kl.Mc
open Go Go.HL Go.HL.Kl
/-- an answer of Compile that is good -/
def CompOk (re : List Nd) (sv : Value) (S : Hp) (x : Nd) (ks : F) : Prop := ∃ a, shapedB re = true ∧ refsB re = false ∧ Shp re x ks ∧ sv = .slice a (mach (.nd x ks .nil)).length (mach (.nd x ks .nil)).length ∧ RdS Ein (.slice a (mach (.nd x ks .nil)).length (mach (.nd x ks .nil)).length) (mach (.nd x ks .nil)) S
end Go.HL.Kl.Mc

/- Rows of bytes, so many times. Conditions: none. -/
namespace Go.HL.Kl.Mc
open Go Go.HL Go.HL.Kl
/-! well shaped: forests without groups and references -/
def F.plain : F → Prop
  | .nil => True
  | .nd x ks r => (¬ x.op = 7 ∧ ¬ x.op = 8) ∧ ks.plain ∧ r.plain
def endN : Nd := ⟨4, 0, 0, 0, 0, 0⟩
def rowN (n : Nat) : Nd := ⟨4, 0, 0, 0, 0, (n : Int) + 1⟩
def timN (l m : Nat) : Nd := ⟨6, 0, 0, l, (l : Int) + m, 1⟩
def rowF : List UInt8 → F
  | [] => .nd endN .nil .nil
  | b :: bs => .nd (letN b) .nil (rowF bs)
def rowR (row : List UInt8) (l m : Nat) : List Nd := timN l m :: rowN row.length :: (row.map letN ++ [endN])
theorem let_ok' (b : UInt8) : ndOk (letN b) = true := by
  have : flds (letN b) = true := flds_iff.2 ⟨by simp [letN], .inl rfl, .inr (.inr rfl), (fun h => by cases h), fun _ => ⟨rfl, rfl⟩⟩
  rw [ndOk, this]; rfl
def Mt (row w : List UInt8) (p : Nat) : Prop := (w.drop p).take row.length = row
theorem der_let {w : List UInt8} {b : UInt8} {p q : Nat} : der1 w (letN b) .nil p q ↔ q = p + 1 ∧ w[p]? = some b := by
  rw [der1_def, if_pos (show (letN b).op = 1 from rfl)]
  refine and_congr_right fun _ => ⟨fun ⟨c, hc, hs⟩ => ?_, fun h => ⟨b, h, ?_⟩⟩
  · rw [show (letN b).set = bit b.toNat from rfl, bit_get c.toNat_lt, decide_eq_true_eq] at hs
    rw [hc, UInt8.toNat_inj.1 hs]
  · rw [show (letN b).set = bit b.toNat from rfl, bit_get b.toNat_lt, decide_eq_true_eq]
/-- the greatest number of rounds -/
def Most (row w : List UInt8) (n k : Nat) : Prop := k ≤ n ∧ (∀ j, j < k → Mt row w (j * row.length)) ∧ (k = n ∨ ¬ Mt row w (k * row.length))
end Go.HL.Kl.Mc

/- Groups lie in the match, inner ones in outer ones; the known run. Conditions: none. -/
namespace Go.HL.Kl.Mc
open Go Go.HL Go.HL.Kl AskE
def gl (l : List Nd) : List Nat := (l.filter fun y => decide (y.op = 7)).map fun y => y.n.toNat
def gn (f : F) : List Nat := gl f.flat
def Non (f : F) (cs : List Sp) : Prop := ∀ i ∈ gn f, cs[i]? = some noS
def Nst : F → Int → Int → List Sp → Prop
  | .nil, _, _, _ => True
  | .nd x ks r, lo, hi, cs => (if x.op = 7 then ∃ s, cs[x.n.toNat]? = some s ∧ ((s = noS ∧ Non ks cs) ∨ (lo ≤ s.fr ∧ s.fr ≤ s.to ∧ s.to ≤ hi ∧ Nst ks s.fr s.to cs)) else Nst ks lo hi cs) ∧ Nst r lo hi cs
end Go.HL.Kl.Mc

/- What the laws ask of the groups; the known run. Conditions: none. -/
namespace Go.HL.Kl.Mc
open Go Go.HL Go.HL.Kl AskE
def catC : Nd := ⟨4, 0, 0, 0, 0, 2⟩
def grpC : Nd := ⟨7, 0, 1, 0, 0, 1⟩
def reC : List Nd := [catC, grpC, starN, letN 97, letN 98]
def ksG : F := .nd starN ksW .nil
def ksB : F := .nd (letN 98) .nil .nil
def ksC : F := .nd grpC ksG ksB
def wC : List UInt8 := [99, 97, 97, 98]
theorem shpC : Shp reC catC ksC := ⟨⟨by decide +kernel, rfl, ⟨by decide +kernel, rfl, wfW, let_ok' 98, rfl, trivial, trivial⟩, trivial⟩, rfl, by decide, by decide +kernel⟩
theorem shapedC : shapedB reC = true := shapedB_iff.2 ⟨⟨[true], by decide +kernel⟩, _, _, shpC⟩
theorem rngC : ∀ x ∈ reC, -128 ≤ x.op ∧ x.op < 128 := by simp [reC, catC, grpC, starN, letN]
theorem refsC : refsB reC = false := refs_no fun j x hj hx h8 => by
  have := List.mem_of_getElem? hx
  simp only [reC, List.mem_cons, List.not_mem_nil, or_false] at this
  rcases this with rfl | rfl | rfl | rfl | rfl <;> cases h8
theorem mayC : May reC wC catC ksC := ⟨shapedC, refsC, shpC⟩
theorem powC {k p q : Nat} (h : pow (der wC ksW false) k p q) : q = p ∨ (1 ≤ p ∧ q ≤ 3) := by
  induction k generalizing p with
  | zero => exact .inl h.symm
  | succ k ih =>
    obtain ⟨m, h1, h2⟩ := h
    obtain ⟨rfl, h3⟩ := der_let.1 (der_one.1 h1)
    have hp : 1 ≤ p ∧ p < 3 := by
      match p, h3 with
      | 0, h3 => cases h3
      | 1, _ => omega
      | 2, _ => omega
      | 3, h3 => cases h3
      | p + 4, h3 => cases h3
    rcases ih h2 with e | e <;> omega
theorem derC {p q : Nat} : der1 wC catC ksC p q ↔ q = 4 ∧ 1 ≤ p ∧ p ≤ 3 := by
  rw [der1_4 (.inl rfl), ksC, der_cat]
  constructor
  · rintro ⟨t, h1, h2⟩
    obtain ⟨rfl, h3⟩ := der_let.1 (der_one.1 h2)
    have ht : t = 3 := by
      match t, h3 with
      | 0, h3 => cases h3
      | 1, h3 => cases h3
      | 2, h3 => cases h3
      | 3, _ => rfl
      | t + 4, h3 => cases h3
    subst ht
    rw [der1_4 (.inr rfl), ksG, der_one, der1_6 rfl] at h1
    obtain ⟨k, _, _, hk⟩ := h1
    rcases powC hk with e | e
    · omega
    · have := pow_up (der_up _ _) _ _ _ hk; omega
  · rintro ⟨rfl, h1, h2⟩
    refine ⟨3, ?_, der_one.2 (der_let.2 ⟨rfl, rfl⟩)⟩
    rw [der1_4 (.inr rfl), ksG, der_one, der1_6 rfl]
    have one : ∀ t, 1 ≤ t → t < 3 → der wC ksW false t (t + 1) := fun t a b => der_one.2 (der_let.2 ⟨rfl, by
      rcases (show t = 1 ∨ t = 2 by omega) with rfl | rfl <;> rfl⟩)
    rcases (show p = 1 ∨ p = 2 ∨ p = 3 by omega) with rfl | rfl | rfl
    · exact ⟨2, by decide, .inl rfl, 2, one 1 (by omega) (by omega), 3, one 2 (by omega) (by omega), rfl⟩
    · exact ⟨1, by decide, .inl rfl, 3, one 2 (by omega) (by omega), rfl⟩
    · exact ⟨0, by decide, .inl rfl, rfl⟩
theorem fgt_plain : ∀ (l : List Nd) (cs : List Sp), (∀ y ∈ l, ¬ y.op = 7) → fgt l cs = cs
  | [], cs, _ => rfl
  | x :: l, cs, h => by
    show fgt l (fg1 cs x) = cs
    rw [fg1, if_neg (h x List.mem_cons_self)]
    exact fgt_plain l cs fun y hy => h y (List.mem_cons_of_mem _ hy)
theorem reps_id {x : Nd} {D : Nat → Nat → Prop} {B : Nat → Nat → List Sp → List Sp} {q : Nat} (hB : ∀ p q cs, B p q cs = cs) : ∀ f r p cs, reps x D B q f r p cs = cs
  | 0, r, p, cs => rfl
  | f + 1, r, p, cs => by
    rw [reps]; split
    · rw [reps_id hB f, hB]
    · rfl
theorem bst1_plain {w : List UInt8} {x : Nd} {ks : F} (hk : ∀ m p q cs, bst w ks m p q cs = cs) (hx : ¬ x.op = 7) (hf : ∀ y ∈ ks.flat, ¬ y.op = 7) {p q : Nat} {cs : List Sp} : bst1 w x ks p q cs = cs := by
  unfold bst1
  rw [if_neg hx]
  split
  · exact hk _ _ _ _
  split
  · exact hk _ _ _ _
  split
  · exact reps_id (fun p q cs => by rw [hk, fgt_plain _ _ hf]) _ _ _ _
  · rfl
theorem bst_plain {w : List UInt8} : ∀ (f : F), (∀ y ∈ f.flat, ¬ y.op = 7) → ∀ (m : Bool) (p q : Nat) (cs : List Sp), bst w f m p q cs = cs
  | .nil, _, m, p, q, cs => bst_nil
  | .nd x ks r, h, m, p, q, cs => by
    have hk : ∀ y ∈ ks.flat, ¬ y.op = 7 := fun y hy => h y (by simp [F.flat, hy])
    have hr : ∀ y ∈ r.flat, ¬ y.op = 7 := fun y hy => h y (by simp [F.flat, hy])
    have h1 : ∀ p q cs, bst1 w x ks p q cs = cs := fun p q cs => bst1_plain (fun m p q cs => bst_plain ks hk m p q cs) (h x (by simp [F.flat])) hk
    cases m with
    | true =>
      rw [bst_alt, h1]; split
      · rfl
      · exact bst_plain r hr true p q cs
    | false =>
      conv => lhs; rw [bst]
      show bst w r false _ q (bst1 w x ks p _ cs) = cs
      rw [h1, bst_plain r hr]
theorem capsC {p : Nat} (h1 : 1 ≤ p) (h2 : p ≤ 3) : capsV wC reC catC ksC p 4 = [⟨p, 4⟩, ⟨p, 3⟩] := by
  have hd := (derC (p := p) (q := 4)).2 ⟨rfl, h1, h2⟩
  have hg : der1 wC grpC ksG p 3 := by
    obtain ⟨t, a, b⟩ := der_cat.1 ((der1_4 (.inl rfl)).1 hd)
    have := (der_let.1 (der_one.1 b)).1
    obtain rfl : t = 3 := by omega
    exact a
  have hG : Grt (fun n => der1 wC grpC ksG p n ∧ der wC ksB false n 4) p 4 3 := ⟨h2, by decide, ⟨hg, der_one.2 (der_let.2 ⟨rfl, rfl⟩)⟩, fun n a b ⟨_, c⟩ => by
    have := (der_let.1 (der_one.1 c)).1; omega⟩
  have e1 : gcn reC + 1 = 2 := by decide +kernel
  rw [capsV, e1, bst1_4 rfl, ksC, bst_cat hG, bst_plain ksB (by simp [ksB, F.flat, letN]), bst1_7 rfl, bst_plain ksG (by simp [ksG, ksW, F.flat, letN, starN]), fgt_plain _ _ (by simp [ksG, ksW, F.flat, letN, starN])]
  rfl
theorem findC {T : Nat} {v : Value} {S' : Hp} (h : FindP T reC wC 0 v S') : ∃ a cc, v = .tuple #[.slice a 2 cc, .bool true] ∧ OwnS Esp 2 T (.slice a 2 cc) [⟨1, 4⟩, ⟨1, 3⟩] S' := by
  rcases h with ⟨x, ks, g, p, q, hm, hg, hl, a, cc, hv, hO⟩ | ⟨hn, _⟩
  · obtain ⟨rfl, rfl⟩ := hm.hs.uniq shpC
    obtain ⟨rfl, h1, h2⟩ := derC.1 hl.der
    obtain rfl : g = 0 := by omega
    have hp : p = 1 := by
      rcases Nat.lt_or_ge 1 p with h | h
      · exact absurd (derC.2 ⟨rfl, by decide, by decide⟩) (hl.left 1 4 (by decide) h (by decide))
      · omega
    subst hp
    rw [capsC (by decide) (by decide)] at hv hO
    exact ⟨a, cc, hv, hO⟩
  · exact absurd ⟨catC, ksC, 0, 1, 4, mayC, rfl, by decide, by decide, derC.2 ⟨rfl, by decide, by decide⟩⟩ hn
theorem bestC {T : Nat} {v : Value} {S' : Hp} (h : BestP T reC wC 2 4 v S') : ∃ a cc, v = .tuple #[.slice a 2 cc, .bool true] ∧ OwnS Esp 2 T (.slice a 2 cc) [⟨2, 4⟩, ⟨2, 3⟩] S' := by
  rcases h with ⟨x, ks, p, q, hm, hp, hq, _, _, hd, a, cc, hv, hO⟩ | ⟨hn, _⟩
  · obtain ⟨rfl, rfl⟩ := hm.hs.uniq shpC
    obtain rfl : p = 2 := by omega
    obtain rfl : q = 4 := by omega
    rw [capsC (by decide) (by decide)] at hv hO
    exact ⟨a, cc, hv, hO⟩
  · exact absurd ⟨catC, ksC, 2, 4, mayC, rfl, rfl, by decide, by decide, derC.2 ⟨rfl, by decide, by decide⟩⟩ hn
theorem En_catC : En catC = [.int .i8 4, .int .u64 0, .int .u64 0, .int .u64 0, .int .u64 0, .int .i64 0, .int .i64 0, .int .i64 0, .int .i64 2] := by
  show _ :: (Ec 0#256 ++ _) = _
  rw [Ec_zero]; rfl
theorem En_grpC : En grpC = [.int .i8 7, .int .u64 0, .int .u64 0, .int .u64 0, .int .u64 0, .int .i64 1, .int .i64 0, .int .i64 0, .int .i64 1] := by
  show _ :: (Ec 0#256 ++ _) = _
  rw [Ec_zero]; rfl
end Go.HL.Kl.Mc

/- Spans compared. Conditions: none. -/
namespace Go.HL.Kl.Mc
open Go Go.HL Go.HL.Kl
section
variable {P : Program} {κ : Cx} {L : Loc} {H : Hp} {ty t t' : TypeId} {x y : Operand}
theorem sp_fq {e : Nat} [TU P e (.int .i64)] [TG P e true] (w : World) (p q : Sp) : FQ P w 9998 (Esp p).toArray (Esp q).toArray [(e, 0), (e, 1)] (decide (p = q)) := by
  have h : FQ P w 9998 (Esp p).toArray (Esp q).toArray [(e, 0), (e, 1)] _ :=
    .int (j := .i64) (p := p.fr) (q := q.fr) rfl rfl (.int (j := .i64) (p := p.to) (q := q.to) rfl rfl .nil)
  have e : (p.fr == q.fr && (p.to == q.to && true)) = decide (p = q) := by
    cases p; cases q
    simp only [Sp.mk.injEq, Bool.and_true]
    rw [Bool.eq_iff_iff]
    simp
  rw [← e]; exact h
theorem s_neq_sp {e : Nat} [EG P t] [TU P e (.int .i64)] [TG P e true] [TQ P t [(e, 0), (e, 1)]] {p q : Sp} (hx : ev L x = some (.agg (Esp p).toArray)) (hy : ev L y = some (.agg (Esp q).toArray)) : Step P κ (.binOp .neq t x y t') ty L H (.bool (!decide (p = q))) :=
  s_neq_st hx hy fun w => sp_fq w p q
end
end Go.HL.Kl.Mc
