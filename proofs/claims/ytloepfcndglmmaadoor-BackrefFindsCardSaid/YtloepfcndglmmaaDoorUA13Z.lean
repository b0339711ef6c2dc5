/- The bag of spans and nodes. Conditions: none. -/
import Derived.Test.YtloepfcndglmmaaDoorHTZ
import Derived.Test.YtloepfcndglmmaaDoorUZG5Z
import Derived.Test.YtloepfcndglmmaaDoorUA11Z
import Derived.Test.YtloepfcndglmmaaDoorBV1Z
import Derived.Test.YtloepfcndglmmaaDoorVA1Z
import Derived.Test.YtloepfcndglmmaaDoorHlB
import Derived.Test.YtloepfcndglmmaaDoorHM2Z
import Derived.Test.YtloepfcndglmmaaDoorRows
import Derived.ProofKit
import Derived.LaidMore
import Derived.Stop.Joined
import Derived.Lib.LaidTab
import Derived.ChangeSame
namespace Go.Proofs.YtloepfcndglmmaaDoor
open Go Go.HL Go.Proofs Go.Tab Go.HL.Kl Go.HL.Kl.Mc
theorem addSpans_fn (b : Nat) (cs : List Value) (sls : List (Sl Sp)) (s : Sl Sp) (oa : Option Addr) (oc : Nat) (So : Hp) (hb : cs[5]? = some (.slice oa sls.length oc)) (hN : sls.length < 400) (hO : OwnS Esl 1 32 (.slice oa sls.length oc) sls So) : HL.Fn Tryd.prog 32 [.pointer (some ⟨b, 0, none⟩), .slice s.a s.xs.length s.c] (fun _ => True) ((b, .cells cs.toArray 72 (0, 0)) :: So) (fun _ S' => ∃ (cs' : List Value) (oa' : Option Addr) (oc' : Nat) (So' : Hp), S' = (b, .cells cs'.toArray 72 (0, 0)) :: So' ∧ cs'[5]? = some (.slice oa' (sls ++ [s]).length oc') ∧ (∀ i, i ≠ 5 → cs'[i]? = cs[i]?) ∧ OwnS Esl 1 32 (.slice oa' (sls ++ [s]).length oc') (sls ++ [s]) So') := by
  refine fn_of Tryd.func32 rfl rfl rfl fun w0 hw => ?_
  have hcl : 5 < cs.length := (List.getElem?_eq_some_iff.1 hb).1
  refine cR fun _ hK1 => ?_; refine oM ?_; refine oS sN ?_; refine oS sF ?_; refine oS (s_ld rfl (.own meA hb)) ?_; refine oS sC ?_; refine oS (s_lss_t rfl rfl (by omega)) ?_; refine oZ hK1 ?_; refine cT (c_region (oM (oM ?_))); refine oS sN ?_; refine oS sF ?_; refine oS (s_ld rfl (.own meA hb)) ?_; refine oM ?_; refine o_bs (E := Esl) (xs := [s]) (vs := [_]) rfl rfl rfl rfl rfl (by decide) (by decide) fun b16 S16 hS16 => ?_; refine o_app hO (hS16.rdk hiA) rfl rfl rfl rfl (by simp only [List.length_singleton]; omega) (by simp only [List.length_singleton]; omega) rfl pkA fun a17 c17 S17 hS17 => ?_; refine oS sN ?_; refine oS sF ?_; refine o_store rfl rfl rfl upA ltA rfl ?_; refine o_nil ?_; refine x_sub (Sub.refl _) (H' := (b, .cells (cs.set 5 (.slice a17 (sls ++ [s]).length c17)).toArray 72 (0, 0)) :: S17) hzB ?_; exact x_end rfl (.nil) (⟨_, _, _, _, rfl, List.getElem?_set_self hcl, fun i hi => List.getElem?_set_ne (Ne.symm hi), hS17⟩)
theorem addNodes_fn (b : Nat) (cs : List Value) (sls : List (Sl Nd)) (s : Sl Nd) (oa : Option Addr) (oc : Nat) (So : Hp) (hb : cs[8]? = some (.slice oa sls.length oc)) (hN : sls.length < 400) (hO : OwnS Esl 1 22 (.slice oa sls.length oc) sls So) : HL.Fn Tryd.prog 33 [.pointer (some ⟨b, 0, none⟩), .slice s.a s.xs.length s.c] (fun _ => True) ((b, .cells cs.toArray 72 (0, 0)) :: So) (fun _ S' => ∃ (cs' : List Value) (oa' : Option Addr) (oc' : Nat) (So' : Hp), S' = (b, .cells cs'.toArray 72 (0, 0)) :: So' ∧ cs'[8]? = some (.slice oa' (sls ++ [s]).length oc') ∧ (∀ i, i ≠ 8 → cs'[i]? = cs[i]?) ∧ OwnS Esl 1 22 (.slice oa' (sls ++ [s]).length oc') (sls ++ [s]) So') := by
  refine fn_of Tryd.func33 rfl rfl rfl fun w0 hw => ?_
  have hcl : 8 < cs.length := (List.getElem?_eq_some_iff.1 hb).1
  refine cR fun _ hK1 => ?_; refine oM ?_; refine oS sN ?_; refine oS sF ?_; refine oS (s_ld rfl (.own meA hb)) ?_; refine oS sC ?_; refine oS (s_lss_t rfl rfl (by omega)) ?_; refine oZ hK1 ?_; refine cT (c_region (oM (oM ?_))); refine oS sN ?_; refine oS sF ?_; refine oS (s_ld rfl (.own meA hb)) ?_; refine oM ?_; refine o_bs (E := Esl) (xs := [s]) (vs := [_]) rfl rfl rfl rfl rfl (by decide) (by decide) fun b16 S16 hS16 => ?_; refine o_app hO (hS16.rdk hiA) rfl rfl rfl rfl (by simp only [List.length_singleton]; omega) (by simp only [List.length_singleton]; omega) rfl pkA fun a17 c17 S17 hS17 => ?_; refine oS sN ?_; refine oS sF ?_; refine o_store rfl rfl rfl upA ltA rfl ?_; refine o_nil ?_; refine x_sub (Sub.refl _) (H' := (b, .cells (cs.set 8 (.slice a17 (sls ++ [s]).length c17)).toArray 72 (0, 0)) :: S17) hzB ?_; exact x_end rfl (.nil) (⟨_, _, _, _, rfl, List.getElem?_set_self hcl, fun i hi => List.getElem?_set_ne (Ne.symm hi), hS17⟩)
theorem apart_fn (b : Nat) (cs : List Value) (sls : List (Sl Sp)) (oa : Option Addr) (oc : Nat) (So Si : Hp) (hb : cs[5]? = some (.slice oa sls.length oc)) (hz : ∀ i, i < 19 → i ≠ 5 → i ≠ 8 → cs[i]? = some (.slice none 0 0)) (hN : sls.length ≤ 400) (hlen : ∀ (j : Nat) (s : Sl Sp), sls[j]? = some s → s.xs.length ≤ 4294967296) (hO : OwnS Esl 1 32 (.slice oa sls.length oc) sls So) (xss0 : List (List Sp)) (hI : OwnL Esp 2 45 sls xss0 Si) (nls : List (Sl Nd)) (na : Option Addr) (nc : Nat) (Sn Sm : Hp) (hb8 : cs[8]? = some (.slice na nls.length nc)) (hN8 : nls.length ≤ 400) (hlen8 : ∀ (j : Nat) (s : Sl Nd), nls[j]? = some s → s.xs.length ≤ 4294967296) (hO8 : OwnS Esl 1 22 (.slice na nls.length nc) nls Sn) (xss8 : List (List Nd)) (hI8 : OwnL En 9 80 nls xss8 Sm) : HL.Fn Tryd.prog 34 [.pointer (some ⟨b, 0, none⟩)] (fun _ => True) ((b, .cells cs.toArray 72 (0, 0)) :: (So ++ (Sn ++ (Sm ++ Si)))) (fun v S' => v = .bool true ∧ ∃ G, S' = (b, .cells cs.toArray 72 (0, 0)) :: (So ++ (Sn ++ G)) ∧ ∀ (j : Nat) (s : Sl Nd), nls[j]? = some s → OwnAt En 9 80 s.v (mkL fNd j s.xs.length) G) := by
  refine fn_of Tryd.func34 rfl rfl rfl fun w0 hw => ?_; refine cR fun _ hK1 => ?_; refine oA (oZ hK1 (cR fun _ hK2 => ?_)); refine oA (oZ hK2 (c_seq fun _ hK3 => ?_)); refine cR fun _ hK4 => ?_; refine oM ?_; refine o_callP (apartBytes0_fn b cs (hz 0 (by decide) (by decide) (by decide))) rfl rfl rfl (fun w st => (RdPK.own (l := cs) meA).out w st) (fun v5 hv5 => ?_); subst hv5
  refine oS (s_not rfl) ?_; refine oZ hK4 ?_; refine cFZ hK3 (c_seq fun _ hK5 => ?_); refine cR fun _ hK6 => ?_; refine oM ?_; refine o_callP (apartInts0_fn b cs (hz 1 (by decide) (by decide) (by decide))) rfl rfl rfl (fun w st => (RdPK.own (l := cs) meA).out w st) (fun v8 hv8 => ?_); subst hv8
  refine oS (s_not rfl) ?_; refine oZ hK6 ?_; refine cFZ hK5 (c_seq fun _ hK7 => ?_); refine cR fun _ hK8 => ?_; refine oM ?_; refine o_callP (apartBools0_fn b cs (hz 2 (by decide) (by decide) (by decide))) rfl rfl rfl (fun w st => (RdPK.own (l := cs) meA).out w st) (fun v11 hv11 => ?_); subst hv11
  refine oS (s_not rfl) ?_; refine oZ hK8 ?_; refine cFZ hK7 (c_seq fun _ hK9 => ?_); refine cR fun _ hK10 => ?_; refine oM ?_; refine o_callP (apartTexts0_fn b cs (hz 3 (by decide) (by decide) (by decide))) rfl rfl rfl (fun w st => (RdPK.own (l := cs) meA).out w st) (fun v14 hv14 => ?_); subst hv14
  refine oS (s_not rfl) ?_; refine oZ hK10 ?_; refine cFZ hK9 (c_seq fun _ hK11 => ?_); refine cR fun _ hK12 => ?_; refine oM ?_; refine o_callP (apartMarks0_fn b cs (hz 4 (by decide) (by decide) (by decide))) rfl rfl rfl (fun w st => (RdPK.own (l := cs) meA).out w st) (fun v17 hv17 => ?_); subst hv17
  refine oS (s_not rfl) ?_; refine oZ hK12 ?_; refine cFZ hK11 (c_seq fun _ hK13 => ?_); refine cR fun _ hK14 => ?_; refine oM ?_; refine o_call (apartSpans_fn b cs sls oa oc So Si hb hN hlen hO xss0 hI) rfl rfl rfl ((Pick.takeC pkA (Pick.takeA pkA pkA))) (fun _ _ => trivial) (fun v20 S20 ⟨hv20, hS20⟩ => ?_); subst hv20
  subst hS20; refine oS (s_not rfl) ?_; refine oZ hK14 ?_; refine cFZ hK13 (c_seq fun _ hK15 => ?_); refine cR fun _ hK16 => ?_; refine oM ?_; refine o_callP (apartRuns0_fn b cs (hz 6 (by decide) (by decide) (by decide))) rfl rfl rfl (fun w st => (RdPK.own (l := cs) meA).out w st) (fun v23 hv23 => ?_); subst hv23
  refine oS (s_not rfl) ?_; refine oZ hK16 ?_; refine cFZ hK15 (c_seq fun _ hK17 => ?_); refine cR fun _ hK18 => ?_; refine oM ?_; refine o_callP (apartClasses0_fn b cs (hz 7 (by decide) (by decide) (by decide))) rfl rfl rfl (fun w st => (RdPK.own (l := cs) meA).out w st) (fun v26 hv26 => ?_); subst hv26
  refine oS (s_not rfl) ?_; refine oZ hK18 ?_; refine cFZ hK17 (c_seq fun _ hK19 => ?_); refine cR fun _ hK20 => ?_; refine oM ?_; refine o_call (apartNodes_fn b cs nls na nc Sn Sm hb8 hN8 hlen8 hO8 xss8 hI8) rfl rfl rfl ((Pick.takeC pkA (Pick.takeA pkA pkA))) (fun _ _ => trivial) (fun v29 S29 ⟨hv29, G, hS29, hG⟩ => ?_); subst hv29
  subst hS29; refine oS (s_not rfl) ?_; refine oZ hK20 ?_; refine cFZ hK19 (c_seq fun _ hK21 => ?_); refine cR fun _ hK22 => ?_; refine oM ?_; refine o_callP (apartInstrs0_fn b cs (hz 9 (by decide) (by decide) (by decide))) rfl rfl rfl (fun w st => (RdPK.own (l := cs) meA).out w st) (fun v32 hv32 => ?_); subst hv32
  refine oS (s_not rfl) ?_; refine oZ hK22 ?_; refine cFZ hK21 (c_seq fun _ hK23 => ?_); refine cR fun _ hK24 => ?_; refine oM ?_; refine o_callP (apartFaults0_fn b cs (hz 10 (by decide) (by decide) (by decide))) rfl rfl rfl (fun w st => (RdPK.own (l := cs) meA).out w st) (fun v35 hv35 => ?_); subst hv35
  refine oS (s_not rfl) ?_; refine oZ hK24 ?_; refine cFZ hK23 (c_seq fun _ hK25 => ?_); refine cR fun _ hK26 => ?_; refine oM ?_; refine o_callP (apartNotes0_fn b cs (hz 11 (by decide) (by decide) (by decide))) rfl rfl rfl (fun w st => (RdPK.own (l := cs) meA).out w st) (fun v38 hv38 => ?_); subst hv38
  refine oS (s_not rfl) ?_; refine oZ hK26 ?_; refine cFZ hK25 (c_seq fun _ hK27 => ?_); refine cR fun _ hK28 => ?_; refine oM ?_; refine o_callP (apartParts0_fn b cs (hz 12 (by decide) (by decide) (by decide))) rfl rfl rfl (fun w st => (RdPK.own (l := cs) meA).out w st) (fun v41 hv41 => ?_); subst hv41
  refine oS (s_not rfl) ?_; refine oZ hK28 ?_; refine cFZ hK27 (c_seq fun _ hK29 => ?_); refine cR fun _ hK30 => ?_; refine oM ?_; refine o_callP (apartRows0_fn b cs (hz 13 (by decide) (by decide) (by decide))) rfl rfl rfl (fun w st => (RdPK.own (l := cs) meA).out w st) (fun v44 hv44 => ?_); subst hv44
  refine oS (s_not rfl) ?_; refine oZ hK30 ?_; refine cFZ hK29 (c_seq fun _ hK31 => ?_); refine cR fun _ hK32 => ?_; refine oM ?_; refine o_callP (apartIntss0_fn b cs (hz 14 (by decide) (by decide) (by decide))) rfl rfl rfl (fun w st => (RdPK.own (l := cs) meA).out w st) (fun v47 hv47 => ?_); subst hv47
  refine oS (s_not rfl) ?_; refine oZ hK32 ?_; refine cFZ hK31 (c_seq fun _ hK33 => ?_); refine cR fun _ hK34 => ?_; refine oM ?_; refine o_callP (apartSpanss0_fn b cs (hz 15 (by decide) (by decide) (by decide))) rfl rfl rfl (fun w st => (RdPK.own (l := cs) meA).out w st) (fun v50 hv50 => ?_); subst hv50
  refine oS (s_not rfl) ?_; refine oZ hK34 ?_; refine cFZ hK33 (c_seq fun _ hK35 => ?_); refine cR fun _ hK36 => ?_; refine oM ?_; refine o_callP (apartPieces0_fn b cs (hz 16 (by decide) (by decide) (by decide))) rfl rfl rfl (fun w st => (RdPK.own (l := cs) meA).out w st) (fun v53 hv53 => ?_); subst hv53
  refine oS (s_not rfl) ?_; refine oZ hK36 ?_; refine cFZ hK35 (c_seq fun _ hK37 => ?_); refine cR fun _ hK38 => ?_; refine oM ?_; refine o_callP (apartFiles0_fn b cs (hz 17 (by decide) (by decide) (by decide))) rfl rfl rfl (fun w st => (RdPK.own (l := cs) meA).out w st) (fun v56 hv56 => ?_); subst hv56
  refine oS (s_not rfl) ?_; refine oZ hK38 ?_; refine cFZ hK37 (c_seq fun _ hK39 => ?_); refine cR fun _ hK40 => ?_; refine oM ?_; refine o_callP (apartCmds0_fn b cs (hz 18 (by decide) (by decide) (by decide))) rfl rfl rfl (fun w st => (RdPK.own (l := cs) meA).out w st) (fun v59 hv59 => ?_); subst hv59
  refine oS (s_not rfl) ?_; refine oZ hK40 ?_; refine cFZ hK39 (cR fun _ hK41 => ?_); refine oM (oA (oZ hK41 (c_ret ?_))); refine ?_; refine x_sub (Sub.refl _) (H' := (b, .cells cs.toArray 72 (0, 0)) :: (So ++ (Sn ++ G))) hzB ?_; exact xR rfl rfl (⟨rfl, G, rfl, hG⟩)
end Go.Proofs.YtloepfcndglmmaaDoor
namespace Go.Proofs.YtloepfcndglmmaaDoor
open Go Go.HL Go.Proofs Go.HL.Kl Go.HL.Kl.Mc Go.HL.Kl.Mc.AskE
theorem eqBytes_fn (a a2 : Option Addr) (c c2 : Nat) (xs ys : List UInt8) : HL.Fn Tryd.prog 30 [.slice a xs.length c, .slice a2 ys.length c2] (fun w => Rd Eb w (.slice a xs.length c) xs ∧ Rd Eb w (.slice a2 ys.length c2) ys) [] (fun v _ => v = .bool (decide (xs = ys))) := by
  refine fn_of Tryd.func30 rfl rfl rfl fun w0 hw => ?_
  obtain ⟨hx, hy⟩ := hw
  have hsx := hx.sl
  have hsy := hy.sl
  have hbx := hsx.le
  have hby := hsy.le
  refine cR fun _ hK1 => ?_; refine oA (oZ hK1 (c_seq fun _ hK2 => ?_)); refine cR fun _ hK3 => ?_; refine oM ?_; refine oS sC (oM ?_); refine oS sC ?_; refine oS (s_neq rfl rfl) ?_; refine oZ hK3 ?_; refine c_if rfl (fun hl => ?_) (fun hl => ?_)
  ·refine cR fun _ hK4 => ?_; refine oA (oZ hK4 (c_ret ?_)); refine x_then_ret (?_); exact xR rfl rfl ((congrArg Value.bool (decide_eq_false (by intro e; subst e; omega)).symm))
  ·refine c_skip (xZ hK2 (c_seq fun _ hK5 => ?_)); refine cR fun _ hK6 => ?_; refine oA (oZ hK6 (c_block ?_))
   -- not carried: 4
   refine c_loopB (fun (j : Nat) => j ≤ xs.length ∧ ∀ i, i < j → xs[i]? = ys[i]?) (fun (j : Nat) => [(5, .int .i64 j)]) [(0, _), (1, _)] (fun (j : Nat) => _) (fun (j : Nat) => xs.length - j) 0 ⟨by omega, fun i hi => by omega⟩ sbA sbA hzB ?_
   rintro j ⟨hj, hjt⟩
   refine c_seq fun _ hK7 => ?_; refine cR fun _ hK8 => ?_; refine oM (oM ?_); refine oS sC ?_; refine oS (s_lss rfl rfl) ?_; refine oZ hK8 ?_; refine c_if rfl (fun hlt => ?_) (fun hlt => ?_)
   ·obtain ⟨x, hxj⟩ : ∃ x, xs[j]? = some x := gE
    obtain ⟨y, hyj⟩ : ∃ y, ys[j]? = some y := gE
    refine c_skip (xZ hK7 (c_seq fun _ hK9 => ?_)); refine c_block (c_seq fun _ hK10 => ?_); refine c_drawE ([]) (fun i => false) ?_; refine e_tk 0 rfl (by exact HSub.nil) sM ?_; refine e_tk 1 rfl (by exact HSub.nil) sM ?_; refine e_tk 2 rfl (by exact HSub.nil) (s_idx rfl rfl hsx (by omega)) ?_; refine e_tk 3 rfl (by exact HSub.nil) (s_ld rfl ((RdK.old0 hx).ld j 0 hxj rfl (by decide) (by omega))) ?_; refine e_tk 4 rfl (by exact HSub.nil) sM ?_; refine e_tk 5 rfl (by exact HSub.nil) sM ?_; refine e_tk 6 rfl (by exact HSub.nil) (s_idx rfl rfl hsy (by omega)) ?_; refine e_tk 7 rfl (by exact HSub.nil) (s_ld rfl ((RdK.old0 hy).ld j 0 hyj rfl (by decide) (by omega))) ?_; refine e_tk 8 rfl (by exact HSub.nil) (step_cast (v' := .bool (!decide (x = y))) (s_neq rfl rfl) (congrArg Value.bool u8_ne)) ?_; refine eZ hK10 ?_; refine c_ifn rfl (fun hne => ?_) (fun hne => ?_)
    ·refine cR fun _ hK11 => ?_; refine oA (oZ hK11 (c_ret ?_)); refine x_block_ret (x_then_ret (x_then_ret (x_block_ret (x_then_ret (?_)))))
     exact xR rfl rfl ((congrArg Value.bool (decide_eq_false (by intro e; subst e; rw [hxj] at hyj; cases hyj; exact hne rfl)).symm))
    ·refine c_skip (x_block (xZ hK9 (c_region (oM ?_)))); refine oS sD (oA (o_nil ?_)); exact xI (j + 1) ⟨by omega, fun i hi => by rcases Nat.lt_or_ge i j with h | h; exact hjt i h; rw [show i = j by omega, hxj, hyj, hne]⟩
   ·refine c_exit ?_; refine x_then_exit (x_then_exit (x_block_exit (xZ hK5 (cR fun _ hK12 => ?_)))); refine oA (oZ hK12 (c_ret ?_)); refine ?_; exact xR rfl rfl ((congrArg Value.bool (decide_eq_true (ext_upto (by omega) fun i hi => hjt i (by omega))).symm))
def EnK (re : List Nd) (n : Nat) (k : Int) : Prop := (shapedB re = false ∧ k = 0) ∨ ∃ x ks, Shp re x ks ∧ shapedB re = true ∧ k = (enN ks ((F.nd x ks .nil).weight) re n : Nat)
theorem en_k {re : List Nd} {n : Nat} {v : Value} (h : (¬ (shapedB re = true ∧ 0 ≤ (n : Int)) ∧ v = .int .i64 0) ∨ ∃ x ks, Shp re x ks ∧ shapedB re = true ∧ 0 ≤ (n : Int) ∧ v = .int .i64 ((enN ks ((F.nd x ks .nil).weight) re (n : Int).toNat : Nat) : Int)) : ∃ k : Int, v = .int .i64 k ∧ EnK re n k ∧ k ≤ 9223372036854775807 := by
  rcases h with ⟨h, rfl⟩ | ⟨x, ks, hS, h1, _, rfl⟩
  · refine ⟨0, rfl, .inl ⟨?_, rfl⟩, by decide⟩
    cases hs : shapedB re
    · rfl
    · exact absurd ⟨hs, Int.natCast_nonneg _⟩ h
  · have := enN_le (n := n) hS
    exact ⟨_, rfl, .inr ⟨x, ks, hS, h1, by rw [Int.toNat_natCast]⟩, by rw [Int.toNat_natCast]; omega⟩
theorem FR.wet {re : List Nd} {w : List UInt8} {p k e : Int} {b : Bool} {L : List Sp} (h : FR re w p k e b L) (hk : EnK re w.length k) : e ≠ 52 := fun he => by
  subst he
  obtain ⟨_, _, hs, _, x, ks, hS, hlt⟩ := h.dry
  rcases hk with ⟨h1, _⟩ | ⟨y, js, hS', _, rfl⟩
  · rw [hs] at h1; cases h1
  · obtain ⟨rfl, rfl⟩ := hS.uniq hS'
    omega
theorem FR.det {re : List Nd} {w : List UInt8} {p k e e' : Int} {b b' : Bool} {L L' : List Sp} (h : FR re w p k e b L) (h' : FR re w p k e' b' L') (he : e ≠ 52) (he' : e' ≠ 52) : e = e' ∧ b = b' ∧ L = L' := by
  rcases h with ⟨rfl, hs, h1, h2, hB⟩ | ⟨_, rfl, rfl, ⟨rfl, hs⟩ | ⟨rfl, hs, h1⟩ | ⟨rfl, _⟩⟩
  · rcases h' with ⟨rfl, _, _, _, hB'⟩ | ⟨_, rfl, rfl, ⟨_, h⟩ | ⟨_, _, h⟩ | ⟨h, _⟩⟩
    · exact ⟨rfl, hB.uniq hB'⟩
    · rw [hs] at h; cases h
    · omega
    · exact absurd h he'
  · rcases h' with ⟨_, h, _⟩ | ⟨_, rfl, rfl, ⟨rfl, _⟩ | ⟨_, h, _⟩ | ⟨h, _⟩⟩
    · rw [hs] at h; cases h
    · exact ⟨rfl, rfl, rfl⟩
    · rw [hs] at h; cases h
    · exact absurd h he'
  · rcases h' with ⟨_, _, h2, h3, _⟩ | ⟨_, rfl, rfl, ⟨_, h⟩ | ⟨rfl, _⟩ | ⟨h, _⟩⟩
    · omega
    · rw [hs] at h; cases h
    · exact ⟨rfl, rfl, rfl⟩
    · exact absurd h he'
  · exact absurd rfl he
theorem FR.len {re : List Nd} {w : List UInt8} {p k e : Int} {b : Bool} {L : List Sp} (h : FR re w p k e b L) : L.length ≤ re.length + 1 := by
  have hg : gcn re ≤ re.length := List.countP_le_length
  rcases h with ⟨_, _, _, _, ⟨_, _, rfl⟩ | ⟨m, x, ks, _, _, _, ⟨_, _, rfl⟩ | ⟨i, j, c, hB, _, rfl⟩⟩⟩ | ⟨_, _, rfl, _⟩
  · exact Nat.zero_le _
  · exact Nat.zero_le _
  · rw [List.length_cons, hB.len, C0, List.length_replicate]; omega
  · exact Nat.zero_le _
theorem nd_ext {re l : List Nd} (hl : l.length = re.length) (h : ∀ k, k < re.length → l[k]? = re[k]?) : l = re := List.ext_getElem? fun k => by
  by_cases hk : k < re.length
  · exact h k hk
  · rw [List.getElem?_eq_none (by omega), List.getElem?_eq_none (by omega)]
set_option maxHeartbeats 8000000 in
theorem backrefFinds_fn (ra : Option Addr) (rc : Nat) (re : List Nd) (hre : ∀ x ∈ re, -128 ≤ x.op ∧ x.op < 128) (ta : Option Addr) (tc : Nat) (w : List UInt8) (p Fz : Int) (hf2 : Fz ≤ 9223372036854775807) : HL.Fn Tryd.prog 6 [.agg [.slice ra re.length rc, .slice ta w.length tc, .int .i64 p, .int .i64 Fz].toArray] (fun W => Rd En W (.slice ra re.length rc) re ∧ Rd Eb W (.slice ta w.length tc) w ∧ RdP W 0 0 (Esp noS)) [] (fun v _ => v = .bool true) := by
  refine fn_of Tryd.func6 rfl rfl rfl fun w0 hw => ?_
  have hsl := hw.1.sl
  have htl := hw.2.1.sl
  refine cR fun _ hK1 => ?_; refine o_box rfl rfl rfl fun b1 => ?_; refine oA (oZ hK1 (c_seq fun _ hK2 => ?_)); refine cR fun _ hK3 => ?_; refine oS (s_ldB rfl (RdPK.cels (.own meA)) lnA) ?_; refine o_callP (longC_fn ra rc re hre ta tc w p Fz) rfl rfl rfl (fun _ st => ⟨(RdK.old0 hw.1).out _ st, (RdK.old0 hw.2.1).out _ st⟩) (fun v19 ⟨b19, hv19, hl19⟩ => ?_); subst hv19
  cases b19
  ·obtain ⟨hrl, hwl⟩ := hl19 rfl
   refine oZ hK3 ?_; refine cFZ hK2 (c_seq fun _ hK4 => ?_); refine cR fun _ hK5 => ?_; refine oS (s_ldB rfl (RdPK.cels (.own meA)) lnA) ?_; refine o_callP (heavyC_fn ra rc re hre ta tc w p Fz) rfl rfl rfl (fun _ st => ⟨(RdK.old0 hw.1).out _ st, (RdK.old0 hw.2.1).out _ st⟩) (fun v21 ⟨b21, hv21, hF21⟩ => ?_); subst hv21
   cases b21
   ·have hfit := hF21 rfl
    refine oZ hK5 ?_; refine cFZ hK4 (cR fun _ hK6 => ?_); refine oS sF ?_; refine oS sL ?_; refine o_call (wideNodes_fn ra rc re (by omega)) rfl rfl rfl (by exact .nil) (fun _ st => (RdK.old0 hw.1).out _ st) (fun v25 S25 ⟨aN, hv25, hSN⟩ => ?_); subst hv25
    have hin := hSN.pre re.length (by rw [wdl_len]; omega)
    rw [wdl_take] at hin
    refine oA (oZ hK6 (cR fun _ hK7 => ?_)); refine oS sF ?_; refine oS sL ?_; refine o_call (wideBytes_fn ta tc w (by omega)) rfl rfl rfl (by exact .nil) (fun _ st => (RdK.old0 hw.2.1).out _ st) (fun v28 S28 ⟨aB, hv28, hSB⟩ => ?_); subst hv28
    have hbn := hSB.pre w.length (by rw [wdl_len]; omega)
    rw [wdl_take] at hbn
    refine oA (oZ hK7 (cR fun _ hK8 => ?_)); refine oM (oM ?_); refine oS sF ?_; refine oS sL ?_; refine oS sF ?_; refine oS sL ?_; refine o_call (bFindG_fn aN (re.length + 64) re hre aB (w.length + 64) w p Fz hf2 hfit) rfl rfl rfl (by exact .nil) (fun _ st => ⟨(hin.rdk hiA).out _ st, (hbn.rdk hiA).out _ st, (RdPK.old0 hw.2.2).out _ st⟩) (fun v36 S36 hv36 => ?_)
    obtain ⟨a36, L36, c36, b36, e36, hq36, hO36, hR36⟩ := hv36.out
    subst hq36
    have hLn36 := hR36.len
    refine oM ?_; refine oS sE ?_; refine oS sE ?_; refine oS sE (oA (oA (oA (oZ hK8 (c_seq fun _ hK9 => ?_))))); refine cR fun _ hK10 => ?_; refine oM (oM (oM ?_)); refine oS (s_ldB rfl (RdPK.cels (.own meA)) lnA) ?_; refine o_callP (right_fn _ _ _ _ _ ra rc re hre ta tc w p Fz hfit hR36) rfl rfl rfl (fun _ st => ⟨(hO36.rdk hiA).out _ st, (RdK.old0 hw.1).out _ st, (RdK.old0 hw.2.1).out _ st⟩) (fun v44 hv44 => ?_); subst hv44
    refine oS (step_cast (v' := .bool false) (s_not rfl) rfl) ?_; refine oZ hK10 ?_; refine cFZ hK9 (cR fun _ hK11 => ?_); refine oS (s_ldB rfl (RdPK.cels (.own meA)) lnA) ?_; refine o_alloc (l := [.slice none 0 0, .slice none 0 0, .int .i64 0, .int .i64 0]) rfl rfl fun b8 => ?_; refine o_stW rfl rfl upA lnA lnA onA ?_; refine oZ hK11 (cR fun _ hK12 => ?_); refine oS sF ?_; refine oS sL ?_; refine oS sF ?_; refine oS sL ?_; refine oS sC ?_; refine o_callP (rEnough_fn ra rc re hre w.length (by omega)) rfl rfl rfl (fun _ st => (RdK.old0 hw.1).out _ st) (fun v52 hv52 => ?_)
    obtain ⟨k, hq52, hk, hk2⟩ := en_k hv52
    subst hq52; refine oS sF ?_; refine o_store rfl rfl rfl upA ltA rfl ?_; refine oZ hK12 (cR fun _ hK13 => ?_); refine oM (oM ?_); refine oS sF ?_; refine oS sL ?_; refine oS sF ?_; refine oS sL ?_; refine o_call (bFindG_fn aN (re.length + 64) re hre aB (w.length + 64) w p k hk2 hfit) rfl rfl rfl (by exact .nil) (fun _ st => ⟨(hin.rdk hiA).out _ st, (hbn.rdk hiA).out _ st, (RdPK.old0 hw.2.2).out _ st⟩) (fun v61 S61 hv61 => ?_)
    obtain ⟨a61, L61, c61, b61, e61, hq61, hO61, hR61⟩ := hv61.out
    subst hq61
    have hw61 := hR61.wet hk
    have hLn61 := hR61.len
    refine oM ?_; refine oS sE ?_; refine oS sE ?_; refine oS sE (oA (oA (oA (oZ hK13 (cR fun _ hK14 => ?_))))); refine oM (oM ?_); refine oS sF ?_; refine oS sL ?_; refine oS sF ?_; refine oS sL ?_; refine o_call (bFindG_fn aN (re.length + 64) re hre aB (w.length + 64) w p k hk2 hfit) rfl rfl rfl (by exact .nil) (fun _ st => ⟨(hin.rdk hiA).out _ st, (hbn.rdk hiA).out _ st, (RdPK.old0 hw.2.2).out _ st⟩) (fun v72 S72 hv72 => ?_)
    obtain ⟨a72, L72, c72, b72, e72, hq72, hO72, hR72⟩ := hv72.out
    subst hq72
    obtain ⟨e1, e2, e3⟩ := hR61.det hR72 hw61 (hR72.wet hk)
    subst e1; subst e2
    subst e3; refine oM ?_; refine oS sE ?_; refine oS sE ?_; refine oS sE (oA (oA (oA (oZ hK14 (c_seq fun _ hK15 => ?_))))); refine cR fun _ hK16 => ?_; refine oM ?_; refine oS (eqF (h := hw61)) ?_; refine oM ?_; refine oY (oM ?_); refine oY (oM ?_); refine oY (oM ?_); refine oY ?_; refine oS (s_ldB rfl (RdPK.cels (.own meA)) lnA) ?_; refine oY ?_; refine o_callP (right_fn _ _ _ _ _ ra rc re hre ta tc w p k hfit hR61) rfl rfl rfl (fun _ st => ⟨(hO61.rdk hiA).out _ st, (RdK.old0 hw.1).out _ st, (RdK.old0 hw.2.1).out _ st⟩) (fun v83 hv83 => ?_)
    subst hv83; refine oY ?_; refine oS (step_cast (v' := .bool false) (s_not rfl) rfl) ?_; refine oS sP (oM ?_); refine oY (oM ?_); refine oY (oM ?_); refine oY ?_; refine oS (step_cast (v' := .bool false) (s_neq rfl rfl) (by simp)) ?_; refine oS sP (oM ?_); refine oY (oM ?_); refine oY (oM ?_); refine oY ?_; refine oS (step_cast (v' := .bool false) (s_neq_bool rfl rfl) (by simp)) ?_; refine oS sP (oM ?_); refine oY (oM ?_); refine oY (oM ?_); refine oY ?_; refine o_callP (eqSpans_fn a61 a72 c61 c72 L61 L61) rfl rfl rfl (fun _ st => ⟨(hO61.rdk hiA).out _ st, (hO72.rdk hiA).out _ st⟩) (fun v99 hv99 => ?_)
    rw [decide_eq_true rfl] at hv99
    subst hv99; refine oY ?_; refine oS (step_cast (v' := .bool false) (s_not rfl) rfl) ?_; refine oS sP (oZ hK16 ?_); refine cFZ hK15 (c_seq fun _ hK17 => ?_); refine cR fun _ hK18 => ?_; refine oM ?_; refine oS sF ?_; refine oS sL ?_; refine o_callP (eqNodes_fn aN ra _ rc re re) rfl rfl rfl (fun _ st => ⟨(hin.rdk hiA).out _ st, (RdK.old0 hw.1).out _ st⟩) (fun v105 hv105 => ?_)
    rw [decide_eq_true rfl] at hv105
    subst hv105; refine oS (step_cast (v' := .bool false) (s_not rfl) rfl) ?_; refine oM ?_; refine oY (oM ?_); refine oY ?_; refine o_callP (spareNodes_fn aN _ re (by omega)) rfl rfl rfl (fun _ st => (hSN.rdk hiA).out _ st) (fun v109 hv109 => ?_); subst hv109
    refine oY ?_; refine oS (step_cast (v' := .bool false) (s_not rfl) rfl) ?_; refine oS sP (oM ?_); refine oY (oM ?_); refine oY ?_; refine oS sF ?_; refine oY ?_; refine oS sL ?_; refine oY ?_; refine o_callP (eqBytes_fn aB ta _ tc w w) rfl rfl rfl (fun _ st => ⟨(hbn.rdk hiA).out _ st, (RdK.old0 hw.2.1).out _ st⟩) (fun v116 hv116 => ?_)
    rw [decide_eq_true rfl] at hv116
    subst hv116; refine oY ?_; refine oS (step_cast (v' := .bool false) (s_not rfl) rfl) ?_; refine oS sP (oM ?_); refine oY (oM ?_); refine oY ?_; refine o_callP (spareBytes_fn aB _ w (by omega)) rfl rfl rfl (fun _ st => (hSB.rdk hiA).out _ st) (fun v121 hv121 => ?_); subst hv121
    refine oY ?_; refine oS (step_cast (v' := .bool false) (s_not rfl) rfl) ?_; refine oS sP (oZ hK18 ?_); refine cFZ hK17 (cR fun _ hK19 => ?_); refine oS (step_cast (v' := .agg (List.replicate 19 (Value.slice none 0 0)).toArray) (s_build (cs := [_, _, _, _, _, _, _, _, _, _, _, _, _, _, _, _, _, _, _]) (vs := []) rfl rfl .nil) rfl) ?_; refine o_box rfl rfl rfl fun b125 => ?_; refine oA (oZ hK19 (cR fun _ hK20 => ?_)); refine oM (oM ?_)
    have hz0 : ∀ i, i < 19 → i ≠ 5 → (List.replicate 19 (Value.slice none 0 0))[i]? = some (.slice none 0 0) := fun i h1 _ => by rw [List.getElem?_replicate, if_pos h1]
    refine o_call (addSpans_fn b125 (List.replicate 19 (Value.slice none 0 0)) [] (⟨a36, c36, L36⟩ : Sl Sp) none 0 [] (by rfl) (by simp) .nil) rfl rfl rfl pkA (fun _ _ => trivial) (fun v128 S128 ⟨cs128, oa128, oc128, So128, hv128, hb128, hc128, hS128⟩ => ?_); subst hv128
    have hz128 := fun i h1 h2 => (hc128 i h2).trans (hz0 i h1 h2)
    refine oZ hK20 (cR fun _ hK21 => ?_); refine oM (oM ?_); refine o_call (addSpans_fn b125 cs128 _ (⟨a61, c61, L61⟩ : Sl Sp) _ _ _ hb128 (by simp) hS128) rfl rfl rfl pkA (fun _ _ => trivial) (fun v131 S131 ⟨cs131, oa131, oc131, So131, hv131, hb131, hc131, hS131⟩ => ?_); subst hv131
    have hz131 := fun i h1 h2 => (hc131 i h2).trans (hz128 i h1 h2)
    refine oZ hK21 (cR fun _ hK22 => ?_); refine oM (oM ?_); refine o_call (addSpans_fn b125 cs131 _ (⟨a72, c72, L61⟩ : Sl Sp) _ _ _ hb131 (by simp) hS131) rfl rfl rfl pkA (fun _ _ => trivial) (fun v134 S134 ⟨cs134, oa134, oc134, So134, hv134, hb134, hc134, hS134⟩ => ?_); subst hv134
    have hz134 := fun i h1 h2 => (hc134 i h2).trans (hz131 i h1 h2)
    refine oZ hK22 (cR fun _ hK23 => ?_); refine oM (oM ?_); refine o_call (addNodes_fn b125 cs134 [] (⟨aN, re.length + 64, re⟩ : Sl Nd) none 0 [] (hz134 8 (by decide) (by decide)) (by simp) .nil) rfl rfl rfl pkA (fun _ _ => trivial) (fun v137 S137 ⟨cs137, oa137, oc137, So137, hv137, hb137, hc137, hS137⟩ => ?_); subst hv137
    have hb5 := (hc137 5 (by decide)).trans hb134
    have hz137 := fun i h1 h2 h3 => (hc137 i h3).trans (hz134 i h1 h2)
    refine oZ hK23 (c_seq fun _ hK24 => ?_); refine cR fun _ hK25 => ?_; refine oM ?_; refine o_call (apart_fn b125 cs137 [(⟨a36, c36, L36⟩ : Sl Sp), (⟨a61, c61, L61⟩ : Sl Sp), (⟨a72, c72, L61⟩ : Sl Sp)] _ _ So134 (S36 ++ (S61 ++ S72)) hb5 hz137 (by simp) (sl_allL (by simp only [List.mem_cons, List.not_mem_nil, or_false, forall_eq_or_imp, forall_eq]; omega)) hS134 _ (.cons (s := (⟨a36, c36, L36⟩ : Sl Sp)) hO36 (.cons (s := (⟨a61, c61, L61⟩ : Sl Sp)) hO61 (OwnL.one1 (s := (⟨a72, c72, L61⟩ : Sl Sp)) hO72))) [(⟨aN, re.length + 64, re⟩ : Sl Nd)] _ _ So137 S25 hb137 (by simp) (sl_allL (by simp only [List.mem_cons, List.not_mem_nil, or_false, forall_eq_or_imp, forall_eq]; omega)) hS137 _ (OwnL.one1 (s := (⟨aN, re.length + 64, re⟩ : Sl Nd)) hin)) rfl rfl rfl ((Pick.takeC pkA (Pick.takeA pkA (Pick.takeA pkA (Pick.takeA pkA (Pick.takeA pkA (Pick.takeA pkA pkA))))))) (fun _ _ => trivial) (fun v139 S139 ⟨hv139, G, hS139, hG⟩ => ?_)
    subst hv139
    obtain ⟨GA, S0, GB, hGe, hin0⟩ := hG 0 _ rfl
    subst hGe; subst hS139
    have hm0 : (mkL fNd 0 re.length).length = re.length := mkL_len
    refine oS (step_cast (v' := .bool false) (s_not rfl) rfl) ?_; refine oZ hK25 ?_; refine cFZ hK24 (c_seq fun _ hK26 => ?_); refine cR fun _ hK27 => ?_; refine oA (oZ hK27 (c_block ?_)); refine c_loop3 (fun (i : Nat) (l : List UInt8) (S : Hp) => i ≤ w.length ∧ l.length = w.length ∧ OwnS Eb 1 5 (.slice aB w.length (w.length + 64)) l S) (fun (i : Nat) (l : List UInt8) (S : Hp) => [(16, .int .i64 i)]) [(1, _), (2, _), (3, _), (4, _), (5, _), (6, _), (7, _), (8, _)] (fun (i : Nat) (l : List UInt8) (S : Hp) => (b1, .cells [.slice ra re.length rc, .slice ta w.length tc, .int .i64 p, .int .i64 Fz].toArray 25 (0, 0)) :: (b8, .cells [.slice ra re.length rc, .slice ta w.length tc, .int .i64 p, .int .i64 k].toArray 25 (0, 0)) :: (S0 ++ S)) (fun (i : Nat) (l : List UInt8) (S : Hp) => w.length - i) 0 w S28 ⟨by omega, rfl, hbn⟩ sbA sbA hzB ?_
    rintro i l S ⟨hi, hll, hS⟩
    have hSs := hS.sl
    rw [hll] at hSs
    refine c_seq fun _ hK28 => ?_; refine cR fun _ hK29 => ?_; refine oM (oM ?_); refine oS sC ?_
    by_cases hil : (i : Int) < w.length
    ·obtain ⟨x, hx⟩ : ∃ x, w[w.length - 1 - i]? = some x := gE
     refine oS lsT (oZ hK29 ?_); refine cTZ hK28 (c_seq fun _ hK30 => ?_); refine c_block (c_region (oM (oM ?_))); refine oS sF ?_; refine oS sL ?_; refine oS sF ?_; refine oS sL ?_; refine oS sC ?_; refine oS sU (oM ?_); refine oS sU ?_; refine oS (s_idx rfl rfl htl (by omega)) ?_; refine oS (s_ld rfl ((RdK.old0 hw.2.1).ld (w.length - 1 - i) 0 hx rfl (by decide) (by omega))) ?_; refine oS (s_idx rfl rfl hSs (by omega)) ?_; refine o_stS1 i x hS pkA rfl rfl rfl (by omega) (by omega) fun S159 hS159 => ?_; refine o_nil (x_block (xZ hK30 (c_region (oM ?_)))); refine oS sD (oA (o_nil ?_)); exact xI (i + 1, l.set i x, S159) ⟨by omega, by rw [List.length_set]; exact hll, hS159⟩
    ·refine oS lsF (oZ hK29 ?_); refine cF ?_; refine c_exit ?_; refine x_then_exit (x_then_exit (x_block_exit (xZ hK26 (c_seq fun _ hK31 => ?_)))); refine cR fun _ hK32 => ?_; refine oA (oZ hK32 (c_block ?_)); refine c_loop3 (fun (j : Nat) (nl : List Nd) (SN : Hp) => j ≤ re.length ∧ nl.length = re.length ∧ (∀ k, k < j → nl[k]? = re[k]?) ∧ OwnS En 9 80 (.slice aN re.length (re.length + 64)) nl SN) (fun (j : Nat) (nl : List Nd) (SN : Hp) => [(17, .int .i64 j)]) [(1, _), (2, _), (3, _), (4, _), (5, _), (6, _), (7, _), (8, _)] (fun (j : Nat) (nl : List Nd) (SN : Hp) => (b1, .cells [.slice ra re.length rc, .slice ta w.length tc, .int .i64 p, .int .i64 Fz].toArray 25 (0, 0)) :: (b8, .cells [.slice ra re.length rc, .slice ta w.length tc, .int .i64 p, .int .i64 k].toArray 25 (0, 0)) :: (SN ++ S)) (fun (j : Nat) (nl : List Nd) (SN : Hp) => re.length - j) 0 (mkL fNd 0 re.length) S0 ⟨Nat.zero_le _, hm0, fun _ h => (by omega), hin0⟩ sbA sbA hzB ?_
     rintro j nl SN ⟨hj, hnl, hne, hN⟩
     have hNs := hN.sl
     rw [hnl] at hNs
     refine c_seq fun _ hK33 => ?_; refine cR fun _ hK34 => ?_; refine oM (oM ?_); refine oS sC ?_
     by_cases hjl : (j : Int) < re.length
     ·obtain ⟨y, hy⟩ : ∃ y, re[j]? = some y := gE
      refine oS lsT (oZ hK34 ?_); refine cTZ hK33 (c_seq fun _ hK35 => ?_); refine c_block (c_region (oM (oM ?_))); refine oS sF ?_; refine oS sL (oM ?_); refine oS (s_idx rfl rfl hsl (by omega)) ?_; refine oS (s_ldB rfl ((RdK.old0 hw.1).lds j hy rfl) (by rfl)) ?_; refine oS (s_idx rfl rfl hNs (by omega)) ?_; refine o_stSE j y hN pkA rfl rfl (by omega) (by rw [Int.toNat_natCast]) fun S173 hS173 => ?_; refine o_nil (x_block (xZ hK35 (c_region (oM ?_)))); refine oS sD (oA (o_nil ?_)); exact xI (j + 1, nl.set j y, S173) ⟨by omega, by rw [List.length_set]; exact hnl, fun k hk => (if e : k = j then (by subst e; rw [List.getElem?_set_self (by omega), hy]) else (by rw [List.getElem?_set_ne (Ne.symm e)]; exact hne k (by omega))), hS173⟩
     ·rw [nd_ext hnl fun k hk => hne k (by omega)] at hN
      have hin := hN
      refine oS lsF (oZ hK34 ?_); refine cF ?_; refine c_exit ?_; refine x_then_exit (x_then_exit (x_block_exit (xZ hK31 (cR fun _ hK36 => ?_)))); refine oM ?_
      have hc175 := copyBytes_fn aB (w.length + 64) l (by omega)
      rw [hll] at hc175
      refine o_call (hc175) rfl rfl rfl (by exact .nil) (fun _ st => (hS.rdk hiA).out _ st) (fun v175 S175 ⟨a175, c175, hv175, hS175⟩ => ?_); subst hv175
      refine oS sF ?_; refine o_store rfl rfl rfl upA ltA rfl ?_; refine oZ hK36 (cR fun _ hK37 => ?_); refine oM (oM ?_); refine oS sF ?_; refine oS sL ?_; refine oS sF ?_; refine oS sL ?_
      have hfl : shapedB re = true → Fits re (l.length : Nat) := fun h => (by rw [hll]; exact hfit h)
      have hc184 := bFindG_fn aN (re.length + 64) re hre aB (w.length + 64) l p k hk2 hfl
      rw [hll] at hc184
      refine o_call (hc184) rfl rfl rfl (by exact .nil) (fun _ st => ⟨(hin.rdk hiA).out _ st, (hS.rdk hiA).out _ st, (RdPK.old0 hw.2.2).out _ st⟩) (fun v184 S184 hv184 => ?_)
      obtain ⟨a184, L184, c184, b184, e184, hq184, hO184, hR184⟩ := hv184.out
      subst hq184
      have hw184 := hR184.wet (by rw [hll]; exact hk)
      refine oM ?_; refine oS sE ?_; refine oS sE ?_; refine oS sE (oA (oA (oA (oZ hK37 (cR fun _ hK38 => ?_))))); refine oM ?_; refine oS (nqT (h := hw184)) ?_; refine oM ?_; refine oY (oM ?_); refine oY (oM ?_); refine oY (oM ?_); refine oY ?_; refine oS (s_ldB rfl (RdPK.cels (.own meA)) lnA) ?_; refine oY ?_
      have hc195 := right_fn a184 c184 _ _ _ ra rc re hre a175 c175 l p k hfl hR184
      rw [hll] at hc195
      refine o_callP (hc195) rfl rfl rfl (fun _ st => ⟨(hO184.rdk hiA).out _ st, (RdK.old0 hw.1).out _ st, (hS175.rdk hiA).out _ st⟩) (fun v195 hv195 => ?_); subst hv195
      refine oS sT (oM ?_); refine oY ?_; refine o_callP (works_fn) rfl rfl rfl (fun _ st => (RdPK.old0 hw.2.2).out _ st) (fun v198 hv198 => ?_); subst hv198
      refine oS sT (oA (oZ hK38 (c_ret ?_))); refine ?_; exact xR rfl rfl (rfl)
   ·refine oZ hK5 ?_; refine cT (cR fun _ hK39 => ?_); refine o_callP (works_fn) rfl rfl rfl (fun _ st => (RdPK.old0 hw.2.2).out _ st) (fun v22 hv22 => ?_); subst hv22
    refine oA (oZ hK39 (c_ret ?_)); refine x_then_ret (?_); exact xR rfl rfl (rfl)
  ·refine oZ hK3 ?_; refine cT (cR fun _ hK40 => ?_); refine oA (oZ hK40 (c_ret ?_)); refine x_then_ret (?_); exact xR rfl rfl (rfl)
end Go.Proofs.YtloepfcndglmmaaDoor
namespace Go.Proofs.YtloepfcndglmmaaDoor
open Go Go.HL Go.Proofs Go.HL.Kl Go.HL.Kl.Mc
theorem own : ownKnob Tryd.prog.godebug = none := by kernel_rfl
theorem laidOut : laidOutB Tryd.prog = true := by kernel_rfl
theorem open_nd : Opens Tryd.prog 80 En (fun _ t => -128 ≤ t.op ∧ t.op < 128) :=
  open_struct6 Tryd.underlying80 rfl (by kernel_rfl) (by kernel_rfl) (by kernel_rfl) (by kernel_rfl) (by kernel_rfl) (by kernel_rfl) (open_i8 Tryd.underlying75) (open_cl Tryd.underlying78 Tryd.underlying76 (by kernel_rfl) (by kernel_rfl)) (open_i64 Tryd.underlying3) (open_i64 Tryd.underlying3) (open_i64 Tryd.underlying3) (open_i64 Tryd.underlying3) fun w a b c d e f ha _ _ _ _ _ => ⟨⟨a, b, c, d, e, f⟩, rfl, ha⟩
theorem two_of {α : Type} {l : List α} (h : l.length = 2) : ∃ a b, l = [a, b] := by
  match l, h with
  | [a, b], _ => exact ⟨a, b, rfl⟩
theorem door_met4 (os : Os) (args : Array Value) : laidMetH Tryd.prog Rows.backrefFindsRow.laid ((World.doorLaid Tryd.prog 400 os).forCall (fun _ _ => 0) ⟨#[], args, []⟩).memory :=
  laidMetH_of_parts3 (fuel := 8) (laidMet_of_run' 8 (by kernel_rfl) (by kernel_rfl)) (by kernel_rfl) (by kernel_rfl)
theorem vars_tail {P : Program} {W : World} {x : String × DataW Unit} {rest : List (String × DataW Unit)} {ps : List MemPlace} (h : DataW.LaidVars P W (x :: rest) ps) : ∃ q, DataW.LaidVars P W rest q := by
  obtain ⟨g', t', cs, fuel, p, q, hg', ht', hvar, hd, hr, _⟩ := h
  exact ⟨q, hr⟩
theorem tb_laid4 {W : World} (h : laidMetH Tryd.prog Rows.backrefFindsRow.laid W) : RdP W 0 0 (Esp noS) := by
  rw [MakeChecks.laidMetH_plain _ _ _ (by kernel_rfl)] at h
  obtain ⟨ps, hv, _⟩ := h
  obtain ⟨q0, hv⟩ := vars_tail (x := ("math/bits.deBruijn32tab", Rows.laid_math_bits_deBruijn32tab)) (rest := [("math/bits.deBruijn64tab", Rows.laid_math_bits_deBruijn64tab), ("internal/strconv.uint64pow10", Rows.laid_internal_strconv_uint64pow10), ("galley/backref.none", Rows.laid_galley_backref_none)]) hv
  obtain ⟨q1, hv⟩ := vars_tail hv
  obtain ⟨q2, hv⟩ := vars_tail hv
  obtain ⟨g', t', cs, fuel, p, q, hg', ht', hvar, hd, hr, _⟩ := hv
  have hg : Tryd.prog.globalNamed "galley/backref.none" = some 0 := by kernel_rfl
  obtain rfl := Option.some.inj (hg.symm.trans hg')
  have hty : (Tryd.prog.globals[0]?).map (·.type) = some 45 := by kernel_rfl
  obtain rfl := Option.some.inj (hty.symm.trans ht')
  obtain ⟨y0, y1, n, hx, hl, h0, h1⟩ := Go.ChangeShapes.trod_struct2 Tryd.underlying45 hd
  obtain ⟨z0, hc0, hz0, _⟩ := DataW.trod_int Tryd.underlying3 h0
  obtain ⟨z1, hc1, hz1, _⟩ := DataW.trod_int Tryd.underlying3 h1
  have hq : (Rows.laid_galley_backref_none : DataW Unit) = .agg [y0.1, y1.1] := congrArg Prod.fst hx
  have e2 : Tryd.prog.cellsOf 45 = 2 := by kernel_rfl
  have e1 : Tryd.prog.cellsOf 3 = 1 := by kernel_rfl
  rw [e2] at hl
  rw [e1] at hc0 hc1
  rw [hz0, hz1] at hq
  simp only [Rows.laid_galley_backref_none, DataW.agg.injEq, List.cons.injEq, DataW.lit.injEq, Lit.int.injEq, true_and, and_true] at hq
  obtain ⟨rfl, rfl⟩ := hq
  obtain ⟨cs⟩ := cs
  dsimp only at hl hc0 hc1
  obtain ⟨a, b, rfl⟩ := two_of hl
  simp only [List.drop_zero, List.take_succ_cons, List.take_zero, List.cons.injEq, and_true, List.drop_succ_cons] at hc0 hc1
  subst hc0; subst hc1
  refine ⟨fun j u hu => ?_⟩
  have := World.var?_cell hg hvar j
  rw [Nat.zero_add, this]
  have hu2 : [Value.int IntKind.i64 (-1), Value.int IntKind.i64 (-1)][j]? = some u := hu
  simpa using hu2
end Go.Proofs.YtloepfcndglmmaaDoor
