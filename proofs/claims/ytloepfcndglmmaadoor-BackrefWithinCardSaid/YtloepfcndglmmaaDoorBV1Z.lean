/- Mathematics of back-references: the account of a search, and what it finds, computed. Conditions: none. -/
import Derived.Test.YtloepfcndglmmaaDoorVZB8Z
import Derived.Test.YtloepfcndglmmaaDoorBM1Z
import Derived.Test.YtloepfcndglmmaaDoorMT20Z
import Derived.Test.YtloepfcndglmmaaDoorVZV7Z
import Derived.Test.YtloepfcndglmmaaDoorMT9Z
import Derived.Test.YtloepfcndglmmaaDoorVZF1Z
import Derived.Test.YtloepfcndglmmaaDoorVZN1Z
namespace Go.HL.Kl.Mc
open Go Go.HL Go.HL.Kl
instance {n : Nat} {x : Nd} {c : Caps} {i j : Nat} : Decidable (goodT n x c i j) := by unfold goodT; infer_instance
abbrev CtR := Bool × List Caps × Nat
def gat1 (A : Nat → CtR) (B : Nat → Caps → CtR) (e : Nat) : CtR :=
  let a := A e
  let bs := a.2.1.map (B e)
  (a.1 && bs.all (fun b => b.1), bs.flatMap (fun b => b.2.1), a.2.2 + (bs.map (fun b => b.2.2 + 1)).sum)
def gath (es : List Nat) (A : Nat → CtR) (B : Nat → Caps → CtR) : CtR :=
  let l := es.map (gat1 A B)
  (l.all (fun r => r.1), l.flatMap (fun r => r.2.1), (l.map (fun r => r.2.2)).sum)
theorem gath_ok {es : List Nat} {A : Nat → CtR} {B : Nat → Caps → CtR} (h : (gath es A B).1 = true) {e : Nat} (he : e ∈ es) : (A e).1 = true ∧ ∀ c1 ∈ (A e).2.1, (B e c1).1 = true := by
  have h1 : (es.map (gat1 A B)).all (fun r => r.1) = true := h
  rw [List.all_map, List.all_eq_true] at h1
  have h2 : ((A e).1 && ((A e).2.1.map (B e)).all (fun b => b.1)) = true := h1 e he
  rw [Bool.and_eq_true, List.all_map, List.all_eq_true] at h2
  exact ⟨h2.1, fun c hc => h2.2 c hc⟩
theorem gath_mem {es : List Nat} {A : Nat → CtR} {B : Nat → Caps → CtR} {e : Nat} (he : e ∈ es) {c1 : Caps} (hc : c1 ∈ (A e).2.1) {d : Caps} (hd : d ∈ (B e c1).2.1) : d ∈ (gath es A B).2.1 := by
  show d ∈ (es.map (gat1 A B)).flatMap (fun r => r.2.1)
  rw [List.mem_flatMap]
  refine ⟨gat1 A B e, List.mem_map_of_mem he, ?_⟩
  show d ∈ ((A e).2.1.map (B e)).flatMap (fun b => b.2.1)
  rw [List.mem_flatMap]
  exact ⟨_, List.mem_map_of_mem hc, hd⟩
theorem gath_sum {es : List Nat} {A : Nat → CtR} {B : Nat → Caps → CtR} : sumW es (fun e => (A e).2.1) (fun e => (A e).2.2) (fun e c1 => (B e c1).2.2) = (gath es A B).2.2 := by
  show _ = ((es.map (gat1 A B)).map (fun r => r.2.2)).sum
  rw [List.map_map]
  unfold sumW
  congr 1
  refine List.map_congr_left fun e _ => ?_
  show _ = (A e).2.2 + (((A e).2.1.map (B e)).map (fun b => b.2.2 + 1)).sum
  rw [List.map_map]; rfl
def ctF (n : Nat) : Nat → TQ → CtR
  | 0, _ => (false, [], 0)
  | f + 1, .node x ks i j c =>
    if x.op = 1 ∨ x.op = 2 ∨ x.op = 3 ∨ x.op = 8 then (true, if goodT n x c i j then [c] else [], 1)
    else if x.op = 4 then (let r := ctF n f (.row ks i j c); (r.1, r.2.1, r.2.2 + 2))
    else if x.op = 6 then (match ks with
      | .nd y js .nil => let r := ctF n f (.rnd x y js 0 i j c); (r.1, r.2.1, r.2.2 + 2)
      | _ => (false, [], 0))
    else if x.op = 7 then (match ks with
      | .nd y js .nil => let r := ctF n f (.node y js i j (emp (F.nd y js .nil).flat c)); (r.1, r.2.1.map (fun d => d.set (x.n.toNat - 1) ⟨i, j⟩), r.2.2 + r.2.1.length + 1)
      | _ => (false, [], 0))
    else if x.op = 5 then (let r := ctF n f (.alt ks i j c); (r.1, r.2.1, r.2.2 + 1))
    else (false, [], 0)
  | _ + 1, .alt .nil _ _ _ => (true, [], 0)
  | f + 1, .alt (.nd y js r) i j c => let a := ctF n f (.node y js i j c); let b := ctF n f (.alt r i j c); (a.1 && b.1, a.2.1 ++ b.2.1, a.2.2 + b.2.2)
  | _ + 1, .row .nil i j c => (true, if i = j then [c] else [], 0)
  | f + 1, .row (.nd y js r) i j c => gath (if r.num = 0 then [j] else ends i j) (fun e => ctF n f (.node y js i e c)) (fun e c1 => ctF n f (.row r e j c1))
  | f + 1, .rnd x y js had i j c => let g := gath (rEs x had i j) (fun e => ctF n f (.node y js i e (emp (F.nd y js .nil).flat c))) (fun e c1 => ctF n f (.rnd x y js (had + 1) e j c1)); (g.1, g.2.1 ++ (if i = j ∧ x.mn ≤ (had : Int) then [c] else []), g.2.2)
theorem ctF_ok {n : Nat} : ∀ (f : Nat) (q : TQ), (ctF n f q).1 = true → Ct n q (ctF n f q).2.1 (ctF n f q).2.2
  | 0, _, h => by cases h
  | f + 1, .node x ks i j c, h => by
    unfold ctF at h ⊢
    by_cases h1 : x.op = 1 ∨ x.op = 2 ∨ x.op = 3 ∨ x.op = 8
    · rw [if_pos h1]
      exact .leaf h1 (fun hg => by rw [if_pos hg]; exact List.mem_cons_self) (Nat.le_refl _)
    rw [if_neg h1] at h ⊢
    by_cases h4 : x.op = 4
    · rw [if_pos h4] at h ⊢
      exact .cat h4 (ctF_ok f _ h) (Nat.le_refl _)
    rw [if_neg h4] at h ⊢
    by_cases h6 : x.op = 6
    · rw [if_pos h6] at h ⊢
      match ks, h with
      | .nd y js .nil, h => exact .rep h6 (ctF_ok f _ h) (Nat.le_refl _)
      | .nil, h => cases h
      | .nd _ _ (.nd _ _ _), h => cases h
    rw [if_neg h6] at h ⊢
    by_cases h7 : x.op = 7
    · rw [if_pos h7] at h ⊢
      match ks, h with
      | .nd y js .nil, h => exact .grp h7 (ctF_ok f _ h) (fun d hd => List.mem_map_of_mem hd) (Nat.le_refl _)
      | .nil, h => cases h
      | .nd _ _ (.nd _ _ _), h => cases h
    rw [if_neg h7] at h ⊢
    by_cases h5 : x.op = 5
    · rw [if_pos h5] at h ⊢
      exact .altC h5 (ctF_ok f _ h) (Nat.le_refl _)
    rw [if_neg h5] at h
    cases h
  | _ + 1, .alt .nil _ _ _, _ => .altNil
  | f + 1, .alt (.nd y js r) i j c, h => by
    have h' : ((ctF n f (.node y js i j c)).1 && (ctF n f (.alt r i j c)).1) = true := h
    rw [Bool.and_eq_true] at h'
    exact .altCons (ctF_ok f _ h'.1) (ctF_ok f _ h'.2) (fun d hd => List.mem_append_left _ hd) (fun d hd => List.mem_append_right _ hd) (Nat.le_refl _)
  | _ + 1, .row .nil i j c, _ => .rowNil fun e => by unfold ctF; rw [if_pos e]; exact List.mem_cons_self
  | f + 1, .row (.nd y js r) i j c, h => by
    unfold ctF at h ⊢
    exact .rowCons (es := if r.num = 0 then [j] else ends i j) rfl (fun e he => ctF_ok f _ (gath_ok h he).1) (fun e he c1 hc => ctF_ok f _ ((gath_ok h he).2 c1 hc)) (fun e he c1 hc d hd => gath_mem he hc hd) (Nat.le_of_eq gath_sum)
  | f + 1, .rnd x y js had i j c, h => by
    unfold ctF at h ⊢
    exact .rnd (es := rEs x had i j) rfl (fun e he => ctF_ok f _ (gath_ok h he).1) (fun e he c1 hc => ctF_ok f _ ((gath_ok h he).2 c1 hc)) (fun e he c1 hc d hd => List.mem_append_left _ (gath_mem he hc hd)) (fun e1 e2 => List.mem_append_right _ (by rw [if_pos ⟨e1, e2⟩]; exact List.mem_cons_self)) (Nat.le_of_eq gath_sum)
def accB (n f : Nat) (x : Nd) (ks : F) (c : Caps) (T : Nat) : Bool :=
  let l := (prs n (n + 1)).map fun p => ctF n f (.node x ks p.1 p.2 c)
  l.all (fun r => r.1) && decide ((l.map fun r => r.2.2).sum ≤ 3 * T)
theorem accB_ok {n f : Nat} {x : Nd} {ks : F} {c : Caps} {T : Nat} (h : accB n f x ks c T = true) : LAcc n x ks c (prs n (n + 1)) T := by
  have h' : ((((prs n (n + 1)).map fun p => ctF n f (.node x ks p.1 p.2 c)).all fun r => r.1) && decide ((((prs n (n + 1)).map fun p => ctF n f (.node x ks p.1 p.2 c)).map fun r => r.2.2).sum ≤ 3 * T)) = true := h
  rw [Bool.and_eq_true, List.all_map, List.all_eq_true, List.map_map, decide_eq_true_eq] at h'
  refine ⟨fun i j => (ctF n f (.node x ks i j c)).2.2, fun p hp => ⟨_, ctF_ok f _ (h'.1 p hp)⟩, ?_⟩
  have h2 := h'.2
  have e : ((prs n (n + 1)).map fun p => (ctF n f (.node x ks p.1 p.2 c)).2.2).sum = (((prs n (n + 1)).map ((fun r => r.2.2) ∘ fun p => ctF n f (.node x ks p.1 p.2 c)))).sum := rfl
  rw [e]
  omega
def catV : Nd := ⟨4, 0, 0, 0, 0, 3⟩
def refV : Nd := ⟨8, 0, 1, 0, 0, 0⟩
def reV : List Nd := [catV, grpC, starN, letN 97, letN 98, refV]
def ksV : F := .nd grpC (.nd starN (.nd (letN 97) .nil .nil) .nil) (.nd (letN 98) .nil (.nd refV .nil .nil))
def w6 : List UInt8 := [99, 97, 97, 98, 97, 99]
def w3 : List UInt8 := [97, 97, 97]
theorem shpV : Shp reV catV ksV := ⟨⟨by decide +kernel, rfl, ⟨by decide +kernel, rfl, wfW, let_ok' 98, rfl, trivial, by decide +kernel, rfl, trivial, trivial⟩, trivial⟩, rfl, by decide, by decide +kernel⟩
theorem shapedV : shapedB reV = true := shapedB_iff.2 ⟨⟨[true], by decide +kernel⟩, _, _, shpV⟩
theorem rngV : ∀ x ∈ reV, -128 ≤ x.op ∧ x.op < 128 := by simp [reV, catV, grpC, starN, letN, refV]
theorem gcnV : gcn reV = 1 := by decide +kernel
theorem accV6 : accB 6 40 catV ksV [noS] 262144 = true := by decide +kernel
theorem accV3 : accB 3 40 catV ksV [noS] 262144 = true := by decide +kernel
theorem lfV : LF1 w6 catV ksV 2 5 [noS] = [[⟨2, 3⟩]] := by decide +kernel
theorem lfV6 : ((List.range 7).all fun i => (List.range 7).all fun j => decide (2 ≤ i ∧ (i ≠ 2 ∨ j ≤ 5) ∨ LF1 w6 catV ksV i j [noS] = [])) = true := by decide +kernel
theorem lfV3 : ((List.range 4).all fun i => (List.range 4).all fun j => decide (LF1 w3 catV ksV i j [noS] = [])) = true := by decide +kernel
theorem lfV6n {i j : Nat} (hi : i ≤ 6) (hj : j ≤ 6) (h : ¬ (2 ≤ i ∧ (i ≠ 2 ∨ j ≤ 5))) : LF1 w6 catV ksV i j [noS] = [] := by
  have h1 := List.all_eq_true.1 (List.all_eq_true.1 lfV6 i (List.mem_range.2 (by omega))) j (List.mem_range.2 (by omega))
  exact (of_decide_eq_true h1).resolve_left h
theorem lfV3n {i j : Nat} (hi : i ≤ 3) (hj : j ≤ 3) : LF1 w3 catV ksV i j [noS] = [] := by
  have h1 := List.all_eq_true.1 (List.all_eq_true.1 lfV3 i (List.mem_range.2 (by omega))) j (List.mem_range.2 (by omega))
  exact of_decide_eq_true h1
/-- one letter -/
def reE : List Nd := [letN 97]
theorem shpE : Shp reE (letN 97) .nil := ⟨⟨let_ok' 97, rfl, trivial, trivial⟩, rfl, by decide, by decide +kernel⟩
theorem shapedE : shapedB reE = true := shapedB_iff.2 ⟨⟨[], by decide +kernel⟩, _, _, shpE⟩
theorem rngE : ∀ x ∈ reE, -128 ≤ x.op ∧ x.op < 128 := by simp [reE, letN]
end Go.HL.Kl.Mc
namespace Go.Proofs.YtloepfcndglmmaaDoor
open Go Go.HL Go.Proofs Go.HL.Kl Go.HL.Kl.Mc Go.HL.Kl.Mc.AskE
theorem En_catV : En catV = [.int .i8 4, .int .u64 0, .int .u64 0, .int .u64 0, .int .u64 0, .int .i64 0, .int .i64 0, .int .i64 0, .int .i64 3] := by
  show _ :: (Ec 0#256 ++ _) = _
  rw [Ec_zero]; rfl
theorem En_refV : En refV = [.int .i8 8, .int .u64 0, .int .u64 0, .int .u64 0, .int .u64 0, .int .i64 1, .int .i64 0, .int .i64 0, .int .i64 0] := by
  show _ :: (Ec 0#256 ++ _) = _
  rw [Ec_zero]; rfl
theorem letterO_fn (b : UInt8) : HL.Fn Tryd.prog 45 [.int .u8 b.toNat] (fun _ => True) [] (fun v S' => ∃ S2, HSub S' S2 ∧ v = .agg (En (letN b)).toArray ∧ S2 = []) := by
  refine fn_of Tryd.func45 rfl rfl rfl fun w0 hw => ?_
  have hx := b.toNat_lt
  refine c_seq fun _ hK1 => ?_
  refine c_region ?_
  refine o_alloc (l := En zN) (by rw [En_zero]; rfl) rfl fun b2 => ?_
  refine o_nil ?_
  refine x_then (hK1 _ _ ?_)
  refine c_seq fun _ hK2 => ?_
  refine c_region ?_
  refine o_step rfl (step_cast (v' := .agg (En (⟨1, 0, 0, 0, 0, 0⟩ : Nd)).toArray) (s_build (cs := [_, _, _, _, _, _, _, _, _]) (vs := [_]) rfl rfl (.cons rfl rfl rfl rfl rfl .nil)) (by rw [En_one])) ?_
  refine o_alloc (l := En zN) (by rw [En_zero]; rfl) rfl fun b3 => ?_
  refine o_stW rfl rfl upA lnA lnA onA ?_
  refine o_nil ?_
  refine x_then (hK2 _ _ ?_)
  refine c_seq fun _ hK3 => ?_
  refine c_region ?_
  refine o_step rfl (s_move rfl) ?_
  refine o_step rfl (step_cast (v' := .int .u8 ((b.toNat / 64 : Nat) : Int)) (s_quo rfl rfl (by decide)) (congrArg _ (quo64 hx))) ?_
  refine o_step rfl (s_move rfl) ?_
  refine o_step rfl (step_cast (v' := .int .u8 ((b.toNat % 64 : Nat) : Int)) (s_rem rfl rfl (by decide)) (congrArg _ (rem64 hx))) ?_
  refine o_step rfl (step_cast (v' := Ew (1#64 <<< (b.toNat % 64))) (s_shl rfl rfl (by omega)) (v_shl1 (by omega))) ?_
  refine o_step rfl (s_field rfl rfl (by decide)) ?_
  refine o_step rfl (s_indexA rfl rfl (by omega)) ?_
  refine o_store rfl rfl rfl upA (by show _ < 9; omega) rfl ?_
  rw [letN_set b]
  refine o_nil ?_
  refine x_then (hK3 _ _ ?_)
  refine c_seq fun _ hK4 => ?_
  refine c_region ?_
  refine o_step rfl (s_ldB rfl (RdPK.cels (.own meA)) lnA) ?_
  refine o_stW rfl rfl upA lnA lnA onA ?_
  refine o_nil ?_
  refine x_then (hK4 _ _ ?_)
  refine c_ret ?_
  refine ?_
  exact x_ret rfl (.agg inferInstance inferInstance rfl (RdPK.cels (.own meA)) lnA (.nil)) (⟨[], HSub.nil, rfl, rfl⟩)
theorem letter_fn (b : UInt8) : HL.Fn Tryd.prog 45 [.int .u8 b.toNat] (fun _ => True) [] (fun v _ => v = .agg (En (letN b)).toArray) :=
  Fn.sub (letterO_fn b) fun v S' ⟨S2, h1, h2, h3⟩ => ⟨S2, h1, h2⟩
theorem longN_fn (n : Int) : HL.Fn Tryd.prog 22 [.int .i64 n] (fun _ => True) [] (fun v _ => v = .bool (decide (n > 2147483647))) := by
  refine fn_of Tryd.func22 rfl rfl rfl fun w0 hw => ?_
  refine c_seq fun _ hK1 => ?_
  refine c_region ?_
  refine o_step rfl (s_assign rfl) ?_
  refine o_nil ?_
  refine x_then (hK1 _ _ ?_)
  refine c_seq fun _ hK2 => ?_
  refine c_region ?_
  refine o_step rfl (s_move rfl) ?_
  refine o_step rfl (s_gtr rfl rfl) ?_
  refine o_step rfl (s_assign rfl) ?_
  refine o_nil ?_
  refine x_then (hK2 _ _ ?_)
  refine c_ret ?_
  refine ?_
  exact x_ret rfl (.tmp rfl (.nil)) (rfl)
theorem bFindU_fn (ra : Option Addr) (rc : Nat) (re : List Nd) (hre : ∀ x ∈ re, -128 ≤ x.op ∧ x.op < 128) (ta : Option Addr) (tc : Nat) (w : List UInt8) (p f : Int) (hsb : shapedB re = false) : HL.Fn Tryd.prog 16 [.slice ra re.length rc, .slice ta w.length tc, .int .i64 p, .int .i64 f] (fun W => Rd En W (.slice ra re.length rc) re ∧ Rd Eb W (.slice ta w.length tc) w ∧ RdP W 0 0 (Esp noS)) [] (fun v S' => v = .tuple #[.slice none 0 0, .bool false, .int .i64 49] ∧ S' = []) := by
  refine fn_of Tryd.func16 rfl rfl rfl fun w0 hw => ?_
  refine c_seq fun _ hK1 => ?_
  refine c_region ?_
  refine o_step rfl (s_assign rfl) ?_
  refine o_step rfl (s_assign rfl) ?_
  refine o_step rfl (s_assign rfl) ?_
  refine o_nil ?_
  refine x_then (hK1 _ _ ?_)
  refine c_seq fun _ hK2 => ?_
  refine c_seq fun _ hK3 => ?_
  refine c_region ?_
  refine o_step rfl (s_move rfl) ?_
  refine o_callP (shaped_fn ra rc re hre) rfl rfl rfl (fun _ st => (RdK.old0 hw.1).out _ st) (fun v16 hv16 => ?_)
  rw [hsb] at hv16
  subst hv16
  refine o_step rfl (s_not rfl) ?_
  refine o_nil ?_
  refine x_then (hK3 _ _ ?_)
  refine c_true rfl ?_
  refine c_seq fun _ hK4 => ?_
  refine c_region ?_
  refine o_step rfl (s_assign rfl) ?_
  refine o_step rfl (s_assign rfl) ?_
  refine o_step rfl (s_assign rfl) ?_
  refine o_nil ?_
  refine x_then (hK4 _ _ ?_)
  refine c_ret ?_
  refine x_then_ret (?_)
  exact x_ret rfl (.tmp rfl (.tmp rfl (.tmp rfl (.nil)))) (⟨rfl, rfl⟩)
theorem bFindA_fn (ra : Option Addr) (rc : Nat) (re : List Nd) (hre : ∀ x ∈ re, -128 ≤ x.op ∧ x.op < 128) (ta : Option Addr) (tc : Nat) (w : List UInt8) (p : Int) (hfit : shapedB re = true → Fits re w.length) : HL.Fn Tryd.prog 16 [.slice ra re.length rc, .slice ta w.length tc, .int .i64 p, .int .i64 4611686018427387904] (fun W => Rd En W (.slice ra re.length rc) re ∧ Rd Eb W (.slice ta w.length tc) w ∧ RdP W 0 0 (Esp noS)) [] (BkP re w p) := by
  cases hsb : shapedB re with
  | false => exact (bFindU_fn ra rc re hre ta tc w p 4611686018427387904 hsb).weaken (fun _ h => h) fun v S' h => .inl ⟨hsb, h.1, h.2⟩
  | true =>
    have hl : re.length ≤ 16384 := by obtain ⟨_, x, ks, hs⟩ := shapedB_iff.1 hsb; exact hs.len
    have hw := (hfit hsb w.length rfl).1
    exact bFind_fn ra rc re hre ta tc w (by omega) (by omega) p 4611686018427387904 (by decide) (by decide) hfit
theorem fitsV6 : Fits reV (w6.length : Nat) := fun m hm => by
  have : m = 6 := by simp [w6] at hm; omega
  subst this
  exact ⟨by decide, catV, ksV, shpV, by rw [gcnV]; exact accB_ok accV6⟩
theorem fitsV3 : Fits reV (w3.length : Nat) := fun m hm => by
  have : m = 3 := by simp [w3] at hm; omega
  subst this
  exact ⟨by decide, catV, ksV, shpV, by rw [gcnV]; exact accB_ok accV3⟩
theorem c0V : C0 reV = [noS] := by rw [C0, gcnV]; rfl
theorem bkV6 {v : Value} {S' : Hp} (h : BkP reV w6 0 v S') : ∃ a c, v = .tuple #[.slice a 2 c, .bool true, .int .i64 0] ∧ OwnS Esp 2 45 (.slice a 2 c) [⟨2, 5⟩, ⟨2, 3⟩] S' := by
  have hl : w6.length = 6 := rfl
  have good : BSome w6 catV ksV (C0 reV) 0 2 5 [⟨2, 3⟩] := by
    rw [c0V]
    exact ⟨Nat.zero_le _, by decide, by decide, by rw [lfV]; rfl, fun i' j' _ h2 _ h4 => lfV6n (by omega) (by omega) (by omega), fun j' h1 h2 => lfV6n (by omega) (by omega) (by omega), rfl, fun s hs => by
      rw [List.mem_singleton.1 hs]; exact .inr ⟨by decide, by decide, by decide⟩⟩
  rcases h with ⟨h, _⟩ | ⟨_, h, _⟩ | ⟨_, m, hm, _, x, ks, hS, h⟩
  · rw [shapedV] at h; cases h
  · exact absurd ⟨by decide, by decide⟩ h
  · obtain ⟨rfl, rfl⟩ := hS.uniq shpV
    obtain rfl : m = 0 := by omega
    rcases h with ⟨hn, _⟩ | ⟨i, j, c, a, cc, hB, hv, hO⟩
    · exact absurd hn good.not_none
    · obtain ⟨rfl, rfl, rfl⟩ := hB.uniq good
      rw [gcnV] at hv hO
      exact ⟨a, cc, hv, hO⟩
theorem bkV3 {v : Value} {S' : Hp} (h : BkP reV w3 0 v S') : v = .tuple #[.slice none 0 0, .bool false, .int .i64 0] := by
  have hl : w3.length = 3 := rfl
  rcases h with ⟨h, _⟩ | ⟨_, h, _⟩ | ⟨_, m, hm, _, x, ks, hS, h⟩
  · rw [shapedV] at h; cases h
  · exact absurd ⟨by decide, by decide⟩ h
  · obtain ⟨rfl, rfl⟩ := hS.uniq shpV
    rcases h with ⟨_, hv, _⟩ | ⟨i, j, c, a, cc, hB, _, _⟩
    · exact hv
    · have h1 := hB.hd
      have h2 := hB.ij
      have h3 := hB.hi
      rw [c0V, lfV3n (by omega) (by omega)] at h1; cases h1
theorem enE : enN .nil (F.nd (letN 97) .nil .nil).weight reE 0 = 64 := by decide +kernel
theorem BkP.trip {re : List Nd} {w : List UInt8} {p : Int} {v : Value} {S' : Hp} (h : BkP re w p v S') : ∃ a b c, v = .tuple #[a, b, c] := by
  rcases h with ⟨_, h, _⟩ | ⟨_, _, h, _⟩ | ⟨_, _, _, _, _, _, _, ⟨_, h, _⟩ | ⟨_, _, _, _, _, _, h, _⟩⟩ <;> exact ⟨_, _, _, h⟩
set_option maxHeartbeats 1000000 in
theorem found_fn (ra : Option Addr) (rc : Nat) (re : List Nd) (hre : ∀ x ∈ re, -128 ≤ x.op ∧ x.op < 128) (ta : Option Addr) (tc : Nat) (w : List UInt8) (hrl : re.length ≤ 2147483647) (hwl : w.length ≤ 2147483647) (p : Int) (hfit : shapedB re = true → Fits re w.length) : HL.Fn Tryd.prog 24 [.slice ra re.length rc, .slice ta w.length tc, .int .i64 p] (fun W => Rd En W (.slice ra re.length rc) re ∧ Rd Eb W (.slice ta w.length tc) w ∧ RdP W 0 0 (Esp noS)) [] (BkP re w p) := by
  refine fn_of Tryd.func24 rfl rfl rfl fun w0 hw => ?_
  refine c_seq fun _ hK1 => ?_
  refine c_region ?_
  refine o_step rfl (s_assign rfl) ?_
  refine o_step rfl (s_assign rfl) ?_
  refine o_step rfl (s_assign rfl) ?_
  refine o_nil ?_
  refine x_then (hK1 _ _ ?_)
  refine c_seq fun _ hK2 => ?_
  refine c_region ?_
  refine o_step rfl (s_move rfl) ?_
  refine o_call (copyNodes_fn ra rc re (by omega)) rfl rfl rfl (by exact .nil) (fun _ st => (RdK.old0 hw.1).out _ st) (fun v14 S14 ⟨a14, c14, hv14, hS14⟩ => ?_)
  subst hv14
  refine o_step rfl (s_move rfl) ?_
  refine o_call (copyBytes_fn ta tc w (by omega)) rfl rfl rfl (by exact .nil) (fun _ st => (RdK.old0 hw.2.1).out _ st) (fun v16 S16 ⟨a16, c16, hv16, hS16⟩ => ?_)
  subst hv16
  refine o_step rfl (s_move rfl) ?_
  refine o_call (bFindA_fn a14 c14 re hre a16 c16 w p hfit) rfl rfl rfl (by exact .nil) (fun _ st => ⟨(hS14.rdk hiA).out _ st, (hS16.rdk hiA).out _ st, (RdPK.old0 hw.2.2).out _ st⟩) (fun v18 S18 hv18 => ?_)
  obtain ⟨q1, q2, q3, rfl⟩ := hv18.trip
  refine o_step rfl (s_move rfl) ?_
  refine o_step rfl (s_extract rfl rfl) ?_
  refine o_step rfl (s_extract rfl rfl) ?_
  refine o_step rfl (s_extract rfl rfl) ?_
  refine o_step rfl (s_assign rfl) ?_
  refine o_step rfl (s_assign rfl) ?_
  refine o_step rfl (s_assign rfl) ?_
  refine o_nil ?_
  refine x_then (hK2 _ _ ?_)
  refine c_seq fun _ hK3 => ?_
  refine c_region ?_
  refine o_step rfl (s_move rfl) ?_
  refine o_step rfl (s_move rfl) ?_
  refine o_step rfl (s_move rfl) ?_
  refine o_step rfl (s_assign rfl) ?_
  refine o_step rfl (s_assign rfl) ?_
  refine o_step rfl (s_assign rfl) ?_
  refine o_nil ?_
  refine x_then (hK3 _ _ ?_)
  refine c_ret ?_
  refine ?_
  refine x_sub (Sub.refl _) (H' := S18) hzB ?_
  exact x_ret rfl (.tmp rfl (.tmp rfl (.tmp rfl (.nil)))) (hv18)
set_option maxHeartbeats 2000000 in
theorem works_fn  : HL.Fn Tryd.prog 15 [] (fun W => RdP W 0 0 (Esp noS)) [] (fun v _ => v = .bool true) := by
  refine fn_of Tryd.func15 rfl rfl rfl fun w0 hw => ?_
  refine c_seq fun _ hK1 => ?_
  refine c_region ?_
  refine o_step rfl (s_assign rfl) ?_
  refine o_nil ?_
  refine x_then (hK1 _ _ ?_)
  refine c_seq fun _ hK2 => ?_
  refine c_region ?_
  refine o_step rfl (step_cast (v' := .agg (En catV).toArray) (s_build (cs := [_, _, _, _, _, _, _, _, _]) (vs := [_, _]) rfl rfl (.cons rfl rfl rfl rfl rfl (.cons rfl rfl rfl rfl rfl (.nil)))) (by rw [En_catV])) ?_
  refine o_step rfl (step_cast (v' := .agg (En grpC).toArray) (s_build (cs := [_, _, _, _, _, _, _, _, _]) (vs := [_, _, _]) rfl rfl (.cons rfl rfl rfl rfl rfl (.cons rfl rfl rfl rfl rfl (.cons rfl rfl rfl rfl rfl (.nil))))) (by rw [En_grpC])) ?_
  refine o_step rfl (step_cast (v' := .agg (En starN).toArray) (s_build (cs := [_, _, _, _, _, _, _, _, _]) (vs := [_, _, _]) rfl rfl (.cons rfl rfl rfl rfl rfl (.cons rfl rfl rfl rfl rfl (.cons rfl rfl rfl rfl rfl (.nil))))) (by rw [En_star])) ?_
  refine o_callP (letter_fn 97) rfl rfl rfl (fun _ _ => trivial) (fun v11 hv11 => ?_)
  subst hv11
  refine o_callP (letter_fn 98) rfl rfl rfl (fun _ _ => trivial) (fun v12 hv12 => ?_)
  subst hv12
  refine o_step rfl (step_cast (v' := .agg (En refV).toArray) (s_build (cs := [_, _, _, _, _, _, _, _, _]) (vs := [_, _]) rfl rfl (.cons rfl rfl rfl rfl rfl (.cons rfl rfl rfl rfl rfl (.nil)))) (by rw [En_refV])) ?_
  refine o_bs (E := En) (xs := [catV, grpC, starN, letN 97, letN 98, refV]) (vs := [_, _, _, _, _, _]) rfl rfl rfl rfl rfl (by decide) (by decide) fun b14 S14 hS14 => ?_
  refine o_step rfl (s_assign rfl) ?_
  refine o_nil ?_
  refine x_then (hK2 _ _ ?_)
  refine c_seq fun _ hK3 => ?_
  refine c_region ?_
  refine o_step rfl (s_move rfl) ?_
  refine o_bs (E := Eb) (xs := [99, 97, 97, 98, 97, 99]) (vs := [_, _, _, _, _, _]) rfl rfl rfl rfl rfl (by decide) (by decide) fun b17 S17 hS17 => ?_
  refine o_conv_same rfl hS17 pkA rfl fun S18 hS18 => ?_
  refine o_call (bFindA_fn (some ⟨b14, 0, none⟩) 6 reV rngV (some ⟨b17, 0, none⟩) 6 w6 0 (fun _ => fitsV6)) rfl rfl rfl (by exact .nil) (fun w st => ⟨(hS14.rdk hiA).out w st, (hS18.rdk hiA).out w st, (RdPK.old0 hw).out w st⟩) (fun v19 S19 hv19 => ?_)
  obtain ⟨a19, c19, rfl, hO19⟩ := bkV6 hv19
  refine o_step rfl (s_move rfl) ?_
  refine o_step rfl (s_extract rfl rfl) ?_
  refine o_step rfl (s_extract rfl rfl) ?_
  refine o_step rfl (s_extract rfl rfl) ?_
  refine o_step rfl (s_assign rfl) ?_
  refine o_step rfl (s_assign rfl) ?_
  refine o_step rfl (s_assign rfl) ?_
  refine o_nil ?_
  refine x_then (hK3 _ _ ?_)
  refine c_seq fun _ hK4 => ?_
  refine c_region ?_
  refine o_step rfl (s_move rfl) ?_
  refine o_bs (E := Eb) (xs := [97, 97, 97]) (vs := [_, _, _]) rfl rfl rfl rfl rfl (by decide) (by decide) fun b25 S25 hS25 => ?_
  refine o_conv_same rfl hS25 pkA rfl fun S26 hS26 => ?_
  refine o_call (bFindA_fn (some ⟨b14, 0, none⟩) 6 reV rngV (some ⟨b25, 0, none⟩) 3 w3 0 (fun _ => fitsV3)) rfl rfl rfl (by exact .nil) (fun w st => ⟨(hS14.rdk hiA).out w st, (hS26.rdk hiA).out w st, (RdPK.old0 hw).out w st⟩) (fun v27 S27 hv27 => ?_)
  obtain rfl := bkV3 hv27
  refine o_step rfl (s_move rfl) ?_
  refine o_step rfl (s_extract rfl rfl) ?_
  refine o_step rfl (s_extract rfl rfl) ?_
  refine o_step rfl (s_extract rfl rfl) ?_
  refine o_step rfl (s_assign rfl) ?_
  refine o_step rfl (s_assign rfl) ?_
  refine o_step rfl (s_assign rfl) ?_
  refine o_nil ?_
  refine x_then (hK4 _ _ ?_)
  refine c_seq fun _ hK5 => ?_
  refine c_seq fun _ hK6 => ?_
  refine c_region ?_
  refine o_step rfl (s_move rfl) ?_
  refine o_step rfl (s_not rfl) ?_
  refine o_step rfl (s_move rfl) ?_
  refine o_yes rfl rfl ?_
  refine o_step rfl (s_move rfl) ?_
  refine o_yes rfl rfl ?_
  refine o_step rfl (step_cast (v' := .bool false) (s_neq rfl rfl) rfl) ?_
  refine o_step rfl (s_pick_f rfl rfl) ?_
  refine o_step rfl (s_move rfl) ?_
  refine o_yes rfl rfl ?_
  refine o_step rfl (s_move rfl) ?_
  refine o_yes rfl rfl ?_
  refine o_step rfl (s_len rfl) ?_
  refine o_yes rfl rfl ?_
  refine o_step rfl (step_cast (v' := .bool false) (s_neq rfl rfl) rfl) ?_
  refine o_step rfl (s_pick_f rfl rfl) ?_
  refine o_step rfl (s_move rfl) ?_
  refine o_yes rfl rfl ?_
  refine o_step rfl (s_move rfl) ?_
  refine o_yes rfl rfl ?_
  refine o_step rfl (s_idx rfl rfl hO19.sl (by omega)) ?_
  refine o_yes rfl rfl ?_
  refine o_step rfl (s_ldB rfl ((hO19.rdk hiA).lds 0 rfl rfl) (by rfl)) ?_
  refine o_yes rfl rfl ?_
  refine o_step rfl (step_cast (v' := .agg (Esp ⟨2, 5⟩).toArray) (s_build (cs := [_, _]) (vs := [_, _]) rfl rfl (.cons rfl rfl rfl rfl rfl (.cons rfl rfl rfl rfl rfl (.nil)))) rfl) ?_
  refine o_yes rfl rfl ?_
  refine o_step rfl (step_cast (v' := .bool false) (s_neq_sp rfl rfl) rfl) ?_
  refine o_step rfl (s_pick_f rfl rfl) ?_
  refine o_step rfl (s_move rfl) ?_
  refine o_yes rfl rfl ?_
  refine o_step rfl (s_move rfl) ?_
  refine o_yes rfl rfl ?_
  refine o_step rfl (s_idx rfl rfl hO19.sl (by omega)) ?_
  refine o_yes rfl rfl ?_
  refine o_step rfl (s_ldB rfl ((hO19.rdk hiA).lds 1 rfl rfl) (by rfl)) ?_
  refine o_yes rfl rfl ?_
  refine o_step rfl (step_cast (v' := .agg (Esp ⟨2, 3⟩).toArray) (s_build (cs := [_, _]) (vs := [_, _]) rfl rfl (.cons rfl rfl rfl rfl rfl (.cons rfl rfl rfl rfl rfl (.nil)))) rfl) ?_
  refine o_yes rfl rfl ?_
  refine o_step rfl (step_cast (v' := .bool false) (s_neq_sp rfl rfl) rfl) ?_
  refine o_step rfl (s_pick_f rfl rfl) ?_
  refine o_nil ?_
  refine x_then (hK6 _ _ ?_)
  refine c_false rfl ?_
  refine c_skip ?_
  refine x_then (hK5 _ _ ?_)
  refine c_seq fun _ hK7 => ?_
  refine c_region ?_
  refine o_step rfl (s_move rfl) ?_
  refine o_step rfl (s_not rfl) ?_
  refine o_step rfl (s_move rfl) ?_
  refine o_yes rfl rfl ?_
  refine o_step rfl (s_move rfl) ?_
  refine o_yes rfl rfl ?_
  refine o_step rfl (step_cast (v' := .bool true) (s_eql rfl rfl) rfl) ?_
  refine o_step rfl (s_pick_t rfl rfl) ?_
  refine o_step rfl (s_move rfl) ?_
  refine o_yes rfl rfl ?_
  refine o_step rfl (s_move rfl) ?_
  refine o_yes rfl rfl ?_
  refine o_step rfl (s_len rfl) ?_
  refine o_yes rfl rfl ?_
  refine o_step rfl (step_cast (v' := .bool true) (s_eql rfl rfl) rfl) ?_
  refine o_step rfl (s_pick_t rfl rfl) ?_
  refine o_step rfl (s_move rfl) ?_
  refine o_yes rfl rfl ?_
  refine o_callP (letter_fn 97) rfl rfl rfl (fun _ _ => trivial) (fun v68 hv68 => ?_)
  subst hv68
  refine o_yes rfl rfl ?_
  refine o_bs (E := En) (xs := [letN 97]) (vs := [_]) rfl rfl rfl rfl rfl (by decide) (by decide) fun b69 S69 hS69 => ?_
  refine o_yes rfl rfl ?_
  refine o_callP (enough_fn (some ⟨b69, 0, none⟩) 1 reE rngE 0 (by decide)) rfl rfl rfl (fun w st => (hS69.rdk hiA).out w st) (fun v70 hv70 => ?_)
  obtain rfl : v70 = .int .i64 64 := by
    rcases hv70 with ⟨h, _⟩ | ⟨x, ks, hS, _, _, h⟩
    · exact absurd ⟨shapedE, by decide⟩ h
    · obtain ⟨rfl, rfl⟩ := hS.uniq shpE
      rw [h]; exact congrArg (fun n : Nat => Value.int .i64 n) enE
  refine o_yes rfl rfl ?_
  refine o_step rfl (step_cast (v' := .bool true) (s_eql rfl rfl) rfl) ?_
  refine o_step rfl (s_pick_t rfl rfl) ?_
  refine o_step rfl (s_assign rfl) ?_
  refine o_nil ?_
  refine x_then (hK7 _ _ ?_)
  refine c_ret ?_
  refine ?_
  exact x_ret rfl (.tmp rfl (.nil)) (rfl)
end Go.Proofs.YtloepfcndglmmaaDoor
namespace Go.HL.Kl.Mc
open Go Go.HL Go.HL.Kl
abbrev ddp (m : List Caps) : List Caps := addC [] m
/-- what a question of the tally stands for -/
def semQ (w : List UInt8) : TQ → List Caps
  | .node x ks i j c => LF1 w x ks i j c
  | .alt g i j c => LF w g true i j c
  | .row g i j c => LF w g false i j c
  | .rnd x y js had i j c => RLf x (fun p e c => LF w (.nd y js .nil) false p e (emp (F.nd y js .nil).flat c)) j had i c
/-- the ends lie in order -/
def ordQ : TQ → Prop
  | .node _ _ i j _ => i ≤ j
  | .alt _ i j _ => i ≤ j
  | .row _ i j _ => i ≤ j
  | .rnd _ _ _ _ i j _ => i ≤ j
def lenQ (k : Nat) : TQ → Nat
  | .node _ _ _ _ _ => k
  | .alt _ _ _ _ => k
  | .row _ _ _ _ => k + 1
  | .rnd _ _ _ _ _ _ _ => k + 1
/-- what comes of some ends -/
def gatS (es : List Nat) (A : Nat → List Caps) (B : Nat → Caps → List Caps) : List Caps := es.flatMap fun e => (A e).flatMap (B e)
variable {n : Nat} {x : Nd} {ks : F} {i j : Nat} {c : Caps} {Z : List Caps} {k : Nat}
end Go.HL.Kl.Mc
namespace Go.HL.Kl.Mc
open Go Go.HL Go.HL.Kl
def OkC (n : Nat) (c : Caps) : Prop := ∀ s ∈ c, s = noS ∨ (0 ≤ s.fr ∧ s.fr ≤ s.to ∧ s.to ≤ n)
/-- what is new lies between two places -/
def InC (i j : Nat) (c d : Caps) : Prop := ∀ s ∈ d, s ∈ c ∨ s = noS ∨ ((i : Int) ≤ s.fr ∧ s.fr ≤ s.to ∧ s.to ≤ (j : Int))
theorem InC.refl {i j : Nat} {c : Caps} : InC i j c c := fun _ h => .inl h
theorem InC.trans {i j : Nat} {c d e : Caps} (h : InC i j c d) (h' : InC i j d e) : InC i j c e := fun s hs => (h' s hs).elim (h s) .inr
theorem InC.mono {i j i' j' : Nat} {c d : Caps} (h : InC i j c d) (h1 : i' ≤ i) (h2 : j ≤ j') : InC i' j' c d := fun s hs => (h s hs).imp id fun h => h.imp id fun h => by omega
theorem InC.set {i j : Nat} {c d : Caps} (h : InC i j c d) (hij : i ≤ j) (m : Nat) : InC i j c (d.set m ⟨i, j⟩) := fun s hs => by
  rcases List.mem_or_eq_of_mem_set hs with hs | rfl
  · exact h s hs
  · exact .inr (.inr ⟨Int.le_refl _, by simpa using hij, Int.le_refl _⟩)
theorem InC.emp {i j : Nat} : ∀ (l : List Nd) {c d : Caps}, InC i j c d → InC i j c (emp l d)
  | [], _, _, h => h
  | x :: l, c, d, h => by
    show InC i j c (Mc.emp l (em1 d x))
    refine InC.emp l ?_
    unfold em1
    split
    · intro s hs
      rcases List.mem_or_eq_of_mem_set hs with hs | rfl
      · exact h s hs
      · exact .inr (.inl rfl)
    · exact h
theorem RL_inc {x : Nd} {B : Nat → Nat → Caps → List Caps} {q : Nat} (hB : ∀ p e c, p ≤ e → e ≤ q → ∀ d ∈ B p e c, InC p e c d) : ∀ (f had p : Nat) (c : Caps), ∀ d ∈ RL x B q f had p c, InC p q c d
  | 0, _, _, _, d, hd => by cases hd
  | f + 1, had, p, c, d, hd => by
    rw [RL] at hd
    rcases List.mem_append.1 hd with hd | hd
    · split at hd
      · obtain ⟨e, he, hd⟩ := List.mem_flatMap.1 hd
        have he := mem_ends.1 he
        split at hd
        · cases hd
        · obtain ⟨c1, h1, hd⟩ := List.mem_flatMap.1 hd
          exact ((hB p e c he.1 he.2 c1 h1).mono (Nat.le_refl _) he.2).trans ((RL_inc hB f _ _ c1 d hd).mono he.1 (Nat.le_refl _))
      · cases hd
    · split at hd
      · rw [List.mem_singleton.1 hd]; exact .refl
      · cases hd
theorem LF_inc {w : List UInt8} : ∀ (f : F) (md : Bool) (i j : Nat) (c : Caps), i ≤ j → ∀ d ∈ LF w f md i j c, InC i j c d
  | .nil, true, i, j, c, _, d, hd => by rw [LF_nilT] at hd; cases hd
  | .nil, false, i, j, c, _, d, hd => by
    rw [LF_nilF] at hd
    split at hd
    · rw [List.mem_singleton.1 hd]; exact .refl
    · cases hd
  | .nd x ks r, md, i, j, c, hij, d, hd => by
    have one : ∀ i j c, i ≤ j → ∀ d ∈ LF1 w x ks i j c, InC i j c d := by
      intro i j c hij d hd
      rw [LF1_def] at hd
      split at hd
      · split at hd
        · rw [List.mem_singleton.1 hd]; exact .refl
        · cases hd
      split at hd
      · split at hd
        · rw [List.mem_singleton.1 hd]; exact .refl
        · cases hd
      split at hd
      · split at hd
        · rw [List.mem_singleton.1 hd]; exact .refl
        · cases hd
      split at hd
      · split at hd
        · rw [List.mem_singleton.1 hd]; exact .refl
        · cases hd
      split at hd
      · exact LF_inc ks true i j c hij d hd
      split at hd
      · exact RL_inc (fun p e c h1 h2 d hd => (InC.emp _ InC.refl).trans (LF_inc ks false p e _ h1 d hd)) _ _ _ _ d hd
      split at hd
      · obtain ⟨d', h1, rfl⟩ := List.mem_map.1 hd
        exact ((InC.emp _ InC.refl).trans (LF_inc ks false i j _ hij d' h1)).set hij _
      · exact LF_inc ks false i j c hij d hd
    cases md with
    | true =>
      rw [LF_alt] at hd
      rcases List.mem_append.1 hd with hd | hd
      · exact one i j c hij d hd
      · exact LF_inc r true i j c hij d hd
    | false =>
      rw [LF_cat] at hd
      obtain ⟨e, he, hd⟩ := List.mem_flatMap.1 hd
      have he := mem_ends.1 he
      obtain ⟨c1, h1, hd⟩ := List.mem_flatMap.1 hd
      exact ((one i e c he.1 c1 h1).mono (Nat.le_refl _) he.2).trans ((LF_inc r false e j c1 he.2 d hd).mono he.1 (Nat.le_refl _))
theorem LF1_inc {w : List UInt8} {x : Nd} {ks : F} {i j n : Nat} (hij : i ≤ j) {d : Caps} (hd : d ∈ LF1 w x ks i j (List.replicate n noS)) : ∀ s ∈ d, s = noS ∨ ((i : Int) ≤ s.fr ∧ s.fr ≤ s.to ∧ s.to ≤ (j : Int)) := fun s hs => by
  rcases LF_inc (.nd x ks .nil) true i j _ hij d hd s hs with h | h
  · exact .inl (List.eq_of_mem_replicate h)
  · exact h
end Go.HL.Kl.Mc
namespace Go.Proofs.YtloepfcndglmmaaDoor
open Go Go.HL Go.Proofs Go.HL.Kl Go.HL.Kl.Mc
set_option maxHeartbeats 1000000 in
theorem beyond_fn (ra : Option Addr) (rc : Nat) (re : List Nd) (hre : ∀ x ∈ re, -128 ≤ x.op ∧ x.op < 128) : HL.Fn Tryd.prog 21 [.slice ra re.length rc] (fun w => Rd En w (.slice ra re.length rc) re) [] (fun v _ => ∃ b, v = .bool b) := by
  refine fn_of Tryd.func21 rfl rfl rfl fun w0 hw => ?_
  have hsl := hw.sl
  have hbl := hsl.le
  refine c_seq fun _ hK1 => ?_
  refine c_region ?_
  refine o_step rfl (s_assign rfl) ?_
  refine o_nil ?_
  refine x_then (hK1 _ _ ?_)
  refine c_seq fun _ hK2 => ?_
  refine c_region ?_
  refine o_step rfl (s_assign rfl) ?_
  refine o_nil ?_
  refine x_then (hK2 _ _ ?_)
  refine c_seq fun _ hK3 => ?_
  refine c_seq fun _ hK4 => ?_
  refine c_region ?_
  refine o_step rfl (s_assign rfl) ?_
  refine o_nil ?_
  refine x_then (hK4 _ _ ?_)
  refine c_block ?_
  -- not carried: 2
  refine c_loop3 (fun (j : Nat) (q : Sl Int) (S : Hp) => j ≤ re.length ∧ q.xs.length ≤ 65536 ∧ OwnS Ei 1 3 (.slice q.a q.xs.length q.c) q.xs S) (fun (j : Nat) (q : Sl Int) (S : Hp) => [(4, .int .i64 j), (3, .slice q.a q.xs.length q.c)]) [(0, _)] (fun (j : Nat) (q : Sl Int) (S : Hp) => S) (fun (j : Nat) (q : Sl Int) (S : Hp) => re.length - j) 0 ⟨none, 0, []⟩ [] ⟨by omega, by simp, .nil⟩ sbA sbA hzB ?_
  rintro j q0 S0 ⟨hj, hq0, hO0⟩
  refine c_seq fun _ hK5 => ?_
  refine c_seq fun _ hK6 => ?_
  refine c_region ?_
  refine o_step rfl (s_move rfl) ?_
  refine o_step rfl (s_move rfl) ?_
  refine o_step rfl (s_len rfl) ?_
  by_cases hjl : j < re.length
  ·
   obtain ⟨x, hx⟩ : ∃ x, re[j]? = some x := ⟨_, List.getElem?_eq_getElem hjl⟩
   refine o_step rfl (step_cast (v' := .bool true) (s_lss rfl rfl) (by rw [decide_eq_true (by omega)])) ?_
   refine o_nil ?_
   refine x_then (hK6 _ _ ?_)
   refine c_true rfl ?_
   refine c_skip ?_
   refine x_then (hK5 _ _ ?_)
   refine c_seq fun _ hK7 => ?_
   refine c_block ?_
   refine c_seq fun _ hK8 => ?_
   refine c_block ?_
   refine c_loop2 (fun (q : Sl Int) (S : Hp) => q.xs.length ≤ 65536 ∧ OwnS Ei 1 3 (.slice q.a q.xs.length q.c) q.xs S) (fun (q : Sl Int) (S : Hp) => [(3, .slice q.a q.xs.length q.c)]) [(0, _), (4, _), (5, _), (6, _), (7, _), (8, _)] (fun (q : Sl Int) (S : Hp) => S) (fun (q : Sl Int) (S : Hp) => q.xs.length) q0 S0 ⟨hq0, hO0⟩ sbA sbA hzB ?_
   rintro q S ⟨hq, hO⟩
   have hOs := hO.sl
   have hOc := hOs.cap
   refine c_seq fun _ hK9 => ?_
   refine c_seq fun _ hK10 => ?_
   refine c_region ?_
   refine o_step rfl (s_move rfl) ?_
   refine o_step rfl (s_len rfl) ?_
   by_cases hp0 : (q.xs.length : Int) > 0
   ·
    obtain ⟨u, hu⟩ : ∃ u, q.xs[q.xs.length - 1]? = some u := ⟨_, List.getElem?_eq_getElem (by omega)⟩
    have hO1 := hO.pre (q.xs.length - 1) (by omega)
    have hql1 : (q.xs.take (q.xs.length - 1)).length = q.xs.length - 1 := by rw [List.length_take]; omega
    refine o_step rfl (step_cast (v' := .bool true) (s_gtr rfl rfl) (by rw [decide_eq_true (by omega)])) ?_
    refine o_step rfl (s_move rfl) ?_
    refine o_yes rfl rfl ?_
    refine o_step rfl (s_move rfl) ?_
    refine o_yes rfl rfl ?_
    refine o_step rfl (s_move rfl) ?_
    refine o_yes rfl rfl ?_
    refine o_step rfl (s_len rfl) ?_
    refine o_yes rfl rfl ?_
    refine o_step rfl (s_sub rfl rfl (by omega)) ?_
    refine o_yes rfl rfl ?_
    refine o_step rfl (s_idx rfl rfl hOs (by omega)) ?_
    refine o_yes rfl rfl ?_
    refine o_step rfl (s_ld rfl ((hO.rdk hiA).ld (q.xs.length - 1) 0 hu rfl (by decide) (by omega))) ?_
    refine o_yes rfl rfl ?_
    by_cases hle : u ≤ 0
    ·
     refine o_step rfl (step_cast (v' := .bool true) (s_leq rfl rfl) (by rw [decide_eq_true (by omega)])) ?_
     refine o_step rfl (s_pick_t rfl rfl) ?_
     refine o_nil ?_
     refine x_then (hK10 _ _ ?_)
     refine c_true rfl ?_
     refine c_skip ?_
     refine x_then (hK9 _ _ ?_)
     refine c_block ?_
     refine c_region ?_
     refine o_step rfl (s_move rfl) ?_
     refine o_step rfl (s_move rfl) ?_
     refine o_step rfl (s_len rfl) ?_
     refine o_step rfl (s_sub rfl rfl (by omega)) ?_
     refine o_step rfl (step_cast (v' := .slice q.a (q.xs.take (q.xs.length - 1)).length q.c) (s_slice_hi rfl rfl (by omega)) (by rw [hql1]; congr 1; omega)) ?_
     refine o_step rfl (s_assign rfl) ?_
     refine o_nil ?_
     refine x_block ?_
     exact x_then (x_inv (⟨q.a, q.c, q.xs.take (q.xs.length - 1)⟩, S) ⟨by rw [hql1]; omega, by dsimp only; rw [hql1]; exact hO1⟩ (by dsimp only; rw [hql1]; omega) sbA hzB)
    ·
     refine o_step rfl (step_cast (v' := .bool false) (s_leq rfl rfl) (by rw [decide_eq_false (by omega)])) ?_
     refine o_step rfl (s_pick_t rfl rfl) ?_
     refine o_nil ?_
     refine x_then (hK10 _ _ ?_)
     refine c_false rfl ?_
     refine c_exit ?_
     refine x_then_exit ?_
     refine x_then_exit ?_
     refine x_block_exit ?_
     refine x_then (hK8 _ _ ?_)
     refine c_seq fun _ hK11 => ?_
     refine c_seq fun _ hK12 => ?_
     refine c_region ?_
     refine o_step rfl (s_move rfl) ?_
     refine o_step rfl (s_len rfl) ?_
     by_cases hp1 : (q.xs.length : Int) > 0
     ·
      obtain ⟨u2, hu2⟩ : ∃ u, q.xs[q.xs.length - 1]? = some u := ⟨_, List.getElem?_eq_getElem (by omega)⟩
      refine o_step rfl (step_cast (v' := .bool true) (s_gtr rfl rfl) (by rw [decide_eq_true (by omega)])) ?_
      refine o_nil ?_
      refine x_then (hK12 _ _ ?_)
      refine c_true rfl ?_
      refine c_region ?_
      refine o_step rfl (s_move rfl) ?_
      refine o_step rfl (s_move rfl) ?_
      refine o_step rfl (s_len rfl) ?_
      refine o_step rfl (s_sub rfl rfl (by omega)) ?_
      refine o_step rfl (s_move rfl) ?_
      refine o_step rfl (s_move rfl) ?_
      refine o_step rfl (s_len rfl) ?_
      refine o_step rfl (s_sub rfl rfl (by omega)) ?_
      refine o_step rfl (s_idx rfl rfl hOs (by omega)) ?_
      refine o_step rfl (s_ld rfl ((hO.rdk hiA).ld (q.xs.length - 1) 0 hu2 rfl (by decide) (by omega))) ?_
      refine o_step rfl (s_subw rfl rfl) ?_
      refine o_step rfl (s_idx rfl rfl hOs (by omega)) ?_
      refine o_stS1 (q.xs.length - 1) _ hO pkA rfl rfl rfl (by omega) (by omega) fun S' hS' => ?_
      have hO := hS'
      refine o_nil ?_
      refine x_then (hK11 _ _ ?_)
      refine c_seq fun _ hK13 => ?_
      refine c_region ?_
      refine o_step rfl (s_move rfl) ?_
      refine o_step rfl (s_move rfl) ?_
      refine o_step rfl (s_move rfl) ?_
      refine o_step rfl (s_idx rfl rfl hsl (by omega)) ?_
      refine o_step rfl (s_field rfl rfl (by decide)) ?_
      refine o_step rfl (s_ld rfl ((RdK.old0 hw).ld j 8 hx rfl (by decide) (by omega))) ?_
      refine o_bs (E := Ei) (xs := [x.kids]) (vs := [_]) rfl rfl rfl rfl rfl (by decide) (by decide) fun b49 S49 hS49 => ?_
      refine o_app hO (hS49.rdk hiA) rfl rfl rfl rfl (by simp; omega) (by simp; omega) rfl pkA fun a50 c50 S50 hS50 => ?_
      refine o_step rfl (s_assign rfl) ?_
      refine o_nil ?_
      refine x_then (hK13 _ _ ?_)
      refine c_seq fun _ hK14 => ?_
      refine c_region ?_
      refine o_step rfl (s_move rfl) ?_
      refine o_step rfl (s_len rfl) ?_
      refine o_step rfl (s_gtr rfl rfl) ?_
      refine o_nil ?_
      refine x_then (hK14 _ _ ?_)
      refine c_if rfl (fun hbig => ?_) (fun hbig => ?_)
      ·
       refine c_seq fun _ hK15 => ?_
       refine c_region ?_
       refine o_step rfl (s_assign rfl) ?_
       refine o_nil ?_
       refine x_then (hK15 _ _ ?_)
       refine c_ret ?_
       refine x_block_ret (x_then_ret (x_then_ret (x_block_ret (x_then_ret (?_)))))
       exact x_ret rfl (.tmp rfl (.nil)) (⟨_, rfl⟩)
      ·
       refine c_skip ?_
       refine x_block ?_
       refine x_then (hK7 _ _ ?_)
       refine c_region ?_
       refine o_step rfl (s_move rfl) ?_
       refine o_step rfl (s_add rfl rfl (by omega)) ?_
       refine o_step rfl (s_assign rfl) ?_
       refine o_nil ?_
       exact x_then (x_inv (j + 1, ⟨a50, c50, _⟩, S50) ⟨by omega, by dsimp only; omega, hS50⟩ (by first | omega | (dsimp only; omega)) sbA hzB)
     ·
      refine o_step rfl (step_cast (v' := .bool false) (s_gtr rfl rfl) (by rw [decide_eq_false (by omega)])) ?_
      refine o_nil ?_
      refine x_then (hK12 _ _ ?_)
      refine c_false rfl ?_
      refine c_skip ?_
      refine x_then (hK11 _ _ ?_)
      refine c_seq fun _ hK16 => ?_
      refine c_region ?_
      refine o_step rfl (s_move rfl) ?_
      refine o_step rfl (s_move rfl) ?_
      refine o_step rfl (s_move rfl) ?_
      refine o_step rfl (s_idx rfl rfl hsl (by omega)) ?_
      refine o_step rfl (s_field rfl rfl (by decide)) ?_
      refine o_step rfl (s_ld rfl ((RdK.old0 hw).ld j 8 hx rfl (by decide) (by omega))) ?_
      refine o_bs (E := Ei) (xs := [x.kids]) (vs := [_]) rfl rfl rfl rfl rfl (by decide) (by decide) fun b49 S49 hS49 => ?_
      refine o_app hO (hS49.rdk hiA) rfl rfl rfl rfl (by simp; omega) (by simp; omega) rfl pkA fun a50 c50 S50 hS50 => ?_
      refine o_step rfl (s_assign rfl) ?_
      refine o_nil ?_
      refine x_then (hK16 _ _ ?_)
      refine c_seq fun _ hK17 => ?_
      refine c_region ?_
      refine o_step rfl (s_move rfl) ?_
      refine o_step rfl (s_len rfl) ?_
      refine o_step rfl (s_gtr rfl rfl) ?_
      refine o_nil ?_
      refine x_then (hK17 _ _ ?_)
      refine c_if rfl (fun hbig => ?_) (fun hbig => ?_)
      ·
       refine c_seq fun _ hK18 => ?_
       refine c_region ?_
       refine o_step rfl (s_assign rfl) ?_
       refine o_nil ?_
       refine x_then (hK18 _ _ ?_)
       refine c_ret ?_
       refine x_block_ret (x_then_ret (x_then_ret (x_block_ret (x_then_ret (?_)))))
       exact x_ret rfl (.tmp rfl (.nil)) (⟨_, rfl⟩)
      ·
       refine c_skip ?_
       refine x_block ?_
       refine x_then (hK7 _ _ ?_)
       refine c_region ?_
       refine o_step rfl (s_move rfl) ?_
       refine o_step rfl (s_add rfl rfl (by omega)) ?_
       refine o_step rfl (s_assign rfl) ?_
       refine o_nil ?_
       exact x_then (x_inv (j + 1, ⟨a50, c50, _⟩, S50) ⟨by omega, by dsimp only; omega, hS50⟩ (by first | omega | (dsimp only; omega)) sbA hzB)
   ·
    refine o_step rfl (step_cast (v' := .bool false) (s_gtr rfl rfl) (by rw [decide_eq_false (by omega)])) ?_
    refine o_step rfl (s_move rfl) ?_
    refine o_no rfl rfl rfl rfl ?_
    refine o_no rfl rfl rfl rfl ?_
    refine o_no rfl rfl rfl rfl ?_
    refine o_no rfl rfl rfl rfl ?_
    refine o_no rfl rfl rfl rfl ?_
    refine o_no rfl rfl rfl rfl ?_
    refine o_no rfl rfl rfl rfl ?_
    refine o_step rfl (s_pick_f rfl rfl) ?_
    refine o_nil ?_
    refine x_then (hK10 _ _ ?_)
    refine c_false rfl ?_
    refine c_exit ?_
    refine x_then_exit ?_
    refine x_then_exit ?_
    refine x_block_exit ?_
    refine x_then (hK8 _ _ ?_)
    refine c_seq fun _ hK19 => ?_
    refine c_seq fun _ hK20 => ?_
    refine c_region ?_
    refine o_step rfl (s_move rfl) ?_
    refine o_step rfl (s_len rfl) ?_
    by_cases hp1 : (q.xs.length : Int) > 0
    ·
     obtain ⟨u2, hu2⟩ : ∃ u, q.xs[q.xs.length - 1]? = some u := ⟨_, List.getElem?_eq_getElem (by omega)⟩
     refine o_step rfl (step_cast (v' := .bool true) (s_gtr rfl rfl) (by rw [decide_eq_true (by omega)])) ?_
     refine o_nil ?_
     refine x_then (hK20 _ _ ?_)
     refine c_true rfl ?_
     refine c_region ?_
     refine o_step rfl (s_move rfl) ?_
     refine o_step rfl (s_move rfl) ?_
     refine o_step rfl (s_len rfl) ?_
     refine o_step rfl (s_sub rfl rfl (by omega)) ?_
     refine o_step rfl (s_move rfl) ?_
     refine o_step rfl (s_move rfl) ?_
     refine o_step rfl (s_len rfl) ?_
     refine o_step rfl (s_sub rfl rfl (by omega)) ?_
     refine o_step rfl (s_idx rfl rfl hOs (by omega)) ?_
     refine o_step rfl (s_ld rfl ((hO.rdk hiA).ld (q.xs.length - 1) 0 hu2 rfl (by decide) (by omega))) ?_
     refine o_step rfl (s_subw rfl rfl) ?_
     refine o_step rfl (s_idx rfl rfl hOs (by omega)) ?_
     refine o_stS1 (q.xs.length - 1) _ hO pkA rfl rfl rfl (by omega) (by omega) fun S' hS' => ?_
     have hO := hS'
     refine o_nil ?_
     refine x_then (hK19 _ _ ?_)
     refine c_seq fun _ hK21 => ?_
     refine c_region ?_
     refine o_step rfl (s_move rfl) ?_
     refine o_step rfl (s_move rfl) ?_
     refine o_step rfl (s_move rfl) ?_
     refine o_step rfl (s_idx rfl rfl hsl (by omega)) ?_
     refine o_step rfl (s_field rfl rfl (by decide)) ?_
     refine o_step rfl (s_ld rfl ((RdK.old0 hw).ld j 8 hx rfl (by decide) (by omega))) ?_
     refine o_bs (E := Ei) (xs := [x.kids]) (vs := [_]) rfl rfl rfl rfl rfl (by decide) (by decide) fun b49 S49 hS49 => ?_
     refine o_app hO (hS49.rdk hiA) rfl rfl rfl rfl (by simp; omega) (by simp; omega) rfl pkA fun a50 c50 S50 hS50 => ?_
     refine o_step rfl (s_assign rfl) ?_
     refine o_nil ?_
     refine x_then (hK21 _ _ ?_)
     refine c_seq fun _ hK22 => ?_
     refine c_region ?_
     refine o_step rfl (s_move rfl) ?_
     refine o_step rfl (s_len rfl) ?_
     refine o_step rfl (s_gtr rfl rfl) ?_
     refine o_nil ?_
     refine x_then (hK22 _ _ ?_)
     refine c_if rfl (fun hbig => ?_) (fun hbig => ?_)
     ·
      refine c_seq fun _ hK23 => ?_
      refine c_region ?_
      refine o_step rfl (s_assign rfl) ?_
      refine o_nil ?_
      refine x_then (hK23 _ _ ?_)
      refine c_ret ?_
      refine x_block_ret (x_then_ret (x_then_ret (x_block_ret (x_then_ret (?_)))))
      exact x_ret rfl (.tmp rfl (.nil)) (⟨_, rfl⟩)
     ·
      refine c_skip ?_
      refine x_block ?_
      refine x_then (hK7 _ _ ?_)
      refine c_region ?_
      refine o_step rfl (s_move rfl) ?_
      refine o_step rfl (s_add rfl rfl (by omega)) ?_
      refine o_step rfl (s_assign rfl) ?_
      refine o_nil ?_
      exact x_then (x_inv (j + 1, ⟨a50, c50, _⟩, S50) ⟨by omega, by dsimp only; omega, hS50⟩ (by first | omega | (dsimp only; omega)) sbA hzB)
    ·
     refine o_step rfl (step_cast (v' := .bool false) (s_gtr rfl rfl) (by rw [decide_eq_false (by omega)])) ?_
     refine o_nil ?_
     refine x_then (hK20 _ _ ?_)
     refine c_false rfl ?_
     refine c_skip ?_
     refine x_then (hK19 _ _ ?_)
     refine c_seq fun _ hK24 => ?_
     refine c_region ?_
     refine o_step rfl (s_move rfl) ?_
     refine o_step rfl (s_move rfl) ?_
     refine o_step rfl (s_move rfl) ?_
     refine o_step rfl (s_idx rfl rfl hsl (by omega)) ?_
     refine o_step rfl (s_field rfl rfl (by decide)) ?_
     refine o_step rfl (s_ld rfl ((RdK.old0 hw).ld j 8 hx rfl (by decide) (by omega))) ?_
     refine o_bs (E := Ei) (xs := [x.kids]) (vs := [_]) rfl rfl rfl rfl rfl (by decide) (by decide) fun b49 S49 hS49 => ?_
     refine o_app hO (hS49.rdk hiA) rfl rfl rfl rfl (by simp; omega) (by simp; omega) rfl pkA fun a50 c50 S50 hS50 => ?_
     refine o_step rfl (s_assign rfl) ?_
     refine o_nil ?_
     refine x_then (hK24 _ _ ?_)
     refine c_seq fun _ hK25 => ?_
     refine c_region ?_
     refine o_step rfl (s_move rfl) ?_
     refine o_step rfl (s_len rfl) ?_
     refine o_step rfl (s_gtr rfl rfl) ?_
     refine o_nil ?_
     refine x_then (hK25 _ _ ?_)
     refine c_if rfl (fun hbig => ?_) (fun hbig => ?_)
     ·
      refine c_seq fun _ hK26 => ?_
      refine c_region ?_
      refine o_step rfl (s_assign rfl) ?_
      refine o_nil ?_
      refine x_then (hK26 _ _ ?_)
      refine c_ret ?_
      refine x_block_ret (x_then_ret (x_then_ret (x_block_ret (x_then_ret (?_)))))
      exact x_ret rfl (.tmp rfl (.nil)) (⟨_, rfl⟩)
     ·
      refine c_skip ?_
      refine x_block ?_
      refine x_then (hK7 _ _ ?_)
      refine c_region ?_
      refine o_step rfl (s_move rfl) ?_
      refine o_step rfl (s_add rfl rfl (by omega)) ?_
      refine o_step rfl (s_assign rfl) ?_
      refine o_nil ?_
      exact x_then (x_inv (j + 1, ⟨a50, c50, _⟩, S50) ⟨by omega, by dsimp only; omega, hS50⟩ (by first | omega | (dsimp only; omega)) sbA hzB)
  ·
   refine o_step rfl (step_cast (v' := .bool false) (s_lss rfl rfl) (by rw [decide_eq_false (by omega)])) ?_
   refine o_nil ?_
   refine x_then (hK6 _ _ ?_)
   refine c_false rfl ?_
   refine c_exit ?_
   refine x_then_exit ?_
   refine x_then_exit ?_
   refine x_block_exit ?_
   refine x_then (hK3 _ _ ?_)
   refine c_seq fun _ hK27 => ?_
   refine c_region ?_
   refine o_step rfl (s_assign rfl) ?_
   refine o_nil ?_
   refine x_then (hK27 _ _ ?_)
   refine c_ret ?_
   refine ?_
   exact x_ret rfl (.tmp rfl (.nil)) (⟨_, rfl⟩)
end Go.Proofs.YtloepfcndglmmaaDoor
