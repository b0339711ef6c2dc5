/- Mathematics of back-references: the account of a search, and what it finds, computed. Conditions: none. -/
import Derived.Test.YtloepfcndglmmaaDoorBT1Z
import Derived.Test.YtloepfcndglmmaaDoorMT23Z
import Derived.Test.YtloepfcndglmmaaDoorHTZ
import Derived.Test.YtloepfcndglmmaaDoorVA1Z
import Derived.Test.YtloepfcndglmmaaDoorVZV7Z
import Derived.Test.YtloepfcndglmmaaDoorHM2Z
import Derived.Test.YtloepfcndglmmaaDoorVZN3Z
import Derived.Test.YtloepfcndglmmaaDoorMT6Z
namespace Go.HL.Kl.Mc
open Go Go.HL Go.HL.Kl
instance {n : Nat} {x : Nd} {c : Caps} {i j : Nat} : Decidable (goodT n x c i j) := by unfold goodT; infer_instance
abbrev CtR := Bool × List Caps × Nat
def gat1 (A : Nat → CtR) (B : Nat → Caps → CtR) (e : Nat) : CtR :=
  let a := A e
  let bs := a.2.1.map (B e)
  (a.1 && bs.all (fun b => b.1), bs.flatMap (fun b => b.2.1), a.2.2 + (bs.map (fun b => b.2.2 + 1)).sum)
def gath (es : List Nat) (A : Nat → CtR) (B : Nat → Caps → CtR) : CtR :=
  let l := es.map (gat1 A B)
  (l.all (fun r => r.1), l.flatMap (fun r => r.2.1), (l.map (fun r => r.2.2)).sum)
theorem gath_ok {es : List Nat} {A : Nat → CtR} {B : Nat → Caps → CtR} (h : (gath es A B).1 = true) {e : Nat} (he : e ∈ es) : (A e).1 = true ∧ ∀ c1 ∈ (A e).2.1, (B e c1).1 = true := by
  have h1 : (es.map (gat1 A B)).all (fun r => r.1) = true := h
  rw [List.all_map, List.all_eq_true] at h1
  have h2 : ((A e).1 && ((A e).2.1.map (B e)).all (fun b => b.1)) = true := h1 e he
  rw [Bool.and_eq_true, List.all_map, List.all_eq_true] at h2
  exact ⟨h2.1, fun c hc => h2.2 c hc⟩
theorem gath_mem {es : List Nat} {A : Nat → CtR} {B : Nat → Caps → CtR} {e : Nat} (he : e ∈ es) {c1 : Caps} (hc : c1 ∈ (A e).2.1) {d : Caps} (hd : d ∈ (B e c1).2.1) : d ∈ (gath es A B).2.1 := by
  show d ∈ (es.map (gat1 A B)).flatMap (fun r => r.2.1)
  rw [List.mem_flatMap]
  refine ⟨gat1 A B e, List.mem_map_of_mem he, ?_⟩
  show d ∈ ((A e).2.1.map (B e)).flatMap (fun b => b.2.1)
  rw [List.mem_flatMap]
  exact ⟨_, List.mem_map_of_mem hc, hd⟩
theorem gath_sum {es : List Nat} {A : Nat → CtR} {B : Nat → Caps → CtR} : sumW es (fun e => (A e).2.1) (fun e => (A e).2.2) (fun e c1 => (B e c1).2.2) = (gath es A B).2.2 := by
  show _ = ((es.map (gat1 A B)).map (fun r => r.2.2)).sum
  rw [List.map_map]
  unfold sumW
  congr 1
  refine List.map_congr_left fun e _ => ?_
  show _ = (A e).2.2 + (((A e).2.1.map (B e)).map (fun b => b.2.2 + 1)).sum
  rw [List.map_map]; rfl
def ctF (n : Nat) : Nat → TQ → CtR
  | 0, _ => (false, [], 0)
  | f + 1, .node x ks i j c =>
    if x.op = 1 ∨ x.op = 2 ∨ x.op = 3 ∨ x.op = 8 then (true, if goodT n x c i j then [c] else [], 1)
    else if x.op = 4 then (let r := ctF n f (.row ks i j c); (r.1, r.2.1, r.2.2 + 2))
    else if x.op = 6 then (match ks with
      | .nd y js .nil => let r := ctF n f (.rnd x y js 0 i j c); (r.1, r.2.1, r.2.2 + 2)
      | _ => (false, [], 0))
    else if x.op = 7 then (match ks with
      | .nd y js .nil => let r := ctF n f (.node y js i j (emp (F.nd y js .nil).flat c)); (r.1, r.2.1.map (fun d => d.set (x.n.toNat - 1) ⟨i, j⟩), r.2.2 + r.2.1.length + 1)
      | _ => (false, [], 0))
    else if x.op = 5 then (let r := ctF n f (.alt ks i j c); (r.1, r.2.1, r.2.2 + 1))
    else (false, [], 0)
  | _ + 1, .alt .nil _ _ _ => (true, [], 0)
  | f + 1, .alt (.nd y js r) i j c => let a := ctF n f (.node y js i j c); let b := ctF n f (.alt r i j c); (a.1 && b.1, a.2.1 ++ b.2.1, a.2.2 + b.2.2)
  | _ + 1, .row .nil i j c => (true, if i = j then [c] else [], 0)
  | f + 1, .row (.nd y js r) i j c => gath (if r.num = 0 then [j] else ends i j) (fun e => ctF n f (.node y js i e c)) (fun e c1 => ctF n f (.row r e j c1))
  | f + 1, .rnd x y js had i j c => let g := gath (rEs x had i j) (fun e => ctF n f (.node y js i e (emp (F.nd y js .nil).flat c))) (fun e c1 => ctF n f (.rnd x y js (had + 1) e j c1)); (g.1, g.2.1 ++ (if i = j ∧ x.mn ≤ (had : Int) then [c] else []), g.2.2)
theorem ctF_ok {n : Nat} : ∀ (f : Nat) (q : TQ), (ctF n f q).1 = true → Ct n q (ctF n f q).2.1 (ctF n f q).2.2
  | 0, _, h => by cases h
  | f + 1, .node x ks i j c, h => by
    unfold ctF at h ⊢
    by_cases h1 : x.op = 1 ∨ x.op = 2 ∨ x.op = 3 ∨ x.op = 8
    · rw [if_pos h1]
      exact .leaf h1 (fun hg => by rw [if_pos hg]; exact List.mem_cons_self) (Nat.le_refl _)
    rw [if_neg h1] at h ⊢
    by_cases h4 : x.op = 4
    · rw [if_pos h4] at h ⊢
      exact .cat h4 (ctF_ok f _ h) (Nat.le_refl _)
    rw [if_neg h4] at h ⊢
    by_cases h6 : x.op = 6
    · rw [if_pos h6] at h ⊢
      match ks, h with
      | .nd y js .nil, h => exact .rep h6 (ctF_ok f _ h) (Nat.le_refl _)
      | .nil, h => cases h
      | .nd _ _ (.nd _ _ _), h => cases h
    rw [if_neg h6] at h ⊢
    by_cases h7 : x.op = 7
    · rw [if_pos h7] at h ⊢
      match ks, h with
      | .nd y js .nil, h => exact .grp h7 (ctF_ok f _ h) (fun d hd => List.mem_map_of_mem hd) (Nat.le_refl _)
      | .nil, h => cases h
      | .nd _ _ (.nd _ _ _), h => cases h
    rw [if_neg h7] at h ⊢
    by_cases h5 : x.op = 5
    · rw [if_pos h5] at h ⊢
      exact .altC h5 (ctF_ok f _ h) (Nat.le_refl _)
    rw [if_neg h5] at h
    cases h
  | _ + 1, .alt .nil _ _ _, _ => .altNil
  | f + 1, .alt (.nd y js r) i j c, h => by
    have h' : ((ctF n f (.node y js i j c)).1 && (ctF n f (.alt r i j c)).1) = true := h
    rw [Bool.and_eq_true] at h'
    exact .altCons (ctF_ok f _ h'.1) (ctF_ok f _ h'.2) (fun d hd => List.mem_append_left _ hd) (fun d hd => List.mem_append_right _ hd) (Nat.le_refl _)
  | _ + 1, .row .nil i j c, _ => .rowNil fun e => by unfold ctF; rw [if_pos e]; exact List.mem_cons_self
  | f + 1, .row (.nd y js r) i j c, h => by
    unfold ctF at h ⊢
    exact .rowCons (es := if r.num = 0 then [j] else ends i j) rfl (fun e he => ctF_ok f _ (gath_ok h he).1) (fun e he c1 hc => ctF_ok f _ ((gath_ok h he).2 c1 hc)) (fun e he c1 hc d hd => gath_mem he hc hd) (Nat.le_of_eq gath_sum)
  | f + 1, .rnd x y js had i j c, h => by
    unfold ctF at h ⊢
    exact .rnd (es := rEs x had i j) rfl (fun e he => ctF_ok f _ (gath_ok h he).1) (fun e he c1 hc => ctF_ok f _ ((gath_ok h he).2 c1 hc)) (fun e he c1 hc d hd => List.mem_append_left _ (gath_mem he hc hd)) (fun e1 e2 => List.mem_append_right _ (by rw [if_pos ⟨e1, e2⟩]; exact List.mem_cons_self)) (Nat.le_of_eq gath_sum)
def accB (n f : Nat) (x : Nd) (ks : F) (c : Caps) (T : Nat) : Bool :=
  let l := (prs n (n + 1)).map fun p => ctF n f (.node x ks p.1 p.2 c)
  l.all (fun r => r.1) && decide ((l.map fun r => r.2.2).sum ≤ 3 * T)
theorem accB_ok {n f : Nat} {x : Nd} {ks : F} {c : Caps} {T : Nat} (h : accB n f x ks c T = true) : LAcc n x ks c (prs n (n + 1)) T := by
  have h' : ((((prs n (n + 1)).map fun p => ctF n f (.node x ks p.1 p.2 c)).all fun r => r.1) && decide ((((prs n (n + 1)).map fun p => ctF n f (.node x ks p.1 p.2 c)).map fun r => r.2.2).sum ≤ 3 * T)) = true := h
  rw [Bool.and_eq_true, List.all_map, List.all_eq_true, List.map_map, decide_eq_true_eq] at h'
  refine ⟨fun i j => (ctF n f (.node x ks i j c)).2.2, fun p hp => ⟨_, ctF_ok f _ (h'.1 p hp)⟩, ?_⟩
  have h2 := h'.2
  have e : ((prs n (n + 1)).map fun p => (ctF n f (.node x ks p.1 p.2 c)).2.2).sum = (((prs n (n + 1)).map ((fun r => r.2.2) ∘ fun p => ctF n f (.node x ks p.1 p.2 c)))).sum := rfl
  rw [e]
  omega
def catV : Nd := ⟨4, 0, 0, 0, 0, 3⟩
def refV : Nd := ⟨8, 0, 1, 0, 0, 0⟩
def reV : List Nd := [catV, grpC, starN, letN 97, letN 98, refV]
def ksV : F := .nd grpC (.nd starN (.nd (letN 97) .nil .nil) .nil) (.nd (letN 98) .nil (.nd refV .nil .nil))
def w6 : List UInt8 := [99, 97, 97, 98, 97, 99]
def w3 : List UInt8 := [97, 97, 97]
theorem shpV : Shp reV catV ksV := ⟨⟨by decide +kernel, rfl, ⟨by decide +kernel, rfl, wfW, let_ok' 98, rfl, trivial, by decide +kernel, rfl, trivial, trivial⟩, trivial⟩, rfl, by decide, by decide +kernel⟩
theorem shapedV : shapedB reV = true := shapedB_iff.2 ⟨⟨[true], by decide +kernel⟩, _, _, shpV⟩
theorem rngV : ∀ x ∈ reV, -128 ≤ x.op ∧ x.op < 128 := by simp [reV, catV, grpC, starN, letN, refV]
theorem gcnV : gcn reV = 1 := by decide +kernel
theorem accV6 : accB 6 40 catV ksV [noS] 262144 = true := by decide +kernel
theorem accV3 : accB 3 40 catV ksV [noS] 262144 = true := by decide +kernel
theorem lfV : LF1 w6 catV ksV 2 5 [noS] = [[⟨2, 3⟩]] := by decide +kernel
theorem lfV6 : ((List.range 7).all fun i => (List.range 7).all fun j => decide (2 ≤ i ∧ (i ≠ 2 ∨ j ≤ 5) ∨ LF1 w6 catV ksV i j [noS] = [])) = true := by decide +kernel
theorem lfV3 : ((List.range 4).all fun i => (List.range 4).all fun j => decide (LF1 w3 catV ksV i j [noS] = [])) = true := by decide +kernel
theorem lfV6n {i j : Nat} (hi : i ≤ 6) (hj : j ≤ 6) (h : ¬ (2 ≤ i ∧ (i ≠ 2 ∨ j ≤ 5))) : LF1 w6 catV ksV i j [noS] = [] := by
  have h1 := List.all_eq_true.1 (List.all_eq_true.1 lfV6 i (List.mem_range.2 (by omega))) j (List.mem_range.2 (by omega))
  exact (of_decide_eq_true h1).resolve_left h
theorem lfV3n {i j : Nat} (hi : i ≤ 3) (hj : j ≤ 3) : LF1 w3 catV ksV i j [noS] = [] := by
  have h1 := List.all_eq_true.1 (List.all_eq_true.1 lfV3 i (List.mem_range.2 (by omega))) j (List.mem_range.2 (by omega))
  exact of_decide_eq_true h1
def reE : List Nd := [letN 97]
theorem shpE : Shp reE (letN 97) .nil := ⟨⟨let_ok' 97, rfl, trivial, trivial⟩, rfl, by decide, by decide +kernel⟩
theorem shapedE : shapedB reE = true := shapedB_iff.2 ⟨⟨[], by decide +kernel⟩, _, _, shpE⟩
theorem rngE : ∀ x ∈ reE, -128 ≤ x.op ∧ x.op < 128 := by simp [reE, letN]
end Go.HL.Kl.Mc
namespace Go.Proofs.YtloepfcndglmmaaDoor
open Go Go.HL Go.Proofs Go.HL.Kl Go.HL.Kl.Mc Go.HL.Kl.Mc.AskE
theorem En_catV : En catV = [.int .i8 4, .int .u64 0, .int .u64 0, .int .u64 0, .int .u64 0, .int .i64 0, .int .i64 0, .int .i64 0, .int .i64 3] := by
  show _ :: (Ec 0#256 ++ _) = _
  rw [Ec_zero]; rfl
theorem En_refV : En refV = [.int .i8 8, .int .u64 0, .int .u64 0, .int .u64 0, .int .u64 0, .int .i64 1, .int .i64 0, .int .i64 0, .int .i64 0] := by
  show _ :: (Ec 0#256 ++ _) = _
  rw [Ec_zero]; rfl
theorem letterO_fn (b : UInt8) : HL.Fn Tryd.prog 45 [.int .u8 b.toNat] (fun _ => True) [] (fun v S' => ∃ S2, HSub S' S2 ∧ v = .agg (En (letN b)).toArray ∧ S2 = []) := by
  refine fn_of Tryd.func45 rfl rfl rfl fun w0 hw => ?_
  have hx := b.toNat_lt
  refine cR fun _ hK1 => ?_; refine o_alloc (l := En zN) (by rw [En_zero]; rfl) rfl fun b2 => ?_; refine oZ hK1 (cR fun _ hK2 => ?_); refine oS (step_cast (v' := .agg (En (⟨1, 0, 0, 0, 0, 0⟩ : Nd)).toArray) (s_build (cs := [_, _, _, _, _, _, _, _, _]) (vs := [_]) rfl rfl (.cons rfl rfl rfl rfl rfl .nil)) (by rw [En_one])) ?_; refine o_alloc (l := En zN) (by rw [En_zero]; rfl) rfl fun b3 => ?_; refine o_stW rfl rfl upA lnA lnA onA ?_; refine oZ hK2 (cR fun _ hK3 => ?_); refine oM ?_; refine oS (step_cast (v' := .int .u8 ((b.toNat / 64 : Nat) : Int)) (s_quo rfl rfl (by decide)) (congrArg _ (quo64 hx))) ?_; refine oM ?_; refine oS (step_cast (v' := .int .u8 ((b.toNat % 64 : Nat) : Int)) (s_rem rfl rfl (by decide)) (congrArg _ (rem64 hx))) ?_; refine oS (step_cast (v' := Ew (1#64 <<< (b.toNat % 64))) (s_shl rfl rfl (by omega)) (v_shl1 (by omega))) ?_; refine oS sF ?_; refine oS (s_indexA rfl rfl (by omega)) ?_; refine o_store rfl rfl rfl upA (by show _ < 9; omega) rfl ?_
  rw [letN_set b]
  refine oZ hK3 (cR fun _ hK4 => ?_); refine oS (s_ldB rfl (RdPK.cels (.own meA)) lnA) ?_; refine o_stW rfl rfl upA lnA lnA onA ?_; refine oZ hK4 (c_ret ?_); refine ?_; exact x_ret rfl (.agg inferInstance inferInstance rfl (RdPK.cels (.own meA)) lnA (.nil)) (⟨[], HSub.nil, rfl, rfl⟩)
theorem letter_fn (b : UInt8) : HL.Fn Tryd.prog 45 [.int .u8 b.toNat] (fun _ => True) [] (fun v _ => v = .agg (En (letN b)).toArray) :=
  Fn.sub (letterO_fn b) fun v S' ⟨S2, h1, h2, h3⟩ => ⟨S2, h1, h2⟩
theorem longN_fn (n : Int) : HL.Fn Tryd.prog 22 [.int .i64 n] (fun _ => True) [] (fun v _ => v = .bool (decide (n > 2147483647))) := by
  refine fn_of Tryd.func22 rfl rfl rfl fun w0 hw => ?_; refine cR fun _ hK1 => ?_; refine oA (oZ hK1 (cR fun _ hK2 => ?_)); refine oM ?_; refine oS (s_gtr rfl rfl) ?_; refine oA (oZ hK2 (c_ret ?_)); refine ?_; exact xR rfl rfl (rfl)
theorem bFindU_fn (ra : Option Addr) (rc : Nat) (re : List Nd) (hre : ∀ x ∈ re, -128 ≤ x.op ∧ x.op < 128) (ta : Option Addr) (tc : Nat) (w : List UInt8) (p f : Int) (hsb : shapedB re = false) : HL.Fn Tryd.prog 16 [.slice ra re.length rc, .slice ta w.length tc, .int .i64 p, .int .i64 f] (fun W => Rd En W (.slice ra re.length rc) re ∧ Rd Eb W (.slice ta w.length tc) w ∧ RdP W 0 0 (Esp noS)) [] (fun v S' => v = .tuple #[.slice none 0 0, .bool false, .int .i64 49] ∧ S' = []) := by
  refine fn_of Tryd.func16 rfl rfl rfl fun w0 hw => ?_; refine cR fun _ hK1 => ?_; refine oA (oA (oA (oZ hK1 (c_seq fun _ hK2 => ?_)))); refine cR fun _ hK3 => ?_; refine oM ?_; refine o_callP (shaped_fn ra rc re hre) rfl rfl rfl (fun _ st => (RdK.old0 hw.1).out _ st) (fun v16 hv16 => ?_)
  rw [hsb] at hv16
  subst hv16; refine oS (s_not rfl) ?_; refine oZ hK3 ?_; refine cT (cR fun _ hK4 => ?_); refine oA (oA (oA (oZ hK4 (c_ret ?_)))); refine x_then_ret (?_); exact x_ret rfl (.tmp rfl (.tmp rfl (.tmp rfl (.nil)))) (⟨rfl, rfl⟩)
theorem bFindA_fn (ra : Option Addr) (rc : Nat) (re : List Nd) (hre : ∀ x ∈ re, -128 ≤ x.op ∧ x.op < 128) (ta : Option Addr) (tc : Nat) (w : List UInt8) (p : Int) (hfit : shapedB re = true → Fits re w.length) : HL.Fn Tryd.prog 16 [.slice ra re.length rc, .slice ta w.length tc, .int .i64 p, .int .i64 4611686018427387904] (fun W => Rd En W (.slice ra re.length rc) re ∧ Rd Eb W (.slice ta w.length tc) w ∧ RdP W 0 0 (Esp noS)) [] (BkP re w p) := by
  cases hsb : shapedB re with
  | false => exact (bFindU_fn ra rc re hre ta tc w p 4611686018427387904 hsb).weaken (fun _ h => h) fun v S' h => .inl ⟨hsb, h.1, h.2⟩
  | true =>
    have hl : re.length ≤ 16384 := by obtain ⟨_, x, ks, hs⟩ := shapedB_iff.1 hsb; exact hs.len
    have hw := (hfit hsb w.length rfl).1
    exact bFind_fn ra rc re hre ta tc w (by omega) (by omega) p 4611686018427387904 (by decide) (by decide) hfit
theorem fitsV6 : Fits reV (w6.length : Nat) := fun m hm => by
  have : m = 6 := by simp [w6] at hm; omega
  subst this
  exact ⟨by decide, catV, ksV, shpV, by rw [gcnV]; exact accB_ok accV6⟩
theorem fitsV3 : Fits reV (w3.length : Nat) := fun m hm => by
  have : m = 3 := by simp [w3] at hm; omega
  subst this
  exact ⟨by decide, catV, ksV, shpV, by rw [gcnV]; exact accB_ok accV3⟩
theorem c0V : C0 reV = [noS] := by rw [C0, gcnV]; rfl
theorem bkV6 {v : Value} {S' : Hp} (h : BkP reV w6 0 v S') : ∃ a c, v = .tuple #[.slice a 2 c, .bool true, .int .i64 0] ∧ OwnS Esp 2 45 (.slice a 2 c) [⟨2, 5⟩, ⟨2, 3⟩] S' := by
  have hl : w6.length = 6 := rfl
  have good : BSome w6 catV ksV (C0 reV) 0 2 5 [⟨2, 3⟩] := by
    rw [c0V]
    exact ⟨Nat.zero_le _, by decide, by decide, by rw [lfV]; rfl, fun i' j' _ h2 _ h4 => lfV6n (by omega) (by omega) (by omega), fun j' h1 h2 => lfV6n (by omega) (by omega) (by omega), rfl, fun s hs => by
      rw [List.mem_singleton.1 hs]; exact .inr ⟨by decide, by decide, by decide⟩⟩
  rcases h with ⟨h, _⟩ | ⟨_, h, _⟩ | ⟨_, m, hm, _, x, ks, hS, h⟩
  · rw [shapedV] at h; cases h
  · exact absurd ⟨by decide, by decide⟩ h
  · obtain ⟨rfl, rfl⟩ := hS.uniq shpV
    obtain rfl : m = 0 := by omega
    rcases h with ⟨hn, _⟩ | ⟨i, j, c, a, cc, hB, hv, hO⟩
    · exact absurd hn good.not_none
    · obtain ⟨rfl, rfl, rfl⟩ := hB.uniq good
      rw [gcnV] at hv hO
      exact ⟨a, cc, hv, hO⟩
theorem bkV3 {v : Value} {S' : Hp} (h : BkP reV w3 0 v S') : v = .tuple #[.slice none 0 0, .bool false, .int .i64 0] := by
  have hl : w3.length = 3 := rfl
  rcases h with ⟨h, _⟩ | ⟨_, h, _⟩ | ⟨_, m, hm, _, x, ks, hS, h⟩
  · rw [shapedV] at h; cases h
  · exact absurd ⟨by decide, by decide⟩ h
  · obtain ⟨rfl, rfl⟩ := hS.uniq shpV
    rcases h with ⟨_, hv, _⟩ | ⟨i, j, c, a, cc, hB, _, _⟩
    · exact hv
    · have h1 := hB.hd
      have h2 := hB.ij
      have h3 := hB.hi
      rw [c0V, lfV3n (by omega) (by omega)] at h1; cases h1
theorem enE : enN .nil (F.nd (letN 97) .nil .nil).weight reE 0 = 64 := by decide +kernel
set_option maxHeartbeats 2000000 in
theorem works_fn  : HL.Fn Tryd.prog 15 [] (fun W => RdP W 0 0 (Esp noS)) [] (fun v _ => v = .bool true) := by
  refine fn_of Tryd.func15 rfl rfl rfl fun w0 hw => ?_; refine cR fun _ hK1 => ?_; refine oA (oZ hK1 (cR fun _ hK2 => ?_)); refine oS (step_cast (v' := .agg (En catV).toArray) (s_build (cs := [_, _, _, _, _, _, _, _, _]) (vs := [_, _]) rfl rfl (.cons rfl rfl rfl rfl rfl (.cons rfl rfl rfl rfl rfl (.nil)))) (by rw [En_catV])) ?_; refine oS (step_cast (v' := .agg (En grpC).toArray) (s_build (cs := [_, _, _, _, _, _, _, _, _]) (vs := [_, _, _]) rfl rfl (.cons rfl rfl rfl rfl rfl (.cons rfl rfl rfl rfl rfl (.cons rfl rfl rfl rfl rfl (.nil))))) (by rw [En_grpC])) ?_; refine oS (step_cast (v' := .agg (En starN).toArray) (s_build (cs := [_, _, _, _, _, _, _, _, _]) (vs := [_, _, _]) rfl rfl (.cons rfl rfl rfl rfl rfl (.cons rfl rfl rfl rfl rfl (.cons rfl rfl rfl rfl rfl (.nil))))) (by rw [En_star])) ?_; refine o_callP (letter_fn 97) rfl rfl rfl (fun _ _ => trivial) (fun v11 hv11 => ?_); subst hv11
  refine o_callP (letter_fn 98) rfl rfl rfl (fun _ _ => trivial) (fun v12 hv12 => ?_); subst hv12
  refine oS (step_cast (v' := .agg (En refV).toArray) (s_build (cs := [_, _, _, _, _, _, _, _, _]) (vs := [_, _]) rfl rfl (.cons rfl rfl rfl rfl rfl (.cons rfl rfl rfl rfl rfl (.nil)))) (by rw [En_refV])) ?_; refine o_bs (E := En) (xs := [catV, grpC, starN, letN 97, letN 98, refV]) (vs := [_, _, _, _, _, _]) rfl rfl rfl rfl rfl (by decide) (by decide) fun b14 S14 hS14 => ?_; refine oA (oZ hK2 (cR fun _ hK3 => ?_)); refine oM ?_; refine o_bs (E := Eb) (xs := [99, 97, 97, 98, 97, 99]) (vs := [_, _, _, _, _, _]) rfl rfl rfl rfl rfl (by decide) (by decide) fun b17 S17 hS17 => ?_; refine o_conv_same rfl hS17 pkA rfl fun S18 hS18 => ?_; refine o_call (bFindA_fn (some ⟨b14, 0, none⟩) 6 reV rngV (some ⟨b17, 0, none⟩) 6 w6 0 (fun _ => fitsV6)) rfl rfl rfl (by exact .nil) (fun w st => ⟨(hS14.rdk hiA).out w st, (hS18.rdk hiA).out w st, (RdPK.old0 hw).out w st⟩) (fun v19 S19 hv19 => ?_)
  obtain ⟨a19, c19, rfl, hO19⟩ := bkV6 hv19
  refine oM ?_; refine oS sE ?_; refine oS sE ?_; refine oS sE (oA (oA (oA (oZ hK3 (cR fun _ hK4 => ?_))))); refine oM ?_; refine o_bs (E := Eb) (xs := [97, 97, 97]) (vs := [_, _, _]) rfl rfl rfl rfl rfl (by decide) (by decide) fun b25 S25 hS25 => ?_; refine o_conv_same rfl hS25 pkA rfl fun S26 hS26 => ?_; refine o_call (bFindA_fn (some ⟨b14, 0, none⟩) 6 reV rngV (some ⟨b25, 0, none⟩) 3 w3 0 (fun _ => fitsV3)) rfl rfl rfl (by exact .nil) (fun w st => ⟨(hS14.rdk hiA).out w st, (hS26.rdk hiA).out w st, (RdPK.old0 hw).out w st⟩) (fun v27 S27 hv27 => ?_)
  obtain rfl := bkV3 hv27
  refine oM ?_; refine oS sE ?_; refine oS sE ?_; refine oS sE (oA (oA (oA (oZ hK4 (c_seq fun _ hK5 => ?_))))); refine cR fun _ hK6 => ?_; refine oM ?_; refine oS (s_not rfl) ?_; refine oM ?_; refine oY (oM ?_); refine oY ?_; refine oS (step_cast (v' := .bool false) (s_neq rfl rfl) rfl) ?_; refine oS sP (oM ?_); refine oY (oM ?_); refine oY ?_; refine oS sC ?_; refine oY ?_; refine oS (step_cast (v' := .bool false) (s_neq rfl rfl) rfl) ?_; refine oS sP (oM ?_); refine oY (oM ?_); refine oY ?_; refine oS (s_idx rfl rfl hO19.sl (by omega)) ?_; refine oY ?_; refine oS (s_ldB rfl ((hO19.rdk hiA).lds 0 rfl rfl) (by rfl)) ?_; refine oY ?_; refine oS (step_cast (v' := .agg (Esp ⟨2, 5⟩).toArray) (s_build (cs := [_, _]) (vs := [_, _]) rfl rfl (.cons rfl rfl rfl rfl rfl (.cons rfl rfl rfl rfl rfl (.nil)))) rfl) ?_; refine oY ?_; refine oS (step_cast (v' := .bool false) (s_neq_sp rfl rfl) rfl) ?_; refine oS sP (oM ?_); refine oY (oM ?_); refine oY ?_; refine oS (s_idx rfl rfl hO19.sl (by omega)) ?_; refine oY ?_; refine oS (s_ldB rfl ((hO19.rdk hiA).lds 1 rfl rfl) (by rfl)) ?_
  refine oY ?_; refine oS (step_cast (v' := .agg (Esp ⟨2, 3⟩).toArray) (s_build (cs := [_, _]) (vs := [_, _]) rfl rfl (.cons rfl rfl rfl rfl rfl (.cons rfl rfl rfl rfl rfl (.nil)))) rfl) ?_; refine oY ?_; refine oS (step_cast (v' := .bool false) (s_neq_sp rfl rfl) rfl) ?_; refine oS sP (oZ hK6 ?_); refine cFZ hK5 (cR fun _ hK7 => ?_); refine oM ?_; refine oS (s_not rfl) ?_; refine oM ?_; refine oY (oM ?_); refine oY ?_; refine oS (step_cast (v' := .bool true) (s_eql rfl rfl) rfl) ?_; refine oS sT (oM ?_); refine oY (oM ?_); refine oY ?_; refine oS sC ?_; refine oY ?_; refine oS (step_cast (v' := .bool true) (s_eql rfl rfl) rfl) ?_; refine oS sT (oM ?_); refine oY ?_; refine o_callP (letter_fn 97) rfl rfl rfl (fun _ _ => trivial) (fun v68 hv68 => ?_); subst hv68
  refine oY ?_; refine o_bs (E := En) (xs := [letN 97]) (vs := [_]) rfl rfl rfl rfl rfl (by decide) (by decide) fun b69 S69 hS69 => ?_; refine oY ?_; refine o_callP (enough_fn (some ⟨b69, 0, none⟩) 1 reE rngE 0 (by decide)) rfl rfl rfl (fun w st => (hS69.rdk hiA).out w st) (fun v70 hv70 => ?_)
  obtain rfl : v70 = .int .i64 64 := by
    rcases hv70 with ⟨h, _⟩ | ⟨x, ks, hS, _, _, h⟩
    · exact absurd ⟨shapedE, by decide⟩ h
    · obtain ⟨rfl, rfl⟩ := hS.uniq shpE
      rw [h]; exact congrArg (fun n : Nat => Value.int .i64 n) enE
  refine oY ?_; refine oS (step_cast (v' := .bool true) (s_eql rfl rfl) rfl) ?_; refine oS sT (oA (oZ hK7 (c_ret ?_))); refine ?_; exact xR rfl rfl (rfl)
theorem enN_big {ks : F} {wt n : Nat} {re : List Nd} (hw : 0 < wt) (hn : 4611686018427387904 ≤ n) : enN ks wt re n = 4611686018427387904 := by
  unfold enN
  rw [show 2 * (ks.depth + 1) + 2 * (refsI re).length + 4 = (2 * (ks.depth + 1) + 2 * (refsI re).length + 3) + 1 by omega, enL_yes]
  rw [Nat.div_eq_of_lt (by omega)]; exact hw
structure RefC (re : List Nd) (q : Nat) (es : List Bool) (g : Nat) : Prop where
  len : es.length = 256
  iff : ∀ n : Nat, es[n]? = some true ↔ (n : Int) ∈ refsI (re.take q)
  cnt : g = (refsI (re.take q)).length
theorem RefC.nil {re : List Nd} : RefC re 0 (List.replicate 256 false) 0 := ⟨List.length_replicate, fun n => ⟨fun h => (by have := List.mem_of_getElem? h; rw [List.mem_replicate] at this; cases this.2), fun h => (by cases h)⟩, rfl⟩
theorem RefC.yes {re : List Nd} {q g : Nat} {es : List Bool} {x : Nd} (h : RefC re q es g) (hx : re[q]? = some x) (h8 : x.op = 8) (hn : 0 ≤ x.n ∧ x.n < 256) (hz : es[x.n.toNat]? = some false) : RefC re (q + 1) (es.set x.n.toNat true) (g + 1) := by
  have hno : x.n ∉ refsI (re.take q) := fun hm => by
    have := (h.iff x.n.toNat).2 (by rw [Int.toNat_of_nonneg hn.1]; exact hm)
    rw [hz] at this; cases this
  have hl := h.len
  have e : refsI (re.take (q + 1)) = refsI (re.take q) ++ [x.n] := by rw [refsI_take hx, ref1, if_pos h8, addI, if_neg hno]
  refine ⟨by rw [List.length_set]; exact hl, fun n => ?_, by rw [e, List.length_append, List.length_singleton, h.cnt]⟩
  rw [e, List.mem_append, List.mem_singleton]
  by_cases hc : n = x.n.toNat
  · subst hc
    rw [List.getElem?_set_self (by omega)]
    exact ⟨fun _ => .inr (Int.toNat_of_nonneg hn.1), fun _ => rfl⟩
  · rw [List.getElem?_set_ne (Ne.symm hc), h.iff n]
    exact ⟨.inl, fun h => h.resolve_right (fun h => hc (by omega))⟩
theorem RefC.old {re : List Nd} {q g : Nat} {es : List Bool} {x : Nd} {z : Bool} (h : RefC re q es g) (hx : re[q]? = some x) (h8 : x.op = 8) (hn : 0 ≤ x.n ∧ x.n < 256) (hz : es[x.n.toNat]? = some z) (hf : ¬ z = false) : RefC re (q + 1) es g := by
  have hm : x.n ∈ refsI (re.take q) := by
    have := (h.iff x.n.toNat).1 (by rw [hz]; simpa using hf)
    rwa [Int.toNat_of_nonneg hn.1] at this
  have e : refsI (re.take (q + 1)) = refsI (re.take q) := by rw [refsI_take hx, ref1, if_pos h8, addI, if_pos hm]
  exact ⟨h.len, fun n => by rw [e]; exact h.iff n, by rw [e]; exact h.cnt⟩
theorem RefC.no {re : List Nd} {q g : Nat} {es : List Bool} {x : Nd} (h : RefC re q es g) (hx : re[q]? = some x) (h8 : ¬ x.op = 8) : RefC re (q + 1) es g := by
  have e : refsI (re.take (q + 1)) = refsI (re.take q) := by rw [refsI_take hx, ref1, if_neg h8]
  exact ⟨h.len, fun n => by rw [e]; exact h.iff n, by rw [e]; exact h.cnt⟩
def RDepC (x : Nd) (ks : F) : Prop := ∀ (ra : Option Addr) (rc : Nat) (re : List Nd) (i i1 : Nat), Part re (.nd x ks .nil) i i1 → HL.Fn Tryd.prog 43 [.slice ra re.length rc, .int .i64 i] (fun W => Rd En W (.slice ra re.length rc) re) [] (fun v _ => v = .tuple #[.int .i64 ((ks.depth + 1 : Nat) : Int), .int .i64 i1])
set_option maxHeartbeats 1000000 in
theorem rdepth_step (x : Nd) (ks : F) (ih : ∀ y js, js.size < ks.size → RDepC y js) (ra : Option Addr) (rc : Nat) (re : List Nd) (i i1 : Nat) (hp : Part re (.nd x ks .nil) i i1) : HL.Fn Tryd.prog 43 [.slice ra re.length rc, .int .i64 i] (fun W => Rd En W (.slice ra re.length rc) re) [] (fun v _ => v = .tuple #[.int .i64 ((ks.depth + 1 : Nat) : Int), .int .i64 i1]) := by
  refine fn_of Tryd.func43 rfl rfl rfl fun w0 hw => ?_
  have hsl := hw.sl
  have hbl := hsl.le
  have hx := hp.head.1
  have hel := hp.le
  have he := hp.len
  simp only [F.size, Nat.add_zero] at he
  have hkn := hp.wf.2.1
  have hksn := ks.num_le
  have hlt := (List.getElem?_eq_some_iff.1 hx).1
  have hdp := F.depth_le ks
  refine cR fun _ hK1 => ?_; refine oA (oA (oZ hK1 (cR fun _ hK2 => ?_))); refine oA (oZ hK2 (cR fun _ hK3 => ?_)); refine oM ?_; refine oS sD (oA (oZ hK3 (c_seq fun _ hK4 => ?_))); refine cR fun _ hK5 => ?_; refine oA (oZ hK5 (c_block ?_)); refine c_loop4 (fun (m : Nat) (kid : Nat) (g : F) (d : Nat) => Part re g kid i1 ∧ (m : Int) + g.num = x.kids ∧ g.size ≤ ks.size ∧ max d g.depth = ks.depth) (fun (m : Nat) (kid : Nat) (g : F) (d : Nat) => [(8, .int .i64 m), (7, .int .i64 kid), (6, .int .i64 d)]) [(0, _), (1, _), (4, _), (5, _)] (fun (m : Nat) (kid : Nat) (g : F) (d : Nat) => []) (fun (m : Nat) (kid : Nat) (g : F) (d : Nat) => g.num) 0 (i + 1) ks 0 ⟨by have := hp.head.2.1; rw [show i + 1 + ks.size = i1 by omega] at this; exact this, by omega, Nat.le_refl _, by omega⟩ sbA sbA (by exact HSub.nil) ?_
  rintro m kid g d ⟨hpg, hmg, hgs, hd⟩
  have hgn := g.num_le
  have hgl := hpg.len
  have hgd := F.depth_le g
  refine c_seq fun _ hK6 => ?_; refine cR fun _ hK7 => ?_; refine oM (oM (oM ?_)); refine oS (s_idx rfl rfl hsl (by omega)) ?_; refine oS sF ?_; refine oS (s_ld rfl ((RdK.old0 hw).ld i 8 hx rfl (by decide) (by omega))) ?_
  by_cases hmk : (m : Int) < x.kids
  ·obtain ⟨y, js, r, rfl⟩ : ∃ y js r, g = F.nd y js r := by cases g with | nil => simp only [F.num] at hmg; omega | nd y a c => exact ⟨y, a, c, rfl⟩
   simp only [F.num] at hmg
   simp only [F.size] at hgs hgl
   refine oS lsT (oZ hK7 ?_); refine cTZ hK6 (c_seq fun _ hK8 => ?_); refine c_block (cR fun _ hK9 => ?_); refine oM (oM ?_); refine o_callP (ih y js (by omega) ra rc re kid (kid + 1 + js.size) hpg.one) rfl rfl rfl (fun _ st => (RdK.old0 hw).out _ st) (fun v25 hv25 => ?_); subst hv25
   refine oM ?_; refine oS sE ?_; refine oS sE (oA (oA (oZ hK9 (cR fun _ hK10 => ?_)))); refine oM (oM ?_); refine oS (step_cast (v' := .int .i64 ((max d (js.depth + 1) : Nat) : Int)) (s_max rfl rfl) (congrArg _ (by omega))) ?_; refine oA (oZ hK10 (c_region (oM (oA (o_nil (x_block (xZ hK8 (c_region (oM ?_))))))))); refine oS sD (oA (o_nil ?_)); exact x_then (x_inv (m + 1, kid + 1 + js.size, r, max d (js.depth + 1)) ⟨hpg.head.2.2, by dsimp only; omega, by dsimp only; omega, by dsimp only; simp only [F.depth] at hd; omega⟩ (by simp only [F.num]; omega) sbA (by exact HSub.nil))
  ·obtain rfl : g = F.nil := F.num_nil (by omega)
   obtain rfl : kid = i1 := by simp only [F.size] at hgl; omega
   simp only [F.depth] at hd
   refine oS lsF (oZ hK7 ?_); refine cF ?_; refine c_exit ?_; refine x_then_exit (x_then_exit (x_block_exit (xZ hK4 (cR fun _ hK11 => ?_)))); refine oM ?_; refine oS (step_cast (v' := .int .i64 ((ks.depth + 1 : Nat) : Int)) (s_add rfl rfl (by omega)) (congrArg _ (by omega))) ?_; refine oM (oA (oA (oZ hK11 (c_ret ?_)))); refine ?_; exact x_ret rfl (.tmp rfl (.tmp rfl (.nil))) (rfl)
theorem rdep_all : ∀ (n : Nat) (x : Nd) (ks : F), ks.size < n → RDepC x ks
  | 0 => fun _ _ h => absurd h (Nat.not_lt_zero _)
  | n + 1 => fun x ks hn ra rc re i i1 hp => rdepth_step x ks (fun y js h => rdep_all n y js (by omega)) ra rc re i i1 hp
theorem rWeightX_fn (ra : Option Addr) (rc : Nat) (re : List Nd) (hre : ∀ x ∈ re, -128 ≤ x.op ∧ x.op < 128) (x : Nd) (ks : F) (hS : Shp re x ks) (hsb : shapedB re = true) : HL.Fn Tryd.prog 44 [.slice ra re.length rc] (fun W => Rd En W (.slice ra re.length rc) re) [] (fun v _ => v = .int .i64 (((F.nd x ks .nil).weight : Nat) : Int)) := by
  refine fn_of Tryd.func44 rfl rfl rfl fun w0 hw => ?_; refine cR fun _ hK1 => ?_; refine oA (oZ hK1 (c_seq fun _ hK2 => ?_)); refine cR fun _ hK3 => ?_; refine oM ?_; refine o_callP (rShaped_fn ra rc re hre) rfl rfl rfl (fun _ st => (RdK.old0 hw).out _ st) (fun v6 hv6 => ?_)
  rw [hsb] at hv6
  subst hv6; refine oS (s_not rfl) ?_; refine oZ hK3 ?_; refine cFZ hK2 (cR fun _ hK4 => ?_); refine oM ?_; refine o_callP (rWeigh_fn (ks.size + 1) x ks (Nat.lt_succ_self _) ra rc re 0 re.length hre hS.part) rfl rfl rfl (fun _ st => (RdK.old0 hw).out _ st) (fun v10 hv10 => ?_)
  have hcw : cut (F.nd x ks .nil).weight = (F.nd x ks .nil).weight := by have := hS.weight; unfold cut; omega
  rw [hcw] at hv10
  subst hv10; refine oM ?_; refine oS sE ?_; refine oS sE (oA (oA (oZ hK4 (cR fun _ hK5 => ?_)))); refine oM (oA (oZ hK5 (c_ret ?_))); refine ?_; exact xR rfl rfl (rfl)
set_option maxHeartbeats 1000000 in
theorem rEnough_fn (ra : Option Addr) (rc : Nat) (re : List Nd) (hre : ∀ x ∈ re, -128 ≤ x.op ∧ x.op < 128) (n : Int) (hn : n ≤ 9223372036854775807) : HL.Fn Tryd.prog 11 [.slice ra re.length rc, .int .i64 n] (fun W => Rd En W (.slice ra re.length rc) re) [] (fun v _ => (¬ (shapedB re = true ∧ 0 ≤ n) ∧ v = .int .i64 0) ∨ ∃ x ks, Shp re x ks ∧ shapedB re = true ∧ 0 ≤ n ∧ v = .int .i64 ((enN ks ((F.nd x ks .nil).weight) re n.toNat : Nat) : Int)) := by
  refine fn_of Tryd.func11 rfl rfl rfl fun w0 hw => ?_
  have hsl := hw.sl
  have hbl := hsl.le
  refine cR fun _ hK1 => ?_; refine oA (oZ hK1 (c_seq fun _ hK2 => ?_)); refine cR fun _ hK3 => ?_; refine oM ?_; refine o_callP (rShaped_fn ra rc re hre) rfl rfl rfl (fun _ st => (RdK.old0 hw).out _ st) (fun v15 hv15 => ?_); subst hv15
  cases hsb : shapedB re
  ·refine oS (s_not rfl) ?_; refine oM ?_; refine oN ?_; refine oN ?_; refine oS sT (oZ hK3 ?_); refine cT (cR fun _ hK4 => ?_); refine oA (oZ hK4 (c_ret ?_)); refine x_then_ret (?_); exact xR rfl rfl (.inl ⟨fun h => (by rw [hsb] at h; cases h.1), rfl⟩)
  ·obtain ⟨_, x, ks, hS⟩ := shapedB_iff.1 hsb
   have hlen := hS.len
   have hdep := hS.dep
   have hwt := hS.weight
   have hwp : 0 < ((F.nd x ks .nil).weight) := by have := F.size_weight (F.nd x ks .nil); simp only [F.size] at this; omega
   have hrl := refsI_le (re := re) re.length (Nat.le_refl _)
   rw [List.take_length] at hrl
   have h255 := gcn_255 hsb
   refine oS (s_not rfl) ?_; refine oM ?_; refine oY (oM ?_); refine oY ?_
   by_cases hn0 : n < 0
   ·refine oS lsT ?_; refine oS sP (oZ hK3 ?_); refine cT (cR fun _ hK5 => ?_); refine oA (oZ hK5 (c_ret ?_)); refine x_then_ret (?_); exact xR rfl rfl (.inl ⟨fun h => (by omega), rfl⟩)
   ·obtain ⟨n, rfl⟩ : ∃ m : Nat, n = m := ⟨n.toNat, by omega⟩
    refine oS lsF ?_; refine oS sP (oZ hK3 ?_); refine cFZ hK2 (cR fun _ hK6 => ?_); refine o_make (E := Ebo) (zx := false) (n := 256) rfl rfl rfl (by omega) (by omega) rfl fun b21 S21 hS21 => ?_; refine oA (oZ hK6 (cR fun _ hK7 => ?_)); refine oA (oZ hK7 (c_seq fun _ hK8 => ?_)); refine cR fun _ hK9 => ?_; refine oA (oZ hK9 (c_block ?_)); refine c_loop4 (fun (q : Nat) (es : List Bool) (g : Nat) (SE : Hp) => q ≤ re.length ∧ RefC re q es g ∧ g ≤ q ∧ OwnS Ebo 1 4 (.slice (some ⟨b21, 0, none⟩) 256 256) es SE) (fun (q : Nat) (es : List Bool) (g : Nat) (SE : Hp) => [(7, .int .i64 q), (6, .int .i64 g)]) [(0, _), (1, _), (4, _), (5, _)] (fun (q : Nat) (es : List Bool) (g : Nat) (SE : Hp) => SE) (fun (q : Nat) (es : List Bool) (g : Nat) (SE : Hp) => re.length - q) 0 (List.replicate 256 false) 0 S21 ⟨Nat.zero_le _, RefC.nil, Nat.le_refl _, hS21⟩ sbA sbA hzB ?_
    rintro q es g SE ⟨hql, hC, hgq, hE⟩
    have hes := hC.len
    have hsE := hE.sl
    rw [hes] at hsE
    refine c_seq fun _ hK10 => ?_; refine cR fun _ hK11 => ?_; refine oM (oM ?_); refine oS sC ?_
    by_cases hq : (q : Int) < re.length
    ·obtain ⟨y, hy⟩ : ∃ y, re[q]? = some y := gE
     have hym := List.mem_of_getElem? hy
     have hyr := hre y hym
     refine oS lsT (oZ hK11 ?_); refine cTZ hK10 (c_seq fun _ hK12 => ?_); refine c_block (cR fun _ hK13 => ?_); refine oM (oM ?_); refine oS (s_idx rfl rfl hsl (by omega)) ?_; refine oS sF ?_; refine oS (s_ld rfl ((RdK.old0 hw).ld q 0 hy rfl (by decide) (by omega))) ?_; refine oS (s_convI rfl (by omega)) ?_
     by_cases h8 : y.op = 8
     ·obtain ⟨hn1, hn2⟩ := ref_n hsb hym h8
      obtain ⟨z, hez⟩ : ∃ z, es[y.n.toNat]? = some z := gE
      refine oS (eqT (h := h8)) ?_; refine oM ?_; refine oY (oM ?_); refine oY (oM ?_); refine oY (oM ?_); refine oY ?_; refine oS (s_idx rfl rfl hsl (by omega)) ?_; refine oY ?_; refine oS sF ?_; refine oY ?_; refine oS (s_ld rfl ((RdK.old0 hw).ld q 5 hy rfl (by decide) (by omega))) ?_; refine oY ?_; refine oS (s_idx rfl rfl hsE (by omega)) ?_; refine oY ?_; refine oS (s_ld rfl ((hE.rdk hiA).ld y.n.toNat 0 hez rfl (by decide) (by omega))) ?_; refine oY ?_
      by_cases hz : z = false
      ·refine oS (step_cast (v' := .bool true) (s_not rfl) (by rw [hz]; rfl)) ?_; refine oS sT (oZ hK13 ?_); refine cT (cR fun _ hK14 => ?_); refine oM (oM (oM ?_)); refine oS (s_idx rfl rfl hsl (by omega)) ?_; refine oS sF ?_; refine oS (s_ld rfl ((RdK.old0 hw).ld q 5 hy rfl (by decide) (by omega))) ?_; refine oS (s_idx rfl rfl hsE (by omega)) ?_; refine o_stS1 y.n.toNat true hE pkA rfl rfl rfl (by omega) (by omega) fun S52 hS52 => ?_; refine oZ hK14 (c_region (oM ?_)); refine oS sD (oA (o_nil (x_block (xZ hK12 (c_region (oM ?_)))))); refine oS sD (oA (o_nil ?_)); exact xI (q + 1, es.set y.n.toNat true, g + 1, S52) ⟨by dsimp only; omega, hC.yes hy h8 ⟨by omega, by omega⟩ (by rw [hez, hz]), by dsimp only; omega, hS52⟩
      ·refine oS (step_cast (v' := .bool false) (s_not rfl) (by rw [show z = true by simpa using hz]; rfl)) ?_; refine oS sT (oZ hK13 ?_); refine cF (c_skip (x_block (xZ hK12 (c_region (oM ?_))))); refine oS sD (oA (o_nil ?_)); exact xI (q + 1, es, g, SE) ⟨by dsimp only; omega, hC.old hy h8 ⟨by omega, by omega⟩ hez hz, by dsimp only; omega, hE⟩
     ·refine oS (eqF (h := h8)) ?_; refine oM ?_; refine oN ?_; refine oN ?_; refine oN ?_; refine oN ?_; refine oN ?_; refine oN ?_; refine oN ?_; refine oN ?_; refine oN ?_; refine oS sP (oZ hK13 ?_); refine cF (c_skip (x_block (xZ hK12 (c_region (oM ?_))))); refine oS sD (oA (o_nil ?_)); exact xI (q + 1, es, g, SE) ⟨by dsimp only; omega, hC.no hy h8, by dsimp only; omega, hE⟩
    ·obtain rfl : q = re.length := by omega
     have hcnt := hC.cnt
     rw [List.take_length] at hcnt
     subst hcnt; refine oS lsF (oZ hK11 ?_); refine cF ?_; refine c_exit ?_; refine x_then_exit (x_then_exit (x_block_exit (xZ hK8 (cR fun _ hK15 => ?_)))); refine oM ?_; refine o_callP (rdep_all (ks.size + 1) x ks (Nat.lt_succ_self _) ra rc re 0 re.length hS.part) rfl rfl rfl (fun _ st => (RdK.old0 hw).out _ st) (fun v57 hv57 => ?_); subst hv57
     refine oM ?_; refine oS sE ?_; refine oS sE (oA (oA (oZ hK15 (cR fun _ hK16 => ?_)))); refine oA (oZ hK16 (cR fun _ hK17 => ?_)); refine oM ?_; refine o_callP (rWeightX_fn ra rc re hre x ks hS hsb) rfl rfl rfl (fun _ st => (RdK.old0 hw).out _ st) (fun v61 hv61 => ?_); subst hv61
     refine oA (oZ hK17 (c_seq fun _ hK18 => ?_)); refine cR fun _ hK19 => ?_; refine oM (oM ?_)
     by_cases hnb : (n : Int) ≥ 4611686018427387904
     ·refine oS geT (oZ hK19 ?_); refine cT (cR fun _ hK20 => ?_); refine oM (oA (oZ hK20 (c_ret ?_))); refine x_then_ret (?_); exact xR rfl rfl (.inr ⟨x, ks, hS, hsb, by omega, by rw [Int.toNat_natCast, enN_big hwp (by omega)]; rfl⟩)
     ·refine oS geF (oZ hK19 ?_); refine cFZ hK18 (cR fun _ hK21 => ?_); refine oM ?_; refine oS (step_cast (v' := .int .i64 ((n + 2 : Nat) : Int)) (s_add rfl rfl (by omega)) (congrArg _ (by omega))) ?_; refine oA (oZ hK21 (c_seq fun _ hK22 => ?_)); refine cR fun _ hK23 => ?_; refine oA (oZ hK23 (c_block ?_))
      -- not carried: 4
      refine c_loop2 (fun (k : Nat) (out : Nat) => k ≤ (2 * (ks.depth + 1) + 2 * (refsI re).length + 4) ∧ out ≤ 4611686018427387904 ∧ enL (n + 2) ((2 * (ks.depth + 1) + 2 * (refsI re).length + 4) - k) out = enN ks ((F.nd x ks .nil).weight) re n) (fun (k : Nat) (out : Nat) => [(13, .int .i64 k), (11, .int .i64 out)]) [(6, _), (8, _), (10, _), (12, _)] (fun (k : Nat) (out : Nat) => SE) (fun (k : Nat) (out : Nat) => (2 * (ks.depth + 1) + 2 * (refsI re).length + 4) - k) 0 ((F.nd x ks .nil).weight) ⟨Nat.zero_le _, by omega, rfl⟩ sbA sbA hzB ?_
      rintro k out ⟨hk, hou, hen⟩
      refine c_seq fun _ hK24 => ?_; refine cR fun _ hK25 => ?_; refine oM (oM ?_); refine oS (s_mul rfl rfl (by omega)) ?_; refine oM ?_; refine oS (s_mul rfl rfl (by omega)) ?_; refine oS sD ?_; refine oS (step_cast (v' := .int .i64 (((2 * (ks.depth + 1) + 2 * (refsI re).length + 4) : Nat) : Int)) (s_add rfl rfl (by omega)) (congrArg _ (by omega))) ?_
      by_cases hkit : (k : Int) < (2 * (ks.depth + 1) + 2 * (refsI re).length + 4)
      ·refine oS lsT (oZ hK25 ?_); refine cTZ hK24 (c_seq fun _ hK26 => ?_); refine c_block (c_seq fun _ hK27 => ?_); refine cR fun _ hK28 => ?_; refine oM (oM (oM ?_)); refine oS (step_cast (v' := .int .i64 ((4611686018427387904 / (n + 2) : Nat) : Int)) (s_quo rfl rfl (by omega)) (congrArg _ (by rw [show (4611686018427387904 : Int) = ((4611686018427387904 : Nat) : Int) from rfl, tdiv_nat]; exact wrap_i64n (by have := Nat.div_le_self 4611686018427387904 (n + 2); omega)))) ?_
       by_cases hbig : 4611686018427387904 / (n + 2) < out
       ·rw [show (2 * (ks.depth + 1) + 2 * (refsI re).length + 4) - k = ((2 * (ks.depth + 1) + 2 * (refsI re).length + 4) - (k + 1)) + 1 by omega, enL_yes hbig] at hen
        refine oS gtT (oZ hK28 ?_); refine cT (cR fun _ hK29 => ?_); refine oM (oA (oZ hK29 (c_ret ?_))); refine x_then_ret (x_block_ret (x_then_ret (x_then_ret (x_block_ret (x_then_ret (?_))))))
        exact xR rfl rfl (.inr ⟨x, ks, hS, hsb, by omega, by rw [Int.toNat_natCast, ← hen]; rfl⟩)
       ·rw [show (2 * (ks.depth + 1) + 2 * (refsI re).length + 4) - k = ((2 * (ks.depth + 1) + 2 * (refsI re).length + 4) - (k + 1)) + 1 by omega, enL_no hbig] at hen
        have hmu := en_mul (b := n + 2) (by omega) hbig
        refine oS gtF (oZ hK28 ?_); refine cFZ hK27 (c_region (oM (oM ?_))); refine oS (step_cast (v' := .int .i64 ((out * (n + 2) : Nat) : Int)) (s_mul rfl rfl (by rw [← Int.natCast_mul]; omega)) (congrArg _ (by rw [← Int.natCast_mul]))) ?_; refine oA (o_nil (x_block (xZ hK26 (c_region (oM ?_))))); refine oS sD (oA (o_nil ?_)); exact xI (k + 1, out * (n + 2)) ⟨by dsimp only; omega, hmu, hen⟩
      ·obtain rfl : k = (2 * (ks.depth + 1) + 2 * (refsI re).length + 4) := by omega
       rw [Nat.sub_self] at hen
       refine oS lsF (oZ hK25 ?_); refine cF ?_; refine c_exit ?_; refine x_then_exit (x_then_exit (x_block_exit (xZ hK22 (cR fun _ hK30 => ?_)))); refine oM (oA (oZ hK30 (c_ret ?_))); refine ?_; exact xR rfl rfl (.inr ⟨x, ks, hS, hsb, by omega, by rw [Int.toNat_natCast, ← hen]; rfl⟩)
end Go.Proofs.YtloepfcndglmmaaDoor
namespace Go.Proofs.YtloepfcndglmmaaDoor
open Go Go.HL Go.Proofs Go.HL.Kl Go.HL.Kl.Mc Go.HL.Kl.Mc.AskE Go.Tab
theorem num_fn (k i : Nat) (hk : k ≤ 1000) (hi : i ≤ 4294967296) : HL.Fn Tryd.prog 39 [.int .i64 k, .int .i64 i] (fun _ => True) [] (fun v _ => v = .int .i64 ((1048576 * k + i + 1 : Nat) : Int)) := by
  refine fn_of Tryd.func39 rfl rfl rfl fun w0 hw => ?_; refine cR fun _ hK1 => ?_; refine oA (oZ hK1 (cR fun _ hK2 => ?_)); refine oM ?_; refine oS (s_mul rfl rfl (by omega)) ?_; refine oM ?_; refine oS sD ?_; refine oS sD (oA (oZ hK2 (c_ret ?_))); refine ?_; exact xR rfl rfl ((congrArg (Value.int .i64) (by omega)))
theorem eqNodes_fn (a a2 : Option Addr) (c c2 : Nat) (xs ys : List Nd) : HL.Fn Tryd.prog 12 [.slice a xs.length c, .slice a2 ys.length c2] (fun w => Rd En w (.slice a xs.length c) xs ∧ Rd En w (.slice a2 ys.length c2) ys) [] (fun v _ => v = .bool (decide (xs = ys))) := by
  refine fn_of Tryd.func12 rfl rfl rfl fun w0 hw => ?_
  obtain ⟨hx, hy⟩ := hw
  have hsx := hx.sl
  have hsy := hy.sl
  have hbx := hsx.le
  have hby := hsy.le
  refine cR fun _ hK1 => ?_; refine oA (oZ hK1 (c_seq fun _ hK2 => ?_)); refine cR fun _ hK3 => ?_; refine oM ?_; refine oS sC (oM ?_); refine oS sC ?_; refine oS (s_neq rfl rfl) ?_; refine oZ hK3 ?_; refine c_if rfl (fun hl => ?_) (fun hl => ?_)
  ·refine cR fun _ hK4 => ?_; refine oA (oZ hK4 (c_ret ?_)); refine x_then_ret (?_); exact xR rfl rfl ((congrArg Value.bool (decide_eq_false (by intro e; subst e; omega)).symm))
  ·refine c_skip (xZ hK2 (c_seq fun _ hK5 => ?_)); refine cR fun _ hK6 => ?_; refine oA (oZ hK6 (c_block ?_))
   -- not carried: 4
   refine c_loopB (fun (j : Nat) => j ≤ xs.length ∧ ∀ i, i < j → xs[i]? = ys[i]?) (fun (j : Nat) => [(5, .int .i64 j)]) [(0, _), (1, _)] (fun (j : Nat) => _) (fun (j : Nat) => xs.length - j) 0 ⟨by omega, fun i hi => by omega⟩ sbA sbA hzB ?_
   rintro j ⟨hj, hjt⟩
   refine c_seq fun _ hK7 => ?_; refine cR fun _ hK8 => ?_; refine oM (oM ?_); refine oS sC ?_; refine oS (s_lss rfl rfl) ?_; refine oZ hK8 ?_; refine c_if rfl (fun hlt => ?_) (fun hlt => ?_)
   ·obtain ⟨x, hxj⟩ : ∃ x, xs[j]? = some x := gE
    obtain ⟨y, hyj⟩ : ∃ y, ys[j]? = some y := gE
    refine c_skip (xZ hK7 (c_seq fun _ hK9 => ?_)); refine c_block (c_seq fun _ hK10 => ?_); refine c_drawE ([]) (fun i => false) ?_; refine e_tk 0 rfl (by exact HSub.nil) sM ?_; refine e_tk 1 rfl (by exact HSub.nil) sM ?_; refine e_tk 2 rfl (by exact HSub.nil) (s_idx rfl rfl hsx (by omega)) ?_; refine e_tk 3 rfl (by exact HSub.nil) (s_ldB rfl ((RdK.old0 hx).lds j hxj (by omega)) (by rfl)) ?_; refine e_tk 4 rfl (by exact HSub.nil) sM ?_; refine e_tk 5 rfl (by exact HSub.nil) sM ?_; refine e_tk 6 rfl (by exact HSub.nil) (s_idx rfl rfl hsy (by omega)) ?_; refine e_tk 7 rfl (by exact HSub.nil) (s_ldB rfl ((RdK.old0 hy).lds j hyj (by omega)) (by rfl)) ?_; refine e_tk 8 rfl (by exact HSub.nil) (s_neq_nd rfl rfl) ?_; refine eZ hK10 ?_; refine c_ifn rfl (fun hne => ?_) (fun hne => ?_)
    ·refine cR fun _ hK11 => ?_; refine oA (oZ hK11 (c_ret ?_)); refine x_block_ret (x_then_ret (x_then_ret (x_block_ret (x_then_ret (?_)))))
     exact xR rfl rfl ((congrArg Value.bool (decide_eq_false (by intro e; subst e; rw [hxj] at hyj; cases hyj; exact hne rfl)).symm))
    ·refine c_skip (x_block (xZ hK9 (c_region (oM ?_)))); refine oS sD (oA (o_nil ?_)); exact xI (j + 1) ⟨by omega, fun i hi => by rcases Nat.lt_or_ge i j with h | h; exact hjt i h; rw [show i = j by omega, hxj, hyj, hne]⟩
   ·refine c_exit ?_; refine x_then_exit (x_then_exit (x_block_exit (xZ hK5 (cR fun _ hK12 => ?_)))); refine oA (oZ hK12 (c_ret ?_)); refine ?_; exact xR rfl rfl ((congrArg Value.bool (decide_eq_true (ext_upto (by omega) fun i hi => hjt i (by omega))).symm))
theorem wideNodes_fn (a : Option Addr) (c : Nat) (xs : List Nd) (hn : xs.length ≤ 2147483647) : HL.Fn Tryd.prog 9 [.slice a xs.length c] (fun w => Rd En w (.slice a xs.length c) xs) [] (fun v S' => ∃ a', v = .slice a' xs.length (xs.length + 64) ∧ OwnS En 9 80 (.slice a' (wdl spN xs).length (xs.length + 64)) (wdl spN xs) S') := by
  refine fn_of Tryd.func9 rfl rfl rfl fun w0 hw => ?_
  have hsx := hw.sl
  have hbx := hsx.le
  have hwl := wdl_len spN xs
  refine cR fun _ hK1 => ?_; refine oA (oZ hK1 (cR fun _ hK2 => ?_)); refine oM ?_; refine oS sC ?_; refine oS sD ?_; refine o_make (E := En) (zx := zN) (n := xs.length + 64) rfl rfl (by rw [En_zero]; rfl) (by omega) (by omega) rfl fun b8 S8 hS8 => ?_; refine oA (oZ hK2 (c_seq fun _ hK3 => ?_)); refine cR fun _ hK4 => ?_; refine oA (oZ hK4 (c_block ?_)); refine c_loop3 (fun (j : Nat) (l : List Nd) (S : Hp) => j ≤ xs.length + 64 ∧ Tab.Fill (wdlF spN xs) (xs.length + 64) j l ∧ OwnS En 9 80 (.slice (some ⟨b8, 0, none⟩) (xs.length + 64) (xs.length + 64)) l S) (fun (j : Nat) (l : List Nd) (S : Hp) => [(4, .int .i64 j)]) [(0, _), (2, _), (3, _)] (fun (j : Nat) (l : List Nd) (S : Hp) => S) (fun (j : Nat) (l : List Nd) (S : Hp) => xs.length + 64 - j) 0 _ _ ⟨by omega, .zero List.length_replicate, hS8⟩ sbA sbA hzB ?_
  rintro j l S ⟨hj, hl, hS⟩
  have hsl := hS.sl
  have hll := hl.len
  rw [hll] at hsl
  refine c_seq fun _ hK5 => ?_; refine cR fun _ hK6 => ?_; refine oM (oM ?_); refine oS sC ?_; refine oS (s_lss rfl rfl) ?_; refine oZ hK6 ?_; refine c_if rfl (fun hlt => ?_) (fun hlt => ?_)
  ·refine c_skip (xZ hK5 (c_seq fun _ hK7 => ?_)); refine c_block (cR fun _ hK8 => ?_); refine oM (oM ?_); refine oS sC ?_; refine oS (s_lss rfl rfl) ?_; refine oZ hK8 ?_; refine c_if rfl (fun hin => ?_) (fun hin => ?_)
   ·obtain ⟨x, hxj⟩ : ∃ x, xs[j]? = some x := gE
    refine c_region (oM (oM (oM (oM ?_)))); refine oS (s_idx rfl rfl hsx (by omega)) ?_; refine oS (s_ldB rfl ((RdK.old0 hw).lds j hxj (by omega)) (by rfl)) ?_; refine oS (s_idx rfl rfl hsl (by omega)) ?_; refine o_stSE j x hS pkA rfl rfl (by omega) (by rw [Int.toNat_natCast]) fun S' hS' => ?_; refine o_nil (x_block (xZ hK7 (c_region (oM ?_)))); refine oS sD (oA (o_nil ?_)); exact xI (j + 1, _, _) ⟨by omega, hl.step (by omega) (wdl_in hxj), hS'⟩
   ·refine c_region (oM (oM (oM ?_))); refine o_callP (num_fn 9 j (by omega) (by omega)) rfl rfl rfl (fun _ _ => trivial) (fun v29 hv29 => ?_); subst hv29
    refine oS (step_cast (v' := .agg (En (spN j)).toArray) (s_build (cs := [_, _, _, _, _, _, _, _, _]) (vs := [_, _]) rfl rfl (.cons rfl rfl rfl rfl rfl (.cons rfl rfl rfl rfl rfl (.nil)))) (by rw [En_sp])) ?_; refine oS (s_idx rfl rfl hsl (by omega)) ?_; refine o_stSE j (spN j) hS pkA rfl rfl (by omega) (by rw [Int.toNat_natCast]) fun S' hS' => ?_; refine o_nil (x_block (xZ hK7 (c_region (oM ?_)))); refine oS sD (oA (o_nil ?_)); exact xI (j + 1, _, _) ⟨by omega, hl.step (by omega) (wdl_out (d := spN) (by omega)), hS'⟩
  ·have hd := fill_wdl hl (by omega)
   subst hd; refine c_exit ?_; refine x_then_exit (x_then_exit (x_block_exit (xZ hK3 (cR fun _ hK9 => ?_)))); refine oM (oM ?_); refine oS sC ?_; refine oS (s_slice_hi rfl rfl (by omega)) ?_; refine oA (oZ hK9 (c_ret ?_)); refine ?_; exact xR rfl rfl (⟨_, rfl, by rw [hwl]; exact hS⟩)
theorem spareNodes_fn (a : Option Addr) (c : Nat) (xs : List Nd) (hn : xs.length ≤ 2147483647) : HL.Fn Tryd.prog 13 [.slice a xs.length c] (fun w => Rd En w (.slice a (wdl spN xs).length c) (wdl spN xs)) [] (fun v _ => v = .bool true) := by
  refine fn_of Tryd.func13 rfl rfl rfl fun w0 hw => ?_
  have hwl := wdl_len spN xs
  have hsx := hw.sl
  have hc := hsx.cap
  refine cR fun _ hK1 => ?_; refine oA (oZ hK1 (cR fun _ hK2 => ?_)); refine oM (oM ?_); refine oS sC ?_; refine oS sD ?_; refine oS (s_slice_hi rfl rfl (by omega)) ?_
  rw [show ((xs.length : Int) + 64).toNat = (wdl spN xs).length from by rw [wdl_len]; omega]
  refine oA (oZ hK2 (c_seq fun _ hK3 => ?_)); refine cR fun _ hK4 => ?_; refine oM ?_; refine oS sC (oA (oZ hK4 (c_block ?_)))
  -- not carried: 2
  refine c_loopB (fun (j : Nat) => xs.length ≤ j ∧ j ≤ xs.length + 64) (fun (j : Nat) => [(4, .int .i64 j)]) [(3, _)] (fun (j : Nat) => _) (fun (j : Nat) => xs.length + 64 - j) xs.length ⟨by omega, by omega⟩ sbA sbA hzB ?_
  rintro j ⟨hj1, hj2⟩
  refine c_seq fun _ hK5 => ?_; refine cR fun _ hK6 => ?_; refine oM (oM ?_); refine oS sC ?_; refine oS (s_lss rfl rfl) ?_; refine oZ hK6 ?_; refine c_if rfl (fun hlt => ?_) (fun hlt => ?_)
  ·have hxj := wdl_spare (d := spN) (xs := xs) (i := j) (by omega) (by omega)
   refine c_skip (xZ hK5 (c_seq fun _ hK7 => ?_)); refine c_block (c_seq fun _ hK8 => ?_); refine c_drawE ([]) (fun i => false) ?_; refine e_tk 0 rfl (by exact HSub.nil) sM ?_; refine e_tk 1 rfl (by exact HSub.nil) sM ?_; refine e_tk 2 rfl (by exact HSub.nil) (s_idx rfl rfl hsx (by omega)) ?_; refine e_tk 3 rfl (by exact HSub.nil) (s_ldB rfl ((RdK.old0 hw).lds j hxj (by omega)) (by rfl)) ?_; refine e_tk 4 rfl (by exact HSub.nil) sM ?_; refine eO 5 rfl ?_; refine o_callP (num_fn 9 j (by omega) (by omega)) rfl rfl rfl (fun _ _ => trivial) (fun v23 hv23 => ?_); subst hv23
   refine o_nil ?_; refine x_oneS (by exact HSub.nil) ?_; refine e_tk 6 rfl (by exact HSub.nil) (step_cast (v' := .agg (En (spN j)).toArray) (s_build (cs := [_, _, _, _, _, _, _, _, _]) (vs := [_, _]) rfl rfl (.cons rfl rfl rfl rfl rfl (.cons rfl rfl rfl rfl rfl (.nil)))) (by rw [En_sp])) ?_; refine e_tk 7 rfl (by exact HSub.nil) (step_cast (v' := .bool true) (s_eql_nd rfl rfl) (by rw [decide_eq_true rfl])) ?_; refine e_tk 8 rfl (by exact HSub.nil) (s_not rfl) ?_; refine eZ hK8 ?_; refine cF (c_skip (x_block (xZ hK7 (c_region (oM ?_))))); refine oS sD (oA (o_nil ?_)); exact xI (j + 1) ⟨by omega, by omega⟩
  ·refine c_exit ?_; refine x_then_exit (x_then_exit (x_block_exit (xZ hK3 (cR fun _ hK9 => ?_)))); refine oA (oZ hK9 (c_ret ?_)); refine ?_; exact xR rfl rfl (rfl)
theorem wideBytes_fn (a : Option Addr) (c : Nat) (xs : List UInt8) (hn : xs.length ≤ 2147483647) : HL.Fn Tryd.prog 29 [.slice a xs.length c] (fun w => Rd Eb w (.slice a xs.length c) xs) [] (fun v S' => ∃ a', v = .slice a' xs.length (xs.length + 64) ∧ OwnS Eb 1 5 (.slice a' (wdl spB xs).length (xs.length + 64)) (wdl spB xs) S') := by
  refine fn_of Tryd.func29 rfl rfl rfl fun w0 hw => ?_
  have hsx := hw.sl
  have hbx := hsx.le
  have hwl := wdl_len spB xs
  refine cR fun _ hK1 => ?_; refine oA (oZ hK1 (cR fun _ hK2 => ?_)); refine oM ?_; refine oS sC ?_; refine oS sD ?_; refine o_make (E := Eb) (zx := 0) (n := xs.length + 64) rfl rfl rfl (by omega) (by omega) rfl fun b8 S8 hS8 => ?_; refine oA (oZ hK2 (c_seq fun _ hK3 => ?_)); refine cR fun _ hK4 => ?_; refine oA (oZ hK4 (c_block ?_)); refine c_loop3 (fun (j : Nat) (l : List UInt8) (S : Hp) => j ≤ xs.length + 64 ∧ Tab.Fill (wdlF spB xs) (xs.length + 64) j l ∧ OwnS Eb 1 5 (.slice (some ⟨b8, 0, none⟩) (xs.length + 64) (xs.length + 64)) l S) (fun (j : Nat) (l : List UInt8) (S : Hp) => [(4, .int .i64 j)]) [(0, _), (2, _), (3, _)] (fun (j : Nat) (l : List UInt8) (S : Hp) => S) (fun (j : Nat) (l : List UInt8) (S : Hp) => xs.length + 64 - j) 0 _ _ ⟨by omega, .zero List.length_replicate, hS8⟩ sbA sbA hzB ?_
  rintro j l S ⟨hj, hl, hS⟩
  have hsl := hS.sl
  have hll := hl.len
  rw [hll] at hsl
  refine c_seq fun _ hK5 => ?_; refine cR fun _ hK6 => ?_; refine oM (oM ?_); refine oS sC ?_; refine oS (s_lss rfl rfl) ?_; refine oZ hK6 ?_; refine c_if rfl (fun hlt => ?_) (fun hlt => ?_)
  ·refine c_skip (xZ hK5 (c_seq fun _ hK7 => ?_)); refine c_block (cR fun _ hK8 => ?_); refine oM (oM ?_); refine oS sC ?_; refine oS (s_lss rfl rfl) ?_; refine oZ hK8 ?_; refine c_if rfl (fun hin => ?_) (fun hin => ?_)
   ·obtain ⟨x, hxj⟩ : ∃ x, xs[j]? = some x := gE
    refine c_region (oM (oM (oM (oM ?_)))); refine oS (s_idx rfl rfl hsx (by omega)) ?_; refine oS (s_ld rfl ((RdK.old0 hw).ld j 0 hxj rfl (by decide) (by omega))) ?_; refine oS (s_idx rfl rfl hsl (by omega)) ?_; refine o_stS1 j x hS pkA rfl rfl rfl (by omega) (by rw [Int.toNat_natCast, Nat.mul_one]) fun S' hS' => ?_; refine o_nil (x_block (xZ hK7 (c_region (oM ?_)))); refine oS sD (oA (o_nil ?_)); exact xI (j + 1, _, _) ⟨by omega, hl.step (by omega) (wdl_in hxj), hS'⟩
   ·refine c_region (oM (oM (oM ?_))); refine oS (s_mul rfl rfl (by omega)) ?_; refine oS sD ?_; refine oS (step_cast (v' := .int .i64 ((279 + 7 * j + 3 : Nat) : Int)) (s_add rfl rfl (by omega)) (congrArg (Value.int .i64) (by omega))) ?_; refine oS (step_cast (v' := .int .u8 (spB j).toNat) (s_convB (j := 279 + 7 * j + 3) rfl) rfl) ?_; refine oS (s_idx rfl rfl hsl (by omega)) ?_; refine o_stS1 j (spB j) hS pkA rfl rfl rfl (by omega) (by rw [Int.toNat_natCast, Nat.mul_one]) fun S' hS' => ?_; refine o_nil (x_block (xZ hK7 (c_region (oM ?_)))); refine oS sD (oA (o_nil ?_)); exact xI (j + 1, _, _) ⟨by omega, hl.step (by omega) (wdl_out (d := spB) (by omega)), hS'⟩
  ·have hd := fill_wdl hl (by omega)
   subst hd; refine c_exit ?_; refine x_then_exit (x_then_exit (x_block_exit (xZ hK3 (cR fun _ hK9 => ?_)))); refine oM (oM ?_); refine oS sC ?_; refine oS (s_slice_hi rfl rfl (by omega)) ?_; refine oA (oZ hK9 (c_ret ?_)); refine ?_; exact xR rfl rfl (⟨_, rfl, by rw [hwl]; exact hS⟩)
theorem spareBytes_fn (a : Option Addr) (c : Nat) (xs : List UInt8) (hn : xs.length ≤ 2147483647) : HL.Fn Tryd.prog 31 [.slice a xs.length c] (fun w => Rd Eb w (.slice a (wdl spB xs).length c) (wdl spB xs)) [] (fun v _ => v = .bool true) := by
  refine fn_of Tryd.func31 rfl rfl rfl fun w0 hw => ?_
  have hwl := wdl_len spB xs
  have hsx := hw.sl
  have hc := hsx.cap
  refine cR fun _ hK1 => ?_; refine oA (oZ hK1 (cR fun _ hK2 => ?_)); refine oM (oM ?_); refine oS sC ?_; refine oS sD ?_; refine oS (s_slice_hi rfl rfl (by omega)) ?_
  rw [show ((xs.length : Int) + 64).toNat = (wdl spB xs).length from by rw [wdl_len]; omega]
  refine oA (oZ hK2 (c_seq fun _ hK3 => ?_)); refine cR fun _ hK4 => ?_; refine oM ?_; refine oS sC (oA (oZ hK4 (c_block ?_)))
  -- not carried: 2
  refine c_loopB (fun (j : Nat) => xs.length ≤ j ∧ j ≤ xs.length + 64) (fun (j : Nat) => [(4, .int .i64 j)]) [(3, _)] (fun (j : Nat) => _) (fun (j : Nat) => xs.length + 64 - j) xs.length ⟨by omega, by omega⟩ sbA sbA hzB ?_
  rintro j ⟨hj1, hj2⟩
  refine c_seq fun _ hK5 => ?_; refine cR fun _ hK6 => ?_; refine oM (oM ?_); refine oS sC ?_; refine oS (s_lss rfl rfl) ?_; refine oZ hK6 ?_; refine c_if rfl (fun hlt => ?_) (fun hlt => ?_)
  ·have hxj := wdl_spare (d := spB) (xs := xs) (i := j) (by omega) (by omega)
   refine c_skip (xZ hK5 (c_seq fun _ hK7 => ?_)); refine c_block (cR fun _ hK8 => ?_); refine oM (oM ?_); refine oS (s_idx rfl rfl hsx (by omega)) ?_; refine oS (s_ld rfl ((RdK.old0 hw).ld j 0 hxj rfl (by decide) (by omega))) ?_; refine oM ?_; refine oS (s_mul rfl rfl (by omega)) ?_; refine oS sD ?_; refine oS (step_cast (v' := .int .i64 ((279 + 7 * j + 3 : Nat) : Int)) (s_add rfl rfl (by omega)) (congrArg (Value.int .i64) (by omega))) ?_; refine oS (step_cast (v' := .int .u8 (spB j).toNat) (s_convB (j := 279 + 7 * j + 3) rfl) rfl) ?_; refine oS (eqT (h := rfl)) ?_; refine oS (s_not rfl) ?_; refine oZ hK8 ?_
   refine cF (c_skip (x_block (xZ hK7 (c_region (oM ?_))))); refine oS sD (oA (o_nil ?_)); exact xI (j + 1) ⟨by omega, by omega⟩
  ·refine c_exit ?_; refine x_then_exit (x_then_exit (x_block_exit (xZ hK3 (cR fun _ hK9 => ?_)))); refine oA (oZ hK9 (c_ret ?_)); refine ?_; exact xR rfl rfl (rfl)
end Go.Proofs.YtloepfcndglmmaaDoor
