/- Part of the proofs over this seat: see the text that holds the theorem. Conditions: each theorem bears its own. -/
import Derived.Test.YtloepfcndglmmaaDoorHTZ
import Derived.Test.YtloepfcndglmmaaDoorMK2Z
import Derived.Test.YtloepfcndglmmaaDoorVZV7Z
import Derived.Test.YtloepfcndglmmaaDoorHM2Z
import Derived.Test.YtloepfcndglmmaaDoorBT2Z
import Derived.Test.YtloepfcndglmmaaDoorMT3Z
import Derived.Test.YtloepfcndglmmaaDoorVZN1Z
import Derived.Test.YtloepfcndglmmaaDoorVZN4Z
import Derived.Test.YtloepfcndglmmaaDoorMOZ
namespace Go.Proofs.YtloepfcndglmmaaDoor
open Go Go.HL Go.Proofs Go.HL.Kl Go.HL.Kl.Mc Go.HL.Kl.Mc.AskE
theorem En_catV : En catV = [.int .i8 4, .int .u64 0, .int .u64 0, .int .u64 0, .int .u64 0, .int .i64 0, .int .i64 0, .int .i64 0, .int .i64 3] := by
  show _ :: (Ec 0#256 ++ _) = _
  rw [Ec_zero]; rfl
theorem En_refV : En refV = [.int .i8 8, .int .u64 0, .int .u64 0, .int .u64 0, .int .u64 0, .int .i64 1, .int .i64 0, .int .i64 0, .int .i64 0] := by
  show _ :: (Ec 0#256 ++ _) = _
  rw [Ec_zero]; rfl
theorem letterO_fn (b : UInt8) : HL.Fn Tryd.prog 45 [.int .u8 b.toNat] (fun _ => True) [] (fun v S' => ∃ S2, HSub S' S2 ∧ v = .agg (En (letN b)).toArray ∧ S2 = []) := by
  refine fn_of Tryd.func45 rfl rfl rfl fun w0 hw => ?_
  have hx := b.toNat_lt
  refine cR fun _ hK1 => ?_; refine o_alloc (l := En zN) (by rw [En_zero]; rfl) rfl fun b2 => ?_; refine oZ hK1 (cR fun _ hK2 => ?_); refine oS (step_cast (v' := .agg (En (⟨1, 0, 0, 0, 0, 0⟩ : Nd)).toArray) (s_build (cs := [_, _, _, _, _, _, _, _, _]) (vs := [_]) rfl rfl (.cons rfl rfl rfl rfl rfl .nil)) (by rw [En_one])) ?_; refine o_alloc (l := En zN) (by rw [En_zero]; rfl) rfl fun b3 => ?_; refine o_stW rfl rfl upA lnA lnA onA ?_; refine oZ hK2 (cR fun _ hK3 => ?_); refine oM ?_; refine oS (step_cast (v' := .int .u8 ((b.toNat / 64 : Nat) : Int)) (s_quo rfl rfl (by decide)) (congrArg _ (quo64 hx))) ?_; refine oM ?_; refine oS (step_cast (v' := .int .u8 ((b.toNat % 64 : Nat) : Int)) (s_rem rfl rfl (by decide)) (congrArg _ (rem64 hx))) ?_; refine oS (step_cast (v' := Ew (1#64 <<< (b.toNat % 64))) (s_shl rfl rfl (by omega)) (v_shl1 (by omega))) ?_; refine oS sF ?_; refine oS (s_indexA rfl rfl (by omega)) ?_; refine o_store rfl rfl rfl upA (by show _ < 9; omega) rfl ?_
  rw [letN_set b]
  refine oZ hK3 (cR fun _ hK4 => ?_); refine oS (s_ldB rfl (RdPK.cels (.own meA)) lnA) ?_; refine o_stW rfl rfl upA lnA lnA onA ?_; refine oZ hK4 (c_ret ?_); refine ?_; exact x_ret rfl (.agg inferInstance inferInstance rfl (RdPK.cels (.own meA)) lnA (.nil)) (⟨[], HSub.nil, rfl, rfl⟩)
theorem letter_fn (b : UInt8) : HL.Fn Tryd.prog 45 [.int .u8 b.toNat] (fun _ => True) [] (fun v _ => v = .agg (En (letN b)).toArray) :=
  Fn.sub (letterO_fn b) fun v S' ⟨S2, h1, h2, h3⟩ => ⟨S2, h1, h2⟩
theorem longN_fn (n : Int) : HL.Fn Tryd.prog 22 [.int .i64 n] (fun _ => True) [] (fun v _ => v = .bool (decide (n > 2147483647))) := by
  refine fn_of Tryd.func22 rfl rfl rfl fun w0 hw => ?_; refine cR fun _ hK1 => ?_; refine oA (oZ hK1 (cR fun _ hK2 => ?_)); refine oM ?_; refine oS (s_gtr rfl rfl) ?_; refine oA (oZ hK2 (c_ret ?_)); refine ?_; exact xR rfl rfl (rfl)
theorem bFindU_fn (ra : Option Addr) (rc : Nat) (re : List Nd) (hre : ∀ x ∈ re, -128 ≤ x.op ∧ x.op < 128) (ta : Option Addr) (tc : Nat) (w : List UInt8) (p f : Int) (hsb : shapedB re = false) : HL.Fn Tryd.prog 16 [.slice ra re.length rc, .slice ta w.length tc, .int .i64 p, .int .i64 f] (fun W => Rd En W (.slice ra re.length rc) re ∧ Rd Eb W (.slice ta w.length tc) w ∧ RdP W 0 0 (Esp noS)) [] (fun v S' => v = .tuple #[.slice none 0 0, .bool false, .int .i64 49] ∧ S' = []) := by
  refine fn_of Tryd.func16 rfl rfl rfl fun w0 hw => ?_; refine cR fun _ hK1 => ?_; refine oA (oA (oA (oZ hK1 (c_seq fun _ hK2 => ?_)))); refine cR fun _ hK3 => ?_; refine oM ?_; refine o_callP (shaped_fn ra rc re hre) rfl rfl rfl (fun _ st => (RdK.old0 hw.1).out _ st) (fun v16 hv16 => ?_)
  rw [hsb] at hv16
  subst hv16; refine oS (s_not rfl) ?_; refine oZ hK3 ?_; refine cT (cR fun _ hK4 => ?_); refine oA (oA (oA (oZ hK4 (c_ret ?_)))); refine x_then_ret (?_); exact x_ret rfl (.tmp rfl (.tmp rfl (.tmp rfl (.nil)))) (⟨rfl, rfl⟩)
theorem bFindA_fn (ra : Option Addr) (rc : Nat) (re : List Nd) (hre : ∀ x ∈ re, -128 ≤ x.op ∧ x.op < 128) (ta : Option Addr) (tc : Nat) (w : List UInt8) (p : Int) (hfit : shapedB re = true → Fits re w.length) : HL.Fn Tryd.prog 16 [.slice ra re.length rc, .slice ta w.length tc, .int .i64 p, .int .i64 4611686018427387904] (fun W => Rd En W (.slice ra re.length rc) re ∧ Rd Eb W (.slice ta w.length tc) w ∧ RdP W 0 0 (Esp noS)) [] (BkP re w p) := by
  cases hsb : shapedB re with
  | false => exact (bFindU_fn ra rc re hre ta tc w p 4611686018427387904 hsb).weaken (fun _ h => h) fun v S' h => .inl ⟨hsb, h.1, h.2⟩
  | true =>
    have hl : re.length ≤ 16384 := by obtain ⟨_, x, ks, hs⟩ := shapedB_iff.1 hsb; exact hs.len
    have hw := (hfit hsb w.length rfl).1
    exact bFind_fn ra rc re hre ta tc w (by omega) (by omega) p 4611686018427387904 (by decide) (by decide) hfit
theorem fitsV6 : Fits reV (w6.length : Nat) := fun m hm => by
  have : m = 6 := by simp [w6] at hm; omega
  subst this
  exact ⟨by decide, catV, ksV, shpV, by rw [gcnV]; exact accB_ok accV6⟩
theorem fitsV3 : Fits reV (w3.length : Nat) := fun m hm => by
  have : m = 3 := by simp [w3] at hm; omega
  subst this
  exact ⟨by decide, catV, ksV, shpV, by rw [gcnV]; exact accB_ok accV3⟩
theorem c0V : C0 reV = [noS] := by rw [C0, gcnV]; rfl
theorem bkV6 {v : Value} {S' : Hp} (h : BkP reV w6 0 v S') : ∃ a c, v = .tuple #[.slice a 2 c, .bool true, .int .i64 0] ∧ OwnS Esp 2 45 (.slice a 2 c) [⟨2, 5⟩, ⟨2, 3⟩] S' := by
  have hl : w6.length = 6 := rfl
  have good : BSome w6 catV ksV (C0 reV) 0 2 5 [⟨2, 3⟩] := by
    rw [c0V]
    exact ⟨Nat.zero_le _, by decide, by decide, by rw [lfV]; rfl, fun i' j' _ h2 _ h4 => lfV6n (by omega) (by omega) (by omega), fun j' h1 h2 => lfV6n (by omega) (by omega) (by omega), rfl, fun s hs => by
      rw [List.mem_singleton.1 hs]; exact .inr ⟨by decide, by decide, by decide⟩⟩
  rcases h with ⟨h, _⟩ | ⟨_, h, _⟩ | ⟨_, m, hm, _, x, ks, hS, h⟩
  · rw [shapedV] at h; cases h
  · exact absurd ⟨by decide, by decide⟩ h
  · obtain ⟨rfl, rfl⟩ := hS.uniq shpV
    obtain rfl : m = 0 := by omega
    rcases h with ⟨hn, _⟩ | ⟨i, j, c, a, cc, hB, hv, hO⟩
    · exact absurd hn good.not_none
    · obtain ⟨rfl, rfl, rfl⟩ := hB.uniq good
      rw [gcnV] at hv hO
      exact ⟨a, cc, hv, hO⟩
theorem bkV3 {v : Value} {S' : Hp} (h : BkP reV w3 0 v S') : v = .tuple #[.slice none 0 0, .bool false, .int .i64 0] := by
  have hl : w3.length = 3 := rfl
  rcases h with ⟨h, _⟩ | ⟨_, h, _⟩ | ⟨_, m, hm, _, x, ks, hS, h⟩
  · rw [shapedV] at h; cases h
  · exact absurd ⟨by decide, by decide⟩ h
  · obtain ⟨rfl, rfl⟩ := hS.uniq shpV
    rcases h with ⟨_, hv, _⟩ | ⟨i, j, c, a, cc, hB, _, _⟩
    · exact hv
    · have h1 := hB.hd
      have h2 := hB.ij
      have h3 := hB.hi
      rw [c0V, lfV3n (by omega) (by omega)] at h1; cases h1
theorem enE : enN .nil (F.nd (letN 97) .nil .nil).weight reE 0 = 64 := by decide +kernel
theorem BkP.trip {re : List Nd} {w : List UInt8} {p : Int} {v : Value} {S' : Hp} (h : BkP re w p v S') : ∃ a b c, v = .tuple #[a, b, c] := by
  rcases h with ⟨_, h, _⟩ | ⟨_, _, h, _⟩ | ⟨_, _, _, _, _, _, _, ⟨_, h, _⟩ | ⟨_, _, _, _, _, _, h, _⟩⟩ <;> exact ⟨_, _, _, h⟩
set_option maxHeartbeats 1000000 in
theorem found_fn (ra : Option Addr) (rc : Nat) (re : List Nd) (hre : ∀ x ∈ re, -128 ≤ x.op ∧ x.op < 128) (ta : Option Addr) (tc : Nat) (w : List UInt8) (hrl : re.length ≤ 2147483647) (hwl : w.length ≤ 2147483647) (p : Int) (hfit : shapedB re = true → Fits re w.length) : HL.Fn Tryd.prog 24 [.slice ra re.length rc, .slice ta w.length tc, .int .i64 p] (fun W => Rd En W (.slice ra re.length rc) re ∧ Rd Eb W (.slice ta w.length tc) w ∧ RdP W 0 0 (Esp noS)) [] (BkP re w p) := by
  refine fn_of Tryd.func24 rfl rfl rfl fun w0 hw => ?_; refine cR fun _ hK1 => ?_; refine oA (oA (oA (oZ hK1 (cR fun _ hK2 => ?_)))); refine oM ?_; refine o_call (copyNodes_fn ra rc re (by omega)) rfl rfl rfl (by exact .nil) (fun _ st => (RdK.old0 hw.1).out _ st) (fun v14 S14 ⟨a14, c14, hv14, hS14⟩ => ?_); subst hv14
  refine oM ?_; refine o_call (copyBytes_fn ta tc w (by omega)) rfl rfl rfl (by exact .nil) (fun _ st => (RdK.old0 hw.2.1).out _ st) (fun v16 S16 ⟨a16, c16, hv16, hS16⟩ => ?_); subst hv16
  refine oM ?_; refine o_call (bFindA_fn a14 c14 re hre a16 c16 w p hfit) rfl rfl rfl (by exact .nil) (fun _ st => ⟨(hS14.rdk hiA).out _ st, (hS16.rdk hiA).out _ st, (RdPK.old0 hw.2.2).out _ st⟩) (fun v18 S18 hv18 => ?_)
  obtain ⟨q1, q2, q3, rfl⟩ := hv18.trip
  refine oM ?_; refine oS sE ?_; refine oS sE ?_; refine oS sE (oA (oA (oA (oZ hK2 (cR fun _ hK3 => ?_))))); refine oM (oM (oM (oA (oA (oA (oZ hK3 (c_ret ?_))))))); refine ?_; refine x_sub (Sub.refl _) (H' := S18) hzB ?_; exact x_ret rfl (.tmp rfl (.tmp rfl (.tmp rfl (.nil)))) (hv18)
set_option maxHeartbeats 2000000 in
theorem works_fn  : HL.Fn Tryd.prog 15 [] (fun W => RdP W 0 0 (Esp noS)) [] (fun v _ => v = .bool true) := by
  refine fn_of Tryd.func15 rfl rfl rfl fun w0 hw => ?_; refine cR fun _ hK1 => ?_; refine oA (oZ hK1 (cR fun _ hK2 => ?_)); refine oS (step_cast (v' := .agg (En catV).toArray) (s_build (cs := [_, _, _, _, _, _, _, _, _]) (vs := [_, _]) rfl rfl (.cons rfl rfl rfl rfl rfl (.cons rfl rfl rfl rfl rfl (.nil)))) (by rw [En_catV])) ?_; refine oS (step_cast (v' := .agg (En grpC).toArray) (s_build (cs := [_, _, _, _, _, _, _, _, _]) (vs := [_, _, _]) rfl rfl (.cons rfl rfl rfl rfl rfl (.cons rfl rfl rfl rfl rfl (.cons rfl rfl rfl rfl rfl (.nil))))) (by rw [En_grpC])) ?_; refine oS (step_cast (v' := .agg (En starN).toArray) (s_build (cs := [_, _, _, _, _, _, _, _, _]) (vs := [_, _, _]) rfl rfl (.cons rfl rfl rfl rfl rfl (.cons rfl rfl rfl rfl rfl (.cons rfl rfl rfl rfl rfl (.nil))))) (by rw [En_star])) ?_; refine o_callP (letter_fn 97) rfl rfl rfl (fun _ _ => trivial) (fun v11 hv11 => ?_); subst hv11
  refine o_callP (letter_fn 98) rfl rfl rfl (fun _ _ => trivial) (fun v12 hv12 => ?_); subst hv12
  refine oS (step_cast (v' := .agg (En refV).toArray) (s_build (cs := [_, _, _, _, _, _, _, _, _]) (vs := [_, _]) rfl rfl (.cons rfl rfl rfl rfl rfl (.cons rfl rfl rfl rfl rfl (.nil)))) (by rw [En_refV])) ?_; refine o_bs (E := En) (xs := [catV, grpC, starN, letN 97, letN 98, refV]) (vs := [_, _, _, _, _, _]) rfl rfl rfl rfl rfl (by decide) (by decide) fun b14 S14 hS14 => ?_; refine oA (oZ hK2 (cR fun _ hK3 => ?_)); refine oM ?_; refine o_bs (E := Eb) (xs := [99, 97, 97, 98, 97, 99]) (vs := [_, _, _, _, _, _]) rfl rfl rfl rfl rfl (by decide) (by decide) fun b17 S17 hS17 => ?_; refine o_conv_same rfl hS17 pkA rfl fun S18 hS18 => ?_; refine o_call (bFindA_fn (some ⟨b14, 0, none⟩) 6 reV rngV (some ⟨b17, 0, none⟩) 6 w6 0 (fun _ => fitsV6)) rfl rfl rfl (by exact .nil) (fun w st => ⟨(hS14.rdk hiA).out w st, (hS18.rdk hiA).out w st, (RdPK.old0 hw).out w st⟩) (fun v19 S19 hv19 => ?_)
  obtain ⟨a19, c19, rfl, hO19⟩ := bkV6 hv19
  refine oM ?_; refine oS sE ?_; refine oS sE ?_; refine oS sE (oA (oA (oA (oZ hK3 (cR fun _ hK4 => ?_))))); refine oM ?_; refine o_bs (E := Eb) (xs := [97, 97, 97]) (vs := [_, _, _]) rfl rfl rfl rfl rfl (by decide) (by decide) fun b25 S25 hS25 => ?_; refine o_conv_same rfl hS25 pkA rfl fun S26 hS26 => ?_; refine o_call (bFindA_fn (some ⟨b14, 0, none⟩) 6 reV rngV (some ⟨b25, 0, none⟩) 3 w3 0 (fun _ => fitsV3)) rfl rfl rfl (by exact .nil) (fun w st => ⟨(hS14.rdk hiA).out w st, (hS26.rdk hiA).out w st, (RdPK.old0 hw).out w st⟩) (fun v27 S27 hv27 => ?_)
  obtain rfl := bkV3 hv27
  refine oM ?_; refine oS sE ?_; refine oS sE ?_; refine oS sE (oA (oA (oA (oZ hK4 (c_seq fun _ hK5 => ?_))))); refine cR fun _ hK6 => ?_; refine oM ?_; refine oS (s_not rfl) ?_; refine oM ?_; refine oY (oM ?_); refine oY ?_; refine oS (step_cast (v' := .bool false) (s_neq rfl rfl) rfl) ?_; refine oS sP (oM ?_); refine oY (oM ?_); refine oY ?_; refine oS sC ?_; refine oY ?_; refine oS (step_cast (v' := .bool false) (s_neq rfl rfl) rfl) ?_; refine oS sP (oM ?_); refine oY (oM ?_); refine oY ?_; refine oS (s_idx rfl rfl hO19.sl (by omega)) ?_; refine oY ?_; refine oS (s_ldB rfl ((hO19.rdk hiA).lds 0 rfl rfl) (by rfl)) ?_; refine oY ?_; refine oS (step_cast (v' := .agg (Esp ⟨2, 5⟩).toArray) (s_build (cs := [_, _]) (vs := [_, _]) rfl rfl (.cons rfl rfl rfl rfl rfl (.cons rfl rfl rfl rfl rfl (.nil)))) rfl) ?_; refine oY ?_; refine oS (step_cast (v' := .bool false) (s_neq_sp rfl rfl) rfl) ?_; refine oS sP (oM ?_); refine oY (oM ?_); refine oY ?_; refine oS (s_idx rfl rfl hO19.sl (by omega)) ?_; refine oY ?_; refine oS (s_ldB rfl ((hO19.rdk hiA).lds 1 rfl rfl) (by rfl)) ?_
  refine oY ?_; refine oS (step_cast (v' := .agg (Esp ⟨2, 3⟩).toArray) (s_build (cs := [_, _]) (vs := [_, _]) rfl rfl (.cons rfl rfl rfl rfl rfl (.cons rfl rfl rfl rfl rfl (.nil)))) rfl) ?_; refine oY ?_; refine oS (step_cast (v' := .bool false) (s_neq_sp rfl rfl) rfl) ?_; refine oS sP (oZ hK6 ?_); refine cFZ hK5 (cR fun _ hK7 => ?_); refine oM ?_; refine oS (s_not rfl) ?_; refine oM ?_; refine oY (oM ?_); refine oY ?_; refine oS (step_cast (v' := .bool true) (s_eql rfl rfl) rfl) ?_; refine oS sT (oM ?_); refine oY (oM ?_); refine oY ?_; refine oS sC ?_; refine oY ?_; refine oS (step_cast (v' := .bool true) (s_eql rfl rfl) rfl) ?_; refine oS sT (oM ?_); refine oY ?_; refine o_callP (letter_fn 97) rfl rfl rfl (fun _ _ => trivial) (fun v68 hv68 => ?_); subst hv68
  refine oY ?_; refine o_bs (E := En) (xs := [letN 97]) (vs := [_]) rfl rfl rfl rfl rfl (by decide) (by decide) fun b69 S69 hS69 => ?_; refine oY ?_; refine o_callP (enough_fn (some ⟨b69, 0, none⟩) 1 reE rngE 0 (by decide)) rfl rfl rfl (fun w st => (hS69.rdk hiA).out w st) (fun v70 hv70 => ?_)
  obtain rfl : v70 = .int .i64 64 := by
    rcases hv70 with ⟨h, _⟩ | ⟨x, ks, hS, _, _, h⟩
    · exact absurd ⟨shapedE, by decide⟩ h
    · obtain ⟨rfl, rfl⟩ := hS.uniq shpE
      rw [h]; exact congrArg (fun n : Nat => Value.int .i64 n) enE
  refine oY ?_; refine oS (step_cast (v' := .bool true) (s_eql rfl rfl) rfl) ?_; refine oS sT (oA (oZ hK7 (c_ret ?_))); refine ?_; exact xR rfl rfl (rfl)
end Go.Proofs.YtloepfcndglmmaaDoor
namespace Go.HL.Kl.Mc
open Go Go.HL Go.HL.Kl
abbrev ddp (m : List Caps) : List Caps := addC [] m
def semQ (w : List UInt8) : TQ → List Caps
  | .node x ks i j c => LF1 w x ks i j c
  | .alt g i j c => LF w g true i j c
  | .row g i j c => LF w g false i j c
  | .rnd x y js had i j c => RLf x (fun p e c => LF w (.nd y js .nil) false p e (emp (F.nd y js .nil).flat c)) j had i c
def ordQ : TQ → Prop
  | .node _ _ i j _ => i ≤ j
  | .alt _ i j _ => i ≤ j
  | .row _ i j _ => i ≤ j
  | .rnd _ _ _ _ i j _ => i ≤ j
def lenQ (k : Nat) : TQ → Nat
  | .node _ _ _ _ _ => k
  | .alt _ _ _ _ => k
  | .row _ _ _ _ => k + 1
  | .rnd _ _ _ _ _ _ _ => k + 1
def gatS (es : List Nat) (A : Nat → List Caps) (B : Nat → Caps → List Caps) : List Caps := es.flatMap fun e => (A e).flatMap (B e)
variable {n : Nat} {x : Nd} {ks : F} {i j : Nat} {c : Caps} {Z : List Caps} {k : Nat}
end Go.HL.Kl.Mc
namespace Go.HL.Kl.Mc
open Go Go.HL Go.HL.Kl
def OkC (n : Nat) (c : Caps) : Prop := ∀ s ∈ c, s = noS ∨ (0 ≤ s.fr ∧ s.fr ≤ s.to ∧ s.to ≤ n)
def InC (i j : Nat) (c d : Caps) : Prop := ∀ s ∈ d, s ∈ c ∨ s = noS ∨ ((i : Int) ≤ s.fr ∧ s.fr ≤ s.to ∧ s.to ≤ (j : Int))
end Go.HL.Kl.Mc
namespace Go.Proofs.YtloepfcndglmmaaDoor
open Go Go.HL Go.Proofs Go.HL.Kl Go.HL.Kl.Mc
set_option maxHeartbeats 1000000 in
theorem beyond_fn (ra : Option Addr) (rc : Nat) (re : List Nd) (hre : ∀ x ∈ re, -128 ≤ x.op ∧ x.op < 128) : HL.Fn Tryd.prog 21 [.slice ra re.length rc] (fun w => Rd En w (.slice ra re.length rc) re) [] (fun v _ => ∃ b, v = .bool b) := by
  refine fn_of Tryd.func21 rfl rfl rfl fun w0 hw => ?_
  have hsl := hw.sl
  have hbl := hsl.le
  refine cR fun _ hK1 => ?_; refine oA (oZ hK1 (cR fun _ hK2 => ?_)); refine oA (oZ hK2 (c_seq fun _ hK3 => ?_)); refine cR fun _ hK4 => ?_; refine oA (oZ hK4 (c_block ?_))
  -- not carried: 2
  refine c_loop3 (fun (j : Nat) (q : Sl Int) (S : Hp) => j ≤ re.length ∧ q.xs.length ≤ 65536 ∧ OwnS Ei 1 3 (.slice q.a q.xs.length q.c) q.xs S) (fun (j : Nat) (q : Sl Int) (S : Hp) => [(4, .int .i64 j), (3, .slice q.a q.xs.length q.c)]) [(0, _)] (fun (j : Nat) (q : Sl Int) (S : Hp) => S) (fun (j : Nat) (q : Sl Int) (S : Hp) => re.length - j) 0 ⟨none, 0, []⟩ [] ⟨by omega, by simp, .nil⟩ sbA sbA hzB ?_
  rintro j q0 S0 ⟨hj, hq0, hO0⟩
  refine c_seq fun _ hK5 => ?_; refine cR fun _ hK6 => ?_; refine oM (oM ?_); refine oS sC ?_
  by_cases hjl : j < re.length
  ·obtain ⟨x, hx⟩ : ∃ x, re[j]? = some x := ⟨_, List.getElem?_eq_getElem hjl⟩
   refine oS lsT (oZ hK6 ?_); refine cTZ hK5 (c_seq fun _ hK7 => ?_); refine c_block (c_seq fun _ hK8 => ?_); refine c_block ?_; refine c_loop2 (fun (q : Sl Int) (S : Hp) => q.xs.length ≤ 65536 ∧ OwnS Ei 1 3 (.slice q.a q.xs.length q.c) q.xs S) (fun (q : Sl Int) (S : Hp) => [(3, .slice q.a q.xs.length q.c)]) [(0, _), (4, _), (5, _), (6, _), (7, _), (8, _)] (fun (q : Sl Int) (S : Hp) => S) (fun (q : Sl Int) (S : Hp) => q.xs.length) q0 S0 ⟨hq0, hO0⟩ sbA sbA hzB ?_
   rintro q S ⟨hq, hO⟩
   have hOs := hO.sl
   have hOc := hOs.cap
   refine c_seq fun _ hK9 => ?_; refine cR fun _ hK10 => ?_; refine oM ?_; refine oS sC ?_
   by_cases hp0 : (q.xs.length : Int) > 0
   ·obtain ⟨u, hu⟩ : ∃ u, q.xs[q.xs.length - 1]? = some u := gE
    have hO1 := hO.pre (q.xs.length - 1) (by omega)
    have hql1 : (q.xs.take (q.xs.length - 1)).length = q.xs.length - 1 := by rw [List.length_take]; omega
    refine oS gtT (oM ?_); refine oY (oM ?_); refine oY (oM ?_); refine oY ?_; refine oS sC ?_; refine oY ?_; refine oS sU ?_; refine oY ?_; refine oS (s_idx rfl rfl hOs (by omega)) ?_; refine oY ?_; refine oS (s_ld rfl ((hO.rdk hiA).ld (q.xs.length - 1) 0 hu rfl (by decide) (by omega))) ?_; refine oY ?_
    by_cases hle : u ≤ 0
    ·refine oS leT ?_; refine oS sT (oZ hK10 ?_); refine cTZ hK9 (c_block (c_region (oM (oM ?_)))); refine oS sC ?_; refine oS sU ?_; refine oS (step_cast (v' := .slice q.a (q.xs.take (q.xs.length - 1)).length q.c) (s_slice_hi rfl rfl (by omega)) (by rw [hql1]; congr 1; omega)) ?_; refine oA (o_nil (x_block ?_)); exact x_then (x_inv (⟨q.a, q.c, q.xs.take (q.xs.length - 1)⟩, S) ⟨by rw [hql1]; omega, by dsimp only; rw [hql1]; exact hO1⟩ (by dsimp only; rw [hql1]; omega) sbA hzB)
    ·refine oS leF ?_; refine oS sT (oZ hK10 ?_); refine cF ?_; refine c_exit ?_; refine x_then_exit (x_then_exit (x_block_exit (xZ hK8 (c_seq fun _ hK11 => ?_)))); refine cR fun _ hK12 => ?_; refine oM ?_; refine oS sC ?_
     by_cases hp1 : (q.xs.length : Int) > 0
     ·obtain ⟨u2, hu2⟩ : ∃ u, q.xs[q.xs.length - 1]? = some u := gE
      refine oS gtT (oZ hK12 ?_); refine cT (c_region (oM (oM ?_))); refine oS sC ?_; refine oS sU (oM (oM ?_)); refine oS sC ?_; refine oS sU ?_; refine oS (s_idx rfl rfl hOs (by omega)) ?_; refine oS (s_ld rfl ((hO.rdk hiA).ld (q.xs.length - 1) 0 hu2 rfl (by decide) (by omega))) ?_; refine oS (s_subw rfl rfl) ?_; refine oS (s_idx rfl rfl hOs (by omega)) ?_; refine o_stS1 (q.xs.length - 1) _ hO pkA rfl rfl rfl (by omega) (by omega) fun S' hS' => ?_
      have hO := hS'
      refine oZ hK11 (cR fun _ hK13 => ?_); refine oM (oM (oM ?_)); refine oS (s_idx rfl rfl hsl (by omega)) ?_; refine oS sF ?_; refine oS (s_ld rfl ((RdK.old0 hw).ld j 8 hx rfl (by decide) (by omega))) ?_; refine o_bs (E := Ei) (xs := [x.kids]) (vs := [_]) rfl rfl rfl rfl rfl (by decide) (by decide) fun b49 S49 hS49 => ?_; refine o_app hO (hS49.rdk hiA) rfl rfl rfl rfl (by simp; omega) (by simp; omega) rfl pkA fun a50 c50 S50 hS50 => ?_; refine oA (oZ hK13 (cR fun _ hK14 => ?_)); refine oM ?_; refine oS sC ?_; refine oS (s_gtr rfl rfl) ?_; refine oZ hK14 ?_
      refine c_if rfl (fun hbig => ?_) (fun hbig => ?_)
      ·refine cR fun _ hK15 => ?_; refine oA (oZ hK15 (c_ret ?_)); refine x_block_ret (x_then_ret (x_then_ret (x_block_ret (x_then_ret (?_)))))
       exact xR rfl rfl (⟨_, rfl⟩)
      ·refine c_skip (x_block (xZ hK7 (c_region (oM ?_)))); refine oS sD (oA (o_nil ?_)); exact xI (j + 1, ⟨a50, c50, _⟩, S50) ⟨by omega, by dsimp only; omega, hS50⟩
     ·refine oS gtF (oZ hK12 ?_); refine cFZ hK11 (cR fun _ hK16 => ?_); refine oM (oM (oM ?_)); refine oS (s_idx rfl rfl hsl (by omega)) ?_; refine oS sF ?_; refine oS (s_ld rfl ((RdK.old0 hw).ld j 8 hx rfl (by decide) (by omega))) ?_; refine o_bs (E := Ei) (xs := [x.kids]) (vs := [_]) rfl rfl rfl rfl rfl (by decide) (by decide) fun b49 S49 hS49 => ?_; refine o_app hO (hS49.rdk hiA) rfl rfl rfl rfl (by simp; omega) (by simp; omega) rfl pkA fun a50 c50 S50 hS50 => ?_; refine oA (oZ hK16 (cR fun _ hK17 => ?_)); refine oM ?_; refine oS sC ?_; refine oS (s_gtr rfl rfl) ?_; refine oZ hK17 ?_; refine c_if rfl (fun hbig => ?_) (fun hbig => ?_)
      ·refine cR fun _ hK18 => ?_; refine oA (oZ hK18 (c_ret ?_)); refine x_block_ret (x_then_ret (x_then_ret (x_block_ret (x_then_ret (?_)))))
       exact xR rfl rfl (⟨_, rfl⟩)
      ·refine c_skip (x_block (xZ hK7 (c_region (oM ?_)))); refine oS sD (oA (o_nil ?_)); exact xI (j + 1, ⟨a50, c50, _⟩, S50) ⟨by omega, by dsimp only; omega, hS50⟩
   ·refine oS gtF (oM ?_); refine oN ?_; refine oN ?_; refine oN ?_; refine oN ?_; refine oN ?_; refine oN ?_; refine oN ?_; refine oS sP (oZ hK10 ?_); refine cF ?_; refine c_exit ?_; refine x_then_exit (x_then_exit (x_block_exit (xZ hK8 (c_seq fun _ hK19 => ?_)))); refine cR fun _ hK20 => ?_; refine oM ?_; refine oS sC ?_
    by_cases hp1 : (q.xs.length : Int) > 0
    ·obtain ⟨u2, hu2⟩ : ∃ u, q.xs[q.xs.length - 1]? = some u := gE
     refine oS gtT (oZ hK20 ?_); refine cT (c_region (oM (oM ?_))); refine oS sC ?_; refine oS sU (oM (oM ?_)); refine oS sC ?_; refine oS sU ?_; refine oS (s_idx rfl rfl hOs (by omega)) ?_; refine oS (s_ld rfl ((hO.rdk hiA).ld (q.xs.length - 1) 0 hu2 rfl (by decide) (by omega))) ?_; refine oS (s_subw rfl rfl) ?_; refine oS (s_idx rfl rfl hOs (by omega)) ?_; refine o_stS1 (q.xs.length - 1) _ hO pkA rfl rfl rfl (by omega) (by omega) fun S' hS' => ?_
     have hO := hS'
     refine oZ hK19 (cR fun _ hK21 => ?_); refine oM (oM (oM ?_)); refine oS (s_idx rfl rfl hsl (by omega)) ?_; refine oS sF ?_; refine oS (s_ld rfl ((RdK.old0 hw).ld j 8 hx rfl (by decide) (by omega))) ?_; refine o_bs (E := Ei) (xs := [x.kids]) (vs := [_]) rfl rfl rfl rfl rfl (by decide) (by decide) fun b49 S49 hS49 => ?_; refine o_app hO (hS49.rdk hiA) rfl rfl rfl rfl (by simp; omega) (by simp; omega) rfl pkA fun a50 c50 S50 hS50 => ?_; refine oA (oZ hK21 (cR fun _ hK22 => ?_)); refine oM ?_; refine oS sC ?_; refine oS (s_gtr rfl rfl) ?_; refine oZ hK22 ?_
     refine c_if rfl (fun hbig => ?_) (fun hbig => ?_)
     ·refine cR fun _ hK23 => ?_; refine oA (oZ hK23 (c_ret ?_)); refine x_block_ret (x_then_ret (x_then_ret (x_block_ret (x_then_ret (?_)))))
      exact xR rfl rfl (⟨_, rfl⟩)
     ·refine c_skip (x_block (xZ hK7 (c_region (oM ?_)))); refine oS sD (oA (o_nil ?_)); exact xI (j + 1, ⟨a50, c50, _⟩, S50) ⟨by omega, by dsimp only; omega, hS50⟩
    ·refine oS gtF (oZ hK20 ?_); refine cFZ hK19 (cR fun _ hK24 => ?_); refine oM (oM (oM ?_)); refine oS (s_idx rfl rfl hsl (by omega)) ?_; refine oS sF ?_; refine oS (s_ld rfl ((RdK.old0 hw).ld j 8 hx rfl (by decide) (by omega))) ?_; refine o_bs (E := Ei) (xs := [x.kids]) (vs := [_]) rfl rfl rfl rfl rfl (by decide) (by decide) fun b49 S49 hS49 => ?_; refine o_app hO (hS49.rdk hiA) rfl rfl rfl rfl (by simp; omega) (by simp; omega) rfl pkA fun a50 c50 S50 hS50 => ?_; refine oA (oZ hK24 (cR fun _ hK25 => ?_)); refine oM ?_; refine oS sC ?_; refine oS (s_gtr rfl rfl) ?_; refine oZ hK25 ?_; refine c_if rfl (fun hbig => ?_) (fun hbig => ?_)
     ·refine cR fun _ hK26 => ?_; refine oA (oZ hK26 (c_ret ?_)); refine x_block_ret (x_then_ret (x_then_ret (x_block_ret (x_then_ret (?_)))))
      exact xR rfl rfl (⟨_, rfl⟩)
     ·refine c_skip (x_block (xZ hK7 (c_region (oM ?_)))); refine oS sD (oA (o_nil ?_)); exact xI (j + 1, ⟨a50, c50, _⟩, S50) ⟨by omega, by dsimp only; omega, hS50⟩
  ·refine oS lsF (oZ hK6 ?_); refine cF ?_; refine c_exit ?_; refine x_then_exit (x_then_exit (x_block_exit (xZ hK3 (cR fun _ hK27 => ?_)))); refine oA (oZ hK27 (c_ret ?_)); refine ?_; exact xR rfl rfl (⟨_, rfl⟩)
end Go.Proofs.YtloepfcndglmmaaDoor
namespace Go.Proofs.YtloepfcndglmmaaDoor
open Go Go.HL Go.Proofs Go.HL.Kl Go.HL.Kl.Mc Go.HL.Kl.Mc.AskE
theorem eqBytes_fn (a a2 : Option Addr) (c c2 : Nat) (xs ys : List UInt8) : HL.Fn Tryd.prog 30 [.slice a xs.length c, .slice a2 ys.length c2] (fun w => Rd Eb w (.slice a xs.length c) xs ∧ Rd Eb w (.slice a2 ys.length c2) ys) [] (fun v _ => v = .bool (decide (xs = ys))) := by
  refine fn_of Tryd.func30 rfl rfl rfl fun w0 hw => ?_
  obtain ⟨hx, hy⟩ := hw
  have hsx := hx.sl
  have hsy := hy.sl
  have hbx := hsx.le
  have hby := hsy.le
  refine cR fun _ hK1 => ?_; refine oA (oZ hK1 (c_seq fun _ hK2 => ?_)); refine cR fun _ hK3 => ?_; refine oM ?_; refine oS sC (oM ?_); refine oS sC ?_; refine oS (s_neq rfl rfl) ?_; refine oZ hK3 ?_; refine c_if rfl (fun hl => ?_) (fun hl => ?_)
  ·refine cR fun _ hK4 => ?_; refine oA (oZ hK4 (c_ret ?_)); refine x_then_ret (?_); exact xR rfl rfl ((congrArg Value.bool (decide_eq_false (by intro e; subst e; omega)).symm))
  ·refine c_skip (xZ hK2 (c_seq fun _ hK5 => ?_)); refine cR fun _ hK6 => ?_; refine oA (oZ hK6 (c_block ?_))
   -- not carried: 4
   refine c_loopB (fun (j : Nat) => j ≤ xs.length ∧ ∀ i, i < j → xs[i]? = ys[i]?) (fun (j : Nat) => [(5, .int .i64 j)]) [(0, _), (1, _)] (fun (j : Nat) => _) (fun (j : Nat) => xs.length - j) 0 ⟨by omega, fun i hi => by omega⟩ sbA sbA hzB ?_
   rintro j ⟨hj, hjt⟩
   refine c_seq fun _ hK7 => ?_; refine cR fun _ hK8 => ?_; refine oM (oM ?_); refine oS sC ?_; refine oS (s_lss rfl rfl) ?_; refine oZ hK8 ?_; refine c_if rfl (fun hlt => ?_) (fun hlt => ?_)
   ·obtain ⟨x, hxj⟩ : ∃ x, xs[j]? = some x := gE
    obtain ⟨y, hyj⟩ : ∃ y, ys[j]? = some y := gE
    refine c_skip (xZ hK7 (c_seq fun _ hK9 => ?_)); refine c_block (c_seq fun _ hK10 => ?_); refine c_drawE ([]) (fun i => false) ?_; refine e_tk 0 rfl (by exact HSub.nil) sM ?_; refine e_tk 1 rfl (by exact HSub.nil) sM ?_; refine e_tk 2 rfl (by exact HSub.nil) (s_idx rfl rfl hsx (by omega)) ?_; refine e_tk 3 rfl (by exact HSub.nil) (s_ld rfl ((RdK.old0 hx).ld j 0 hxj rfl (by decide) (by omega))) ?_; refine e_tk 4 rfl (by exact HSub.nil) sM ?_; refine e_tk 5 rfl (by exact HSub.nil) sM ?_; refine e_tk 6 rfl (by exact HSub.nil) (s_idx rfl rfl hsy (by omega)) ?_; refine e_tk 7 rfl (by exact HSub.nil) (s_ld rfl ((RdK.old0 hy).ld j 0 hyj rfl (by decide) (by omega))) ?_; refine e_tk 8 rfl (by exact HSub.nil) (step_cast (v' := .bool (!decide (x = y))) (s_neq rfl rfl) (congrArg Value.bool u8_ne)) ?_; refine eZ hK10 ?_; refine c_ifn rfl (fun hne => ?_) (fun hne => ?_)
    ·refine cR fun _ hK11 => ?_; refine oA (oZ hK11 (c_ret ?_)); refine x_block_ret (x_then_ret (x_then_ret (x_block_ret (x_then_ret (?_)))))
     exact xR rfl rfl ((congrArg Value.bool (decide_eq_false (by intro e; subst e; rw [hxj] at hyj; cases hyj; exact hne rfl)).symm))
    ·refine c_skip (x_block (xZ hK9 (c_region (oM ?_)))); refine oS sD (oA (o_nil ?_)); exact xI (j + 1) ⟨by omega, fun i hi => by rcases Nat.lt_or_ge i j with h | h; exact hjt i h; rw [show i = j by omega, hxj, hyj, hne]⟩
   ·refine c_exit ?_; refine x_then_exit (x_then_exit (x_block_exit (xZ hK5 (cR fun _ hK12 => ?_)))); refine oA (oZ hK12 (c_ret ?_)); refine ?_; exact xR rfl rfl ((congrArg Value.bool (decide_eq_true (ext_upto (by omega) fun i hi => hjt i (by omega))).symm))
end Go.Proofs.YtloepfcndglmmaaDoor
namespace Go.HL.Kl.Mc
open Go Go.HL Go.HL.Kl
def Rel (l : List Caps) (D : Prop) (b : Sp → List Sp) : Prop := (D ∧ ∃ c', l.head? = some c' ∧ ∀ z, b z = z :: c') ∨ (¬ D ∧ l = [])
theorem down_none {g : Nat → List Caps} {p : Nat} : ∀ {k : Nat}, (∀ e, p ≤ e → e < p + k → g e = []) → (down p k).flatMap g = []
  | 0, _ => rfl
  | k + 1, h => by rw [down, List.flatMap_cons, h (p + k) (by omega) (by omega), List.nil_append, down_none fun e a b => h e a (by omega)]
theorem ends_emp {g : Nat → List Caps} {p q : Nat} (h : ∀ e, p ≤ e → e ≤ q → g e = []) : (ends p q).flatMap g = [] := down_none fun e a b => h e a (by omega)
theorem down_head {g : Nat → List Caps} {p m : Nat} {c : Caps} : ∀ {k : Nat}, p ≤ m → m < p + k → (g m).head? = some c → (∀ e, m < e → e < p + k → g e = []) → ((down p k).flatMap g).head? = some c
  | 0, h1, h2, _, _ => by omega
  | k + 1, h1, h2, h3, h4 => by
    rw [down, List.flatMap_cons]
    by_cases e : m = p + k
    · subst e; rw [List.head?_append, h3]; rfl
    · rw [h4 (p + k) (by omega) (by omega), List.nil_append]
      exact down_head h1 (by omega) h3 fun e a b => h4 e a (by omega)
theorem ends_head {g : Nat → List Caps} {p q m : Nat} {c : Caps} (h1 : p ≤ m) (h2 : m ≤ q) (h3 : (g m).head? = some c) (h4 : ∀ e, m < e → e ≤ q → g e = []) : ((ends p q).flatMap g).head? = some c :=
  down_head h1 (by omega) h3 fun e a b => h4 e a (by omega)
theorem flat_head {l : List Caps} {f : Caps → List Caps} {c c' : Caps} (h : l.head? = some c) (h' : (f c).head? = some c') : (l.flatMap f).head? = some c' := by
  cases l with
  | nil => cases h
  | cons a l =>
    obtain rfl : a = c := Option.some.inj h
    rw [List.flatMap_cons, List.head?_append, h']; rfl
theorem flat_none {l : List Caps} {f : Caps → List Caps} (h : ∀ c, f c = []) : l.flatMap f = [] := by
  rw [show f = fun _ => [] from funext h]; simp
theorem Rel.no {l : List Caps} {D : Prop} {b : Sp → List Sp} (h : Rel l D b) (hD : ¬ D) : l = [] := h.elim (fun x => absurd x.1 hD) (fun x => x.2)
theorem Rel.yes {l : List Caps} {D : Prop} {b : Sp → List Sp} (h : Rel l D b) (hD : D) : ∃ c', l.head? = some c' ∧ ∀ z, b z = z :: c' := h.elim (fun x => x.2) (fun x => absurd hD x.1)
theorem RLf_bst {x : Nd} {D : Nat → Nat → Prop} {B : Nat → Nat → Caps → List Caps} {B' : Nat → Nat → List Sp → List Sp} {q : Nat} (hu : Up D) (hx : x.mx = -1 ∨ 0 ≤ x.mx) (hB : ∀ p e c, Rel (B p e c) (D p e) (fun z => B' p e (z :: c))) :
    ∀ (f r p : Nat) (c : Caps), fuelR x q r p ≤ f → (x.mx = -1 ∨ (r : Int) ≤ x.mx) → Rel (RLf x B q r p c) (RR x D r p q) (fun z => reps x D B' q f r p (z :: c))
  | 0, r, p, c, hf, _ => by unfold fuelR at hf; omega
  | f + 1, r, p, c, hf, hr => by
    have hnx : ∀ m c1, RLf x B q (r + 1) m c1 = RLf x B q (nxtR x r) m c1 := by
      intro m c1
      unfold nxtR
      split
      · by_cases h : r + 1 ≤ max x.mn.toNat 1
        · rw [Nat.min_eq_left h]
        · rw [Nat.min_eq_right (by omega)]
          exact RLf_cap (by omega) (q + 1 - m) _ _ _ _ (by omega) (by omega) (by omega)
      · rfl
    have hrr : ∀ m, RR x D (nxtR x r) m q ↔ RR x D (r + 1) m q := fun m => RR_nxt hx
    have hfu : ∀ e, p ≤ e → e ≤ q → ¬ (e = p ∧ x.mn ≤ (r : Int) ∧ 0 < r) → fuelR x q (nxtR x r) e ≤ f := by
      intro e h1 h2 h3
      unfold fuelR at hf ⊢
      unfold nxtR
      split <;> omega
    have hnr : (x.mx = -1 ∨ (r : Int) < x.mx) → (x.mx = -1 ∨ ((nxtR x r : Nat) : Int) ≤ x.mx) := by
      intro h
      rcases h with h | h
      · exact .inl h
      · right; unfold nxtR; rw [if_neg (by omega)]; omega
    have hno : ∀ e, p ≤ e → e ≤ q → (x.mx = -1 ∨ (r : Int) < x.mx) → ¬ RQ x D r p q e → (if e = p ∧ x.mn ≤ (r : Int) ∧ 0 < r then [] else (B p e c).flatMap (fun c1 => RLf x B q (r + 1) e c1)) = [] := by
      intro e h1 h2 h3 h4
      split
      · rfl
      · rename_i h5
        by_cases hD : D p e
        · refine flat_none fun c1 => ?_
          rw [hnx]
          exact (RLf_bst hu hx hB f (nxtR x r) e c1 (hfu e h1 h2 h5) (hnr h3)).no fun h => h4 ⟨h3, by omega, hD, (hrr e).1 h⟩
        · rw [(hB p e c).no hD]; rfl
    by_cases hR : RR x D r p q
    · refine .inl ⟨hR, ?_⟩
      by_cases hq : ∃ m, RQ x D r p q m
      · obtain ⟨m0, h0⟩ := hq
        obtain ⟨m, hm⟩ := grt_ex (Q := RQ x D r p q) (hu _ _ h0.2.2.1) (RR_up hu _ _ h0.2.2.2) h0
        have hm' := hm
        obtain ⟨g1, g2, ⟨hmx, hne, hD, hRR⟩, g4⟩ := hm'
        obtain ⟨c1, a1, b1⟩ := (hB p m c).yes hD
        obtain ⟨c2, a2, b2⟩ := (RLf_bst hu hx hB f (nxtR x r) m c1 (hfu m g1 g2 (by omega)) (hnr hmx)).yes ((hrr m).2 hRR)
        refine ⟨c2, ?_, fun z => by
          show reps x D B' q (f + 1) r p (z :: c) = _
          rw [reps_go hm]
          have e1 : B' p m (z :: c) = z :: c1 := b1 z
          rw [e1]
          exact b2 z⟩
        rw [RLf_eq, if_pos hmx, List.head?_append, ends_head (c := c2) g1 g2 (by
          rw [if_neg (by omega)]
          exact flat_head a1 (by rw [hnx]; exact a2)) fun e h1 h2 => hno e (by omega) h2 hmx (g4 e h1 h2)]
        rfl
      · rcases RR_step.1 hR with ⟨rfl, h1, h2⟩ | h
        · refine ⟨c, ?_, fun z => reps_end fun m a b h => hq ⟨m, h⟩⟩
          rw [RLf_eq]
          have e0 : (if x.mx = -1 ∨ (r : Int) < x.mx then (ends p p).flatMap (fun e => if e = p ∧ x.mn ≤ (r : Int) ∧ 0 < r then [] else (B p e c).flatMap (fun c1 => RLf x B p (r + 1) e c1)) else []) = [] := by
            split
            · rename_i h3
              exact ends_emp fun e a b => hno e a b h3 fun h => hq ⟨e, h⟩
            · rfl
          rw [e0, if_pos ⟨rfl, h1⟩]; rfl
        · exact absurd h hq
    · refine .inr ⟨hR, ?_⟩
      rw [RLf_eq]
      have e0 : (if x.mx = -1 ∨ (r : Int) < x.mx then (ends p q).flatMap (fun e => if e = p ∧ x.mn ≤ (r : Int) ∧ 0 < r then [] else (B p e c).flatMap (fun c1 => RLf x B q (r + 1) e c1)) else []) = [] := by
        split
        · rename_i h3
          exact ends_emp fun e a b => hno e a b h3 fun h => hR (RR_step.2 (.inr ⟨e, h⟩))
        · rfl
      rw [e0, if_neg fun h => hR (RR_step.2 (.inl ⟨h.1, h.2, hr⟩))]; rfl
def OkN (x : Nd) : Prop := (1 ≤ x.op ∧ x.op ≤ 7) ∧ (x.op = 7 → 1 ≤ x.n) ∧ (x.op = 6 → x.mx = -1 ∨ 0 ≤ x.mx)
theorem fgt_emp : ∀ (l : List Nd) (z : Sp) (c : Caps), (∀ x ∈ l, OkN x) → fgt l (z :: c) = z :: emp l c
  | [], z, c, _ => rfl
  | x :: l, z, c, h => by
    have e1 : fg1 (z :: c) x = z :: em1 c x := by
      unfold fg1 em1
      split
      · rename_i h7
        have := (h x List.mem_cons_self).2.1 h7
        rw [show x.n.toNat = (x.n.toNat - 1) + 1 by omega, List.set_cons_succ]
        rfl
      · rfl
    show fgt l (fg1 (z :: c) x) = z :: emp l (em1 c x)
    rw [e1]
    exact fgt_emp l z _ fun y hy => h y (List.mem_cons_of_mem _ hy)
theorem Rel.ite {P : Prop} [Decidable P] {D : Prop} {c : Caps} {b : Sp → List Sp} (h : D ↔ P) (hb : ∀ z, b z = z :: c) : Rel (if P then [c] else []) D b := by
  by_cases p : P
  · exact .inl ⟨h.2 p, c, by rw [if_pos p]; rfl, hb⟩
  · exact .inr ⟨fun d => p (h.1 d), by rw [if_neg p]⟩
theorem one_bst {w : List UInt8} {x : Nd} {ks : F} (hk : ∀ md i j c, Rel (LF w ks md i j c) (der w ks md i j) (fun z => bst w ks md i j (z :: c))) (hx : OkN x) (hg : ∀ y ∈ ks.flat, OkN y) (i j : Nat) (c : Caps) :
    Rel (LF1 w x ks i j c) (der1 w x ks i j) (fun z => bst1 w x ks i j (z :: c)) := by
  obtain ⟨⟨h1, h2⟩, h7, h6⟩ := hx
  by_cases e1 : x.op = 1
  · rw [LF1_1 e1]
    exact Rel.ite (der1_1 e1) fun z => bst1_0 (by omega)
  by_cases e2 : x.op = 2
  · rw [LF1_2 e2]
    exact Rel.ite (der1_2 e2) fun z => bst1_0 (by omega)
  by_cases e3 : x.op = 3
  · rw [LF1_3 e3]
    exact Rel.ite ((der1_3 e3).trans ⟨fun h => ⟨h.1, by omega⟩, fun h => ⟨h.1, by omega⟩⟩) fun z => bst1_0 (by omega)
  by_cases e4 : x.op = 4
  · rw [LF1_4 e4, show der1 w x ks i j = der w ks false i j from propext (der1_4 (.inl e4)), show (fun z => bst1 w x ks i j (z :: c)) = fun z => bst w ks false i j (z :: c) from funext fun z => bst1_4 e4]
    exact hk _ _ _ _
  by_cases e5 : x.op = 5
  · rw [LF1_5 e5, show der1 w x ks i j = der w ks true i j from propext (der1_5 e5), show (fun z => bst1 w x ks i j (z :: c)) = fun z => bst w ks true i j (z :: c) from funext fun z => bst1_5 e5]
    exact hk _ _ _ _
  by_cases e6 : x.op = 6
  · rw [LF1_6 e6, show der1 w x ks i j = RR x (der w ks false) 0 i j from propext (der1_6 e6), show (fun z => bst1 w x ks i j (z :: c)) = _ from funext fun z => bst1_6 e6]
    refine RLf_bst (der_up ks false) (h6 e6) (fun p e c => ?_) _ _ _ _ (by unfold fuelR; omega) (by have := h6 e6; omega)
    have := hk false p e (emp ks.flat c)
    rw [show (fun z => bst w ks false p e (fgt ks.flat (z :: c))) = fun z => bst w ks false p e (z :: emp ks.flat c) from funext fun z => by rw [fgt_emp _ _ _ hg]]
    exact this
  · have e7 : x.op = 7 := by omega
    rw [LF1_7 e7, show der1 w x ks i j = der w ks false i j from propext (der1_4 (.inr e7))]
    rcases hk false i j (emp ks.flat c) with ⟨hd, c', a, b⟩ | ⟨hd, h⟩
    · refine .inl ⟨hd, c'.set (x.n.toNat - 1) ⟨i, j⟩, by rw [List.head?_map, a]; rfl, fun z => ?_⟩
      show bst1 w x ks i j (z :: c) = _
      rw [bst1_7 e7, fgt_emp _ _ _ hg]
      have e8 : bst w ks false i j (z :: emp ks.flat c) = z :: c' := b z
      have := h7 e7
      rw [e8, show x.n.toNat = (x.n.toNat - 1) + 1 by omega, List.set_cons_succ]
      rfl
    · exact .inr ⟨hd, by rw [h]; rfl⟩
theorem LF_bst {w : List UInt8} : ∀ (f : F) (md : Bool) (i j : Nat) (c : Caps), (∀ x ∈ f.flat, OkN x) → Rel (LF w f md i j c) (der w f md i j) (fun z => bst w f md i j (z :: c))
  | .nil, true, i, j, c, _ => .inr ⟨fun h => der_nil'.1 h, LF_nilT⟩
  | .nil, false, i, j, c, _ => by rw [LF_nilF]; exact Rel.ite der_nil fun z => bst_nil
  | .nd x ks r, md, i, j, c, h => by
    have hk := fun md i j c => LF_bst (w := w) ks md i j c fun y hy => h y (List.mem_cons_of_mem _ (List.mem_append_left _ hy))
    have hr := fun md i j c => LF_bst (w := w) r md i j c fun y hy => h y (List.mem_cons_of_mem _ (List.mem_append_right _ hy))
    have h1 := one_bst hk (h x List.mem_cons_self) fun y hy => h y (List.mem_cons_of_mem _ (List.mem_append_left _ hy))
    cases md with
    | true =>
      rw [LF_alt]
      by_cases hd : der1 w x ks i j
      · obtain ⟨c', a, b⟩ := (h1 i j c).yes hd
        exact .inl ⟨der_alt.2 (.inl hd), c', by rw [List.head?_append, a]; rfl, fun z => by
          show bst w (.nd x ks r) true i j (z :: c) = _
          rw [bst_alt, if_pos (dQ_t hd)]; exact b z⟩
      · rw [(h1 i j c).no hd, List.nil_append]
        rcases hr true i j c with ⟨hd', c', a, b⟩ | ⟨hd', e⟩
        · exact .inl ⟨der_alt.2 (.inr hd'), c', a, fun z => by
            show bst w (.nd x ks r) true i j (z :: c) = _
            rw [bst_alt, dQ_f hd, if_neg (by simp)]; exact b z⟩
        · exact .inr ⟨fun h => (der_alt.1 h).elim hd hd', e⟩
    | false =>
      rw [LF_cat]
      have hno : ∀ e, ¬ (der1 w x ks i e ∧ der w r false e j) → ((LF1 w x ks i e c).flatMap fun c1 => LF w r false e j c1) = [] := fun e hn => by
        by_cases hd : der1 w x ks i e
        · exact flat_none fun c1 => (hr false e j c1).no fun h => hn ⟨hd, h⟩
        · rw [(h1 i e c).no hd]; rfl
      by_cases hd : der w (.nd x ks r) false i j
      · obtain ⟨t, a, b⟩ := der_cat.1 hd
        obtain ⟨m, hm⟩ := grt_ex (Q := fun n => der1 w x ks i n ∧ der w r false n j) (der1_up _ _ a) (der_up r false _ _ b) ⟨a, b⟩
        have hm' := hm
        obtain ⟨g1, g2, ⟨d1, d2⟩, g4⟩ := hm'
        obtain ⟨c1, a1, b1⟩ := (h1 i m c).yes d1
        obtain ⟨c2, a2, b2⟩ := (hr false m j c1).yes d2
        refine .inl ⟨hd, c2, ends_head g1 g2 (flat_head a1 a2) fun e x y => hno e (g4 e x y), fun z => ?_⟩
        show bst w (.nd x ks r) false i j (z :: c) = _
        rw [bst_cat hm]
        have e1 : bst1 w x ks i m (z :: c) = z :: c1 := b1 z
        rw [e1]; exact b2 z
      · exact .inr ⟨hd, ends_emp fun e _ _ => hno e fun h => hd (der_cat.2 ⟨e, h.1, h.2⟩)⟩
theorem RL_len {n : Nat} {x : Nd} {B : Nat → Nat → Caps → List Caps} {q : Nat} (hB : ∀ p e c, c.length = n → ∀ d ∈ B p e c, d.length = n) : ∀ (f had p : Nat) (c : Caps), c.length = n → ∀ d ∈ RL x B q f had p c, d.length = n
  | 0, _, _, _, _, d, hd => by cases hd
  | f + 1, had, p, c, h, d, hd => by
    rw [RL] at hd
    rcases List.mem_append.1 hd with hd | hd
    · split at hd
      · obtain ⟨e, he, hd⟩ := List.mem_flatMap.1 hd
        split at hd
        · cases hd
        · obtain ⟨c1, h1, hd⟩ := List.mem_flatMap.1 hd
          exact RL_len hB f _ _ c1 (hB p e c h c1 h1) d hd
      · cases hd
    · split at hd
      · rw [List.mem_singleton.1 hd]; exact h
      · cases hd
theorem LF_len {w : List UInt8} {n : Nat} : ∀ (f : F) (md : Bool) (i j : Nat) (c : Caps), c.length = n → ∀ d ∈ LF w f md i j c, d.length = n
  | .nil, true, i, j, c, h, d, hd => by rw [LF_nilT] at hd; cases hd
  | .nil, false, i, j, c, h, d, hd => by
    rw [LF_nilF] at hd
    split at hd
    · rw [List.mem_singleton.1 hd]; exact h
    · cases hd
  | .nd x ks r, md, i, j, c, h, d, hd => by
    have one : ∀ i j c, c.length = n → ∀ d ∈ LF1 w x ks i j c, d.length = n := by
      intro i j c h d hd
      rw [LF1_def] at hd
      split at hd
      · split at hd
        · rw [List.mem_singleton.1 hd]; exact h
        · cases hd
      split at hd
      · split at hd
        · rw [List.mem_singleton.1 hd]; exact h
        · cases hd
      split at hd
      · split at hd
        · rw [List.mem_singleton.1 hd]; exact h
        · cases hd
      split at hd
      · split at hd
        · rw [List.mem_singleton.1 hd]; exact h
        · cases hd
      split at hd
      · exact LF_len ks true i j c h d hd
      split at hd
      · exact RL_len (fun p e c h1 => LF_len ks false p e _ ((emp_len _ _).trans h1)) _ _ _ _ h d hd
      split at hd
      · obtain ⟨d', h1, rfl⟩ := List.mem_map.1 hd
        rw [List.length_set]
        exact LF_len ks false i j _ ((emp_len _ _).trans h) d' h1
      · exact LF_len ks false i j c h d hd
    cases md with
    | true =>
      rw [LF_alt] at hd
      rcases List.mem_append.1 hd with hd | hd
      · exact one i j c h d hd
      · exact LF_len r true i j c h d hd
    | false =>
      rw [LF_cat] at hd
      obtain ⟨e, he, hd⟩ := List.mem_flatMap.1 hd
      obtain ⟨c1, h1, hd⟩ := List.mem_flatMap.1 hd
      exact LF_len r false e j c1 (one i e c h c1 h1) d hd
def grpN : Nd := ⟨7, 0, 1, 0, 0, 1⟩
def rf1N : Nd := ⟨8, 0, 1, 0, 0, 0⟩
def up7 (x : Nd) : Nd := if x.op = 7 then { x with n := IntKind.i64.wrap (x.n + 1) } else x
def dblN (re : List Nd) : List Nd := catN :: grpN :: (re.map up7 ++ [rf1N])
theorem dblN_len (re : List Nd) : (dblN re).length = re.length + 3 := by simp [dblN]
theorem up7_op (x : Nd) : (up7 x).op = x.op := by unfold up7; split <;> rfl
theorem dblN_rng {re : List Nd} (h : ∀ x ∈ re, -128 ≤ x.op ∧ x.op < 128) : ∀ x ∈ dblN re, -128 ≤ x.op ∧ x.op < 128 := fun x hx => by
  rcases List.mem_cons.1 hx with rfl | hx
  · decide
  rcases List.mem_cons.1 hx with rfl | hx
  · decide
  rcases List.mem_append.1 hx with hx | hx
  · obtain ⟨y, hy, rfl⟩ := List.mem_map.1 hx
    rw [up7_op]; exact h y hy
  · rw [List.mem_singleton.1 hx]; decide
theorem May.nd {re : List Nd} {w : List UInt8} {x : Nd} {ks : F} (hM : May re w x ks) {y : Nd} (hr : y ∈ re) : ndOk y = true ∧ OkN y ∧ y.n ≤ gcn re + 1 := by
  obtain ⟨k, hk⟩ := List.mem_iff_getElem?.1 hr
  obtain ⟨y', js, r, e, hp⟩ := part_at _ 0 _ hM.hs.part k (Nat.zero_le _) (List.getElem?_eq_some_iff.1 hk).1
  have h1 := hp.head.1
  rw [hk] at h1
  cases h1
  have hok : ndOk y = true := hp.wf.1
  have hop := (flds_iff.1 (by simp only [ndOk, Bool.and_eq_true] at hok; exact hok.1)).1
  have h8 : ¬ y.op = 8 := fun h8 => by
    have := refs_yes hM.sh hr h8
    rw [hM.rf] at this; cases this
  refine ⟨hok, ⟨⟨hop.1, by omega⟩, fun h7 => ?_, fun h6 => ?_⟩, ?_⟩
  · have := grp_n hM.sh hk h7; omega
  · simp only [ndOk, flds, Bool.and_eq_true, h6, if_true, decide_eq_true_eq] at hok
    have := hok.1.2
    omega
  · by_cases h7 : y.op = 7
    · have := grp_n hM.sh hk h7; omega
    · have hf := flds_iff.1 (by simp only [ndOk, Bool.and_eq_true] at hok; exact hok.1)
      rcases hf.2.2.1 with e | e | e
      · exact absurd e h7
      · exact absurd e h8
      · omega
theorem May.up7 {re : List Nd} {w : List UInt8} {x : Nd} {ks : F} (hM : May re w x ks) : re.map up7 = re.map (mvN 1) := by
  refine List.map_congr_left fun y hy => ?_
  obtain ⟨hok, ⟨⟨ho, ho'⟩, h7, _⟩, _⟩ := hM.nd hy
  unfold Mc.up7 mvN
  by_cases e : y.op = 7
  · rw [if_pos e, if_pos (by have := h7 e; omega)]; rfl
  · have hf := flds_iff.1 (by simp only [ndOk, Bool.and_eq_true] at hok; exact hok.1)
    have : y.n = 0 := by
      rcases hf.2.2.1 with a | a | a
      · exact absurd a e
      · omega
      · exact a
    rw [if_neg e, if_neg (by omega)]
theorem May.mv {re : List Nd} {w : List UInt8} {x : Nd} {ks : F} (hM : May re w x ks) : ∀ y ∈ (F.nd (mvN 1 x) (ks.mv 1) .nil).flat, OkN y := fun y hy => by
  have e : (F.nd (mvN 1 x) (ks.mv 1) .nil).flat = re.map (mvN 1) := by
    rw [hM.hs.flat, List.map_cons, ← F.mv_flat]; simp [F.flat]
  rw [e] at hy
  obtain ⟨z, hz, rfl⟩ := List.mem_map.1 hy
  obtain ⟨hok, ⟨ho, h7, h6⟩, hn⟩ := hM.nd hz
  obtain ⟨e1, e2, e3, e4, e5⟩ := mvN_op 1 z
  have hlen := hM.hs.len
  have hwt := hM.hs.weight
  have hgl : gcn re ≤ re.length := List.countP_le_length
  refine ⟨by rw [e1]; exact ho, fun h => ?_, fun h => by rw [e4]; exact h6 (by rw [← e1]; exact h)⟩
  have hz1 := h7 (by rw [← e1]; exact h)
  unfold mvN
  rw [if_pos (by omega)]
  show 1 ≤ IntKind.i64.wrap (z.n + (1 : Nat))
  obtain ⟨m, hm⟩ : ∃ m : Nat, z.n = m := ⟨z.n.toNat, by omega⟩
  rw [hm, ← Int.natCast_add, wrap_i64n (by omega)]
  omega
theorem Shp.dbl {re : List Nd} {w : List UInt8} {x y : Nd} {ks js : F} (hM : May re w x ks) (h : Shp (dblN re) y js) : y = catN ∧ js = .nd grpN (.nd (mvN 1 x) (ks.mv 1) .nil) (.nd rf1N .nil .nil) := by
  have hbw := F.mv_wf 1 hM.hs.wf
  have hwf : (F.nd catN (.nd grpN (.nd (mvN 1 x) (ks.mv 1) .nil) (.nd rf1N .nil .nil)) .nil).wf := ⟨cat_ok, by rfl, ⟨by decide +kernel, by rfl, hbw, ⟨by decide +kernel, by rfl, trivial, trivial⟩⟩, trivial⟩
  have := flat_inj (.nd y js .nil) (.nd catN (.nd grpN (.nd (mvN 1 x) (ks.mv 1) .nil) (.nd rf1N .nil .nil)) .nil) [] [] h.wf hwf rfl (by
    have e := h.flat
    have eb := congrArg (List.map (mvN 1)) hM.hs.flat
    simp only [List.map_cons, ← F.mv_flat] at eb
    simp only [F.flat, List.append_nil]
    rw [← e, dblN, hM.up7, eb])
  simpa using this.1
def Tw (w : List UInt8) (x : Nd) (ks : F) (i t : Nat) : Prop := i ≤ t ∧ 2 * t ≤ w.length + i ∧ der1 w x ks i t ∧ (w.drop i).take (t - i) = (w.drop t).take (t - i)
section
variable {re : List Nd} {w : List UInt8} {x : Nd} {ks : F} {i j : Nat} {c0 : Caps}
theorem dbl_mem (hM : May re w x ks) (hc : 0 < c0.length) (hj : j ≤ w.length) {c : Caps} (h : c ∈ LF1 w catN (F.nd grpN (F.nd (mvN 1 x) (F.mv 1 ks) F.nil) (F.nd rf1N F.nil F.nil)) i j c0) : ∃ e, Tw w x ks i e ∧ i + j = 2 * e ∧ c[0]? = some ⟨(i : Nat), (e : Nat)⟩ := by
  rw [LF1_4 rfl, LF_cat] at h
  obtain ⟨e, he, h⟩ := List.mem_flatMap.1 h
  have he := mem_ends.1 he
  obtain ⟨c1, h1, h2⟩ := List.mem_flatMap.1 h
  rw [LF1_7 rfl] at h1
  obtain ⟨d, hd, rfl⟩ := List.mem_map.1 h1
  have hdl := LF_len (n := c0.length) _ _ _ _ _ (emp_len _ _) d hd
  have hder : der1 w x ks i e := Classical.byContradiction fun hn => by
    have := (LF_bst (w := w) (.nd (mvN 1 x) (ks.mv 1) .nil) false i e (emp (F.nd (mvN 1 x) (ks.mv 1) .nil).flat c0) hM.mv).no (by
      intro hh
      exact hn (by rw [← der1_mv w 1 x ks]; exact hh))
    rw [this] at hd; cases hd
  rw [LF_one, if_pos he.2, LF1_8 rfl] at h2
  have hg : (d.set (grpN.n.toNat - 1) ⟨(i : Nat), (e : Nat)⟩).getD (rf1N.n.toNat - 1) noS = ⟨(i : Nat), (e : Nat)⟩ := by
    show (d.set 0 _).getD 0 noS = _
    rw [List.getD_eq_getElem?_getD, List.getElem?_set_self (by omega)]; rfl
  rw [hg] at h2
  split at h2
  · rename_i hs
    rw [List.mem_singleton.1 h2]
    unfold sameAt at hs
    rw [Bool.and_eq_true, decide_eq_true_eq, decide_eq_true_eq] at hs
    obtain ⟨⟨_, hl⟩, ht⟩ := hs
    have hl' : e - i = j - e := by dsimp only at hl; omega
    rw [← hl'] at ht
    exact ⟨e, ⟨he.1, by omega, hder, ht⟩, by omega, by show (d.set 0 _)[0]? = _; exact List.getElem?_set_self (by omega)⟩
  · cases h2
theorem dbl_has (hM : May re w x ks) (hc : 0 < c0.length) {t : Nat} (h : Tw w x ks i t) : LF1 w catN (F.nd grpN (F.nd (mvN 1 x) (F.mv 1 ks) F.nil) (F.nd rf1N F.nil F.nil)) i (2 * t - i) c0 ≠ [] := by
  obtain ⟨h1, h2, h3, h4⟩ := h
  obtain ⟨c', hc', _⟩ := (LF_bst (w := w) (.nd (mvN 1 x) (ks.mv 1) .nil) false i t (emp (F.nd (mvN 1 x) (ks.mv 1) .nil).flat c0) hM.mv).yes (by
    have : der1 w (mvN 1 x) (ks.mv 1) i t := by rw [der1_mv]; exact h3
    exact this)
  have hm := List.mem_of_mem_head? hc'
  have hdl := LF_len (n := c0.length) _ _ _ _ _ (emp_len _ _) c' hm
  refine List.ne_nil_of_mem (a := c'.set 0 ⟨(i : Nat), (t : Nat)⟩) ?_
  rw [LF1_4 rfl, LF_cat]
  refine List.mem_flatMap.2 ⟨t, mem_ends.2 ⟨h1, by omega⟩, List.mem_flatMap.2 ⟨c'.set 0 ⟨(i : Nat), (t : Nat)⟩, ?_, ?_⟩⟩
  · rw [LF1_7 rfl]
    exact List.mem_map.2 ⟨c', hm, rfl⟩
  · rw [LF_one, if_pos (by omega), LF1_8 rfl]
    have hg : (c'.set 0 ⟨(i : Nat), (t : Nat)⟩).getD (rf1N.n.toNat - 1) noS = ⟨(i : Nat), (t : Nat)⟩ := by
      show (c'.set 0 _).getD 0 noS = _
      rw [List.getD_eq_getElem?_getD, List.getElem?_set_self (by omega)]; rfl
    rw [hg, if_pos ?_]
    · exact List.mem_singleton.2 rfl
    · unfold sameAt
      rw [Bool.and_eq_true, decide_eq_true_eq, decide_eq_true_eq]
      refine ⟨⟨by simp, by dsimp only; omega⟩, ?_⟩
      rw [show 2 * t - i - t = t - i by omega]
      exact h4
end
end Go.HL.Kl.Mc
namespace Go.Proofs.YtloepfcndglmmaaDoor
open Go Go.HL Go.Proofs Go.HL.Kl Go.HL.Kl.Mc Go.HL.Kl.Mc.AskE
theorem En_cat : En catN = [.int .i8 4, .int .u64 0, .int .u64 0, .int .u64 0, .int .u64 0, .int .i64 0, .int .i64 0, .int .i64 0, .int .i64 2] := by
  show _ :: (Ec 0#256 ++ _) = _
  rw [Ec_zero]; rfl
theorem En_grp : En grpN = [.int .i8 7, .int .u64 0, .int .u64 0, .int .u64 0, .int .u64 0, .int .i64 1, .int .i64 0, .int .i64 0, .int .i64 1] := by
  show _ :: (Ec 0#256 ++ _) = _
  rw [Ec_zero]; rfl
theorem En_rf1 : En rf1N = [.int .i8 8, .int .u64 0, .int .u64 0, .int .u64 0, .int .u64 0, .int .i64 1, .int .i64 0, .int .i64 0, .int .i64 0] := by
  show _ :: (Ec 0#256 ++ _) = _
  rw [Ec_zero]; rfl
theorem up7_y {y : Nd} (h : y.op = 7) : up7 y = { y with n := IntKind.i64.wrap (y.n + 1) } := by rw [up7, if_pos h]
theorem up7_n {y : Nd} (h : ¬ y.op = 7) : up7 y = y := by rw [up7, if_neg h]
set_option maxHeartbeats 1000000 in
theorem doubled_fn (ra : Option Addr) (rc : Nat) (re : List Nd) (hre : ∀ x ∈ re, -128 ≤ x.op ∧ x.op < 128) (hn : re.length ≤ 2147483647) : HL.Fn Tryd.prog 35 [.slice ra re.length rc] (fun W => Rd En W (.slice ra re.length rc) re) [] (fun v S' => ∃ a' c', v = .slice a' (dblN re).length c' ∧ OwnS En 9 80 (.slice a' (dblN re).length c') (dblN re) S') := by
  refine fn_of Tryd.func35 rfl rfl rfl fun w0 hw => ?_
  have hsl := hw.sl
  have hbl := hsl.le
  refine cR fun _ hK1 => ?_; refine oA (oZ hK1 (cR fun _ hK2 => ?_)); refine oS (step_cast (v' := .agg (En catN).toArray) (s_build (cs := [_, _, _, _, _, _, _, _, _]) (vs := [_, _]) rfl rfl (.cons rfl rfl rfl rfl rfl (.cons rfl rfl rfl rfl rfl (.nil)))) (by rw [En_cat])) ?_; refine oS (step_cast (v' := .agg (En grpN).toArray) (s_build (cs := [_, _, _, _, _, _, _, _, _]) (vs := [_, _, _]) rfl rfl (.cons rfl rfl rfl rfl rfl (.cons rfl rfl rfl rfl rfl (.cons rfl rfl rfl rfl rfl (.nil))))) (by rw [En_grp])) ?_; refine o_bs (E := En) (xs := [catN, grpN]) (vs := [_, _]) rfl rfl rfl rfl rfl (by decide) (by decide) fun b8 S8 hS8 => ?_
  have hS8 : OwnS En 9 80 (.slice (some ⟨b8, 0, none⟩) (catN :: grpN :: (re.take 0).map up7).length 2) (catN :: grpN :: (re.take 0).map up7) S8 := hS8
  refine oA (oZ hK2 (c_seq fun _ hK3 => ?_)); refine cR fun _ hK4 => ?_; refine oA (oZ hK4 (c_block ?_)); refine c_loop4 (fun (q : Nat) (a3 : Option Addr) (c3 : Nat) (S3 : Hp) => q ≤ re.length ∧ OwnS En 9 80 (.slice a3 (catN :: grpN :: (re.take q).map up7).length c3) (catN :: grpN :: (re.take q).map up7) S3) (fun (q : Nat) (a3 : Option Addr) (c3 : Nat) (S3 : Hp) => [(4, .int .i64 q), (3, .slice a3 (catN :: grpN :: (re.take q).map up7).length c3)]) [(0, _), (2, _)] (fun (q : Nat) (a3 : Option Addr) (c3 : Nat) (S3 : Hp) => S3) (fun (q : Nat) (a3 : Option Addr) (c3 : Nat) (S3 : Hp) => re.length - q) 0 (some ⟨b8, 0, none⟩) 2 S8 ⟨Nat.zero_le _, hS8⟩ sbA sbA hzB ?_
  rintro q a3 c3 S3 ⟨hq, hO⟩
  refine c_seq fun _ hK5 => ?_; refine cR fun _ hK6 => ?_; refine oM (oM ?_); refine oS sC ?_
  by_cases hql : (q : Int) < re.length
  ·obtain ⟨y, hy⟩ : ∃ y, re[q]? = some y := gE
   have hyr := hre y (List.mem_of_getElem? hy)
   refine oS lsT (oZ hK6 ?_); refine cTZ hK5 (c_seq fun _ hK7 => ?_); refine c_block (cR fun _ hK8 => ?_); refine oM (oM ?_); refine oS (s_idx rfl rfl hsl (by omega)) ?_; refine oS (s_ldB rfl ((RdK.old0 hw).lds q hy rfl) (by rfl)) ?_; refine o_alloc (l := En zN) (by rw [En_zero]; rfl) rfl fun b5 => ?_; refine o_stW rfl rfl upA lnA lnA onA ?_; refine oZ hK8 (c_seq fun _ hK9 => ?_); refine cR fun _ hK10 => ?_; refine oS sF ?_; refine oS sL ?_; refine oS (s_convid rfl (by simp [IntKind.wrap, IntKind.signed, IntKind.bits]; omega)) ?_
   by_cases h7 : y.op = 7
   ·have hup := up7_y h7
    refine oS (eqT (h := h7)) ?_; refine oZ hK10 ?_; refine cT (c_region ?_); refine oS sF ?_; refine oS sL ?_; refine oS (s_addw rfl rfl) ?_; refine oS sF ?_; refine o_store rfl rfl rfl upA ltA rfl ?_; refine oZ hK9 (c_region (oM ?_)); refine oS (step_cast (v' := .agg (En (up7 y)).toArray) (s_ldB rfl (RdPK.cels (.own meA)) lnA) (by rw [hup] <;> rfl)) ?_; refine o_bs (E := En) (xs := [up7 y]) (vs := [_]) rfl rfl rfl rfl rfl (by decide) (by decide) fun b29 S29 hS29 => ?_; refine o_app hO (hS29.rdk hiA) rfl rfl rfl rfl (by simp; omega) (by simp; omega) rfl pkA fun a30 c30 S30 hS30 => ?_
    have e30 : (catN :: grpN :: (re.take q).map up7) ++ [up7 y] = catN :: grpN :: (re.take (q + 1)).map up7 := by rw [List.take_add_one, hy]; simp
    rw [e30] at hS30 ⊢
    refine oA (o_nil (x_block (xZ hK7 (c_region (oM ?_))))); refine oS sD (oA (o_nil ?_)); exact xI (q + 1, a30, c30, S30) ⟨by dsimp only; omega, hS30⟩
   ·have hup := up7_n h7
    refine oS (eqF (h := h7)) ?_; refine oZ hK10 ?_; refine cFZ hK9 (c_region (oM ?_)); refine oS (step_cast (v' := .agg (En (up7 y)).toArray) (s_ldB rfl (RdPK.cels (.own meA)) lnA) (by rw [hup] <;> rfl)) ?_; refine o_bs (E := En) (xs := [up7 y]) (vs := [_]) rfl rfl rfl rfl rfl (by decide) (by decide) fun b29 S29 hS29 => ?_; refine o_app hO (hS29.rdk hiA) rfl rfl rfl rfl (by simp; omega) (by simp; omega) rfl pkA fun a30 c30 S30 hS30 => ?_
    have e30 : (catN :: grpN :: (re.take q).map up7) ++ [up7 y] = catN :: grpN :: (re.take (q + 1)).map up7 := by rw [List.take_add_one, hy]; simp
    rw [e30] at hS30 ⊢
    refine oA (o_nil (x_block (xZ hK7 (c_region (oM ?_))))); refine oS sD (oA (o_nil ?_)); exact xI (q + 1, a30, c30, S30) ⟨by dsimp only; omega, hS30⟩
  ·obtain rfl : q = re.length := by omega
   refine oS lsF (oZ hK6 ?_); refine cF ?_; refine c_exit ?_; refine x_then_exit (x_then_exit (x_block_exit (xZ hK3 (cR fun _ hK11 => ?_)))); refine oM ?_; refine oS (step_cast (v' := .agg (En rf1N).toArray) (s_build (cs := [_, _, _, _, _, _, _, _, _]) (vs := [_, _]) rfl rfl (.cons rfl rfl rfl rfl rfl (.cons rfl rfl rfl rfl rfl (.nil)))) (by rw [En_rf1])) ?_; refine o_bs (E := En) (xs := [rf1N]) (vs := [_]) rfl rfl rfl rfl rfl (by decide) (by decide) fun b33 S33 hS33 => ?_; refine o_app hO (hS33.rdk hiA) rfl rfl rfl rfl (by simp; omega) (by simp; omega) rfl pkA fun a34 c34 S34 hS34 => ?_
   have e34 : (catN :: grpN :: (re.take re.length).map up7) ++ [rf1N] = dblN re := by rw [List.take_length]; rfl
   rw [e34] at hS34 ⊢
   refine oA (oZ hK11 (c_ret ?_)); refine ?_; refine x_sub (Sub.refl _) (H' := S34) hzB ?_; exact xR rfl rfl (⟨_, _, rfl, hS34⟩)
end Go.Proofs.YtloepfcndglmmaaDoor
