/- Part of the proofs over this seat: see the text that holds the theorem. Conditions: each theorem bears its own. -/
import Derived.Test.YtihbhlgognpmmaaNW9
import Derived.Test.YtihbhlgognpmmaaMT13
namespace Go.Proofs.Ytihbhlgognpmmaa
open Go Go.HL Go.Proofs Go.HL.Kl Go.HL.Kl.Mc
theorem nd_fn : ∀ (n : Nat) (x : Nd) (ks : F), ks.size < n → NdC Try.prog x ks := by
  intro n
  induction n with
  | zero => intro x ks h; omega
  | succ n ih => exact fun x ks h bre bends bm bput bnode be ra rc re l Se ma mc m Sm i i1 h1 h2 h3 h4 h5 h6 h7 => nd_step x ks (fun y js hs => ih y js (by omega)) bre bends bm bput bnode be ra rc re l Se h1 h2 h3 h4 ma mc m Sm i i1 h5 h6 h7

set_option maxHeartbeats 1000000 in
theorem compile_fn (ra : Option Addr) (rc : Nat) (re : List Nd) (hre : ∀ x ∈ re, -128 ≤ x.op ∧ x.op < 128) : HL.Fn Try.prog 10 [.slice ra re.length rc] (fun w => Rd En w (.slice ra re.length rc) re) [] (CompP re) := by
  refine fn_of Try.func10 rfl rfl rfl fun w0 hw => ?_
  have hsl := hw.sl
  have hbl := hsl.le
  refine c_seq fun _ hK1 => ?_
  refine c_region ?_
  refine o_box rfl rfl rfl fun b1 => ?_
  refine o_step rfl (s_assign rfl) ?_
  refine o_step rfl (s_assign rfl) ?_
  refine o_nil ?_
  refine x_then (hK1 _ _ ?_)
  refine c_seq fun _ hK2 => ?_
  refine c_seq fun _ hK3 => ?_
  refine c_region ?_
  refine o_step rfl (s_ld rfl (.own meA rfl)) ?_
  refine o_callP (shaped_fn ra rc re hre) rfl rfl rfl (fun w st => (RdK.old0 hw).out w st) (fun v9 hv9 => ?_)
  subst hv9
  cases hs : shapedB re
  ·
   refine o_step rfl (s_not rfl) ?_
   refine o_nil ?_
   refine x_then (hK3 _ _ ?_)
   refine c_true rfl ?_
   refine c_seq fun _ hK4 => ?_
   refine c_region ?_
   refine o_step rfl (s_assign rfl) ?_
   refine o_step rfl (s_assign rfl) ?_
   refine o_nil ?_
   refine x_then (hK4 _ _ ?_)
   refine c_ret ?_
   refine x_then_ret (?_)
   exact x_ret rfl (.tmp rfl (.tmp rfl (.nil))) ((.shape hs rfl))
  ·
   obtain ⟨_, x, ks, hsh⟩ := shapedB_iff.1 hs
   have hpt := hsh.part
   have hlT := hsh.lenT
   have hrl := hsh.len
   refine o_step rfl (s_not rfl) ?_
   refine o_nil ?_
   refine x_then (hK3 _ _ ?_)
   refine c_false rfl ?_
   refine c_skip ?_
   refine x_then (hK2 _ _ ?_)
   refine c_seq fun _ hK5 => ?_
   refine c_seq fun _ hK6 => ?_
   refine c_region ?_
   refine o_step rfl (s_ld rfl (.own meA rfl)) ?_
   refine o_callP (refs_fn ra rc re hre) rfl rfl rfl (fun w st => (RdK.old0 hw).out w st) (fun v12 hv12 => ?_)
   subst hv12
   cases hr : refsB re
   ·
    refine o_nil ?_
    refine x_then (hK6 _ _ ?_)
    refine c_false rfl ?_
    refine c_skip ?_
    refine x_then (hK5 _ _ ?_)
    refine c_seq fun _ hK7 => ?_
    refine c_region ?_
    refine o_step rfl (s_ld rfl (.own meA rfl)) ?_
    refine o_call (behinds_fn ra rc re hre x ks hpt (by omega)) rfl rfl rfl (by exact .nil) (fun w st => (RdK.old0 hw).out w st) (fun v14 S14 ⟨be, l, hv14, hL, hE⟩ => ?_)
    subst hv14
    refine o_alloc rfl rfl fun b4 => ?_
    refine o_store rfl rfl rfl upA ltA rfl ?_
    refine o_nil ?_
    refine x_then (hK7 _ _ ?_)
    refine c_seq fun _ hK8 => ?_
    refine c_region ?_
    refine o_alloc rfl rfl fun b5 => ?_
    refine o_nil ?_
    refine x_then (hK8 _ _ ?_)
    refine c_seq fun _ hK9 => ?_
    refine c_region ?_
    refine o_step rfl (s_func (us := []) (vs := [_]) rfl rfl) ?_
    refine o_alloc rfl rfl fun b6 => ?_
    refine o_store rfl rfl rfl upA ltA rfl ?_
    refine o_nil ?_
    refine x_then (hK9 _ _ ?_)
    refine c_seq fun _ hK10 => ?_
    refine c_region ?_
    refine o_alloc rfl rfl fun b7 => ?_
    refine o_nil ?_
    refine x_then (hK10 _ _ ?_)
    refine c_seq fun _ hK11 => ?_
    refine c_region ?_
    refine o_step rfl (s_func (us := []) (vs := [_, _, _, _, _]) rfl rfl) ?_
    refine o_store rfl rfl rfl upA ltA rfl ?_
    refine o_nil ?_
    refine x_then (hK11 _ _ ?_)
    refine c_seq fun _ hK12 => ?_
    refine c_region ?_
    refine o_step rfl (s_ld rfl (.own meA rfl)) ?_
    refine o_callC (us := []) (vs := [_]) (cs := [.pointer (some ⟨b1, 0, none⟩), .pointer (some ⟨b6, 0, none⟩), .pointer (some ⟨b5, 0, none⟩), .pointer (some ⟨b7, 0, none⟩), .pointer (some ⟨b4, 0, none⟩)]) (nd_fn (ks.size + 1) x ks (by omega) b1 b4 b5 b6 b7 be ra rc re l S14 none 0 [] [] 0 re.length hre hE hL (by omega) hpt .nil (by simp; omega)) rfl rfl rfl ((Pick.takeC pkA (Pick.takeA pkA (Pick.takeC pkA (Pick.takeC pkA (Pick.takeC pkA (Pick.takeC pkA pkA))))))) (fun w st => ⟨(RdK.old0 hw).out w st, St.apart_M st (by exact hiB) hw (Apart.nil) (by decide)⟩) (fun v18 S18 ⟨a18, c18, Sn18, hv18, hn18⟩ => ?_)
    subst hv18
    have hl18 : ([] ++ codeOne x ks ([] : List In).length).length = lenT x ks := by rw [List.nil_append, codeOne_len]
    refine o_nil ?_
    refine x_then (hK12 _ _ ?_)
    refine c_seq fun _ hK13 => ?_
    refine c_region ?_
    refine o_step rfl (s_ld rfl (.own meA rfl)) ?_
    refine o_step rfl (step_cast (v' := .agg (Ein (⟨6, 0, 0, 0⟩ : In)).toArray) (s_build (cs := [_, _, _, _, _, _, _]) (vs := [_]) rfl rfl (.cons rfl rfl rfl rfl rfl (.nil))) (by rw [Ein_zero]; try rfl)) ?_
    refine o_callC (us := []) (vs := [_]) (cs := [.pointer (some ⟨b5, 0, none⟩)]) (put_fn ⟨6, 0, 0, 0⟩ b5 a18 c18 ([] ++ codeOne x ks ([] : List In).length) Sn18 hn18 (by omega)) rfl rfl rfl ((Pick.takeC pkA pkA)) (fun _ _ => trivial) (fun v21 S21 ⟨hw21, a21, c21, Sn21, hv21, hn21⟩ => ?_)
    subst hw21
    subst hv21
    have hma : ([] ++ codeOne x ks ([] : List In).length) ++ [(⟨6, 0, 0, 0⟩ : In)] = mach (.nd x ks .nil) := by rw [mach_one]; rfl
    rw [hma] at hn21
    rw [hma]
    have hn21s := hn21.sl
    obtain ⟨_, c21x, hcx, hcl, _⟩ := hn21s.out
    have hcx2 : c21x = c21 := by cases hcx; rfl
    refine o_nil ?_
    refine x_then (hK13 _ _ ?_)
    refine c_seq fun _ hK14 => ?_
    refine c_region ?_
    refine o_step rfl (s_ld rfl (.own meA rfl)) ?_
    refine o_step rfl (s_ld rfl (.own meA rfl)) ?_
    refine o_step rfl (s_len rfl) ?_
    refine o_step rfl (s_ld rfl (.own meA rfl)) ?_
    refine o_step rfl (s_len rfl) ?_
    refine o_step rfl (step_cast (v' := .slice a21 (mach (.nd x ks .nil)).length (mach (.nd x ks .nil)).length) (s_slice3 rfl rfl rfl (by omega)) (by rw [Int.toNat_natCast])) ?_
    refine o_step rfl (s_assign rfl) ?_
    refine o_step rfl (s_assign rfl) ?_
    refine o_nil ?_
    refine x_then (hK14 _ _ ?_)
    refine c_ret ?_
    refine ?_
    refine x_sub (Sub.refl _) (H' := Sn21) hzB ?_
    exact x_ret rfl (.tmp rfl (.tmp rfl (.nil))) ((.ok hs hr hsh rfl (RdS.cap hn21)))
   ·
    refine o_nil ?_
    refine x_then (hK6 _ _ ?_)
    refine c_true rfl ?_
    refine c_seq fun _ hK15 => ?_
    refine c_region ?_
    refine o_step rfl (s_assign rfl) ?_
    refine o_step rfl (s_assign rfl) ?_
    refine o_nil ?_
    refine x_then (hK15 _ _ ?_)
    refine c_ret ?_
    refine x_then_ret (?_)
    exact x_ret rfl (.tmp rfl (.tmp rfl (.nil))) ((.ref hs hr rfl))
end Go.Proofs.Ytihbhlgognpmmaa
