/- Part of the proofs over this seat: see the text that holds the theorem. Conditions: each theorem bears its own. -/
import Derived.Test.YtmpeokbongnniaaYC4Z
namespace Go.Proofs.Ytmpeokbongnniaa
open Go Go.HL Go.Proofs Go.HL.Kl Go.HL.Kl.Mc Go.HL.Kl.Mc.AskE
theorem OwnL.slv {α : Type} {E : α → List Value} {k T : Nat} [Enc E k] {sls : List (Sl α)} {xss : List (List α)} {S : Hp} (h : OwnL E k T sls xss S) : ∀ {j : Nat} {s : Sl α} {xs : List α}, sls[j]? = some s → xss[j]? = some xs → IsSl s.v xs.length ∧ RdS E s.v xs S := by
  induction h with
  | nil => intro j s xs hs; simp at hs
  | @cons s xs sls xss S R h hs ih =>
    intro j t ys ht hy
    cases j with
    | zero => simp at ht hy; subst ht; subst hy; exact ⟨h.sl, h.rds.mono HIn.appL⟩
    | succ j =>
      obtain ⟨h1, h2⟩ := ih (j := j) (s := t) (xs := ys) (by simpa using ht) (by simpa using hy)
      exact ⟨h1, h2.mono HIn.appR⟩
theorem rdk_drop {κ : Cx} {H : Hp} {a : Option Addr} {c : Nat} {xs : List UInt8} (h : RdK Eb κ H (.slice a xs.length c) xs) (lo : Nat) (h1 : lo ≤ xs.length) : RdK Eb κ H (.slice (midA a c lo 1) (xs.drop lo).length (c - lo)) (xs.drop lo) := by
  have h2 := h.mid lo xs.length h1 (Nat.le_refl _)
  rwa [List.take_of_length_le (by simp)] at h2
theorem ChG.inv {n a : Nat} {L : List Sp} {xs : List (List Sp)} (h : ChG n a (L :: xs)) : ∃ p q, GoodL n a L p q ∧ ChG n q xs := by
  cases h with
  | cons hg hr => exact ⟨_, _, hg, hr⟩
theorem chs_all {first : Int} {all : Bool} {xs : List (List Sp)} (h : all = false → xs.length ≤ (first - 1).toNat) : chs first all xs = xs.drop (first - 1).toNat := by
  unfold chs
  split
  · rfl
  · rename_i ha
    rw [List.drop_of_length_le (h (by simpa using ha))]; rfl
theorem chs_one {first : Int} {p xs : List (List Sp)} {x : List Sp} (hp : p <+: xs) (h : p.drop (first - 1).toNat = [x]) : chs first false xs = [x] := by
  obtain ⟨t, rfl⟩ := hp
  have hl := congrArg List.length h
  rw [List.length_drop, List.length_singleton] at hl
  unfold chs
  rw [if_neg (by decide), List.drop_append_of_le_length (by omega), h]; rfl
set_option maxHeartbeats 4000000 in
theorem doR_fn {σ : Type} (w : List UInt8) (hwl : w.length ≤ 1000000) (vF : Value) (HS : σ → Hp → Prop) (stp : σ → Nat → Bool → List Sp → σ → Prop) (preF : Hp → World → Prop) (hdet : Det stp) (hF : FindC 81 w vF HS stp preF) (hst : PreS preF) (hv1 : vF.oneCell' = true) (xa : Option Addr) (xc : Nat) (s0 : σ) (S0 : Hp) (hs0 : HS s0 S0) (xs : List (List Sp)) (hM0 : MtS stp w.length s0 0 (-1) xs) (pa : Option Addr) (pc : Nat) (ps : List Pc) (first : Int) (all : Bool) (most : Int) (hf : -9223372036854775808 ≤ first ∧ first ≤ 9223372036854775807) (hsz : (doF w (ps.map Pc.abs) 0 (chs first all xs)).length ≤ 4294967296) : HL.Fn Try.prog 11 [vF, .slice pa ps.length pc, .slice xa w.length xc, .int .i64 first, .bool all, .int .i64 most] (fun W => preF S0 W ∧ (Rd Eb W (.slice xa w.length xc) w ∧ Apart (keys S0) (.slice xa w.length xc)) ∧ (Rd Epc W (.slice pa ps.length pc) ps ∧ Apart (keys S0) (.slice pa ps.length pc)) ∧ ∀ p ∈ ps, Rd Eb W p.t.v p.t.xs ∧ Apart (keys S0) p.t.v) S0 (fun v S' => ∃ s2 S2, HS s2 S2 ∧ ((most < (doF w (ps.map Pc.abs) 0 (chs first all xs)).length ∧ v = .tuple #[.slice none 0 0, .int .i64 0, .int .i64 62] ∧ S' = S2) ∨ (((doF w (ps.map Pc.abs) 0 (chs first all xs)).length : Int) ≤ most ∧ ∃ a c So, v = .tuple #[.slice a (doF w (ps.map Pc.abs) 0 (chs first all xs)).length c, .int .i64 ((chs first all xs).length : Nat), .int .i64 0] ∧ OwnS Eb 1 5 (.slice a (doF w (ps.map Pc.abs) 0 (chs first all xs)).length c) (doF w (ps.map Pc.abs) 0 (chs first all xs)) So ∧ S' = So ++ S2))) := by
  refine fn_ofM Try.func11 rfl rfl rfl fun w0 hw => ?_
  obtain ⟨hp0, ⟨hx0, ha0⟩, ⟨hpp, hpa⟩, hpt⟩ := hw
  have hcl := hM0.ch.len
  have hxl : xs.length ≤ 1000002 := by split at hcl <;> omega
  have hsx := hx0.sl
  have hcx := hsx.cap
  have hcg := (hM0.ch.g).chs first all
  have hpb : ∀ p ∈ ps, p.t.xs.length ≤ 140737488355328 := fun p hp => (hpt p hp).1.sl.le
  refine c_seqD fun _ hK1 => ?_; refine c_region ?_; refine o_box rfl rfl rfl fun b9 => ?_; refine o_box rfl rfl rfl fun b10 => ?_; refine o_step rfl (s_assign rfl) ?_; refine o_step rfl (s_assign rfl) ?_; refine o_step rfl (s_assign rfl) ?_; refine o_nil ?_; refine x_then (hK1 _ _ _ ?_); refine c_seqD fun _ hK2 => ?_; refine c_region ?_; refine o_alloc rfl rfl fun b15 => ?_; refine o_nil ?_; refine x_then (hK2 _ _ _ ?_); refine c_seqD fun _ hK3 => ?_; refine c_region ?_; refine o_alloc rfl rfl fun b16 => ?_; refine o_store rfl rfl rfl upA ltA rfl ?_; refine o_nil ?_; refine x_then (hK3 _ _ _ ?_); refine c_seqD fun _ hK4 => ?_; refine c_seqD fun _ hK5 => ?_; refine c_region ?_; refine o_step rfl (s_move rfl) ?_; refine o_step rfl (s_move rfl) ?_; refine o_call (matchesCR_fn vF hv1 xa w.length xc) rfl rfl rfl (by exact .nil) (fun _ _ => trivial) (fun v24 S24 ⟨b2, b3, hv24, hS24⟩ => ?_); subst hv24
  subst hS24; refine o_nil ?_; refine x_then (hK5 _ _ _ ?_); refine c_block ?_; refine c_rangeV (α := List Sp) (B0 := (b16, .cells [.int .i64 (0 : Nat)].toArray 3 (0, 0)) :: (b15, .cells [.slice (⟨none, 0, []⟩ : Sl (Sl Sp)).a (⟨none, 0, []⟩ : Sl (Sl Sp)).xs.length (⟨none, 0, []⟩ : Sl (Sl Sp)).c].toArray 29 (0, 0)) :: (b9, .cells [.int .i64 first].toArray 3 (0, 0)) :: (b10, .cells [.bool all].toArray 4 (0, 0)) :: []) (fun p B => ∃ (q : Sl (Sl Sp)) (Sh Sc : Hp), B = (b16, .cells [.int .i64 (p.length : Nat)].toArray 3 (0, 0)) :: (b15, .cells [.slice q.a q.xs.length q.c].toArray 29 (0, 0)) :: (b9, .cells [.int .i64 first].toArray 3 (0, 0)) :: (b10, .cells [.bool all].toArray 4 (0, 0)) :: (Sh ++ Sc) ∧ OwnS Esl 1 48 (.slice q.a q.xs.length q.c) q.xs Sh ∧ q.xs.map Sl.xs = p.drop (first - 1).toNat ∧ OwnL Esp 2 51 q.xs (p.drop (first - 1).toNat) Sc ∧ (all = false → p.length ≤ (first - 1).toNat)) (fun c p B => c = .exit 0 ∧ all = false ∧ ∃ (q : Sl (Sl Sp)) (Sh Sc : Hp) (y : List Sp), B = (b16, .cells [.int .i64 (p.length : Nat)].toArray 3 (0, 0)) :: (b15, .cells [.slice q.a q.xs.length q.c].toArray 29 (0, 0)) :: (b9, .cells [.int .i64 first].toArray 3 (0, 0)) :: (b10, .cells [.bool all].toArray 4 (0, 0)) :: (Sh ++ Sc) ∧ OwnS Esl 1 48 (.slice q.a q.xs.length q.c) q.xs Sh ∧ q.xs.map Sl.xs = [y] ∧ OwnL Esp 2 51 q.xs [y] Sc ∧ p.drop (first - 1).toNat = [y]) rfl (matchesR_it w hwl vF HS stp preF hdet hF hst hv1 xa xc s0 S0 hs0 xs hM0 b3 b2) ((Pick.takeC pkA (Pick.takeC pkA (Pick.takeA pkA (Pick.takeC pkA (Pick.takeC pkA (Pick.takeC pkA pkA))))))) ((fun w H1 S1 st hs => ⟨hst hp0 st (hin_sub hs), (RdK.old hx0 ha0).out _ st, St.apart_M st (hin_sub hs) hx0 ha0 (by decide)⟩)) ⟨⟨none, 0, []⟩, [], [], rfl, .nil, by simp, by simpa using OwnL.nil, fun _ => Nat.zero_le _⟩ (by kernel_rfl) (fun x vs Sx ⟨_, _, h, _⟩ => by rw [h]; rfl) (by kernel_rfl) ?_ ?_ ?_
  ·
   rintro l r p x B W er1 er2 ⟨q, Sh, Sc, rfl, hO, hqx, hL, hal⟩ hx vs Sx ⟨va, vc, rfl, hSx⟩ post hy hn
   have hpl := hx.length_le
   have hql := congrArg List.length hqx
   rw [List.length_append, List.length_singleton] at hpl
   rw [List.length_map, List.length_drop] at hql
   have hpx1 : (p ++ [x]).length = p.length + 1 := by simp
   refine c_region ?_; refine o_step rfl (s_assign rfl) ?_; refine o_nil ?_; refine x_then (x_begin upA (by kernel_rfl) ?_); refine c_block ?_; refine c_seqD fun _ hK6 => ?_; refine c_seqD fun _ hK7 => ?_; refine c_region ?_; refine o_step rfl (s_ld rfl (.own meA rfl)) ?_; refine o_step rfl (step_cast (v' := .int .i64 ((p ++ [x]).length : Nat)) (s_add rfl rfl (by omega)) (by simp)) ?_; refine o_store rfl rfl rfl upA ltA rfl ?_; refine o_nil ?_; refine x_then (hK7 _ _ _ ?_); refine c_seqD fun _ hK8 => ?_; refine c_region ?_; refine o_step rfl (s_ld rfl (.own meA rfl)) ?_; refine o_step rfl (s_ld rfl (.own meA rfl)) ?_
   by_cases hlf : ((p.length : Int) + 1) < first
   ·
    refine o_step rfl (step_cast (v' := .bool true) (s_lss rfl rfl) (by rw [decide_eq_true (by omega)])) ?_; refine o_nil ?_; refine x_then (hK8 _ _ _ ?_); refine c_true rfl ?_; refine c_exit ?_; refine x_then_exit ?_; refine x_block_exit ?_; refine x_sub (Sub.refl _) (H' := (l, .loop (recAt r .busy none)) :: (b16, .cells [.int .i64 ((p ++ [x]).length : Nat)].toArray 3 (0, 0)) :: (b15, .cells [.slice q.a q.xs.length q.c].toArray 29 (0, 0)) :: (b9, .cells [.int .i64 first].toArray 3 (0, 0)) :: (b10, .cells [.bool all].toArray 4 (0, 0)) :: (Sh ++ Sc)) hzB ?_; exact x_rnormal upA (hy _ ⟨q, Sh, Sc, rfl, hO, by rw [hqx, List.drop_of_length_le (by omega), List.drop_of_length_le (by simp; omega)], by rw [List.drop_of_length_le (by omega)] at hL; rw [List.drop_of_length_le (by simp; omega)]; exact hL, fun _ => by simp; omega⟩)
   ·
    have hdx : (p ++ [x]).drop (first - 1).toNat = p.drop (first - 1).toNat ++ [x] := List.drop_append_of_le_length (by omega)
    refine o_step rfl (step_cast (v' := .bool false) (s_lss rfl rfl) (by rw [decide_eq_false (by omega)])) ?_; refine o_nil ?_; refine x_then (hK8 _ _ _ ?_); refine c_false rfl ?_; refine c_skip ?_; refine x_then (hK6 _ _ _ ?_); refine c_seqD fun _ hK9 => ?_; refine c_region ?_; refine o_step rfl (s_ld rfl (.own meA rfl)) ?_; refine o_step rfl (s_move rfl) ?_; refine o_bs (E := Esl) (xs := [(⟨va, vc, x⟩ : Sl Sp)]) (vs := [_]) rfl rfl rfl rfl rfl (by decide) (by decide) fun b33 S33 hS33 => ?_; refine o_app hO (hS33.rdk hiA) rfl rfl rfl rfl (by simp only [List.length_singleton]; omega) (by simp only [List.length_singleton]; omega) rfl pkA fun a34 c34 S34 hS34 => ?_; refine o_store rfl rfl rfl upA ltA rfl ?_; refine o_nil ?_; refine x_then (hK9 _ _ _ ?_); refine c_seqD fun _ hK10 => ?_; refine c_region ?_
    by_cases hall : all = true
    ·
     refine o_step rfl (step_cast (v' := .bool true) (s_ld rfl (.own meA rfl)) (by rw [hall])) ?_; refine o_step rfl (s_not rfl) ?_; refine o_nil ?_; refine x_then (hK10 _ _ _ ?_); refine c_false rfl ?_; refine c_skip ?_; refine x_block ?_; refine x_sub (Sub.refl _) (H' := (l, .loop (recAt r .busy none)) :: (b16, .cells [.int .i64 ((p ++ [x]).length : Nat)].toArray 3 (0, 0)) :: (b15, .cells [.slice (⟨a34, c34, q.xs ++ [⟨va, vc, x⟩]⟩ : Sl (Sl Sp)).a (⟨a34, c34, q.xs ++ [⟨va, vc, x⟩]⟩ : Sl (Sl Sp)).xs.length (⟨a34, c34, q.xs ++ [⟨va, vc, x⟩]⟩ : Sl (Sl Sp)).c].toArray 29 (0, 0)) :: (b9, .cells [.int .i64 first].toArray 3 (0, 0)) :: (b10, .cells [.bool all].toArray 4 (0, 0)) :: (S34 ++ (Sc ++ Sx))) hzB ?_; exact x_rnormal upA (hy _ ⟨⟨a34, c34, q.xs ++ [⟨va, vc, x⟩]⟩, S34, Sc ++ Sx, rfl, hS34, by rw [hdx, List.map_append, hqx]; rfl, by rw [hdx]; exact hL.snoc (s := ⟨va, vc, x⟩) hSx, fun h => absurd h (by rw [hall]; decide)⟩)
    ·
     replace hall : all = false := by simpa using hall
     refine o_step rfl (step_cast (v' := .bool false) (s_ld rfl (.own meA rfl)) (by rw [hall])) ?_; refine o_step rfl (s_not rfl) ?_; refine o_nil ?_; refine x_then (hK10 _ _ _ ?_); refine c_true rfl ?_; refine c_exit ?_; refine x_block_pass rfl ?_; refine x_sub (Sub.refl _) (H' := (l, .loop (recAt r .busy none)) :: (b16, .cells [.int .i64 ((p ++ [x]).length : Nat)].toArray 3 (0, 0)) :: (b15, .cells [.slice (⟨a34, c34, q.xs ++ [⟨va, vc, x⟩]⟩ : Sl (Sl Sp)).a (⟨a34, c34, q.xs ++ [⟨va, vc, x⟩]⟩ : Sl (Sl Sp)).xs.length (⟨a34, c34, q.xs ++ [⟨va, vc, x⟩]⟩ : Sl (Sl Sp)).c].toArray 29 (0, 0)) :: (b9, .cells [.int .i64 first].toArray 3 (0, 0)) :: (b10, .cells [.bool all].toArray 4 (0, 0)) :: (S34 ++ (Sc ++ Sx))) hzB ?_
     have hp0k : p.drop (first - 1).toNat = [] := List.drop_of_length_le (hal hall)
     rw [hp0k] at hqx hL hdx
     exact x_rexit upA (hn _ _ ⟨rfl, hall, ⟨a34, c34, q.xs ++ [⟨va, vc, x⟩]⟩, S34, Sc ++ Sx, x, rfl, hS34, by rw [List.map_append, hqx]; rfl, hL.snoc (s := ⟨va, vc, x⟩) hSx, hdx⟩)
  ·
   rintro D0 S0r B0 ⟨s2, S2, rfl, hs2⟩ ⟨q, Sh, Sc, rfl, hO, hqx, hL, hal⟩
   have hch := chs_all (first := first) (all := all) hal
   rw [← hch] at hqx hL
   have hnc : (chs first all xs).length = q.xs.length := by rw [← hqx, List.length_map]
   have hqb : q.xs.length ≤ 1000002 := by rw [← hnc, hch, List.length_drop]; omega
   rw [← hqx] at hL
   refine x_block ?_; refine x_then (hK4 _ _ _ ?_); refine c_seqD fun _ hK11 => ?_; refine c_region ?_; refine o_step rfl (s_assign rfl) ?_; refine o_nil ?_; refine x_then (hK11 _ _ _ ?_); refine c_seqD fun _ hK12 => ?_; refine c_region ?_; refine o_step rfl (s_assign rfl) ?_; refine o_nil ?_; refine x_then (hK12 _ _ _ ?_); refine c_seqD fun _ hK13 => ?_; refine c_seqD fun _ hK14 => ?_; refine c_region ?_; refine o_step rfl (s_ld rfl (.own meA rfl)) ?_; refine o_step rfl (s_len rfl) ?_; refine o_step rfl (s_move rfl) ?_; refine o_nil ?_; refine x_then (hK14 _ _ _ ?_); refine c_block ?_
   -- not carried: 12 13 14
   refine c_loop6 (fun (i : Nat) (at_ : Nat) (a2 : Option Addr) (c2 : Nat) (o : List UInt8) (So : Hp) => i ≤ q.xs.length ∧ o ++ doF w (ps.map Pc.abs) at_ ((q.xs.map Sl.xs).drop i) = (doF w (ps.map Pc.abs) 0 (chs first all xs)) ∧ ChG w.length at_ ((q.xs.map Sl.xs).drop i) ∧ at_ ≤ w.length ∧ OwnS Eb 1 5 (.slice a2 o.length c2) o So) (fun (i : Nat) (at_ : Nat) (a2 : Option Addr) (c2 : Nat) (o : List UInt8) (So : Hp) => [(39, .int .i64 i), (19, .int .i64 at_), (18, .slice a2 o.length c2)]) [(1, _), (2, _), (5, _), (15, _), (37, _), (38, _)] (fun (i : Nat) (at_ : Nat) (a2 : Option Addr) (c2 : Nat) (o : List UInt8) (So : Hp) => (D0, .deferred (some [])) :: (b15, .cells [.slice q.a q.xs.length q.c].toArray 29 (0, 0)) :: (Sh ++ (Sc ++ (So ++ S2)))) (fun (i : Nat) (at_ : Nat) (a2 : Option Addr) (c2 : Nat) (o : List UInt8) (So : Hp) => q.xs.length - i) 0 0 none 0 [] [] ⟨Nat.zero_le _, by rw [hqx]; rfl, by rw [hqx]; exact hcg, Nat.zero_le _, .nil⟩ sbA sbA hzB ?_
   rintro i at_ a2 c2 o So ⟨hi, hdo, hcg2, hat, hSo⟩
   refine c_seqD fun _ hK15 => ?_; refine c_region ?_; refine o_step rfl (s_lss rfl rfl) ?_; refine o_nil ?_; refine x_then (hK15 _ _ _ ?_); refine c_seqD fun _ hK16 => ?_; refine c_if rfl (fun hlt => ?_) (fun hlt => ?_)
   ·
    obtain ⟨sL, hsL⟩ : ∃ s, q.xs[i]? = some s := ⟨_, List.getElem?_eq_getElem (by omega)⟩
    have hcx2 : (q.xs.map Sl.xs)[i]? = some sL.xs := by rw [List.getElem?_map, hsL]; rfl
    obtain ⟨hLs, hLr⟩ := OwnL.slv hL hsL hcx2
    have hdr : (q.xs.map Sl.xs).drop i = sL.xs :: (q.xs.map Sl.xs).drop (i + 1) := by rw [List.drop_eq_getElem?_toList_append, hcx2]; rfl
    rw [hdr] at hdo hcg2
    obtain ⟨p2, q2, hg, hcr⟩ := ChG.inv hcg2
    have hg1 := hg.ge
    have hg2 := hg.le
    have hg3 := hg.ln
    have hLp : 0 < sL.xs.length := (List.getElem?_eq_some_iff.1 hg.hd).1
    have hdl := congrArg List.length hdo
    rw [doF_cons hg, List.length_append, List.length_append, List.length_append] at hdl
    have hmin : min (longS sL.xs (ps.map Pc.abs)) 1099511627776 = (expd w (ps.map Pc.abs) sL.xs).length := by rw [← expd_len hg.all]; omega
    have hl1 : (o ++ (w.drop at_).take (p2 - at_)).length = o.length + ((w.drop at_).take (p2 - at_)).length := List.length_append
    have hl2 : (o ++ (w.drop at_).take (p2 - at_) ++ expd w (ps.map Pc.abs) sL.xs).length = o.length + ((w.drop at_).take (p2 - at_)).length + (expd w (ps.map Pc.abs) sL.xs).length := by rw [List.length_append, List.length_append]
    refine c_skip ?_; refine x_then (hK16 _ _ _ ?_); refine c_seqD fun _ hK17 => ?_; refine c_block ?_; refine c_seqD fun _ hK18 => ?_; refine c_region ?_; refine o_step rfl (s_idx rfl rfl hO.sl (by omega)) ?_; refine o_step rfl (s_ld rfl ((hO.rdk hiA).ld i 0 hsL rfl (by decide) (by omega))) ?_; refine o_step rfl (s_assign rfl) ?_; refine o_nil ?_; refine x_then (hK18 _ _ _ ?_); refine c_seqD fun _ hK19 => ?_; refine c_seqD fun _ hK20 => ?_; refine c_region ?_; refine o_step rfl (s_move rfl) ?_; refine o_step rfl (s_move rfl) ?_; refine o_step rfl (s_move rfl) ?_; refine o_step rfl (s_move rfl) ?_; refine o_step rfl (s_idx rfl rfl hLs (by omega)) ?_; refine o_step rfl (s_field rfl rfl (by decide)) ?_; refine o_step rfl (s_ld rfl ((hLr.rdk hiA).ld 0 0 hg.hd rfl (by decide) (by simp only [soff, Sl.v]; rfl))) ?_; refine o_step rfl (step_cast (v' := .slice (midA xa xc at_ 1) ((w.drop at_).take (p2 - at_)).length (xc - at_)) (s_slice_mid rfl rfl rfl (by show (0 : Int) ≤ at_ ∧ (at_ : Int) ≤ (p2 : Int) ∧ (p2 : Int) ≤ xc; omega)) (by show Value.slice (midA xa xc ((at_ : Int)).toNat 1) (((p2 : Int)).toNat - ((at_ : Int)).toNat) (xc - ((at_ : Int)).toNat) = _; simp only [Int.toNat_natCast, List.length_take, List.length_drop]; congr 1; omega)) ?_
    refine o_app hSo ((RdK.old hx0 ha0).mid at_ p2 (by omega) (by omega)) rfl rfl rfl rfl (by omega) (by omega) rfl pkA fun a51 c51 S51 hS51 => ?_; refine o_step rfl (s_assign rfl) ?_; refine o_nil ?_; refine x_then (hK20 _ _ _ ?_); refine c_seqD fun _ hK21 => ?_; refine c_region ?_; refine o_step rfl (s_move rfl) ?_; refine o_step rfl (s_len rfl) ?_; refine o_step rfl (s_move rfl) ?_; refine o_step rfl (s_move rfl) ?_; refine o_callP (fLong_fn pa pc ps sL.a sL.c sL.xs w.length hwl hg.all hpb) rfl rfl rfl (fun _ st => ⟨(RdK.old hpp hpa).out _ st, (hLr.rdk hiA).out _ st⟩) (fun v56 hv56 => ?_)
    rw [hmin] at hv56
    subst hv56; refine o_step rfl (s_add rfl rfl (by omega)) ?_; refine o_step rfl (s_move rfl) ?_
    by_cases hbig : most < ((o ++ (w.drop at_).take (p2 - at_)).length : Int) + ((expd w (ps.map Pc.abs) sL.xs).length : Int)
    ·
     refine o_step rfl (step_cast (v' := .bool true) (s_gtr rfl rfl) (by rw [decide_eq_true (by omega)])) ?_; refine o_nil ?_; refine x_then (hK21 _ _ _ ?_); refine c_true rfl ?_; refine c_seqD fun _ hK22 => ?_; refine c_region ?_; refine o_step rfl (s_assign rfl) ?_; refine o_step rfl (s_assign rfl) ?_; refine o_step rfl (s_assign rfl) ?_; refine o_nil ?_; refine x_then (hK22 _ _ _ ?_); refine c_ret ?_; refine x_then_ret (x_block_ret (x_then_ret (x_then_ret (x_block_ret (x_then_ret (?_))))))
     refine x_sub (Sub.refl _) (H' := (D0, .deferred (some [])) :: S2) hzB ?_; exact x_retM (.cons (.nil)) pkA rfl (.tmp rfl (.tmp rfl (.tmp rfl (.nil)))) (⟨s2, S2, hs2, .inl ⟨by omega, rfl, rfl⟩⟩)
    ·
     refine o_step rfl (step_cast (v' := .bool false) (s_gtr rfl rfl) (by rw [decide_eq_false (by omega)])) ?_; refine o_nil ?_; refine x_then (hK21 _ _ _ ?_); refine c_false rfl ?_; refine c_skip ?_; refine x_then (hK19 _ _ _ ?_); refine c_seqD fun _ hK23 => ?_; refine c_region ?_; refine o_step rfl (s_move rfl) ?_; refine o_step rfl (s_move rfl) ?_; refine o_step rfl (s_move rfl) ?_; refine o_step rfl (s_move rfl) ?_; refine o_call (expand_fn pa pc ps xa xc w sL.a sL.c sL.xs (by omega)) rfl rfl rfl (by exact .nil) (fun _ st => ⟨⟨(RdK.old hpp hpa).out _ st, fun p hp => (RdK.old (hpt p hp).1 (hpt p hp).2).out _ st⟩, (RdK.old hx0 ha0).out _ st, (hLr.rdk hiA).out _ st⟩) (fun v64 S64 ⟨a64, c64, hv64, hO64⟩ => ?_); subst hv64
     refine o_app hS51 (hO64.rdk hiA) rfl rfl rfl rfl (by omega) (by omega) rfl pkA fun a65 c65 S65 hS65 => ?_; refine o_step rfl (s_assign rfl) ?_; refine o_nil ?_; refine x_then (hK23 _ _ _ ?_); refine c_region ?_; refine o_step rfl (s_move rfl) ?_; refine o_step rfl (s_idx rfl rfl hLs (by omega)) ?_; refine o_step rfl (s_field rfl rfl (by decide)) ?_; refine o_step rfl (s_ld rfl ((hLr.rdk hiA).ld 0 1 hg.hd rfl (by decide) (by simp only [soff, Sl.v]; rfl))) ?_; refine o_step rfl (s_assign rfl) ?_; refine o_nil ?_; refine x_block ?_; refine x_then (hK17 _ _ _ ?_); refine c_region ?_; refine o_step rfl (s_add rfl rfl (by omega)) ?_; refine o_step rfl (s_move rfl) ?_; refine o_nil ?_; exact x_then (x_inv (i + 1, q2, a65, c65, o ++ (w.drop at_).take (p2 - at_) ++ expd w (ps.map Pc.abs) sL.xs, S65) ⟨by dsimp only; omega, by rw [← hdo, doF_cons hg]; simp only [List.append_assoc], hcr, hg.ln, hS65⟩ (by first | omega | (dsimp only; omega)) sbA hzB)
   ·
    obtain rfl : i = (q.xs.map Sl.xs).length := by rw [List.length_map]; omega
    rw [List.drop_length] at hdo
    rw [doF] at hdo
    have hl3 := congrArg List.length hdo
    have hdl := hl3
    rw [List.length_append] at hdl
    refine c_exit ?_; refine x_then_exit ?_; refine x_then_exit ?_; refine x_block_exit ?_; refine x_then (hK13 _ _ _ ?_); refine c_seqD fun _ hK24 => ?_; refine c_region ?_; refine o_step rfl (s_move rfl) ?_; refine o_step rfl (s_move rfl) ?_; refine o_step rfl (s_move rfl) ?_; refine o_step rfl (step_cast (v' := .slice (midA xa xc at_ 1) (w.drop at_).length (xc - at_)) (s_slice_lo rfl rfl (by omega)) (by simp only [Int.toNat_natCast, List.length_drop])) ?_; refine o_app hSo (rdk_drop (RdK.old hx0 ha0) at_ hat) rfl rfl rfl rfl (by omega) (by omega) rfl pkA fun a75 c75 S75 hS75 => ?_; refine o_step rfl (s_assign rfl) ?_; refine o_nil ?_; refine x_then (hK24 _ _ _ ?_); refine c_seqD fun _ hK25 => ?_; refine c_seqD fun _ hK26 => ?_; refine c_region ?_; refine o_step rfl (s_move rfl) ?_; refine o_step rfl (s_len rfl) ?_; refine o_step rfl (s_move rfl) ?_
    by_cases hbig2 : most < ((o ++ w.drop at_).length : Int)
    ·
     rw [hdo] at hbig2
     refine o_step rfl (step_cast (v' := .bool true) (s_gtr rfl rfl) (by rw [decide_eq_true (by omega)])) ?_; refine o_nil ?_; refine x_then (hK26 _ _ _ ?_); refine c_true rfl ?_; refine c_seqD fun _ hK27 => ?_; refine c_region ?_; refine o_step rfl (s_assign rfl) ?_; refine o_step rfl (s_assign rfl) ?_; refine o_step rfl (s_assign rfl) ?_; refine o_nil ?_; refine x_then (hK27 _ _ _ ?_); refine c_ret ?_; refine x_then_ret (?_); refine x_sub (Sub.refl _) (H' := (D0, .deferred (some [])) :: S2) hzB ?_; exact x_retM (.cons (.nil)) pkA rfl (.tmp rfl (.tmp rfl (.tmp rfl (.nil)))) (⟨s2, S2, hs2, .inl ⟨by omega, rfl, rfl⟩⟩)
    ·
     rw [hdo] at hbig2
     refine o_step rfl (step_cast (v' := .bool false) (s_gtr rfl rfl) (by rw [decide_eq_false (by omega)])) ?_; refine o_nil ?_; refine x_then (hK26 _ _ _ ?_); refine c_false rfl ?_; refine c_skip ?_; refine x_then (hK25 _ _ _ ?_); refine c_seqD fun _ hK28 => ?_; refine c_quiet (by kernel_rfl) ?_; refine .op rfl (s_move rfl) ?_; refine .op rfl (s_ld rfl (.own meA rfl)) ?_; refine .op rfl (s_len rfl) ?_; refine .op rfl (s_assign rfl) ?_; refine .op rfl (s_assign rfl) ?_; refine .op rfl (s_assign rfl) ?_; refine .nil ?_; refine x_then (hK28 _ _ _ ?_); refine c_ret ?_; refine ?_; refine x_sub (Sub.refl _) (H' := (D0, .deferred (some [])) :: (S75 ++ S2)) hzB ?_; exact x_retM (.cons (.nil)) pkA rfl (.tmp rfl (.tmp rfl (.tmp rfl (.nil)))) (⟨s2, S2, hs2, .inr ⟨by omega, a75, c75, S75, by rw [hdo, hnc]; rfl, by rw [hdo] at hS75; exact hS75, rfl⟩⟩)
  ·
   rintro D0 S0r c p B0 ⟨s2, S2, rfl, hs2⟩ hpx ⟨hce, hall, q, Sh, Sc, y, rfl, hO, hqx, hL, hdy⟩
   subst hce
   have hch : chs first all xs = [y] := by rw [hall]; exact chs_one hpx hdy
   rw [← hch] at hqx hL
   have hnc : (chs first all xs).length = q.xs.length := by rw [← hqx, List.length_map]
   have hqb : q.xs.length ≤ 1000002 := by rw [← hnc, hch]; simp
   rw [← hqx] at hL
   refine c_exit ?_; refine x_block_exit ?_; refine x_then (hK4 _ _ _ ?_); refine c_seqD fun _ hK29 => ?_; refine c_region ?_; refine o_step rfl (s_assign rfl) ?_; refine o_nil ?_; refine x_then (hK29 _ _ _ ?_); refine c_seqD fun _ hK30 => ?_; refine c_region ?_; refine o_step rfl (s_assign rfl) ?_; refine o_nil ?_; refine x_then (hK30 _ _ _ ?_); refine c_seqD fun _ hK31 => ?_; refine c_seqD fun _ hK32 => ?_; refine c_region ?_; refine o_step rfl (s_ld rfl (.own meA rfl)) ?_; refine o_step rfl (s_len rfl) ?_; refine o_step rfl (s_move rfl) ?_; refine o_nil ?_; refine x_then (hK32 _ _ _ ?_); refine c_block ?_
   -- not carried: 12 13 14
   refine c_loop6 (fun (i : Nat) (at_ : Nat) (a2 : Option Addr) (c2 : Nat) (o : List UInt8) (So : Hp) => i ≤ q.xs.length ∧ o ++ doF w (ps.map Pc.abs) at_ ((q.xs.map Sl.xs).drop i) = (doF w (ps.map Pc.abs) 0 (chs first all xs)) ∧ ChG w.length at_ ((q.xs.map Sl.xs).drop i) ∧ at_ ≤ w.length ∧ OwnS Eb 1 5 (.slice a2 o.length c2) o So) (fun (i : Nat) (at_ : Nat) (a2 : Option Addr) (c2 : Nat) (o : List UInt8) (So : Hp) => [(39, .int .i64 i), (19, .int .i64 at_), (18, .slice a2 o.length c2)]) [(1, _), (2, _), (5, _), (15, _), (37, _), (38, _)] (fun (i : Nat) (at_ : Nat) (a2 : Option Addr) (c2 : Nat) (o : List UInt8) (So : Hp) => (D0, .deferred (some [])) :: (b15, .cells [.slice q.a q.xs.length q.c].toArray 29 (0, 0)) :: (Sh ++ (Sc ++ (So ++ S2)))) (fun (i : Nat) (at_ : Nat) (a2 : Option Addr) (c2 : Nat) (o : List UInt8) (So : Hp) => q.xs.length - i) 0 0 none 0 [] [] ⟨Nat.zero_le _, by rw [hqx]; rfl, by rw [hqx]; exact hcg, Nat.zero_le _, .nil⟩ sbA sbA hzB ?_
   rintro i at_ a2 c2 o So ⟨hi, hdo, hcg2, hat, hSo⟩
   refine c_seqD fun _ hK33 => ?_; refine c_region ?_; refine o_step rfl (s_lss rfl rfl) ?_; refine o_nil ?_; refine x_then (hK33 _ _ _ ?_); refine c_seqD fun _ hK34 => ?_; refine c_if rfl (fun hlt => ?_) (fun hlt => ?_)
   ·
    obtain ⟨sL, hsL⟩ : ∃ s, q.xs[i]? = some s := ⟨_, List.getElem?_eq_getElem (by omega)⟩
    have hcx2 : (q.xs.map Sl.xs)[i]? = some sL.xs := by rw [List.getElem?_map, hsL]; rfl
    obtain ⟨hLs, hLr⟩ := OwnL.slv hL hsL hcx2
    have hdr : (q.xs.map Sl.xs).drop i = sL.xs :: (q.xs.map Sl.xs).drop (i + 1) := by rw [List.drop_eq_getElem?_toList_append, hcx2]; rfl
    rw [hdr] at hdo hcg2
    obtain ⟨p2, q2, hg, hcr⟩ := ChG.inv hcg2
    have hg1 := hg.ge
    have hg2 := hg.le
    have hg3 := hg.ln
    have hLp : 0 < sL.xs.length := (List.getElem?_eq_some_iff.1 hg.hd).1
    have hdl := congrArg List.length hdo
    rw [doF_cons hg, List.length_append, List.length_append, List.length_append] at hdl
    have hmin : min (longS sL.xs (ps.map Pc.abs)) 1099511627776 = (expd w (ps.map Pc.abs) sL.xs).length := by rw [← expd_len hg.all]; omega
    have hl1 : (o ++ (w.drop at_).take (p2 - at_)).length = o.length + ((w.drop at_).take (p2 - at_)).length := List.length_append
    have hl2 : (o ++ (w.drop at_).take (p2 - at_) ++ expd w (ps.map Pc.abs) sL.xs).length = o.length + ((w.drop at_).take (p2 - at_)).length + (expd w (ps.map Pc.abs) sL.xs).length := by rw [List.length_append, List.length_append]
    refine c_skip ?_; refine x_then (hK34 _ _ _ ?_); refine c_seqD fun _ hK35 => ?_; refine c_block ?_; refine c_seqD fun _ hK36 => ?_; refine c_region ?_; refine o_step rfl (s_idx rfl rfl hO.sl (by omega)) ?_; refine o_step rfl (s_ld rfl ((hO.rdk hiA).ld i 0 hsL rfl (by decide) (by omega))) ?_; refine o_step rfl (s_assign rfl) ?_; refine o_nil ?_; refine x_then (hK36 _ _ _ ?_); refine c_seqD fun _ hK37 => ?_; refine c_seqD fun _ hK38 => ?_; refine c_region ?_; refine o_step rfl (s_move rfl) ?_; refine o_step rfl (s_move rfl) ?_; refine o_step rfl (s_move rfl) ?_; refine o_step rfl (s_move rfl) ?_; refine o_step rfl (s_idx rfl rfl hLs (by omega)) ?_; refine o_step rfl (s_field rfl rfl (by decide)) ?_; refine o_step rfl (s_ld rfl ((hLr.rdk hiA).ld 0 0 hg.hd rfl (by decide) (by simp only [soff, Sl.v]; rfl))) ?_; refine o_step rfl (step_cast (v' := .slice (midA xa xc at_ 1) ((w.drop at_).take (p2 - at_)).length (xc - at_)) (s_slice_mid rfl rfl rfl (by show (0 : Int) ≤ at_ ∧ (at_ : Int) ≤ (p2 : Int) ∧ (p2 : Int) ≤ xc; omega)) (by show Value.slice (midA xa xc ((at_ : Int)).toNat 1) (((p2 : Int)).toNat - ((at_ : Int)).toNat) (xc - ((at_ : Int)).toNat) = _; simp only [Int.toNat_natCast, List.length_take, List.length_drop]; congr 1; omega)) ?_
    refine o_app hSo ((RdK.old hx0 ha0).mid at_ p2 (by omega) (by omega)) rfl rfl rfl rfl (by omega) (by omega) rfl pkA fun a51 c51 S51 hS51 => ?_; refine o_step rfl (s_assign rfl) ?_; refine o_nil ?_; refine x_then (hK38 _ _ _ ?_); refine c_seqD fun _ hK39 => ?_; refine c_region ?_; refine o_step rfl (s_move rfl) ?_; refine o_step rfl (s_len rfl) ?_; refine o_step rfl (s_move rfl) ?_; refine o_step rfl (s_move rfl) ?_; refine o_callP (fLong_fn pa pc ps sL.a sL.c sL.xs w.length hwl hg.all hpb) rfl rfl rfl (fun _ st => ⟨(RdK.old hpp hpa).out _ st, (hLr.rdk hiA).out _ st⟩) (fun v56 hv56 => ?_)
    rw [hmin] at hv56
    subst hv56; refine o_step rfl (s_add rfl rfl (by omega)) ?_; refine o_step rfl (s_move rfl) ?_
    by_cases hbig : most < ((o ++ (w.drop at_).take (p2 - at_)).length : Int) + ((expd w (ps.map Pc.abs) sL.xs).length : Int)
    ·
     refine o_step rfl (step_cast (v' := .bool true) (s_gtr rfl rfl) (by rw [decide_eq_true (by omega)])) ?_; refine o_nil ?_; refine x_then (hK39 _ _ _ ?_); refine c_true rfl ?_; refine c_seqD fun _ hK40 => ?_; refine c_region ?_; refine o_step rfl (s_assign rfl) ?_; refine o_step rfl (s_assign rfl) ?_; refine o_step rfl (s_assign rfl) ?_; refine o_nil ?_; refine x_then (hK40 _ _ _ ?_); refine c_ret ?_; refine x_then_ret (x_block_ret (x_then_ret (x_then_ret (x_block_ret (x_then_ret (?_))))))
     refine x_sub (Sub.refl _) (H' := (D0, .deferred (some [])) :: S2) hzB ?_; exact x_retM (.cons (.nil)) pkA rfl (.tmp rfl (.tmp rfl (.tmp rfl (.nil)))) (⟨s2, S2, hs2, .inl ⟨by omega, rfl, rfl⟩⟩)
    ·
     refine o_step rfl (step_cast (v' := .bool false) (s_gtr rfl rfl) (by rw [decide_eq_false (by omega)])) ?_; refine o_nil ?_; refine x_then (hK39 _ _ _ ?_); refine c_false rfl ?_; refine c_skip ?_; refine x_then (hK37 _ _ _ ?_); refine c_seqD fun _ hK41 => ?_; refine c_region ?_; refine o_step rfl (s_move rfl) ?_; refine o_step rfl (s_move rfl) ?_; refine o_step rfl (s_move rfl) ?_; refine o_step rfl (s_move rfl) ?_; refine o_call (expand_fn pa pc ps xa xc w sL.a sL.c sL.xs (by omega)) rfl rfl rfl (by exact .nil) (fun _ st => ⟨⟨(RdK.old hpp hpa).out _ st, fun p hp => (RdK.old (hpt p hp).1 (hpt p hp).2).out _ st⟩, (RdK.old hx0 ha0).out _ st, (hLr.rdk hiA).out _ st⟩) (fun v64 S64 ⟨a64, c64, hv64, hO64⟩ => ?_); subst hv64
     refine o_app hS51 (hO64.rdk hiA) rfl rfl rfl rfl (by omega) (by omega) rfl pkA fun a65 c65 S65 hS65 => ?_; refine o_step rfl (s_assign rfl) ?_; refine o_nil ?_; refine x_then (hK41 _ _ _ ?_); refine c_region ?_; refine o_step rfl (s_move rfl) ?_; refine o_step rfl (s_idx rfl rfl hLs (by omega)) ?_; refine o_step rfl (s_field rfl rfl (by decide)) ?_; refine o_step rfl (s_ld rfl ((hLr.rdk hiA).ld 0 1 hg.hd rfl (by decide) (by simp only [soff, Sl.v]; rfl))) ?_; refine o_step rfl (s_assign rfl) ?_; refine o_nil ?_; refine x_block ?_; refine x_then (hK35 _ _ _ ?_); refine c_region ?_; refine o_step rfl (s_add rfl rfl (by omega)) ?_; refine o_step rfl (s_move rfl) ?_; refine o_nil ?_; exact x_then (x_inv (i + 1, q2, a65, c65, o ++ (w.drop at_).take (p2 - at_) ++ expd w (ps.map Pc.abs) sL.xs, S65) ⟨by dsimp only; omega, by rw [← hdo, doF_cons hg]; simp only [List.append_assoc], hcr, hg.ln, hS65⟩ (by first | omega | (dsimp only; omega)) sbA hzB)
   ·
    obtain rfl : i = (q.xs.map Sl.xs).length := by rw [List.length_map]; omega
    rw [List.drop_length] at hdo
    rw [doF] at hdo
    have hl3 := congrArg List.length hdo
    have hdl := hl3
    rw [List.length_append] at hdl
    refine c_exit ?_; refine x_then_exit ?_; refine x_then_exit ?_; refine x_block_exit ?_; refine x_then (hK31 _ _ _ ?_); refine c_seqD fun _ hK42 => ?_; refine c_region ?_; refine o_step rfl (s_move rfl) ?_; refine o_step rfl (s_move rfl) ?_; refine o_step rfl (s_move rfl) ?_; refine o_step rfl (step_cast (v' := .slice (midA xa xc at_ 1) (w.drop at_).length (xc - at_)) (s_slice_lo rfl rfl (by omega)) (by simp only [Int.toNat_natCast, List.length_drop])) ?_; refine o_app hSo (rdk_drop (RdK.old hx0 ha0) at_ hat) rfl rfl rfl rfl (by omega) (by omega) rfl pkA fun a75 c75 S75 hS75 => ?_; refine o_step rfl (s_assign rfl) ?_; refine o_nil ?_; refine x_then (hK42 _ _ _ ?_); refine c_seqD fun _ hK43 => ?_; refine c_seqD fun _ hK44 => ?_; refine c_region ?_; refine o_step rfl (s_move rfl) ?_; refine o_step rfl (s_len rfl) ?_; refine o_step rfl (s_move rfl) ?_
    by_cases hbig2 : most < ((o ++ w.drop at_).length : Int)
    ·
     rw [hdo] at hbig2
     refine o_step rfl (step_cast (v' := .bool true) (s_gtr rfl rfl) (by rw [decide_eq_true (by omega)])) ?_; refine o_nil ?_; refine x_then (hK44 _ _ _ ?_); refine c_true rfl ?_; refine c_seqD fun _ hK45 => ?_; refine c_region ?_; refine o_step rfl (s_assign rfl) ?_; refine o_step rfl (s_assign rfl) ?_; refine o_step rfl (s_assign rfl) ?_; refine o_nil ?_; refine x_then (hK45 _ _ _ ?_); refine c_ret ?_; refine x_then_ret (?_); refine x_sub (Sub.refl _) (H' := (D0, .deferred (some [])) :: S2) hzB ?_; exact x_retM (.cons (.nil)) pkA rfl (.tmp rfl (.tmp rfl (.tmp rfl (.nil)))) (⟨s2, S2, hs2, .inl ⟨by omega, rfl, rfl⟩⟩)
    ·
     rw [hdo] at hbig2
     refine o_step rfl (step_cast (v' := .bool false) (s_gtr rfl rfl) (by rw [decide_eq_false (by omega)])) ?_; refine o_nil ?_; refine x_then (hK44 _ _ _ ?_); refine c_false rfl ?_; refine c_skip ?_; refine x_then (hK43 _ _ _ ?_); refine c_seqD fun _ hK46 => ?_; refine c_quiet (by kernel_rfl) ?_; refine .op rfl (s_move rfl) ?_; refine .op rfl (s_ld rfl (.own meA rfl)) ?_; refine .op rfl (s_len rfl) ?_; refine .op rfl (s_assign rfl) ?_; refine .op rfl (s_assign rfl) ?_; refine .op rfl (s_assign rfl) ?_; refine .nil ?_; refine x_then (hK46 _ _ _ ?_); refine c_ret ?_; refine ?_; refine x_sub (Sub.refl _) (H' := (D0, .deferred (some [])) :: (S75 ++ S2)) hzB ?_; exact x_retM (.cons (.nil)) pkA rfl (.tmp rfl (.tmp rfl (.tmp rfl (.nil)))) (⟨s2, S2, hs2, .inr ⟨by omega, a75, c75, S75, by rw [hdo, hnc]; rfl, by rw [hdo] at hS75; exact hS75, rfl⟩⟩)

set_option maxHeartbeats 4000000 in
theorem doP_fn {σ : Type} (w : List UInt8) (hwl : w.length ≤ 1000000) (vF : Value) (HS : σ → Hp → Prop) (stp : σ → Nat → Bool → List Sp → σ → Prop) (preF : Hp → World → Prop) (hdet : Det stp) (hF : FindC 115 w vF HS stp preF) (hst : PreS preF) (hv1 : vF.oneCell' = true) (xa : Option Addr) (xc : Nat) (s0 : σ) (S0 : Hp) (hs0 : HS s0 S0) (xs : List (List Sp)) (hM0 : MtS stp w.length s0 0 (-1) xs) (pa : Option Addr) (pc : Nat) (ps : List Pc) (first : Int) (all : Bool) (most : Int) (hf : -9223372036854775808 ≤ first ∧ first ≤ 9223372036854775807) (hsz : (doF w (ps.map Pc.abs) 0 (chs first all xs)).length ≤ 4294967296) : HL.Fn Try.prog 25 [vF, .slice pa ps.length pc, .slice xa w.length xc, .int .i64 first, .bool all, .int .i64 most] (fun W => preF S0 W ∧ (Rd Eb W (.slice xa w.length xc) w ∧ Apart (keys S0) (.slice xa w.length xc)) ∧ (Rd Epc W (.slice pa ps.length pc) ps ∧ Apart (keys S0) (.slice pa ps.length pc)) ∧ ∀ p ∈ ps, Rd Eb W p.t.v p.t.xs ∧ Apart (keys S0) p.t.v) S0 (fun v S' => ∃ s2 S2, HS s2 S2 ∧ ((most < (doF w (ps.map Pc.abs) 0 (chs first all xs)).length ∧ v = .tuple #[.slice none 0 0, .int .i64 0, .int .i64 62] ∧ S' = S2) ∨ (((doF w (ps.map Pc.abs) 0 (chs first all xs)).length : Int) ≤ most ∧ ∃ a c So, v = .tuple #[.slice a (doF w (ps.map Pc.abs) 0 (chs first all xs)).length c, .int .i64 ((chs first all xs).length : Nat), .int .i64 0] ∧ OwnS Eb 1 5 (.slice a (doF w (ps.map Pc.abs) 0 (chs first all xs)).length c) (doF w (ps.map Pc.abs) 0 (chs first all xs)) So ∧ S' = So ++ S2))) := by
  refine fn_ofM Try.func25 rfl rfl rfl fun w0 hw => ?_
  obtain ⟨hp0, ⟨hx0, ha0⟩, ⟨hpp, hpa⟩, hpt⟩ := hw
  have hcl := hM0.ch.len
  have hxl : xs.length ≤ 1000002 := by split at hcl <;> omega
  have hsx := hx0.sl
  have hcx := hsx.cap
  have hcg := (hM0.ch.g).chs first all
  have hpb : ∀ p ∈ ps, p.t.xs.length ≤ 140737488355328 := fun p hp => (hpt p hp).1.sl.le
  refine c_seqD fun _ hK1 => ?_; refine c_region ?_; refine o_box rfl rfl rfl fun b9 => ?_; refine o_box rfl rfl rfl fun b10 => ?_; refine o_step rfl (s_assign rfl) ?_; refine o_step rfl (s_assign rfl) ?_; refine o_step rfl (s_assign rfl) ?_; refine o_nil ?_; refine x_then (hK1 _ _ _ ?_); refine c_seqD fun _ hK2 => ?_; refine c_region ?_; refine o_alloc rfl rfl fun b15 => ?_; refine o_nil ?_; refine x_then (hK2 _ _ _ ?_); refine c_seqD fun _ hK3 => ?_; refine c_region ?_; refine o_alloc rfl rfl fun b16 => ?_; refine o_store rfl rfl rfl upA ltA rfl ?_; refine o_nil ?_; refine x_then (hK3 _ _ _ ?_); refine c_seqD fun _ hK4 => ?_; refine c_seqD fun _ hK5 => ?_; refine c_region ?_; refine o_step rfl (s_move rfl) ?_; refine o_step rfl (s_move rfl) ?_; refine o_call (matchesCP_fn vF hv1 xa w.length xc) rfl rfl rfl (by exact .nil) (fun _ _ => trivial) (fun v24 S24 ⟨b2, b3, hv24, hS24⟩ => ?_); subst hv24
  subst hS24; refine o_nil ?_; refine x_then (hK5 _ _ _ ?_); refine c_block ?_; refine c_rangeV (α := List Sp) (B0 := (b16, .cells [.int .i64 (0 : Nat)].toArray 3 (0, 0)) :: (b15, .cells [.slice (⟨none, 0, []⟩ : Sl (Sl Sp)).a (⟨none, 0, []⟩ : Sl (Sl Sp)).xs.length (⟨none, 0, []⟩ : Sl (Sl Sp)).c].toArray 29 (0, 0)) :: (b9, .cells [.int .i64 first].toArray 3 (0, 0)) :: (b10, .cells [.bool all].toArray 4 (0, 0)) :: []) (fun p B => ∃ (q : Sl (Sl Sp)) (Sh Sc : Hp), B = (b16, .cells [.int .i64 (p.length : Nat)].toArray 3 (0, 0)) :: (b15, .cells [.slice q.a q.xs.length q.c].toArray 29 (0, 0)) :: (b9, .cells [.int .i64 first].toArray 3 (0, 0)) :: (b10, .cells [.bool all].toArray 4 (0, 0)) :: (Sh ++ Sc) ∧ OwnS Esl 1 48 (.slice q.a q.xs.length q.c) q.xs Sh ∧ q.xs.map Sl.xs = p.drop (first - 1).toNat ∧ OwnL Esp 2 51 q.xs (p.drop (first - 1).toNat) Sc ∧ (all = false → p.length ≤ (first - 1).toNat)) (fun c p B => c = .exit 0 ∧ all = false ∧ ∃ (q : Sl (Sl Sp)) (Sh Sc : Hp) (y : List Sp), B = (b16, .cells [.int .i64 (p.length : Nat)].toArray 3 (0, 0)) :: (b15, .cells [.slice q.a q.xs.length q.c].toArray 29 (0, 0)) :: (b9, .cells [.int .i64 first].toArray 3 (0, 0)) :: (b10, .cells [.bool all].toArray 4 (0, 0)) :: (Sh ++ Sc) ∧ OwnS Esl 1 48 (.slice q.a q.xs.length q.c) q.xs Sh ∧ q.xs.map Sl.xs = [y] ∧ OwnL Esp 2 51 q.xs [y] Sc ∧ p.drop (first - 1).toNat = [y]) rfl (matchesP_it w hwl vF HS stp preF hdet hF hst hv1 xa xc s0 S0 hs0 xs hM0 b3 b2) ((Pick.takeC pkA (Pick.takeC pkA (Pick.takeA pkA (Pick.takeC pkA (Pick.takeC pkA (Pick.takeC pkA pkA))))))) ((fun w H1 S1 st hs => ⟨hst hp0 st (hin_sub hs), (RdK.old hx0 ha0).out _ st, St.apart_M st (hin_sub hs) hx0 ha0 (by decide)⟩)) ⟨⟨none, 0, []⟩, [], [], rfl, .nil, by simp, by simpa using OwnL.nil, fun _ => Nat.zero_le _⟩ (by kernel_rfl) (fun x vs Sx ⟨_, _, h, _⟩ => by rw [h]; rfl) (by kernel_rfl) ?_ ?_ ?_
  ·
   rintro l r p x B W er1 er2 ⟨q, Sh, Sc, rfl, hO, hqx, hL, hal⟩ hx vs Sx ⟨va, vc, rfl, hSx⟩ post hy hn
   have hpl := hx.length_le
   have hql := congrArg List.length hqx
   rw [List.length_append, List.length_singleton] at hpl
   rw [List.length_map, List.length_drop] at hql
   have hpx1 : (p ++ [x]).length = p.length + 1 := by simp
   refine c_region ?_; refine o_step rfl (s_assign rfl) ?_; refine o_nil ?_; refine x_then (x_begin upA (by kernel_rfl) ?_); refine c_block ?_; refine c_seqD fun _ hK6 => ?_; refine c_seqD fun _ hK7 => ?_; refine c_region ?_; refine o_step rfl (s_ld rfl (.own meA rfl)) ?_; refine o_step rfl (step_cast (v' := .int .i64 ((p ++ [x]).length : Nat)) (s_add rfl rfl (by omega)) (by simp)) ?_; refine o_store rfl rfl rfl upA ltA rfl ?_; refine o_nil ?_; refine x_then (hK7 _ _ _ ?_); refine c_seqD fun _ hK8 => ?_; refine c_region ?_; refine o_step rfl (s_ld rfl (.own meA rfl)) ?_; refine o_step rfl (s_ld rfl (.own meA rfl)) ?_
   by_cases hlf : ((p.length : Int) + 1) < first
   ·
    refine o_step rfl (step_cast (v' := .bool true) (s_lss rfl rfl) (by rw [decide_eq_true (by omega)])) ?_; refine o_nil ?_; refine x_then (hK8 _ _ _ ?_); refine c_true rfl ?_; refine c_exit ?_; refine x_then_exit ?_; refine x_block_exit ?_; refine x_sub (Sub.refl _) (H' := (l, .loop (recAt r .busy none)) :: (b16, .cells [.int .i64 ((p ++ [x]).length : Nat)].toArray 3 (0, 0)) :: (b15, .cells [.slice q.a q.xs.length q.c].toArray 29 (0, 0)) :: (b9, .cells [.int .i64 first].toArray 3 (0, 0)) :: (b10, .cells [.bool all].toArray 4 (0, 0)) :: (Sh ++ Sc)) hzB ?_; exact x_rnormal upA (hy _ ⟨q, Sh, Sc, rfl, hO, by rw [hqx, List.drop_of_length_le (by omega), List.drop_of_length_le (by simp; omega)], by rw [List.drop_of_length_le (by omega)] at hL; rw [List.drop_of_length_le (by simp; omega)]; exact hL, fun _ => by simp; omega⟩)
   ·
    have hdx : (p ++ [x]).drop (first - 1).toNat = p.drop (first - 1).toNat ++ [x] := List.drop_append_of_le_length (by omega)
    refine o_step rfl (step_cast (v' := .bool false) (s_lss rfl rfl) (by rw [decide_eq_false (by omega)])) ?_; refine o_nil ?_; refine x_then (hK8 _ _ _ ?_); refine c_false rfl ?_; refine c_skip ?_; refine x_then (hK6 _ _ _ ?_); refine c_seqD fun _ hK9 => ?_; refine c_region ?_; refine o_step rfl (s_ld rfl (.own meA rfl)) ?_; refine o_step rfl (s_move rfl) ?_; refine o_bs (E := Esl) (xs := [(⟨va, vc, x⟩ : Sl Sp)]) (vs := [_]) rfl rfl rfl rfl rfl (by decide) (by decide) fun b33 S33 hS33 => ?_; refine o_app hO (hS33.rdk hiA) rfl rfl rfl rfl (by simp only [List.length_singleton]; omega) (by simp only [List.length_singleton]; omega) rfl pkA fun a34 c34 S34 hS34 => ?_; refine o_store rfl rfl rfl upA ltA rfl ?_; refine o_nil ?_; refine x_then (hK9 _ _ _ ?_); refine c_seqD fun _ hK10 => ?_; refine c_region ?_
    by_cases hall : all = true
    ·
     refine o_step rfl (step_cast (v' := .bool true) (s_ld rfl (.own meA rfl)) (by rw [hall])) ?_; refine o_step rfl (s_not rfl) ?_; refine o_nil ?_; refine x_then (hK10 _ _ _ ?_); refine c_false rfl ?_; refine c_skip ?_; refine x_block ?_; refine x_sub (Sub.refl _) (H' := (l, .loop (recAt r .busy none)) :: (b16, .cells [.int .i64 ((p ++ [x]).length : Nat)].toArray 3 (0, 0)) :: (b15, .cells [.slice (⟨a34, c34, q.xs ++ [⟨va, vc, x⟩]⟩ : Sl (Sl Sp)).a (⟨a34, c34, q.xs ++ [⟨va, vc, x⟩]⟩ : Sl (Sl Sp)).xs.length (⟨a34, c34, q.xs ++ [⟨va, vc, x⟩]⟩ : Sl (Sl Sp)).c].toArray 29 (0, 0)) :: (b9, .cells [.int .i64 first].toArray 3 (0, 0)) :: (b10, .cells [.bool all].toArray 4 (0, 0)) :: (S34 ++ (Sc ++ Sx))) hzB ?_; exact x_rnormal upA (hy _ ⟨⟨a34, c34, q.xs ++ [⟨va, vc, x⟩]⟩, S34, Sc ++ Sx, rfl, hS34, by rw [hdx, List.map_append, hqx]; rfl, by rw [hdx]; exact hL.snoc (s := ⟨va, vc, x⟩) hSx, fun h => absurd h (by rw [hall]; decide)⟩)
    ·
     replace hall : all = false := by simpa using hall
     refine o_step rfl (step_cast (v' := .bool false) (s_ld rfl (.own meA rfl)) (by rw [hall])) ?_; refine o_step rfl (s_not rfl) ?_; refine o_nil ?_; refine x_then (hK10 _ _ _ ?_); refine c_true rfl ?_; refine c_exit ?_; refine x_block_pass rfl ?_; refine x_sub (Sub.refl _) (H' := (l, .loop (recAt r .busy none)) :: (b16, .cells [.int .i64 ((p ++ [x]).length : Nat)].toArray 3 (0, 0)) :: (b15, .cells [.slice (⟨a34, c34, q.xs ++ [⟨va, vc, x⟩]⟩ : Sl (Sl Sp)).a (⟨a34, c34, q.xs ++ [⟨va, vc, x⟩]⟩ : Sl (Sl Sp)).xs.length (⟨a34, c34, q.xs ++ [⟨va, vc, x⟩]⟩ : Sl (Sl Sp)).c].toArray 29 (0, 0)) :: (b9, .cells [.int .i64 first].toArray 3 (0, 0)) :: (b10, .cells [.bool all].toArray 4 (0, 0)) :: (S34 ++ (Sc ++ Sx))) hzB ?_
     have hp0k : p.drop (first - 1).toNat = [] := List.drop_of_length_le (hal hall)
     rw [hp0k] at hqx hL hdx
     exact x_rexit upA (hn _ _ ⟨rfl, hall, ⟨a34, c34, q.xs ++ [⟨va, vc, x⟩]⟩, S34, Sc ++ Sx, x, rfl, hS34, by rw [List.map_append, hqx]; rfl, hL.snoc (s := ⟨va, vc, x⟩) hSx, hdx⟩)
  ·
   rintro D0 S0r B0 ⟨s2, S2, rfl, hs2⟩ ⟨q, Sh, Sc, rfl, hO, hqx, hL, hal⟩
   have hch := chs_all (first := first) (all := all) hal
   rw [← hch] at hqx hL
   have hnc : (chs first all xs).length = q.xs.length := by rw [← hqx, List.length_map]
   have hqb : q.xs.length ≤ 1000002 := by rw [← hnc, hch, List.length_drop]; omega
   rw [← hqx] at hL
   refine x_block ?_; refine x_then (hK4 _ _ _ ?_); refine c_seqD fun _ hK11 => ?_; refine c_region ?_; refine o_step rfl (s_assign rfl) ?_; refine o_nil ?_; refine x_then (hK11 _ _ _ ?_); refine c_seqD fun _ hK12 => ?_; refine c_region ?_; refine o_step rfl (s_assign rfl) ?_; refine o_nil ?_; refine x_then (hK12 _ _ _ ?_); refine c_seqD fun _ hK13 => ?_; refine c_seqD fun _ hK14 => ?_; refine c_region ?_; refine o_step rfl (s_ld rfl (.own meA rfl)) ?_; refine o_step rfl (s_len rfl) ?_; refine o_step rfl (s_move rfl) ?_; refine o_nil ?_; refine x_then (hK14 _ _ _ ?_); refine c_block ?_
   -- not carried: 12 13 14
   refine c_loop6 (fun (i : Nat) (at_ : Nat) (a2 : Option Addr) (c2 : Nat) (o : List UInt8) (So : Hp) => i ≤ q.xs.length ∧ o ++ doF w (ps.map Pc.abs) at_ ((q.xs.map Sl.xs).drop i) = (doF w (ps.map Pc.abs) 0 (chs first all xs)) ∧ ChG w.length at_ ((q.xs.map Sl.xs).drop i) ∧ at_ ≤ w.length ∧ OwnS Eb 1 5 (.slice a2 o.length c2) o So) (fun (i : Nat) (at_ : Nat) (a2 : Option Addr) (c2 : Nat) (o : List UInt8) (So : Hp) => [(39, .int .i64 i), (19, .int .i64 at_), (18, .slice a2 o.length c2)]) [(1, _), (2, _), (5, _), (15, _), (37, _), (38, _)] (fun (i : Nat) (at_ : Nat) (a2 : Option Addr) (c2 : Nat) (o : List UInt8) (So : Hp) => (D0, .deferred (some [])) :: (b15, .cells [.slice q.a q.xs.length q.c].toArray 29 (0, 0)) :: (Sh ++ (Sc ++ (So ++ S2)))) (fun (i : Nat) (at_ : Nat) (a2 : Option Addr) (c2 : Nat) (o : List UInt8) (So : Hp) => q.xs.length - i) 0 0 none 0 [] [] ⟨Nat.zero_le _, by rw [hqx]; rfl, by rw [hqx]; exact hcg, Nat.zero_le _, .nil⟩ sbA sbA hzB ?_
   rintro i at_ a2 c2 o So ⟨hi, hdo, hcg2, hat, hSo⟩
   refine c_seqD fun _ hK15 => ?_; refine c_region ?_; refine o_step rfl (s_lss rfl rfl) ?_; refine o_nil ?_; refine x_then (hK15 _ _ _ ?_); refine c_seqD fun _ hK16 => ?_; refine c_if rfl (fun hlt => ?_) (fun hlt => ?_)
   ·
    obtain ⟨sL, hsL⟩ : ∃ s, q.xs[i]? = some s := ⟨_, List.getElem?_eq_getElem (by omega)⟩
    have hcx2 : (q.xs.map Sl.xs)[i]? = some sL.xs := by rw [List.getElem?_map, hsL]; rfl
    obtain ⟨hLs, hLr⟩ := OwnL.slv hL hsL hcx2
    have hdr : (q.xs.map Sl.xs).drop i = sL.xs :: (q.xs.map Sl.xs).drop (i + 1) := by rw [List.drop_eq_getElem?_toList_append, hcx2]; rfl
    rw [hdr] at hdo hcg2
    obtain ⟨p2, q2, hg, hcr⟩ := ChG.inv hcg2
    have hg1 := hg.ge
    have hg2 := hg.le
    have hg3 := hg.ln
    have hLp : 0 < sL.xs.length := (List.getElem?_eq_some_iff.1 hg.hd).1
    have hdl := congrArg List.length hdo
    rw [doF_cons hg, List.length_append, List.length_append, List.length_append] at hdl
    have hmin : min (longS sL.xs (ps.map Pc.abs)) 1099511627776 = (expd w (ps.map Pc.abs) sL.xs).length := by rw [← expd_len hg.all]; omega
    have hl1 : (o ++ (w.drop at_).take (p2 - at_)).length = o.length + ((w.drop at_).take (p2 - at_)).length := List.length_append
    have hl2 : (o ++ (w.drop at_).take (p2 - at_) ++ expd w (ps.map Pc.abs) sL.xs).length = o.length + ((w.drop at_).take (p2 - at_)).length + (expd w (ps.map Pc.abs) sL.xs).length := by rw [List.length_append, List.length_append]
    refine c_skip ?_; refine x_then (hK16 _ _ _ ?_); refine c_seqD fun _ hK17 => ?_; refine c_block ?_; refine c_seqD fun _ hK18 => ?_; refine c_region ?_; refine o_step rfl (s_idx rfl rfl hO.sl (by omega)) ?_; refine o_step rfl (s_ld rfl ((hO.rdk hiA).ld i 0 hsL rfl (by decide) (by omega))) ?_; refine o_step rfl (s_assign rfl) ?_; refine o_nil ?_; refine x_then (hK18 _ _ _ ?_); refine c_seqD fun _ hK19 => ?_; refine c_seqD fun _ hK20 => ?_; refine c_region ?_; refine o_step rfl (s_move rfl) ?_; refine o_step rfl (s_move rfl) ?_; refine o_step rfl (s_move rfl) ?_; refine o_step rfl (s_move rfl) ?_; refine o_step rfl (s_idx rfl rfl hLs (by omega)) ?_; refine o_step rfl (s_field rfl rfl (by decide)) ?_; refine o_step rfl (s_ld rfl ((hLr.rdk hiA).ld 0 0 hg.hd rfl (by decide) (by simp only [soff, Sl.v]; rfl))) ?_; refine o_step rfl (step_cast (v' := .slice (midA xa xc at_ 1) ((w.drop at_).take (p2 - at_)).length (xc - at_)) (s_slice_mid rfl rfl rfl (by show (0 : Int) ≤ at_ ∧ (at_ : Int) ≤ (p2 : Int) ∧ (p2 : Int) ≤ xc; omega)) (by show Value.slice (midA xa xc ((at_ : Int)).toNat 1) (((p2 : Int)).toNat - ((at_ : Int)).toNat) (xc - ((at_ : Int)).toNat) = _; simp only [Int.toNat_natCast, List.length_take, List.length_drop]; congr 1; omega)) ?_
    refine o_app hSo ((RdK.old hx0 ha0).mid at_ p2 (by omega) (by omega)) rfl rfl rfl rfl (by omega) (by omega) rfl pkA fun a51 c51 S51 hS51 => ?_; refine o_step rfl (s_assign rfl) ?_; refine o_nil ?_; refine x_then (hK20 _ _ _ ?_); refine c_seqD fun _ hK21 => ?_; refine c_region ?_; refine o_step rfl (s_move rfl) ?_; refine o_step rfl (s_len rfl) ?_; refine o_step rfl (s_move rfl) ?_; refine o_step rfl (s_move rfl) ?_; refine o_callP (fLong_fn pa pc ps sL.a sL.c sL.xs w.length hwl hg.all hpb) rfl rfl rfl (fun _ st => ⟨(RdK.old hpp hpa).out _ st, (hLr.rdk hiA).out _ st⟩) (fun v56 hv56 => ?_)
    rw [hmin] at hv56
    subst hv56; refine o_step rfl (s_add rfl rfl (by omega)) ?_; refine o_step rfl (s_move rfl) ?_
    by_cases hbig : most < ((o ++ (w.drop at_).take (p2 - at_)).length : Int) + ((expd w (ps.map Pc.abs) sL.xs).length : Int)
    ·
     refine o_step rfl (step_cast (v' := .bool true) (s_gtr rfl rfl) (by rw [decide_eq_true (by omega)])) ?_; refine o_nil ?_; refine x_then (hK21 _ _ _ ?_); refine c_true rfl ?_; refine c_seqD fun _ hK22 => ?_; refine c_region ?_; refine o_step rfl (s_assign rfl) ?_; refine o_step rfl (s_assign rfl) ?_; refine o_step rfl (s_assign rfl) ?_; refine o_nil ?_; refine x_then (hK22 _ _ _ ?_); refine c_ret ?_; refine x_then_ret (x_block_ret (x_then_ret (x_then_ret (x_block_ret (x_then_ret (?_))))))
     refine x_sub (Sub.refl _) (H' := (D0, .deferred (some [])) :: S2) hzB ?_; exact x_retM (.cons (.nil)) pkA rfl (.tmp rfl (.tmp rfl (.tmp rfl (.nil)))) (⟨s2, S2, hs2, .inl ⟨by omega, rfl, rfl⟩⟩)
    ·
     refine o_step rfl (step_cast (v' := .bool false) (s_gtr rfl rfl) (by rw [decide_eq_false (by omega)])) ?_; refine o_nil ?_; refine x_then (hK21 _ _ _ ?_); refine c_false rfl ?_; refine c_skip ?_; refine x_then (hK19 _ _ _ ?_); refine c_seqD fun _ hK23 => ?_; refine c_region ?_; refine o_step rfl (s_move rfl) ?_; refine o_step rfl (s_move rfl) ?_; refine o_step rfl (s_move rfl) ?_; refine o_step rfl (s_move rfl) ?_; refine o_call (expand_fn pa pc ps xa xc w sL.a sL.c sL.xs (by omega)) rfl rfl rfl (by exact .nil) (fun _ st => ⟨⟨(RdK.old hpp hpa).out _ st, fun p hp => (RdK.old (hpt p hp).1 (hpt p hp).2).out _ st⟩, (RdK.old hx0 ha0).out _ st, (hLr.rdk hiA).out _ st⟩) (fun v64 S64 ⟨a64, c64, hv64, hO64⟩ => ?_); subst hv64
     refine o_app hS51 (hO64.rdk hiA) rfl rfl rfl rfl (by omega) (by omega) rfl pkA fun a65 c65 S65 hS65 => ?_; refine o_step rfl (s_assign rfl) ?_; refine o_nil ?_; refine x_then (hK23 _ _ _ ?_); refine c_region ?_; refine o_step rfl (s_move rfl) ?_; refine o_step rfl (s_idx rfl rfl hLs (by omega)) ?_; refine o_step rfl (s_field rfl rfl (by decide)) ?_; refine o_step rfl (s_ld rfl ((hLr.rdk hiA).ld 0 1 hg.hd rfl (by decide) (by simp only [soff, Sl.v]; rfl))) ?_; refine o_step rfl (s_assign rfl) ?_; refine o_nil ?_; refine x_block ?_; refine x_then (hK17 _ _ _ ?_); refine c_region ?_; refine o_step rfl (s_add rfl rfl (by omega)) ?_; refine o_step rfl (s_move rfl) ?_; refine o_nil ?_; exact x_then (x_inv (i + 1, q2, a65, c65, o ++ (w.drop at_).take (p2 - at_) ++ expd w (ps.map Pc.abs) sL.xs, S65) ⟨by dsimp only; omega, by rw [← hdo, doF_cons hg]; simp only [List.append_assoc], hcr, hg.ln, hS65⟩ (by first | omega | (dsimp only; omega)) sbA hzB)
   ·
    obtain rfl : i = (q.xs.map Sl.xs).length := by rw [List.length_map]; omega
    rw [List.drop_length] at hdo
    rw [doF] at hdo
    have hl3 := congrArg List.length hdo
    have hdl := hl3
    rw [List.length_append] at hdl
    refine c_exit ?_; refine x_then_exit ?_; refine x_then_exit ?_; refine x_block_exit ?_; refine x_then (hK13 _ _ _ ?_); refine c_seqD fun _ hK24 => ?_; refine c_region ?_; refine o_step rfl (s_move rfl) ?_; refine o_step rfl (s_move rfl) ?_; refine o_step rfl (s_move rfl) ?_; refine o_step rfl (step_cast (v' := .slice (midA xa xc at_ 1) (w.drop at_).length (xc - at_)) (s_slice_lo rfl rfl (by omega)) (by simp only [Int.toNat_natCast, List.length_drop])) ?_; refine o_app hSo (rdk_drop (RdK.old hx0 ha0) at_ hat) rfl rfl rfl rfl (by omega) (by omega) rfl pkA fun a75 c75 S75 hS75 => ?_; refine o_step rfl (s_assign rfl) ?_; refine o_nil ?_; refine x_then (hK24 _ _ _ ?_); refine c_seqD fun _ hK25 => ?_; refine c_seqD fun _ hK26 => ?_; refine c_region ?_; refine o_step rfl (s_move rfl) ?_; refine o_step rfl (s_len rfl) ?_; refine o_step rfl (s_move rfl) ?_
    by_cases hbig2 : most < ((o ++ w.drop at_).length : Int)
    ·
     rw [hdo] at hbig2
     refine o_step rfl (step_cast (v' := .bool true) (s_gtr rfl rfl) (by rw [decide_eq_true (by omega)])) ?_; refine o_nil ?_; refine x_then (hK26 _ _ _ ?_); refine c_true rfl ?_; refine c_seqD fun _ hK27 => ?_; refine c_region ?_; refine o_step rfl (s_assign rfl) ?_; refine o_step rfl (s_assign rfl) ?_; refine o_step rfl (s_assign rfl) ?_; refine o_nil ?_; refine x_then (hK27 _ _ _ ?_); refine c_ret ?_; refine x_then_ret (?_); refine x_sub (Sub.refl _) (H' := (D0, .deferred (some [])) :: S2) hzB ?_; exact x_retM (.cons (.nil)) pkA rfl (.tmp rfl (.tmp rfl (.tmp rfl (.nil)))) (⟨s2, S2, hs2, .inl ⟨by omega, rfl, rfl⟩⟩)
    ·
     rw [hdo] at hbig2
     refine o_step rfl (step_cast (v' := .bool false) (s_gtr rfl rfl) (by rw [decide_eq_false (by omega)])) ?_; refine o_nil ?_; refine x_then (hK26 _ _ _ ?_); refine c_false rfl ?_; refine c_skip ?_; refine x_then (hK25 _ _ _ ?_); refine c_seqD fun _ hK28 => ?_; refine c_quiet (by kernel_rfl) ?_; refine .op rfl (s_move rfl) ?_; refine .op rfl (s_ld rfl (.own meA rfl)) ?_; refine .op rfl (s_len rfl) ?_; refine .op rfl (s_assign rfl) ?_; refine .op rfl (s_assign rfl) ?_; refine .op rfl (s_assign rfl) ?_; refine .nil ?_; refine x_then (hK28 _ _ _ ?_); refine c_ret ?_; refine ?_; refine x_sub (Sub.refl _) (H' := (D0, .deferred (some [])) :: (S75 ++ S2)) hzB ?_; exact x_retM (.cons (.nil)) pkA rfl (.tmp rfl (.tmp rfl (.tmp rfl (.nil)))) (⟨s2, S2, hs2, .inr ⟨by omega, a75, c75, S75, by rw [hdo, hnc]; rfl, by rw [hdo] at hS75; exact hS75, rfl⟩⟩)
  ·
   rintro D0 S0r c p B0 ⟨s2, S2, rfl, hs2⟩ hpx ⟨hce, hall, q, Sh, Sc, y, rfl, hO, hqx, hL, hdy⟩
   subst hce
   have hch : chs first all xs = [y] := by rw [hall]; exact chs_one hpx hdy
   rw [← hch] at hqx hL
   have hnc : (chs first all xs).length = q.xs.length := by rw [← hqx, List.length_map]
   have hqb : q.xs.length ≤ 1000002 := by rw [← hnc, hch]; simp
   rw [← hqx] at hL
   refine c_exit ?_; refine x_block_exit ?_; refine x_then (hK4 _ _ _ ?_); refine c_seqD fun _ hK29 => ?_; refine c_region ?_; refine o_step rfl (s_assign rfl) ?_; refine o_nil ?_; refine x_then (hK29 _ _ _ ?_); refine c_seqD fun _ hK30 => ?_; refine c_region ?_; refine o_step rfl (s_assign rfl) ?_; refine o_nil ?_; refine x_then (hK30 _ _ _ ?_); refine c_seqD fun _ hK31 => ?_; refine c_seqD fun _ hK32 => ?_; refine c_region ?_; refine o_step rfl (s_ld rfl (.own meA rfl)) ?_; refine o_step rfl (s_len rfl) ?_; refine o_step rfl (s_move rfl) ?_; refine o_nil ?_; refine x_then (hK32 _ _ _ ?_); refine c_block ?_
   -- not carried: 12 13 14
   refine c_loop6 (fun (i : Nat) (at_ : Nat) (a2 : Option Addr) (c2 : Nat) (o : List UInt8) (So : Hp) => i ≤ q.xs.length ∧ o ++ doF w (ps.map Pc.abs) at_ ((q.xs.map Sl.xs).drop i) = (doF w (ps.map Pc.abs) 0 (chs first all xs)) ∧ ChG w.length at_ ((q.xs.map Sl.xs).drop i) ∧ at_ ≤ w.length ∧ OwnS Eb 1 5 (.slice a2 o.length c2) o So) (fun (i : Nat) (at_ : Nat) (a2 : Option Addr) (c2 : Nat) (o : List UInt8) (So : Hp) => [(39, .int .i64 i), (19, .int .i64 at_), (18, .slice a2 o.length c2)]) [(1, _), (2, _), (5, _), (15, _), (37, _), (38, _)] (fun (i : Nat) (at_ : Nat) (a2 : Option Addr) (c2 : Nat) (o : List UInt8) (So : Hp) => (D0, .deferred (some [])) :: (b15, .cells [.slice q.a q.xs.length q.c].toArray 29 (0, 0)) :: (Sh ++ (Sc ++ (So ++ S2)))) (fun (i : Nat) (at_ : Nat) (a2 : Option Addr) (c2 : Nat) (o : List UInt8) (So : Hp) => q.xs.length - i) 0 0 none 0 [] [] ⟨Nat.zero_le _, by rw [hqx]; rfl, by rw [hqx]; exact hcg, Nat.zero_le _, .nil⟩ sbA sbA hzB ?_
   rintro i at_ a2 c2 o So ⟨hi, hdo, hcg2, hat, hSo⟩
   refine c_seqD fun _ hK33 => ?_; refine c_region ?_; refine o_step rfl (s_lss rfl rfl) ?_; refine o_nil ?_; refine x_then (hK33 _ _ _ ?_); refine c_seqD fun _ hK34 => ?_; refine c_if rfl (fun hlt => ?_) (fun hlt => ?_)
   ·
    obtain ⟨sL, hsL⟩ : ∃ s, q.xs[i]? = some s := ⟨_, List.getElem?_eq_getElem (by omega)⟩
    have hcx2 : (q.xs.map Sl.xs)[i]? = some sL.xs := by rw [List.getElem?_map, hsL]; rfl
    obtain ⟨hLs, hLr⟩ := OwnL.slv hL hsL hcx2
    have hdr : (q.xs.map Sl.xs).drop i = sL.xs :: (q.xs.map Sl.xs).drop (i + 1) := by rw [List.drop_eq_getElem?_toList_append, hcx2]; rfl
    rw [hdr] at hdo hcg2
    obtain ⟨p2, q2, hg, hcr⟩ := ChG.inv hcg2
    have hg1 := hg.ge
    have hg2 := hg.le
    have hg3 := hg.ln
    have hLp : 0 < sL.xs.length := (List.getElem?_eq_some_iff.1 hg.hd).1
    have hdl := congrArg List.length hdo
    rw [doF_cons hg, List.length_append, List.length_append, List.length_append] at hdl
    have hmin : min (longS sL.xs (ps.map Pc.abs)) 1099511627776 = (expd w (ps.map Pc.abs) sL.xs).length := by rw [← expd_len hg.all]; omega
    have hl1 : (o ++ (w.drop at_).take (p2 - at_)).length = o.length + ((w.drop at_).take (p2 - at_)).length := List.length_append
    have hl2 : (o ++ (w.drop at_).take (p2 - at_) ++ expd w (ps.map Pc.abs) sL.xs).length = o.length + ((w.drop at_).take (p2 - at_)).length + (expd w (ps.map Pc.abs) sL.xs).length := by rw [List.length_append, List.length_append]
    refine c_skip ?_; refine x_then (hK34 _ _ _ ?_); refine c_seqD fun _ hK35 => ?_; refine c_block ?_; refine c_seqD fun _ hK36 => ?_; refine c_region ?_; refine o_step rfl (s_idx rfl rfl hO.sl (by omega)) ?_; refine o_step rfl (s_ld rfl ((hO.rdk hiA).ld i 0 hsL rfl (by decide) (by omega))) ?_; refine o_step rfl (s_assign rfl) ?_; refine o_nil ?_; refine x_then (hK36 _ _ _ ?_); refine c_seqD fun _ hK37 => ?_; refine c_seqD fun _ hK38 => ?_; refine c_region ?_; refine o_step rfl (s_move rfl) ?_; refine o_step rfl (s_move rfl) ?_; refine o_step rfl (s_move rfl) ?_; refine o_step rfl (s_move rfl) ?_; refine o_step rfl (s_idx rfl rfl hLs (by omega)) ?_; refine o_step rfl (s_field rfl rfl (by decide)) ?_; refine o_step rfl (s_ld rfl ((hLr.rdk hiA).ld 0 0 hg.hd rfl (by decide) (by simp only [soff, Sl.v]; rfl))) ?_; refine o_step rfl (step_cast (v' := .slice (midA xa xc at_ 1) ((w.drop at_).take (p2 - at_)).length (xc - at_)) (s_slice_mid rfl rfl rfl (by show (0 : Int) ≤ at_ ∧ (at_ : Int) ≤ (p2 : Int) ∧ (p2 : Int) ≤ xc; omega)) (by show Value.slice (midA xa xc ((at_ : Int)).toNat 1) (((p2 : Int)).toNat - ((at_ : Int)).toNat) (xc - ((at_ : Int)).toNat) = _; simp only [Int.toNat_natCast, List.length_take, List.length_drop]; congr 1; omega)) ?_
    refine o_app hSo ((RdK.old hx0 ha0).mid at_ p2 (by omega) (by omega)) rfl rfl rfl rfl (by omega) (by omega) rfl pkA fun a51 c51 S51 hS51 => ?_; refine o_step rfl (s_assign rfl) ?_; refine o_nil ?_; refine x_then (hK38 _ _ _ ?_); refine c_seqD fun _ hK39 => ?_; refine c_region ?_; refine o_step rfl (s_move rfl) ?_; refine o_step rfl (s_len rfl) ?_; refine o_step rfl (s_move rfl) ?_; refine o_step rfl (s_move rfl) ?_; refine o_callP (fLong_fn pa pc ps sL.a sL.c sL.xs w.length hwl hg.all hpb) rfl rfl rfl (fun _ st => ⟨(RdK.old hpp hpa).out _ st, (hLr.rdk hiA).out _ st⟩) (fun v56 hv56 => ?_)
    rw [hmin] at hv56
    subst hv56; refine o_step rfl (s_add rfl rfl (by omega)) ?_; refine o_step rfl (s_move rfl) ?_
    by_cases hbig : most < ((o ++ (w.drop at_).take (p2 - at_)).length : Int) + ((expd w (ps.map Pc.abs) sL.xs).length : Int)
    ·
     refine o_step rfl (step_cast (v' := .bool true) (s_gtr rfl rfl) (by rw [decide_eq_true (by omega)])) ?_; refine o_nil ?_; refine x_then (hK39 _ _ _ ?_); refine c_true rfl ?_; refine c_seqD fun _ hK40 => ?_; refine c_region ?_; refine o_step rfl (s_assign rfl) ?_; refine o_step rfl (s_assign rfl) ?_; refine o_step rfl (s_assign rfl) ?_; refine o_nil ?_; refine x_then (hK40 _ _ _ ?_); refine c_ret ?_; refine x_then_ret (x_block_ret (x_then_ret (x_then_ret (x_block_ret (x_then_ret (?_))))))
     refine x_sub (Sub.refl _) (H' := (D0, .deferred (some [])) :: S2) hzB ?_; exact x_retM (.cons (.nil)) pkA rfl (.tmp rfl (.tmp rfl (.tmp rfl (.nil)))) (⟨s2, S2, hs2, .inl ⟨by omega, rfl, rfl⟩⟩)
    ·
     refine o_step rfl (step_cast (v' := .bool false) (s_gtr rfl rfl) (by rw [decide_eq_false (by omega)])) ?_; refine o_nil ?_; refine x_then (hK39 _ _ _ ?_); refine c_false rfl ?_; refine c_skip ?_; refine x_then (hK37 _ _ _ ?_); refine c_seqD fun _ hK41 => ?_; refine c_region ?_; refine o_step rfl (s_move rfl) ?_; refine o_step rfl (s_move rfl) ?_; refine o_step rfl (s_move rfl) ?_; refine o_step rfl (s_move rfl) ?_; refine o_call (expand_fn pa pc ps xa xc w sL.a sL.c sL.xs (by omega)) rfl rfl rfl (by exact .nil) (fun _ st => ⟨⟨(RdK.old hpp hpa).out _ st, fun p hp => (RdK.old (hpt p hp).1 (hpt p hp).2).out _ st⟩, (RdK.old hx0 ha0).out _ st, (hLr.rdk hiA).out _ st⟩) (fun v64 S64 ⟨a64, c64, hv64, hO64⟩ => ?_); subst hv64
     refine o_app hS51 (hO64.rdk hiA) rfl rfl rfl rfl (by omega) (by omega) rfl pkA fun a65 c65 S65 hS65 => ?_; refine o_step rfl (s_assign rfl) ?_; refine o_nil ?_; refine x_then (hK41 _ _ _ ?_); refine c_region ?_; refine o_step rfl (s_move rfl) ?_; refine o_step rfl (s_idx rfl rfl hLs (by omega)) ?_; refine o_step rfl (s_field rfl rfl (by decide)) ?_; refine o_step rfl (s_ld rfl ((hLr.rdk hiA).ld 0 1 hg.hd rfl (by decide) (by simp only [soff, Sl.v]; rfl))) ?_; refine o_step rfl (s_assign rfl) ?_; refine o_nil ?_; refine x_block ?_; refine x_then (hK35 _ _ _ ?_); refine c_region ?_; refine o_step rfl (s_add rfl rfl (by omega)) ?_; refine o_step rfl (s_move rfl) ?_; refine o_nil ?_; exact x_then (x_inv (i + 1, q2, a65, c65, o ++ (w.drop at_).take (p2 - at_) ++ expd w (ps.map Pc.abs) sL.xs, S65) ⟨by dsimp only; omega, by rw [← hdo, doF_cons hg]; simp only [List.append_assoc], hcr, hg.ln, hS65⟩ (by first | omega | (dsimp only; omega)) sbA hzB)
   ·
    obtain rfl : i = (q.xs.map Sl.xs).length := by rw [List.length_map]; omega
    rw [List.drop_length] at hdo
    rw [doF] at hdo
    have hl3 := congrArg List.length hdo
    have hdl := hl3
    rw [List.length_append] at hdl
    refine c_exit ?_; refine x_then_exit ?_; refine x_then_exit ?_; refine x_block_exit ?_; refine x_then (hK31 _ _ _ ?_); refine c_seqD fun _ hK42 => ?_; refine c_region ?_; refine o_step rfl (s_move rfl) ?_; refine o_step rfl (s_move rfl) ?_; refine o_step rfl (s_move rfl) ?_; refine o_step rfl (step_cast (v' := .slice (midA xa xc at_ 1) (w.drop at_).length (xc - at_)) (s_slice_lo rfl rfl (by omega)) (by simp only [Int.toNat_natCast, List.length_drop])) ?_; refine o_app hSo (rdk_drop (RdK.old hx0 ha0) at_ hat) rfl rfl rfl rfl (by omega) (by omega) rfl pkA fun a75 c75 S75 hS75 => ?_; refine o_step rfl (s_assign rfl) ?_; refine o_nil ?_; refine x_then (hK42 _ _ _ ?_); refine c_seqD fun _ hK43 => ?_; refine c_seqD fun _ hK44 => ?_; refine c_region ?_; refine o_step rfl (s_move rfl) ?_; refine o_step rfl (s_len rfl) ?_; refine o_step rfl (s_move rfl) ?_
    by_cases hbig2 : most < ((o ++ w.drop at_).length : Int)
    ·
     rw [hdo] at hbig2
     refine o_step rfl (step_cast (v' := .bool true) (s_gtr rfl rfl) (by rw [decide_eq_true (by omega)])) ?_; refine o_nil ?_; refine x_then (hK44 _ _ _ ?_); refine c_true rfl ?_; refine c_seqD fun _ hK45 => ?_; refine c_region ?_; refine o_step rfl (s_assign rfl) ?_; refine o_step rfl (s_assign rfl) ?_; refine o_step rfl (s_assign rfl) ?_; refine o_nil ?_; refine x_then (hK45 _ _ _ ?_); refine c_ret ?_; refine x_then_ret (?_); refine x_sub (Sub.refl _) (H' := (D0, .deferred (some [])) :: S2) hzB ?_; exact x_retM (.cons (.nil)) pkA rfl (.tmp rfl (.tmp rfl (.tmp rfl (.nil)))) (⟨s2, S2, hs2, .inl ⟨by omega, rfl, rfl⟩⟩)
    ·
     rw [hdo] at hbig2
     refine o_step rfl (step_cast (v' := .bool false) (s_gtr rfl rfl) (by rw [decide_eq_false (by omega)])) ?_; refine o_nil ?_; refine x_then (hK44 _ _ _ ?_); refine c_false rfl ?_; refine c_skip ?_; refine x_then (hK43 _ _ _ ?_); refine c_seqD fun _ hK46 => ?_; refine c_quiet (by kernel_rfl) ?_; refine .op rfl (s_move rfl) ?_; refine .op rfl (s_ld rfl (.own meA rfl)) ?_; refine .op rfl (s_len rfl) ?_; refine .op rfl (s_assign rfl) ?_; refine .op rfl (s_assign rfl) ?_; refine .op rfl (s_assign rfl) ?_; refine .nil ?_; refine x_then (hK46 _ _ _ ?_); refine c_ret ?_; refine ?_; refine x_sub (Sub.refl _) (H' := (D0, .deferred (some [])) :: (S75 ++ S2)) hzB ?_; exact x_retM (.cons (.nil)) pkA rfl (.tmp rfl (.tmp rfl (.tmp rfl (.nil)))) (⟨s2, S2, hs2, .inr ⟨by omega, a75, c75, S75, by rw [hdo, hnc]; rfl, by rw [hdo] at hS75; exact hS75, rfl⟩⟩)
end Go.Proofs.Ytmpeokbongnniaa
