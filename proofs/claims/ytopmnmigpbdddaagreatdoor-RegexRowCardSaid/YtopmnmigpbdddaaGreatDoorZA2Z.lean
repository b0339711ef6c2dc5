/- Part of the proofs over this seat: see the text that holds the theorem. Conditions: each theorem bears its own. -/
import Derived.Test.YtopmnmigpbdddaaGreatDoorHTZ
import Derived.Test.YtopmnmigpbdddaaGreatDoorZA1Z
import Derived.Test.YtopmnmigpbdddaaGreatDoorZW6Z
import Derived.Test.YtopmnmigpbdddaaGreatDoorBS7Z
import Derived.Test.YtopmnmigpbdddaaGreatDoorZB9Z
import Derived.Test.YtopmnmigpbdddaaGreatDoorMT8Z
import Derived.Test.YtopmnmigpbdddaaGreatDoorHlB
import Derived.Test.YtopmnmigpbdddaaGreatDoorMT3Z
import Derived.Test.YtopmnmigpbdddaaGreatDoorZB4Z
import Derived.Test.YtopmnmigpbdddaaGreatDoorZN1Z
import Derived.Test.YtopmnmigpbdddaaGreatDoorMK3Z
namespace Go.Proofs.YtopmnmigpbdddaaGreatDoor
open Go Go.HL Go.Proofs Go.HL.Kl Go.HL.Kl.Mc Go.HL.Kl.Mc.AskE
theorem Fn.pre' {P : Program} {f : FuncId} {args : List Value} {pre pre' : World → Prop} {S : Hp} {post : Value → Hp → Prop} (h : HL.Fn P f args pre S post) (hp : ∀ W, pre' W → pre W) : HL.Fn P f args pre' S post := ⟨h.enters, fun w hw hS => h.calls w (hp w hw) hS⟩
structure EngC (w : List UInt8) (re : List Nd) (a1 : Option Addr) (c1 bR ty : Nat) (hv : Value) (fnum : Nat) (Sq : Hp) (Rl : Int → Bool → List Sp → Prop) (Pg : World → List Nat → Prop) (Pm : World → Prop) : Prop where
  find : ∀ (xa : Option Addr) (xc f : Nat), HL.Fn Tryz.prog fnum [hv, .slice a1 re.length c1, .slice xa w.length xc, .int .i64 f] (fun W => Pm W ∧ Rd En W (.slice a1 re.length c1) re ∧ Rd Eb W (.slice xa w.length xc) w) [] (fun v S' => ∃ b L a c, v = .tuple #[.slice a L.length c, .bool b] ∧ OwnS Esp 2 40 (.slice a L.length c) L S' ∧ Rl f b L)
  Find : ∀ (xa : Option Addr) (xc : Nat) (f : Int), HL.Fn Tryz.prog 14 [pt bR, .slice xa w.length xc, .int .i64 f] (fun W => RdP W bR 0 [.slice a1 re.length c1, .iface ty (hv), .int .i64 ((gcn re : Nat) : Int)] ∧ Pm W ∧ Rd En W (.slice a1 re.length c1) re ∧ Rd Eb W (.slice xa w.length xc) w) [] (fun v S' => ∃ b L a c, v = .tuple #[.slice a L.length c, .bool b] ∧ OwnS Esp 2 40 (.slice a L.length c) L S' ∧ Rl f b L)
  pm : ∀ {w0 w : World} {M : List Nat} {H : Hp}, Pg w0 M → St w0 w M H → HIn Sq H → Pm w
  pg : ∀ {w0 w : World} {M : List Nat} {H S : Hp}, Pg w0 M → St w0 w M H → HIn S H → Pg w (keys S)
  good : ∀ (f : Nat) L, Rl f true L → (∃ p q, GoodL w.length f L p q) ∧ L.length = gcn re + 1
  none : ∀ f L, Rl f false L → L = []
  det : ∀ f b L b' L', Rl f b L → Rl f b' L' → b = b' ∧ L = L'
theorem frbk_len {re : List Nd} {w : List UInt8} {f : Int} {L : List Sp} (h : FRes re w f true L) : L.length = gcn re + 1 := by
  rcases h with ⟨x, ks, g, p, q, _, _, _, _, rfl⟩ | ⟨_, h, _⟩
  · exact capsV_len
  · cases h
set_option maxHeartbeats 2000000 in
theorem findB_fn (bR : Nat) (a1 : Option Addr) (c1 : Nat) (re : List Nd) (hre : ∀ x ∈ re, -128 ≤ x.op ∧ x.op < 128) (hrl : re.length ≤ 1000000) (xa : Option Addr) (xc : Nat) (w : List UInt8) (hwl : w.length ≤ 1000000) (hsb : shapedB re = true) (hfit : Fits re w.length) (f : Int) : HL.Fn Tryz.prog 14 [pt bR, .slice xa w.length xc, .int .i64 f] (fun W => RdP W bR 0 [.slice a1 re.length c1, .iface 128 (.int .i64 4611686018427387904), .int .i64 ((gcn re : Nat) : Int)] ∧ RdP W 0 0 (Esp noS) ∧ Rd En W (.slice a1 re.length c1) re ∧ Rd Eb W (.slice xa w.length xc) w) [] (fun v S' => ∃ b L a c, v = .tuple #[.slice a L.length c, .bool b] ∧ OwnS Esp 2 40 (.slice a L.length c) L S' ∧ BkRes re w f b L) := by
  refine fn_of Tryz.func14 rfl rfl rfl fun w0 hw => ?_
  have hxl := hw.2.2.2.sl
  refine cR fun _ hK1 => ?_; refine oA (oA (oZ hK1 (c_seq fun _ hK2 => ?_))); refine cR fun _ hK3 => ?_; refine oM ?_; refine oS (step_cast (v' := .bool false) (s_eql_nilp rfl rfl) rfl) ?_; refine oM ?_; refine oY (oM ?_); refine oY ?_
  by_cases hf0 : f < 0
  ·refine oS lsT ?_; refine oS sP (oM ?_); refine oN ?_; refine oN ?_; refine oN ?_; refine oN ?_; refine oS sT (oZ hK3 ?_); refine cT (cR fun _ hK4 => ?_); refine oA (oA (oZ hK4 (c_ret ?_))); refine x_then_ret (?_); refine x_sub (Sub.refl _) (H' := []) hzB ?_; exact x_ret rfl (.tmp rfl (.tmp rfl (.nil))) (⟨false, [], none, 0, rfl, .nil, .inl ⟨fun h => by omega, rfl, rfl⟩⟩)
  ·obtain ⟨f, rfl⟩ : ∃ n : Nat, f = n := ⟨f.toNat, by omega⟩
   refine oS lsF ?_; refine oS sP (oM ?_); refine oY (oM ?_); refine oY (oM ?_); refine oY ?_; refine oS sC ?_; refine oY ?_
   by_cases hfn : (f : Int) > w.length
   ·refine oS gtT ?_; refine oS sP (oZ hK3 ?_); refine cT (cR fun _ hK5 => ?_); refine oA (oA (oZ hK5 (c_ret ?_))); refine x_then_ret (?_); refine x_sub (Sub.refl _) (H' := []) hzB ?_; exact x_ret rfl (.tmp rfl (.tmp rfl (.nil))) (⟨false, [], none, 0, rfl, .nil, .inl ⟨fun h => by omega, rfl, rfl⟩⟩)
   ·refine oS gtF ?_; refine oS sP (oZ hK3 ?_); refine cFZ hK2 (c_seq fun _ hK6 => ?_); refine cR fun _ hK7 => ?_; refine oM ?_; refine oS sN ?_; refine oS sF ?_; refine oS (s_ld rfl ((RdPK.old0 hw.1).cel (j := 1) rfl rfl)) ?_; refine oZ hK7 (c_block (cR fun _ hK8 => ?_)); refine oS (s_tas_f (by kernel_rfl) rfl rfl) ?_; refine oS sE ?_; refine oS sE (oZ hK8 ?_); refine cF (cR fun _ hK9 => ?_); refine oS (s_tas_t (by kernel_rfl) rfl) ?_; refine oS sE ?_; refine oS sE (oZ hK9 ?_); refine cT (cR fun _ hK10 => ?_); refine oA (oZ hK10 (cR fun _ hK11 => ?_)); refine oM (oM ?_); refine oS sN ?_; refine oS sF ?_; refine oS (s_ld rfl ((RdPK.old0 hw.1).cel (j := 0) rfl rfl)) ?_; refine oM (oM ?_); refine o_call (fuelled_fn a1 c1 re hre hrl xa xc w hwl hsb hfit f) rfl rfl rfl (by exact .nil) (fun w st => ⟨(RdPK.old0 hw.2.1).out w st, (RdK.old0 hw.2.2.1).out w st, (RdK.old0 hw.2.2.2).out w st⟩) (fun v49 S49 ⟨b, L, a, c, hv49, hO, hB⟩ => ?_)
    subst hv49; refine oS sE ?_; refine oS sE (oA (oA (oZ hK11 (c_ret ?_)))); refine x_block_ret (x_then_ret (?_))
    refine x_sub (Sub.refl _) (H' := S49) hzB ?_; exact x_ret rfl (.tmp rfl (.tmp rfl (.nil))) (⟨b, L, a, c, rfl, hO, hB⟩)
theorem eng_plain (w : List UInt8) (hwl : w.length ≤ 1000000) (re : List Nd) (hre : ∀ x ∈ re, -128 ≤ x.op ∧ x.op < 128) (a1 : Option Addr) (c1 bR : Nat) (x : Nd) (ks : F) (hM : May re w x ks) (am : Option Addr) (mc : Nat) (Sr Sm : Hp) (hOm : OwnS Ein 7 145 (.slice am (mach (.nd x ks .nil)).length mc) (mach (.nd x ks .nil)) Sm) :
    EngC w re a1 c1 bR 130 (.agg #[.slice am (mach (.nd x ks .nil)).length mc]) 62 (Sr ++ Sm) (FRes re w) (fun _ _ => True) (fun W => Rd Ein W (.slice am (mach (.nd x ks .nil)).length mc) (mach (.nd x ks .nil))) where
  find := fun xa xc f => Fn.sub (plainO_fn a1 c1 re hre xa xc w hwl x ks hM am mc f) fun v S' ⟨S2, h1, h2⟩ => by
    obtain ⟨b, L, a, c, h3, h4, h5⟩ := h2.res
    exact ⟨S2, h1, b, L, a, c, h4, h5, h3⟩
  Find := fun xa xc f => Fn.sub (Fn.pre' (find_re bR a1 c1 re hre xa xc w hwl x ks hM am mc f) fun W h => ⟨h.1, h.2.1, h.2.2.1, h.2.2.2⟩) fun v S' h2 => by
    obtain ⟨b, L, a, c, h3, h4, h5⟩ := h2.res
    exact ⟨S', HSub.refl _, b, L, a, c, h4, h5, h3⟩
  pm := fun {w0 w M H} _ st hin => (hOm.rdk (κ := ⟨0, [], w0, M⟩) (H := H) (fun p hp => hin p (List.mem_append_right _ hp))).out w st
  pg := fun _ _ _ => trivial
  good := fun f L h => ⟨h.good, frbk_len h⟩
  none := fun f L h => h.none
  det := fun f b L b' L' h h' => h.uniq h'
theorem eng_back (w : List UInt8) (hwl : w.length ≤ 1000000) (re : List Nd) (hre : ∀ x ∈ re, -128 ≤ x.op ∧ x.op < 128) (hrl : re.length ≤ 1000000) (hsb : shapedB re = true) (hfit : Fits re w.length) (a1 : Option Addr) (c1 bR : Nat) (Sq : Hp) :
    EngC w re a1 c1 bR 128 (.int .i64 4611686018427387904) 63 Sq (BkRes re w) (fun W M => RdP W 0 0 (Esp noS) ∧ 0 ∉ M) (fun W => RdP W 0 0 (Esp noS)) where
  find := fun xa xc f => fuelled_fn a1 c1 re hre hrl xa xc w hwl hsb hfit f
  Find := fun xa xc f => findB_fn bR a1 c1 re hre hrl xa xc w hwl hsb hfit f
  pm := fun {w0 w M H} h st _ => (RdPK.old (κ := ⟨0, [], w0, M⟩) (H := H) h.1 h.2).out w st
  pg := fun {w0 w M H S} h st hin => ⟨(RdPK.old (κ := ⟨0, [], w0, M⟩) (H := H) h.1 h.2).out w st, st.notin hin h.1 (by simp [Esp]) h.2⟩
  good := fun f L h => h.good hrl
  none := fun f L h => h.none
  det := fun f b L b' L' h h' => h.uniq h'
end Go.Proofs.YtopmnmigpbdddaaGreatDoor
namespace Go.HL
open Go
theorem s_eql_ifacen {P : Program} {κ : Cx} {L : Loc} {H : Hp} {ty t t' tv : TypeId} {x : Operand} {v : Value} (h : (P.underlying t).map noIf = some false) (hx : ev L x = some (.iface tv v)) : Step P κ (.binOp .eql t x (.const .nilIface) t') ty L H (.bool false) :=
  ⟨fun ρ w d pos af g hρ _ => by
    have hy := hρ (.const .nilIface) .nilIface rfl
    cases hu : P.underlying t with
    | none => simp [hu] at h
    | some D =>
      simp only [hu, Option.map_some, Option.some.injEq] at h
      have he : (Op.equal t (.iface tv v) .nilIface).run P w = .ok false w := by
        have key : ∀ n, (Op.equalIn (n + 1) t (.iface tv v) .nilIface).run P w = .ok false w := fun n => by
          cases D <;> first | (simp [noIf] at h; done) | simp [Op.equalIn, run_underlying hu]
        exact key 9999
      have h1 : (eqGuard .eql t x (.const .nilIface) (.iface tv v) .nilIface).run P w = .ok () w := by simp [eqGuard]
      have h2 : (binOp .eql t (.iface tv v) .nilIface).run P w = .ok (.bool false) w := by simp only [binOp, Sem.run_bind, he, Result.andThen_ok, Sem.run_pure]
      simp only [execOp, hρ _ _ hx, hy, Sem.run_bind, h1, Result.andThen_ok, h2, Sem.run_pure]⟩
theorem s_nili {P : Program} {κ : Cx} {L : Loc} {H : Hp} {ty tv : TypeId} {x : Operand} {v : Value} (hx : ev L x = some (.iface tv v)) : Step P κ (.nilCheck x) ty L H (.iface tv v) :=
  ⟨fun ρ w d pos af g hρ _ => by simp [execOp, hρ _ _ hx]⟩
end Go.HL
namespace Go.Proofs.YtopmnmigpbdddaaGreatDoor
open Go Go.HL Go.Proofs Go.HL.Kl Go.HL.Kl.Mc Go.HL.Kl.Mc.AskE
theorem mt_meas {n a p q : Nat} {last : Int} {L : List Sp} (hg : GoodL n a L p q) (hl : ¬ (p = q ∧ last = p)) : 2 * (n + 1 - q) + (if (q : Int) = (q : Nat) then 0 else 1) < 2 * (n + 1 - a) + (if last = (a : Nat) then 0 else 1) := by
  have h1 := hg.ge
  have h2 := hg.le
  have h3 := hg.ln
  rw [if_pos rfl]
  split
  · have : a < q := by
      rcases Nat.lt_or_ge a q with h' | h'
      · exact h'
      · exact absurd ⟨by omega, by omega⟩ hl
    omega
  · omega
theorem hin_trans {A B C : Hp} (h1 : HIn A B) (h2 : HIn B C) : HIn A C := fun p h => h2 p (h1 p h)
theorem cloneB_fn (a : Option Addr) (c : Nat) (xs : List UInt8) (hxl : xs.length ≤ 1000000) : HL.Fn Tryz.prog 79 [.slice a xs.length c] (fun w => Rd Eb w (.slice a xs.length c) xs) [] (fun v S' => ∃ a' c', v = .slice a' xs.length c' ∧ OwnS Eb 1 5 (.slice a' xs.length c') xs S') := by
  refine fn_of Tryz.func79 rfl rfl rfl fun w0 hw => ?_
  have hsx := hw.sl
  have hbx := hsx.le
  refine cR fun _ hK1 => ?_; refine oA (oZ hK1 (c_seq fun _ hK2 => ?_)); refine cR fun _ hK3 => ?_; refine oM ?_; refine oS (s_eql_nils rfl rfl) ?_; refine oZ hK3 ?_; refine c_cond rfl (fun hn => ?_) (fun hn => ?_)
  ·have ha : a = none := Option.isNone_iff_eq_none.1 hn
   subst ha
   have hx0 : xs = [] := List.eq_nil_of_length_eq_zero hsx.none
   subst hx0; refine cR fun _ hK4 => ?_; refine oA (oZ hK4 (c_ret ?_)); refine x_then_ret (?_); exact xR rfl rfl (⟨_, _, rfl, .nil⟩)
  ·refine c_skip (xZ hK2 (cR fun _ hK5 => ?_)); refine o_bs (E := Eb) (xs := []) (vs := []) rfl rfl rfl rfl rfl (by decide) (by decide) fun b5 S5 hS5 => ?_; refine oM ?_; refine o_app hS5 (RdK.old0 hw) rfl rfl rfl rfl (by simp; omega) (by simp; omega) rfl pkA fun a7 c7 S7 hS7 => ?_; refine oA (oZ hK5 (c_ret ?_)); refine ?_
   simp only [List.nil_append] at hS7
   exact xR rfl rfl (⟨_, _, rfl, by simpa using hS7⟩)
theorem gone1_fn (x : Sl Sp) (b5 b3 : Nat) (m : Int) (hm : m ≤ 1000010) (oa : Option Addr) (oc : Nat) (os : List (Sl Sp)) (SO : Hp) (hO : OwnS Esl 1 31 (.slice oa os.length oc) os SO) (hol : os.length ≤ 1000000) : HL.Fn Tryz.prog 78 [.slice x.a x.xs.length x.c, pt b5, pt b3] (fun _ => True) ((b5, .cells [.slice oa os.length oc].toArray 58 (0, 0)) :: (b3, .cells [.int .i64 m].toArray 3 (0, 0)) :: SO) (fun v S' => ∃ oa' oc' SO', v = .bool (decide ((os.length : Int) + 1 < m)) ∧ S' = (b5, .cells [.slice oa' (os ++ [x]).length oc'].toArray 58 (0, 0)) :: (b3, .cells [.int .i64 m].toArray 3 (0, 0)) :: SO' ∧ OwnS Esl 1 31 (.slice oa' (os ++ [x]).length oc') (os ++ [x]) SO') := by
  refine fn_of Tryz.func78 rfl rfl rfl fun w0 hw => ?_; refine cR fun _ hK1 => ?_; refine oA (oZ hK1 (cR fun _ hK2 => ?_)); refine oS sL (oM ?_); refine o_bs (E := Esl) (xs := [x]) (vs := [_]) rfl rfl rfl rfl rfl (by decide) (by decide) fun b7 S7 hS7 => ?_; refine o_app hO (hS7.rdk hiA) rfl rfl rfl rfl (by simp only [List.length_singleton]; omega) (by simp only [List.length_singleton]; omega) rfl pkA fun a8 c8 S8 hS8 => ?_; refine o_store rfl rfl rfl upA ltA rfl ?_; refine oZ hK2 (cR fun _ hK3 => ?_); refine oS sL ?_; refine oS sC ?_; refine oS sL ?_; refine oS (s_lss rfl rfl) ?_; refine oA (oZ hK3 (c_ret ?_)); refine ?_; refine x_sub (Sub.refl _) (H' := (b5, .cells [.slice a8 (os ++ [x]).length c8].toArray 58 (0, 0)) :: (b3, .cells [.int .i64 m].toArray 3 (0, 0)) :: S8) hzB ?_; exact xR rfl rfl (⟨a8, c8, S8, by rw [List.length_append, List.length_singleton]; rfl, rfl, hS8⟩)
set_option maxHeartbeats 4000000 in
theorem allK_fn (w : List UInt8) (hwl : w.length ≤ 1000000) (re : List Nd) (a1 : Option Addr) (c1 bR ty : Nat) (hv : Value) (fnum : Nat) [TM Tryz.prog ty "galley/regex.find" fnum] (Sq : Hp) (Rl : Int → Bool → List Sp → Prop) (Pg : World → List Nat → Prop) (Pm : World → Prop) (hE : EngC w re a1 c1 bR ty hv fnum Sq Rl Pg Pm) (Sr : Hp) (hOr : OwnS En 9 108 (.slice a1 re.length c1) re Sr) (hSr : HIn Sr Sq) (bt br b5 b3 : Nat) (ta : Option Addr) (tc : Nat) (St0 : Hp) (hOT : OwnS Eb 1 5 (.slice ta w.length tc) w St0) : HL.Fn Tryz.prog 80 [.func (.func 78) [].toArray [pt b5, pt b3].toArray, pt br, pt bt] (fun W => Pg W (keys ((bt, .cells [.slice ta w.length tc].toArray 23 (0, 0)) :: (br, .cells [pt bR].toArray 27 (0, 0)) :: (bR, .cells [.slice a1 re.length c1, .iface ty (hv), .int .i64 ((gcn re : Nat) : Int)].toArray 127 (0, 0)) :: (b5, .cells [.slice none 0 0].toArray 58 (0, 0)) :: (b3, .cells [.int .i64 ((w.length : Nat) + 3)].toArray 3 (0, 0)) :: (Sq ++ St0)))) ((bt, .cells [.slice ta w.length tc].toArray 23 (0, 0)) :: (br, .cells [pt bR].toArray 27 (0, 0)) :: (bR, .cells [.slice a1 re.length c1, .iface ty (hv), .int .i64 ((gcn re : Nat) : Int)].toArray 127 (0, 0)) :: (b5, .cells [.slice none 0 0].toArray 58 (0, 0)) :: (b3, .cells [.int .i64 ((w.length : Nat) + 3)].toArray 3 (0, 0)) :: (Sq ++ St0)) (fun _ S' => ∃ oa oc os SO Pool, S' = (bt, .cells [.slice ta w.length tc].toArray 23 (0, 0)) :: (br, .cells [pt bR].toArray 27 (0, 0)) :: (bR, .cells [.slice a1 re.length c1, .iface ty (hv), .int .i64 ((gcn re : Nat) : Int)].toArray 127 (0, 0)) :: (b5, .cells [.slice oa os.length oc].toArray 58 (0, 0)) :: (b3, .cells [.int .i64 ((w.length : Nat) + 3)].toArray 3 (0, 0)) :: (Sq ++ (St0 ++ (SO ++ Pool))) ∧ OwnS Esl 1 31 (.slice oa os.length oc) os SO ∧ PoolR os (gcn re + 1) Pool ∧ os.length ≤ w.length + 1 ∧ MtS (fun (_ : Unit) a b L (_ : Unit) => Rl (a : Nat) b L) w.length () 0 (-1) (os.map Sl.xs)) := by
  refine fn_of Tryz.func80 rfl rfl rfl fun w0 hw => ?_; refine c_seq fun _ hK1 => ?_; refine cR fun _ hK2 => ?_; refine oS sL ?_; refine oS (step_cast (v' := .bool false) (s_eql_nilp rfl rfl) rfl) ?_; refine oM ?_; refine oY ?_; refine oS sL ?_; refine oY ?_; refine oS sN ?_; refine oY ?_; refine oS sF ?_; refine oY ?_; refine oS sL ?_; refine oY ?_; refine oS (s_eql_ifacen (by kernel_rfl) rfl) ?_; refine oS sP (oZ hK2 ?_); refine cFZ hK1 (cR fun _ hK3 => ?_); refine oA (oA (oZ hK3 (c_block ?_))); refine c_loop7 (fun (a : Nat) (last : Int) (oa : Option Addr) (oc : Nat) (os : List (Sl Sp)) (SO : Hp) (Pool : Hp) => a ≤ w.length + 1 ∧ (os.length : Int) ≤ last + 1 ∧ last ≤ w.length ∧ -1 ≤ last ∧ OwnS Esl 1 31 (.slice oa os.length oc) os SO ∧ PoolR os (gcn re + 1) Pool ∧ (∀ r, MtS (fun (_ : Unit) a b L (_ : Unit) => Rl (a : Nat) b L) w.length () a last r → MtS (fun (_ : Unit) a b L (_ : Unit) => Rl (a : Nat) b L) w.length () 0 (-1) (os.map Sl.xs ++ r)) ∧ last ≤ a) (fun (a : Nat) (last : Int) (oa : Option Addr) (oc : Nat) (os : List (Sl Sp)) (SO : Hp) (Pool : Hp) => [(5, .int .i64 last), (4, .int .i64 a)]) [(0, _), (1, _), (2, _)] (fun (a : Nat) (last : Int) (oa : Option Addr) (oc : Nat) (os : List (Sl Sp)) (SO : Hp) (Pool : Hp) => (bt, .cells [.slice ta w.length tc].toArray 23 (0, 0)) :: (br, .cells [pt bR].toArray 27 (0, 0)) :: (bR, .cells [.slice a1 re.length c1, .iface ty (hv), .int .i64 ((gcn re : Nat) : Int)].toArray 127 (0, 0)) :: (b5, .cells [.slice oa os.length oc].toArray 58 (0, 0)) :: (b3, .cells [.int .i64 ((w.length : Nat) + 3)].toArray 3 (0, 0)) :: (Sq ++ (St0 ++ (SO ++ Pool)))) (fun (a : Nat) (last : Int) (oa : Option Addr) (oc : Nat) (os : List (Sl Sp)) (SO : Hp) (Pool : Hp) => 2 * (w.length + 1 - a) + (if last = (a : Nat) then 0 else 1)) 0 (-1) none 0 [] [] [] ⟨by omega, by simp, by omega, by omega, .nil, (fun _ h => by cases h), fun r h => h, by omega⟩ sbA sbA (by simpa using HSub.refl _) ?_
  rintro a last oa oc os SO Pool ⟨hal, hol, hlw, hl1, hOO, hPo, hM, hla⟩
  refine c_seq fun _ hK4 => ?_; refine cR fun _ hK5 => ?_; refine oM ?_; refine oS sL ?_; refine oS sC ?_; refine oS (s_leq rfl rfl) ?_; refine oZ hK5 ?_; refine c_if rfl (fun hle => ?_) (fun hle => ?_)
  ·have ha : a ≤ w.length := by omega
   refine c_skip (xZ hK4 (c_block (c_seq fun _ hK6 => ?_))); refine c_drawE ([(bt, .cells [.slice ta w.length tc].toArray 23 (0, 0)), (br, .cells [pt bR].toArray 27 (0, 0)), (bR, .cells [.slice a1 re.length c1, .iface ty (hv), .int .i64 ((gcn re : Nat) : Int)].toArray 127 (0, 0))]) (fun i => false) ?_; refine eK 0 rfl sL ?_; refine eP 1 rfl sN ?_; refine eP 2 rfl sF ?_; refine eK 3 rfl sL ?_; refine eK 4 rfl sL ?_; refine eP 5 rfl sN ?_; refine eP 6 rfl sF ?_; refine eK 7 rfl sL ?_; refine eK 8 rfl sL ?_; refine eP 9 rfl sM ?_; refine eP 10 rfl (s_nili rfl) ?_; refine eP 11 rfl sM (eO 12 rfl ?_); refine o_invoke (hE.find ta tc a) rfl rfl rfl (by exact .nil) (fun _ st => ⟨hE.pm hw st hiA, (hOr.rdk (hin_trans hSr hiA)).out _ st, (hOT.rdk hiA).out _ st⟩) (fun v34 S34 ⟨b, L, a34, c34, hv34, hOL, hf⟩ => ?_); subst hv34
   cases b
   ·obtain rfl := hE.none _ _ hf
    have hend := hM [] (.none (s' := ()) ha hf)
    rw [List.append_nil] at hend
    refine oX ?_; refine eP 13 rfl sM ?_; refine eP 14 rfl sE ?_; refine eP 15 rfl sE ?_; refine eP 16 rfl sA ?_; refine eP 17 rfl sA (eZ hK6 (c_seq fun _ hK7 => ?_)); refine cR fun _ hK8 => ?_; refine oM ?_; refine oS (s_not rfl) ?_; refine oZ hK8 ?_; refine cT (c_ret ?_); refine x_then_ret (x_block_ret (x_then_ret (x_block_ret (?_))))
    refine x_sub (Sub.refl _) (H' := (bt, .cells [.slice ta w.length tc].toArray 23 (0, 0)) :: (br, .cells [pt bR].toArray 27 (0, 0)) :: (bR, .cells [.slice a1 re.length c1, .iface ty (hv), .int .i64 ((gcn re : Nat) : Int)].toArray 127 (0, 0)) :: (b5, .cells [.slice oa os.length oc].toArray 58 (0, 0)) :: (b3, .cells [.int .i64 ((w.length : Nat) + 3)].toArray 3 (0, 0)) :: (Sq ++ (St0 ++ (SO ++ Pool)))) hzB ?_; exact x_ret rfl (.nil) (⟨oa, oc, os, SO, Pool, rfl, hOO, hPo, by omega, hend⟩)
   ·obtain ⟨⟨p2, q2, hg⟩, hLn⟩ := hE.good _ _ hf
    have hgh := hg.hd
    have hg1 := hg.ge
    have hg2 := hg.le
    have hg3 := hg.ln
    have hLl := hg.len
    have hLp : 0 < L.length := (List.getElem?_eq_some_iff.1 hgh).1
    have hOs := hOL.sl
    refine oX ?_; refine eP 13 rfl sM ?_; refine eP 14 rfl sE ?_; refine eP 15 rfl sE ?_; refine eP 16 rfl sA ?_; refine eP 17 rfl sA (eZ hK6 (c_seq fun _ hK9 => ?_)); refine cR fun _ hK10 => ?_; refine oM ?_; refine oS (s_not rfl) ?_; refine oZ hK10 ?_; refine cFZ hK9 (c_seq fun _ hK11 => ?_); refine cR fun _ hK12 => ?_; refine oM ?_; refine oS (s_idx rfl rfl hOs (by omega)) ?_; refine oS sF ?_; refine oS (s_ld rfl ((hOL.rdk hiA).ld 0 1 hgh rfl (by decide) (by omega))) ?_; refine oM ?_
    by_cases hql : (q2 : Int) = last
    ·refine oS (eqT (h := hql)) ?_; refine oM ?_; refine oY (oM ?_); refine oY ?_; refine oS (s_idx rfl rfl hOs (by omega)) ?_; refine oY ?_; refine oS sF ?_; refine oY ?_; refine oS (s_ld rfl ((hOL.rdk hiA).ld 0 0 hgh rfl (by decide) (by omega))) ?_; refine oY (oM ?_); refine oY ?_
     by_cases hpl : (p2 : Int) = last
     ·obtain rfl : p2 = q2 := by omega
      have hg1g := hg
      refine oS (eqT (h := hpl)) ?_; refine oS sT (oZ hK12 ?_); refine cT (cR fun _ hK13 => ?_); refine oM ?_; refine oS sD (oA (oZ hK13 ?_)); refine c_exit ?_; refine x_then_exit (x_block_exit ?_); exact x_then (x_inv (a + 1, last, oa, oc, os, SO, Pool) ⟨by dsimp only; omega, hol, hlw, hl1, hOO, hPo, fun r h => hM r (.skip ha hf hg1g (by omega) h), by dsimp only; omega⟩ (by dsimp only; split <;> split <;> omega) sbA hzB)
     ·have hnl : ¬ (p2 = q2 ∧ last = p2) := fun h => hpl (by omega)
      have hlq : last + 1 ≤ q2 := by omega
      have hrow : RowP (gcn re + 1) (Pool ++ S34) ⟨a34, c34, L⟩ := ⟨hLn, hOs, hOL.rds.mono HIn.appR⟩
      refine oS (eqF (h := hpl)) ?_; refine oS sT (oZ hK12 ?_); refine cFZ hK11 (c_seq fun _ hK14 => ?_); refine c_quiet (by kernel_rfl) ?_; refine .op rfl (s_move rfl) ?_; refine .op rfl (s_idx rfl rfl hOs (by omega)) ?_; refine .op rfl (s_field rfl rfl (by decide)) ?_; refine .op rfl (s_ld rfl ((hOL.rdk hiA).ld 0 1 hgh rfl (by decide) (by omega))) ?_; refine .op rfl (s_move rfl) ?_; refine .op rfl (s_idx rfl rfl hOs (by omega)) ?_; refine .op rfl (s_field rfl rfl (by decide)) ?_; refine .op rfl (s_ld rfl ((hOL.rdk hiA).ld 0 1 hgh rfl (by decide) (by omega))) ?_; refine .op rfl (s_assign rfl) ?_; refine .op rfl (s_assign rfl) ?_; refine .nil ?_; refine xZ hK14 (cR fun _ hK15 => ?_); refine oM (oM ?_); refine o_callC (us := []) (vs := [_]) (cs := [pt b5, pt b3]) (gone1_fn ⟨a34, c34, L⟩ b5 b3 ((w.length : Nat) + 3) (by omega) oa oc os SO hOO (by omega)) rfl rfl rfl ((Pick.takeC pkA (Pick.takeC pkA pkA))) (fun _ _ => trivial) (fun v65 S65 ⟨oa', oc', SO', hv65, hS65, hOO2⟩ => ?_); subst hS65
      rw [decide_eq_true (by omega)] at hv65
      subst hv65; refine oS (s_not rfl) ?_; refine oZ hK15 ?_; refine cF (c_skip (x_block ?_))
      have hp2 : PoolR (os ++ [⟨a34, c34, L⟩]) (gcn re + 1) (Pool ++ S34) := (hPo.mono HIn.appL).snoc hrow
      exact x_then (x_inv (q2, (q2 : Int), oa', oc', os ++ [⟨a34, c34, L⟩], SO', Pool ++ S34) ⟨by dsimp only; omega, by dsimp only; rw [List.length_append, List.length_singleton]; omega, by dsimp only; omega, by dsimp only; omega, hOO2, hp2, fun r h => by dsimp only; rw [List.map_append, List.append_assoc]; exact hM _ (.take ha hf hg hnl h), by dsimp only; omega⟩ (by dsimp only; exact mt_meas hg hnl) sbA hzB)
    ·have hnl : ¬ (p2 = q2 ∧ last = p2) := fun h => hql (by omega)
     have hlq : last + 1 ≤ q2 := by omega
     have hrow : RowP (gcn re + 1) (Pool ++ S34) ⟨a34, c34, L⟩ := ⟨hLn, hOs, hOL.rds.mono HIn.appR⟩
     refine oS (eqF (h := hql)) ?_; refine oM ?_; refine oN ?_; refine oN ?_; refine oN ?_; refine oN ?_; refine oN ?_; refine oN ?_; refine oS sP (oZ hK12 ?_); refine cFZ hK11 (c_seq fun _ hK16 => ?_); refine c_quiet (by kernel_rfl) ?_; refine .op rfl (s_move rfl) ?_; refine .op rfl (s_idx rfl rfl hOs (by omega)) ?_; refine .op rfl (s_field rfl rfl (by decide)) ?_; refine .op rfl (s_ld rfl ((hOL.rdk hiA).ld 0 1 hgh rfl (by decide) (by omega))) ?_; refine .op rfl (s_move rfl) ?_; refine .op rfl (s_idx rfl rfl hOs (by omega)) ?_; refine .op rfl (s_field rfl rfl (by decide)) ?_; refine .op rfl (s_ld rfl ((hOL.rdk hiA).ld 0 1 hgh rfl (by decide) (by omega))) ?_; refine .op rfl (s_assign rfl) ?_; refine .op rfl (s_assign rfl) ?_; refine .nil ?_; refine xZ hK16 (cR fun _ hK17 => ?_); refine oM (oM ?_); refine o_callC (us := []) (vs := [_]) (cs := [pt b5, pt b3]) (gone1_fn ⟨a34, c34, L⟩ b5 b3 ((w.length : Nat) + 3) (by omega) oa oc os SO hOO (by omega)) rfl rfl rfl ((Pick.takeC pkA (Pick.takeC pkA pkA))) (fun _ _ => trivial) (fun v65 S65 ⟨oa', oc', SO', hv65, hS65, hOO2⟩ => ?_); subst hS65
     rw [decide_eq_true (by omega)] at hv65
     subst hv65; refine oS (s_not rfl) ?_; refine oZ hK17 ?_; refine cF (c_skip (x_block ?_))
     have hp2 : PoolR (os ++ [⟨a34, c34, L⟩]) (gcn re + 1) (Pool ++ S34) := (hPo.mono HIn.appL).snoc hrow
     exact x_then (x_inv (q2, (q2 : Int), oa', oc', os ++ [⟨a34, c34, L⟩], SO', Pool ++ S34) ⟨by dsimp only; omega, by dsimp only; rw [List.length_append, List.length_singleton]; omega, by dsimp only; omega, by dsimp only; omega, hOO2, hp2, fun r h => by dsimp only; rw [List.map_append, List.append_assoc]; exact hM _ (.take ha hf hg hnl h), by dsimp only; omega⟩ (by dsimp only; exact mt_meas hg hnl) sbA hzB)
  ·have hend := hM [] (.out (by omega))
   rw [List.append_nil] at hend
   refine c_exit ?_; refine x_then_exit (x_then_exit (x_block_exit ?_)); refine x_sub (Sub.refl _) (H' := (bt, .cells [.slice ta w.length tc].toArray 23 (0, 0)) :: (br, .cells [pt bR].toArray 27 (0, 0)) :: (bR, .cells [.slice a1 re.length c1, .iface ty (hv), .int .i64 ((gcn re : Nat) : Int)].toArray 127 (0, 0)) :: (b5, .cells [.slice oa os.length oc].toArray 58 (0, 0)) :: (b3, .cells [.int .i64 ((w.length : Nat) + 3)].toArray 3 (0, 0)) :: (Sq ++ (St0 ++ (SO ++ Pool)))) hzB ?_; exact x_end rfl (.nil) (⟨oa, oc, os, SO, Pool, rfl, hOO, hPo, by omega, hend⟩)
instance tmPl : TM Tryz.prog 130 "galley/regex.find" 62 := tm_of (by kernel_rfl) (by kernel_rfl)
instance tmFu : TM Tryz.prog 128 "galley/regex.find" 63 := tm_of (by kernel_rfl) (by kernel_rfl)
theorem new_eng {w : List UInt8} (hwl : w.length ≤ 1000000) {re : List Nd} (hre : ∀ x ∈ re, -128 ≤ x.op ∧ x.op < 128) (hrl : re.length ≤ 1000000) (hsb : shapedB re = true) (hfit : refsB re = true → Fits re w.length) {v : Value} {S' : Hp} (h : NewP re v S') :
    ∃ (bR ty fnum : Nat) (hv : Value) (_ : TM Tryz.prog ty "galley/regex.find" fnum) (Sq : Hp) (Rl : Int → Bool → List Sp → Prop) (Pg : World → List Nat → Prop) (Pm : World → Prop) (a1 : Option Addr) (c1 : Nat) (Sr : Hp), v = .tuple #[pt bR, .int .i64 0] ∧ S' = (bR, .cells [.slice a1 re.length c1, .iface ty (hv), .int .i64 ((gcn re : Nat) : Int)].toArray 127 (0, 0)) :: Sq ∧ EngC w re a1 c1 bR ty hv fnum Sq Rl Pg Pm ∧ OwnS En 9 108 (.slice a1 re.length c1) re Sr ∧ HIn Sr Sq ∧ (∀ W, RdP W 0 0 (Esp noS) → Pg W []) := by
  cases h with
  | shape hs _ => rw [hsb] at hs; cases hs
  | @ref bR a c Sr hs hr hv hS ho => exact ⟨bR, 128, 63, _, tmFu, Sr, _, _, _, a, c, Sr, hv, hS, eng_back w hwl re hre hrl hsb (hfit hr) a c bR Sr, ho, fun _ h => h, fun W h => ⟨h, by simp⟩⟩
  | @ok bR hs hr hv hS =>
    obtain ⟨x, ks, a, am, c, Sr, Sm, h1, h2, h3, hS', h4, h5⟩ := hS
    exact ⟨bR, 130, 62, _, tmPl, Sr ++ Sm, _, _, _, a, c, Sr, hv, hS', eng_plain w hwl re hre a c bR x ks ⟨h1, h2, h3⟩ am _ Sr Sm h5, h4, HIn.appL, fun _ _ => trivial⟩
theorem allR_fn (bR : Nat) (xa : Option Addr) (xc : Nat) (w : List UInt8) (hwl : w.length ≤ 1000000) : HL.Fn Tryz.prog 28 [pt bR, .slice xa w.length xc] (fun W => Rd Eb W (.slice xa w.length xc) w) [] (fun v S' => ∃ br bt ta tc St0, v = .func (.func 80) [].toArray [pt br, pt bt].toArray ∧ OwnS Eb 1 5 (.slice ta w.length tc) w St0 ∧ S' = (bt, .cells [.slice ta w.length tc].toArray 23 (0, 0)) :: (br, .cells [pt bR].toArray 27 (0, 0)) :: St0) := by
  refine fn_of Tryz.func28 rfl rfl rfl fun w0 hw => ?_; refine cR fun _ hK1 => ?_; refine o_box rfl rfl rfl fun b2 => ?_; refine o_box rfl rfl rfl fun b3 => ?_; refine oA (oZ hK1 (cR fun _ hK2 => ?_)); refine oS sL ?_; refine o_call (cloneB_fn xa xc w hwl) rfl rfl rfl (by exact .nil) (fun _ st => (RdK.old0 hw).out _ st) (fun v6 S6 ⟨a6, c6, hv6, hS6⟩ => ?_); subst hv6
  refine o_store rfl rfl rfl upA ltA rfl ?_; refine oZ hK2 (cR fun _ hK3 => ?_); refine oS (s_func (us := []) (vs := [_, _]) rfl rfl) ?_; refine oA (oZ hK3 (c_ret ?_)); refine ?_; refine x_sub (Sub.refl _) (H' := (b3, .cells [.slice a6 w.length c6].toArray 23 (0, 0)) :: (b2, .cells [pt bR].toArray 27 (0, 0)) :: S6) hzB ?_; exact xR rfl rfl (⟨_, _, _, _, _, rfl, hS6, rfl⟩)
set_option maxHeartbeats 2000000 in
theorem goneR_fn (w : List UInt8) (hwl : w.length ≤ 1000000) (re : List Nd) (a1 : Option Addr) (c1 bR ty : Nat) (hv : Value) (fnum : Nat) [TM Tryz.prog ty "galley/regex.find" fnum] (Sq : Hp) (Rl : Int → Bool → List Sp → Prop) (Pg : World → List Nat → Prop) (Pm : World → Prop) (hE : EngC w re a1 c1 bR ty hv fnum Sq Rl Pg Pm) (Sr : Hp) (hOr : OwnS En 9 108 (.slice a1 re.length c1) re Sr) (hSr : HIn Sr Sq) (bt br : Nat) (ta : Option Addr) (tc : Nat) (St0 : Hp) (hOT : OwnS Eb 1 5 (.slice ta w.length tc) w St0) : HL.Fn Tryz.prog 27 [.func (.func 80) [].toArray [pt br, pt bt].toArray, .int .i64 ((w.length : Nat) + 3)] (fun W => Pg W (keys ((bt, .cells [.slice ta w.length tc].toArray 23 (0, 0)) :: (br, .cells [pt bR].toArray 27 (0, 0)) :: (bR, .cells [.slice a1 re.length c1, .iface ty (hv), .int .i64 ((gcn re : Nat) : Int)].toArray 127 (0, 0)) :: (Sq ++ St0)))) ((bt, .cells [.slice ta w.length tc].toArray 23 (0, 0)) :: (br, .cells [pt bR].toArray 27 (0, 0)) :: (bR, .cells [.slice a1 re.length c1, .iface ty (hv), .int .i64 ((gcn re : Nat) : Int)].toArray 127 (0, 0)) :: (Sq ++ St0)) (fun v S' => ∃ oa oc os SO Pool, v = .slice oa os.length oc ∧ S' = (bt, .cells [.slice ta w.length tc].toArray 23 (0, 0)) :: (br, .cells [pt bR].toArray 27 (0, 0)) :: (bR, .cells [.slice a1 re.length c1, .iface ty (hv), .int .i64 ((gcn re : Nat) : Int)].toArray 127 (0, 0)) :: (Sq ++ (St0 ++ (SO ++ Pool))) ∧ OwnS Esl 1 31 (.slice oa os.length oc) os SO ∧ PoolR os (gcn re + 1) Pool ∧ os.length ≤ w.length + 1 ∧ MtS (fun (_ : Unit) a b L (_ : Unit) => Rl (a : Nat) b L) w.length () 0 (-1) (os.map Sl.xs)) := by
  refine fn_of Tryz.func27 rfl rfl rfl fun w0 hw => ?_; refine cR fun _ hK1 => ?_; refine o_box rfl rfl rfl fun b3 => ?_; refine oA (oZ hK1 (cR fun _ hK2 => ?_)); refine o_alloc rfl rfl fun b5 => ?_; refine oZ hK2 (c_seq fun _ hK3 => ?_); refine cR fun _ hK4 => ?_; refine oM ?_; refine oS (s_eql_nilf rfl rfl) ?_; refine oZ hK4 ?_; refine cFZ hK3 (cR fun _ hK5 => ?_); refine oM ?_; refine oS (s_func (us := []) (vs := [_, _]) rfl rfl) ?_; refine o_callC (us := []) (vs := [_]) (cs := [pt br, pt bt]) (allK_fn w hwl re a1 c1 bR ty hv fnum Sq Rl Pg Pm hE Sr hOr hSr bt br b5 b3 ta tc St0 hOT) rfl rfl rfl ((Pick.takeC pkA (Pick.takeC pkA (Pick.takeC pkA (Pick.takeC pkA (Pick.takeC pkA pkA)))))) (fun w st => hE.pg hw st (hin_cons meA (hin_cons meA (hin_cons meA (hin_cons meA (hin_cons meA (hin_app hiA hiA))))))) (fun v10 S10 ⟨oa, oc, os, SO, Pool, hS10, hOO, hPo, hol, hM⟩ => ?_)
  subst hS10; refine oZ hK5 (cR fun _ hK6 => ?_); refine oS sL (oA (oZ hK6 (c_ret ?_))); refine ?_; refine x_sub (Sub.refl _) (H' := (bt, .cells [.slice ta w.length tc].toArray 23 (0, 0)) :: (br, .cells [pt bR].toArray 27 (0, 0)) :: (bR, .cells [.slice a1 re.length c1, .iface ty (hv), .int .i64 ((gcn re : Nat) : Int)].toArray 127 (0, 0)) :: (Sq ++ (St0 ++ (SO ++ Pool)))) hzB ?_; exact xR rfl rfl (⟨oa, oc, os, SO, Pool, rfl, rfl, hOO, hPo, hol, hM⟩)
theorem groupsR_fn (bR : Nat) (v1 v2 : Value) (n : Nat) : HL.Fn Tryz.prog 29 [pt bR] (fun W => RdP W bR 0 [v1, v2, .int .i64 (n : Nat)]) [] (fun v _ => v = .int .i64 (n : Nat)) := by
  refine fn_of Tryz.func29 rfl rfl rfl fun w0 hw => ?_; refine cR fun _ hK1 => ?_; refine oA (oZ hK1 (c_seq fun _ hK2 => ?_)); refine cR fun _ hK3 => ?_; refine oM ?_; refine oS (step_cast (v' := .bool false) (s_eql_nilp rfl rfl) rfl) ?_; refine oZ hK3 ?_; refine cFZ hK2 (cR fun _ hK4 => ?_); refine oM ?_; refine oS sN ?_; refine oS sF ?_; refine oS (s_ld rfl ((RdPK.old0 hw).cel (j := 2) rfl rfl)) ?_; refine oA (oZ hK4 (c_ret ?_)); refine ?_; exact xR rfl rfl (rfl)
end Go.Proofs.YtopmnmigpbdddaaGreatDoor
namespace Go.Tab
open Go Go.HL
def pIdx (t : List UInt8) (j : Nat) : List Nat := (List.range j).filter fun i => decide (at0 t i ≠ UInt8.ofNat i)
def pF (t : List UInt8) (j : Nat) : List UInt8 := (pIdx t j).map UInt8.ofNat
def pT (t : List UInt8) (j : Nat) : List UInt8 := (pIdx t j).map (at0 t)
def wideF (xs : List UInt8) (i : Nat) : UInt8 := if i < xs.length then at0 xs i else UInt8.ofNat (279 + 7 * i + 3)
def wide (xs : List UInt8) : List UInt8 := (List.range (xs.length + 64)).map (wideF xs)
attribute [irreducible] wide wideF
structure Mk where
  b : UInt8
  p : Bool
  deriving DecidableEq
def Em (m : Mk) : List Value := [.int .u8 m.b.toNat, .bool m.p]
instance : Enc Em 2 := ⟨fun _ => rfl, fun _ v h => by
  simp only [Em, List.mem_cons, List.not_mem_nil, or_false] at h
  rcases h with rfl | rfl <;> rfl⟩
def mk0 (ms : List Mk) (i : Nat) : Mk := ms.getD i ⟨0, false⟩
def wmF (xs : List Mk) (i : Nat) : Mk := if i < xs.length then mk0 xs i else ⟨UInt8.ofNat (279 + 7 * i + 3), true⟩
def wm (xs : List Mk) : List Mk := (List.range (xs.length + 64)).map (wmF xs)
def stepM (s : List UInt8 × Bool) (m : Mk) : Option (List UInt8 × Bool) :=
  if s.2 then
    if m.p then none else if m.b = 92 then some (s.1 ++ [92], false) else if m.b = 110 then some (s.1 ++ [10], false) else none
  else if m.p = false ∧ m.b = 92 then some (s.1, true) else some (s.1 ++ [m.b], false)
def runM (ms : List Mk) : Nat → Option (List UInt8 × Bool)
  | 0 => some ([], false)
  | j + 1 => (runM ms j).bind fun s => stepM s (mk0 ms j)
def rowM (ms : List Mk) : Option (List UInt8) := (runM ms ms.length).bind fun s => if s.2 then none else some s.1
section
variable {acc : List UInt8} {m : Mk}
end
def parseR (l m : List Mk) : Option (List UInt8) := (rowM l).bind fun f => (rowM m).bind fun t => newR f t
attribute [irreducible] wm wmF mk0
end Go.Tab
namespace Go.Tab
open Go Go.HL
end Go.Tab
namespace Go.HL.Kl
open Go Go.HL
def Er (r : Nat × Nat) : List Value := [.int .u8 r.1, .int .u8 r.2]
instance : Enc Er 2 := ⟨fun _ => rfl, fun _ v hv => by simp [Er] at hv; rcases hv with rfl | rfl <;> rfl⟩
def alike (l : List Cl) (x y : Nat) : Bool := l.all fun c => c.getLsbD x == c.getLsbD y
def tabV : List Value := Lib.deBruijn64tab.map fun n : Nat => Value.int .u8 n
def Tb (S : Hp) (w : World) : Prop := RdP w 0 0 tabV ∧ 0 ∉ keys S
def least (c : Cl) : Nat := (mems c).headD 256
def lastR (l : List (Nat × Nat)) : Nat × Nat := l.getD (l.length - 1) (0, 0)
def stepB (l : List (Nat × Nat)) (b : Nat) : List (Nat × Nat) := if 0 < l.length ∧ (lastR l).2 + 1 = b then l.set (l.length - 1) ((lastR l).1, b) else l ++ [(b, b)]
def runsB (p : List Nat) : List (Nat × Nat) := p.foldl stepB []
def runs (c : Cl) : List (Nat × Nat) := runsB (mems c)
/-! atoms -/
def ref1 (c a : Cl) : List Cl := if a &&& c = 0#256 ∨ a &&& ~~~c = 0#256 then [a] else [a &&& c, a &&& ~~~c]
def refine (out : List Cl) (c : Cl) : List Cl := out.flatMap (ref1 c)
def parts (l : List Cl) : List Cl := l.foldl refine [rng 0 255]
structure Dj (l : List Cl) : Prop where
  ne : ∀ a ∈ l, a ≠ 0#256
  ap : l.Pairwise (fun a b => a &&& b = 0#256)
def clsTo (l : List Cl) (x : Nat) : Nat → Cl
  | 0 => 0
  | i + 1 => if alike l x i then clsTo l x i ||| bit i else clsTo l x i
def cls (l : List Cl) (x : Nat) : Cl := clsTo l x 256
structure PI (l ps : List Cl) : Prop where
  dj : Dj ps
  eq : ∀ a ∈ ps, ∀ x, a.getLsbD x = true → a = cls l x
  all : ∀ x, x < 256 → ∃ a ∈ ps, a.getLsbD x = true
def swap (l : List Cl) (k : Nat) : List Cl := (l.set (k + 1) (l.getD k 0)).set k (l.getD (k + 1) 0)
def sink (l : List Cl) : Nat → List Cl
  | 0 => l
  | k + 1 => if least (l.getD (k + 1) 0) < least (l.getD k 0) then sink (swap l k) k else l
def sortTo (l : List Cl) : Nat → List Cl
  | 0 => l
  | i + 1 => sink (sortTo l i) i
def atoms (l : List Cl) : List Cl := sortTo (parts l) (parts l).length
def isFirst (l : List Cl) (x : Nat) (i : Nat) : Bool := (List.range i).all fun y => !alike l x y || decide (x ≤ y)
def rAtomsTo (l : List Cl) (i : Nat) : List Cl := ((List.range i).filter (isFirst l · 256)).map (cls l)
def rAtoms (l : List Cl) : List Cl := rAtomsTo l 256
end Go.HL.Kl
namespace Go.HL
open Go Go.Tab
section
variable {P : Program} {κ : Cx} {L : HL.Loc} {H : Hp} {ty t t' : TypeId} {x y : Operand}
theorem s_indexStr {s : ByteArray} {k : IntKind} {j : Nat} [TU P t .string] (hj : j < s.data.toList.length) (hx : ev L x = some (.string s)) (hy : ev L y = some (.int k j)) :
    Step P κ (.index t x y) ty L H (.int .u8 (s.data.toList[j]).toNat) :=
  ⟨fun ρ w d pos af g hρ _ => by
    have hs : j < s.size := by simpa using hj
    have h1 : s[j]? = some (s.data.toList[j]) := by
      rw [getElem?_pos s j hs]
      rfl
    have h0 : (0 : Int) ≤ (j : Int) := by omega
    simp [execOp, hρ _ _ hx, hρ _ _ hy, Instr.index, asIntOf, run_u, h1]⟩
end
end Go.HL
namespace Go.Proofs.YtopmnmigpbdddaaGreatDoor
open Go Go.HL Go.Proofs Go.HL.Kl
theorem of_fn (a : Option Addr) (n : Nat) (l : List UInt8) : HL.Fn Tryz.prog 206 [.slice a l.length n] (fun w => Rd Eb w (.slice a l.length n) l) [] (fun v _ => v = .agg (Ec (ofL l)).toArray) := by
  refine fn_of Tryz.func206 rfl rfl rfl fun w0 hw => ?_
  have hsl := hw.sl
  have hbl := hsl.le
  refine cR fun _ hK1 => ?_; refine o_alloc (l := Ec 0#256) (by rw [Ec_zero]; rfl) rfl fun b2 => ?_; refine oZ hK1 (cR fun _ hK2 => ?_); refine o_alloc (l := Ec 0#256) (by rw [Ec_zero]; rfl) rfl fun b3 => ?_; refine oZ hK2 (c_seq fun _ hK3 => ?_); refine cR fun _ hK4 => ?_; refine oM ?_; refine oS sC (oM (oZ hK4 (c_block ?_)))
  rw [← show ofL (l.take 0) = 0#256 from rfl]
  refine c_loopB (fun (i : Nat) => i ≤ l.length) (fun (i : Nat) => [(8, .int .i64 i)]) [(2, _), (3, _), (6, _), (7, _)] (fun (i : Nat) => [(b3, .cells (Ec (ofL (l.take i))).toArray 106 (0, 0)), (b2, .cells (Ec 0#256).toArray 106 (0, 0))]) (fun (i : Nat) => l.length - i) 0 (by omega) sbA sbA hzA ?_
  rintro i hI
  refine cR fun _ hK5 => ?_; refine oS (s_lss rfl rfl) ?_; refine oZ hK5 (c_seq fun _ hK6 => ?_); refine c_if rfl (fun hlt0 => ?_) (fun hlt0 => ?_)
  · skip
    have hlt : i < l.length := by omega
    have hbt : (l[i]).toNat < 256 := (l[i]).toNat_lt
    have hget := List.getElem?_eq_getElem (l := l) (i := i) (by omega)
    refine c_skip (xZ hK6 (c_seq fun _ hK7 => ?_)); refine c_block (cR fun _ hK8 => ?_); refine oS (s_idx rfl rfl (by assumption) (by omega)) ?_; refine oS (s_ld rfl ((RdK.old0 hw).ld i 0 hget rfl (by decide) (by omega))) ?_; refine oA (oZ hK8 (c_region (oM ?_))); refine oS (step_cast (v' := .int .u8 (((l[i]).toNat / 64 : Nat) : Int)) (s_shr rfl rfl (by decide)) (congrArg _ (shr6_u8 hbt))) ?_; refine oS (s_idx1 rfl rfl (by omega)) ?_; refine oS (s_ld rfl ((RdPK.own meA).cel (j := (l[i]).toNat / 64) (Ec_get _ (by omega)) (by omega))) ?_; refine oM ?_; refine oS (step_cast (v' := .int .u8 (((l[i]).toNat % 64 : Nat) : Int)) (s_and rfl rfl) (congrArg _ (v_and63 hbt))) ?_; refine oS (step_cast (v' := Ew (1#64 <<< ((l[i]).toNat % 64))) (s_shl rfl rfl (by omega)) (v_shl1 (by omega))) ?_; refine oS (step_cast (s_or rfl rfl) (v_or (wd (ofL (l.take i)) ((l[i]).toNat / 64)) (1#64 <<< ((l[i]).toNat % 64)))) ?_; refine oS (s_idx1 rfl rfl (by omega)) ?_; refine o_store rfl rfl rfl upA (by show (l[i]).toNat / 64 < 4; omega) rfl ?_
    rw [Ec_set _ _ (by omega)]
    refine o_nil (x_block (xZ hK7 (c_region ?_))); refine oS sD (oM (o_nil ?_))
    rw [with_eq _ hbt, ← ofL_step hlt]
    exact x_then (x_inv (i + 1) (by omega) (by first | omega | (dsimp only; omega)) sbA hzA)
  · skip
    rw [ofL_all (by omega)]
    refine c_exit ?_; refine x_then_exit (x_then_exit (x_block_exit (xZ hK3 (cR fun _ hK9 => ?_)))); refine oS (s_ldB rfl (RdPK.cels (.own meA)) lnA) ?_; refine o_stW rfl rfl upA lnA lnA (by first | exact Ec_one _ | exact flat_one _ _ | exact one_rep rfl | (simp [Value.oneCell']; done)) ?_; refine oZ hK9 (c_ret ?_); refine ?_; exact x_ret rfl (.agg inferInstance inferInstance rfl (RdPK.cels (.own meA)) lnA (.nil)) (rfl)
end Go.Proofs.YtopmnmigpbdddaaGreatDoor
namespace Go.Proofs.YtopmnmigpbdddaaGreatDoor
open Go Go.HL Go.Proofs Go.HL.Kl Go.HL.Kl.Mc
theorem parse1_fn (b4 b5 b6 : Nat) : HL.FnR Tryz.prog 134 [.pointer (some ⟨b4, 0, none⟩), .pointer (some ⟨b5, 0, none⟩), .pointer (some ⟨b6, 0, none⟩)] (fun _ => True) [] (fun _ _ => True) := by
  refine fnR_of Tryz.func134 rfl rfl rfl rfl fun w0 hw K hK => ?_; refine oS (s_tas_n (by kernel_rfl) rfl) ?_; refine oM ?_; refine oS sE ?_; refine oS sE ?_; refine o_alloc rfl rfl fun b3 => ?_; refine o_stW rfl rfl upA (by first | rfl | decide) (by first | rfl | decide) (by simp [Value.oneCell']) ?_; refine oA (o_nil ?_); refine x_then (hK _ _ ?_); refine cR fun _ hK2 => ?_; refine oM (oZ hK2 ?_); refine cF (c_skip ?_); exact x_end rfl .nil trivial
end Go.Proofs.YtopmnmigpbdddaaGreatDoor
namespace Go.HL.Kl.Mc
open Go Go.HL Go.Tab
def seesAt (l : List Mk) (at_ : Nat) (s : List UInt8) (i : Nat) : Prop := ∃ m, l[at_ + i]? = some m ∧ m.p = false ∧ s[i]? = some m.b
def Sees (l : List Mk) (at_ : Nat) (s : List UInt8) : Prop := at_ + s.length ≤ l.length ∧ ∀ i, i < s.length → seesAt l at_ s i
noncomputable def seesB (l : List Mk) (at_ : Nat) (s : List UInt8) : Bool := @decide (Sees l at_ s) (Classical.propDecidable _)
theorem seesB_t {l : List Mk} {at_ : Nat} {s : List UInt8} (h : Sees l at_ s) : seesB l at_ s = true := @decide_eq_true _ (Classical.propDecidable _) h
theorem seesB_f {l : List Mk} {at_ : Nat} {s : List UInt8} (h : ¬ Sees l at_ s) : seesB l at_ s = false := @decide_eq_false _ (Classical.propDecidable _) h
theorem sees_no {l : List Mk} {at_ i : Nat} {s : List UInt8} {m : Mk} (hi : i < s.length) (hm : l[at_ + i]? = some m) (h : m.p = true ∨ ∃ c, s[i]? = some c ∧ m.b ≠ c) : seesB l at_ s = false := by
  refine seesB_f fun ⟨_, h2⟩ => ?_
  obtain ⟨m', h3, h4, h5⟩ := h2 i hi
  rw [hm] at h3; cases h3
  rcases h with h | ⟨c, h6, h7⟩
  · rw [h] at h4; cases h4
  · rw [h5] at h6; cases h6; exact h7 rfl
end Go.HL.Kl.Mc
namespace Go.Proofs.YtopmnmigpbdddaaGreatDoor
open Go Go.HL Go.Proofs Go.HL.Kl Go.HL.Kl.Mc Go.HL.Kl.Mc.AskE Go.Tab
theorem s_bone {κ : Cx} {L : HL.Loc} {H : Hp} {ty : TypeId} {x : Operand} (c : Cl) (hx : ev L x = some (.agg (Ec c).toArray)) : Step Tryz.prog κ (.build 108 #[(0, .const (.int .i8 1)), (1, x)]) ty L H (.agg (En ⟨1, c, 0, 0, 0, 0⟩).toArray) := by
  refine s_build (zl := En zN) (vs := [.int .i8 1, .agg (Ec c).toArray]) (by rw [En_zero]; rfl) (by simp only [List.map_cons, List.map_nil, hx]; rfl) ?_; refine .cons (cs := [.int .i8 1]) (l' := En ⟨1, 0, 0, 0, 0, 0⟩) rfl rfl rfl (by rw [En_zero]; rfl) (by rw [En_zero]; simp [splice, En, Ec_zero]) ?_
  exact .cons (cs := Ec c) (l' := En ⟨1, c, 0, 0, 0, 0⟩) rfl rfl rfl (by simp [En, Ec]) (by simp [splice, En, Ec]) .nil
set_option maxHeartbeats 2000000 in
theorem sees_fn (bR : Nat) (er : Bool) (la : Option Addr) (lc : Nat) (l : List Mk) (at_ : Nat) (hat : at_ ≤ l.length) (hll : l.length ≤ 1000000) (rest : List Value) (s : ByteArray) (hs : s.data.toList.length ≤ 100) : HL.Fn Tryz.prog 158 [pt bR, .string s] (fun W => RdP W bR 0 (.bool er :: .slice la l.length lc :: .int .i64 (at_ : Nat) :: rest) ∧ Rd Em W (.slice la l.length lc) l) [] (fun v _ => v = .bool (seesB l at_ s.data.toList)) := by
  refine fn_of Tryz.func158 rfl rfl rfl fun w0 hw => ?_
  have hsl := hw.2.sl
  have hbl := hsl.le
  have hsz : s.size = s.data.toList.length := by simp
  refine cR fun _ hK1 => ?_; refine oA (oZ hK1 (c_seq fun _ hK2 => ?_)); refine c_seq fun _ hK3 => ?_; refine c_drawE ([]) (fun i => false) ?_; refine e_tk 0 rfl (by exact HSub.nil) sM ?_; refine e_tk 1 rfl (by exact HSub.nil) sN ?_; refine e_tk 2 rfl (by exact HSub.nil) sF ?_; refine e_tk 3 rfl (by exact HSub.nil) (s_ld rfl ((RdPK.old0 hw.1).cel (j := 2) rfl rfl)) ?_; refine e_tk 4 rfl (by exact HSub.nil) sM ?_; refine e_tk 5 rfl (by exact HSub.nil) (s_lenstr rfl) ?_; refine e_tk 6 rfl (by exact HSub.nil) sD ?_; refine e_tk 7 rfl (by exact HSub.nil) sM ?_; refine e_tk 8 rfl (by exact HSub.nil) sN ?_; refine e_tk 9 rfl (by exact HSub.nil) sF ?_; refine e_tk 10 rfl (by exact HSub.nil) (s_ld rfl ((RdPK.old0 hw.1).cel (j := 1) rfl rfl)) ?_; refine e_tk 11 rfl (by exact HSub.nil) sC ?_
  by_cases hgt : (at_ : Int) + s.size > l.length
  ·refine e_tk 12 rfl (by exact HSub.nil) (step_cast (v' := .bool true) (s_gtr rfl rfl) (by rw [decide_eq_true (by omega)])) ?_; refine e_done (by kernel_rfl) ?_; refine x_then (hK3 _ _ ?_); refine c_true rfl ?_; refine c_seq fun _ hK4 => ?_; refine c_region ?_; refine o_step rfl (s_assign rfl) ?_; refine o_nil ?_; refine x_then (hK4 _ _ ?_); refine c_ret ?_; refine x_then_ret (?_); exact x_ret rfl (.tmp rfl (.nil)) (by rw [seesB_f (fun h => by have := h.1; omega)]; rfl)
  ·refine e_tk 12 rfl (by exact HSub.nil) gtF ?_; refine eZ hK3 ?_; refine cFZ hK2 (c_seq fun _ hK5 => ?_); refine cR fun _ hK6 => ?_; refine oM ?_; refine oS (s_lenstr rfl) ?_; refine oM (oZ hK6 (c_block ?_))
   refine c_loopB (fun (i : Nat) => i ≤ s.data.toList.length ∧ ∀ j, j < i → seesAt l at_ s.data.toList j) (fun (i : Nat) => [(22, .int .i64 i)]) [(0, _), (1, _), (21, _)] (fun (i : Nat) => []) (fun (i : Nat) => s.data.toList.length - i) 0 ⟨Nat.zero_le _, fun j hj => by omega⟩ sbA sbA hzB ?_
   rintro i ⟨hi, hsa⟩
   refine cR fun _ hK7 => ?_
   by_cases hil : (i : Int) < s.size
   ·obtain ⟨m, hm⟩ : ∃ m, l[at_ + i]? = some m := gE
    have hil2 : i < s.data.toList.length := by omega
    refine oS lsT (oZ hK7 (c_seq fun _ hK8 => ?_)); refine cTZ hK8 (c_seq fun _ hK9 => ?_); refine c_block (cR fun _ hK10 => ?_); refine oM (oA (oZ hK10 (c_seq fun _ hK11 => ?_))); refine c_drawE ([]) (fun i => false) ?_; refine e_tk 0 rfl (by exact HSub.nil) sM ?_; refine e_tk 1 rfl (by exact HSub.nil) sN ?_; refine e_tk 2 rfl (by exact HSub.nil) sF ?_; refine e_tk 3 rfl (by exact HSub.nil) (s_ld rfl ((RdPK.old0 hw.1).cel (j := 1) rfl rfl)) ?_; refine e_tk 4 rfl (by exact HSub.nil) sM ?_; refine e_tk 5 rfl (by exact HSub.nil) sN ?_; refine e_tk 6 rfl (by exact HSub.nil) sF ?_; refine e_tk 7 rfl (by exact HSub.nil) (s_ld rfl ((RdPK.old0 hw.1).cel (j := 2) rfl rfl)) ?_; refine e_tk 8 rfl (by exact HSub.nil) sM ?_; refine e_tk 9 rfl (by exact HSub.nil) sD ?_; refine e_tk 10 rfl (by exact HSub.nil) (s_idx rfl rfl hsl (by omega)) ?_; refine e_tk 11 rfl (by exact HSub.nil) (s_ldB rfl ((RdK.old0 hw.2).cels hm) lnA) ?_; refine eO 12 rfl ?_; refine o_alloc (l := Em ⟨0, false⟩) rfl rfl fun b6 => ?_; refine o_nil ?_; refine x_oneS (by exact HSub.nil) ?_; refine eO 13 rfl ?_; refine o_stW rfl rfl upA lnA lnA onA ?_; refine o_nil ?_; refine x_oneS (by exact HSub.nil) ?_; refine eZ hK11 (c_seq fun _ hK12 => ?_); refine c_drawE ([(b6, .cells (Em m).toArray 110 (0, 0))]) (fun i => false) ?_
    refine eK 0 rfl sF ?_
    by_cases hp : m.p = true
    ·refine eK 1 rfl (step_cast (v' := .bool true) (s_ld rfl (.own meA rfl)) (by rw [hp])) ?_; refine eK 2 rfl sM ?_; refine eS 3 rfl (eS 4 rfl (eS 5 rfl (eS 6 rfl (eS 7 rfl (eS 8 rfl ?_))))); refine eK 9 rfl sT (eZ hK12 ?_); refine cT (cR fun _ hK13 => ?_); refine oA (oZ hK13 (c_ret ?_)); refine x_block_ret (x_then_ret (x_then_ret (x_block_ret (x_then_ret (?_)))))
     exact x_ret rfl (.tmp rfl (.nil)) (by rw [sees_no hil2 hm (.inl hp)]; rfl)
    ·refine eK 1 rfl (step_cast (v' := .bool false) (s_ld rfl (.own meA rfl)) (by rw [Bool.eq_false_iff.2 hp])) ?_; refine eK 2 rfl sM ?_; refine eG 3 rfl sF ?_; refine eG 4 rfl sL ?_; refine eG 5 rfl sM ?_; refine eG 6 rfl sM ?_; refine eG 7 rfl (s_indexStr hil2 rfl rfl) ?_
     by_cases hb : (m.b.toNat : Int) ≠ ((s.data.toList[i]).toNat : Int)
     ·refine eG 8 rfl (nqT (h := hb)) ?_; refine eK 9 rfl sP (eZ hK12 ?_); refine cT (cR fun _ hK14 => ?_); refine oA (oZ hK14 (c_ret ?_)); refine x_block_ret (x_then_ret (x_then_ret (x_block_ret (x_then_ret (?_)))))
      exact x_ret rfl (.tmp rfl (.nil)) (by rw [sees_no hil2 hm (.inr ⟨_, List.getElem?_eq_getElem hil2, fun e => hb (by rw [e])⟩)]; rfl)
     ·refine eG 8 rfl (nqF (h := hb)) ?_; refine eK 9 rfl sP (eZ hK12 ?_); refine cF (c_skip (x_block (xZ hK9 (c_region ?_)))); refine oS sD (oM (o_nil ?_)); exact xI (i + 1) ⟨by omega, fun j hj => (Nat.lt_or_ge j i).elim (hsa j) fun h => (show i = j by omega) ▸ ⟨m, hm, Bool.eq_false_iff.2 hp, by rw [List.getElem?_eq_getElem hil2]; exact congrArg some (UInt8.toNat_inj.1 (by omega))⟩⟩
   ·refine o_step rfl (step_cast (v' := .bool false) (s_lss rfl rfl) (by rw [decide_eq_false (by omega)])) ?_; refine o_nil ?_; refine x_then (hK7 _ _ ?_); refine c_seq fun _ hK15 => ?_; refine c_false rfl ?_; refine c_exit ?_; refine x_then_exit ?_; refine x_then_exit ?_; refine x_block_exit ?_; refine x_then (hK5 _ _ ?_); refine c_seq fun _ hK16 => ?_; refine c_region ?_; refine o_step rfl (s_assign rfl) ?_; refine o_nil ?_; refine x_then (hK16 _ _ ?_); refine c_ret ?_; refine ?_; exact x_ret rfl (.tmp rfl (.nil)) (by rw [seesB_t ⟨by omega, fun j hj => hsa j (by omega)⟩]; rfl)
theorem sign_fn (bR : Nat) (la : Option Addr) (lc : Nat) (l : List Mk) (at_ : Nat) (hat : at_ ≤ l.length) (hll : l.length ≤ 1000000) (rest : List Value) (s : ByteArray) (hs : s.size ≤ 100) : HL.Fn Tryz.prog 185 [pt bR, .string s] (fun W => RdP W bR 0 (.bool false :: .slice la l.length lc :: .int .i64 (at_ : Nat) :: rest) ∧ Rd Em W (.slice la l.length lc) l) [] (fun v _ => v = .string (⟨#[92]⟩ ++ s)) := by
  refine fn_of Tryz.func185 rfl rfl rfl fun w0 hw => ?_; refine cR fun _ hK1 => ?_; refine oA (oZ hK1 (c_seq fun _ hK2 => ?_)); refine cR fun _ hK3 => ?_; refine oM ?_; refine oS sN ?_; refine oS sF ?_; refine oS (s_ld rfl ((RdPK.old0 hw.1).cel (j := 0) rfl rfl)) ?_; refine oZ hK3 ?_; refine cFZ hK2 (cR fun _ hK4 => ?_); refine oM ?_; refine oS (s_addstr rfl rfl (by show 1 + s.size ≤ _; omega)) ?_; refine oA (oZ hK4 (c_ret ?_)); refine ?_; exact xR rfl rfl (rfl)
set_option maxHeartbeats 1000000 in
theorem one_fn (b : UInt8) : HL.Fn Tryz.prog 184 [.int .u8 b.toNat] (fun _ => True) [] (fun v _ => v = .agg (En ⟨1, ofL [b], 0, 0, 0, 0⟩).toArray) := by
  refine fn_of Tryz.func184 rfl rfl rfl fun w0 hw => ?_; refine cR fun _ hK1 => ?_; refine o_alloc (l := En zN) (by rw [En_zero]; rfl) rfl fun b2 => ?_; refine oZ hK1 (cR fun _ hK2 => ?_); refine oM ?_; refine o_bs (E := Eb) (xs := [b]) (vs := [_]) rfl rfl rfl rfl rfl (by decide) (by decide) fun b4 S4 hS4 => ?_; refine o_callP (of_fn (some ⟨b4, 0, none⟩) _ [b]) rfl rfl rfl (fun _ st => (hS4.rdk hiA).out _ st) (fun v5 hv5 => ?_); subst hv5
  refine oS (s_bone _ rfl) ?_; refine o_stW rfl rfl upA lnA lnA onA ?_; refine oZ hK2 (c_ret ?_); refine ?_; exact x_ret rfl (.agg inferInstance inferInstance rfl (RdPK.cels (.own meA)) lnA (.nil)) (rfl)
def mfR (f bR : Nat) : Value := .func (.func f) #[.pointer (some ⟨bR, 0, none⟩)] #[]
def begT (bR : Nat) : List Value := (((((List.replicate 256 Value.nilFunc).set 46 (mfR 151 bR)).set 91 (mfR 152 bR)).set 92 (mfR 153 bR)).set 94 (mfR 154 bR)).set 36 (mfR 155 bR)
def rdC (vl : Value) (at_ : Nat) (bR : Nat) : List Value := .bool false :: vl :: .int .i64 (at_ : Nat) :: (.slice none 0 0 :: .int .i64 0 :: begT bR)
theorem rdC_beg {vl : Value} {at_ bR j : Nat} (hj : j < 256) (h : j ≠ 46 ∧ j ≠ 91 ∧ j ≠ 92 ∧ j ≠ 94 ∧ j ≠ 36) : (rdC vl at_ bR)[5 + j]? = some .nilFunc := by
  have : (rdC vl at_ bR)[5 + j]? = (begT bR)[j]? := by
    rw [show 5 + j = j + 1 + 1 + 1 + 1 + 1 by omega]; rfl
  rw [this, begT, List.getElem?_set_ne (by omega), List.getElem?_set_ne (by omega), List.getElem?_set_ne (by omega), List.getElem?_set_ne (by omega), List.getElem?_set_ne (by omega), List.getElem?_replicate, if_pos hj]
def Lit (m : Mk) : Prop := m.p = false ∧ m.b ≠ 46 ∧ m.b ≠ 91 ∧ m.b ≠ 92 ∧ m.b ≠ 94 ∧ m.b ≠ 36 ∧ m.b ≠ 42
theorem Lit.nat {m : Mk} (h : Lit m) : m.b.toNat ≠ 46 ∧ m.b.toNat ≠ 91 ∧ m.b.toNat ≠ 92 ∧ m.b.toNat ≠ 94 ∧ m.b.toNat ≠ 36 := by
  obtain ⟨_, h1, h2, h3, h4, h5, _⟩ := h
  exact ⟨fun e => h1 (UInt8.toNat_inj.1 e), fun e => h2 (UInt8.toNat_inj.1 e), fun e => h3 (UInt8.toNat_inj.1 e), fun e => h4 (UInt8.toNat_inj.1 e), fun e => h5 (UInt8.toNat_inj.1 e)⟩
theorem lit_42 {l : List Mk} (hl : ∀ m ∈ l, Lit m) (i : Nat) : seesB l i [42] = false := by
  refine seesB_f fun ⟨_, h⟩ => ?_
  obtain ⟨m, h1, _, h3⟩ := h 0 (by decide)
  have hm := hl m (List.mem_of_getElem? h1)
  exact hm.2.2.2.2.2.2 (by simpa using h3.symm)
theorem lit_92 {l : List Mk} (hl : ∀ m ∈ l, Lit m) (i : Nat) (c : UInt8) : seesB l i [92, c] = false := by
  refine seesB_f fun ⟨_, h⟩ => ?_
  obtain ⟨m, h1, _, h3⟩ := h 0 (by simp)
  have hm := hl m (List.mem_of_getElem? h1)
  exact hm.2.2.2.1 (by simpa using h3.symm)
def litN (m : Mk) : Nd := ⟨1, ofL [m.b], 0, 0, 0, 0⟩
set_option maxHeartbeats 1000000 in
theorem repeats_fn (bR : Nat) (la : Option Addr) (lc : Nat) (l : List Mk) (at_ : Nat) (hat : at_ ≤ l.length) (hll : l.length ≤ 1000000) (hlit : ∀ m ∈ l, Lit m)  : HL.Fn Tryz.prog 186 [pt bR] (fun W => RdP W bR 0 (rdC (.slice la l.length lc) at_ bR) ∧ Rd Em W (.slice la l.length lc) l) [] (fun v _ => v = .bool false) := by
  refine fn_of Tryz.func186 rfl rfl rfl fun w0 hw => ?_; refine cR fun _ hK1 => ?_; refine oA (oZ hK1 (cR fun _ hK2 => ?_)); refine oM ?_; refine o_callP (sees_fn bR false la lc l at_ (hat) hll (.slice none 0 0 :: .int .i64 0 :: begT bR) ⟨#[42]⟩ (by decide)) rfl rfl rfl (fun _ st => ⟨(RdPK.old0 hw.1).out _ st, (RdK.old0 hw.2).out _ st⟩) (fun v4 hv4 => ?_)
  rw [show seesB l at_ [42] = false from lit_42 hlit _] at hv4
  subst hv4; refine oM ?_; refine oY (oM ?_); refine oY ?_; refine oS sN ?_; refine oY ?_; refine oS sF ?_; refine oY ?_; refine oS (s_ld rfl ((RdPK.old0 hw.1).cel (j := 0) rfl rfl)) ?_; refine oY (oM ?_); refine oN ?_; refine oN ?_; refine oN ?_; refine oU ?_; refine oU ?_; refine oN ?_; refine oY ?_; refine oS sP ?_; refine oS sP (oM ?_); refine oY (oM ?_); refine oY (oM ?_); refine oY ?_; refine o_callP (sign_fn bR la lc l at_ (hat) hll (.slice none 0 0 :: .int .i64 0 :: begT bR) ⟨#[123]⟩ (by decide)) rfl rfl rfl (fun _ st => ⟨(RdPK.old0 hw.1).out _ st, (RdK.old0 hw.2).out _ st⟩) (fun v22 hv22 => ?_)
  subst hv22; refine oY ?_; refine o_callP (sees_fn bR false la lc l at_ (hat) hll (.slice none 0 0 :: .int .i64 0 :: begT bR) (⟨#[92]⟩ ++ ⟨#[123]⟩) (by decide)) rfl rfl rfl (fun _ st => ⟨(RdPK.old0 hw.1).out _ st, (RdK.old0 hw.2).out _ st⟩) (fun v23 hv23 => ?_)
  rw [show seesB l at_ (⟨#[92]⟩ ++ ⟨#[123]⟩ : ByteArray).data.toList = false from lit_92 hlit _ _] at hv23
  subst hv23; refine oS sP (oA (oZ hK2 (c_ret ?_))); refine ?_; exact xR rfl rfl (rfl)
end Go.Proofs.YtopmnmigpbdddaaGreatDoor
