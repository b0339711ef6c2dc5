/- Part of the proofs over this seat: see the text that holds the theorem. Conditions: each theorem bears its own. -/
import Derived.Test.YtmompllplidphaaGreatDoorHTZ
import Derived.Test.YtmompllplidphaaGreatDoorSM24Z
import Derived.Test.YtmompllplidphaaGreatDoorGSW8Z
import Derived.Test.YtmompllplidphaaGreatDoorHlB
import Derived.Test.YtmompllplidphaaGreatDoorGSW12Z
namespace Go.Proofs.YtmompllplidphaaGreatDoor
open Go Go.HL Go.Proofs Go.HL.Kl Go.HL.Kl.Mc Go.HL.Sts
def mbI {α : Type} [DecidableEq α] (l : List α) (s : α) : Int := if s ∈ l then 1 else 0
theorem mbI_get {α : Type} [DecidableEq α] (l : List α) (s : α) : (memM l s).getD (.int .i64 0) = .int .i64 (mbI l s) := by
  unfold memM mbI
  split <;> rfl
theorem mbI_zero {α : Type} [DecidableEq α] {l : List α} {s : α} (h : mbI l s = 0) : s ∉ l := by
  intro hm
  simp [mbI, hm] at h
theorem mbI_one {α : Type} [DecidableEq α] {l : List α} {s : α} (h : ¬ mbI l s = 0) : s ∈ l := by
  unfold mbI at h
  split at h
  · assumption
  · exact absurd rfl h
theorem backT_len (l : List Bo) : ∀ (f : Nat) (x : Bo), (backT l f x).length ≤ f
  | 0, _ => Nat.le_refl _
  | f + 1, x => by
    unfold backT
    split
    · simp
    · have := backT_len l f (l[x.frm.toNat]?.getD ⟨0, 0, -1, 0⟩)
      simp; exact this
set_option maxHeartbeats 4000000 in
theorem unlike_fn (d1 : Df) (aa1 : Option Addr) (ac1 : Nat) (na1 : Option Addr) (nc1 : Nat) (rows1 : List (Sl Int)) (ea1 : Option Addr) (ec1 : Nat) (hx1 : d1.next = rows1.map Sl.xs) (d2 : Df) (aa2 : Option Addr) (ac2 : Nat) (na2 : Option Addr) (nc2 : Nat) (rows2 : List (Sl Int)) (ea2 : Option Addr) (ec2 : Nat) (hx2 : d2.next = rows2.map Sl.xs) : HL.Fn Tryz.prog 20 [.agg [.slice aa1 d1.atoms.length ac1, .slice na1 rows1.length nc1, .slice ea1 d1.ends.length ec1].toArray, .agg [.slice aa2 d2.atoms.length ac2, .slice na2 rows2.length nc2, .slice ea2 d2.ends.length ec2].toArray] (fun w => RdD d1 aa1 ac1 na1 nc1 rows1 ea1 ec1 w ∧ RdD d2 aa2 ac2 na2 nc2 rows2 ea2 ec2 w ∧ Tb [] w) [] (fun v S' => ∃ S2, HSub S' S2 ∧ UnP (unM d1 d2) v S2) := by
  refine fn_of Tryz.func20 rfl rfl rfl fun w0 hw => ?_; refine cR fun _ hK1 => ?_; refine o_box rfl rfl rfl fun b2 => ?_; refine o_box rfl rfl rfl fun b3 => ?_; refine oA (oA (oZ hK1 (c_seq fun _ hK2 => ?_))); refine cR fun _ hK3 => ?_; refine oS (s_ldB rfl (RdPK.cels (.own meA)) lnA) ?_; refine o_callP (shaped2_fn d1 aa1 ac1 na1 nc1 rows1 ea1 ec1 hx1) rfl rfl rfl (fun w st => ⟨hw.1.old st, tb_of hw.2.2 st HSub.nil⟩) (fun v18 hv18 => ?_); subst hv18
  cases hsh1 : shP d1
  ·refine oS (s_not rfl) ?_; refine oM ?_; refine oN ?_; refine oN ?_; refine oN ?_; refine oS sT (oZ hK3 ?_); refine cT (cR fun _ hK4 => ?_); refine oA (oA (oZ hK4 (c_ret ?_))); refine x_then_ret (?_); exact x_ret rfl (.tmp rfl (.tmp rfl (.nil))) (⟨[], HSub.nil, .inl ⟨by unfold unM; rw [hsh1]; rfl, rfl⟩⟩)
  ·have hS1 := shP_iff.1 hsh1
   obtain ⟨z11, z21, z31, z41, z51⟩ := hS1.sz
   have hnl1 : d1.next.length = rows1.length := by rw [hx1, List.length_map]
   refine oS (s_not rfl) ?_; refine oM ?_; refine oY ?_; refine oS (s_ldB rfl (RdPK.cels (.own meA)) lnA) ?_; refine oY ?_; refine o_callP (shaped2_fn d2 aa2 ac2 na2 nc2 rows2 ea2 ec2 hx2) rfl rfl rfl (fun w st => ⟨hw.2.1.old st, tb_of hw.2.2 st HSub.nil⟩) (fun v22 hv22 => ?_); subst hv22
   cases hsh2 : shP d2
   ·refine oY ?_; refine oS (s_not rfl) ?_; refine oS sP (oZ hK3 ?_); refine cT (cR fun _ hK5 => ?_); refine oA (oA (oZ hK5 (c_ret ?_))); refine x_then_ret (?_); exact x_ret rfl (.tmp rfl (.tmp rfl (.nil))) (⟨[], HSub.nil, .inl ⟨by unfold unM; rw [hsh1, hsh2]; rfl, rfl⟩⟩)
   ·have hS2 := shP_iff.1 hsh2
    obtain ⟨z12, z22, z32, z42, z52⟩ := hS2.sz
    have hnl2 : d2.next.length = rows2.length := by rw [hx2, List.length_map]
    refine oY ?_; refine oS (s_not rfl) ?_; refine oS sP (oZ hK3 ?_); refine cFZ hK2 (c_seq fun _ hK6 => ?_); refine c_drawE ([(b3, .cells [.slice aa2 d2.atoms.length ac2, .slice na2 rows2.length nc2, .slice ea2 d2.ends.length ec2].toArray 30 (0, 0)), (b2, .cells [.slice aa1 d1.atoms.length ac1, .slice na1 rows1.length nc1, .slice ea1 d1.ends.length ec1].toArray 30 (0, 0))]) (fun i => false) ?_; refine eK 0 rfl (s_ldB rfl (RdPK.cels (.own meA)) lnA) ?_; refine eK 2 rfl (s_ldB rfl (RdPK.cels (.own meA)) lnA) ?_; refine e_join (ι := Nat × Nat) (fun g => [(26, .agg (arrI (fun i => (Sts.lst d1.atoms i d1.atoms.length : Nat))).toArray), (28, .agg (arrI (fun i => (Sts.lst d2.atoms i d2.atoms.length : Nat))).toArray), (6, .pointer (some ⟨g.1, 0, none⟩)), (7, .pointer (some ⟨g.2, 0, none⟩))]) [(2, _), (3, _), (4, _), (5, _)] (fun g => [(g.1, .cells (arrI (fun _ => 0)).toArray 116 (0, 0)), (g.2, .cells (arrI (fun _ => 0)).toArray 116 (0, 0)), (b3, .cells [.slice aa2 d2.atoms.length ac2, .slice na2 rows2.length nc2, .slice ea2 d2.ends.length ec2].toArray 30 (0, 0)), (b2, .cells [.slice aa1 d1.atoms.length ac1, .slice na1 rows1.length nc1, .slice ea1 d1.ends.length ec1].toArray 30 (0, 0))]) 2 #[true, true, true, true, true, true, false, false] sbA (fun hJ => ?_) ?_
    ·refine e_any3 1 4 5 rfl rfl rfl (by kernel_rfl) ?_ ?_ ?_
     ·refine o_callP (atomsO_fn d1 aa1 ac1 na1 nc1 rows1 ea1 ec1 hx1) rfl rfl rfl (fun w st => ⟨hw.1.old st, tb_of hw.2.2 st HSub.nil⟩) (fun v26 hv26 => ?_); subst hv26
      refine oX ?_; refine e_any3 3 4 5 rfl rfl rfl (by kernel_rfl) ?_ ?_ ?_
      ·refine o_callP (atomsO_fn d2 aa2 ac2 na2 nc2 rows2 ea2 ec2 hx2) rfl rfl rfl (fun w st => ⟨hw.2.1.old st, tb_of hw.2.2 st HSub.nil⟩) (fun v28 hv28 => ?_); subst hv28
       refine oX ?_; refine e_any2 4 5 rfl rfl (by kernel_rfl) ?_ ?_
       ·refine o_alloc (l := arrI (fun _ => 0)) (by rw [arrI_zero]; rfl) rfl fun b6 => ?_; refine oX (eO 5 rfl ?_); refine o_alloc (l := arrI (fun _ => 0)) (by rw [arrI_zero]; rfl) rfl fun b7 => ?_; refine oX ?_
        exact e_lst (by kernel_rfl) (hJ (b6, b7) _ _ sbA sbA hzB)
       ·refine o_alloc (l := arrI (fun _ => 0)) (by rw [arrI_zero]; rfl) rfl fun b7 => ?_; refine oX (eO 4 rfl ?_); refine o_alloc (l := arrI (fun _ => 0)) (by rw [arrI_zero]; rfl) rfl fun b6 => ?_; refine oX ?_
        exact e_lst (by kernel_rfl) (hJ (b6, b7) _ _ sbA sbA hzB)
      ·refine o_alloc (l := arrI (fun _ => 0)) (by rw [arrI_zero]; rfl) rfl fun b6 => ?_; refine oX ?_; refine e_any2 3 5 rfl rfl (by kernel_rfl) ?_ ?_
       ·refine o_callP (atomsO_fn d2 aa2 ac2 na2 nc2 rows2 ea2 ec2 hx2) rfl rfl rfl (fun w st => ⟨hw.2.1.old st, tb_of hw.2.2 st HSub.nil⟩) (fun v28 hv28 => ?_); subst hv28
        refine oX (eO 5 rfl ?_); refine o_alloc (l := arrI (fun _ => 0)) (by rw [arrI_zero]; rfl) rfl fun b7 => ?_; refine oX ?_
        exact e_lst (by kernel_rfl) (hJ (b6, b7) _ _ sbA sbA hzB)
       ·refine o_alloc (l := arrI (fun _ => 0)) (by rw [arrI_zero]; rfl) rfl fun b7 => ?_; refine oX (eO 3 rfl ?_); refine o_callP (atomsO_fn d2 aa2 ac2 na2 nc2 rows2 ea2 ec2 hx2) rfl rfl rfl (fun w st => ⟨hw.2.1.old st, tb_of hw.2.2 st HSub.nil⟩) (fun v28 hv28 => ?_); subst hv28
        refine oX ?_
        exact e_lst (by kernel_rfl) (hJ (b6, b7) _ _ sbA sbA hzB)
      ·refine o_alloc (l := arrI (fun _ => 0)) (by rw [arrI_zero]; rfl) rfl fun b7 => ?_; refine oX ?_; refine e_any2 3 4 rfl rfl (by kernel_rfl) ?_ ?_
       ·refine o_callP (atomsO_fn d2 aa2 ac2 na2 nc2 rows2 ea2 ec2 hx2) rfl rfl rfl (fun w st => ⟨hw.2.1.old st, tb_of hw.2.2 st HSub.nil⟩) (fun v28 hv28 => ?_); subst hv28
        refine oX (eO 4 rfl ?_); refine o_alloc (l := arrI (fun _ => 0)) (by rw [arrI_zero]; rfl) rfl fun b6 => ?_; refine oX ?_
        exact e_lst (by kernel_rfl) (hJ (b6, b7) _ _ sbA sbA hzB)
       ·refine o_alloc (l := arrI (fun _ => 0)) (by rw [arrI_zero]; rfl) rfl fun b6 => ?_; refine oX (eO 3 rfl ?_); refine o_callP (atomsO_fn d2 aa2 ac2 na2 nc2 rows2 ea2 ec2 hx2) rfl rfl rfl (fun w st => ⟨hw.2.1.old st, tb_of hw.2.2 st HSub.nil⟩) (fun v28 hv28 => ?_); subst hv28
        refine oX ?_
        exact e_lst (by kernel_rfl) (hJ (b6, b7) _ _ sbA sbA hzB)
     ·refine o_alloc (l := arrI (fun _ => 0)) (by rw [arrI_zero]; rfl) rfl fun b6 => ?_; refine oX ?_; refine e_any2 1 5 rfl rfl (by kernel_rfl) ?_ ?_
      ·refine o_callP (atomsO_fn d1 aa1 ac1 na1 nc1 rows1 ea1 ec1 hx1) rfl rfl rfl (fun w st => ⟨hw.1.old st, tb_of hw.2.2 st HSub.nil⟩) (fun v26 hv26 => ?_); subst hv26
       refine oX ?_; refine e_any2 3 5 rfl rfl (by kernel_rfl) ?_ ?_
       ·refine o_callP (atomsO_fn d2 aa2 ac2 na2 nc2 rows2 ea2 ec2 hx2) rfl rfl rfl (fun w st => ⟨hw.2.1.old st, tb_of hw.2.2 st HSub.nil⟩) (fun v28 hv28 => ?_); subst hv28
        refine oX (eO 5 rfl ?_); refine o_alloc (l := arrI (fun _ => 0)) (by rw [arrI_zero]; rfl) rfl fun b7 => ?_; refine oX ?_
        exact e_lst (by kernel_rfl) (hJ (b6, b7) _ _ sbA sbA hzB)
       ·refine o_alloc (l := arrI (fun _ => 0)) (by rw [arrI_zero]; rfl) rfl fun b7 => ?_; refine oX (eO 3 rfl ?_); refine o_callP (atomsO_fn d2 aa2 ac2 na2 nc2 rows2 ea2 ec2 hx2) rfl rfl rfl (fun w st => ⟨hw.2.1.old st, tb_of hw.2.2 st HSub.nil⟩) (fun v28 hv28 => ?_); subst hv28
        refine oX ?_
        exact e_lst (by kernel_rfl) (hJ (b6, b7) _ _ sbA sbA hzB)
      ·refine o_alloc (l := arrI (fun _ => 0)) (by rw [arrI_zero]; rfl) rfl fun b7 => ?_; refine oX (eO 1 rfl ?_); refine o_callP (atomsO_fn d1 aa1 ac1 na1 nc1 rows1 ea1 ec1 hx1) rfl rfl rfl (fun w st => ⟨hw.1.old st, tb_of hw.2.2 st HSub.nil⟩) (fun v26 hv26 => ?_); subst hv26
       refine oX (eO 3 rfl ?_); refine o_callP (atomsO_fn d2 aa2 ac2 na2 nc2 rows2 ea2 ec2 hx2) rfl rfl rfl (fun w st => ⟨hw.2.1.old st, tb_of hw.2.2 st HSub.nil⟩) (fun v28 hv28 => ?_); subst hv28
       refine oX ?_
       exact e_lst (by kernel_rfl) (hJ (b6, b7) _ _ sbA sbA hzB)
     ·refine o_alloc (l := arrI (fun _ => 0)) (by rw [arrI_zero]; rfl) rfl fun b7 => ?_; refine oX ?_; refine e_any2 1 4 rfl rfl (by kernel_rfl) ?_ ?_
      ·refine o_callP (atomsO_fn d1 aa1 ac1 na1 nc1 rows1 ea1 ec1 hx1) rfl rfl rfl (fun w st => ⟨hw.1.old st, tb_of hw.2.2 st HSub.nil⟩) (fun v26 hv26 => ?_); subst hv26
       refine oX ?_; refine e_any2 3 4 rfl rfl (by kernel_rfl) ?_ ?_
       ·refine o_callP (atomsO_fn d2 aa2 ac2 na2 nc2 rows2 ea2 ec2 hx2) rfl rfl rfl (fun w st => ⟨hw.2.1.old st, tb_of hw.2.2 st HSub.nil⟩) (fun v28 hv28 => ?_); subst hv28
        refine oX (eO 4 rfl ?_); refine o_alloc (l := arrI (fun _ => 0)) (by rw [arrI_zero]; rfl) rfl fun b6 => ?_; refine oX ?_
        exact e_lst (by kernel_rfl) (hJ (b6, b7) _ _ sbA sbA hzB)
       ·refine o_alloc (l := arrI (fun _ => 0)) (by rw [arrI_zero]; rfl) rfl fun b6 => ?_; refine oX (eO 3 rfl ?_); refine o_callP (atomsO_fn d2 aa2 ac2 na2 nc2 rows2 ea2 ec2 hx2) rfl rfl rfl (fun w st => ⟨hw.2.1.old st, tb_of hw.2.2 st HSub.nil⟩) (fun v28 hv28 => ?_); subst hv28
        refine oX ?_
        exact e_lst (by kernel_rfl) (hJ (b6, b7) _ _ sbA sbA hzB)
      ·refine o_alloc (l := arrI (fun _ => 0)) (by rw [arrI_zero]; rfl) rfl fun b6 => ?_; refine oX (eO 1 rfl ?_); refine o_callP (atomsO_fn d1 aa1 ac1 na1 nc1 rows1 ea1 ec1 hx1) rfl rfl rfl (fun w st => ⟨hw.1.old st, tb_of hw.2.2 st HSub.nil⟩) (fun v26 hv26 => ?_); subst hv26
       refine oX (eO 3 rfl ?_); refine o_callP (atomsO_fn d2 aa2 ac2 na2 nc2 rows2 ea2 ec2 hx2) rfl rfl rfl (fun w st => ⟨hw.2.1.old st, tb_of hw.2.2 st HSub.nil⟩) (fun v28 hv28 => ?_); subst hv28
       refine oX ?_
       exact e_lst (by kernel_rfl) (hJ (b6, b7) _ _ sbA sbA hzB)
    ·rintro ⟨b6, b7⟩
     refine eO 6 rfl ?_; refine o_stW rfl rfl upA (arrI_len _) (arrI_len _) (arrI_one _) ?_; refine oX (eO 7 rfl ?_); refine o_stW rfl rfl upA (arrI_len _) (arrI_len _) (arrI_one _) ?_; refine oX (eZ hK6 (cR fun _ hK7 => ?_)); refine oS (s_build (cs := [_, _, _, _]) (vs := [_]) rfl rfl (.cons rfl rfl rfl rfl rfl (.nil))) ?_; refine o_bs (E := EBo) (xs := [⟨0, 0, -1, 0⟩]) (vs := [_]) rfl rfl rfl rfl rfl (by decide) (by decide) fun b30 S30 hS30 => ?_; refine oA (oZ hK7 (cR fun _ hK8 => ?_)); refine o_mmap2 (Ek := EkQ) rfl fun b31 => ?_; refine oS (step_cast (v' := EkQ ((0 : Int), (0 : Int))) (s_buildA1 [.int .i64 0, .int .i64 0] rfl rfl rfl rfl (by simp [Value.oneCell'])) rfl) ?_; refine o_ins2 (Ek := EkQ) (k := ((0 : Int), (0 : Int))) rfl rfl rfl pkA fun es0 c0 hset0 hel0 => ?_; refine oM (oA (oZ hK8 (cR fun _ hK9 => ?_))); refine oA (oZ hK9 (cR fun _ hK10 => ?_)); refine oA (oZ hK10 (c_seq fun _ hK11 => ?_)); refine cR fun _ hK12 => ?_; refine oA (oZ hK12 (c_block ?_))
     -- not carried: 4 5
     refine c_loop7 (fun (i : Nat) (l : List Bo) (la : Option Addr) (lc : Nat) (es : List (Mx (Int × Int))) (mc : Nat) (Sl0 : Hp) => unRun d1 d2 (66051 - i) i l = unM d1 d2 ∧ i ≤ l.length ∧ UnI d1 d2 l ∧ (∀ t, getM es t = memM (l.map Bo.pq) t) ∧ OwnS EBo 4 120 (.slice la l.length lc) l Sl0) (fun (i : Nat) (l : List Bo) (la : Option Addr) (lc : Nat) (es : List (Mx (Int × Int))) (mc : Nat) (Sl0 : Hp) => [(8, .slice la l.length lc), (12, .int .i64 i)]) [(2, _), (3, _), (6, _), (7, _), (9, _), (10, _), (11, _)] (fun (i : Nat) (l : List Bo) (la : Option Addr) (lc : Nat) (es : List (Mx (Int × Int))) (mc : Nat) (Sl0 : Hp) => (b2, .cells [.slice aa1 d1.atoms.length ac1, .slice na1 rows1.length nc1, .slice ea1 d1.ends.length ec1].toArray 30 (0, 0)) :: (b3, .cells [.slice aa2 d2.atoms.length ac2, .slice na2 rows2.length nc2, .slice ea2 d2.ends.length ec2].toArray 30 (0, 0)) :: (b6, .cells (arrI (fun i => (Sts.lst d1.atoms i d1.atoms.length : Nat))).toArray 116 (0, 0)) :: (b7, .cells (arrI (fun i => (Sts.lst d2.atoms i d2.atoms.length : Nat))).toArray 116 (0, 0)) :: (b31, mxO EkQ es mc) :: Sl0) (fun (i : Nat) (l : List Bo) (la : Option Addr) (lc : Nat) (es : List (Mx (Int × Int))) (mc : Nat) (Sl0 : Hp) => 66051 - i) 0 [⟨0, 0, -1, 0⟩] (some ⟨b30, 0, none⟩) 1 es0 c0 S30 ⟨by unfold unM; rw [hsh1, hsh2]; rfl, Nat.zero_le _, UnI.one (by omega) (by omega), memM_add (l := []) (s := ((0 : Int), (0 : Int))) (g := getM ([] : List (Mx (Int × Int)))) (fun _ => rfl) hset0, hS30⟩ sbA sbA hzB ?_
     rintro i l la lc es mc Sl0 ⟨hrun, hil, hU, hN, hO⟩
     have hUl := hU.len z21 z22
     have hsl := hO.sl
     have hU0 := hU
     refine c_seq fun _ hK13 => ?_; refine cR fun _ hK14 => ?_; refine oM (oM ?_); refine oS sC ?_
     by_cases hlt : i < l.length
     ·obtain ⟨x, hxi⟩ : ∃ x, l[i]? = some x := gE
      refine oS (step_cast (v' := .bool true) (s_lss rfl rfl) (congrArg Value.bool (decide_eq_true (by omega)))) ?_; refine oZ hK14 ?_; refine cTZ hK13 (c_seq fun _ hK15 => ?_); refine c_block (cR fun _ hK16 => ?_); refine oM (oM ?_); refine oS (s_idx rfl rfl hsl (by omega)) ?_; refine oS (s_ldB rfl ((hO.rdk hiA).lds i hxi (by omega)) lnA) ?_; refine o_alloc rfl rfl fun b13 => ?_; refine o_stW rfl rfl upA lnA lnA onA ?_; refine oZ hK16 (c_seq fun _ hK17 => ?_); refine c_seq fun _ hK18 => ?_; refine c_drawE ([(b13, .cells (EBo x).toArray 120 (0, 0)), (b2, .cells [.slice aa1 d1.atoms.length ac1, .slice na1 rows1.length nc1, .slice ea1 d1.ends.length ec1].toArray 30 (0, 0)), (b3, .cells [.slice aa2 d2.atoms.length ac2, .slice na2 rows2.length nc2, .slice ea2 d2.ends.length ec2].toArray 30 (0, 0))]) (fun i => false) ?_; refine eP 0 rfl sM ?_; refine eK 1 rfl (s_ldB rfl (RdPK.cels (.own meA)) lnA) ?_; refine eP 2 rfl sF ?_; refine eP 3 rfl (s_indexA rfl rfl (by omega)) ?_; refine eK 4 rfl sL ?_; refine eP 6 rfl sM ?_; refine eK 7 rfl (s_ldB rfl (RdPK.cels (.own meA)) lnA) ?_; refine eP 8 rfl sF ?_; refine eP 9 rfl (s_indexA rfl rfl (by omega)) ?_; refine eK 10 rfl sL (eO 5 rfl ?_); refine o_callC (us := []) (vs := [_, _]) (cs := []) (endsU_fn d1 aa1 ac1 na1 nc1 rows1 ea1 ec1 hx1 x.p (hU.bp x (List.mem_of_getElem? hxi)).2) rfl rfl rfl (by exact .nil) (fun w st => hw.1.old st) (fun v49 S49 hv49 => ?_); subst hv49
      refine oX (eO 11 rfl ?_); refine o_callC (us := []) (vs := [_, _]) (cs := []) (endsU_fn d2 aa2 ac2 na2 nc2 rows2 ea2 ec2 hx2 x.q (hU.bq x (List.mem_of_getElem? hxi)).2) rfl rfl rfl (by exact .nil) (fun w st => hw.2.1.old st) (fun v55 S55 hv55 => ?_); subst hv55
      refine oX ?_
      by_cases hne : endsR d1 x.p ≠ endsR d2 x.q
      ·refine eP 12 rfl (step_cast (v' := .bool true) (s_neq_bool rfl rfl) (congrArg Value.bool (decide_eq_true hne))) ?_; refine eZ hK18 ?_; refine cT (cR fun _ hK19 => ?_); refine oA (oZ hK19 (c_seq fun _ hK20 => ?_)); refine c_block ?_; refine c_loop6 (fun (t : List UInt8) (y : Bo) (k : Nat) (ta : Option Addr) (tc : Nat) (St : Hp) => t ++ back l y = back l x ∧ l[k]? = some y ∧ OwnS Eb 1 5 (.slice ta t.length tc) t St) (fun (t : List UInt8) (y : Bo) (k : Nat) (ta : Option Addr) (tc : Nat) (St : Hp) => [(14, .slice ta t.length tc)]) [(2, _), (3, _), (6, _), (7, _), (8, _), (9, _), (10, _), (11, _), (12, _), (13, _), (34, _), (35, _), (36, _), (37, _), (40, _), (41, _), (42, _), (43, _), (44, _), (45, _), (46, _), (47, _), (48, _), (49, _), (50, _), (51, _), (52, _), (53, _), (54, _), (55, _), (56, _)] (fun (t : List UInt8) (y : Bo) (k : Nat) (ta : Option Addr) (tc : Nat) (St : Hp) => (b13, .cells (EBo y).toArray 120 (0, 0)) :: (b2, .cells [.slice aa1 d1.atoms.length ac1, .slice na1 rows1.length nc1, .slice ea1 d1.ends.length ec1].toArray 30 (0, 0)) :: (b3, .cells [.slice aa2 d2.atoms.length ac2, .slice na2 rows2.length nc2, .slice ea2 d2.ends.length ec2].toArray 30 (0, 0)) :: (b6, .cells (arrI (fun i => (Sts.lst d1.atoms i d1.atoms.length : Nat))).toArray 116 (0, 0)) :: (b7, .cells (arrI (fun i => (Sts.lst d2.atoms i d2.atoms.length : Nat))).toArray 116 (0, 0)) :: (b31, mxO EkQ es mc) :: (Sl0 ++ St)) (fun (t : List UInt8) (y : Bo) (k : Nat) (ta : Option Addr) (tc : Nat) (St : Hp) => (y.frm + 1).toNat) [] x i none 0 [] ⟨rfl, hxi, OwnS.nil⟩ sbA sbA hzB ?_
       rintro t y k ta tc St ⟨hb, hyk, hT⟩
       have hfy := hU.fr k y hyk
       have hkl := (List.getElem?_eq_some_iff.1 hyk).1
       have htl := congrArg List.length hb
       rw [List.length_append] at htl
       have hbl := backT_len l (x.frm + 1).toNat x
       have hfx := hU.fr i x hxi
       change (back l x).length ≤ _ at hbl
       refine c_seq fun _ hK21 => ?_; refine cR fun _ hK22 => ?_; refine oS sF ?_; refine oS sL ?_
       by_cases hpos : y.frm ≥ 0
       ·obtain ⟨z, hz⟩ : ∃ z, l[y.frm.toNat]? = some z := gE
        refine oS (step_cast (v' := .bool true) (s_geq rfl rfl) (congrArg Value.bool (decide_eq_true hpos))) ?_; refine oZ hK22 ?_; refine cTZ hK21 (c_seq fun _ hK23 => ?_); refine c_block (c_region (oM ?_)); refine oS sF ?_; refine oS (step_cast (v' := .int .u8 ((UInt8.ofNat y.by_).toNat : Nat)) (s_ld rfl (.own meA rfl)) (by rw [UInt8.toNat_ofNat_of_lt' (by have := hU.by_ y (List.mem_of_getElem? hyk); simp [UInt8.size]; omega)])) ?_; refine o_bs (E := Eb) (xs := [UInt8.ofNat y.by_]) (vs := [_]) rfl rfl rfl rfl rfl (by decide) (by decide) fun b68 S68 hS68 => ?_; refine o_app hT (hS68.rdk hiA) rfl rfl rfl rfl (by simp only [List.length_append, List.length_singleton]; omega) (by simp only [List.length_append, List.length_singleton]; omega) rfl pkA fun a69 c69 S69 hS69 => ?_; refine oA (o_nil (x_block (xZ hK23 (c_region (oM ?_))))); refine oS sF ?_; refine oS sL ?_; refine oS (s_idx rfl rfl hsl (by omega)) ?_; refine oS (s_ldB rfl ((hO.rdk hiA).lds y.frm.toNat hz (by omega)) lnA) ?_; refine o_stW rfl rfl upA lnA lnA onA ?_; refine o_nil ?_; exact x_then (x_inv (t ++ [UInt8.ofNat y.by_], z, y.frm.toNat, a69, c69, S69) ⟨by rw [← hb, back_step hU hyk (by omega) hz]; simp, hz, hS69⟩ (by have := hU.fr _ z hz; first | omega | (dsimp only; omega)) sbA hzB)
       ·rw [back_end (l := l) (x := y) (by omega), List.append_nil] at hb
        refine oS (step_cast (v' := .bool false) (s_geq rfl rfl) (congrArg Value.bool (decide_eq_false hpos))) ?_; refine oZ hK22 ?_; refine cF ?_; refine c_exit ?_; refine x_then_exit (x_then_exit (x_block_exit (xZ hK20 (cR fun _ hK24 => ?_)))); refine oM ?_; refine o_call (reverse_fn ta tc t St hT) rfl rfl rfl (pkA) (fun _ _ => trivial) (fun v71 S71 hS71 => ?_); refine oZ hK24 (cR fun _ hK25 => ?_); refine oM (oA (oA (oZ hK25 (c_ret ?_)))); refine x_then_ret (x_block_ret (x_then_ret (x_then_ret (x_block_ret (x_then_ret (?_))))))
        exact x_ret rfl (.tmp rfl (.tmp rfl (.nil))) (⟨S71, by exact hzB, .inr ⟨_, ta, tc, by rw [← hrun, unRun_hit (by omega) hxi hne, ← hb], by rw [List.length_reverse]; rfl, by rw [List.length_reverse]; exact hS71⟩⟩)
      ·have heq := Classical.not_not.1 hne
       refine eP 12 rfl (step_cast (v' := .bool false) (s_neq_bool rfl rfl) (congrArg Value.bool (decide_eq_false hne))) ?_; refine eZ hK18 ?_; refine cFZ hK17 (cR fun _ hK26 => ?_); refine oM (oZ hK26 (c_block ?_)); refine c_loop7 (fun (c : Nat) (m : List Bo) (la : Option Addr) (lc : Nat) (es : List (Mx (Int × Int))) (mc : Nat) (Sl0 : Hp) => c ≤ 256 ∧ m = unRow d1 d2 i x c l ∧ UnI d1 d2 m ∧ l.length ≤ m.length ∧ (∀ t, getM es t = memM (m.map Bo.pq) t) ∧ OwnS EBo 4 120 (.slice la m.length lc) m Sl0) (fun (c : Nat) (m : List Bo) (la : Option Addr) (lc : Nat) (es : List (Mx (Int × Int))) (mc : Nat) (Sl0 : Hp) => [(73, .int .i64 c), (8, .slice la m.length lc)]) [(2, _), (3, _), (6, _), (7, _), (9, _), (10, _), (11, _), (12, _), (13, _), (34, _), (35, _), (36, _), (37, _), (40, _), (41, _), (42, _), (43, _), (44, _), (45, _), (46, _), (47, _), (48, _), (49, _), (50, _), (51, _), (52, _), (53, _), (54, _), (55, _), (56, _)] (fun (c : Nat) (m : List Bo) (la : Option Addr) (lc : Nat) (es : List (Mx (Int × Int))) (mc : Nat) (Sl0 : Hp) => (b13, .cells (EBo x).toArray 120 (0, 0)) :: (b2, .cells [.slice aa1 d1.atoms.length ac1, .slice na1 rows1.length nc1, .slice ea1 d1.ends.length ec1].toArray 30 (0, 0)) :: (b3, .cells [.slice aa2 d2.atoms.length ac2, .slice na2 rows2.length nc2, .slice ea2 d2.ends.length ec2].toArray 30 (0, 0)) :: (b6, .cells (arrI (fun i => (Sts.lst d1.atoms i d1.atoms.length : Nat))).toArray 116 (0, 0)) :: (b7, .cells (arrI (fun i => (Sts.lst d2.atoms i d2.atoms.length : Nat))).toArray 116 (0, 0)) :: (b31, mxO EkQ es mc) :: Sl0) (fun (c : Nat) (m : List Bo) (la : Option Addr) (lc : Nat) (es : List (Mx (Int × Int))) (mc : Nat) (Sl0 : Hp) => 256 - c) 0 l la lc es mc Sl0 ⟨Nat.zero_le _, rfl, hU, Nat.le_refl _, hN, hO⟩ sbA sbA hzB ?_
       rintro c m la lc es mc Sl0 ⟨hc, hmr, hU, hlm, hN, hO⟩
       have hUm := hU.len z21 z22
       refine cR fun _ hK27 => ?_; refine oS (s_lss rfl rfl) ?_; refine oZ hK27 (c_seq fun _ hK28 => ?_); refine c_if rfl (fun hlc => ?_) (fun hlc => ?_)
       ·refine c_skip (xZ hK28 (c_seq fun _ hK29 => ?_)); refine c_block (cR fun _ hK30 => ?_); refine oM (oA (oZ hK30 (c_seq fun _ hK31 => ?_))); refine c_drawE ((b13, .cells (EBo x).toArray 120 (0, 0)) :: (b2, .cells [.slice aa1 d1.atoms.length ac1, .slice na1 rows1.length nc1, .slice ea1 d1.ends.length ec1].toArray 30 (0, 0)) :: (b3, .cells [.slice aa2 d2.atoms.length ac2, .slice na2 rows2.length nc2, .slice ea2 d2.ends.length ec2].toArray 30 (0, 0)) :: (b6, .cells (arrI (fun i => (Sts.lst d1.atoms i d1.atoms.length : Nat))).toArray 116 (0, 0)) :: (b7, .cells (arrI (fun i => (Sts.lst d2.atoms i d2.atoms.length : Nat))).toArray 116 (0, 0)) :: (b31, mxO EkQ es mc) :: Sl0) (fun i => Nat.beq i 20) ?_; refine eP 0 rfl sM ?_; refine eK 1 rfl (s_ldB rfl (RdPK.cels (.own meA)) lnA) ?_; refine eP 2 rfl sF ?_; refine eP 3 rfl (s_indexA rfl rfl (by omega)) ?_; refine eK 4 rfl sL ?_; refine eP 5 rfl sM ?_; refine eP 6 rfl (s_indexA rfl rfl (by omega)) ?_; refine eK 7 rfl (s_ld rfl ((RdPK.own meA).cel (j := c) (arrI_get (by omega)) (by omega))) ?_; refine eP 9 rfl sM ?_; refine eK 10 rfl (s_ldB rfl (RdPK.cels (.own meA)) lnA) ?_; refine eP 11 rfl sF ?_; refine eP 12 rfl (s_indexA rfl rfl (by omega)) ?_; refine eK 13 rfl sL ?_; refine eP 14 rfl sM ?_; refine eP 15 rfl (s_indexA rfl rfl (by omega)) ?_; refine eK 16 rfl (s_ld rfl ((RdPK.own meA).cel (j := c) (arrI_get (by omega)) (by omega))) ?_; refine e_join (ι := Nat) (fun b16 => [(94, .agg [.int .i64 (gP d1 x.p c), .int .i64 (gP d2 x.q c)].toArray), (16, .pointer (some ⟨b16, 0, none⟩))]) [(2, _), (3, _), (6, _), (7, _), (8, _), (9, _), (10, _), (11, _), (12, _), (13, _), (15, _), (34, _), (35, _), (36, _), (37, _), (40, _), (41, _), (42, _), (43, _), (44, _), (45, _), (46, _), (47, _), (48, _), (49, _), (50, _), (51, _), (52, _), (53, _), (54, _), (55, _), (56, _), (73, _), (74, _), (75, _), (76, _), (77, _), (78, _), (79, _), (80, _), (81, _), (82, _), (83, _), (85, _), (86, _), (87, _), (88, _), (89, _), (90, _), (91, _), (92, _)] (fun b16 => (b16, .cells [.int .i64 0, .int .i64 0].toArray 118 (0, 0)) :: (b13, .cells (EBo x).toArray 120 (0, 0)) :: (b2, .cells [.slice aa1 d1.atoms.length ac1, .slice na1 rows1.length nc1, .slice ea1 d1.ends.length ec1].toArray 30 (0, 0)) :: (b3, .cells [.slice aa2 d2.atoms.length ac2, .slice na2 rows2.length nc2, .slice ea2 d2.ends.length ec2].toArray 30 (0, 0)) :: (b6, .cells (arrI (fun i => (Sts.lst d1.atoms i d1.atoms.length : Nat))).toArray 116 (0, 0)) :: (b7, .cells (arrI (fun i => (Sts.lst d2.atoms i d2.atoms.length : Nat))).toArray 116 (0, 0)) :: (b31, mxO EkQ es mc) :: Sl0) 1 #[true, true, true, true, true, true, true, true, true, true, true, true, true, true, true, true, true, true, true, true, false] sbA (fun hJ => ?_) ?_
        ·refine e_any2 8 19 rfl rfl (by kernel_rfl) ?_ ?_
         ·refine o_callC (us := []) (vs := [_, _, _]) (cs := []) (goesU_fn d1 aa1 ac1 na1 nc1 rows1 ea1 ec1 hx1 x.p (by have := hU0.bp x (List.mem_of_getElem? hxi); omega) (Sts.lst d1.atoms c d1.atoms.length) (fun s hs => by rw [(hS1.rows s.xs (by rw [hx1]; exact List.mem_map.2 ⟨s, hs, rfl⟩)).1]; exact lst_lt _ _ z41)) rfl rfl rfl (by exact .nil) (fun w st => hw.1.old st) (fun v84 S84 hv84 => ?_)
          change v84 = .int .i64 (gP d1 x.p c) at hv84
          subst hv84; refine oX ?_; refine e_any2 17 19 rfl rfl (by kernel_rfl) ?_ ?_
          ·refine o_callC (us := []) (vs := [_, _, _]) (cs := []) (goesU_fn d2 aa2 ac2 na2 nc2 rows2 ea2 ec2 hx2 x.q (by have := hU0.bq x (List.mem_of_getElem? hxi); omega) (Sts.lst d2.atoms c d2.atoms.length) (fun s hs => by rw [(hS2.rows s.xs (by rw [hx2]; exact List.mem_map.2 ⟨s, hs, rfl⟩)).1]; exact lst_lt _ _ z42)) rfl rfl rfl (by exact .nil) (fun w st => hw.2.1.old st) (fun v93 S93 hv93 => ?_)
           change v93 = .int .i64 (gP d2 x.q c) at hv93
           subst hv93; refine oX ?_; refine e_any2 18 19 rfl rfl (by kernel_rfl) ?_ ?_
           ·refine oS (s_buildA1 [.int .i64 (gP d1 x.p c), .int .i64 (gP d2 x.q c)] rfl rfl rfl rfl (by simp [Value.oneCell'])) ?_; refine oX (eO 19 rfl ?_); refine o_alloc rfl rfl fun b16 => ?_; refine oX ?_
            exact e_lst (by kernel_rfl) (hJ b16 _ _ sbA sbA hzB)
           ·refine o_alloc rfl rfl fun b16 => ?_; refine oX (eO 18 rfl ?_); refine oS (s_buildA1 [.int .i64 (gP d1 x.p c), .int .i64 (gP d2 x.q c)] rfl rfl rfl rfl (by simp [Value.oneCell'])) ?_; refine oX ?_
            exact e_lst (by kernel_rfl) (hJ b16 _ _ sbA sbA hzB)
          ·refine o_alloc rfl rfl fun b16 => ?_; refine oX (eO 17 rfl ?_); refine o_callC (us := []) (vs := [_, _, _]) (cs := []) (goesU_fn d2 aa2 ac2 na2 nc2 rows2 ea2 ec2 hx2 x.q (by have := hU0.bq x (List.mem_of_getElem? hxi); omega) (Sts.lst d2.atoms c d2.atoms.length) (fun s hs => by rw [(hS2.rows s.xs (by rw [hx2]; exact List.mem_map.2 ⟨s, hs, rfl⟩)).1]; exact lst_lt _ _ z42)) rfl rfl rfl (by exact .nil) (fun w st => hw.2.1.old st) (fun v93 S93 hv93 => ?_)
           change v93 = .int .i64 (gP d2 x.q c) at hv93
           subst hv93; refine oX (eO 18 rfl ?_); refine oS (s_buildA1 [.int .i64 (gP d1 x.p c), .int .i64 (gP d2 x.q c)] rfl rfl rfl rfl (by simp [Value.oneCell'])) ?_; refine oX ?_
           exact e_lst (by kernel_rfl) (hJ b16 _ _ sbA sbA hzB)
         ·refine o_alloc rfl rfl fun b16 => ?_; refine oX (eO 8 rfl ?_); refine o_callC (us := []) (vs := [_, _, _]) (cs := []) (goesU_fn d1 aa1 ac1 na1 nc1 rows1 ea1 ec1 hx1 x.p (by have := hU0.bp x (List.mem_of_getElem? hxi); omega) (Sts.lst d1.atoms c d1.atoms.length) (fun s hs => by rw [(hS1.rows s.xs (by rw [hx1]; exact List.mem_map.2 ⟨s, hs, rfl⟩)).1]; exact lst_lt _ _ z41)) rfl rfl rfl (by exact .nil) (fun w st => hw.1.old st) (fun v84 S84 hv84 => ?_)
          change v84 = .int .i64 (gP d1 x.p c) at hv84
          subst hv84; refine oX (eO 17 rfl ?_); refine o_callC (us := []) (vs := [_, _, _]) (cs := []) (goesU_fn d2 aa2 ac2 na2 nc2 rows2 ea2 ec2 hx2 x.q (by have := hU0.bq x (List.mem_of_getElem? hxi); omega) (Sts.lst d2.atoms c d2.atoms.length) (fun s hs => by rw [(hS2.rows s.xs (by rw [hx2]; exact List.mem_map.2 ⟨s, hs, rfl⟩)).1]; exact lst_lt _ _ z42)) rfl rfl rfl (by exact .nil) (fun w st => hw.2.1.old st) (fun v93 S93 hv93 => ?_)
          change v93 = .int .i64 (gP d2 x.q c) at hv93
          subst hv93; refine oX (eO 18 rfl ?_); refine oS (s_buildA1 [.int .i64 (gP d1 x.p c), .int .i64 (gP d2 x.q c)] rfl rfl rfl rfl (by simp [Value.oneCell'])) ?_; refine oX ?_
          exact e_lst (by kernel_rfl) (hJ b16 _ _ sbA sbA hzB)
        ·rintro b16
         refine eO 20 rfl ?_; refine o_stW rfl rfl upA lnA lnA onA ?_; refine o_nil ?_; refine x_oneL rfl ?_; refine eZ hK31 (cR fun _ hK32 => ?_); refine oM ?_; refine oS (s_ldB rfl (RdPK.cels (.own meA)) lnA) ?_; refine oS (step_cast (v' := .int .i64 (mbI (m.map Bo.pq) (gP d1 x.p c, gP d2 x.q c))) (s_look2 (Ek := EkQ) (k := (gP d1 x.p c, gP d2 x.q c)) rfl rfl meA) (by rw [hN]; exact mbI_get _ _)) ?_
         by_cases hmz : mbI (m.map Bo.pq) (gP d1 x.p c, gP d2 x.q c) = 0
         ·have hmn := mbI_zero hmz
          refine oS (step_cast (v' := .bool true) (s_eql rfl rfl) (congrArg Value.bool (decide_eq_true hmz))) ?_; refine oZ hK32 ?_; refine cT (cR fun _ hK33 => ?_); refine oM ?_; refine oS (s_ldB rfl (RdPK.cels (.own meA)) lnA) ?_; refine o_mset2 (Ek := EkQ) (k := (gP d1 x.p c, gP d2 x.q c)) rfl rfl rfl pkA fun es' c' hset hel' => ?_; refine oZ hK33 (c_region (oM ?_)); refine oS (s_ldB rfl (RdPK.cels (.own meA)) lnA) ?_; refine oM (oM ?_); refine oS (step_cast (v' := .int .u8 ((c : Nat) : Int)) (s_conv rfl) (congrArg _ (conv8 (by omega)))) ?_; refine oS (s_build (cs := [_, _, _, _]) (vs := [_, _, _]) rfl rfl (.cons rfl rfl rfl rfl rfl (.cons rfl rfl rfl rfl rfl (.cons rfl rfl rfl rfl rfl (.nil))))) ?_; refine o_bs (E := EBo) (xs := [⟨gP d1 x.p c, gP d2 x.q c, i, c⟩]) (vs := [_]) rfl rfl rfl rfl rfl (by decide) (by decide) fun b107 S107 hS107 => ?_; refine o_app hO (hS107.rdk hiA) rfl rfl rfl rfl (by simp only [List.length_append, List.length_singleton]; omega) (by simp only [List.length_append, List.length_singleton]; omega) rfl pkA fun a108 c108 S108 hS108 => ?_; refine oA (o_nil (x_block (xZ hK29 (c_region ?_)))); refine oS sD (oM (o_nil ?_)); exact xI (c + 1, m ++ [⟨gP d1 x.p c, gP d2 x.q c, i, c⟩], a108, c108, es', c', S108) ⟨by omega, by rw [hmr] at hmn; rw [hmr, unRow_new hmn], hU.push hmn (gP_bnd hS1 (hU0.bp x (List.mem_of_getElem? hxi)).2 c) (gP_bnd hS2 (hU0.bq x (List.mem_of_getElem? hxi)).2 c) (by omega) (by omega), by simp only [List.length_append, List.length_singleton]; omega, by rw [List.map_append]; exact memM_add hN hset, hS108⟩
         ·have hmn := mbI_one hmz
          refine oS (step_cast (v' := .bool false) (s_eql rfl rfl) (congrArg Value.bool (decide_eq_false hmz))) ?_; refine oZ hK32 ?_; refine cF (c_skip (x_block (xZ hK29 (c_region ?_)))); refine oS sD (oM (o_nil ?_)); exact xI (c + 1, m, la, lc, es, mc, Sl0) ⟨by omega, by rw [hmr] at hmn; rw [hmr, unRow_old hmn], hU, hlm, hN, hO⟩
       ·obtain rfl : c = 256 := by omega
        refine c_exit ?_; refine x_then_exit (x_then_exit (x_block_exit (x_block (xZ hK15 (c_region (oM ?_)))))); refine oS sD (oA (o_nil ?_)); exact xI (i + 1, m, la, lc, es, mc, Sl0) ⟨by rw [← hrun, unRun_step (by omega) hxi heq, ← hmr, Nat.sub_sub], by dsimp only; omega, hU, hN, hO⟩
     ·refine oS (step_cast (v' := .bool false) (s_lss rfl rfl) (congrArg Value.bool (decide_eq_false (by omega)))) ?_; refine oZ hK14 ?_; refine cF ?_; refine c_exit ?_; refine x_then_exit (x_then_exit (x_block_exit (xZ hK11 (cR fun _ hK34 => ?_)))); refine oA (oA (oZ hK34 (c_ret ?_))); refine ?_; exact x_ret rfl (.tmp rfl (.tmp rfl (.nil))) (⟨[], HSub.nil, .inl ⟨by rw [← hrun, unRun_end (by omega)], rfl⟩⟩)
set_option maxHeartbeats 4000000 in
theorem unlike2_fn (d1 : Df) (aa1 : Option Addr) (ac1 : Nat) (na1 : Option Addr) (nc1 : Nat) (rows1 : List (Sl Int)) (ea1 : Option Addr) (ec1 : Nat) (hx1 : d1.next = rows1.map Sl.xs) (d2 : Df) (aa2 : Option Addr) (ac2 : Nat) (na2 : Option Addr) (nc2 : Nat) (rows2 : List (Sl Int)) (ea2 : Option Addr) (ec2 : Nat) (hx2 : d2.next = rows2.map Sl.xs) : HL.Fn Tryz.prog 20 [.agg [.slice aa1 d1.atoms.length ac1, .slice na1 rows1.length nc1, .slice ea1 d1.ends.length ec1].toArray, .agg [.slice aa2 d2.atoms.length ac2, .slice na2 rows2.length nc2, .slice ea2 d2.ends.length ec2].toArray] (fun w => RdD d1 aa1 ac1 na1 nc1 rows1 ea1 ec1 w ∧ RdD d2 aa2 ac2 na2 nc2 rows2 ea2 ec2 w ∧ Tb [] w) [] (UnP (unM d1 d2)) :=
  HL.Fn.sub (unlike_fn d1 aa1 ac1 na1 nc1 rows1 ea1 ec1 hx1 d2 aa2 ac2 na2 nc2 rows2 ea2 ec2 hx2) fun v S' ⟨S2, h1, h2⟩ => ⟨S2, h1, h2⟩
end Go.Proofs.YtmompllplidphaaGreatDoor
namespace Go.HL
open Go
def midA (a : Option Addr) (c lo k : Nat) : Option Addr := if c = lo then a else a.map (·.add (lo * k))
section
variable {P : Program} {κ : Cx} {L : HL.Loc} {H : Hp} {ty t : TypeId} {x y z : Operand}
theorem s_slice_mid {e s by' n c : Nat} {a : Option Addr} {kl kh : IntKind} {l h : Int} [TU P t (.slice e)] [TI P e s by'] (hx : ev L x = some (.slice a n c)) (hy : ev L y = some (.int kl l)) (hz : ev L z = some (.int kh h)) (hb : 0 ≤ l ∧ l ≤ h ∧ h ≤ c) :
    Step P κ (.slice t x (some y) (some z) none) ty L H (.slice (midA a c l.toNat s) (h.toNat - l.toNat) (c - l.toNat)) :=
  ⟨fun ρ w d pos af g hρ _ => by
    have b1 : 0 ≤ h ∧ h ≤ c := by omega
    have b2 : 0 ≤ l ∧ l ≤ (h.toNat : Int) := by omega
    have b3 : 0 ≤ l ∧ l ≤ max h 0 := by omega
    have e2 : (Instr.slice t (.slice a n c) (some (.int kl l)) (some (.int kh h)) none).run P w = .ok (.slice (midA a c l.toNat s) (h.toNat - l.toNat) (c - l.toNat)) w := by
      simp [Instr.slice, run_u, Instr.sliceBounds, Instr.sliceBound, asIntOf, b1, b2, b3, run_size, midA]
    simp [execOp, hρ _ _ hx, hρ _ _ hy, hρ _ _ hz, Instr.sliceAt, run_u, e2]⟩
end
theorem flat_mid {α : Type} (E : α → List Value) {k : Nat} [h : Enc E k] (xs : List α) (lo m : Nat) {j : Nat} {u : Value} (hu : (flat E ((xs.drop lo).take m))[j]? = some u) : (flat E xs)[lo * k + j]? = some u := by
  have e : xs = xs.take lo ++ ((xs.drop lo).take m ++ (xs.drop lo).drop m) := by rw [List.take_append_drop, List.take_append_drop]
  have hj : j < (flat E ((xs.drop lo).take m)).length := by
    rcases Nat.lt_or_ge j (flat E ((xs.drop lo).take m)).length with h' | h'
    · exact h'
    · rw [List.getElem?_eq_none h'] at hu; cases hu
  rcases Nat.lt_or_ge lo xs.length with hl | hl
  · rw [e, flat_append, flat_append]
    have hlen : (flat E (xs.take lo)).length = lo * k := by rw [flat_len, List.length_take, Nat.min_eq_left (by omega)]
    rw [List.getElem?_append_right (by omega), hlen, Nat.add_sub_cancel_left, List.getElem?_append_left hj]
    exact hu
  · rw [List.drop_of_length_le hl] at hj; simp [flat] at hj
theorem Rd.mid {α : Type} {E : α → List Value} {k : Nat} [he : Enc E k] {w : World} {a : Option Addr} {n c : Nat} {xs : List α} (h : Rd E w (.slice a n c) xs) (lo hi : Nat) (h1 : lo ≤ hi) (h2 : hi ≤ xs.length) :
    Rd E w (.slice (midA a c lo k) ((xs.drop lo).take (hi - lo)).length (c - lo)) ((xs.drop lo).take (hi - lo)) := by
  have hs := h.sl
  obtain ⟨⟨a', c', hv, hn, h0, hsp⟩, hle⟩ := hs
  simp only [Value.slice.injEq] at hv
  obtain ⟨rfl, rfl, rfl⟩ := hv
  have hlen : ((xs.drop lo).take (hi - lo)).length = hi - lo := by simp; omega
  have hA : ∀ A, midA a c lo k = some A → hi - lo ≠ 0 → A.spot = none := by
    intro A hA hz
    unfold midA at hA
    rw [if_neg (by omega)] at hA
    cases a with
    | none => cases hA
    | some B =>
      have := hsp B rfl (by omega)
      simp only [Option.map_some, Option.some.injEq] at hA
      subst hA
      unfold Addr.add
      split
      · exact this
      · rfl
  refine ⟨⟨⟨_, _, rfl, by rw [hlen]; omega, fun hm => ?_, fun A hA' hz => hA A hA' (by rw [hlen] at hz; exact hz)⟩, by rw [hlen]; omega⟩, fun j u hu => ?_⟩
  · unfold midA at hm
    split at hm
    · have := h0 hm; omega
    · cases a with
      | none => have := h0 rfl; omega
      | some B => cases hm
  · have hne : hi - lo ≠ 0 := by
      intro e
      rw [e, List.take_zero] at hu
      simp [flat] at hu
    have hg := h.get (lo * k + j) u (flat_mid E xs lo (hi - lo) hu)
    have e : ea (.slice (midA a c lo k) ((xs.drop lo).take (hi - lo)).length (c - lo)) j = ea (.slice a xs.length c) (lo * k + j) := by
      unfold midA
      rw [if_neg (by omega)]
      cases a with
      | none => have := h0 rfl; omega
      | some B =>
        simp only [ea, sblk, soff, Option.map_some, oblk, ooff]
        unfold Addr.add
        split
        · rename_i hz; rw [hz, Nat.zero_add]
        · simp only [Nat.add_assoc]
    rw [e]
    exact hg
end Go.HL
namespace Go.Proofs.YtmompllplidphaaGreatDoor
open Go Go.HL Go.Proofs Go.HL.Kl Go.HL.Kl.Mc Go.HL.Sts
theorem set_a : (Ec 0#256).set 1 (.int .u64 8589934592) = Ec (bit 97) := by kernel_rfl
theorem set_b : (Ec 0#256).set 1 (.int .u64 17179869184) = Ec (bit 98) := by kernel_rfl
theorem DfO.rdD {d : Df} {na : Option Addr} {nc : Nat} {rows : List (Sl Int)} {ea : Option Addr} {ec : Nat} {aa : Option Addr} {ac : Nat} {Sn Sq Se Sa H : Hp} {w0 w : World} {M : List Nat} (hR : OwnS Esl 1 36 (.slice na rows.length nc) rows Sn) (hQ : OwnL Ei 1 3 rows d.next Sq) (hx : d.next = rows.map Sl.xs) (hE : OwnS Ebo 1 4 (.slice ea d.ends.length ec) d.ends Se) (hA : OwnS Ec 4 39 (.slice aa d.atoms.length ac) d.atoms Sa)
    (h1 : HIn Sn H) (h2 : HIn Sq H) (h3 : HIn Se H) (h4 : HIn Sa H) (st : St w0 w M H) : RdD d aa ac na nc rows ea ec w :=
  ⟨(hA.rdk (κ := ⟨0, [], w0, M⟩) h4).out w st, (hR.rdk (κ := ⟨0, [], w0, M⟩) h1).out w st, fun _ hs => (ownL_rdk (κ := ⟨0, [], w0, M⟩) hQ hx h2 hs).out w st, (hE.rdk (κ := ⟨0, [], w0, M⟩) h3).out w st⟩
set_option maxHeartbeats 4000000 in
theorem lives_fn  : HL.Fn Tryz.prog 6 [] (Tb []) [] (fun v _ => v = .bool true) := by
  refine fn_of Tryz.func6 rfl rfl rfl fun w0 hw => ?_; refine cR fun _ hK1 => ?_; refine oA (oZ hK1 (cR fun _ hK2 => ?_)); refine o_alloc (l := Ec 0#256) (by rw [Ec_zero]; rfl) rfl fun b1 => ?_; refine o_alloc (l := Ec 0#256) (by rw [Ec_zero]; rfl) rfl fun b2 => ?_; refine oZ hK2 (cR fun _ hK3 => ?_); refine oS (s_indexA rfl rfl (by omega)) ?_; refine o_store rfl rfl rfl upA (by show _ < 4; omega) rfl ?_
  rw [show 0 + (1 : Int).toNat * 1 = 1 from rfl, set_a]
  refine oZ hK3 (cR fun _ hK4 => ?_); refine oS (s_indexA rfl rfl (by omega)) ?_; refine o_store rfl rfl rfl upA (by show _ < 4; omega) rfl ?_
  rw [show 0 + (1 : Int).toNat * 1 = 1 from rfl, set_b]
  refine oZ hK4 (cR fun _ hK5 => ?_); refine oS (step_cast (v' := .agg (En ctN).toArray) (s_build (cs := [_, _, _, _, _, _, _, _, _]) (vs := [_, _]) rfl rfl (.cons rfl rfl rfl rfl rfl (.cons rfl rfl rfl rfl rfl (.nil)))) (by kernel_rfl)) ?_; refine oS (step_cast (v' := .agg (En stN).toArray) (s_build (cs := [_, _, _, _, _, _, _, _, _]) (vs := [_, _, _]) rfl rfl (.cons rfl rfl rfl rfl rfl (.cons rfl rfl rfl rfl rfl (.cons rfl rfl rfl rfl rfl (.nil))))) (by kernel_rfl)) ?_; refine oS (s_ldB rfl (RdPK.cels (.own meA)) lnA) ?_; refine oS (step_cast (v' := .agg (En (ltN 97)).toArray) (s_build (cs := [_, _, _, _, _, _, _, _, _]) (vs := [_, _]) rfl rfl (.cons rfl rfl rfl rfl rfl (.cons rfl rfl rfl rfl rfl (.nil)))) (by kernel_rfl)) ?_; refine oS (s_ldB rfl (RdPK.cels (.own meA)) lnA) ?_; refine oS (step_cast (v' := .agg (En (ltN 98)).toArray) (s_build (cs := [_, _, _, _, _, _, _, _, _]) (vs := [_, _]) rfl rfl (.cons rfl rfl rfl rfl rfl (.cons rfl rfl rfl rfl rfl (.nil)))) (by kernel_rfl)) ?_; refine o_bs (E := En) (xs := [ctN, stN, ltN 97, ltN 98]) (vs := [_, _, _, _]) rfl rfl rfl rfl rfl (by decide) (by decide) fun b18 S18 hS18 => ?_; refine oA (oZ hK5 (cR fun _ hK6 => ?_)); refine oM ?_; refine o_call (make_fn (some ⟨b18, 0, none⟩) 4 reA rngA) rfl rfl rfl (by exact .nil) (fun w st => ⟨(hS18.rdk hiA).out w st, tb_of hw st HSub.nil⟩) (fun v21 S21 hM1 => ?_)
  rcases hM1 with ⟨he, _⟩ | ⟨hd, hv, ho⟩
  ·exact absurd he err_A
  obtain rfl := ok_A hd
  obtain ⟨na1, nc1, rows1, ea1, ec1, aa1, ac1, Sn1, Sq1, Se1, Sa1, rfl, rfl, hR1, hQ1, hx1, hE1, hA1⟩ := ho
  subst hv; refine oM ?_; refine oS sE ?_; refine oS sE ?_; refine o_alloc rfl rfl fun b4 => ?_; refine o_stW rfl rfl upA lnA lnA onA ?_; refine oA (oZ hK6 (cR fun _ hK7 => ?_)); refine oM ?_; refine oS (step_cast (v' := .slice (midA (some ⟨b18, 0, none⟩) 4 2 9) reB.length (4 - 2)) (s_slice_mid rfl rfl rfl (by omega)) rfl) ?_; refine o_call (make_fn (midA (some ⟨b18, 0, none⟩) 4 2 9) (4 - 2) reB rngB) rfl rfl rfl (by exact .nil) (fun w st => ⟨((hS18.rdk hiA).out w st).mid 2 3 (by decide) (by decide), tb_of hw st HSub.nil⟩) (fun v27 S27 hM2 => ?_)
  rcases hM2 with ⟨he, _⟩ | ⟨hd, hv, ho⟩
  ·exact absurd he err_B
  obtain rfl := ok_B hd
  obtain ⟨na2, nc2, rows2, ea2, ec2, aa2, ac2, Sn2, Sq2, Se2, Sa2, rfl, rfl, hR2, hQ2, hx2, hE2, hA2⟩ := ho
  subst hv; refine oM ?_; refine oS sE ?_; refine oS sE ?_; refine o_alloc rfl rfl fun b6 => ?_; refine o_stW rfl rfl upA lnA lnA onA ?_; refine oA (oZ hK7 (cR fun _ hK8 => ?_)); refine oS (s_ldB rfl (RdPK.cels (.own meA)) lnA) ?_; refine oS (s_ldB rfl (RdPK.cels (.own meA)) lnA) ?_; refine o_call (unlike2_fn dA aa1 ac1 na1 nc1 rows1 ea1 ec1 hx1 dB aa2 ac2 na2 nc2 rows2 ea2 ec2 hx2) rfl rfl rfl (by exact .nil) (fun w st => ⟨DfO.rdD hR1 hQ1 hx1 hE1 hA1 hiA hiA hiA hiA st, DfO.rdD hR2 hQ2 hx2 hE2 hA2 hiA hiA hiA hiA st, tb_of hw st HSub.nil⟩) (fun v33 S33 hU => ?_)
  rcases hU with ⟨hn, _⟩ | ⟨t, ua, uc, ht, hv, hUO⟩
  ·rw [unAB] at hn; cases hn
  rw [unAB] at ht
  obtain rfl := Option.some.inj ht
  subst hv; refine oM ?_; refine oS sE ?_; refine oS sE (oA (oA (oZ hK8 (cR fun _ hK9 => ?_)))); refine oM ?_; refine oS (step_cast (v' := .bool true) (s_eql rfl rfl) rfl) ?_; refine oM ?_; refine oY (oM ?_); refine oY ?_; refine oS (step_cast (v' := .bool true) (s_eql rfl rfl) rfl) ?_; refine oS sT (oM ?_); refine oY ?_; refine oS sF ?_; refine oY ?_; refine oS sL ?_; refine oY ?_; refine oS sC ?_; refine oY ?_; refine oS (step_cast (v' := .bool true) (s_eql rfl rfl) rfl) ?_; refine oS sT (oM ?_); refine oY ?_; refine oS (s_ldB rfl (RdPK.cels (.own meA)) lnA) ?_; refine oY ?_; refine o_bs (E := Eb) (xs := [97, 97, 98]) (vs := [_, _, _]) rfl rfl rfl rfl rfl (by decide) (by decide) fun b50 S50 hS50 => ?_; refine oY ?_; refine o_conv_same rfl hS50 pkA rfl fun S51 hS51 => ?_; refine oY ?_; refine o_callP (takes2_fn dA aa1 ac1 na1 nc1 rows1 ea1 ec1 hx1 (some ⟨b50, 0, none⟩) 3 [97, 97, 98]) rfl rfl rfl (fun w st => ⟨DfO.rdD hR1 hQ1 hx1 hE1 hA1 hiA hiA hiA hiA st, tb_of hw st HSub.nil, (hS51.rdk hiA).out w st⟩) (fun v52 hv52 => ?_)
  rw [tkA1] at hv52
  subst hv52; refine oS sT (oM ?_); refine oY ?_; refine oS (s_ldB rfl (RdPK.cels (.own meA)) lnA) ?_; refine oY ?_; refine o_bs (E := Eb) (xs := [97, 97]) (vs := [_, _]) rfl rfl rfl rfl rfl (by decide) (by decide) fun b56 S56 hS56 => ?_; refine oY ?_; refine o_conv_same rfl hS56 pkA rfl fun S57 hS57 => ?_; refine oY ?_; refine o_callP (takes2_fn dA aa1 ac1 na1 nc1 rows1 ea1 ec1 hx1 (some ⟨b56, 0, none⟩) 2 [97, 97]) rfl rfl rfl (fun w st => ⟨DfO.rdD hR1 hQ1 hx1 hE1 hA1 hiA hiA hiA hiA st, tb_of hw st HSub.nil, (hS57.rdk hiA).out w st⟩) (fun v58 hv58 => ?_)
  rw [tkA2] at hv58
  subst hv58; refine oY ?_; refine oS (s_not rfl) ?_; refine oS sT (oM ?_); refine oY (oM ?_); refine oS sT (oM ?_); refine oY (oM ?_); refine oY ?_; refine oS (s_b2str rfl (hUO.rdk hiA) rfl) ?_; refine oY ?_; refine oS (step_cast (v' := .bool true) (s_eql_str rfl rfl) rfl) ?_; refine oS sT (oA (oZ hK9 (c_ret ?_))); refine ?_; exact xR rfl rfl (rfl)
end Go.Proofs.YtmompllplidphaaGreatDoor
namespace Go.HL.Sts
open Go Go.HL Go.HL.Kl Go.HL.Kl.Mc
theorem countP_strict {α : Type} {p q : α → Bool} : ∀ {l : List α}, (∀ x ∈ l, p x = true → q x = true) → ∀ {y : α}, y ∈ l → p y = false → q y = true → l.countP p < l.countP q
  | [], _, _, hy, _, _ => by cases hy
  | x :: l, h, y, hy, h1, h2 => by
    have hm : l.countP p ≤ l.countP q := List.countP_mono_left fun z hz => h z (List.mem_cons_of_mem _ hz)
    rw [List.countP_cons, List.countP_cons]
    rcases List.mem_cons.1 hy with rfl | hy
    · rw [h1, h2]; simp; omega
    · have := countP_strict (fun z hz => h z (List.mem_cons_of_mem _ hz)) hy h1 h2
      have hx := h x List.mem_cons_self
      cases e : p x with
      | true => rw [hx e]; simp; omega
      | false => cases q x <;> simp <;> omega
section
variable {α : Type} (M : Nat) (A : Nat → List α → Bool) (st : Nat → α → Nat)
def Eqk (k p q : Nat) : Prop := ∀ w : List α, w.length < k → A p w = A q w
open Classical in
noncomputable def rpsE (k : Nat) : Nat := (List.range M).countP fun p => decide (∀ q, q < p → ¬ Eqk A k p q)
variable {M A st}
theorem Eqk.symm {k p q : Nat} (h : Eqk A k p q) : Eqk A k q p := fun w hw => (h w hw).symm
theorem Eqk.trans {k p q r : Nat} (h : Eqk A k p q) (h' : Eqk A k q r) : Eqk A k p r := fun w hw => (h w hw).trans (h' w hw)
theorem Eqk.mono {k j p q : Nat} (h : Eqk A k p q) (hj : j ≤ k) : Eqk A j p q := fun w hw => h w (by omega)
theorem stab_next (hs : ∀ u e, u < M → st u e < M) (ha : ∀ u e w, u < M → A u (e :: w) = A (st u e) w) {k : Nat} (h : ∀ p q, p < M → q < M → Eqk A k p q → Eqk A (k + 1) p q) : ∀ p q, p < M → q < M → Eqk A (k + 1) p q → Eqk A (k + 2) p q := by
  intro p q hp hq he w hw
  cases w with
  | nil => exact he [] (Nat.succ_pos _)
  | cons e w =>
    rw [ha p e w hp, ha q e w hq]
    refine h _ _ (hs p e hp) (hs q e hq) (fun v hv => ?_) w (by simpa using hw)
    have := he (e :: v) (by simpa using hv)
    rwa [ha p e v hp, ha q e v hq] at this
theorem stab_all (hs : ∀ u e, u < M → st u e < M) (ha : ∀ u e w, u < M → A u (e :: w) = A (st u e) w) {k : Nat} (h : ∀ p q, p < M → q < M → Eqk A k p q → Eqk A (k + 1) p q) : ∀ n p q, p < M → q < M → Eqk A k p q → Eqk A (k + n) p q := by
  have h1 : ∀ n, ∀ p q, p < M → q < M → Eqk A (k + n) p q → Eqk A (k + n + 1) p q := by
    intro n
    induction n with
    | zero => exact h
    | succ n ih => exact stab_next hs ha ih
  intro n
  induction n with
  | zero => exact fun p q _ _ he => he
  | succ n ih => exact fun p q hp hq he => h1 n p q hp hq (ih p q hp hq he)
theorem least_in {k : Nat} : ∀ (n q : Nat), q < n → ∃ r, r ≤ q ∧ Eqk A k q r ∧ ∀ s, s < r → ¬ Eqk A k r s
  | 0, q, h => absurd h (Nat.not_lt_zero _)
  | n + 1, q, h => by
    by_cases hq : ∃ s, s < q ∧ Eqk A k q s
    · obtain ⟨s, hs, he⟩ := hq
      obtain ⟨r, h1, h2, h3⟩ := least_in n s (by omega)
      exact ⟨r, by omega, he.trans h2, h3⟩
    · exact ⟨q, Nat.le_refl _, fun _ _ => rfl, fun s hs he => hq ⟨s, hs, he⟩⟩
open Classical in
theorem rpsE_lt {k p q : Nat} (hp : p < M) (hq : q < M) (h : Eqk A k p q) (hn : ¬ Eqk A (k + 1) p q) : rpsE M A k < rpsE M A (k + 1) := by
  obtain ⟨r, hr1, hr2, hr3⟩ := least_in (A := A) (k := k) (p + 1) p (Nat.lt_succ_self _)
  have hqr : Eqk A k q r := h.symm.trans hr2
  obtain ⟨x, hx, hxr, hxn⟩ : ∃ x, x < M ∧ Eqk A k x r ∧ ¬ Eqk A (k + 1) x r := by
    by_cases e : Eqk A (k + 1) p r
    · exact ⟨q, hq, hqr, fun e2 => hn (e.trans e2.symm)⟩
    · exact ⟨p, hp, hr2, e⟩
  obtain ⟨y, hy1, hy2, hy3⟩ := least_in (A := A) (k := k + 1) (x + 1) x (Nat.lt_succ_self _)
  have hyr : Eqk A k y r := (hy2.symm.mono (Nat.le_succ _)).trans hxr
  have hne : y ≠ r := fun e => hxn (by rw [← e]; exact hy2)
  have hry : r < y := by
    rcases Nat.lt_trichotomy y r with h1 | h1 | h1
    · exact absurd hyr.symm (hr3 y h1)
    · exact absurd h1 hne
    · exact h1
  unfold rpsE
  refine countP_strict (fun z _ hz => ?_) (List.mem_range.2 (show y < M by omega)) ?_ ?_
  · rw [decide_eq_true_eq] at hz ⊢
    exact fun s hs he => hz s hs (he.mono (Nat.le_succ _))
  · rw [decide_eq_false_iff_not]
    exact fun hall => hall r hry hyr
  · rw [decide_eq_true_eq]
    exact hy3
open Classical in
theorem rpsE_zero (hM : 0 < M) : 1 ≤ rpsE M A 0 := by
  unfold rpsE
  refine List.countP_pos_iff.2 ⟨0, List.mem_range.2 hM, ?_⟩
  rw [decide_eq_true_eq]
  exact fun q hq => absurd hq (Nat.not_lt_zero _)
theorem part_short (hs : ∀ u e, u < M → st u e < M) (ha : ∀ u e w, u < M → A u (e :: w) = A (st u e) w) {p q : Nat} (hp : p < M) (hq : q < M) {w : List α} (hw : A p w ≠ A q w) (hl : ∀ v : List α, v.length < w.length → A p v = A q v) : w.length + 2 ≤ M := by
  have hno : ∀ k, k ≤ w.length → ∃ p' q', p' < M ∧ q' < M ∧ Eqk A k p' q' ∧ ¬ Eqk A (k + 1) p' q' := by
    intro k hk
    rcases Classical.em (∃ p' q', p' < M ∧ q' < M ∧ Eqk A k p' q' ∧ ¬ Eqk A (k + 1) p' q') with h | h
    · exact h
    · exfalso
      have hst : ∀ p q, p < M → q < M → Eqk A k p q → Eqk A (k + 1) p q := fun p' q' h1 h2 h3 => Classical.byContradiction fun h4 => h ⟨p', q', h1, h2, h3, h4⟩
      have := stab_all hs ha hst (w.length + 1) p q hp hq (fun v hv => hl v (by omega))
      exact hw (this w (by omega))
  have hr : ∀ k, k ≤ w.length + 1 → k + 1 ≤ rpsE M A k := by
    intro k
    induction k with
    | zero => exact fun _ => rpsE_zero (by omega)
    | succ k ih =>
      intro hk
      obtain ⟨p', q', h1, h2, h3, h4⟩ := hno k (by omega)
      have := rpsE_lt h1 h2 h3 h4
      have := ih (by omega)
      omega
  have h1 := hr (w.length + 1) (Nat.le_refl _)
  have h2 : rpsE M A (w.length + 1) ≤ M := by
    unfold rpsE
    exact Nat.le_trans List.countP_le_length (by simp)
  omega
end
def twoA (a b : Df) (u : Nat) (w : List UInt8) : Bool := if u < a.ends.length then endsR a (tkR a w u) else if u < a.ends.length + b.ends.length then endsR b (tkR b w ((u - a.ends.length : Nat) : Int)) else false
def twoS (a b : Df) (u : Nat) (e : UInt8) : Nat := if u < a.ends.length then (if goesR a u e.toNat < 0 then a.ends.length + b.ends.length else (goesR a u e.toNat).toNat) else
  if u < a.ends.length + b.ends.length then (if goesR b ((u - a.ends.length : Nat) : Int) e.toNat < 0 then a.ends.length + b.ends.length else a.ends.length + (goesR b ((u - a.ends.length : Nat) : Int) e.toNat).toNat) else a.ends.length + b.ends.length
theorem goesR_bnd {d : Df} (h : Shp d) {q : Int} (hq : q < d.ends.length) (e : UInt8) : -1 ≤ goesR d q e.toNat ∧ goesR d q e.toNat < d.ends.length := by
  rw [← gP_goes h q e.toNat_lt]; exact gP_bnd h hq _
theorem twoS_lt {a b : Df} (ha : Shp a) (hb : Shp b) (u : Nat) (e : UInt8) (_ : u < a.ends.length + b.ends.length + 1) : twoS a b u e < a.ends.length + b.ends.length + 1 := by
  unfold twoS
  by_cases h1 : u < a.ends.length
  · rw [if_pos h1]
    have := goesR_bnd ha (q := (u : Int)) (by omega) e
    split <;> omega
  · rw [if_neg h1]
    by_cases h2 : u < a.ends.length + b.ends.length
    · rw [if_pos h2]
      have := goesR_bnd hb (q := ((u - a.ends.length : Nat) : Int)) (by omega) e
      split <;> omega
    · rw [if_neg h2]; omega
theorem endsR_neg {d : Df} {q : Int} (h : q < 0) : endsR d q = false := by
  unfold endsR; rw [decide_eq_false (by omega)]; rfl
theorem twoA_step {a b : Df} (ha : Shp a) (hb : Shp b) (u : Nat) (e : UInt8) (w : List UInt8) (_ : u < a.ends.length + b.ends.length + 1) : twoA a b u (e :: w) = twoA a b (twoS a b u e) w := by
  have hd : twoA a b (a.ends.length + b.ends.length) w = false := by
    unfold twoA; rw [if_neg (by omega), if_neg (by omega)]
  conv => lhs; unfold twoA
  by_cases h1 : u < a.ends.length
  · rw [if_pos h1]
    have hB := goesR_bnd ha (q := (u : Int)) (by omega) e
    show endsR a (tkR a w (goesR a u e.toNat)) = _
    by_cases h3 : goesR a u e.toNat < 0
    · have e1 : twoS a b u e = a.ends.length + b.ends.length := by unfold twoS; rw [if_pos h1, if_pos h3]
      rw [e1, hd, endsR_neg (tkR_neg a w h3)]
    · have e1 : twoS a b u e = (goesR a u e.toNat).toNat := by unfold twoS; rw [if_pos h1, if_neg h3]
      rw [e1]
      unfold twoA
      rw [if_pos (by omega), show ((goesR a u e.toNat).toNat : Int) = goesR a u e.toNat by omega]
  · rw [if_neg h1]
    by_cases h2 : u < a.ends.length + b.ends.length
    · rw [if_pos h2]
      obtain ⟨g, hg⟩ : ∃ g, g = goesR b ((u - a.ends.length : Nat) : Int) e.toNat := ⟨_, rfl⟩
      have hB := goesR_bnd hb (q := ((u - a.ends.length : Nat) : Int)) (by omega) e
      rw [← hg] at hB
      show endsR b (tkR b w (goesR b ((u - a.ends.length : Nat) : Int) e.toNat)) = _
      by_cases h3 : g < 0
      · have e1 : twoS a b u e = a.ends.length + b.ends.length := by unfold twoS; rw [if_neg h1, if_pos h2, ← hg, if_pos h3]
        rw [e1, hd, ← hg, endsR_neg (tkR_neg b w h3)]
      · have e1 : twoS a b u e = a.ends.length + g.toNat := by unfold twoS; rw [if_neg h1, if_pos h2, ← hg, if_neg h3]
        rw [e1, ← hg]
        unfold twoA
        rw [if_neg (by omega), if_pos (by omega), show ((a.ends.length + g.toNat - a.ends.length : Nat) : Int) = g by omega]
    · rw [if_neg h2]
      have e1 : twoS a b u e = a.ends.length + b.ends.length := by unfold twoS; rw [if_neg h1, if_neg h2]
      rw [e1, hd]
theorem unM_len {a b : Df} (ha : Shp a) (hb : Shp b) {t : List UInt8} (h : unM a b = some t) : t.length < a.ends.length + b.ends.length := by
  obtain ⟨h1, h2⟩ := unM_some ha hb h
  have ea : ∀ w, twoA a b 0 w = takesP a w := fun w => by
    rw [takesP_rn ha]; unfold twoA rnT
    rw [if_pos (by have := ha.sz.1; omega)]; rfl
  have eb : ∀ w, twoA a b a.ends.length w = takesP b w := fun w => by
    rw [takesP_rn hb]; unfold twoA rnT
    rw [if_neg (by omega), if_pos (by have := hb.sz.1; omega), Nat.sub_self]; rfl
  have := part_short (M := a.ends.length + b.ends.length + 1) (A := twoA a b) (st := twoS a b) (fun u e hu => twoS_lt ha hb u e hu) (fun u e w hu => twoA_step ha hb u e w hu) (p := 0) (q := a.ends.length) (by omega) (by omega) (w := t) (by rw [ea, eb]; exact h1) (fun v hv => by rw [ea, eb]; exact h2 v (code_len hv))
  omega
end Go.HL.Sts
namespace Go.HL.Sts
open Go Go.HL Go.HL.Kl Go.HL.Kl.Mc
structure Can (d : Df) (cn : Nat → Nat → Nat) : Prop where
  z : cn 0 0 = 1
  st : ∀ (q k : Nat) (row : List Int) (v : Int), d.next[q]? = some row → row[k]? = some v → v ≤ (cn q k : Int) ∧ cn q (k + 1) = if v = (cn q k : Int) then cn q k + 1 else cn q k
  nx : ∀ q, q < d.ends.length → cn (q + 1) 0 = cn q d.atoms.length ∧ q < cn q 0
  fin : cn d.ends.length 0 = d.ends.length
def LE (a b : Df) (p : Nat) : Prop := ∀ t : List Nat, (∀ k ∈ t, k < a.atoms.length) → accD a (p : Int) t = accD b (p : Int) t
def ApD (d : Df) : Prop := ∀ i j : Nat, i < d.ends.length → j < d.ends.length → i ≠ j → ∃ t : List Nat, (∀ k ∈ t, k < d.atoms.length) ∧ accD d (i : Int) t ≠ accD d (j : Int) t
def AlD (d : Df) : Prop := ∀ (q k : Nat) (row : List Int) (v : Int), d.next[q]? = some row → row[k]? = some v → 0 ≤ v → ∃ t : List Nat, (∀ k ∈ t, k < d.atoms.length) ∧ accD d v t = true
def miF (w : Wd) (P : List Nat) (lv : List Bool) : Nat → Lm
  | 0 => ⟨[0], [], []⟩
  | q + 1 => lmStep w P lv q (miF w P lv q)
def rowF (w : Wd) (P : List Nat) (lv : List Bool) (q : Nat) : List Nat := w.next[(miF w P lv q).met[q]?.getD 0]?.getD []
def cnF (w : Wd) (P : List Nat) (lv : List Bool) (q k : Nat) : Nat := (lrowT P lv ((rowF w P lv q).take k) (miF w P lv q).met).2.length
section
variable {w : Wd} {lv : List Bool} {m : Lm} {d : Df}
end
end Go.HL.Sts
