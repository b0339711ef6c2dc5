/- Part of the proofs over this seat: see the text that holds the theorem. Conditions: each theorem bears its own. -/
import Derived.Test.YtmompllplidphaaDoorHTZ
import Derived.Test.YtmompllplidphaaDoorSW10Z
import Derived.Test.YtmompllplidphaaDoorSW8Z
import Derived.Test.YtmompllplidphaaDoorSN4Z
import Derived.Test.YtmompllplidphaaDoorHlB
import Derived.Test.YtmompllplidphaaDoorKQ8Z
import Derived.Test.YtmompllplidphaaDoorSW1Z
import Derived.Test.YtmompllplidphaaDoorMT20Z
namespace Go.Proofs.YtmompllplidphaaDoor
open Go Go.HL Go.Proofs Go.HL.Kl Go.HL.Kl.Mc Go.HL.Sts
def mbI {α : Type} [DecidableEq α] (l : List α) (s : α) : Int := if s ∈ l then 1 else 0
theorem mbI_get {α : Type} [DecidableEq α] (l : List α) (s : α) : (memM l s).getD (.int .i64 0) = .int .i64 (mbI l s) := by
  unfold memM mbI
  split <;> rfl
theorem mbI_zero {α : Type} [DecidableEq α] {l : List α} {s : α} (h : mbI l s = 0) : s ∉ l := by
  intro hm
  simp [mbI, hm] at h
theorem mbI_one {α : Type} [DecidableEq α] {l : List α} {s : α} (h : ¬ mbI l s = 0) : s ∈ l := by
  unfold mbI at h
  split at h
  · assumption
  · exact absurd rfl h
theorem backT_len (l : List Bo) : ∀ (f : Nat) (x : Bo), (backT l f x).length ≤ f
  | 0, _ => Nat.le_refl _
  | f + 1, x => by
    unfold backT
    split
    · simp
    · have := backT_len l f (l[x.frm.toNat]?.getD ⟨0, 0, -1, 0⟩)
      simp; exact this
set_option maxHeartbeats 4000000 in
theorem unlike_fn (d1 : Df) (aa1 : Option Addr) (ac1 : Nat) (na1 : Option Addr) (nc1 : Nat) (rows1 : List (Sl Int)) (ea1 : Option Addr) (ec1 : Nat) (hx1 : d1.next = rows1.map Sl.xs) (d2 : Df) (aa2 : Option Addr) (ac2 : Nat) (na2 : Option Addr) (nc2 : Nat) (rows2 : List (Sl Int)) (ea2 : Option Addr) (ec2 : Nat) (hx2 : d2.next = rows2.map Sl.xs) : HL.Fn Tryd.prog 30 [.agg [.slice aa1 d1.atoms.length ac1, .slice na1 rows1.length nc1, .slice ea1 d1.ends.length ec1].toArray, .agg [.slice aa2 d2.atoms.length ac2, .slice na2 rows2.length nc2, .slice ea2 d2.ends.length ec2].toArray] (fun w => RdD d1 aa1 ac1 na1 nc1 rows1 ea1 ec1 w ∧ RdD d2 aa2 ac2 na2 nc2 rows2 ea2 ec2 w ∧ Tb [] w) [] (fun v S' => ∃ S2, HSub S' S2 ∧ UnP (unM d1 d2) v S2) := by
  refine fn_of Tryd.func30 rfl rfl rfl fun w0 hw => ?_; refine cR fun _ hK1 => ?_; refine o_box rfl rfl rfl fun b2 => ?_; refine o_box rfl rfl rfl fun b3 => ?_; refine oA (oA (oZ hK1 (c_seq fun _ hK2 => ?_))); refine cR fun _ hK3 => ?_; refine oS (s_ldB rfl (RdPK.cels (.own meA)) lnA) ?_; refine o_callP (shaped2_fn d1 aa1 ac1 na1 nc1 rows1 ea1 ec1 hx1) rfl rfl rfl (fun w st => ⟨hw.1.old st, tb_of hw.2.2 st HSub.nil⟩) (fun v18 hv18 => ?_); subst hv18
  cases hsh1 : shP d1
  ·refine oS (s_not rfl) ?_; refine oM ?_; refine oN ?_; refine oN ?_; refine oN ?_; refine oS sT (oZ hK3 ?_); refine cT (cR fun _ hK4 => ?_); refine oA (oA (oZ hK4 (c_ret ?_))); refine x_then_ret (?_); exact x_ret rfl (.tmp rfl (.tmp rfl (.nil))) (⟨[], HSub.nil, .inl ⟨by unfold unM; rw [hsh1]; rfl, rfl⟩⟩)
  ·have hS1 := shP_iff.1 hsh1
   obtain ⟨z11, z21, z31, z41, z51⟩ := hS1.sz
   have hnl1 : d1.next.length = rows1.length := by rw [hx1, List.length_map]
   refine oS (s_not rfl) ?_; refine oM ?_; refine oY ?_; refine oS (s_ldB rfl (RdPK.cels (.own meA)) lnA) ?_; refine oY ?_; refine o_callP (shaped2_fn d2 aa2 ac2 na2 nc2 rows2 ea2 ec2 hx2) rfl rfl rfl (fun w st => ⟨hw.2.1.old st, tb_of hw.2.2 st HSub.nil⟩) (fun v22 hv22 => ?_); subst hv22
   cases hsh2 : shP d2
   ·refine oY ?_; refine oS (s_not rfl) ?_; refine oS sP (oZ hK3 ?_); refine cT (cR fun _ hK5 => ?_); refine oA (oA (oZ hK5 (c_ret ?_))); refine x_then_ret (?_); exact x_ret rfl (.tmp rfl (.tmp rfl (.nil))) (⟨[], HSub.nil, .inl ⟨by unfold unM; rw [hsh1, hsh2]; rfl, rfl⟩⟩)
   ·have hS2 := shP_iff.1 hsh2
    obtain ⟨z12, z22, z32, z42, z52⟩ := hS2.sz
    have hnl2 : d2.next.length = rows2.length := by rw [hx2, List.length_map]
    refine oY ?_; refine oS (s_not rfl) ?_; refine oS sP (oZ hK3 ?_); refine cFZ hK2 (c_seq fun _ hK6 => ?_); refine c_drawE ([(b3, .cells [.slice aa2 d2.atoms.length ac2, .slice na2 rows2.length nc2, .slice ea2 d2.ends.length ec2].toArray 26 (0, 0)), (b2, .cells [.slice aa1 d1.atoms.length ac1, .slice na1 rows1.length nc1, .slice ea1 d1.ends.length ec1].toArray 26 (0, 0))]) (fun i => false) ?_; refine eK 0 rfl (s_ldB rfl (RdPK.cels (.own meA)) lnA) ?_; refine eK 2 rfl (s_ldB rfl (RdPK.cels (.own meA)) lnA) ?_; refine e_join (ι := Nat × Nat) (fun g => [(26, .agg (arrI (fun i => (Sts.lst d1.atoms i d1.atoms.length : Nat))).toArray), (28, .agg (arrI (fun i => (Sts.lst d2.atoms i d2.atoms.length : Nat))).toArray), (6, .pointer (some ⟨g.1, 0, none⟩)), (7, .pointer (some ⟨g.2, 0, none⟩))]) [(2, _), (3, _), (4, _), (5, _)] (fun g => [(g.1, .cells (arrI (fun _ => 0)).toArray 65 (0, 0)), (g.2, .cells (arrI (fun _ => 0)).toArray 65 (0, 0)), (b3, .cells [.slice aa2 d2.atoms.length ac2, .slice na2 rows2.length nc2, .slice ea2 d2.ends.length ec2].toArray 26 (0, 0)), (b2, .cells [.slice aa1 d1.atoms.length ac1, .slice na1 rows1.length nc1, .slice ea1 d1.ends.length ec1].toArray 26 (0, 0))]) 2 #[true, true, true, true, true, true, false, false] sbA (fun hJ => ?_) ?_
    ·refine e_any3 1 4 5 rfl rfl rfl (by kernel_rfl) ?_ ?_ ?_
     ·refine o_callP (atomsO_fn d1 aa1 ac1 na1 nc1 rows1 ea1 ec1 hx1) rfl rfl rfl (fun w st => ⟨hw.1.old st, tb_of hw.2.2 st HSub.nil⟩) (fun v26 hv26 => ?_); subst hv26
      refine oX ?_; refine e_any3 3 4 5 rfl rfl rfl (by kernel_rfl) ?_ ?_ ?_
      ·refine o_callP (atomsO_fn d2 aa2 ac2 na2 nc2 rows2 ea2 ec2 hx2) rfl rfl rfl (fun w st => ⟨hw.2.1.old st, tb_of hw.2.2 st HSub.nil⟩) (fun v28 hv28 => ?_); subst hv28
       refine oX ?_; refine e_any2 4 5 rfl rfl (by kernel_rfl) ?_ ?_
       ·refine o_alloc (l := arrI (fun _ => 0)) (by rw [arrI_zero]; rfl) rfl fun b6 => ?_; refine oX (eO 5 rfl ?_); refine o_alloc (l := arrI (fun _ => 0)) (by rw [arrI_zero]; rfl) rfl fun b7 => ?_; refine oX ?_
        exact e_lst (by kernel_rfl) (hJ (b6, b7) _ _ sbA sbA hzB)
       ·refine o_alloc (l := arrI (fun _ => 0)) (by rw [arrI_zero]; rfl) rfl fun b7 => ?_; refine oX (eO 4 rfl ?_); refine o_alloc (l := arrI (fun _ => 0)) (by rw [arrI_zero]; rfl) rfl fun b6 => ?_; refine oX ?_
        exact e_lst (by kernel_rfl) (hJ (b6, b7) _ _ sbA sbA hzB)
      ·refine o_alloc (l := arrI (fun _ => 0)) (by rw [arrI_zero]; rfl) rfl fun b6 => ?_; refine oX ?_; refine e_any2 3 5 rfl rfl (by kernel_rfl) ?_ ?_
       ·refine o_callP (atomsO_fn d2 aa2 ac2 na2 nc2 rows2 ea2 ec2 hx2) rfl rfl rfl (fun w st => ⟨hw.2.1.old st, tb_of hw.2.2 st HSub.nil⟩) (fun v28 hv28 => ?_); subst hv28
        refine oX (eO 5 rfl ?_); refine o_alloc (l := arrI (fun _ => 0)) (by rw [arrI_zero]; rfl) rfl fun b7 => ?_; refine oX ?_
        exact e_lst (by kernel_rfl) (hJ (b6, b7) _ _ sbA sbA hzB)
       ·refine o_alloc (l := arrI (fun _ => 0)) (by rw [arrI_zero]; rfl) rfl fun b7 => ?_; refine oX (eO 3 rfl ?_); refine o_callP (atomsO_fn d2 aa2 ac2 na2 nc2 rows2 ea2 ec2 hx2) rfl rfl rfl (fun w st => ⟨hw.2.1.old st, tb_of hw.2.2 st HSub.nil⟩) (fun v28 hv28 => ?_); subst hv28
        refine oX ?_
        exact e_lst (by kernel_rfl) (hJ (b6, b7) _ _ sbA sbA hzB)
      ·refine o_alloc (l := arrI (fun _ => 0)) (by rw [arrI_zero]; rfl) rfl fun b7 => ?_; refine oX ?_; refine e_any2 3 4 rfl rfl (by kernel_rfl) ?_ ?_
       ·refine o_callP (atomsO_fn d2 aa2 ac2 na2 nc2 rows2 ea2 ec2 hx2) rfl rfl rfl (fun w st => ⟨hw.2.1.old st, tb_of hw.2.2 st HSub.nil⟩) (fun v28 hv28 => ?_); subst hv28
        refine oX (eO 4 rfl ?_); refine o_alloc (l := arrI (fun _ => 0)) (by rw [arrI_zero]; rfl) rfl fun b6 => ?_; refine oX ?_
        exact e_lst (by kernel_rfl) (hJ (b6, b7) _ _ sbA sbA hzB)
       ·refine o_alloc (l := arrI (fun _ => 0)) (by rw [arrI_zero]; rfl) rfl fun b6 => ?_; refine oX (eO 3 rfl ?_); refine o_callP (atomsO_fn d2 aa2 ac2 na2 nc2 rows2 ea2 ec2 hx2) rfl rfl rfl (fun w st => ⟨hw.2.1.old st, tb_of hw.2.2 st HSub.nil⟩) (fun v28 hv28 => ?_); subst hv28
        refine oX ?_
        exact e_lst (by kernel_rfl) (hJ (b6, b7) _ _ sbA sbA hzB)
     ·refine o_alloc (l := arrI (fun _ => 0)) (by rw [arrI_zero]; rfl) rfl fun b6 => ?_; refine oX ?_; refine e_any2 1 5 rfl rfl (by kernel_rfl) ?_ ?_
      ·refine o_callP (atomsO_fn d1 aa1 ac1 na1 nc1 rows1 ea1 ec1 hx1) rfl rfl rfl (fun w st => ⟨hw.1.old st, tb_of hw.2.2 st HSub.nil⟩) (fun v26 hv26 => ?_); subst hv26
       refine oX ?_; refine e_any2 3 5 rfl rfl (by kernel_rfl) ?_ ?_
       ·refine o_callP (atomsO_fn d2 aa2 ac2 na2 nc2 rows2 ea2 ec2 hx2) rfl rfl rfl (fun w st => ⟨hw.2.1.old st, tb_of hw.2.2 st HSub.nil⟩) (fun v28 hv28 => ?_); subst hv28
        refine oX (eO 5 rfl ?_); refine o_alloc (l := arrI (fun _ => 0)) (by rw [arrI_zero]; rfl) rfl fun b7 => ?_; refine oX ?_
        exact e_lst (by kernel_rfl) (hJ (b6, b7) _ _ sbA sbA hzB)
       ·refine o_alloc (l := arrI (fun _ => 0)) (by rw [arrI_zero]; rfl) rfl fun b7 => ?_; refine oX (eO 3 rfl ?_); refine o_callP (atomsO_fn d2 aa2 ac2 na2 nc2 rows2 ea2 ec2 hx2) rfl rfl rfl (fun w st => ⟨hw.2.1.old st, tb_of hw.2.2 st HSub.nil⟩) (fun v28 hv28 => ?_); subst hv28
        refine oX ?_
        exact e_lst (by kernel_rfl) (hJ (b6, b7) _ _ sbA sbA hzB)
      ·refine o_alloc (l := arrI (fun _ => 0)) (by rw [arrI_zero]; rfl) rfl fun b7 => ?_; refine oX (eO 1 rfl ?_); refine o_callP (atomsO_fn d1 aa1 ac1 na1 nc1 rows1 ea1 ec1 hx1) rfl rfl rfl (fun w st => ⟨hw.1.old st, tb_of hw.2.2 st HSub.nil⟩) (fun v26 hv26 => ?_); subst hv26
       refine oX (eO 3 rfl ?_); refine o_callP (atomsO_fn d2 aa2 ac2 na2 nc2 rows2 ea2 ec2 hx2) rfl rfl rfl (fun w st => ⟨hw.2.1.old st, tb_of hw.2.2 st HSub.nil⟩) (fun v28 hv28 => ?_); subst hv28
       refine oX ?_
       exact e_lst (by kernel_rfl) (hJ (b6, b7) _ _ sbA sbA hzB)
     ·refine o_alloc (l := arrI (fun _ => 0)) (by rw [arrI_zero]; rfl) rfl fun b7 => ?_; refine oX ?_; refine e_any2 1 4 rfl rfl (by kernel_rfl) ?_ ?_
      ·refine o_callP (atomsO_fn d1 aa1 ac1 na1 nc1 rows1 ea1 ec1 hx1) rfl rfl rfl (fun w st => ⟨hw.1.old st, tb_of hw.2.2 st HSub.nil⟩) (fun v26 hv26 => ?_); subst hv26
       refine oX ?_; refine e_any2 3 4 rfl rfl (by kernel_rfl) ?_ ?_
       ·refine o_callP (atomsO_fn d2 aa2 ac2 na2 nc2 rows2 ea2 ec2 hx2) rfl rfl rfl (fun w st => ⟨hw.2.1.old st, tb_of hw.2.2 st HSub.nil⟩) (fun v28 hv28 => ?_); subst hv28
        refine oX (eO 4 rfl ?_); refine o_alloc (l := arrI (fun _ => 0)) (by rw [arrI_zero]; rfl) rfl fun b6 => ?_; refine oX ?_
        exact e_lst (by kernel_rfl) (hJ (b6, b7) _ _ sbA sbA hzB)
       ·refine o_alloc (l := arrI (fun _ => 0)) (by rw [arrI_zero]; rfl) rfl fun b6 => ?_; refine oX (eO 3 rfl ?_); refine o_callP (atomsO_fn d2 aa2 ac2 na2 nc2 rows2 ea2 ec2 hx2) rfl rfl rfl (fun w st => ⟨hw.2.1.old st, tb_of hw.2.2 st HSub.nil⟩) (fun v28 hv28 => ?_); subst hv28
        refine oX ?_
        exact e_lst (by kernel_rfl) (hJ (b6, b7) _ _ sbA sbA hzB)
      ·refine o_alloc (l := arrI (fun _ => 0)) (by rw [arrI_zero]; rfl) rfl fun b6 => ?_; refine oX (eO 1 rfl ?_); refine o_callP (atomsO_fn d1 aa1 ac1 na1 nc1 rows1 ea1 ec1 hx1) rfl rfl rfl (fun w st => ⟨hw.1.old st, tb_of hw.2.2 st HSub.nil⟩) (fun v26 hv26 => ?_); subst hv26
       refine oX (eO 3 rfl ?_); refine o_callP (atomsO_fn d2 aa2 ac2 na2 nc2 rows2 ea2 ec2 hx2) rfl rfl rfl (fun w st => ⟨hw.2.1.old st, tb_of hw.2.2 st HSub.nil⟩) (fun v28 hv28 => ?_); subst hv28
       refine oX ?_
       exact e_lst (by kernel_rfl) (hJ (b6, b7) _ _ sbA sbA hzB)
    ·rintro ⟨b6, b7⟩
     refine eO 6 rfl ?_; refine o_stW rfl rfl upA (arrI_len _) (arrI_len _) (arrI_one _) ?_; refine oX (eO 7 rfl ?_); refine o_stW rfl rfl upA (arrI_len _) (arrI_len _) (arrI_one _) ?_; refine oX (eZ hK6 (cR fun _ hK7 => ?_)); refine oS (s_build (cs := [_, _, _, _]) (vs := [_]) rfl rfl (.cons rfl rfl rfl rfl rfl (.nil))) ?_; refine o_bs (E := EBo) (xs := [⟨0, 0, -1, 0⟩]) (vs := [_]) rfl rfl rfl rfl rfl (by decide) (by decide) fun b30 S30 hS30 => ?_; refine oA (oZ hK7 (cR fun _ hK8 => ?_)); refine o_mmap2 (Ek := EkQ) rfl fun b31 => ?_; refine oS (step_cast (v' := EkQ ((0 : Int), (0 : Int))) (s_buildA1 [.int .i64 0, .int .i64 0] rfl rfl rfl rfl (by simp [Value.oneCell'])) rfl) ?_; refine o_ins2 (Ek := EkQ) (k := ((0 : Int), (0 : Int))) rfl rfl rfl pkA fun es0 c0 hset0 hel0 => ?_; refine oM (oA (oZ hK8 (cR fun _ hK9 => ?_))); refine oA (oZ hK9 (cR fun _ hK10 => ?_)); refine oA (oZ hK10 (c_seq fun _ hK11 => ?_)); refine cR fun _ hK12 => ?_; refine oA (oZ hK12 (c_block ?_))
     -- not carried: 4 5
     refine c_loop7 (fun (i : Nat) (l : List Bo) (la : Option Addr) (lc : Nat) (es : List (Mx (Int × Int))) (mc : Nat) (Sl0 : Hp) => unRun d1 d2 (66051 - i) i l = unM d1 d2 ∧ i ≤ l.length ∧ UnI d1 d2 l ∧ (∀ t, getM es t = memM (l.map Bo.pq) t) ∧ OwnS EBo 4 111 (.slice la l.length lc) l Sl0) (fun (i : Nat) (l : List Bo) (la : Option Addr) (lc : Nat) (es : List (Mx (Int × Int))) (mc : Nat) (Sl0 : Hp) => [(8, .slice la l.length lc), (12, .int .i64 i)]) [(2, _), (3, _), (6, _), (7, _), (9, _), (10, _), (11, _)] (fun (i : Nat) (l : List Bo) (la : Option Addr) (lc : Nat) (es : List (Mx (Int × Int))) (mc : Nat) (Sl0 : Hp) => (b2, .cells [.slice aa1 d1.atoms.length ac1, .slice na1 rows1.length nc1, .slice ea1 d1.ends.length ec1].toArray 26 (0, 0)) :: (b3, .cells [.slice aa2 d2.atoms.length ac2, .slice na2 rows2.length nc2, .slice ea2 d2.ends.length ec2].toArray 26 (0, 0)) :: (b6, .cells (arrI (fun i => (Sts.lst d1.atoms i d1.atoms.length : Nat))).toArray 65 (0, 0)) :: (b7, .cells (arrI (fun i => (Sts.lst d2.atoms i d2.atoms.length : Nat))).toArray 65 (0, 0)) :: (b31, mxO EkQ es mc) :: Sl0) (fun (i : Nat) (l : List Bo) (la : Option Addr) (lc : Nat) (es : List (Mx (Int × Int))) (mc : Nat) (Sl0 : Hp) => 66051 - i) 0 [⟨0, 0, -1, 0⟩] (some ⟨b30, 0, none⟩) 1 es0 c0 S30 ⟨by unfold unM; rw [hsh1, hsh2]; rfl, Nat.zero_le _, UnI.one (by omega) (by omega), memM_add (l := []) (s := ((0 : Int), (0 : Int))) (g := getM ([] : List (Mx (Int × Int)))) (fun _ => rfl) hset0, hS30⟩ sbA sbA hzB ?_
     rintro i l la lc es mc Sl0 ⟨hrun, hil, hU, hN, hO⟩
     have hUl := hU.len z21 z22
     have hsl := hO.sl
     have hU0 := hU
     refine c_seq fun _ hK13 => ?_; refine cR fun _ hK14 => ?_; refine oM (oM ?_); refine oS sC ?_
     by_cases hlt : i < l.length
     ·obtain ⟨x, hxi⟩ : ∃ x, l[i]? = some x := gE
      refine oS (step_cast (v' := .bool true) (s_lss rfl rfl) (congrArg Value.bool (decide_eq_true (by omega)))) ?_; refine oZ hK14 ?_; refine cTZ hK13 (c_seq fun _ hK15 => ?_); refine c_block (cR fun _ hK16 => ?_); refine oM (oM ?_); refine oS (s_idx rfl rfl hsl (by omega)) ?_; refine oS (s_ldB rfl ((hO.rdk hiA).lds i hxi (by omega)) lnA) ?_; refine o_alloc rfl rfl fun b13 => ?_; refine o_stW rfl rfl upA lnA lnA onA ?_; refine oZ hK16 (c_seq fun _ hK17 => ?_); refine c_seq fun _ hK18 => ?_; refine c_drawE ([(b13, .cells (EBo x).toArray 111 (0, 0)), (b2, .cells [.slice aa1 d1.atoms.length ac1, .slice na1 rows1.length nc1, .slice ea1 d1.ends.length ec1].toArray 26 (0, 0)), (b3, .cells [.slice aa2 d2.atoms.length ac2, .slice na2 rows2.length nc2, .slice ea2 d2.ends.length ec2].toArray 26 (0, 0))]) (fun i => false) ?_; refine eP 0 rfl sM ?_; refine eK 1 rfl (s_ldB rfl (RdPK.cels (.own meA)) lnA) ?_; refine eP 2 rfl sF ?_; refine eP 3 rfl (s_indexA rfl rfl (by omega)) ?_; refine eK 4 rfl sL ?_; refine eP 6 rfl sM ?_; refine eK 7 rfl (s_ldB rfl (RdPK.cels (.own meA)) lnA) ?_; refine eP 8 rfl sF ?_; refine eP 9 rfl (s_indexA rfl rfl (by omega)) ?_; refine eK 10 rfl sL (eO 5 rfl ?_); refine o_callC (us := []) (vs := [_, _]) (cs := []) (endsU_fn d1 aa1 ac1 na1 nc1 rows1 ea1 ec1 hx1 x.p (hU.bp x (List.mem_of_getElem? hxi)).2) rfl rfl rfl (by exact .nil) (fun w st => hw.1.old st) (fun v49 S49 hv49 => ?_); subst hv49
      refine oX (eO 11 rfl ?_); refine o_callC (us := []) (vs := [_, _]) (cs := []) (endsU_fn d2 aa2 ac2 na2 nc2 rows2 ea2 ec2 hx2 x.q (hU.bq x (List.mem_of_getElem? hxi)).2) rfl rfl rfl (by exact .nil) (fun w st => hw.2.1.old st) (fun v55 S55 hv55 => ?_); subst hv55
      refine oX ?_
      by_cases hne : endsR d1 x.p ≠ endsR d2 x.q
      ·refine eP 12 rfl (step_cast (v' := .bool true) (s_neq_bool rfl rfl) (congrArg Value.bool (decide_eq_true hne))) ?_; refine eZ hK18 ?_; refine cT (cR fun _ hK19 => ?_); refine oA (oZ hK19 (c_seq fun _ hK20 => ?_)); refine c_block ?_; refine c_loop6 (fun (t : List UInt8) (y : Bo) (k : Nat) (ta : Option Addr) (tc : Nat) (St : Hp) => t ++ back l y = back l x ∧ l[k]? = some y ∧ OwnS Eb 1 5 (.slice ta t.length tc) t St) (fun (t : List UInt8) (y : Bo) (k : Nat) (ta : Option Addr) (tc : Nat) (St : Hp) => [(14, .slice ta t.length tc)]) [(2, _), (3, _), (6, _), (7, _), (8, _), (9, _), (10, _), (11, _), (12, _), (13, _), (34, _), (35, _), (36, _), (37, _), (40, _), (41, _), (42, _), (43, _), (44, _), (45, _), (46, _), (47, _), (48, _), (49, _), (50, _), (51, _), (52, _), (53, _), (54, _), (55, _), (56, _)] (fun (t : List UInt8) (y : Bo) (k : Nat) (ta : Option Addr) (tc : Nat) (St : Hp) => (b13, .cells (EBo y).toArray 111 (0, 0)) :: (b2, .cells [.slice aa1 d1.atoms.length ac1, .slice na1 rows1.length nc1, .slice ea1 d1.ends.length ec1].toArray 26 (0, 0)) :: (b3, .cells [.slice aa2 d2.atoms.length ac2, .slice na2 rows2.length nc2, .slice ea2 d2.ends.length ec2].toArray 26 (0, 0)) :: (b6, .cells (arrI (fun i => (Sts.lst d1.atoms i d1.atoms.length : Nat))).toArray 65 (0, 0)) :: (b7, .cells (arrI (fun i => (Sts.lst d2.atoms i d2.atoms.length : Nat))).toArray 65 (0, 0)) :: (b31, mxO EkQ es mc) :: (Sl0 ++ St)) (fun (t : List UInt8) (y : Bo) (k : Nat) (ta : Option Addr) (tc : Nat) (St : Hp) => (y.frm + 1).toNat) [] x i none 0 [] ⟨rfl, hxi, OwnS.nil⟩ sbA sbA hzB ?_
       rintro t y k ta tc St ⟨hb, hyk, hT⟩
       have hfy := hU.fr k y hyk
       have hkl := (List.getElem?_eq_some_iff.1 hyk).1
       have htl := congrArg List.length hb
       rw [List.length_append] at htl
       have hbl := backT_len l (x.frm + 1).toNat x
       have hfx := hU.fr i x hxi
       change (back l x).length ≤ _ at hbl
       refine c_seq fun _ hK21 => ?_; refine cR fun _ hK22 => ?_; refine oS sF ?_; refine oS sL ?_
       by_cases hpos : y.frm ≥ 0
       ·obtain ⟨z, hz⟩ : ∃ z, l[y.frm.toNat]? = some z := gE
        refine oS (step_cast (v' := .bool true) (s_geq rfl rfl) (congrArg Value.bool (decide_eq_true hpos))) ?_; refine oZ hK22 ?_; refine cTZ hK21 (c_seq fun _ hK23 => ?_); refine c_block (c_region (oM ?_)); refine oS sF ?_; refine oS (step_cast (v' := .int .u8 ((UInt8.ofNat y.by_).toNat : Nat)) (s_ld rfl (.own meA rfl)) (by rw [UInt8.toNat_ofNat_of_lt' (by have := hU.by_ y (List.mem_of_getElem? hyk); simp [UInt8.size]; omega)])) ?_; refine o_bs (E := Eb) (xs := [UInt8.ofNat y.by_]) (vs := [_]) rfl rfl rfl rfl rfl (by decide) (by decide) fun b68 S68 hS68 => ?_; refine o_app hT (hS68.rdk hiA) rfl rfl rfl rfl (by simp only [List.length_append, List.length_singleton]; omega) (by simp only [List.length_append, List.length_singleton]; omega) rfl pkA fun a69 c69 S69 hS69 => ?_; refine oA (o_nil (x_block (xZ hK23 (c_region (oM ?_))))); refine oS sF ?_; refine oS sL ?_; refine oS (s_idx rfl rfl hsl (by omega)) ?_; refine oS (s_ldB rfl ((hO.rdk hiA).lds y.frm.toNat hz (by omega)) lnA) ?_; refine o_stW rfl rfl upA lnA lnA onA ?_; refine o_nil ?_; exact x_then (x_inv (t ++ [UInt8.ofNat y.by_], z, y.frm.toNat, a69, c69, S69) ⟨by rw [← hb, back_step hU hyk (by omega) hz]; simp, hz, hS69⟩ (by have := hU.fr _ z hz; first | omega | (dsimp only; omega)) sbA hzB)
       ·rw [back_end (l := l) (x := y) (by omega), List.append_nil] at hb
        refine oS (step_cast (v' := .bool false) (s_geq rfl rfl) (congrArg Value.bool (decide_eq_false hpos))) ?_; refine oZ hK22 ?_; refine cF ?_; refine c_exit ?_; refine x_then_exit (x_then_exit (x_block_exit (xZ hK20 (cR fun _ hK24 => ?_)))); refine oM ?_; refine o_call (reverse_fn ta tc t St hT) rfl rfl rfl (pkA) (fun _ _ => trivial) (fun v71 S71 hS71 => ?_); refine oZ hK24 (cR fun _ hK25 => ?_); refine oM (oA (oA (oZ hK25 (c_ret ?_)))); refine x_then_ret (x_block_ret (x_then_ret (x_then_ret (x_block_ret (x_then_ret (?_))))))
        exact x_ret rfl (.tmp rfl (.tmp rfl (.nil))) (⟨S71, by exact hzB, .inr ⟨_, ta, tc, by rw [← hrun, unRun_hit (by omega) hxi hne, ← hb], by rw [List.length_reverse]; rfl, by rw [List.length_reverse]; exact hS71⟩⟩)
      ·have heq := Classical.not_not.1 hne
       refine eP 12 rfl (step_cast (v' := .bool false) (s_neq_bool rfl rfl) (congrArg Value.bool (decide_eq_false hne))) ?_; refine eZ hK18 ?_; refine cFZ hK17 (cR fun _ hK26 => ?_); refine oM (oZ hK26 (c_block ?_)); refine c_loop7 (fun (c : Nat) (m : List Bo) (la : Option Addr) (lc : Nat) (es : List (Mx (Int × Int))) (mc : Nat) (Sl0 : Hp) => c ≤ 256 ∧ m = unRow d1 d2 i x c l ∧ UnI d1 d2 m ∧ l.length ≤ m.length ∧ (∀ t, getM es t = memM (m.map Bo.pq) t) ∧ OwnS EBo 4 111 (.slice la m.length lc) m Sl0) (fun (c : Nat) (m : List Bo) (la : Option Addr) (lc : Nat) (es : List (Mx (Int × Int))) (mc : Nat) (Sl0 : Hp) => [(73, .int .i64 c), (8, .slice la m.length lc)]) [(2, _), (3, _), (6, _), (7, _), (9, _), (10, _), (11, _), (12, _), (13, _), (34, _), (35, _), (36, _), (37, _), (40, _), (41, _), (42, _), (43, _), (44, _), (45, _), (46, _), (47, _), (48, _), (49, _), (50, _), (51, _), (52, _), (53, _), (54, _), (55, _), (56, _)] (fun (c : Nat) (m : List Bo) (la : Option Addr) (lc : Nat) (es : List (Mx (Int × Int))) (mc : Nat) (Sl0 : Hp) => (b13, .cells (EBo x).toArray 111 (0, 0)) :: (b2, .cells [.slice aa1 d1.atoms.length ac1, .slice na1 rows1.length nc1, .slice ea1 d1.ends.length ec1].toArray 26 (0, 0)) :: (b3, .cells [.slice aa2 d2.atoms.length ac2, .slice na2 rows2.length nc2, .slice ea2 d2.ends.length ec2].toArray 26 (0, 0)) :: (b6, .cells (arrI (fun i => (Sts.lst d1.atoms i d1.atoms.length : Nat))).toArray 65 (0, 0)) :: (b7, .cells (arrI (fun i => (Sts.lst d2.atoms i d2.atoms.length : Nat))).toArray 65 (0, 0)) :: (b31, mxO EkQ es mc) :: Sl0) (fun (c : Nat) (m : List Bo) (la : Option Addr) (lc : Nat) (es : List (Mx (Int × Int))) (mc : Nat) (Sl0 : Hp) => 256 - c) 0 l la lc es mc Sl0 ⟨Nat.zero_le _, rfl, hU, Nat.le_refl _, hN, hO⟩ sbA sbA hzB ?_
       rintro c m la lc es mc Sl0 ⟨hc, hmr, hU, hlm, hN, hO⟩
       have hUm := hU.len z21 z22
       refine cR fun _ hK27 => ?_; refine oS (s_lss rfl rfl) ?_; refine oZ hK27 (c_seq fun _ hK28 => ?_); refine c_if rfl (fun hlc => ?_) (fun hlc => ?_)
       ·refine c_skip (xZ hK28 (c_seq fun _ hK29 => ?_)); refine c_block (cR fun _ hK30 => ?_); refine oM (oA (oZ hK30 (c_seq fun _ hK31 => ?_))); refine c_drawE ((b13, .cells (EBo x).toArray 111 (0, 0)) :: (b2, .cells [.slice aa1 d1.atoms.length ac1, .slice na1 rows1.length nc1, .slice ea1 d1.ends.length ec1].toArray 26 (0, 0)) :: (b3, .cells [.slice aa2 d2.atoms.length ac2, .slice na2 rows2.length nc2, .slice ea2 d2.ends.length ec2].toArray 26 (0, 0)) :: (b6, .cells (arrI (fun i => (Sts.lst d1.atoms i d1.atoms.length : Nat))).toArray 65 (0, 0)) :: (b7, .cells (arrI (fun i => (Sts.lst d2.atoms i d2.atoms.length : Nat))).toArray 65 (0, 0)) :: (b31, mxO EkQ es mc) :: Sl0) (fun i => Nat.beq i 20) ?_; refine eP 0 rfl sM ?_; refine eK 1 rfl (s_ldB rfl (RdPK.cels (.own meA)) lnA) ?_; refine eP 2 rfl sF ?_; refine eP 3 rfl (s_indexA rfl rfl (by omega)) ?_; refine eK 4 rfl sL ?_; refine eP 5 rfl sM ?_; refine eP 6 rfl (s_indexA rfl rfl (by omega)) ?_; refine eK 7 rfl (s_ld rfl ((RdPK.own meA).cel (j := c) (arrI_get (by omega)) (by omega))) ?_; refine eP 9 rfl sM ?_; refine eK 10 rfl (s_ldB rfl (RdPK.cels (.own meA)) lnA) ?_; refine eP 11 rfl sF ?_; refine eP 12 rfl (s_indexA rfl rfl (by omega)) ?_; refine eK 13 rfl sL ?_; refine eP 14 rfl sM ?_; refine eP 15 rfl (s_indexA rfl rfl (by omega)) ?_; refine eK 16 rfl (s_ld rfl ((RdPK.own meA).cel (j := c) (arrI_get (by omega)) (by omega))) ?_; refine e_join (ι := Nat) (fun b16 => [(94, .agg [.int .i64 (gP d1 x.p c), .int .i64 (gP d2 x.q c)].toArray), (16, .pointer (some ⟨b16, 0, none⟩))]) [(2, _), (3, _), (6, _), (7, _), (8, _), (9, _), (10, _), (11, _), (12, _), (13, _), (15, _), (34, _), (35, _), (36, _), (37, _), (40, _), (41, _), (42, _), (43, _), (44, _), (45, _), (46, _), (47, _), (48, _), (49, _), (50, _), (51, _), (52, _), (53, _), (54, _), (55, _), (56, _), (73, _), (74, _), (75, _), (76, _), (77, _), (78, _), (79, _), (80, _), (81, _), (82, _), (83, _), (85, _), (86, _), (87, _), (88, _), (89, _), (90, _), (91, _), (92, _)] (fun b16 => (b16, .cells [.int .i64 0, .int .i64 0].toArray 109 (0, 0)) :: (b13, .cells (EBo x).toArray 111 (0, 0)) :: (b2, .cells [.slice aa1 d1.atoms.length ac1, .slice na1 rows1.length nc1, .slice ea1 d1.ends.length ec1].toArray 26 (0, 0)) :: (b3, .cells [.slice aa2 d2.atoms.length ac2, .slice na2 rows2.length nc2, .slice ea2 d2.ends.length ec2].toArray 26 (0, 0)) :: (b6, .cells (arrI (fun i => (Sts.lst d1.atoms i d1.atoms.length : Nat))).toArray 65 (0, 0)) :: (b7, .cells (arrI (fun i => (Sts.lst d2.atoms i d2.atoms.length : Nat))).toArray 65 (0, 0)) :: (b31, mxO EkQ es mc) :: Sl0) 1 #[true, true, true, true, true, true, true, true, true, true, true, true, true, true, true, true, true, true, true, true, false] sbA (fun hJ => ?_) ?_
        ·refine e_any2 8 19 rfl rfl (by kernel_rfl) ?_ ?_
         ·refine o_callC (us := []) (vs := [_, _, _]) (cs := []) (goesU_fn d1 aa1 ac1 na1 nc1 rows1 ea1 ec1 hx1 x.p (by have := hU0.bp x (List.mem_of_getElem? hxi); omega) (Sts.lst d1.atoms c d1.atoms.length) (fun s hs => by rw [(hS1.rows s.xs (by rw [hx1]; exact List.mem_map.2 ⟨s, hs, rfl⟩)).1]; exact lst_lt _ _ z41)) rfl rfl rfl (by exact .nil) (fun w st => hw.1.old st) (fun v84 S84 hv84 => ?_)
          change v84 = .int .i64 (gP d1 x.p c) at hv84
          subst hv84; refine oX ?_; refine e_any2 17 19 rfl rfl (by kernel_rfl) ?_ ?_
          ·refine o_callC (us := []) (vs := [_, _, _]) (cs := []) (goesU_fn d2 aa2 ac2 na2 nc2 rows2 ea2 ec2 hx2 x.q (by have := hU0.bq x (List.mem_of_getElem? hxi); omega) (Sts.lst d2.atoms c d2.atoms.length) (fun s hs => by rw [(hS2.rows s.xs (by rw [hx2]; exact List.mem_map.2 ⟨s, hs, rfl⟩)).1]; exact lst_lt _ _ z42)) rfl rfl rfl (by exact .nil) (fun w st => hw.2.1.old st) (fun v93 S93 hv93 => ?_)
           change v93 = .int .i64 (gP d2 x.q c) at hv93
           subst hv93; refine oX ?_; refine e_any2 18 19 rfl rfl (by kernel_rfl) ?_ ?_
           ·refine oS (s_buildA1 [.int .i64 (gP d1 x.p c), .int .i64 (gP d2 x.q c)] rfl rfl rfl rfl (by simp [Value.oneCell'])) ?_; refine oX (eO 19 rfl ?_); refine o_alloc rfl rfl fun b16 => ?_; refine oX ?_
            exact e_lst (by kernel_rfl) (hJ b16 _ _ sbA sbA hzB)
           ·refine o_alloc rfl rfl fun b16 => ?_; refine oX (eO 18 rfl ?_); refine oS (s_buildA1 [.int .i64 (gP d1 x.p c), .int .i64 (gP d2 x.q c)] rfl rfl rfl rfl (by simp [Value.oneCell'])) ?_; refine oX ?_
            exact e_lst (by kernel_rfl) (hJ b16 _ _ sbA sbA hzB)
          ·refine o_alloc rfl rfl fun b16 => ?_; refine oX (eO 17 rfl ?_); refine o_callC (us := []) (vs := [_, _, _]) (cs := []) (goesU_fn d2 aa2 ac2 na2 nc2 rows2 ea2 ec2 hx2 x.q (by have := hU0.bq x (List.mem_of_getElem? hxi); omega) (Sts.lst d2.atoms c d2.atoms.length) (fun s hs => by rw [(hS2.rows s.xs (by rw [hx2]; exact List.mem_map.2 ⟨s, hs, rfl⟩)).1]; exact lst_lt _ _ z42)) rfl rfl rfl (by exact .nil) (fun w st => hw.2.1.old st) (fun v93 S93 hv93 => ?_)
           change v93 = .int .i64 (gP d2 x.q c) at hv93
           subst hv93; refine oX (eO 18 rfl ?_); refine oS (s_buildA1 [.int .i64 (gP d1 x.p c), .int .i64 (gP d2 x.q c)] rfl rfl rfl rfl (by simp [Value.oneCell'])) ?_; refine oX ?_
           exact e_lst (by kernel_rfl) (hJ b16 _ _ sbA sbA hzB)
         ·refine o_alloc rfl rfl fun b16 => ?_; refine oX (eO 8 rfl ?_); refine o_callC (us := []) (vs := [_, _, _]) (cs := []) (goesU_fn d1 aa1 ac1 na1 nc1 rows1 ea1 ec1 hx1 x.p (by have := hU0.bp x (List.mem_of_getElem? hxi); omega) (Sts.lst d1.atoms c d1.atoms.length) (fun s hs => by rw [(hS1.rows s.xs (by rw [hx1]; exact List.mem_map.2 ⟨s, hs, rfl⟩)).1]; exact lst_lt _ _ z41)) rfl rfl rfl (by exact .nil) (fun w st => hw.1.old st) (fun v84 S84 hv84 => ?_)
          change v84 = .int .i64 (gP d1 x.p c) at hv84
          subst hv84; refine oX (eO 17 rfl ?_); refine o_callC (us := []) (vs := [_, _, _]) (cs := []) (goesU_fn d2 aa2 ac2 na2 nc2 rows2 ea2 ec2 hx2 x.q (by have := hU0.bq x (List.mem_of_getElem? hxi); omega) (Sts.lst d2.atoms c d2.atoms.length) (fun s hs => by rw [(hS2.rows s.xs (by rw [hx2]; exact List.mem_map.2 ⟨s, hs, rfl⟩)).1]; exact lst_lt _ _ z42)) rfl rfl rfl (by exact .nil) (fun w st => hw.2.1.old st) (fun v93 S93 hv93 => ?_)
          change v93 = .int .i64 (gP d2 x.q c) at hv93
          subst hv93; refine oX (eO 18 rfl ?_); refine oS (s_buildA1 [.int .i64 (gP d1 x.p c), .int .i64 (gP d2 x.q c)] rfl rfl rfl rfl (by simp [Value.oneCell'])) ?_; refine oX ?_
          exact e_lst (by kernel_rfl) (hJ b16 _ _ sbA sbA hzB)
        ·rintro b16
         refine eO 20 rfl ?_; refine o_stW rfl rfl upA lnA lnA onA ?_; refine o_nil ?_; refine x_oneL rfl ?_; refine eZ hK31 (cR fun _ hK32 => ?_); refine oM ?_; refine oS (s_ldB rfl (RdPK.cels (.own meA)) lnA) ?_; refine oS (step_cast (v' := .int .i64 (mbI (m.map Bo.pq) (gP d1 x.p c, gP d2 x.q c))) (s_look2 (Ek := EkQ) (k := (gP d1 x.p c, gP d2 x.q c)) rfl rfl meA) (by rw [hN]; exact mbI_get _ _)) ?_
         by_cases hmz : mbI (m.map Bo.pq) (gP d1 x.p c, gP d2 x.q c) = 0
         ·have hmn := mbI_zero hmz
          refine oS (step_cast (v' := .bool true) (s_eql rfl rfl) (congrArg Value.bool (decide_eq_true hmz))) ?_; refine oZ hK32 ?_; refine cT (cR fun _ hK33 => ?_); refine oM ?_; refine oS (s_ldB rfl (RdPK.cels (.own meA)) lnA) ?_; refine o_mset2 (Ek := EkQ) (k := (gP d1 x.p c, gP d2 x.q c)) rfl rfl rfl pkA fun es' c' hset hel' => ?_; refine oZ hK33 (c_region (oM ?_)); refine oS (s_ldB rfl (RdPK.cels (.own meA)) lnA) ?_; refine oM (oM ?_); refine oS (step_cast (v' := .int .u8 ((c : Nat) : Int)) (s_conv rfl) (congrArg _ (conv8 (by omega)))) ?_; refine oS (s_build (cs := [_, _, _, _]) (vs := [_, _, _]) rfl rfl (.cons rfl rfl rfl rfl rfl (.cons rfl rfl rfl rfl rfl (.cons rfl rfl rfl rfl rfl (.nil))))) ?_; refine o_bs (E := EBo) (xs := [⟨gP d1 x.p c, gP d2 x.q c, i, c⟩]) (vs := [_]) rfl rfl rfl rfl rfl (by decide) (by decide) fun b107 S107 hS107 => ?_; refine o_app hO (hS107.rdk hiA) rfl rfl rfl rfl (by simp only [List.length_append, List.length_singleton]; omega) (by simp only [List.length_append, List.length_singleton]; omega) rfl pkA fun a108 c108 S108 hS108 => ?_; refine oA (o_nil (x_block (xZ hK29 (c_region ?_)))); refine oS sD (oM (o_nil ?_)); exact xI (c + 1, m ++ [⟨gP d1 x.p c, gP d2 x.q c, i, c⟩], a108, c108, es', c', S108) ⟨by omega, by rw [hmr] at hmn; rw [hmr, unRow_new hmn], hU.push hmn (gP_bnd hS1 (hU0.bp x (List.mem_of_getElem? hxi)).2 c) (gP_bnd hS2 (hU0.bq x (List.mem_of_getElem? hxi)).2 c) (by omega) (by omega), by simp only [List.length_append, List.length_singleton]; omega, by rw [List.map_append]; exact memM_add hN hset, hS108⟩
         ·have hmn := mbI_one hmz
          refine oS (step_cast (v' := .bool false) (s_eql rfl rfl) (congrArg Value.bool (decide_eq_false hmz))) ?_; refine oZ hK32 ?_; refine cF (c_skip (x_block (xZ hK29 (c_region ?_)))); refine oS sD (oM (o_nil ?_)); exact xI (c + 1, m, la, lc, es, mc, Sl0) ⟨by omega, by rw [hmr] at hmn; rw [hmr, unRow_old hmn], hU, hlm, hN, hO⟩
       ·obtain rfl : c = 256 := by omega
        refine c_exit ?_; refine x_then_exit (x_then_exit (x_block_exit (x_block (xZ hK15 (c_region (oM ?_)))))); refine oS sD (oA (o_nil ?_)); exact xI (i + 1, m, la, lc, es, mc, Sl0) ⟨by rw [← hrun, unRun_step (by omega) hxi heq, ← hmr, Nat.sub_sub], by dsimp only; omega, hU, hN, hO⟩
     ·refine oS (step_cast (v' := .bool false) (s_lss rfl rfl) (congrArg Value.bool (decide_eq_false (by omega)))) ?_; refine oZ hK14 ?_; refine cF ?_; refine c_exit ?_; refine x_then_exit (x_then_exit (x_block_exit (xZ hK11 (cR fun _ hK34 => ?_)))); refine oA (oA (oZ hK34 (c_ret ?_))); refine ?_; exact x_ret rfl (.tmp rfl (.tmp rfl (.nil))) (⟨[], HSub.nil, .inl ⟨by rw [← hrun, unRun_end (by omega)], rfl⟩⟩)
set_option maxHeartbeats 4000000 in
theorem unlike2_fn (d1 : Df) (aa1 : Option Addr) (ac1 : Nat) (na1 : Option Addr) (nc1 : Nat) (rows1 : List (Sl Int)) (ea1 : Option Addr) (ec1 : Nat) (hx1 : d1.next = rows1.map Sl.xs) (d2 : Df) (aa2 : Option Addr) (ac2 : Nat) (na2 : Option Addr) (nc2 : Nat) (rows2 : List (Sl Int)) (ea2 : Option Addr) (ec2 : Nat) (hx2 : d2.next = rows2.map Sl.xs) : HL.Fn Tryd.prog 30 [.agg [.slice aa1 d1.atoms.length ac1, .slice na1 rows1.length nc1, .slice ea1 d1.ends.length ec1].toArray, .agg [.slice aa2 d2.atoms.length ac2, .slice na2 rows2.length nc2, .slice ea2 d2.ends.length ec2].toArray] (fun w => RdD d1 aa1 ac1 na1 nc1 rows1 ea1 ec1 w ∧ RdD d2 aa2 ac2 na2 nc2 rows2 ea2 ec2 w ∧ Tb [] w) [] (UnP (unM d1 d2)) :=
  HL.Fn.sub (unlike_fn d1 aa1 ac1 na1 nc1 rows1 ea1 ec1 hx1 d2 aa2 ac2 na2 nc2 rows2 ea2 ec2 hx2) fun v S' ⟨S2, h1, h2⟩ => ⟨S2, h1, h2⟩
end Go.Proofs.YtmompllplidphaaDoor
namespace Go.HL.Kl.Mc
open Go Go.HL Go.HL.Kl
def succs (t : In) (n p i : Nat) : List Nat :=
  if t.op = 2 then (if p = 0 then [i + 1] else []) else if t.op = 3 then (if p = n then [i + 1] else [])
  else if t.op = 4 then [t.x.toNat] else if t.op = 5 then [t.x.toNat, t.y.toNat] else []
structure Srch (m : List In) (n p from_ : Nat) (s0 sn : List Bool) (todo : List Nat) : Prop where
  len : sn.length = m.length
  a : ∀ i : Nat, s0[i]? = some true → sn[i]? = some true
  b : ∀ i : Nat, sn[i]? = some true → s0[i]? = some true ∨ EpsS m n p from_ i
  c : ∀ t ∈ todo, EpsS m n p from_ t ∧ t < m.length
  d : ∀ i j : Nat, sn[i]? = some true → Eps m n p i j → sn[j]? = some true ∨ j ∈ todo
  e : sn[from_]? = some true ∨ from_ ∈ todo
def unseen (l : List Bool) : Nat := l.countP (!·)
def Begn (m : List In) (w : List UInt8) (f p j : Nat) : Prop := (p = f ∧ j = 0) ∨ (f < p ∧ ∃ i, j = i + 1 ∧ Run m w (0, f) (i, p - 1) ∧ Eat m w i (p - 1))
def EndsP (m : List In) (w : List UInt8) (f : Int) (out : List Bool) : Prop := out.length = w.length + 1 ∧ ∀ t : Nat, out[t]? = some true ↔ MOk m ∧ ∃ g : Nat, f = g ∧ g ≤ w.length ∧ Hit m w g t
def SeenP (m : List In) (w : List UInt8) (p : Nat) (q : List Nat) (k : Nat) (sn : List Bool) : Prop :=
  sn.length = m.length ∧ (∀ i : Nat, sn[i]? = some true ↔ ∃ t j : Nat, t < k ∧ q[t]? = some j ∧ EpsS m w.length p j i) ∧ ∀ i j : Nat, sn[i]? = some true → Eps m w.length p i j → sn[j]? = some true
structure PassP (m : List In) (w : List UInt8) (p : Nat) (sn out : List Bool) (k : Nat) (o2 : List Bool) (q2 : List Nat) : Prop where
  len : o2.length = out.length
  st : ∀ j, j ∈ q2 ↔ ∃ i, i < k ∧ j = i + 1 ∧ sn[i]? = some true ∧ Eat m w i p
  out : ∀ t : Nat, o2[t]? = some true ↔ out[t]? = some true ∨ (t = p ∧ ∃ i u, i < k ∧ sn[i]? = some true ∧ m[i]? = some u ∧ u.op = 6)
  le : q2.length ≤ k
def EndsC (m : List In) (w : List UInt8) (f : Int) (v : Value) (S : Hp) : Prop := ∃ (a : Option Addr) (c : Nat) (out : List Bool), v = .slice a (w.length + 1) c ∧ OwnS Ebo 1 4 v out S ∧ EndsP m w f out
end Go.HL.Kl.Mc
namespace Go.HL
open Go Go.Tab
section
variable {α : Type}
def wdlF (d : Nat → α) (xs : List α) (i : Nat) : α := (xs[i]?).getD (d i)
def wdl (d : Nat → α) (xs : List α) : List α := (List.range (xs.length + 64)).map (wdlF d xs)
theorem ext_upto {a b : List α} (hl : a.length = b.length) (h : ∀ i, i < a.length → a[i]? = b[i]?) : a = b := by
  apply List.ext_getElem?
  intro i
  by_cases hi : i < a.length
  · exact h i hi
  · rw [List.getElem?_eq_none (by omega), List.getElem?_eq_none (by omega)]
attribute [irreducible] wdl wdlF
end
end Go.HL
namespace Go.HL.Kl.Mc
open Go Go.HL Go.HL.Kl
def spI (i : Nat) : In := ⟨0, 0, ((1048576 * 9 + i + 1 : Nat) : Int), -7⟩
def letN (b : UInt8) : Nd := ⟨1, bit b.toNat, 0, 0, 0, 0⟩
def starN : Nd := ⟨6, 0, 0, 0, -1, 1⟩
def reW : List Nd := [starN, letN 97]
def ksW : F := .nd (letN 97) .nil .nil
def mW : List In := mach (.nd starN ksW .nil)
theorem Shp.uniq {re : List Nd} {x y : Nd} {ks js : F} (h : Shp re x ks) (h' : Shp re y js) : x = y ∧ ks = js := by
  have := flat_inj (.nd x ks .nil) (.nd y js .nil) [] [] h.wf h'.wf rfl (by simp only [F.flat, List.append_nil]; rw [← h.flat, ← h'.flat])
  simpa using this.1
def wW : List UInt8 := [97, 97, 98]
attribute [irreducible] mW
end Go.HL.Kl.Mc
namespace Go.HL.Sts
open Go Go.HL Go.HL.Kl Go.HL.Kl.Mc
/-! which states are alive, by steps -/
def liveStep (next : List (List Nat)) (n : Nat) (l : List Bool) : List Bool := (List.range n).map fun q => l[q]?.getD false || (next[q]?.getD []).any fun to => l[to]?.getD false
def liveIt (next : List (List Nat)) (ends : List Bool) : Nat → List Bool
  | 0 => ends
  | k + 1 => liveStep next next.length (liveIt next ends k)
theorem liveIt_live {next : List (List Nat)} {ends : List Bool} : ∀ (k q : Nat), (liveIt next ends k)[q]? = some true → Live next ends q
  | 0, q, h => .ends h
  | k + 1, q, h => by
    unfold liveIt liveStep at h
    rw [List.getElem?_map] at h
    have hq : q < next.length := by
      rcases Nat.lt_or_ge q next.length with h1 | h1
      · exact h1
      · rw [List.getElem?_eq_none (by simpa using h1)] at h; cases h
    rw [List.getElem?_range hq] at h
    simp only [Option.map_some, Option.some.injEq, Bool.or_eq_true, List.any_eq_true] at h
    have get : ∀ x : Nat, (liveIt next ends k)[x]?.getD false = true → (liveIt next ends k)[x]? = some true := by
      intro x hx
      cases e : (liveIt next ends k)[x]? with
      | none => rw [e] at hx; cases hx
      | some b => rw [e] at hx; rw [show b = true from hx]
    rcases h with h | ⟨to, hto, h⟩
    · exact liveIt_live k q (get q h)
    · rw [List.getElem?_eq_getElem hq, Option.getD_some] at hto
      exact .step (List.getElem?_eq_getElem hq) hto (liveIt_live k to (get to h))
theorem lv_calc {next : List (List Nat)} {ends lv : List Bool} (k : Nat) (h : LvOk next ends lv) (hlen : ends.length = next.length) (h0 : ∀ q : Nat, ends[q]? = some true → (liveIt next ends k)[q]? = some true) (hfix : liveStep next next.length (liveIt next ends k) = liveIt next ends k) : lv = liveIt next ends k := by
  have hl : (liveIt next ends k).length = next.length := by rw [← hfix]; simp [liveStep]
  have hcl : ∀ q, Live next ends q → (liveIt next ends k)[q]? = some true := by
    intro q hL
    induction hL with
    | ends hq => exact h0 _ hq
    | @step q to row hr hm _ ih =>
      have hq := (List.getElem?_eq_some_iff.1 hr).1
      rw [← hfix]
      unfold liveStep
      rw [List.getElem?_map, List.getElem?_range hq]
      simp only [Option.map_some, Option.some.injEq, Bool.or_eq_true, List.any_eq_true]
      exact .inr ⟨to, by rw [hr]; exact hm, by rw [ih]; rfl⟩
  apply List.ext_getElem?
  intro q
  rcases Nat.lt_or_ge q next.length with hq | hq
  · have h1 := h.2 q
    have h2 : (liveIt next ends k)[q]? = some true ↔ Live next ends q := ⟨liveIt_live k q, hcl q⟩
    obtain ⟨x, hx⟩ : ∃ x, lv[q]? = some x := ⟨_, List.getElem?_eq_getElem (by rw [h.1]; exact hq)⟩
    obtain ⟨y, hy⟩ : ∃ y, (liveIt next ends k)[q]? = some y := ⟨_, List.getElem?_eq_getElem (by rw [hl]; exact hq)⟩
    rw [hx] at h1 ⊢
    rw [hy] at h2 ⊢
    have h3 := h1.trans h2.symm
    congr 1
    cases x <;> cases y <;> simp_all
  · rw [List.getElem?_eq_none (by rw [h.1]; exact hq), List.getElem?_eq_none (by rw [hl]; exact hq)]
/-! the two regexes -/
def ltN (c : Nat) : Nd := ⟨1, bit c, 0, 0, 0, 0⟩
def stN : Nd := ⟨6, 0, 0, 0, -1, 1⟩
def ctN : Nd := ⟨4, 0, 0, 0, 0, 2⟩
def reA : List Nd := [ctN, stN, ltN 97, ltN 98]
def ksA : F := .nd stN (.nd (ltN 97) .nil .nil) (.nd (ltN 98) .nil .nil)
def reB : List Nd := [ltN 97]
theorem shpA : Mc.Shp reA ctN ksA := ⟨⟨by decide +kernel, rfl, ⟨by decide +kernel, rfl, ⟨by decide +kernel, rfl, trivial, trivial⟩, ⟨by decide +kernel, rfl, trivial, trivial⟩⟩, trivial⟩, rfl, by decide, by decide +kernel⟩
theorem shpB : Mc.Shp reB (ltN 97) .nil := ⟨⟨by decide +kernel, rfl, trivial, trivial⟩, rfl, by decide, by decide +kernel⟩
theorem shapedA : shapedB reA = true := shapedB_iff.2 ⟨⟨[], by decide +kernel⟩, _, _, shpA⟩
theorem shapedB1 : shapedB reB = true := shapedB_iff.2 ⟨⟨[], by decide +kernel⟩, _, _, shpB⟩
theorem rngA : ∀ x ∈ reA, -128 ≤ x.op ∧ x.op < 128 := by simp [reA, ctN, stN, ltN]
theorem rngB : ∀ x ∈ reB, -128 ≤ x.op ∧ x.op < 128 := by simp [reB, ltN]
def wA : Wd := wdM reA ctN ksA
def wB : Wd := wdM reB (ltN 97) .nil
theorem lvA : liveIt wA.next wA.ends 3 = [true, false, true, true] := by decide +kernel
theorem lvB : liveIt wB.next wB.ends 3 = [true, false, true] := by decide +kernel
theorem fixA : liveStep wA.next wA.next.length (liveIt wA.next wA.ends 3) = liveIt wA.next wA.ends 3 := by decide +kernel
theorem fixB : liveStep wB.next wB.next.length (liveIt wB.next wB.ends 3) = liveIt wB.next wB.ends 3 := by decide +kernel
theorem endA : wA.ends = [false, false, false, true] := by decide +kernel
theorem endB : wB.ends = [false, false, true] := by decide +kernel
theorem lnA' : wA.ends.length = wA.next.length := by decide +kernel
theorem lnB' : wB.ends.length = wB.next.length := by decide +kernel
def mA : Lm := ⟨[0, 3], [[-1, 0, 1], [-1, -1, -1]], [false, true]⟩
def mB : Lm := ⟨[0, 2], [[-1, 1], [-1, -1]], [false, true]⟩
deriving instance DecidableEq for Lm
theorem lmA : lmOf reA ctN ksA [true, false, true, true] = some mA := by decide +kernel
theorem lmB : lmOf reB (ltN 97) .nil [true, false, true] = some mB := by decide +kernel
def dA : Df := ⟨[[-1, 0, 1], [-1, -1, -1]], [false, true], atoms (setsOf reA)⟩
def dB : Df := ⟨[[-1, 1], [-1, -1]], [false, true], atoms (setsOf reB)⟩
theorem lv_A {lv : List Bool} (h : LvOk (wdM reA ctN ksA).next (wdM reA ctN ksA).ends lv) : lv = [true, false, true, true] := by
  rw [show wdM reA ctN ksA = wA from by unfold wA; exact Eq.refl _] at h
  rw [← lvA]
  refine lv_calc 3 h lnA' (fun q hq => ?_) fixA
  rw [endA] at hq
  rw [lvA]
  match q, hq with
  | 3, _ => rfl
  | 0, hq => simp at hq
  | 1, hq => simp at hq
  | 2, hq => simp at hq
  | n + 4, hq => simp at hq
theorem lv_B {lv : List Bool} (h : LvOk (wdM reB (ltN 97) .nil).next (wdM reB (ltN 97) .nil).ends lv) : lv = [true, false, true] := by
  rw [show wdM reB (ltN 97) .nil = wB from by unfold wB; exact Eq.refl _] at h
  rw [← lvB]
  refine lv_calc 3 h lnB' (fun q hq => ?_) fixB
  rw [endB] at hq
  rw [lvB]
  match q, hq with
  | 2, _ => rfl
  | 0, hq => simp at hq
  | 1, hq => simp at hq
  | n + 3, hq => simp at hq
theorem refsA : refsB reA = false := by
  rw [refsB, show (reA.any fun x => x.op == 8) = false by decide +kernel, Bool.and_false]
theorem refsB1 : refsB reB = false := by
  rw [refsB, show (reB.any fun x => x.op == 8) = false by decide +kernel, Bool.and_false]
theorem wgtA : (F.nd ctN ksA .nil).weight ≤ 20 := by decide +kernel
theorem wgtB : (F.nd (ltN 97) .nil .nil).weight ≤ 20 := by decide +kernel
theorem ok_A {d : Df} (h : mkOk reA d) : d = dA := by
  obtain ⟨_, n, ks, lv, m, hS, _, _, hl, hm, h1, h2, h3⟩ := h
  obtain ⟨rfl, rfl⟩ := hS.uniq shpA
  have e := lv_A hl
  subst e
  have hm' := hm.symm.trans lmA
  obtain rfl := Option.some.inj hm'
  obtain ⟨nx, en, at_⟩ := d
  exact congr (congr (congrArg Df.mk h1) h2) h3
theorem ok_B {d : Df} (h : mkOk reB d) : d = dB := by
  obtain ⟨_, n, ks, lv, m, hS, _, _, hl, hm, h1, h2, h3⟩ := h
  obtain ⟨rfl, rfl⟩ := hS.uniq shpB
  have e := lv_B hl
  subst e
  have hm' := hm.symm.trans lmB
  obtain rfl := Option.some.inj hm'
  obtain ⟨nx, en, at_⟩ := d
  exact congr (congr (congrArg Df.mk h1) h2) h3
theorem err_A {e : Int} : ¬ mkErr reA e := by
  rintro (⟨h, _⟩ | ⟨_, h, _⟩ | ⟨n, ks, hS, _, hw, _⟩ | ⟨n, ks, lv, hS, _, _, hl, hm, _⟩)
  · rw [shapedA] at h; cases h
  · rw [refsA] at h; cases h
  · obtain ⟨rfl, rfl⟩ := hS.uniq shpA
    have := wgtA; omega
  · obtain ⟨rfl, rfl⟩ := hS.uniq shpA
    have e := lv_A hl
    subst e
    have hm' := hm.symm.trans lmA
    cases hm'
theorem err_B {e : Int} : ¬ mkErr reB e := by
  rintro (⟨h, _⟩ | ⟨_, h, _⟩ | ⟨n, ks, hS, _, hw, _⟩ | ⟨n, ks, lv, hS, _, _, hl, hm, _⟩)
  · rw [shapedB1] at h; cases h
  · rw [refsB1] at h; cases h
  · obtain ⟨rfl, rfl⟩ := hS.uniq shpB
    have := wgtB; omega
  · obtain ⟨rfl, rfl⟩ := hS.uniq shpB
    have e := lv_B hl
    subst e
    have hm' := hm.symm.trans lmB
    cases hm'
theorem tkA1 : takesP dA [97, 97, 98] = true := by decide +kernel
theorem tkA2 : takesP dA [97, 97] = false := by decide +kernel
theorem unAB : unM dA dB = some [97] := by decide +kernel
end Go.HL.Sts
namespace Go.HL
open Go
def midA (a : Option Addr) (c lo k : Nat) : Option Addr := if c = lo then a else a.map (·.add (lo * k))
section
variable {P : Program} {κ : Cx} {L : HL.Loc} {H : Hp} {ty t : TypeId} {x y z : Operand}
theorem s_slice_mid {e s by' n c : Nat} {a : Option Addr} {kl kh : IntKind} {l h : Int} [TU P t (.slice e)] [TI P e s by'] (hx : ev L x = some (.slice a n c)) (hy : ev L y = some (.int kl l)) (hz : ev L z = some (.int kh h)) (hb : 0 ≤ l ∧ l ≤ h ∧ h ≤ c) :
    Step P κ (.slice t x (some y) (some z) none) ty L H (.slice (midA a c l.toNat s) (h.toNat - l.toNat) (c - l.toNat)) :=
  ⟨fun ρ w d pos af g hρ _ => by
    have b1 : 0 ≤ h ∧ h ≤ c := by omega
    have b2 : 0 ≤ l ∧ l ≤ (h.toNat : Int) := by omega
    have b3 : 0 ≤ l ∧ l ≤ max h 0 := by omega
    have e2 : (Instr.slice t (.slice a n c) (some (.int kl l)) (some (.int kh h)) none).run P w = .ok (.slice (midA a c l.toNat s) (h.toNat - l.toNat) (c - l.toNat)) w := by
      simp [Instr.slice, run_u, Instr.sliceBounds, Instr.sliceBound, asIntOf, b1, b2, b3, run_size, midA]
    simp [execOp, hρ _ _ hx, hρ _ _ hy, hρ _ _ hz, Instr.sliceAt, run_u, e2]⟩
end
theorem flat_mid {α : Type} (E : α → List Value) {k : Nat} [h : Enc E k] (xs : List α) (lo m : Nat) {j : Nat} {u : Value} (hu : (flat E ((xs.drop lo).take m))[j]? = some u) : (flat E xs)[lo * k + j]? = some u := by
  have e : xs = xs.take lo ++ ((xs.drop lo).take m ++ (xs.drop lo).drop m) := by rw [List.take_append_drop, List.take_append_drop]
  have hj : j < (flat E ((xs.drop lo).take m)).length := by
    rcases Nat.lt_or_ge j (flat E ((xs.drop lo).take m)).length with h' | h'
    · exact h'
    · rw [List.getElem?_eq_none h'] at hu; cases hu
  rcases Nat.lt_or_ge lo xs.length with hl | hl
  · rw [e, flat_append, flat_append]
    have hlen : (flat E (xs.take lo)).length = lo * k := by rw [flat_len, List.length_take, Nat.min_eq_left (by omega)]
    rw [List.getElem?_append_right (by omega), hlen, Nat.add_sub_cancel_left, List.getElem?_append_left hj]
    exact hu
  · rw [List.drop_of_length_le hl] at hj; simp [flat] at hj
theorem Rd.mid {α : Type} {E : α → List Value} {k : Nat} [he : Enc E k] {w : World} {a : Option Addr} {n c : Nat} {xs : List α} (h : Rd E w (.slice a n c) xs) (lo hi : Nat) (h1 : lo ≤ hi) (h2 : hi ≤ xs.length) :
    Rd E w (.slice (midA a c lo k) ((xs.drop lo).take (hi - lo)).length (c - lo)) ((xs.drop lo).take (hi - lo)) := by
  have hs := h.sl
  obtain ⟨⟨a', c', hv, hn, h0, hsp⟩, hle⟩ := hs
  simp only [Value.slice.injEq] at hv
  obtain ⟨rfl, rfl, rfl⟩ := hv
  have hlen : ((xs.drop lo).take (hi - lo)).length = hi - lo := by simp; omega
  have hA : ∀ A, midA a c lo k = some A → hi - lo ≠ 0 → A.spot = none := by
    intro A hA hz
    unfold midA at hA
    rw [if_neg (by omega)] at hA
    cases a with
    | none => cases hA
    | some B =>
      have := hsp B rfl (by omega)
      simp only [Option.map_some, Option.some.injEq] at hA
      subst hA
      unfold Addr.add
      split
      · exact this
      · rfl
  refine ⟨⟨⟨_, _, rfl, by rw [hlen]; omega, fun hm => ?_, fun A hA' hz => hA A hA' (by rw [hlen] at hz; exact hz)⟩, by rw [hlen]; omega⟩, fun j u hu => ?_⟩
  · unfold midA at hm
    split at hm
    · have := h0 hm; omega
    · cases a with
      | none => have := h0 rfl; omega
      | some B => cases hm
  · have hne : hi - lo ≠ 0 := by
      intro e
      rw [e, List.take_zero] at hu
      simp [flat] at hu
    have hg := h.get (lo * k + j) u (flat_mid E xs lo (hi - lo) hu)
    have e : ea (.slice (midA a c lo k) ((xs.drop lo).take (hi - lo)).length (c - lo)) j = ea (.slice a xs.length c) (lo * k + j) := by
      unfold midA
      rw [if_neg (by omega)]
      cases a with
      | none => have := h0 rfl; omega
      | some B =>
        simp only [ea, sblk, soff, Option.map_some, oblk, ooff]
        unfold Addr.add
        split
        · rename_i hz; rw [hz, Nat.zero_add]
        · simp only [Nat.add_assoc]
    rw [e]
    exact hg
end Go.HL
namespace Go.Proofs.YtmompllplidphaaDoor
open Go Go.HL Go.Proofs Go.HL.Kl Go.HL.Kl.Mc Go.HL.Sts
theorem set_a : (Ec 0#256).set 1 (.int .u64 8589934592) = Ec (bit 97) := by kernel_rfl
theorem set_b : (Ec 0#256).set 1 (.int .u64 17179869184) = Ec (bit 98) := by kernel_rfl
theorem DfO.rdD {d : Df} {na : Option Addr} {nc : Nat} {rows : List (Sl Int)} {ea : Option Addr} {ec : Nat} {aa : Option Addr} {ac : Nat} {Sn Sq Se Sa H : Hp} {w0 w : World} {M : List Nat} (hR : OwnS Esl 1 46 (.slice na rows.length nc) rows Sn) (hQ : OwnL Ei 1 3 rows d.next Sq) (hx : d.next = rows.map Sl.xs) (hE : OwnS Ebo 1 4 (.slice ea d.ends.length ec) d.ends Se) (hA : OwnS Ec 4 54 (.slice aa d.atoms.length ac) d.atoms Sa)
    (h1 : HIn Sn H) (h2 : HIn Sq H) (h3 : HIn Se H) (h4 : HIn Sa H) (st : St w0 w M H) : RdD d aa ac na nc rows ea ec w :=
  ⟨(hA.rdk (κ := ⟨0, [], w0, M⟩) h4).out w st, (hR.rdk (κ := ⟨0, [], w0, M⟩) h1).out w st, fun _ hs => (ownL_rdk (κ := ⟨0, [], w0, M⟩) hQ hx h2 hs).out w st, (hE.rdk (κ := ⟨0, [], w0, M⟩) h3).out w st⟩
set_option maxHeartbeats 4000000 in
theorem lives_fn  : HL.Fn Tryd.prog 9 [] (Tb []) [] (fun v _ => v = .bool true) := by
  refine fn_of Tryd.func9 rfl rfl rfl fun w0 hw => ?_; refine cR fun _ hK1 => ?_; refine oA (oZ hK1 (cR fun _ hK2 => ?_)); refine o_alloc (l := Ec 0#256) (by rw [Ec_zero]; rfl) rfl fun b1 => ?_; refine o_alloc (l := Ec 0#256) (by rw [Ec_zero]; rfl) rfl fun b2 => ?_; refine oZ hK2 (cR fun _ hK3 => ?_); refine oS (s_indexA rfl rfl (by omega)) ?_; refine o_store rfl rfl rfl upA (by show _ < 4; omega) rfl ?_
  rw [show 0 + (1 : Int).toNat * 1 = 1 from rfl, set_a]
  refine oZ hK3 (cR fun _ hK4 => ?_); refine oS (s_indexA rfl rfl (by omega)) ?_; refine o_store rfl rfl rfl upA (by show _ < 4; omega) rfl ?_
  rw [show 0 + (1 : Int).toNat * 1 = 1 from rfl, set_b]
  refine oZ hK4 (cR fun _ hK5 => ?_); refine oS (step_cast (v' := .agg (En ctN).toArray) (s_build (cs := [_, _, _, _, _, _, _, _, _]) (vs := [_, _]) rfl rfl (.cons rfl rfl rfl rfl rfl (.cons rfl rfl rfl rfl rfl (.nil)))) (by kernel_rfl)) ?_; refine oS (step_cast (v' := .agg (En stN).toArray) (s_build (cs := [_, _, _, _, _, _, _, _, _]) (vs := [_, _, _]) rfl rfl (.cons rfl rfl rfl rfl rfl (.cons rfl rfl rfl rfl rfl (.cons rfl rfl rfl rfl rfl (.nil))))) (by kernel_rfl)) ?_; refine oS (s_ldB rfl (RdPK.cels (.own meA)) lnA) ?_; refine oS (step_cast (v' := .agg (En (ltN 97)).toArray) (s_build (cs := [_, _, _, _, _, _, _, _, _]) (vs := [_, _]) rfl rfl (.cons rfl rfl rfl rfl rfl (.cons rfl rfl rfl rfl rfl (.nil)))) (by kernel_rfl)) ?_; refine oS (s_ldB rfl (RdPK.cels (.own meA)) lnA) ?_; refine oS (step_cast (v' := .agg (En (ltN 98)).toArray) (s_build (cs := [_, _, _, _, _, _, _, _, _]) (vs := [_, _]) rfl rfl (.cons rfl rfl rfl rfl rfl (.cons rfl rfl rfl rfl rfl (.nil)))) (by kernel_rfl)) ?_; refine o_bs (E := En) (xs := [ctN, stN, ltN 97, ltN 98]) (vs := [_, _, _, _]) rfl rfl rfl rfl rfl (by decide) (by decide) fun b18 S18 hS18 => ?_; refine oA (oZ hK5 (cR fun _ hK6 => ?_)); refine oM ?_; refine o_call (make_fn (some ⟨b18, 0, none⟩) 4 reA rngA) rfl rfl rfl (by exact .nil) (fun w st => ⟨(hS18.rdk hiA).out w st, tb_of hw st HSub.nil⟩) (fun v21 S21 hM1 => ?_)
  rcases hM1 with ⟨he, _⟩ | ⟨hd, hv, ho⟩
  ·exact absurd he err_A
  obtain rfl := ok_A hd
  obtain ⟨na1, nc1, rows1, ea1, ec1, aa1, ac1, Sn1, Sq1, Se1, Sa1, rfl, rfl, hR1, hQ1, hx1, hE1, hA1⟩ := ho
  subst hv; refine oM ?_; refine oS sE ?_; refine oS sE ?_; refine o_alloc rfl rfl fun b4 => ?_; refine o_stW rfl rfl upA lnA lnA onA ?_; refine oA (oZ hK6 (cR fun _ hK7 => ?_)); refine oM ?_; refine oS (step_cast (v' := .slice (midA (some ⟨b18, 0, none⟩) 4 2 9) reB.length (4 - 2)) (s_slice_mid rfl rfl rfl (by omega)) rfl) ?_; refine o_call (make_fn (midA (some ⟨b18, 0, none⟩) 4 2 9) (4 - 2) reB rngB) rfl rfl rfl (by exact .nil) (fun w st => ⟨((hS18.rdk hiA).out w st).mid 2 3 (by decide) (by decide), tb_of hw st HSub.nil⟩) (fun v27 S27 hM2 => ?_)
  rcases hM2 with ⟨he, _⟩ | ⟨hd, hv, ho⟩
  ·exact absurd he err_B
  obtain rfl := ok_B hd
  obtain ⟨na2, nc2, rows2, ea2, ec2, aa2, ac2, Sn2, Sq2, Se2, Sa2, rfl, rfl, hR2, hQ2, hx2, hE2, hA2⟩ := ho
  subst hv; refine oM ?_; refine oS sE ?_; refine oS sE ?_; refine o_alloc rfl rfl fun b6 => ?_; refine o_stW rfl rfl upA lnA lnA onA ?_; refine oA (oZ hK7 (cR fun _ hK8 => ?_)); refine oS (s_ldB rfl (RdPK.cels (.own meA)) lnA) ?_; refine oS (s_ldB rfl (RdPK.cels (.own meA)) lnA) ?_; refine o_call (unlike2_fn dA aa1 ac1 na1 nc1 rows1 ea1 ec1 hx1 dB aa2 ac2 na2 nc2 rows2 ea2 ec2 hx2) rfl rfl rfl (by exact .nil) (fun w st => ⟨DfO.rdD hR1 hQ1 hx1 hE1 hA1 hiA hiA hiA hiA st, DfO.rdD hR2 hQ2 hx2 hE2 hA2 hiA hiA hiA hiA st, tb_of hw st HSub.nil⟩) (fun v33 S33 hU => ?_)
  rcases hU with ⟨hn, _⟩ | ⟨t, ua, uc, ht, hv, hUO⟩
  ·rw [unAB] at hn; cases hn
  rw [unAB] at ht
  obtain rfl := Option.some.inj ht
  subst hv; refine oM ?_; refine oS sE ?_; refine oS sE (oA (oA (oZ hK8 (cR fun _ hK9 => ?_)))); refine oM ?_; refine oS (step_cast (v' := .bool true) (s_eql rfl rfl) rfl) ?_; refine oM ?_; refine oY (oM ?_); refine oY ?_; refine oS (step_cast (v' := .bool true) (s_eql rfl rfl) rfl) ?_; refine oS sT (oM ?_); refine oY ?_; refine oS sF ?_; refine oY ?_; refine oS sL ?_; refine oY ?_; refine oS sC ?_; refine oY ?_; refine oS (step_cast (v' := .bool true) (s_eql rfl rfl) rfl) ?_; refine oS sT (oM ?_); refine oY ?_; refine oS (s_ldB rfl (RdPK.cels (.own meA)) lnA) ?_; refine oY ?_; refine o_bs (E := Eb) (xs := [97, 97, 98]) (vs := [_, _, _]) rfl rfl rfl rfl rfl (by decide) (by decide) fun b50 S50 hS50 => ?_; refine oY ?_; refine o_conv_same rfl hS50 pkA rfl fun S51 hS51 => ?_; refine oY ?_; refine o_callP (takes2_fn dA aa1 ac1 na1 nc1 rows1 ea1 ec1 hx1 (some ⟨b50, 0, none⟩) 3 [97, 97, 98]) rfl rfl rfl (fun w st => ⟨DfO.rdD hR1 hQ1 hx1 hE1 hA1 hiA hiA hiA hiA st, tb_of hw st HSub.nil, (hS51.rdk hiA).out w st⟩) (fun v52 hv52 => ?_)
  rw [tkA1] at hv52
  subst hv52; refine oS sT (oM ?_); refine oY ?_; refine oS (s_ldB rfl (RdPK.cels (.own meA)) lnA) ?_; refine oY ?_; refine o_bs (E := Eb) (xs := [97, 97]) (vs := [_, _]) rfl rfl rfl rfl rfl (by decide) (by decide) fun b56 S56 hS56 => ?_; refine oY ?_; refine o_conv_same rfl hS56 pkA rfl fun S57 hS57 => ?_; refine oY ?_; refine o_callP (takes2_fn dA aa1 ac1 na1 nc1 rows1 ea1 ec1 hx1 (some ⟨b56, 0, none⟩) 2 [97, 97]) rfl rfl rfl (fun w st => ⟨DfO.rdD hR1 hQ1 hx1 hE1 hA1 hiA hiA hiA hiA st, tb_of hw st HSub.nil, (hS57.rdk hiA).out w st⟩) (fun v58 hv58 => ?_)
  rw [tkA2] at hv58
  subst hv58; refine oY ?_; refine oS (s_not rfl) ?_; refine oS sT (oM ?_); refine oY (oM ?_); refine oS sT (oM ?_); refine oY (oM ?_); refine oY ?_; refine oS (s_b2str rfl (hUO.rdk hiA) rfl) ?_; refine oY ?_; refine oS (step_cast (v' := .bool true) (s_eql_str rfl rfl) rfl) ?_; refine oS sT (oA (oZ hK9 (c_ret ?_))); refine ?_; exact xR rfl rfl (rfl)
end Go.Proofs.YtmompllplidphaaDoor
namespace Go.HL.Sts
open Go Go.HL Go.HL.Kl Go.HL.Kl.Mc
def spZ (j : Nat) : Int := ((1048576 * 9 + j + 1 : Nat) : Int)
def spC (j : Nat) : Kl.Cl := BitVec.ofNat 256 ((1048576 * 9 + j + 1) + 7 * 2 ^ 64)
def spBo (j : Nat) : Bool := decide (IntKind.i64.wrap ((BitVec.ofInt IntKind.i64.bits (((1048576 * 9 + j + 1 : Nat) : Int).fdiv (2 ^ (min ((20 + j % 8 : Nat) : Int).toNat IntKind.i64.bits))) &&& BitVec.ofInt IntKind.i64.bits 1).toNat : Int) = 1)
end Go.HL.Sts
namespace Go.HL.Kl.Mc
open Go Go.HL Go.HL.Kl
theorem no_refs {re : List Nd} (hs : shapedB re = true) (hr : refsB re = false) : ∀ x ∈ re, ¬ x.op = 8 := fun x hx h8 => by rw [refs_yes hs hx h8] at hr; cases hr
end Go.HL.Kl.Mc
