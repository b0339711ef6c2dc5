/- Part of the proofs over this seat: see the text that holds the theorem. Conditions: each theorem bears its own. -/
import Derived.Test.YtmompllplidphaaDoorKQ8Z
import Derived.Test.YtmompllplidphaaDoorSC2Z
namespace Go.Proofs.YtmompllplidphaaDoor
open Go Go.HL Go.Proofs Go.HL.Kl Go.HL.Kl.Mc Go.HL.Sts
set_option maxHeartbeats 2000000 in
theorem wideO_fn (bx : Nat) (ra : Option Addr) (rc rc0 : Nat) (X : Plc) (S : Hp) (hP : PlS bx ra rc rc0 X S) (root : Pt) (aa : Option Addr) (ac : Nat) (atoms : List Kl.Cl) (hx : X.fol.length = X.sets.length) (hx20 : X.sets.length ≤ 20) (hal : atoms.length ≤ 256) : HL.Fn Tryd.prog 61 [.pointer (some ⟨bx, 0, none⟩), .agg (Ep4 (root)).toArray, .slice aa atoms.length ac] (fun w => Rd Ec w (.slice aa atoms.length ac) atoms ∧ Apart (keys S) (.slice aa atoms.length ac)) S (fun v S' => ∃ S2, HSub S' S2 ∧ ∃ (na : Option Addr) (nc : Nat) (rows : List (Sl Nat)) (ea : Option Addr) (ec : Nat) (Sn Se Sq : Hp), v = .agg [.slice na rows.length nc, .slice ea (wideM X root atoms).ends.length ec].toArray ∧ S2 = Sn ++ (Se ++ (Sq ++ S)) ∧ OwnS Esl 1 46 (.slice na rows.length nc) rows Sn ∧ OwnS Ebo 1 4 (.slice ea (wideM X root atoms).ends.length ec) (wideM X root atoms).ends Se ∧ OwnL Eix 1 3 rows (wideM X root atoms).next Sq ∧ (wideM X root atoms).next = rows.map Sl.xs ∧ (wideM X root atoms).met.Nodup ∧ (wideM X root atoms).next.length = (wideM X root atoms).met.length + 1 ∧ (wideM X root atoms).ends.length = (wideM X root atoms).met.length + 1) := by
  refine fn_of Tryd.func61 rfl rfl rfl fun w0 hw => ?_
  have hsl := hw.1.sl
  have hbl := hsl.le
  obtain ⟨sa, sc, fa, fc, Ss, Sf, rfl, hs, hf⟩ := hP
  have hss := hs.sl
  have hfs := hf.sl
  have hrl := rdsOf_len X.sets atoms
  refine c_seq fun _ hK1 => ?_
  refine c_region ?_
  refine o_box rfl rfl rfl fun b4 => ?_
  refine o_box rfl rfl rfl fun b5 => ?_
  refine o_alloc rfl rfl fun b6 => ?_
  refine o_nil ?_
  refine x_then (hK1 _ _ ?_)
  refine c_seq fun _ hK2 => ?_
  refine c_region ?_
  refine o_step rfl (s_ld rfl (.own meA rfl)) ?_
  refine o_step rfl (s_len rfl) ?_
  refine o_make (E := E3) (zx := (0 : Sp)) (n := atoms.length) rfl rfl rfl (by omega) (by omega) rfl fun b22 S22 hS22 => ?_
  rw [← filZ_nil] at hS22
  have hs22 := hS22.sl
  rw [filZ_len (Nat.zero_le _)] at hs22
  refine o_alloc rfl rfl fun b7 => ?_
  refine o_store rfl rfl rfl upA ltA rfl ?_
  refine o_nil ?_
  refine x_then (hK2 _ _ ?_)
  refine c_seq fun _ hK3 => ?_
  refine c_seq fun _ hK4 => ?_
  refine c_region ?_
  refine o_step rfl (s_ld rfl (.own meA rfl)) ?_
  refine o_step rfl (s_len rfl) ?_
  refine o_step rfl (s_move rfl) ?_
  refine o_nil ?_
  refine x_then (hK4 _ _ ?_)
  refine c_block ?_
  refine c_loop2 (fun (k : Nat) (Sr : Hp) => k ≤ atoms.length ∧ OwnS E3 3 84 (.slice (some ⟨b22, 0, none⟩) atoms.length atoms.length) (filZ 0 ((rdsOf X.sets atoms).take k) atoms.length) Sr) (fun (k : Nat) (Sr : Hp) => [(25, .int .i64 k)]) [(0, _), (4, _), (5, _), (6, _), (7, _), (23, _), (24, _)] (fun (k : Nat) (Sr : Hp) => (b7, .cells [.slice (some ⟨b22, 0, none⟩) atoms.length atoms.length].toArray 78 (0, 0)) :: (b5, .cells [.slice aa atoms.length ac].toArray 22 (0, 0)) :: (b4, .cells (Ep4 (root)).toArray 87 (0, 0)) :: (b6, .cells [.slice none 0 0, .slice none 0 0].toArray 91 (0, 0)) :: (Sr ++ ((bx, .cells [.slice ra rc0 rc, .slice sa X.sets.length sc, .slice fa X.fol.length fc].toArray 80 (0, 0)) :: (Sf ++ Ss)))) (fun (k : Nat) (Sr : Hp) => atoms.length - k) 0 S22 ⟨Nat.zero_le _, hS22⟩ sbA sbA hzB ?_
  rintro k Sr ⟨hk, hR⟩
  refine c_seq fun _ hK5 => ?_
  refine c_region ?_
  refine o_step rfl (s_lss rfl rfl) ?_
  refine o_nil ?_
  refine x_then (hK5 _ _ ?_)
  refine c_seq fun _ hK6 => ?_
  refine c_if rfl (fun hlt => ?_) (fun hlt => ?_)
  ·
   obtain ⟨a, hak⟩ : ∃ a, atoms[k]? = some a := ⟨_, List.getElem?_eq_getElem (by omega)⟩
   have htk := take_len (l := (rdsOf X.sets atoms)) (k := k) (by omega)
   refine c_skip ?_
   refine x_then (hK6 _ _ ?_)
   refine c_seq fun _ hK7 => ?_
   refine c_block ?_
   refine c_seq fun _ hK8 => ?_
   refine c_region ?_
   refine o_step rfl (s_move rfl) ?_
   refine o_step rfl (s_idx rfl rfl hsl (by omega)) ?_
   refine o_step rfl (s_ldB rfl ((RdK.old (κ := ⟨_, [], w0, _⟩) hw.1 hw.2).lds k hak (by simp only [Int.toNat_natCast])) lnA) ?_
   refine o_alloc (l := Ec 0#256) (by rw [Ec_zero]; rfl) rfl fun b9 => ?_
   refine o_step rfl (s_assign rfl) ?_
   refine o_stW rfl rfl upA lnA lnA onA ?_
   refine o_nil ?_
   refine x_then (hK8 _ _ ?_)
   refine c_seq fun _ hK9 => ?_
   refine c_region ?_
   refine o_step rfl (s_move rfl) ?_
   refine o_step rfl (s_nil rfl) ?_
   refine o_step rfl (s_field rfl rfl (by decide)) ?_
   refine o_step rfl (s_ld rfl (.own meA rfl)) ?_
   refine o_step rfl (s_len rfl) ?_
   refine o_step rfl (s_move rfl) ?_
   refine o_nil ?_
   refine x_then (hK9 _ _ ?_)
   refine c_block ?_
   refine c_loop2 (fun (p : Nat) (Sr2 : Hp) => p ≤ X.sets.length ∧ OwnS E3 3 84 (.slice (some ⟨b22, 0, none⟩) atoms.length atoms.length) ((filZ 0 ((rdsOf X.sets atoms).take k) atoms.length).set k (rdTo X.sets a p)) Sr2) (fun (p : Nat) (Sr2 : Hp) => [(35, .int .i64 p)]) [(0, _), (4, _), (5, _), (6, _), (7, _), (8, _), (9, _), (23, _), (24, _), (25, _), (26, _), (27, _), (28, _), (29, _), (30, _), (31, _), (32, _), (33, _), (34, _)] (fun (p : Nat) (Sr2 : Hp) => (b9, .cells (Ec a).toArray 54 (0, 0)) :: (b7, .cells [.slice (some ⟨b22, 0, none⟩) atoms.length atoms.length].toArray 78 (0, 0)) :: (b5, .cells [.slice aa atoms.length ac].toArray 22 (0, 0)) :: (b4, .cells (Ep4 (root)).toArray 87 (0, 0)) :: (b6, .cells [.slice none 0 0, .slice none 0 0].toArray 91 (0, 0)) :: (Sr2 ++ ((bx, .cells [.slice ra rc0 rc, .slice sa X.sets.length sc, .slice fa X.fol.length fc].toArray 80 (0, 0)) :: (Sf ++ Ss)))) (fun (p : Nat) (Sr2 : Hp) => X.sets.length - p) 0 Sr ⟨Nat.zero_le _, by rw [show rdTo X.sets a 0 = 0 from rfl, filZ_set0 htk (by omega)]; exact hR⟩ sbA sbA hzB ?_
   rintro p Sr2 ⟨hp, hRp⟩
   refine c_seq fun _ hK10 => ?_
   refine c_region ?_
   refine o_step rfl (s_lss rfl rfl) ?_
   refine o_nil ?_
   refine x_then (hK10 _ _ ?_)
   refine c_seq fun _ hK11 => ?_
   refine c_if rfl (fun hlp => ?_) (fun hlp => ?_)
   ·
    obtain ⟨cp, hcp⟩ : ∃ c, X.sets[p]? = some c := ⟨_, List.getElem?_eq_getElem (by omega)⟩
    refine c_skip ?_
    refine x_then (hK11 _ _ ?_)
    refine c_seq fun _ hK12 => ?_
    refine c_block ?_
    refine c_seq fun _ hK13 => ?_
    refine c_region ?_
    refine o_step rfl (s_move rfl) ?_
    refine o_step rfl (s_idx rfl rfl hss (by omega)) ?_
    refine o_step rfl (s_ldB rfl ((hs.rdk hiA).lds p hcp (by simp only [Int.toNat_natCast])) lnA) ?_
    refine o_alloc (l := Ec 0#256) (by rw [Ec_zero]; rfl) rfl fun b11 => ?_
    refine o_step rfl (s_assign rfl) ?_
    refine o_stW rfl rfl upA lnA lnA onA ?_
    refine o_nil ?_
    refine x_then (hK13 _ _ ?_)
    refine c_seq fun _ hK14 => ?_
    refine c_region ?_
    refine o_step rfl (s_ldB rfl (RdPK.cels (.own meA)) lnA) ?_
    refine o_step rfl (s_ldB rfl (RdPK.cels (.own meA)) lnA) ?_
    refine o_callP (and_fn cp a) rfl rfl rfl (fun _ _ => trivial) (fun v42 hv42 => ?_)
    subst hv42
    refine o_step rfl (s_build0 rfl) ?_
    by_cases hne : cp &&& a ≠ 0#256
    ·
     refine o_step rfl (step_cast (v' := .bool true) (s_neq_cl (c := cp &&& a) (d := 0#256) rfl (by rw [Ec_zero]; rfl)) (congrArg Value.bool (decide_eq_true hne))) ?_
     refine o_nil ?_
     refine x_then (hK14 _ _ ?_)
     refine c_true rfl ?_
     refine c_drawE ((b11, .cells (Ec cp).toArray 54 (0, 0)) :: (b9, .cells (Ec a).toArray 54 (0, 0)) :: (b7, .cells [.slice (some ⟨b22, 0, none⟩) atoms.length atoms.length].toArray 78 (0, 0)) :: (b5, .cells [.slice aa atoms.length ac].toArray 22 (0, 0)) :: (b4, .cells (Ep4 (root)).toArray 87 (0, 0)) :: (b6, .cells [.slice none 0 0, .slice none 0 0].toArray 91 (0, 0)) :: (Sr2 ++ ((bx, .cells [.slice ra rc0 rc, .slice sa X.sets.length sc, .slice fa X.fol.length fc].toArray 80 (0, 0)) :: (Sf ++ Ss)))) (fun i => Nat.beq i 9) ?_
     refine e_take 0 rfl (by kernel_rfl) (by kernel_rfl) (by kernel_rfl) (by kernel_rfl) (fun _ _ => rfl) rfl hzB (s_ld rfl (.own meA rfl)) ?_
     refine e_pure 1 rfl (by kernel_rfl) (by kernel_rfl) (by kernel_rfl) rfl (s_move rfl) ?_
     refine e_take 2 rfl (by kernel_rfl) (by kernel_rfl) (by kernel_rfl) (by kernel_rfl) (fun _ _ => rfl) rfl hzB (s_ld rfl (.own meA rfl)) ?_
     refine e_pure 3 rfl (by kernel_rfl) (by kernel_rfl) (by kernel_rfl) rfl (s_move rfl) ?_
     refine e_pure 4 rfl (by kernel_rfl) (by kernel_rfl) (by kernel_rfl) rfl (s_idx rfl rfl hs22 (by omega)) ?_
     refine e_take 5 rfl (by kernel_rfl) (by kernel_rfl) (by kernel_rfl) (by kernel_rfl) (fun _ _ => rfl) rfl hzB (s_ldB rfl ((hRp.rdk hiA).lds k (filZ_get htk (by omega)) (by simp only [Int.toNat_natCast])) lnA) ?_
     refine e_pure 6 rfl (by kernel_rfl) (by kernel_rfl) (by kernel_rfl) rfl (s_move rfl) ?_
     refine e_one 7 rfl (by kernel_rfl) ?_
     refine o_callP (with_fn (rdTo X.sets a p) p (by omega)) rfl rfl rfl (fun _ _ => trivial) (fun v52 hv52 => ?_)
     subst hv52
     refine o_nil ?_
     refine x_oneS hzB ?_
     refine e_pure 8 rfl (by kernel_rfl) (by kernel_rfl) (by kernel_rfl) rfl (s_idx rfl rfl hs22 (by omega)) ?_
     refine e_one 9 rfl (by kernel_rfl) ?_
     refine o_stSE k (rdTo X.sets a p ||| pit p) hRp pkA rfl rfl (by rw [List.length_set, filZ_len (by omega)]; omega) (by simp only [Int.toNat_natCast]) fun S53 hS53 => ?_
     rw [List.set_set] at hS53
     refine o_nil ?_
     refine x_oneL rfl ?_
     refine e_done (by kernel_rfl) ?_
     refine x_block ?_
     refine x_then (hK12 _ _ ?_)
     refine c_region ?_
     refine o_step rfl (s_add rfl rfl (by omega)) ?_
     refine o_step rfl (s_move rfl) ?_
     refine o_nil ?_
     exact x_then (x_inv (p + 1, _) ⟨by omega, by rw [rdTo_yes hcp hne]; exact hS53⟩ (by first | omega | (dsimp only; omega)) sbA hzB)
    ·
     refine o_step rfl (step_cast (v' := .bool false) (s_neq_cl (c := cp &&& a) (d := 0#256) rfl (by rw [Ec_zero]; rfl)) (congrArg Value.bool (decide_eq_false hne))) ?_
     refine o_nil ?_
     refine x_then (hK14 _ _ ?_)
     refine c_false rfl ?_
     refine c_skip ?_
     refine x_block ?_
     refine x_then (hK12 _ _ ?_)
     refine c_region ?_
     refine o_step rfl (s_add rfl rfl (by omega)) ?_
     refine o_step rfl (s_move rfl) ?_
     refine o_nil ?_
     exact x_then (x_inv (p + 1, _) ⟨by omega, by rw [rdTo_no hcp hne]; exact hRp⟩ (by first | omega | (dsimp only; omega)) sbA hzB)
   ·
    obtain rfl : p = X.sets.length := by omega
    rw [filZ_set htk (by omega)] at hRp
    refine c_exit ?_
    refine x_then_exit ?_
    refine x_then_exit ?_
    refine x_block_exit ?_
    refine x_block ?_
    refine x_then (hK7 _ _ ?_)
    refine c_region ?_
    refine o_step rfl (s_add rfl rfl (by omega)) ?_
    refine o_step rfl (s_move rfl) ?_
    refine o_nil ?_
    exact x_then (x_inv (k + 1, _) ⟨by omega, by rw [take_succ_get (rdsOf_get hak)]; exact hRp⟩ (by first | omega | (dsimp only; omega)) sbA hzB)
  ·
   obtain rfl : k = atoms.length := by omega
   have hT : (rdsOf X.sets atoms).take atoms.length = (rdsOf X.sets atoms) := by rw [← hrl, List.take_length]
   rw [hT, filZ_full hrl] at hR
   refine c_exit ?_
   refine x_then_exit ?_
   refine x_then_exit ?_
   refine x_block_exit ?_
   refine x_then (hK3 _ _ ?_)
   refine c_seq fun _ hK15 => ?_
   refine c_region ?_
   refine o_alloc rfl rfl fun b12 => ?_
   refine o_nil ?_
   refine x_then (hK15 _ _ ?_)
   refine c_seq fun _ hK16 => ?_
   refine c_region ?_
   refine o_mmap2 (Ek := EkS) rfl fun b56 => ?_
   refine o_alloc rfl rfl fun b13 => ?_
   refine o_store rfl rfl rfl upA ltA rfl ?_
   refine o_nil ?_
   refine x_then (hK16 _ _ ?_)
   refine c_seq fun _ hK17 => ?_
   refine c_region ?_
   refine o_alloc rfl rfl fun b14 => ?_
   refine o_nil ?_
   refine x_then (hK17 _ _ ?_)
   refine c_seq fun _ hK18 => ?_
   refine c_region ?_
   refine o_step rfl (s_func (us := []) (vs := [_, _]) rfl rfl) ?_
   refine o_alloc rfl rfl fun b15 => ?_
   refine o_store rfl rfl rfl upA ltA rfl ?_
   refine o_nil ?_
   refine x_then (hK18 _ _ ?_)
   refine c_seq fun _ hK19 => ?_
   have hSt00 : StS b13 b14 [] [(b13, .cells [.map (some b56)].toArray 132 (0, 0)), (b56, mxO EkS [] 0), (b14, .cells [.slice none 0 0].toArray 78 (0, 0))] := ⟨b56, [], 0, none, 0, [], rfl, OwnS.nil, List.nodup_nil, fun s => rfl⟩
   have hW00 : WdS b12 [] [] [(b12, .cells [.slice none 0 0, .slice none 0 0].toArray 91 (0, 0))] := ⟨none, 0, [], none, 0, [], [], [], rfl, OwnS.nil, OwnS.nil, .nil, rfl⟩
   refine c_region ?_
   refine o_step rfl (s_func (us := []) (vs := [_, _, _, _]) rfl rfl) ?_
   refine o_step rfl (s_assign rfl) ?_
   refine o_nil ?_
   refine x_then (hK19 _ _ ?_)
   refine c_seq fun _ hK20 => ?_
   refine c_region ?_
   refine o_step rfl (s_move rfl) ?_
   refine o_step rfl (s_field rfl rfl (by decide)) ?_
   refine o_step rfl (s_indexA rfl rfl (by omega)) ?_
   refine o_step rfl (s_ldB rfl ((RdPK.cels (RdPK.own' meA (Ep4_F (i := 1) (by omega) (by omega))))) lnA) ?_
   refine o_step rfl (s_field rfl rfl (by decide)) ?_
   refine o_step rfl (s_indexA rfl rfl (by omega)) ?_
   refine o_step rfl (s_indexA rfl rfl (by omega)) ?_
   refine o_step rfl (s_ld rfl (.own meA (Ep4_N (i := 1) (k := 1) (by omega) (by omega) (by omega)))) ?_
   refine o_callC (us := []) (vs := [_, _]) (cs := [.pointer (some ⟨b5, 0, none⟩), .pointer (some ⟨b7, 0, none⟩), .pointer (some ⟨b15, 0, none⟩), .pointer (some ⟨b12, 0, none⟩)]) (row_fn b5 b7 b12 b13 b14 b15 aa atoms.length ac (some ⟨b22, 0, none⟩) atoms.length atoms.length (rdsOf X.sets atoms) Sr hR hrl.symm hrl.symm (by omega) [] _ hSt00 [] [] _ hW00 (by simp) (by simp) (getF root 1) (getN root 1 1)) rfl rfl rfl ((Pick.takeC pkA (Pick.takeC pkA (Pick.takeC pkA (Pick.takeA pkA (Pick.takeA pkA (Pick.takeC pkA (Pick.takeC pkA pkA)))))))) (fun _ _ => trivial) (fun v67 S67 ⟨SS0, SW0, hS67, hSt0, hW0⟩ => ?_)
   subst hS67
   refine o_nil ?_
   refine x_then (hK20 _ _ ?_)
   refine c_seq fun _ hK21 => ?_
   refine c_seq fun _ hK22 => ?_
   refine c_region ?_
   refine o_step rfl (s_assign rfl) ?_
   refine o_nil ?_
   refine x_then (hK22 _ _ ?_)
   refine c_block ?_
   refine c_loop4 (fun (q : Nat) (W : Wd) (SW : Hp) (SS : Hp) => wdRun X.fol (rdsOf X.sets atoms) root.l1 (full - q) q W = wideM X root atoms ∧ q ≤ full ∧ StS b13 b14 W.met SS ∧ WdS b12 W.next W.ends SW ∧ W.next.length = q + 1 ∧ W.ends.length = q + 1 ∧ q ≤ W.met.length) (fun (q : Nat) (W : Wd) (SW : Hp) (SS : Hp) => [(17, .int .i64 q)]) [(0, _), (4, _), (6, _), (12, _), (14, _), (16, _)] (fun (q : Nat) (W : Wd) (SW : Hp) (SS : Hp) => (b15, .cells [.func (.func 88) [].toArray [.pointer (some ⟨b13, 0, none⟩), .pointer (some ⟨b14, 0, none⟩)].toArray].toArray 133 (0, 0)) :: (b7, .cells [.slice (some ⟨b22, 0, none⟩) atoms.length atoms.length].toArray 78 (0, 0)) :: (b5, .cells [.slice aa atoms.length ac].toArray 22 (0, 0)) :: (b4, .cells (Ep4 (root)).toArray 87 (0, 0)) :: (b6, .cells [.slice none 0 0, .slice none 0 0].toArray 91 (0, 0)) :: (Sr ++ (SW ++ (SS ++ ((bx, .cells [.slice ra rc0 rc, .slice sa X.sets.length sc, .slice fa X.fol.length fc].toArray 80 (0, 0)) :: (Sf ++ Ss)))))) (fun (q : Nat) (W : Wd) (SW : Hp) (SS : Hp) => full - q) 0 (wdInit (rdsOf X.sets atoms) root) SW0 SS0 ⟨rfl, Nat.zero_le _, hSt0, hW0, rfl, rfl, Nat.zero_le _⟩ sbA sbA hzB ?_
   rintro q W SW SS ⟨hrun, hqf, hSt, hW, hnl, hel, hqm⟩
   have hql := sets_len hSt.choose_spec.choose_spec.choose_spec.choose_spec.choose_spec.choose_spec.2.2.1
   obtain ⟨bm, es, c, ma, mc, Sm, rfl, hO, hnd, hg⟩ := hSt
   have hms := hO.sl
   refine c_seq fun _ hK23 => ?_
   refine c_seq fun _ hK24 => ?_
   refine c_region ?_
   refine o_step rfl (s_move rfl) ?_
   refine o_step rfl (s_ld rfl (.own meA rfl)) ?_
   refine o_step rfl (s_len rfl) ?_
   refine o_step rfl (s_lss rfl rfl) ?_
   refine o_nil ?_
   refine x_then (hK24 _ _ ?_)
   refine c_if rfl (fun hlq => ?_) (fun hlq => ?_)
   ·
    obtain ⟨s, hsq⟩ : ∃ s, W.met[q]? = some s := ⟨_, List.getElem?_eq_getElem (by omega)⟩
    have hstep := wdRun_step (fol := X.fol) (rds := (rdsOf X.sets atoms)) (l1 := root.l1) (f := full - q) (q := q) (w := W) (by omega) hnd (by omega)
    rw [show full - q - 1 = full - (q + 1) by omega] at hstep
    have hst : wdStep X.fol (rdsOf X.sets atoms) root.l1 q W = (⟨(rowT (rdsOf X.sets atoms) (folTo X.fol s X.fol.length) W.met).2, W.next ++ [(rowT (rdsOf X.sets atoms) (folTo X.fol s X.fol.length) W.met).1], W.ends ++ [decide (s &&& getL root 1 ≠ 0)]⟩ : Wd) := by simp only [wdStep, Wd.row, hsq, Option.getD_some]; rfl
    rw [hst] at hstep
    have hmono := rowT_mono (folTo X.fol s X.fol.length) (rdsOf X.sets atoms) W.met
    refine c_skip ?_
    refine x_then (hK23 _ _ ?_)
    refine c_seq fun _ hK25 => ?_
    refine c_block ?_
    refine c_seq fun _ hK26 => ?_
    refine c_region ?_
    refine o_alloc (l := E3 0) (by rfl) rfl fun b18 => ?_
    refine o_nil ?_
    refine x_then (hK26 _ _ ?_)
    refine c_seq fun _ hK27 => ?_
    refine c_seq fun _ hK28 => ?_
    refine c_region ?_
    refine o_step rfl (s_move rfl) ?_
    refine o_step rfl (s_nil rfl) ?_
    refine o_step rfl (s_field rfl rfl (by decide)) ?_
    refine o_step rfl (s_ld rfl (.own meA rfl)) ?_
    refine o_step rfl (s_len rfl) ?_
    refine o_step rfl (s_move rfl) ?_
    refine o_nil ?_
    refine x_then (hK28 _ _ ?_)
    refine c_block ?_
    refine c_loopB (fun (p : Nat) => p ≤ X.fol.length) (fun (p : Nat) => [(79, .int .i64 p)]) [(0, _), (4, _), (6, _), (12, _), (14, _), (16, _), (17, _), (18, _), (68, _), (69, _), (70, _), (71, _), (74, _), (75, _), (76, _), (77, _), (78, _)] (fun (p : Nat) => (b18, .cells (E3 (folTo X.fol s p)).toArray 84 (0, 0)) :: (b13, .cells [.map (some bm)].toArray 132 (0, 0)) :: (bm, mxO EkS es c) :: (b14, .cells [.slice ma (W.met).length mc].toArray 78 (0, 0)) :: (Sm ++ ((b15, .cells [.func (.func 88) [].toArray [.pointer (some ⟨b13, 0, none⟩), .pointer (some ⟨b14, 0, none⟩)].toArray].toArray 133 (0, 0)) :: (b7, .cells [.slice (some ⟨b22, 0, none⟩) atoms.length atoms.length].toArray 78 (0, 0)) :: (b5, .cells [.slice aa atoms.length ac].toArray 22 (0, 0)) :: (b4, .cells (Ep4 (root)).toArray 87 (0, 0)) :: (b6, .cells [.slice none 0 0, .slice none 0 0].toArray 91 (0, 0)) :: (Sr ++ (SW ++ ((bx, .cells [.slice ra rc0 rc, .slice sa X.sets.length sc, .slice fa X.fol.length fc].toArray 80 (0, 0)) :: (Sf ++ Ss))))))) (fun (p : Nat) => X.fol.length - p) 0 (Nat.zero_le _) sbA sbA hzB ?_
    rintro p hp
    refine c_seq fun _ hK29 => ?_
    refine c_region ?_
    refine o_step rfl (s_lss rfl rfl) ?_
    refine o_nil ?_
    refine x_then (hK29 _ _ ?_)
    refine c_seq fun _ hK30 => ?_
    refine c_if rfl (fun hlf => ?_) (fun hlf => ?_)
    ·
     obtain ⟨fp, hfp⟩ : ∃ f, X.fol[p]? = some f := ⟨_, List.getElem?_eq_getElem (by omega)⟩
     refine c_skip ?_
     refine x_then (hK30 _ _ ?_)
     refine c_seq fun _ hK31 => ?_
     refine c_block ?_
     refine c_seq fun _ hK32 => ?_
     refine c_region ?_
     refine o_step rfl (s_move rfl) ?_
     refine o_step rfl (s_assign rfl) ?_
     refine o_nil ?_
     refine x_then (hK32 _ _ ?_)
     refine c_seq fun _ hK33 => ?_
     refine c_region ?_
     refine o_step rfl (s_ld rfl (.own meA rfl)) ?_
     refine o_step rfl (s_move rfl) ?_
     refine o_step rfl (s_idx rfl rfl hms (by omega)) ?_
     refine o_step rfl (s_ldB rfl ((hO.rdk hiA).lds q hsq (by simp only [Int.toNat_natCast])) lnA) ?_
     refine o_step rfl (s_move rfl) ?_
     refine o_callP (hasS_fn s p (by omega)) rfl rfl rfl (fun _ _ => trivial) (fun v87 hv87 => ?_)
     subst hv87
     cases hb : BitVec.getLsbD s p
     ·
      refine o_nil ?_
      refine x_then (hK33 _ _ ?_)
      refine c_false rfl ?_
      refine c_skip ?_
      refine x_block ?_
      refine x_then (hK31 _ _ ?_)
      refine c_region ?_
      refine o_step rfl (s_add rfl rfl (by omega)) ?_
      refine o_step rfl (s_move rfl) ?_
      refine o_nil ?_
      exact x_then (x_inv (p + 1) (by omega) (by first | omega | (dsimp only; omega)) sbA (by rw [folTo_no hb]; exact hzB))
     ·
      refine o_nil ?_
      refine x_then (hK33 _ _ ?_)
      refine c_true rfl ?_
      refine c_drawE ((b18, .cells (E3 (folTo X.fol s p)).toArray 84 (0, 0)) :: (Sf ++ [(bx, .cells [.slice ra rc0 rc, .slice sa X.sets.length sc, .slice fa X.fol.length fc].toArray 80 (0, 0)), (b14, .cells [.slice ma (W.met).length mc].toArray 78 (0, 0))])) (fun i => Nat.beq i 9) ?_
      refine e_take 0 rfl (by kernel_rfl) (by kernel_rfl) (by kernel_rfl) (by kernel_rfl) (fun _ _ => rfl) rfl hzB (s_ldB rfl (RdPK.cels (.own meA)) lnA) ?_
      refine e_pure 1 rfl (by kernel_rfl) (by kernel_rfl) (by kernel_rfl) rfl (s_move rfl) ?_
      refine e_pure 2 rfl (by kernel_rfl) (by kernel_rfl) (by kernel_rfl) rfl (s_nil rfl) ?_
      refine e_pure 3 rfl (by kernel_rfl) (by kernel_rfl) (by kernel_rfl) rfl (s_field rfl rfl (by decide)) ?_
      refine e_take 4 rfl (by kernel_rfl) (by kernel_rfl) (by kernel_rfl) (by kernel_rfl) (fun _ _ => rfl) rfl hzB (s_ld rfl (.own meA rfl)) ?_
      refine e_pure 5 rfl (by kernel_rfl) (by kernel_rfl) (by kernel_rfl) rfl (s_move rfl) ?_
      refine e_pure 6 rfl (by kernel_rfl) (by kernel_rfl) (by kernel_rfl) rfl (s_idx rfl rfl hfs (by omega)) ?_
      refine e_take 7 rfl (by kernel_rfl) (by kernel_rfl) (by kernel_rfl) (by kernel_rfl) (fun _ _ => rfl) rfl hzB (s_ldB rfl ((hf.rdk hiA).lds p hfp (by simp only [Int.toNat_natCast])) lnA) ?_
      refine e_one 8 rfl (by kernel_rfl) ?_
      refine o_callP (orS_fn (folTo X.fol s p) fp) rfl rfl rfl (fun _ _ => trivial) (fun v96 hv96 => ?_)
      rw [← folTo_yes hfp hb] at hv96
      subst hv96
      refine o_nil ?_
      refine x_oneS hzB ?_
      refine e_one 9 rfl (by kernel_rfl) ?_
      refine o_stW rfl rfl upA lnA lnA onA ?_
      refine o_nil ?_
      refine x_oneL rfl ?_
      refine e_done (by kernel_rfl) ?_
      refine x_block ?_
      refine x_then (hK31 _ _ ?_)
      refine c_region ?_
      refine o_step rfl (s_add rfl rfl (by omega)) ?_
      refine o_step rfl (s_move rfl) ?_
      refine o_nil ?_
      exact x_then (x_inv (p + 1) (by omega) (by first | omega | (dsimp only; omega)) sbA hzB)
    ·
     obtain rfl : p = X.fol.length := by omega
     refine c_exit ?_
     refine x_then_exit ?_
     refine x_then_exit ?_
     refine x_block_exit ?_
     refine x_then (hK27 _ _ ?_)
     refine c_drawE ((b18, .cells (E3 (folTo X.fol s X.fol.length)).toArray 84 (0, 0)) :: (b4, .cells (Ep4 (root)).toArray 87 (0, 0)) :: (b14, .cells [.slice ma (W.met).length mc].toArray 78 (0, 0)) :: Sm) (fun i => Nat.beq i 10) ?_
     refine e_pure 0 rfl (by kernel_rfl) (by kernel_rfl) (by kernel_rfl) rfl (s_move rfl) ?_
     refine e_takeT 1 rfl (by kernel_rfl) (by kernel_rfl) (by kernel_rfl) 40 (by kernel_rfl) (by kernel_rfl) (fun _ _ => rfl) rfl hzB (s_ldB rfl (RdPK.cels (.own meA)) lnA) ?_
     refine e_takeT 2 rfl (by kernel_rfl) (by kernel_rfl) (by kernel_rfl) 40 (by kernel_rfl) (by kernel_rfl) (fun _ _ => rfl) rfl hzB (s_ld rfl (.own meA rfl)) ?_
     refine e_pure 3 rfl (by kernel_rfl) (by kernel_rfl) (by kernel_rfl) rfl (s_move rfl) ?_
     refine e_pure 4 rfl (by kernel_rfl) (by kernel_rfl) (by kernel_rfl) rfl (s_idx rfl rfl hms (by omega)) ?_
     refine e_takeT 5 rfl (by kernel_rfl) (by kernel_rfl) (by kernel_rfl) 40 (by kernel_rfl) (by kernel_rfl) (fun _ _ => rfl) rfl hzB (s_ldB rfl ((hO.rdk hiA).lds q hsq (by simp only [Int.toNat_natCast])) lnA) ?_
     refine e_pure 6 rfl (by kernel_rfl) (by kernel_rfl) (by kernel_rfl) rfl (s_field rfl rfl (by decide)) ?_
     refine e_pure 7 rfl (by kernel_rfl) (by kernel_rfl) (by kernel_rfl) rfl (s_indexA rfl rfl (by omega)) ?_
     refine e_takeT 8 rfl (by kernel_rfl) (by kernel_rfl) (by kernel_rfl) 40 (by kernel_rfl) (by kernel_rfl) (fun _ _ => rfl) rfl hzB (s_ldB rfl ((RdPK.cels (RdPK.own' meA (Ep4_L (i := 1) (by omega) (by omega))))) lnA) ?_
     refine e_one 9 rfl (by kernel_rfl) ?_
     refine o_callP (meets_fn s (getL root 1)) rfl rfl rfl (fun _ _ => trivial) (fun v107 hv107 => ?_)
     subst hv107
     refine o_nil ?_
     refine x_oneS hzB ?_
     refine e_one 10 rfl (by kernel_rfl) ?_
     refine o_callC (us := []) (vs := [_, _]) (cs := [.pointer (some ⟨b5, 0, none⟩), .pointer (some ⟨b7, 0, none⟩), .pointer (some ⟨b15, 0, none⟩), .pointer (some ⟨b12, 0, none⟩)]) (row_fn b5 b7 b12 b13 b14 b15 aa atoms.length ac (some ⟨b22, 0, none⟩) atoms.length atoms.length (rdsOf X.sets atoms) Sr hR hrl.symm hrl.symm (by omega) W.met _ ⟨bm, es, c, ma, mc, Sm, rfl, hO, hnd, hg⟩ W.next W.ends SW hW (by omega) (by omega) (folTo X.fol s X.fol.length) (decide (s &&& getL root 1 ≠ 0))) rfl rfl rfl ((Pick.takeC pkA (Pick.takeC pkA (Pick.takeC pkA (Pick.takeA pkA (Pick.takeA pkA (Pick.takeC pkA (Pick.takeC pkA (Pick.takeC pkA pkA))))))))) (fun _ _ => trivial) (fun v108 S108 ⟨SS9, SW9, hS108, hSt9, hW9⟩ => ?_)
     subst hS108
     refine o_nil ?_
     refine x_oneL rfl ?_
     refine e_done (by kernel_rfl) ?_
     refine x_block ?_
     refine x_then (hK25 _ _ ?_)
     refine c_region ?_
     refine o_step rfl (s_move rfl) ?_
     refine o_step rfl (s_add rfl rfl (by omega)) ?_
     refine o_step rfl (s_assign rfl) ?_
     refine o_nil ?_
     exact x_then (x_inv (q + 1, (⟨(rowT (rdsOf X.sets atoms) (folTo X.fol s X.fol.length) W.met).2, W.next ++ [(rowT (rdsOf X.sets atoms) (folTo X.fol s X.fol.length) W.met).1], W.ends ++ [decide (s &&& getL root 1 ≠ 0)]⟩ : Wd), SW9, SS9) ⟨by rw [← hrun, hstep.1], by omega, hSt9, hW9, by simp [hnl], by simp [hel], by dsimp only; omega⟩ (by first | omega | (dsimp only; omega)) sbA hzB)
   ·
    have hWR := hrun.symm.trans (wdRun_end (by omega))
    have hqe : q = W.met.length := by omega
    obtain ⟨na, nc, rows, ea, ec, Sn, Se, Sq, rfl, hn, he, hq, hnx⟩ := hW
    rw [hqe] at hnl hel
    subst hWR
    refine c_exit ?_
    refine x_then_exit ?_
    refine x_then_exit ?_
    refine x_block_exit ?_
    refine x_then (hK21 _ _ ?_)
    refine c_seq fun _ hK34 => ?_
    refine c_region ?_
    refine o_step rfl (s_ldB rfl (RdPK.cels (.own meA)) lnA) ?_
    refine o_stW rfl rfl upA lnA lnA onA ?_
    refine o_nil ?_
    refine x_then (hK34 _ _ ?_)
    refine c_ret ?_
    refine ?_
    exact x_ret rfl (.agg inferInstance inferInstance rfl (RdPK.cels (.own meA)) lnA (.nil)) (⟨Sn ++ (Se ++ (Sq ++ ((bx, .cells [.slice ra rc0 rc, .slice sa X.sets.length sc, .slice fa X.fol.length fc].toArray 80 (0, 0)) :: (Sf ++ Ss)))), by exact hzB, na, nc, rows, ea, ec, Sn, Se, Sq, rfl, rfl, hn, he, hq, hnx, hnd, hnl, hel⟩)
set_option maxHeartbeats 2000000 in
theorem wide_fn (bx : Nat) (ra : Option Addr) (rc rc0 : Nat) (X : Plc) (S : Hp) (hP : PlS bx ra rc rc0 X S) (root : Pt) (aa : Option Addr) (ac : Nat) (atoms : List Kl.Cl) (hx : X.fol.length = X.sets.length) (hx20 : X.sets.length ≤ 20) (hal : atoms.length ≤ 256) : HL.Fn Tryd.prog 61 [.pointer (some ⟨bx, 0, none⟩), .agg (Ep4 (root)).toArray, .slice aa atoms.length ac] (fun w => Rd Ec w (.slice aa atoms.length ac) atoms ∧ Apart (keys S) (.slice aa atoms.length ac)) S (fun v S' => ∃ (na : Option Addr) (nc : Nat) (rows : List (Sl Nat)) (ea : Option Addr) (ec : Nat) (Sn Se Sq : Hp), v = .agg [.slice na rows.length nc, .slice ea (wideM X root atoms).ends.length ec].toArray ∧ S' = Sn ++ (Se ++ (Sq ++ S)) ∧ OwnS Esl 1 46 (.slice na rows.length nc) rows Sn ∧ OwnS Ebo 1 4 (.slice ea (wideM X root atoms).ends.length ec) (wideM X root atoms).ends Se ∧ OwnL Eix 1 3 rows (wideM X root atoms).next Sq ∧ (wideM X root atoms).next = rows.map Sl.xs ∧ (wideM X root atoms).met.Nodup ∧ (wideM X root atoms).next.length = (wideM X root atoms).met.length + 1 ∧ (wideM X root atoms).ends.length = (wideM X root atoms).met.length + 1) :=
  HL.Fn.sub (wideO_fn bx ra rc rc0 X S hP root aa ac atoms hx hx20 hal) fun v S' ⟨S2, h1, h2⟩ => ⟨S2, h1, h2⟩
end Go.Proofs.YtmompllplidphaaDoor
namespace Go.HL.Sts
open Go Go.HL Go.HL.Kl Go.HL.Kl.Mc
section
variable {α : Type} [DecidableEq α]
theorem idx_lt {s : α} : ∀ {l : List α}, s ∈ l → idx l s < l.length
  | x :: l, h => by
    unfold idx
    split
    · simp
    · rename_i hx
      have := idx_lt (l := l) ((List.mem_cons.1 h).resolve_left fun e => hx e.symm)
      simp; exact this
theorem idx_out {s : α} : ∀ {l : List α}, s ∉ l → idx l s = l.length
  | [], _ => rfl
  | x :: l, h => by
    unfold idx
    rw [if_neg (fun e => h (by simp [e])), idx_out (l := l) (fun e => h (List.mem_cons_of_mem _ e))]
    rfl
theorem idx_get {s : α} : ∀ {l : List α}, s ∈ l → l[idx l s]? = some s
  | x :: l, h => by
    unfold idx
    split
    · rename_i hx; simp [hx]
    · rename_i hx
      have := idx_get (l := l) ((List.mem_cons.1 h).resolve_left fun e => hx e.symm)
      simpa using this
theorem idx_app {s : α} (t : List α) : ∀ {l : List α}, s ∈ l → idx (l ++ t) s = idx l s
  | x :: l, h => by
    show (if x = s then 0 else idx (l ++ t) s + 1) = (if x = s then 0 else idx l s + 1)
    split
    · rfl
    · rename_i hx
      rw [idx_app t (l := l) ((List.mem_cons.1 h).resolve_left fun e => hx e.symm)]
theorem idx_end {s : α} (t : List α) : ∀ {l : List α}, s ∉ l → idx (l ++ s :: t) s = l.length
  | [], _ => by simp [idx]
  | x :: l, h => by
    show (if x = s then 0 else idx (l ++ s :: t) s + 1) = _
    rw [if_neg (fun e => h (by simp [e])), idx_end t (l := l) (fun e => h (List.mem_cons_of_mem _ e))]
    rfl
theorem idx_inj {x y : α} {l : List α} (hx : x ∈ l) (hy : y ∈ l) (h : idx l x = idx l y) : x = y := by
  have h1 := idx_get hx
  rw [h, idx_get hy] at h1
  exact (Option.some.inj h1).symm
theorem idx_at {x : α} : ∀ {l : List α} {i : Nat}, l.Nodup → l[i]? = some x → idx l x = i
  | y :: l, 0, _, h => by
    obtain rfl : y = x := by simpa using h
    simp [idx]
  | y :: l, i + 1, hn, h => by
    have h' : l[i]? = some x := by simpa using h
    have hne : y ≠ x := by
      rintro rfl
      exact (List.nodup_cons.1 hn).1 (List.mem_of_getElem? h')
    unfold idx
    rw [if_neg hne, idx_at (List.nodup_cons.1 hn).2 h']
theorem idx_addN (l : List α) (s : α) : idx (addN l s) s = idx l s := by
  unfold addN
  split
  · rfl
  · rename_i h
    rw [idx_end [] h, idx_out h]
theorem map_old {l : List α} {s : α} (h : s ∈ l) : addN l s = l := by simp [addN, h]
theorem map_new {l : List α} {s : α} (h : s ∉ l) : addN l s = l ++ [s] := by simp [addN, h]
/-- what a map of numbers holds -/
def numM (l : List α) (s : α) : Option Value := if s ∈ l then some (.int .i64 ((idx l s : Nat) : Int)) else none
theorem numM_in {l : List α} {s : α} (h : s ∈ l) : numM l s = some (.int .i64 ((idx l s : Nat) : Int)) := by simp [numM, h]
theorem numM_out {l : List α} {s : α} (h : s ∉ l) : numM l s = none := by simp [numM, h]
theorem map_add {l : List α} {s : α} (hs : s ∉ l) {g g' : α → Option Value} (h : ∀ j, g j = numM l j)
    (h' : ∀ j, g' j = if j = s then some (.int .i64 ((l.length : Nat) : Int)) else g j) : ∀ j, g' j = numM (addN l s) j := by
  intro j
  rw [h', map_new hs]
  by_cases hj : j = s
  · subst hj
    rw [if_pos rfl, numM_in (by simp), idx_end [] hs]
  · rw [if_neg hj, h]
    by_cases hm : j ∈ l
    · rw [numM_in hm, numM_in (by simp [hm]), idx_app _ hm]
    · rw [numM_out hm, numM_out (by simp [hm, hj])]
end
theorem ids_ref : ∀ (ps seen : List (Nat × Nat)), seen.Nodup → (idsT ps seen).2.Nodup ∧ (∃ t, (idsT ps seen).2 = seen ++ t) ∧ (∀ x, x ∈ (idsT ps seen).2 ↔ x ∈ seen ∨ x ∈ ps) ∧ (idsT ps seen).1 = ps.map (idx (idsT ps seen).2)
  | [], seen, h => ⟨h, ⟨[], by simp [idsT]⟩, by simp [idsT], rfl⟩
  | p :: ps, seen, h => by
    obtain ⟨h1, ⟨t, h2⟩, h3, h4⟩ := ids_ref ps (addN seen p) (add_nodup h p)
    obtain ⟨u, hu⟩ := add_pre seen p
    refine ⟨h1, ⟨u ++ t, by show (idsT ps (addN seen p)).2 = _; rw [h2, hu, List.append_assoc]⟩, fun x => ?_, ?_⟩
    · show x ∈ (idsT ps (addN seen p)).2 ↔ _
      rw [h3, add_mem]; simp [or_assoc]
    · show idx seen p :: (idsT ps (addN seen p)).1 = idx (idsT ps (addN seen p)).2 p :: ps.map (idx (idsT ps (addN seen p)).2)
      rw [← h4, h2, idx_app t (add_mem.2 (.inr rfl)), idx_addN]
/-- what the list holds while a round goes through it -/
def ups (cur c : List Nat) (q : Nat) : List Nat := (idsT ((cur.zip c).take q) []).1 ++ cur.drop q
def upsS (cur c : List Nat) (q : Nat) : List (Nat × Nat) := (idsT ((cur.zip c).take q) []).2
theorem ups_len {cur c : List Nat} {q : Nat} (hc : c.length = cur.length) (hq : q ≤ cur.length) : (ups cur c q).length = cur.length := by
  simp [ups, idsT_len]; omega
theorem ups_get {cur c : List Nat} {q a : Nat} (hc : c.length = cur.length) (ha : cur[q]? = some a) : (ups cur c q)[q]? = some a := by
  have hq := (List.getElem?_eq_some_iff.1 ha).1
  unfold ups
  rw [List.getElem?_append_right (by simp [idsT_len]; omega)]
  simp [idsT_len, List.getElem?_drop]
  rw [show q + (q - min q (min cur.length c.length)) = q by omega]; exact ha
theorem ups_step {cur c : List Nat} {q a b : Nat} (hc : c.length = cur.length) (ha : cur[q]? = some a) (hb : c[q]? = some b) :
    (ups cur c q).set q (idx (upsS cur c q) (a, b)) = ups cur c (q + 1) ∧ addN (upsS cur c q) (a, b) = upsS cur c (q + 1) := by
  have hz : (cur.zip c)[q]? = some (a, b) := by simp [List.getElem?_zip_eq_some, ha, hb]
  have hq := (List.getElem?_eq_some_iff.1 ha).1
  have hl : (idsT ((cur.zip c).take q) []).1.length = q := by simp [idsT_len]; omega
  refine ⟨?_, ?_⟩
  · unfold ups upsS
    rw [take_succ_get hz, idsT_snoc, List.set_append_right _ _ (by omega), hl, Nat.sub_self, List.drop_eq_getElem_cons hq, List.set_cons_zero]
    simp
  · unfold upsS
    rw [take_succ_get hz, idsT_snoc]
theorem ups_end {next : List (List Nat)} {part : List Nat} {k : Nat} (hl : (roundT next part k).1.length = next.length) : ups (roundT next part k).1 (col next part k) next.length = (roundT next part (k + 1)).1 ∧ upsS (roundT next part k).1 (col next part k) next.length = (roundT next part (k + 1)).2 := by
  have hz : ((roundT next part k).1.zip (col next part k)).take next.length = (roundT next part k).1.zip (col next part k) := List.take_of_length_le (by simp [col]; omega)
  refine ⟨?_, ?_⟩
  · unfold ups
    rw [hz, List.drop_of_length_le (by omega), List.append_nil]; rfl
  · unfold upsS; rw [hz]; rfl
theorem upsS_le (cur c : List Nat) (q : Nat) (hq : q ≤ cur.length) : (upsS cur c q).length ≤ q := by
  have key : ∀ (ps seen : List (Nat × Nat)), (idsT ps seen).2.length ≤ seen.length + ps.length := by
    intro ps
    induction ps with
    | nil => intro seen; simp [idsT]
    | cons p ps ih =>
      intro seen
      have h1 := ih (addN seen p)
      have h2 : (addN seen p).length ≤ seen.length + 1 := by unfold addN; split <;> simp
      show (idsT ps (addN seen p)).2.length ≤ _
      simp; omega
  have := key ((cur.zip c).take q) []
  have h2 : ((cur.zip c).take q).length ≤ q := by simp; omega
  unfold upsS
  simp at this h2; omega
theorem col_get {next : List (List Nat)} {part : List Nat} {k q to b : Nat} {row : List Nat} (hr : next[q]? = some row) (ht : row[k]? = some to) (hb : part[to]? = some b) : (col next part k)[q]? = some b := by
  simp [col, hr, ht, hb]
theorem zip_at {α β : Type} {l : List α} {c : List β} {i : Nat} (h1 : i < l.length) (h2 : i < c.length) : (l.zip c)[i]? = some (l[i], c[i]) := by
  simp [List.getElem?_zip_eq_some, h1, h2]
theorem round_len {next : List (List Nat)} {part : List Nat} (h : part.length = next.length) : ∀ k, (roundT next part k).1.length = next.length
  | 0 => h
  | k + 1 => by
    show (idsT _ []).1.length = _
    rw [idsT_len, List.length_zip, round_len h k]; simp [col]
theorem round_ref {next : List (List Nat)} {part : List Nat} (h : part.length = next.length) : ∀ (k : Nat) {i j : Nat}, i < next.length → j < next.length → (roundT next part k).1[i]? = (roundT next part k).1[j]? → part[i]? = part[j]?
  | 0, i, j, _, _, he => he
  | k + 1, i, j, hi, hj, he => by
    have hl := round_len h k
    have hc : (col next part k).length = next.length := by simp [col]
    obtain ⟨_, _, h3, h4⟩ := ids_ref ((roundT next part k).1.zip (col next part k)) [] List.nodup_nil
    refine round_ref h k hi hj ?_
    have he' : (idsT ((roundT next part k).1.zip (col next part k)) []).1[i]? = (idsT ((roundT next part k).1.zip (col next part k)) []).1[j]? := he
    rw [h4, List.getElem?_map, List.getElem?_map] at he'
    have z1 := zip_at (l := (roundT next part k).1) (c := col next part k) (i := i) (by omega) (by omega)
    have z2 := zip_at (l := (roundT next part k).1) (c := col next part k) (i := j) (by omega) (by omega)
    rw [z1, z2] at he'
    have m1 := (h3 _).2 (.inr (List.mem_of_getElem? z1))
    have m2 := (h3 _).2 (.inr (List.mem_of_getElem? z2))
    have e := idx_inj m1 m2 (Option.some.inj he')
    rw [List.getElem?_eq_getElem (by omega), List.getElem?_eq_getElem (by omega), (Prod.mk.inj e).1]
theorem round_cov {next : List (List Nat)} {part : List Nat} (k : Nat) {i : Nat} (hi : i < (roundT next part (k + 1)).2.length) : i ∈ (roundT next part (k + 1)).1 := by
  obtain ⟨h1, _, h3, h4⟩ := ids_ref ((roundT next part k).1.zip (col next part k)) [] List.nodup_nil
  show i ∈ (idsT _ []).1
  have hg : (idsT ((roundT next part k).1.zip (col next part k)) []).2[i]? = some (roundT next part (k + 1)).2[i] := List.getElem?_eq_getElem hi
  rw [h4]
  have hm := ((h3 _).1 (List.mem_of_getElem? hg)).resolve_left (by simp)
  exact List.mem_map.2 ⟨_, hm, idx_at h1 hg⟩
theorem round_bnd {next : List (List Nat)} {part : List Nat} (k : Nat) {v : Nat} (hv : v ∈ (roundT next part (k + 1)).1) : v < (roundT next part (k + 1)).2.length := by
  obtain ⟨_, _, h3, h4⟩ := ids_ref ((roundT next part k).1.zip (col next part k)) [] List.nodup_nil
  have hv' : v ∈ (idsT ((roundT next part k).1.zip (col next part k)) []).1 := hv
  rw [h4] at hv'
  obtain ⟨x, hx, rfl⟩ := List.mem_map.1 hv'
  exact idx_lt ((h3 x).2 (.inr hx))
/-- the parts so far, and how many -/
structure Rnd (n : Nat) (part : List Nat) (many : Nat) : Prop where
  len : part.length = n
  cov : ∀ i, i < many → i ∈ part
theorem Rnd.many {next : List (List Nat)} {part : List Nat} {many K : Nat} (h : Rnd next.length part many) (hK : 0 < K) : many ≤ (roundT next part K).2.length := by
  obtain ⟨k, rfl⟩ : ∃ k, K = k + 1 := ⟨K - 1, by omega⟩
  have hl := round_len h.len (k + 1)
  have hp : ∀ i, i < many → part[idx part i]? = some i ∧ idx part i < next.length := fun i hi => ⟨idx_get (h.cov i hi), by rw [← h.len]; exact idx_lt (h.cov i hi)⟩
  have hn : ((List.range many).map fun i => (roundT next part (k + 1)).1[idx part i]?.getD 0).Nodup := by
    rw [List.nodup_iff_pairwise_ne, List.pairwise_map]
    have hr := List.nodup_range (n := many)
    rw [List.nodup_iff_pairwise_ne] at hr
    refine hr.imp_of_mem ?_
    intro a b ha hb hab he
    have ha := hp a (by simpa using ha)
    have hb := hp b (by simpa using hb)
    rw [List.getElem?_eq_getElem (by omega), List.getElem?_eq_getElem (by omega), Option.getD_some, Option.getD_some] at he
    have := round_ref h.len (k + 1) ha.2 hb.2 (by rw [List.getElem?_eq_getElem (by omega), List.getElem?_eq_getElem (by omega), he])
    rw [ha.1, hb.1] at this
    exact hab (Option.some.inj this)
  have := nodup_lt hn (n := (roundT next part (k + 1)).2.length) (fun x hx => by
    obtain ⟨i, hi, rfl⟩ := List.mem_map.1 hx
    have hi := hp i (by simpa using hi)
    rw [List.getElem?_eq_getElem (by omega), Option.getD_some]
    exact round_bnd k (List.getElem_mem _))
  simpa using this
theorem round_le {next : List (List Nat)} {part : List Nat} (h : part.length = next.length) : ∀ K, (roundT next part K).2.length ≤ next.length
  | 0 => Nat.zero_le _
  | k + 1 => by
    have hl := round_len h k
    rw [← (ups_end hl).2]
    exact upsS_le _ _ _ (by omega)
theorem Rnd.step {next : List (List Nat)} {part : List Nat} {many K : Nat} (h : Rnd next.length part many) (hK : 0 < K) (hne : (roundT next part K).2.length ≠ many) : Rnd next.length (roundT next part K).1 (roundT next part K).2.length ∧ many < (roundT next part K).2.length ∧ (roundT next part K).2.length ≤ next.length := by
  have h1 := h.many hK
  obtain ⟨k, rfl⟩ : ∃ k, K = k + 1 := ⟨K - 1, by omega⟩
  exact ⟨⟨round_len h.len _, fun i hi => round_cov k hi⟩, by omega, round_le h.len _⟩
theorem partsT_end {next : List (List Nat)} {part : List Nat} {many K f : Nat} (h : (roundT next part K).2.length = many) : partsT next K f many part = part := by
  cases f with
  | zero => rfl
  | succ f => simp [partsT, h]
theorem partsT_step {next : List (List Nat)} {part : List Nat} {many K f : Nat} (hf : 0 < f) (h : (roundT next part K).2.length ≠ many) : partsT next K f many part = partsT next K (f - 1) (roundT next part K).2.length (roundT next part K).1 := by
  obtain ⟨g, rfl⟩ : ∃ g, f = g + 1 := ⟨f - 1, by omega⟩
  simp [partsT, h]
theorem part0_rnd {ends : List Bool} {n : Nat} (h : ends.length = n) : Rnd n (part0 ends) 0 := ⟨by simp [part0, h], fun i hi => by omega⟩
/-! the numbers in the rows -/
theorem rowT_bnd (fr : Sp) : ∀ (rds met : List Sp), ∀ v ∈ (rowT rds fr met).1, v ≤ (rowT rds fr met).2.length
  | [], met, v, h => by cases h
  | r :: rds, met, v, h => by
    rcases List.mem_cons.1 h with rfl | h
    · have h1 := idx_add met (fr &&& r)
      have h2 := (List.getElem?_eq_some_iff.1 h1).1
      have h3 := rowT_mono fr rds (addN met (fr &&& r))
      show met.idxOf (fr &&& r) + 1 ≤ (rowT rds fr (addN met (fr &&& r))).2.length
      omega
    · exact rowT_bnd fr rds _ v h
structure WdB (K : Nat) (w : Wd) : Prop where
  len : ∀ r ∈ w.next, r.length = K
  bnd : ∀ r ∈ w.next, ∀ v ∈ r, v ≤ w.met.length
theorem WdB.row {w : Wd} {rds : List Sp} (h : WdB rds.length w) (fr : Sp) (e : Bool) : WdB rds.length (w.row rds fr e) := by
  constructor
  · intro r hr
    rcases List.mem_append.1 hr with hr | hr
    · exact h.len r hr
    · obtain rfl := List.mem_singleton.1 hr
      exact rowT_len _ _ _
  · intro r hr v hv
    rcases List.mem_append.1 hr with hr | hr
    · exact Nat.le_trans (h.bnd r hr v hv) (rowT_mono fr rds w.met)
    · obtain rfl := List.mem_singleton.1 hr
      exact rowT_bnd fr rds w.met v hv
theorem WdB.run {fol rds : List Sp} {l1 : Sp} : ∀ (f q : Nat) {w : Wd}, WdB rds.length w → WdB rds.length (wdRun fol rds l1 f q w)
  | 0, _, _, h => h
  | f + 1, q, w, h => by
    unfold wdRun
    split
    · exact WdB.run f (q + 1) (h.row _ _)
    · exact h
theorem wideM_bnd (x : Plc) (root : Pt) (atoms : List Kl.Cl) : WdB atoms.length (wideM x root atoms) := by
  rw [← rdsOf_len x.sets atoms]
  exact WdB.run _ _ (WdB.row ⟨fun r h => (by cases h), fun r h => (by cases h)⟩ _ _)
end Go.HL.Sts
namespace Go.HL.Sts
open Go Go.HL Go.HL.Kl Go.HL.Kl.Mc
def Edge (next : List (List Nat)) (p to : Nat) : Prop := ∃ row, next[p]? = some row ∧ to ∈ row
/-- an edge among those that were looked at: of the states below q, and of q those below k -/
def EdgeP (next : List (List Nat)) (q k p to : Nat) : Prop := (p < q ∧ Edge next p to) ∨ (p = q ∧ ∃ row j, next[q]? = some row ∧ j < k ∧ row[j]? = some to)
structure BkI (next : List (List Nat)) (q k cnt : Nat) (bss : List (List Nat)) : Prop where
  len : bss.length = next.length
  mem : ∀ to l, bss[to]? = some l → ∀ p, p ∈ l ↔ EdgeP next q k p to
  cnt : ∀ l ∈ bss, l.length ≤ cnt
theorem BkI.zero (next : List (List Nat)) : BkI next 0 0 0 (List.replicate next.length []) := by
  refine ⟨by simp, fun to l h p => ?_, fun l h => ?_⟩
  · have := List.eq_of_mem_replicate (List.mem_of_getElem? h)
    subst this
    simp only [List.not_mem_nil, false_iff]
    rintro (⟨h, _⟩ | ⟨_, _, j, _, h, _⟩) <;> omega
  · rw [List.eq_of_mem_replicate h]; simp
theorem BkI.step {next : List (List Nat)} {q k c to : Nat} {bss : List (List Nat)} {row l : List Nat} (h : BkI next q k c bss) (hr : next[q]? = some row) (ht : row[k]? = some to) (hl : bss[to]? = some l) : BkI next q (k + 1) (c + 1) (bss.set to (l ++ [q])) := by
  refine ⟨by simp [h.len], fun t m hm p => ?_, fun m hm => ?_⟩
  · have key : EdgeP next q (k + 1) p t ↔ EdgeP next q k p t ∨ (p = q ∧ t = to) := by
      constructor
      · rintro (h1 | ⟨rfl, row', j, hr', hj, hg⟩)
        · exact .inl (.inl h1)
        · rw [hr] at hr'; cases hr'
          rcases Nat.lt_or_ge j k with h2 | h2
          · exact .inl (.inr ⟨rfl, row, j, hr, h2, hg⟩)
          · obtain rfl : j = k := by omega
            rw [ht] at hg; cases hg
            exact .inr ⟨rfl, rfl⟩
      · rintro ((h1 | ⟨rfl, row', j, hr', hj, hg⟩) | ⟨rfl, rfl⟩)
        · exact .inl h1
        · exact .inr ⟨rfl, row', j, hr', by omega, hg⟩
        · exact .inr ⟨rfl, row, k, hr, by omega, ht⟩
    rw [key]
    by_cases e : to = t
    · subst e
      rw [List.getElem?_set_self (List.getElem?_eq_some_iff.1 hl).1] at hm
      cases hm
      rw [List.mem_append, h.mem to l hl]; simp
    · rw [List.getElem?_set_ne e] at hm
      rw [h.mem t m hm]
      constructor
      · exact .inl
      · rintro (h1 | ⟨_, h1⟩)
        · exact h1
        · exact absurd h1.symm e
  · rcases List.mem_or_eq_of_mem_set hm with hm | rfl
    · have := h.cnt m hm; omega
    · have := h.cnt l (List.mem_of_getElem? hl)
      simp; omega
theorem BkI.row {next : List (List Nat)} {q k c : Nat} {bss : List (List Nat)} {row : List Nat} (h : BkI next q k c bss) (hr : next[q]? = some row) (hk : k = row.length) : BkI next (q + 1) 0 c bss := by
  refine ⟨h.len, fun t m hm p => (h.mem t m hm p).trans ?_, h.cnt⟩
  subst hk
  constructor
  · rintro (⟨h1, h2⟩ | ⟨rfl, row', j, hr', hj, hg⟩)
    · exact .inl ⟨by omega, h2⟩
    · exact .inl ⟨by omega, row', hr', List.mem_of_getElem? hg⟩
  · rintro (⟨h1, h2⟩ | ⟨_, _, j, _, h1, _⟩)
    · rcases Nat.lt_or_ge p q with h3 | h3
      · exact .inl ⟨h3, h2⟩
      · obtain rfl : p = q := by omega
        obtain ⟨row', hr', hm'⟩ := h2
        rw [hr] at hr'; cases hr'
        obtain ⟨j, hj⟩ := List.getElem?_of_mem hm'
        exact .inr ⟨rfl, row, j, hr, (List.getElem?_eq_some_iff.1 hj).1, hj⟩
    · omega
theorem BkI.done {next : List (List Nat)} {q c : Nat} {bss : List (List Nat)} (h : BkI next q 0 c bss) (hq : q = next.length) {to : Nat} {l : List Nat} (hl : bss[to]? = some l) (p : Nat) : p ∈ l ↔ Edge next p to := by
  refine (h.mem to l hl p).trans ⟨?_, fun h1 => ?_⟩
  · rintro (⟨_, h1⟩ | ⟨_, _, j, _, h1, _⟩)
    · exact h1
    · omega
  · obtain ⟨row, hr, hm⟩ := h1
    exact .inl ⟨by have := (List.getElem?_eq_some_iff.1 hr).1; omega, row, hr, hm⟩
/-- the search: what is marked, what is still to be looked at, and the one that is looked at -/
structure LvI (next : List (List Nat)) (ends : List Bool) (lv : List Bool) (todo : List Nat) (ex : Option Nat) : Prop where
  len : lv.length = next.length
  snd : ∀ q : Nat, lv[q]? = some true → Live next ends q
  fin : ∀ q : Nat, ends[q]? = some true → lv[q]? = some true
  tod : ∀ q : Nat, q ∈ todo → lv[q]? = some true
  cls : ∀ q : Nat, lv[q]? = some true → q ∈ todo ∨ some q = ex ∨ ∀ p, Edge next p q → lv[p]? = some true
def todoE (ends : List Bool) (q : Nat) : List Nat := (List.range q).filter fun i => ends[i]?.getD false
theorem todoE_yes {ends : List Bool} {q : Nat} (h : ends[q]? = some true) : todoE ends (q + 1) = todoE ends q ++ [q] := by simp [todoE, List.range_succ, h]
theorem todoE_no {ends : List Bool} {q : Nat} (h : ends[q]? = some false) : todoE ends (q + 1) = todoE ends q := by simp [todoE, List.range_succ, h]
theorem todoE_len (ends : List Bool) (q : Nat) : (todoE ends q).length ≤ q := by
  have := List.length_filter_le (fun i => ends[i]?.getD false) (List.range q)
  simpa [todoE] using this
theorem LvI.init {next : List (List Nat)} {ends : List Bool} (h : ends.length = next.length) : LvI next ends ends (todoE ends ends.length) none where
  len := h
  snd := fun q hq => .ends hq
  fin := fun q hq => hq
  tod := fun q hq => by
    have := List.mem_filter.1 hq
    have h1 : q < ends.length := by simpa using this.1
    have h2 := this.2
    rw [List.getElem?_eq_getElem h1] at h2 ⊢
    simpa using h2
  cls := fun q hq => .inl (List.mem_filter.2 ⟨by have := (List.getElem?_eq_some_iff.1 hq).1; simpa using this, by simp [hq]⟩)
theorem LvI.pop {next : List (List Nat)} {ends lv : List Bool} {todo : List Nat} {q : Nat} (h : LvI next ends lv (todo ++ [q]) none) : LvI next ends lv todo (some q) where
  len := h.len
  snd := h.snd
  fin := h.fin
  tod := fun x hx => h.tod x (by simp [hx])
  cls := fun x hx => by
    rcases h.cls x hx with h1 | h1 | h1
    · rcases List.mem_append.1 h1 with h1 | h1
      · exact .inl h1
      · exact .inr (.inl (by rw [List.mem_singleton.1 h1]))
    · cases h1
    · exact .inr (.inr h1)
theorem lv_set {lv : List Bool} {p : Nat} (hp : lv[p]? = some false) (x : Nat) : (lv.set p true)[x]? = some true ↔ x = p ∨ lv[x]? = some true := by
  have hl := (List.getElem?_eq_some_iff.1 hp).1
  by_cases e : p = x
  · subst e
    rw [List.getElem?_set_self hl]; simp
  · rw [List.getElem?_set_ne e]
    constructor
    · exact .inr
    · rintro (h | h)
      · exact absurd h.symm e
      · exact h
theorem LvI.push {next : List (List Nat)} {ends lv : List Bool} {todo : List Nat} {q p : Nat} (h : LvI next ends lv todo (some q)) (hq : lv[q]? = some true) (he : Edge next p q) (hp : lv[p]? = some false) : LvI next ends (lv.set p true) (todo ++ [p]) (some q) where
  len := by simp [h.len]
  snd := fun x hx => by
    rcases (lv_set hp x).1 hx with rfl | hx
    · obtain ⟨row, hr, hm⟩ := he
      exact .step hr hm (h.snd q hq)
    · exact h.snd x hx
  fin := fun x hx => (lv_set hp x).2 (.inr (h.fin x hx))
  tod := fun x hx => by
    rcases List.mem_append.1 hx with hx | hx
    · exact (lv_set hp x).2 (.inr (h.tod x hx))
    · exact (lv_set hp x).2 (.inl (List.mem_singleton.1 hx))
  cls := fun x hx => by
    rcases (lv_set hp x).1 hx with rfl | hx
    · exact .inl (by simp)
    · rcases h.cls x hx with h1 | h1 | h1
      · exact .inl (by simp [h1])
      · exact .inr (.inl h1)
      · exact .inr (.inr fun y hy => (lv_set hp y).2 (.inr (h1 y hy)))
theorem LvI.close {next : List (List Nat)} {ends lv : List Bool} {todo : List Nat} {q : Nat} (h : LvI next ends lv todo (some q)) (hq : ∀ p, Edge next p q → lv[p]? = some true) : LvI next ends lv todo none where
  len := h.len
  snd := h.snd
  fin := h.fin
  tod := h.tod
  cls := fun x hx => by
    rcases h.cls x hx with h1 | h1 | h1
    · exact .inl h1
    · cases h1; exact .inr (.inr hq)
    · exact .inr (.inr h1)
/-- what the search answers -/
def LvOk (next : List (List Nat)) (ends lv : List Bool) : Prop := lv.length = next.length ∧ ∀ q : Nat, lv[q]? = some true ↔ Live next ends q
theorem LvI.done {next : List (List Nat)} {ends lv : List Bool} (h : LvI next ends lv [] none) : LvOk next ends lv := by
  refine ⟨h.len, fun q => ⟨h.snd q, fun hL => ?_⟩⟩
  induction hL with
  | ends hq => exact h.fin _ hq
  | step hr hm _ ih =>
    rcases h.cls _ ih with h1 | h1 | h1
    · cases h1
    · cases h1
    · exact h1 _ ⟨_, hr, hm⟩
def dead (lv : List Bool) : Nat := lv.countP (· = false)
theorem dead_set : ∀ {lv : List Bool} {p : Nat}, lv[p]? = some false → dead (lv.set p true) + 1 = dead lv
  | b :: lv, 0, h => by
    obtain rfl : b = false := by simpa using h
    simp [dead]
  | b :: lv, p + 1, h => by
    have := dead_set (lv := lv) (p := p) (by simpa using h)
    unfold dead at this ⊢
    rw [List.set_cons_succ, List.countP_cons, List.countP_cons]
    omega
theorem dead_todo (ends : List Bool) : 2 * dead ends + (todoE ends ends.length).length ≤ 2 * ends.length := by
  have h : ∀ q, q ≤ ends.length → (todoE ends q).length + dead (ends.take q) = q := by
    intro q
    induction q with
    | zero => intro _; simp [todoE, dead]
    | succ q ih =>
      intro hq
      obtain ⟨e, he⟩ : ∃ e, ends[q]? = some e := ⟨_, List.getElem?_eq_getElem (by omega)⟩
      have := ih (by omega)
      have ht : dead (ends.take (q + 1)) = dead (ends.take q) + dead [e] := by rw [take_succ_get he]; simp [dead]
      cases e with
      | false => rw [todoE_no he, ht]; simp [dead] at this ⊢; omega
      | true => rw [todoE_yes he, ht]; simp [dead] at this ⊢; omega
  have h1 := h ends.length (Nat.le_refl _)
  rw [List.take_length] at h1
  have h2 : dead ends ≤ ends.length := List.countP_le_length
  omega
theorem dead_le (lv : List Bool) : dead lv ≤ lv.length := List.countP_le_length
end Go.HL.Sts
