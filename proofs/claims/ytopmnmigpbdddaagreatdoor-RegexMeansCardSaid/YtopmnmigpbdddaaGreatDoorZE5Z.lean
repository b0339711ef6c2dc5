/- Part of the proofs over this seat: see the text that holds the theorem. Conditions: each theorem bears its own. -/
import Derived.Test.YtopmnmigpbdddaaGreatDoorZE3Z
import Derived.Test.YtopmnmigpbdddaaGreatDoorZW9Z
import Derived.Test.YtopmnmigpbdddaaGreatDoorMT7Z
import Derived.Test.YtopmnmigpbdddaaGreatDoorMK5Z
namespace Go.Proofs.YtopmnmigpbdddaaGreatDoor
open Go Go.HL Go.Proofs Go.HL.Kl Go.HL.Kl.Mc Go.HL.Kl.Mc.AskE
open MeE
structure MeJ where
  (l : List Bool) (So : Hp) (σ : MeS)
theorem own_len {a : Option Addr} {n c : Nat} {l : List Bool} {S : Hp} (h : OwnS Ebo 1 4 (.slice a n c) l S) (hn : l.length = n) : OwnS Ebo 1 4 (.slice a l.length c) l S := by rw [hn]; exact h
theorem slv {a : Option Addr} {n c : Nat} {l : List Bool} (hn : l.length = n) : Value.slice a n c = .slice a l.length c := by rw [hn]
theorem MeE.StepT.of {K : MeE} (hK : K.ok) {y : Nd} {js : F} (hE : K.EndsT y js) : K.StepT y js := fun at_ i1 hp fa fc fr S hS σ hI => step_fnM K hK y js hE at_ i1 hp fa fc fr S hS σ hI
theorem MeE.RoundT.of {K : MeE} (hK : K.ok) {x y : Nd} {js : F} (hSt : K.StepT y js) : K.RoundT x y js := fun at_ i1 h6 hp fa fc fr Sh S hO hS hSb σ hI => rounds_fnM K hK x y js hSt at_ i1 h6 hp fa fc fr Sh S hO hS hSb σ hI
theorem MeE.RoundT.at' {K : MeE} {x y : Nd} {js : F} (h : K.RoundT x y js) (at_ i1 : Nat) (h6 : x.op = 6) (hp : Part K.re (.nd x (.nd y js .nil) .nil) at_ i1) (fa : Option Addr) (fc n : Nat) (fr : List Bool) (hn : fr.length = n) (Sh : Hp) (S : Nat → Prop) (hO : OwnS Ebo 1 4 (.slice fa n fc) fr Sh) (hS : IsS fr K.w.length S) (hSb : ∀ p, S p → p ≤ K.w.length) (σ : MeS) (hI : K.Inv σ) :
  HL.Fn Tryz.prog 65 [pt K.bM, .int .i64 at_, .slice fa n fc] (fun W => K.Env W (K.obj σ :: (Sh ++ (σ.SR ++ (σ.SS ++ σ.Pool))))) (K.obj σ :: (Sh ++ (σ.SR ++ (σ.SS ++ σ.Pool)))) (K.OutQ (at_ + 1) i1 (img (rounds x (der1 K.w y js)) S) σ) := by
  subst hn; exact h at_ i1 h6 hp fa fc fr Sh S hO hS hSb σ hI
set_option maxHeartbeats 4000000 in
theorem ends_fnM (K : MeE) (hK : K.ok) (x : Nd) (ks : F) (ih : ∀ y js, js.size < ks.size → K.EndsT y js) (at_ i1 : Nat) (hp : Part K.re (.nd x ks .nil) at_ i1) (i : Nat) (hi : i ≤ K.w.length) (σ0 : MeS) (hI0 : K.Inv σ0) : HL.Fn Tryz.prog 18 [pt K.bM, .int .i64 at_, .int .i64 i] (fun W => K.Env W ((K.bM, .cells [.slice K.ra K.re.length K.rc, .slice K.ta K.w.length K.tc, .slice K.ma K.sls.length K.mc, .slice σ0.sa σ0.ss.length σ0.sc].toArray 132 (0, 0)) :: (σ0.SR ++ (σ0.SS ++ σ0.Pool)))) ((K.bM, .cells [.slice K.ra K.re.length K.rc, .slice K.ta K.w.length K.tc, .slice K.ma K.sls.length K.mc, .slice σ0.sa σ0.ss.length σ0.sc].toArray 132 (0, 0)) :: (σ0.SR ++ (σ0.SS ++ σ0.Pool))) (K.EndQ at_ i1 (der1 K.w x ks i) σ0) := by
  refine fn_of Tryz.func18 rfl rfl rfl fun w0 hw => ?_
  have hwl := hK.wl
  have hrl := hK.rl
  have hres := hw.d1.sl
  have hts := hw.d2.sl
  have hms := hw.d3.sl
  have hple := hp.le
  have hpl := hp.len
  obtain ⟨hx, hpk, _⟩ := hp.head
  have hxs : (F.nd x ks .nil).size = 1 + ks.size := by simp only [F.size]; omega
  have hat := (List.getElem?_eq_some_iff.1 hx).1
  have hnks := F.num_le ks
  have hasl : at_ < K.sls.length := by rw [hK.sl]; exact hat
  have hok : ndOk x = true := hp.wf.1
  have hop : 1 ≤ x.op ∧ x.op ≤ 8 := (flds_iff.1 (by simp only [ndOk, Bool.and_eq_true] at hok; exact hok.1)).1
  have hx8 := hK.r8 x (List.mem_of_getElem? hx)
  have hkn0 : (ks.num : Int) = x.kids := hp.wf.2.1
  have hcnt := hI0.cnt
  obtain ⟨sx, hsx⟩ : ∃ s, K.sls[at_]? = some s := ⟨_, List.getElem?_eq_getElem hasl⟩
  obtain ⟨row, R1, Rn, R2, hrow, hSR, hOr, hput⟩ := hI0.rows.at hsx
  have hOr : OwnS Eix 1 3 (.slice sx.a sx.xs.length sx.c) row Rn := hOr
  have hrow1 := hI0.len _ _ hrow
  obtain ⟨mv, hmv⟩ : ∃ m, row[i]? = some m := ⟨_, List.getElem?_eq_getElem (by omega)⟩
  have hRn : HIn Rn σ0.SR := by rw [hSR]; exact fun p hp => List.mem_append_right _ (List.mem_append_left _ hp)
  have hlv : row.length = sx.xs.length := hOr.lenv
  have hOrs : IsSl (.slice sx.a sx.xs.length sx.c) sx.xs.length := by have h := hOr.sl; rw [hlv] at h; exact h
  have hsets := hI0.sets.sl
  refine c_seq fun _ hK1 => ?_; refine c_region ?_; refine o_step rfl (s_assign rfl) ?_; refine o_nil ?_; refine x_then (hK1 _ _ ?_); refine c_seq fun _ hK2 => ?_; refine c_seq fun _ hK3 => ?_; refine c_region ?_; refine o_step rfl (s_move rfl) ?_; refine o_step rfl (s_nil rfl) ?_; refine o_step rfl (s_field rfl rfl (by decide)) ?_; refine o_step rfl (s_ld rfl (.own meA rfl)) ?_; refine o_step rfl (s_move rfl) ?_; refine o_step rfl (s_idx rfl rfl hms (by omega)) ?_; refine o_step rfl (s_ld rfl ((RdK.old hw.d3 hw.a3).ld at_ 0 hsx rfl (by decide) (by omega))) ?_; refine o_step rfl (s_move rfl) ?_; refine o_step rfl (s_idx rfl rfl hOrs (by omega)) ?_; refine o_step rfl (s_ld rfl (((hOr.rds.mono hRn).rdk hiA).ld i 0 hmv rfl (by decide) (by omega))) ?_
  by_cases hmz : (mv : Int) > 0
  ·
   obtain ⟨m, rfl⟩ : ∃ m, mv = m + 1 := ⟨mv - 1, by omega⟩
   obtain ⟨s, hss, hD⟩ := hI0.tab _ _ _ _ hrow hmv
   obtain ⟨hs1, S0, hin0, hO0⟩ := hI0.pool s (List.mem_of_getElem? hss)
   have hml := (List.getElem?_eq_some_iff.1 hss).1
   refine o_step rfl (step_cast (v' := .bool true) (s_gtr rfl rfl) (by rw [decide_eq_true (by omega)])) ?_; refine o_nil ?_; refine x_then (hK3 _ _ ?_); refine c_true rfl ?_; refine c_seq fun _ hK4 => ?_; refine c_quiet (by kernel_rfl) ?_; refine .op rfl (s_move rfl) ?_; refine .op rfl (s_nil rfl) ?_; refine .op rfl (s_field rfl rfl (by decide)) ?_; refine .op rfl (s_ld rfl (.own meA rfl)) ?_; refine .op rfl (s_move rfl) ?_; refine .op rfl (s_nil rfl) ?_; refine .op rfl (s_field rfl rfl (by decide)) ?_; refine .op rfl (s_ld rfl (.own meA rfl)) ?_; refine .op rfl (s_move rfl) ?_; refine .op rfl (s_idx rfl rfl hms (by omega)) ?_; refine .op rfl (s_ld rfl ((RdK.old hw.d3 hw.a3).ld at_ 0 hsx rfl (by decide) (by omega))) ?_; refine .op rfl (s_move rfl) ?_; refine .op rfl (s_idx rfl rfl hOrs (by omega)) ?_; refine .op rfl (s_ld rfl (((hOr.rds.mono hRn).rdk hiA).ld i 0 hmv rfl (by decide) (by omega))) ?_
   refine .op rfl (step_cast (v' := .int .i64 (m : Nat)) (s_sub rfl rfl (by omega)) (congrArg _ (by omega))) ?_; refine .op rfl (s_idx rfl rfl hsets (by omega)) ?_; refine .op rfl (s_ld rfl ((hI0.sets.rdk hiA).ld m 0 hss rfl (by decide) (by omega))) ?_; refine .op rfl (s_assign rfl) ?_; refine .nil ?_; refine x_then (hK4 _ _ ?_); refine c_ret ?_; refine x_then_ret (?_); refine x_sub (Sub.refl _) (H' := ((K.bM, .cells [.slice K.ra K.re.length K.rc, .slice K.ta K.w.length K.tc, .slice K.ma K.sls.length K.mc, .slice σ0.sa σ0.ss.length σ0.sc].toArray 132 (0, 0)) :: (σ0.SR ++ (σ0.SS ++ σ0.Pool)))) hzB ?_; exact x_ret rfl (.tmp rfl (.nil)) (⟨s.a, s.c, s.xs, S0, σ0, rfl, rfl, hO0, hin0, hD x ks .nil i1 hp, .refl hI0⟩)
  ·
   obtain rfl : mv = 0 := by omega
   refine o_step rfl (step_cast (v' := .bool false) (s_gtr rfl rfl) (by rw [decide_eq_false (by omega)])) ?_; refine o_nil ?_; refine x_then (hK3 _ _ ?_); refine c_false rfl ?_; refine c_skip ?_; refine x_then (hK2 _ _ ?_); refine c_seq fun _ hK5 => ?_; refine c_region ?_; refine o_step rfl (s_move rfl) ?_; refine o_step rfl (s_nil rfl) ?_; refine o_step rfl (s_field rfl rfl (by decide)) ?_; refine o_step rfl (s_ld rfl (.own meA rfl)) ?_; refine o_step rfl (s_move rfl) ?_; refine o_step rfl (s_idx rfl rfl hres (by omega)) ?_; refine o_step rfl (s_ldB rfl ((RdK.old hw.d1 hw.a1).lds at_ hx rfl) (by rfl)) ?_; refine o_alloc (l := En zN) (by rw [En_zero]; rfl) rfl fun b7 => ?_; refine o_stW rfl rfl upA lnA lnA onA ?_; refine o_nil ?_; refine x_then (hK5 _ _ ?_); refine c_seq fun _ hK6 => ?_; refine c_region ?_; refine o_step rfl (s_move rfl) ?_; refine o_step rfl (s_nil rfl) ?_; refine o_step rfl (s_field rfl rfl (by decide)) ?_
   refine o_step rfl (s_ld rfl (.own meA rfl)) ?_; refine o_step rfl (s_len rfl) ?_; refine o_step rfl (s_add rfl rfl (by omega)) ?_; refine o_make (E := Ebo) (zx := false) (n := K.w.length + 1) rfl rfl rfl (by omega) (by omega) rfl fun b56 S56 hS56 => ?_
   have hS56s := hS56.sl
   rw [List.length_replicate] at hS56s
   refine o_step rfl (s_assign rfl) ?_; refine o_nil ?_; refine x_then (hK6 _ _ ?_); refine c_seq fun _ hK7 => ?_; refine c_region ?_; refine o_step rfl (s_move rfl) ?_; refine o_step rfl (s_nil rfl) ?_; refine o_step rfl (s_field rfl rfl (by decide)) ?_; refine o_step rfl (s_ld rfl (.own meA rfl)) ?_; refine o_step rfl (s_len rfl) ?_; refine o_step rfl (s_add rfl rfl (by omega)) ?_; refine o_make (E := Ebo) (zx := false) (n := K.w.length + 1) rfl rfl rfl (by omega) (by omega) rfl fun b63 S63 hS63 => ?_
   have hS63s := hS63.sl
   rw [List.length_replicate] at hS63s
   refine o_step rfl (s_assign rfl) ?_; refine o_nil ?_; refine x_then (hK7 _ _ ?_); refine c_seq fun _ hK8 => ?_; refine c_region ?_; refine o_step rfl (s_move rfl) ?_; refine o_step rfl (s_move rfl) ?_; refine o_step rfl (s_idx rfl rfl hS63s (by omega)) ?_; refine o_stS1 i true hS63 pkA rfl rfl rfl (by rw [List.length_replicate]; omega) (by omega) fun Sh0 hSh0 => ?_
   have hIh : IsS ((List.replicate (K.w.length + 1) false).set i true) K.w.length (fun q => q = i) := .one hi
   refine o_nil ?_; refine x_then (hK8 _ _ ?_); refine c_seqJ (ι := MeJ) (fun q => OwnS Ebo 1 4 (.slice (some ⟨b56, 0, none⟩) q.l.length (K.w.length + 1)) q.l q.So ∧ IsS q.l K.w.length (der1 K.w x ks i) ∧ K.Ext (at_ + 1) i1 σ0 q.σ) (fun q => [(8, .slice (some ⟨b56, 0, none⟩) q.l.length (K.w.length + 1))]) [(0, _), (1, _), (2, _), (6, _)] (fun q => (K.bM, .cells [.slice K.ra K.re.length K.rc, .slice K.ta K.w.length K.tc, .slice K.ma K.sls.length K.mc, .slice q.σ.sa q.σ.ss.length q.σ.sc].toArray 132 (0, 0)) :: (q.So ++ (q.σ.SR ++ (q.σ.SS ++ q.σ.Pool)))) sbA ?_ ?_
   ·
    rintro q ⟨hOq, hIq, hXq⟩
    have hlq := hIq.len
    have hcq := hXq.inv.cnt
    obtain ⟨row2, Q1, Qn, Q2, hrow2, hSR2, hOr2, hput2⟩ := hXq.inv.rows.at hsx
    have hOr2 : OwnS Eix 1 3 (.slice sx.a sx.xs.length sx.c) row2 Qn := hOr2
    have hr2 : row2 = row := by have h1 := hXq.out at_ (.inl (Nat.lt_succ_self _)); rw [hrow2, hrow] at h1; exact Option.some.inj h1
    subst hr2
    have hOr2s : IsSl (.slice sx.a sx.xs.length sx.c) sx.xs.length := by have h := hOr2.sl; rw [hlv] at h; exact h
    rw [hSR2]
    refine c_seq fun _ hK10 => ?_; refine c_region ?_; refine o_step rfl (s_move rfl) ?_; refine o_step rfl (s_move rfl) ?_; refine o_step rfl (s_nil rfl) ?_; refine o_step rfl (s_field rfl rfl (by decide)) ?_; refine o_step rfl (s_ld rfl (.own meA rfl)) ?_; refine o_step rfl (s_move rfl) ?_; refine o_bs (E := Esl) (xs := [(⟨(some ⟨b56, 0, none⟩), (K.w.length + 1), q.l⟩ : Sl Bool)]) (vs := [_]) rfl rfl rfl rfl rfl (by decide) (by decide) fun b186 S186 hS186 => ?_; refine o_app hXq.inv.sets (hS186.rdk hiA) rfl rfl rfl rfl (by simp only [List.length_singleton]; omega) (by simp only [List.length_singleton]; omega) rfl pkA fun a187 c187 S187 hS187 => ?_; refine o_step rfl (s_nil rfl) ?_; refine o_step rfl (s_field rfl rfl (by decide)) ?_; refine o_store rfl rfl rfl upA ltA rfl ?_; refine o_nil ?_; refine x_then (hK10 _ _ ?_); refine c_seq fun _ hK11 => ?_; refine c_tail 13 (by kernel_rfl) ?_
    refine .op rfl (s_move rfl) ?_; refine .op rfl (s_nil rfl) ?_; refine .op rfl (s_field rfl rfl (by decide)) ?_; refine .op rfl (s_ld rfl (.own meA rfl)) ?_; refine .op rfl (s_move rfl) ?_; refine .op rfl (s_idx rfl rfl hms (by omega)) ?_; refine .op rfl (s_ld rfl ((RdK.old hw.d3 hw.a3).ld at_ 0 hsx rfl (by decide) (by omega))) ?_; refine .op rfl (s_move rfl) ?_; refine .op rfl (s_move rfl) ?_; refine .op rfl (s_nil rfl) ?_; refine .op rfl (s_field rfl rfl (by decide)) ?_; refine .op rfl (s_ld rfl (.own meA rfl)) ?_; refine .op rfl (s_len rfl) ?_; refine .nil ?_; refine o_step rfl (s_idx rfl rfl hOr2s (by omega)) ?_; refine o_stS1 i (q.σ.ss ++ [(⟨(some ⟨b56, 0, none⟩), (K.w.length + 1), q.l⟩ : Sl Bool)]).length hOr2 pkA rfl rfl rfl (by omega) (by omega) fun Sn hSn => ?_; refine o_nil ?_; refine x_then (hK11 _ _ ?_); refine c_seq fun _ hK12 => ?_; refine c_region ?_; refine o_step rfl (s_move rfl) ?_
    refine o_step rfl (s_assign rfl) ?_; refine o_nil ?_; refine x_then (hK12 _ _ ?_); refine c_ret ?_; refine ?_; refine x_sub (Sub.refl _) (H' := (K.bM, .cells [.slice K.ra K.re.length K.rc, .slice K.ta K.w.length K.tc, .slice K.ma K.sls.length K.mc, .slice a187 (q.σ.ss ++ [(⟨(some ⟨b56, 0, none⟩), (K.w.length + 1), q.l⟩ : Sl Bool)]).length c187].toArray 132 (0, 0)) :: ((Q1 ++ (Sn ++ Q2)) ++ (S187 ++ (q.So ++ q.σ.Pool)))) (by simp only [List.append_assoc]; exact hzB) ?_
    rw [List.length_append] at hSn
    exact x_ret rfl (.tmp rfl (.nil)) (⟨(some ⟨b56, 0, none⟩), (K.w.length + 1), q.l, q.So, ⟨q.σ.met.set at_ (row2.set i (q.σ.ss.length + 1)), Q1 ++ (Sn ++ Q2), a187, c187, q.σ.ss ++ [(⟨(some ⟨b56, 0, none⟩), (K.w.length + 1), q.l⟩ : Sl Bool)], S187, q.So ++ q.σ.Pool⟩, rfl, rfl, hOq, HIn.appL, hIq, ⟨Inv.add hXq.inv hrow2 hmv hOq hlq hS187 (hput2 _ _ hSn) (fun y js r e hp2 => (by have h1 := hp2.head.1; rw [hx] at h1; cases h1; rw [hp2.uniq hp]; exact hIq)), fun p hp => List.mem_append_right _ (hXq.pool p hp), fun k hk => (List.getElem?_set_ne (by omega)).trans (hXq.out k (by omega))⟩⟩)
   ·
    intro _ hJ9
    refine c_seq fun _ hK13 => ?_; refine c_region ?_; refine o_step rfl (s_field rfl rfl (by decide)) ?_; refine o_step rfl (s_ld rfl (.own meA rfl)) ?_; refine o_nil ?_; refine x_then (hK13 _ _ ?_); refine c_block ?_; refine c_seq fun _ hK14 => ?_; refine c_region ?_
    by_cases h1 : x.op = 1
    ·
     refine o_step rfl (step_cast (v' := .bool true) (s_eql rfl rfl) (by rw [decide_eq_true h1])) ?_; refine o_step rfl (s_assign rfl) ?_; refine o_nil ?_; refine x_then (hK14 _ _ ?_); refine c_true rfl ?_; refine c_seq fun _ hK15 => ?_; refine c_region ?_; refine o_step rfl (s_move rfl) ?_; refine o_step rfl (s_move rfl) ?_; refine o_step rfl (s_nil rfl) ?_; refine o_step rfl (s_field rfl rfl (by decide)) ?_; refine o_step rfl (s_ld rfl (.own meA rfl)) ?_; refine o_step rfl (s_len rfl) ?_
     by_cases hiw : (i : Int) < K.w.length
     ·
      obtain ⟨b, hb⟩ : ∃ b, K.w[i]? = some b := ⟨_, List.getElem?_eq_getElem (by omega)⟩
      refine o_step rfl (step_cast (v' := .bool true) (s_lss rfl rfl) (by rw [decide_eq_true (by omega)])) ?_; refine o_nil ?_; refine x_then (hK15 _ _ ?_); refine c_true rfl ?_; refine c_seq fun _ hK16 => ?_; refine c_region ?_; refine o_step rfl (s_move rfl) ?_; refine o_step rfl (s_nil rfl) ?_; refine o_step rfl (s_field rfl rfl (by decide)) ?_; refine o_step rfl (s_ld rfl (.own meA rfl)) ?_; refine o_step rfl (s_move rfl) ?_; refine o_step rfl (s_idx rfl rfl hts (by omega)) ?_; refine o_step rfl (s_ld rfl ((RdK.old hw.d2 hw.a2).ld i 0 hb rfl (by decide) (by omega))) ?_; refine o_step rfl (s_assign rfl) ?_; refine o_nil ?_; refine x_then (hK16 _ _ ?_); refine c_region ?_; refine o_step rfl (s_move rfl) ?_; refine o_step rfl (s_move rfl) ?_; refine o_step rfl (s_add rfl rfl (by omega)) ?_; refine o_step rfl (s_move rfl) ?_; refine o_step rfl (step_cast (v' := .int .u8 ((b.toNat / 64 : Nat) : Int)) (s_quo rfl rfl (by decide)) (congrArg _ (quo64 b.toNat_lt))) ?_
      refine o_step rfl (s_field rfl rfl (by decide)) ?_; refine o_step rfl (step_cast (v' := .pointer (some ⟨b7, 1 + b.toNat / 64, none⟩)) (s_indexA rfl rfl (by have := b.toNat_lt; omega)) (by simp)) ?_; refine o_step rfl (s_ld rfl ((RdPK.own' (cs := Ec x.set) meA nd_set).cel (j := b.toNat / 64) (Ec_get _ (by have := b.toNat_lt; omega)) (by have := b.toNat_lt; omega))) ?_; refine o_step rfl (s_move rfl) ?_; refine o_step rfl (step_cast (v' := .int .u8 ((b.toNat % 64 : Nat) : Int)) (s_rem rfl rfl (by decide)) (congrArg _ (rem64 b.toNat_lt))) ?_; refine o_step rfl (s_shr rfl rfl (by omega)) ?_; refine o_step rfl (s_and rfl rfl) ?_; refine o_step rfl (step_cast (v' := .bool (x.set.getLsbD b.toNat)) (s_eql rfl rfl) (congrArg Value.bool (hasB x.set b.toNat_lt))) ?_; refine o_step rfl (s_idx rfl rfl hS56s (by omega)) ?_; refine o_stS1 (i + 1) _ hS56 pkA rfl rfl rfl (by rw [List.length_replicate]; omega) (by omega) fun Sx98 hSx98 => ?_
      refine o_nil ?_; refine x_block ?_
      have hle : ((List.replicate (K.w.length + 1) false).set (i + 1) (x.set.getLsbD b.toNat)).length = K.w.length + 1 := by first | (rw [orL_len, List.length_replicate]) | (rw [List.length_set, List.length_replicate]) | (rw [List.length_replicate]) | exact hll
      exact x_then (hJ9 ⟨(List.replicate (K.w.length + 1) false).set (i + 1) (x.set.getLsbD b.toNat), Sx98, σ0⟩ _ _ ⟨own_len hSx98 hle, (.ds1 h1 hb Iff.rfl), .refl hI0⟩ (by exact Sub.cons' rfl (slv hle) sbA) sbA hzB)
     ·
      refine o_step rfl (step_cast (v' := .bool false) (s_lss rfl rfl) (by rw [decide_eq_false (by omega)])) ?_; refine o_nil ?_; refine x_then (hK15 _ _ ?_); refine c_false rfl ?_; refine c_skip ?_; refine x_block ?_
      have hle : ((List.replicate (K.w.length + 1) false)).length = K.w.length + 1 := by first | (rw [orL_len, List.length_replicate]) | (rw [List.length_set, List.length_replicate]) | (rw [List.length_replicate]) | exact hll
      exact x_then (hJ9 ⟨(List.replicate (K.w.length + 1) false), S56, σ0⟩ _ _ ⟨own_len hS56 hle, (.ds1n h1 (by omega)), .refl hI0⟩ (by exact Sub.cons' rfl (slv hle) sbA) sbA hzB)
    ·
     refine o_step rfl (step_cast (v' := .bool false) (s_eql rfl rfl) (by rw [decide_eq_false h1])) ?_; refine o_step rfl (s_assign rfl) ?_; refine o_nil ?_; refine x_then (hK14 _ _ ?_); refine c_false rfl ?_; refine c_seq fun _ hK17 => ?_; refine c_region ?_
     by_cases h2 : x.op = 2
     ·
      refine o_step rfl (step_cast (v' := .bool true) (s_eql rfl rfl) (by rw [decide_eq_true h2])) ?_; refine o_step rfl (s_assign rfl) ?_; refine o_nil ?_; refine x_then (hK17 _ _ ?_); refine c_true rfl ?_; refine c_region ?_; refine o_step rfl (s_move rfl) ?_; refine o_step rfl (s_move rfl) ?_; refine o_step rfl (s_move rfl) ?_; refine o_step rfl (s_eql rfl rfl) ?_; refine o_step rfl (s_idx rfl rfl hS56s (by omega)) ?_; refine o_stS1 i _ hS56 pkA rfl rfl rfl (by rw [List.length_replicate]; omega) (by omega) fun Sx105 hSx105 => ?_; refine o_nil ?_; refine x_block ?_
      have hle : ((List.replicate (K.w.length + 1) false).set i (decide ((i : Int) = 0))).length = K.w.length + 1 := by first | (rw [orL_len, List.length_replicate]) | (rw [List.length_set, List.length_replicate]) | (rw [List.length_replicate]) | exact hll
      exact x_then (hJ9 ⟨(List.replicate (K.w.length + 1) false).set i (decide ((i : Int) = 0)), Sx105, σ0⟩ _ _ ⟨own_len hSx105 hle, (.ds2 h2 hi (by rw [decide_eq_true_iff]; omega)), .refl hI0⟩ (by exact Sub.cons' rfl (slv hle) sbA) sbA hzB)
     ·
      refine o_step rfl (step_cast (v' := .bool false) (s_eql rfl rfl) (by rw [decide_eq_false h2])) ?_; refine o_step rfl (s_assign rfl) ?_; refine o_nil ?_; refine x_then (hK17 _ _ ?_); refine c_false rfl ?_; refine c_seq fun _ hK18 => ?_; refine c_region ?_
      by_cases h3 : x.op = 3
      ·
       refine o_step rfl (step_cast (v' := .bool true) (s_eql rfl rfl) (by rw [decide_eq_true h3])) ?_; refine o_step rfl (s_assign rfl) ?_; refine o_nil ?_; refine x_then (hK18 _ _ ?_); refine c_true rfl ?_; refine c_region ?_; refine o_step rfl (s_move rfl) ?_; refine o_step rfl (s_move rfl) ?_; refine o_step rfl (s_move rfl) ?_; refine o_step rfl (s_move rfl) ?_; refine o_step rfl (s_nil rfl) ?_; refine o_step rfl (s_field rfl rfl (by decide)) ?_; refine o_step rfl (s_ld rfl (.own meA rfl)) ?_; refine o_step rfl (s_len rfl) ?_; refine o_step rfl (s_eql rfl rfl) ?_; refine o_step rfl (s_idx rfl rfl hS56s (by omega)) ?_; refine o_stS1 i _ hS56 pkA rfl rfl rfl (by rw [List.length_replicate]; omega) (by omega) fun Sx117 hSx117 => ?_; refine o_nil ?_; refine x_block ?_
       have hle : ((List.replicate (K.w.length + 1) false).set i (decide ((i : Int) = K.w.length))).length = K.w.length + 1 := by first | (rw [orL_len, List.length_replicate]) | (rw [List.length_set, List.length_replicate]) | (rw [List.length_replicate]) | exact hll
       exact x_then (hJ9 ⟨(List.replicate (K.w.length + 1) false).set i (decide ((i : Int) = K.w.length)), Sx117, σ0⟩ _ _ ⟨own_len hSx117 hle, (.ds3 h3 hi (by rw [decide_eq_true_iff]; omega)), .refl hI0⟩ (by exact Sub.cons' rfl (slv hle) sbA) sbA hzB)
      ·
       refine o_step rfl (step_cast (v' := .bool false) (s_eql rfl rfl) (by rw [decide_eq_false h3])) ?_; refine o_step rfl (s_assign rfl) ?_; refine o_nil ?_; refine x_then (hK18 _ _ ?_); refine c_false rfl ?_; refine c_seq fun _ hK19 => ?_; refine c_region ?_
       by_cases h7 : x.op = 7
       ·
        refine o_step rfl (step_cast (v' := .bool true) (s_eql rfl rfl) (by rw [decide_eq_true h7])) ?_; refine o_step rfl (s_assign rfl) ?_; refine o_nil ?_; refine x_then (hK19 _ _ ?_); refine c_true rfl ?_; refine c_region ?_; refine o_step rfl (s_move rfl) ?_; refine o_step rfl (s_move rfl) ?_; refine o_step rfl (s_move rfl) ?_; refine o_step rfl (s_add rfl rfl (by omega)) ?_; refine o_step rfl (s_move rfl) ?_
        obtain ⟨y, js, rfl⟩ := grp_kid hp.wf h7
        refine o_call (ih y js (by simp only [F.size]; omega) (at_ + 1) _ hpk i hi σ0 hI0) rfl rfl rfl ((Pick.takeC pkA (Pick.takeA pkA pkA))) (fun _ st => ⟨(RdK.old hw.d1 hw.a1).out _ st, St.apart_M st (by exact hiB) hw.d1 hw.a1 (by decide), (RdK.old hw.d2 hw.a2).out _ st, St.apart_M st (by exact hiB) hw.d2 hw.a2 (by decide), (RdK.old hw.d3 hw.a3).out _ st, St.apart_M st (by exact hiB) hw.d3 hw.a3 (by decide)⟩) (fun v125 S125 ⟨a125, c125, l125, S0125, σ125, hv125, hS125, hO125, hi125, hI125, hX125⟩ => ?_); subst hv125
        subst hS125
        have hl125 := hI125.len
        refine o_call (orM2_fn (some ⟨b56, 0, none⟩) _ _ (List.replicate (K.w.length + 1) false) List.length_replicate S56 hS56 a125 c125 l125 hl125 (by omega)) rfl rfl rfl pkA (fun _ st => ⟨((hO125.rds.mono hi125).rdk hiA).out _ st, St.apart st pkA hO125 (fun p hp => (show HIn σ125.Pool _ from by exact hiB) p (hi125 p hp))⟩) (fun v126 So126 ⟨hv126, hO126⟩ => ?_); subst hv126
        refine o_nil ?_; refine x_block ?_
        have hle : (orL (List.replicate (K.w.length + 1) false) l125).length = K.w.length + 1 := by first | (rw [orL_len, List.length_replicate]) | (rw [List.length_set, List.length_replicate]) | (rw [List.length_replicate]) | exact hll
        exact x_then (hJ9 ⟨orL (List.replicate (K.w.length + 1) false) l125, So126, σ125⟩ _ _ ⟨own_len hO126 hle, (hI125.ds7 h7), hX125.wide (Nat.le_refl _) (by omega)⟩ (by exact Sub.cons' rfl (slv hle) sbA) sbA hzB)
       ·
        refine o_step rfl (step_cast (v' := .bool false) (s_eql rfl rfl) (by rw [decide_eq_false h7])) ?_; refine o_step rfl (s_assign rfl) ?_; refine o_nil ?_; refine x_then (hK19 _ _ ?_); refine c_false rfl ?_; refine c_seq fun _ hK20 => ?_; refine c_region ?_
        by_cases h6 : x.op = 6
        ·
         refine o_step rfl (step_cast (v' := .bool true) (s_eql rfl rfl) (by rw [decide_eq_true h6])) ?_; refine o_step rfl (s_assign rfl) ?_; refine o_nil ?_; refine x_then (hK20 _ _ ?_); refine c_true rfl ?_; refine c_region ?_; refine o_step rfl (s_move rfl) ?_; refine o_step rfl (s_move rfl) ?_; refine o_step rfl (s_move rfl) ?_; refine o_step rfl (s_move rfl) ?_
         obtain ⟨y, js, rfl⟩ := rep_kid hp.wf h6
         refine o_call ((MeE.RoundT.of hK (.of hK (ih y js (by simp only [F.size]; omega)))).at' at_ i1 h6 hp (some ⟨b63, 0, none⟩) (K.w.length + 1) _ ((List.replicate (K.w.length + 1) false).set i true) hIh.len Sh0 _ hSh0 hIh (fun p h => by have h : p = i := h; omega) σ0 hI0) rfl rfl rfl ((Pick.takeC pkA (Pick.takeA pkA (Pick.takeA pkA pkA)))) (fun _ st => ⟨(RdK.old hw.d1 hw.a1).out _ st, St.apart_M st (by exact hiB) hw.d1 hw.a1 (by decide), (RdK.old hw.d2 hw.a2).out _ st, St.apart_M st (by exact hiB) hw.d2 hw.a2 (by decide), (RdK.old hw.d3 hw.a3).out _ st, St.apart_M st (by exact hiB) hw.d3 hw.a3 (by decide)⟩) (fun v133 S133 ⟨a133, c133, l133, So133, σ133, hv133, hS133, hO133, hI133, hX133⟩ => ?_); subst hv133
         subst hS133
         have hl133 := hI133.len
         refine o_call (orM2_fn (some ⟨b56, 0, none⟩) _ _ (List.replicate (K.w.length + 1) false) List.length_replicate S56 hS56 a133 c133 l133 hl133 (by omega)) rfl rfl rfl pkA (fun _ st => ⟨(hO133.rdk hiA).out _ st, St.apart st pkA hO133 (by exact hiB)⟩) (fun v134 So134 ⟨hv134, hO134⟩ => ?_); subst hv134
         refine o_nil ?_; refine x_block ?_
         have hle : (orL (List.replicate (K.w.length + 1) false) l133).length = K.w.length + 1 := by first | (rw [orL_len, List.length_replicate]) | (rw [List.length_set, List.length_replicate]) | (rw [List.length_replicate]) | exact hll
         exact x_then (hJ9 ⟨orL (List.replicate (K.w.length + 1) false) l133, So134, σ133⟩ _ _ ⟨own_len hO134 hle, (hI133.ds6 h6), hX133⟩ (by exact Sub.cons' rfl (slv hle) sbA) sbA hzB)
        ·
         refine o_step rfl (step_cast (v' := .bool false) (s_eql rfl rfl) (by rw [decide_eq_false h6])) ?_; refine o_step rfl (s_assign rfl) ?_; refine o_nil ?_; refine x_then (hK20 _ _ ?_); refine c_false rfl ?_; refine c_seq fun _ hK21 => ?_; refine c_region ?_
         by_cases h4 : x.op = 4
         ·
          refine o_step rfl (step_cast (v' := .bool true) (s_eql rfl rfl) (by rw [decide_eq_true h4])) ?_; refine o_step rfl (s_assign rfl) ?_; refine o_nil ?_; refine x_then (hK21 _ _ ?_); refine c_true rfl ?_; refine c_seq fun _ hK22 => ?_; refine c_region ?_; refine o_step rfl (s_move rfl) ?_; refine o_step rfl (s_add rfl rfl (by omega)) ?_; refine o_step rfl (s_assign rfl) ?_; refine o_nil ?_; refine x_then (hK22 _ _ ?_); refine c_seq fun _ hK23 => ?_; refine c_seq fun _ hK24 => ?_; refine c_region ?_; refine o_step rfl (s_assign rfl) ?_; refine o_nil ?_; refine x_then (hK24 _ _ ?_); refine c_block ?_; refine c_loop9 (fun (k : Nat) (kp : Nat) (g : F) (ha : Option Addr) (hc : Nat) (h : List Bool) (Sg : Hp) (σ : MeS) (T : Nat → Prop) => at_ + 1 ≤ kp ∧ Part K.re g kp (at_ + 1 + ks.size) ∧ k + g.num = ks.num ∧ g.size ≤ ks.size ∧ OwnS Ebo 1 4 (.slice ha h.length hc) h Sg ∧ IsS h K.w.length T ∧ CatI K.w x ks g i T ∧ K.Ext (at_ + 1) i1 σ0 σ) (fun (k : Nat) (kp : Nat) (g : F) (ha : Option Addr) (hc : Nat) (h : List Bool) (Sg : Hp) (σ : MeS) (T : Nat → Prop) => [(12, .int .i64 k), (11, .int .i64 kp), (9, .slice ha h.length hc)]) [(0, _), (1, _), (2, _), (6, _), (7, _), (8, _)] (fun (k : Nat) (kp : Nat) (g : F) (ha : Option Addr) (hc : Nat) (h : List Bool) (Sg : Hp) (σ : MeS) (T : Nat → Prop) => (b7, .cells (En x).toArray 108 (0, 0)) :: (K.bM, .cells [.slice K.ra K.re.length K.rc, .slice K.ta K.w.length K.tc, .slice K.ma K.sls.length K.mc, .slice σ.sa σ.ss.length σ.sc].toArray 132 (0, 0)) :: (S56 ++ (Sg ++ (σ.SR ++ (σ.SS ++ σ.Pool))))) (fun (k : Nat) (kp : Nat) (g : F) (ha : Option Addr) (hc : Nat) (h : List Bool) (Sg : Hp) (σ : MeS) (T : Nat → Prop) => ks.num - k) 0 (at_ + 1) ks (some ⟨b63, 0, none⟩) (K.w.length + 1) ((List.replicate (K.w.length + 1) false).set i true) Sh0 σ0 (fun q => q = i) ⟨Nat.le_refl _, hpk, by simp, Nat.le_refl _, own_len hSh0 hIh.len, hIh, .start h4, .refl hI0⟩ (by exact Sub.cons rfl (Sub.cons rfl (Sub.cons' rfl (slv hIh.len) sbA))) sbA hzB ?_
          rintro k kp g ha hc h Sg σ T ⟨hkp, hpg, hkn, hgs, hOg, hIg, hT, hX⟩
          have hlg := hIg.len
          refine c_seq fun _ hK25 => ?_; refine c_seq fun _ hK26 => ?_; refine c_region ?_; refine o_step rfl (s_move rfl) ?_; refine o_step rfl (s_field rfl rfl (by decide)) ?_; refine o_step rfl (s_ld rfl (.own meA rfl)) ?_
          by_cases hkk : (k : Int) < x.kids
          ·
           obtain ⟨y, js, r, rfl⟩ : ∃ y js r, g = F.nd y js r := by cases g with | nil => simp [F.num] at hkn; omega | nd y a b => exact ⟨y, a, b, rfl⟩
           obtain ⟨hy, hpy, hpr⟩ := hpg.head
           have hgl := hpg.le
           have hgn := hpg.len
           simp only [F.size] at hgn hgs
           have hgm : (F.nd y js r).num = r.num + 1 := by simp [F.num]; try omega
           refine o_step rfl (step_cast (v' := .bool true) (s_lss rfl rfl) (by rw [decide_eq_true (by omega)])) ?_; refine o_nil ?_; refine x_then (hK26 _ _ ?_); refine c_true rfl ?_; refine c_skip ?_; refine x_then (hK25 _ _ ?_); refine c_seq fun _ hK27 => ?_; refine c_block ?_; refine c_seq fun _ hK28 => ?_; refine c_region ?_; refine o_step rfl (s_move rfl) ?_; refine o_step rfl (s_move rfl) ?_; refine o_step rfl (s_move rfl) ?_; refine o_call ((MeE.StepT.of hK (ih y js (by omega))) kp _ hpg.one ha hc h T hIg σ hX.inv) rfl rfl rfl ((Pick.takeC pkA (Pick.takeA pkA pkA))) (fun _ st => ⟨⟨(RdK.old hw.d1 hw.a1).out _ st, St.apart_M st (by exact hiB) hw.d1 hw.a1 (by decide), (RdK.old hw.d2 hw.a2).out _ st, St.apart_M st (by exact hiB) hw.d2 hw.a2 (by decide), (RdK.old hw.d3 hw.a3).out _ st, St.apart_M st (by exact hiB) hw.d3 hw.a3 (by decide)⟩, (hOg.rdk hiA).out _ st, St.apart st (Pick.takeC pkA (Pick.takeA pkA pkA)) hOg (by exact hiB)⟩) (fun v148 S148 ⟨a148, c148, l148, So148, σ148, hv148, hS148, hO148, hI148, hX148⟩ => ?_)
           subst hv148; subst hS148
           refine o_step rfl (s_assign rfl) ?_; refine o_nil ?_; refine x_then (hK28 _ _ ?_); refine c_region ?_; refine o_step rfl (s_move rfl) ?_; refine o_step rfl (s_nil rfl) ?_; refine o_step rfl (s_field rfl rfl (by decide)) ?_; refine o_step rfl (s_ld rfl (.own meA rfl)) ?_; refine o_step rfl (s_move rfl) ?_; refine o_callP (rBehind_fn K.ra K.rc K.re hK.rng hK.sh y js kp _ hpg.one) rfl rfl rfl (fun _ st => (RdK.old hw.d1 hw.a1).out _ st) (fun v154 hv154 => ?_); subst hv154
           refine o_step rfl (s_assign rfl) ?_; refine o_nil ?_; refine x_block ?_; refine x_then (hK27 _ _ ?_); refine c_region ?_; refine o_step rfl (s_move rfl) ?_; refine o_step rfl (s_add rfl rfl (by omega)) ?_; refine o_step rfl (s_assign rfl) ?_; refine o_nil ?_; exact x_then (x_inv (k + 1, (kp + 1 + js.size), r, a148, c148, l148, So148, σ148, (img (der1 K.w y js) T)) ⟨by dsimp only; omega, hpr, by dsimp only; omega, by dsimp only; omega, hO148, hI148, hT.step, hX.trans hX148 (by omega) (by omega)⟩ (by first | omega | (dsimp only; omega)) sbA hzB)
          ·
           obtain rfl : g = F.nil := F.num_nil (by omega)
           refine o_step rfl (step_cast (v' := .bool false) (s_lss rfl rfl) (by rw [decide_eq_false (by omega)])) ?_; refine o_nil ?_; refine x_then (hK26 _ _ ?_); refine c_false rfl ?_; refine c_exit ?_; refine x_then_exit ?_; refine x_then_exit ?_; refine x_block_exit ?_; refine x_then (hK23 _ _ ?_); refine c_region ?_; refine o_step rfl (s_move rfl) ?_; refine o_step rfl (s_move rfl) ?_; refine o_call (orM2_fn (some ⟨b56, 0, none⟩) _ _ (List.replicate (K.w.length + 1) false) List.length_replicate S56 hS56 ha hc h hlg (by omega)) rfl rfl rfl pkA (fun _ st => ⟨(hOg.rdk hiA).out _ st, St.apart st pkA hOg (by exact hiB)⟩) (fun v157 So157 ⟨hv157, hO157⟩ => ?_); subst hv157
           refine o_nil ?_; refine x_block ?_
           have hle : (orL (List.replicate (K.w.length + 1) false) h).length = K.w.length + 1 := by first | (rw [orL_len, List.length_replicate]) | (rw [List.length_set, List.length_replicate]) | (rw [List.length_replicate]) | exact hll
           exact x_then (hJ9 ⟨orL (List.replicate (K.w.length + 1) false) h, So157, σ⟩ _ _ ⟨own_len hO157 hle, (hT.done hIg), hX⟩ (by exact Sub.cons' rfl (slv hle) sbA) sbA hzB)
         ·
          refine o_step rfl (step_cast (v' := .bool false) (s_eql rfl rfl) (by rw [decide_eq_false h4])) ?_; refine o_step rfl (s_assign rfl) ?_; refine o_nil ?_; refine x_then (hK21 _ _ ?_); refine c_false rfl ?_; refine c_seq fun _ hK29 => ?_; refine c_region ?_
          by_cases h5 : x.op = 5
          ·
           refine o_step rfl (step_cast (v' := .bool true) (s_eql rfl rfl) (by rw [decide_eq_true h5])) ?_; refine o_step rfl (s_assign rfl) ?_; refine o_nil ?_; refine x_then (hK29 _ _ ?_); refine c_true rfl ?_; refine c_seq fun _ hK30 => ?_; refine c_region ?_; refine o_step rfl (s_move rfl) ?_; refine o_step rfl (s_add rfl rfl (by omega)) ?_; refine o_step rfl (s_assign rfl) ?_; refine o_nil ?_; refine x_then (hK30 _ _ ?_); refine c_seq fun _ hK31 => ?_; refine c_region ?_; refine o_step rfl (s_assign rfl) ?_; refine o_nil ?_; refine x_then (hK31 _ _ ?_); refine c_block ?_; refine c_loop7 (fun (k : Nat) (kp : Nat) (g : F) (l : List Bool) (So : Hp) (σ : MeS) (T : Nat → Prop) => at_ + 1 ≤ kp ∧ Part K.re g kp (at_ + 1 + ks.size) ∧ k + g.num = ks.num ∧ g.size ≤ ks.size ∧ OwnS Ebo 1 4 (.slice (some ⟨b56, 0, none⟩) (K.w.length + 1) (K.w.length + 1)) l So ∧ IsS l K.w.length T ∧ AltI K.w x ks g i T ∧ K.Ext (at_ + 1) i1 σ0 σ) (fun (k : Nat) (kp : Nat) (g : F) (l : List Bool) (So : Hp) (σ : MeS) (T : Nat → Prop) => [(14, .int .i64 k), (13, .int .i64 kp)]) [(0, _), (1, _), (2, _), (6, _), (7, _), (8, _)] (fun (k : Nat) (kp : Nat) (g : F) (l : List Bool) (So : Hp) (σ : MeS) (T : Nat → Prop) => (b7, .cells (En x).toArray 108 (0, 0)) :: (K.bM, .cells [.slice K.ra K.re.length K.rc, .slice K.ta K.w.length K.tc, .slice K.ma K.sls.length K.mc, .slice σ.sa σ.ss.length σ.sc].toArray 132 (0, 0)) :: (So ++ (σ.SR ++ (σ.SS ++ σ.Pool)))) (fun (k : Nat) (kp : Nat) (g : F) (l : List Bool) (So : Hp) (σ : MeS) (T : Nat → Prop) => ks.num - k) 0 (at_ + 1) ks (List.replicate (K.w.length + 1) false) S56 σ0 (fun _ => False) ⟨Nat.le_refl _, hpk, by simp, Nat.le_refl _, hS56, .none, .start h5, .refl hI0⟩ sbA sbA hzB ?_
           rintro k kp g l So σ T ⟨hkp, hpg, hkn, hgs, hO, hIl, hT, hX⟩
           have hll := hIl.len
           refine c_seq fun _ hK32 => ?_; refine c_seq fun _ hK33 => ?_; refine c_region ?_; refine o_step rfl (s_move rfl) ?_; refine o_step rfl (s_field rfl rfl (by decide)) ?_; refine o_step rfl (s_ld rfl (.own meA rfl)) ?_
           by_cases hkk : (k : Int) < x.kids
           ·
            obtain ⟨y, js, r, rfl⟩ : ∃ y js r, g = F.nd y js r := by cases g with | nil => simp [F.num] at hkn; omega | nd y a b => exact ⟨y, a, b, rfl⟩
            obtain ⟨hy, hpy, hpr⟩ := hpg.head
            have hgl := hpg.le
            have hgn := hpg.len
            simp only [F.size] at hgn hgs
            have hgm : (F.nd y js r).num = r.num + 1 := by simp [F.num]; try omega
            refine o_step rfl (step_cast (v' := .bool true) (s_lss rfl rfl) (by rw [decide_eq_true (by omega)])) ?_; refine o_nil ?_; refine x_then (hK33 _ _ ?_); refine c_true rfl ?_; refine c_skip ?_; refine x_then (hK32 _ _ ?_); refine c_seq fun _ hK34 => ?_; refine c_block ?_; refine c_seq fun _ hK35 => ?_; refine c_region ?_; refine o_step rfl (s_move rfl) ?_; refine o_step rfl (s_move rfl) ?_; refine o_step rfl (s_move rfl) ?_; refine o_step rfl (s_move rfl) ?_; refine o_call (ih y js (by omega) kp _ hpg.one i hi σ hX.inv) rfl rfl rfl ((Pick.takeC pkA (Pick.takeA pkA pkA))) (fun _ st => ⟨(RdK.old hw.d1 hw.a1).out _ st, St.apart_M st (by exact hiB) hw.d1 hw.a1 (by decide), (RdK.old hw.d2 hw.a2).out _ st, St.apart_M st (by exact hiB) hw.d2 hw.a2 (by decide), (RdK.old hw.d3 hw.a3).out _ st, St.apart_M st (by exact hiB) hw.d3 hw.a3 (by decide)⟩) (fun v172 S172 ⟨a172, c172, l172, S0172, σ172, hv172, hS172, hO172, hi172, hI172, hX172⟩ => ?_)
            subst hv172; subst hS172
            have hl172 := hI172.len
            refine o_call (orM2_fn (some ⟨b56, 0, none⟩) _ _ l hll So hO a172 c172 l172 hl172 (by omega)) rfl rfl rfl pkA (fun _ st => ⟨((hO172.rds.mono hi172).rdk hiA).out _ st, St.apart st pkA hO172 (fun p hp => (show HIn σ172.Pool _ from by exact hiB) p (hi172 p hp))⟩) (fun v173 So173 ⟨hv173, hO173⟩ => ?_); subst hv173
            refine o_nil ?_; refine x_then (hK35 _ _ ?_); refine c_region ?_; refine o_step rfl (s_move rfl) ?_; refine o_step rfl (s_nil rfl) ?_; refine o_step rfl (s_field rfl rfl (by decide)) ?_; refine o_step rfl (s_ld rfl (.own meA rfl)) ?_; refine o_step rfl (s_move rfl) ?_; refine o_callP (rBehind_fn K.ra K.rc K.re hK.rng hK.sh y js kp _ hpg.one) rfl rfl rfl (fun _ st => (RdK.old hw.d1 hw.a1).out _ st) (fun v179 hv179 => ?_); subst hv179
            refine o_step rfl (s_assign rfl) ?_; refine o_nil ?_; refine x_block ?_; refine x_then (hK34 _ _ ?_); refine c_region ?_; refine o_step rfl (s_move rfl) ?_; refine o_step rfl (s_add rfl rfl (by omega)) ?_; refine o_step rfl (s_assign rfl) ?_; refine o_nil ?_; exact x_then (x_inv (k + 1, (kp + 1 + js.size), r, orL l l172, So173, σ172, (fun q => T q ∨ der1 K.w y js i q)) ⟨by dsimp only; omega, hpr, by dsimp only; omega, by dsimp only; omega, hO173, hIl.or hI172, hT.step, hX.trans hX172 (by omega) (by omega)⟩ (by first | omega | (dsimp only; omega)) sbA hzB)
           ·
            obtain rfl : g = F.nil := F.num_nil (by omega)
            refine o_step rfl (step_cast (v' := .bool false) (s_lss rfl rfl) (by rw [decide_eq_false (by omega)])) ?_; refine o_nil ?_; refine x_then (hK33 _ _ ?_); refine c_false rfl ?_; refine c_exit ?_; refine x_then_exit ?_; refine x_then_exit ?_; refine x_block_exit ?_; refine x_block ?_
            have hle : (l).length = K.w.length + 1 := by first | (rw [orL_len, List.length_replicate]) | (rw [List.length_set, List.length_replicate]) | (rw [List.length_replicate]) | exact hll
            exact x_then (hJ9 ⟨l, So, σ⟩ _ _ ⟨own_len hO hle, (hT.done hIl), hX⟩ (by exact Sub.cons' rfl (slv hle) sbA) sbA hzB)
          ·
           exfalso; omega
end Go.Proofs.YtopmnmigpbdddaaGreatDoor

/- What a group has taken is a derivation of its tree. Conditions: none. -/
namespace Go.HL.Kl.Mc
open Go Go.HL Go.HL.Kl AskE
def Gd (w : List UInt8) : F → List Sp → Prop
  | .nil, _ => True
  | .nd x ks r, cs => (x.op = 7 → ∀ s, cs[x.n.toNat]? = some s → s = noS ∨ ∃ p q : Nat, s = ⟨p, q⟩ ∧ der1 w x ks p q) ∧ Gd w ks cs ∧ Gd w r cs
theorem Gd_non {w : List UInt8} : ∀ {f : F} {cs : List Sp}, Non f cs → Gd w f cs
  | .nil, _, _ => trivial
  | .nd x ks r, cs, h => by
    obtain ⟨h1, h2, h3⟩ := h.split
    exact ⟨fun h7 s hs => .inl (by rw [h1 h7] at hs; exact (Option.some.inj hs).symm), Gd_non h2, Gd_non h3⟩
theorem Gd_congr {w : List UInt8} : ∀ {f : F} {cs cs' : List Sp}, (∀ i ∈ gn f, cs'[i]? = cs[i]?) → Gd w f cs → Gd w f cs'
  | .nil, _, _, _, _ => trivial
  | .nd x ks r, cs, cs', hc, h => by
    have hx : x.op = 7 → cs'[x.n.toNat]? = cs[x.n.toNat]? := fun h7 => hc _ (by rw [gn_nd]; simp [h7])
    exact ⟨fun h7 s hs => h.1 h7 s (by rw [← hx h7]; exact hs), Gd_congr (fun i hi => hc i (by rw [gn_nd]; simp [hi])) h.2.1, Gd_congr (fun i hi => hc i (by rw [gn_nd]; simp [hi])) h.2.2⟩
theorem reps_gd {w : List UInt8} {x : Nd} {D : Nat → Nat → Prop} {B : Nat → Nat → List Sp → List Sp} {q : Nat} {ks : F} {N : Nat}
    (hB : ∀ p m cs, cs.length = N → D p m → Gd w ks (B p m cs) ∧ (B p m cs).length = N) :
    ∀ f r p cs, cs.length = N → Gd w ks cs → Gd w ks (reps x D B q f r p cs)
  | 0, r, p, cs, _, h => h
  | f + 1, r, p, cs, hl, h => by
    by_cases hg : ∃ m, Grt (RQ x D r p q) p q m
    · obtain ⟨m, hm⟩ := hg
      rw [reps_go hm]
      obtain ⟨h1, h2⟩ := hB p m cs hl hm.2.2.1.2.2.1
      exact reps_gd hB f (nxtR x r) m (B p m cs) h2 h1
    · have : ∀ m, p ≤ m → m ≤ q → ¬ RQ x D r p q m := fun m a b c => hg (grt_ex a b c)
      rw [reps_end this]
      exact h
theorem bst_gd (w : List UInt8) : ∀ (f : F) (m : Bool) (p q : Nat) (cs : List Sp), (gn f).Nodup → (∀ i ∈ gn f, i < cs.length) → Non f cs → der w f m p q → Gd w f (bst w f m p q cs)
  | .nil, m, p, q, cs, _, _, _, _ => by rw [bst_nil]; trivial
  | .nd x ks r, m, p, q, cs, hnd, hsl, hno, hd => by
    obtain ⟨n1, n2, n3, n4⟩ := nodup_parts hnd
    have s1 : ∀ i ∈ gn ks, i < cs.length := fun i hi => hsl i (by rw [gn_nd]; simp [hi])
    have s2 : ∀ i ∈ gn r, i < cs.length := fun i hi => hsl i (by rw [gn_nd]; simp [hi])
    have s3 : x.op = 7 → x.n.toNat < cs.length := fun h7 => hsl _ (by rw [gn_nd]; simp [h7])
    obtain ⟨o1, o2, o3⟩ := hno.split
    have g1 : ∀ i, i ∈ gn (.nd x ks .nil) ↔ (x.op = 7 ∧ i = x.n.toNat) ∨ i ∈ gn ks := fun i => by
      rw [gn_nd]
      by_cases h7 : x.op = 7 <;> simp [h7, gn, gl, F.flat]
    have g3 : ∀ i ∈ gn (.nd x ks .nil), i ∉ gn r := fun i hi => by
      rcases (g1 i).1 hi with ⟨h7, rfl⟩ | h
      · exact (n4 h7).2
      · exact n3 i h
    have nd1 : (gn (.nd x ks .nil)).Nodup := by
      rw [gn_nd]
      have e : gn F.nil = [] := rfl
      rw [e, List.append_nil]
      by_cases h7 : x.op = 7
      · rw [if_pos h7]; exact List.nodup_cons.2 ⟨(n4 h7).1, n1⟩
      · rw [if_neg h7]; exact n1
    have sl1 : ∀ i ∈ gn (.nd x ks .nil), i < cs.length := fun i hi => by
      rcases (g1 i).1 hi with ⟨h7, rfl⟩ | h
      · exact s3 h7
      · exact s1 i h
    have no1 : Non (.nd x ks .nil) cs := fun i hi => by
      rcases (g1 i).1 hi with ⟨h7, rfl⟩ | h
      · exact o1 h7
      · exact o2 i h
    have fr1 : ∀ p q, der1 w x ks p q → ∀ i, i ∉ gn (.nd x ks .nil) → (bst1 w x ks p q cs)[i]? = cs[i]? := fun p q h1 => by
      have := (bst_nst w (.nd x ks .nil) false p q cs nd1 sl1 no1 (der_one.2 h1)).2
      rw [bst_one h1] at this
      exact this
    have one : ∀ p q, der1 w x ks p q → Gd w (.nd x ks .nil) (bst1 w x ks p q cs) := by
      intro p q h1
      by_cases h7 : x.op = 7
      · rw [bst1_7 h7]
        obtain ⟨f1, f2⟩ := fgt_get ks.flat cs s1
        have hdk := (der1_4 (.inr h7)).1 h1
        have k1 := bst_gd w ks false p q (fgt ks.flat cs) n1 (by rw [fgt_len]; exact s1) f1 hdk
        have hlen : (bst w ks false p q (fgt ks.flat cs)).length = cs.length := by rw [bst_len, fgt_len]
        refine ⟨fun _ s hs => ?_, Gd_congr (fun i hi => List.getElem?_set_ne (fun e => (n4 h7).1 (by rw [e]; exact hi))) k1, trivial⟩
        rw [List.getElem?_set_self (by rw [hlen]; exact s3 h7)] at hs
        exact .inr ⟨p, q, (Option.some.inj hs).symm, h1⟩
      · have tr : ∀ c, Gd w ks c → Gd w (.nd x ks .nil) c := fun c h => ⟨fun h => absurd h h7, h, trivial⟩
        by_cases h5 : x.op = 5
        · rw [bst1_5 h5]
          exact tr _ (bst_gd w ks true p q cs n1 s1 o2 ((der1_5 h5).1 h1))
        by_cases h4 : x.op = 4
        · rw [bst1_4 h4]
          exact tr _ (bst_gd w ks false p q cs n1 s1 o2 ((der1_4 (.inl h4)).1 h1))
        by_cases h6 : x.op = 6
        · rw [bst1_6 h6]
          exact tr _ (reps_gd (x := x) (D := der w ks false) (B := fun p q cs => bst w ks false p q (fgt ks.flat cs)) (q := q) (ks := ks) (N := cs.length) (fun p m c hc hm => by
            obtain ⟨f1, f2⟩ := fgt_get ks.flat c (by rw [hc]; exact s1)
            exact ⟨bst_gd w ks false p m (fgt ks.flat c) n1 (by rw [fgt_len, hc]; exact s1) f1 hm, by rw [bst_len, fgt_len, hc]⟩) ((q - p) + max x.mn.toNat 1 + 1) 0 p cs rfl (Gd_non o2))
        · have e : bst1 w x ks p q cs = cs := by rw [bst1, if_neg h7, if_neg h5, if_neg h4, if_neg h6]
          rw [e]
          exact tr _ (Gd_non o2)
    cases m with
    | true =>
      rw [bst_alt]
      split
      · rename_i hq
        have h1 := dQ_iff.1 hq
        have k1 := one p q h1
        exact ⟨k1.1, k1.2.1, Gd_non fun i hi => by rw [fr1 p q h1 i (fun h => g3 i h hi)]; exact o3 i hi⟩
      · rename_i hq
        have hdr := (der_alt.1 hd).resolve_left fun h => hq (dQ_t h)
        have k1 := bst_gd w r true p q cs n2 s2 o3 hdr
        have k2 := (bst_nst w r true p q cs n2 s2 o3 hdr).2
        have k3 : Gd w (.nd x ks .nil) (bst w r true p q cs) := Gd_non fun i hi => by rw [k2 i (g3 i hi)]; exact no1 i hi
        exact ⟨k3.1, k3.2.1, k1⟩
    | false =>
      obtain ⟨t, h1, h2⟩ := der_cat.1 hd
      obtain ⟨n, hn⟩ := grt_ex (Q := fun n => der1 w x ks p n ∧ der w r false n q) (der1_up _ _ h1) (der_up _ _ _ _ h2) ⟨h1, h2⟩
      rw [bst_cat hn]
      have k1 := one p n hn.2.2.1.1
      have no2 : Non r (bst1 w x ks p n cs) := fun i hi => by rw [fr1 p n hn.2.2.1.1 i (fun h => g3 i h hi)]; exact o3 i hi
      have sl2 : ∀ i ∈ gn r, i < (bst1 w x ks p n cs).length := by rw [bst1_len]; exact s2
      have l1 := bst_gd w r false n q (bst1 w x ks p n cs) n2 sl2 no2 hn.2.2.1.2
      have l2 := (bst_nst w r false n q (bst1 w x ks p n cs) n2 sl2 no2 hn.2.2.1.2).2
      have k3 : Gd w (.nd x ks .nil) (bst w r false n q (bst1 w x ks p n cs)) := Gd_congr (fun i hi => l2 i (g3 i hi)) k1
      exact ⟨k3.1, k3.2.1, l1⟩
theorem caps_gd {re : List Nd} {w : List UInt8} {x : Nd} {ks : F} {p q : Nat} (hm : May re w x ks) (hd : der1 w x ks p q) : Gd w (.nd x ks .nil) (capsV w re x ks p q) := by
  obtain ⟨h1, h2⟩ := gl_take hm.sh re.length (Nat.le_refl _)
  rw [List.take_length] at h1 h2
  have hg := gn_root hm.hs
  have k1 := bst_gd w (.nd x ks .nil) false p q (List.replicate (gcn re + 1) noS) (by rw [hg]; exact h1) (fun i hi => by rw [hg] at hi; have := h2 i hi; simp; omega) (fun i hi => by
    rw [hg] at hi; have := h2 i hi
    rw [List.getElem?_replicate, if_pos (by omega)]) (der_one.2 hd)
  rw [bst_one hd] at k1
  exact Gd_congr (fun i hi => by
    rw [hg] at hi; have := h2 i hi
    rw [capsV, List.getElem?_set_ne (by omega)]) k1
theorem Gd_at {w : List UInt8} {re : List Nd} {cs : List Sp} : ∀ (f : F) (i e : Nat), Part re f i e → Gd w f cs → ∀ j y js r j', Part re (.nd y js r) j j' → i ≤ j → j < e → y.op = 7 →
    ∀ s, cs[y.n.toNat]? = some s → s = noS ∨ ∃ p q : Nat, s = ⟨p, q⟩ ∧ der1 w y js p q
  | .nil, i, e, hp, _, j, y, js, r, j', hj, h1, h2, h7 => by have := hp.len; simp only [F.size] at this; omega
  | .nd x ks rr, i, e, hp, hn, j, y, js, r, j', hj, h1, h2, h7 => by
    obtain ⟨hx, hk, hr⟩ := hp.head
    by_cases e1 : j = i
    · subst e1
      obtain rfl := hp.uniq hj
      obtain rfl : x = y := by have := hj.head.1; rw [hx] at this; exact Option.some.inj this
      exact hn.1 h7
    by_cases e2 : j < i + 1 + ks.size
    · exact Gd_at ks _ _ hk hn.2.1 j y js r j' hj (by omega) e2 h7
    · exact Gd_at rr _ _ hr hn.2.2 j y js r j' hj (by omega) h2 h7
def GpsI (re : List Nd) (l : List Nat) (i : Nat) : Prop := l.length = gcn (re.take i) ∧ ∀ (k j : Nat), l[k]? = some j → j < i ∧ ∃ y, re[j]? = some y ∧ y.op = 7 ∧ k = gcn (re.take j)
theorem GpsI.nil {re : List Nd} : GpsI re [] 0 := ⟨by simp [gcn], fun k j h => by simp at h⟩
theorem GpsI.yes {re : List Nd} {l : List Nat} {i : Nat} {y : Nd} (h : GpsI re l i) (hy : re[i]? = some y) (h7 : y.op = 7) : GpsI re (l ++ [i]) (i + 1) := by
  have ht := gcn_take hy
  rw [if_pos h7] at ht
  refine ⟨by rw [List.length_append, h.1, ht]; rfl, fun k j hk => ?_⟩
  rcases Nat.lt_or_ge k l.length with hl | hl
  · rw [List.getElem?_append_left hl] at hk
    obtain ⟨a, b⟩ := h.2 k j hk
    exact ⟨by omega, b⟩
  · rw [List.getElem?_append_right hl] at hk
    have hk0 : k - l.length = 0 := by
      rcases Nat.lt_or_ge (k - l.length) 1 with h' | h'
      · omega
      · rw [List.getElem?_eq_none (by simpa using h')] at hk; cases hk
    rw [hk0] at hk
    have hk : i = j := by simpa using hk
    subst hk
    exact ⟨by omega, y, hy, h7, by have := h.1; omega⟩
theorem GpsI.no {re : List Nd} {l : List Nat} {i : Nat} {y : Nd} (h : GpsI re l i) (hy : re[i]? = some y) (h7 : ¬ y.op = 7) : GpsI re l (i + 1) := by
  have ht := gcn_take hy
  rw [if_neg h7] at ht
  exact ⟨by rw [h.1, ht]; rfl, fun k j hk => by
    obtain ⟨a, b⟩ := h.2 k j hk
    exact ⟨by omega, b⟩⟩
theorem means_grp {re : List Nd} {w : List UInt8} {x : Nd} {ks : F} {p q : Nat} {l : List Nat} (hm : May re w x ks) (hd : der1 w x ks p q) (hg : GpsI re l re.length) {k i : Nat} (hk : l[k]? = some i) :
    ∃ y js r e s, Part re (.nd y js r) i e ∧ y.op = 7 ∧ (capsV w re x ks p q)[k + 1]? = some s ∧ (s = noS ∨ ∃ a b : Nat, s = ⟨a, b⟩ ∧ p ≤ a ∧ a ≤ b ∧ b ≤ q ∧ der1 w y js a b ∧
      ∀ j i2 y2 js2 r2 e2, l[j]? = some i2 → Part re (.nd y2 js2 r2) i2 e2 → i2 ≤ i → i < i2 + 1 + js2.size → ∃ s2, (capsV w re x ks p q)[j + 1]? = some s2 ∧ 0 ≤ s2.fr ∧ s2.fr ≤ (a : Int) ∧ (b : Int) ≤ s2.to) := by
  have hn : ∀ k i, l[k]? = some i → ∃ y js r e, Part re (.nd y js r) i e ∧ y.op = 7 ∧ y.n.toNat = k + 1 := fun k i hk => by
    obtain ⟨h1, y, h2, h3, h4⟩ := hg.2 k i hk
    obtain ⟨y', js, r, e, hp⟩ := part_at _ _ _ hm.hs.part i (Nat.zero_le _) h1
    obtain rfl : y = y' := by have := hp.head.1; rw [h2] at this; exact Option.some.inj this
    exact ⟨y, js, r, e, hp, h3, by have := (grp_n hm.sh h2 h3).1; omega⟩
  obtain ⟨y, js, r, e, hp, h7, hyn⟩ := hn k i hk
  obtain ⟨s, hs, hc, _⟩ := nest_law hm hd hp h7
  rw [hyn] at hs
  have hilt := (List.getElem?_eq_some_iff.1 hp.head.1).1
  have hgd := Gd_at _ _ _ hm.hs.part (caps_gd hm hd) i y js r e hp (Nat.zero_le _) hilt h7 s (by rw [hyn]; exact hs)
  refine ⟨y, js, r, e, s, hp, h7, hs, ?_⟩
  rcases hgd with h0 | ⟨a, b, rfl, hab⟩
  · exact .inl h0
  refine .inr ⟨a, b, rfl, ?_⟩
  have hne : (⟨a, b⟩ : Sp) ≠ noS := fun e => by simp only [noS, Sp.mk.injEq] at e; omega
  obtain ⟨c1, c2, c3⟩ := hc.resolve_left hne
  refine ⟨by simpa using c1, by simpa using c2, by simpa using c3, hab, fun j i2 y2 js2 r2 e2 hj hp2 hi1 hi2 => ?_⟩
  obtain ⟨y2', js2', r2', e2', hp2', h72, hyn2⟩ := hn j i2 hj
  obtain rfl : y2 = y2' := by have := hp2.head.1; rw [hp2'.head.1] at this; exact (Option.some.inj this).symm
  obtain ⟨s2, hs2, hc2, hin⟩ := nest_law hm hd hp2 h72
  rw [hyn2] at hs2
  obtain ⟨t, ht, ht1, ht2⟩ := hin i y hi1 hi2 hp.head.1 h7
  rw [hyn, hs] at ht
  obtain rfl := Option.some.inj ht
  have hs2n : s2 ≠ noS := fun e => hne (ht1 e)
  obtain ⟨d1, d2, d3⟩ := hc2.resolve_left hs2n
  obtain ⟨u1, u2⟩ := (ht2 hs2n).resolve_left hne
  exact ⟨s2, hs2, by omega, u1, u2⟩
end Go.HL.Kl.Mc

/- The search for the least place, place by place. Conditions: none. -/
namespace Go.HL.Kl.Mc
open Go Go.HL Go.HL.Kl AskE
theorem GpsI.lt {re : List Nd} {l : List Nat} {n j k a b : Nat} (h : GpsI re l n) (hj : l[j]? = some a) (hk : l[k]? = some b) (hjk : j < k) : a < b := by
  obtain ⟨_, _, _, _, h1⟩ := h.2 j a hj
  obtain ⟨_, _, _, _, h2⟩ := h.2 k b hk
  rcases Nat.lt_or_ge a b with h3 | h3
  · exact h3
  · have := gcn_mono (re := re) h3
    omega
def LastI (w : List UInt8) (x : Nd) (ks : F) (i : Nat) (r : Int) : Prop := (∃ q : Nat, r = q ∧ q ≤ w.length ∧ der1 w x ks i q ∧ ∀ q', q < q' → q' ≤ w.length → ¬ der1 w x ks i q') ∨ (r = -1 ∧ ∀ q, q ≤ w.length → ¬ der1 w x ks i q)
def Sch (w : List UInt8) (x : Nd) (ks : F) (f i s t : Int) : Prop := f ≤ i ∧ ((t = -1 ∧ ∀ p' q' : Nat, f ≤ p' → (p' : Int) < i → q' ≤ w.length → ¬ der1 w x ks p' q') ∨
  (0 ≤ f ∧ ∃ p q : Nat, s = p ∧ t = q ∧ f ≤ p ∧ q ≤ w.length ∧ der1 w x ks p q ∧ (∀ q', q < q' → q' ≤ w.length → ¬ der1 w x ks p q') ∧ ∀ p' q' : Nat, f ≤ p' → p' < p → q' ≤ w.length → ¬ der1 w x ks p' q'))
theorem Sch.start {w : List UInt8} {x : Nd} {ks : F} {f s : Int} : Sch w x ks f f s (-1) := ⟨Int.le_refl _, .inl ⟨rfl, fun p' q' h1 h2 => by omega⟩⟩
theorem Sch.step {w : List UInt8} {x : Nd} {ks : F} {f s t r : Int} {k : Nat} (h : Sch w x ks f k s t) (hf : 0 ≤ f) (ht : t < 0) (hr : LastI w x ks k r) : Sch w x ks f (k + 1) k r := by
  obtain ⟨h1, h2⟩ := h
  have hn : ∀ p' q' : Nat, f ≤ p' → p' < k → q' ≤ w.length → ¬ der1 w x ks p' q' := by
    rcases h2 with ⟨_, h3⟩ | ⟨_, p, q, _, h3, _⟩
    · exact fun p' q' a b c => h3 p' q' a (by omega) c
    · omega
  refine ⟨by omega, ?_⟩
  rcases hr with ⟨q, rfl, h4, h5, h6⟩ | ⟨rfl, h4⟩
  · exact .inr ⟨hf, k, q, rfl, rfl, h1, h4, h5, h6, hn⟩
  · refine .inl ⟨rfl, fun p' q' a b c => ?_⟩
    by_cases e : p' = k
    · subst e; exact h4 q' c
    · exact hn p' q' a (by omega) c
theorem Sch.yes {w : List UInt8} {x : Nd} {ks : F} {i s t : Int} {g p q : Nat} (h : Sch w x ks g i s t) (hl : Lft w x ks g p q) (he : (w.length : Int) < i ∨ 0 ≤ t) : s = p ∧ t = q := by
  obtain ⟨_, h2⟩ := h
  have g1 := hl.ge
  have g2 := hl.le
  have g3 := hl.len
  rcases h2 with ⟨h3, h4⟩ | ⟨_, p2, q2, h3, h4, h5, h6, h7, h8, h9⟩
  · exact absurd hl.der (h4 p q (by omega) (by omega) hl.len)
  · have hp : p2 = p := by
      rcases Nat.lt_trichotomy p2 p with a | a | a
      · exact absurd h7 (hl.left p2 q2 (by omega) a h6)
      · exact a
      · exact absurd hl.der (h9 p q (by omega) a hl.len)
    subst hp
    have hq : q2 = q := by
      rcases Nat.lt_trichotomy q2 q with a | a | a
      · exact absurd hl.der (h8 q a hl.len)
      · exact a
      · exact absurd h7 (hl.long q2 a h6)
    subst hq
    exact ⟨h3, h4⟩
theorem Sch.no {w : List UInt8} {x : Nd} {ks : F} {re : List Nd} {f i s t : Int} (h : Sch w x ks f i s t) (hM : May re w x ks) (hn : ¬ ∃ x ks, ∃ g p q : Nat, May re w x ks ∧ f = g ∧ g ≤ p ∧ q ≤ w.length ∧ der1 w x ks p q) : t = -1 := by
  obtain ⟨_, h2⟩ := h
  rcases h2 with ⟨h3, _⟩ | ⟨h0, p, q, _, _, h5, h6, h7, _⟩
  · exact h3
  · exact absurd ⟨x, ks, f.toNat, p, q, hM, by omega, by omega, h6, h7⟩ hn
end Go.HL.Kl.Mc
