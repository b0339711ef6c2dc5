/- Part of the proofs over this seat: see the text that holds the theorem. Conditions: each theorem bears its own. -/
import Derived.Test.YtmompllplidphaaDoorSM22Z
import Derived.Test.YtmompllplidphaaDoorSE4Z
import Derived.Test.YtmompllplidphaaDoorSW2Z
import Derived.Test.YtmompllplidphaaDoorSM15Z
import Derived.Test.YtmompllplidphaaDoorSN23Z
namespace Go.Proofs.YtmompllplidphaaDoor
open Go Go.HL Go.Proofs Go.HL.Kl Go.HL.Kl.Mc Go.HL.Kl.Mc.AskE
open MeE
structure MeJ where
  (l : List Bool) (So : Hp) (σ : MeS)
theorem own_len {a : Option Addr} {n c : Nat} {l : List Bool} {S : Hp} (h : OwnS Ebo 1 4 (.slice a n c) l S) (hn : l.length = n) : OwnS Ebo 1 4 (.slice a l.length c) l S := by rw [hn]; exact h
theorem slv {a : Option Addr} {n c : Nat} {l : List Bool} (hn : l.length = n) : Value.slice a n c = .slice a l.length c := by rw [hn]
theorem MeE.StepT.of {K : MeE} (hK : K.ok) {y : Nd} {js : F} (hE : K.EndsT y js) : K.StepT y js := fun at_ i1 hp fa fc fr S hS σ hI => step_fnM K hK y js hE at_ i1 hp fa fc fr S hS σ hI
theorem MeE.RoundT.of {K : MeE} (hK : K.ok) {x y : Nd} {js : F} (hSt : K.StepT y js) : K.RoundT x y js := fun at_ i1 h6 hp fa fc fr Sh S hO hS hSb σ hI => rounds_fnM K hK x y js hSt at_ i1 h6 hp fa fc fr Sh S hO hS hSb σ hI
theorem MeE.RoundT.at' {K : MeE} {x y : Nd} {js : F} (h : K.RoundT x y js) (at_ i1 : Nat) (h6 : x.op = 6) (hp : Part K.re (.nd x (.nd y js .nil) .nil) at_ i1) (fa : Option Addr) (fc n : Nat) (fr : List Bool) (hn : fr.length = n) (Sh : Hp) (S : Nat → Prop) (hO : OwnS Ebo 1 4 (.slice fa n fc) fr Sh) (hS : IsS fr K.w.length S) (hSb : ∀ p, S p → p ≤ K.w.length) (σ : MeS) (hI : K.Inv σ) :
  HL.Fn Tryd.prog 99 [pt K.bM, .int .i64 at_, .slice fa n fc] (fun W => K.Env W (K.obj σ :: (Sh ++ (σ.SR ++ (σ.SS ++ σ.Pool))))) (K.obj σ :: (Sh ++ (σ.SR ++ (σ.SS ++ σ.Pool)))) (K.OutQ (at_ + 1) i1 (img (rounds x (der1 K.w y js)) S) σ) := by
  subst hn; exact h at_ i1 h6 hp fa fc fr Sh S hO hS hSb σ hI
set_option maxHeartbeats 4000000 in
theorem ends_fnM (K : MeE) (hK : K.ok) (x : Nd) (ks : F) (ih : ∀ y js, js.size < ks.size → K.EndsT y js) (at_ i1 : Nat) (hp : Part K.re (.nd x ks .nil) at_ i1) (i : Nat) (hi : i ≤ K.w.length) (σ0 : MeS) (hI0 : K.Inv σ0) : HL.Fn Tryd.prog 66 [pt K.bM, .int .i64 at_, .int .i64 i] (fun W => K.Env W ((K.bM, .cells [.slice K.ra K.re.length K.rc, .slice K.ta K.w.length K.tc, .slice K.ma K.sls.length K.mc, .slice σ0.sa σ0.ss.length σ0.sc].toArray 106 (0, 0)) :: (σ0.SR ++ (σ0.SS ++ σ0.Pool)))) ((K.bM, .cells [.slice K.ra K.re.length K.rc, .slice K.ta K.w.length K.tc, .slice K.ma K.sls.length K.mc, .slice σ0.sa σ0.ss.length σ0.sc].toArray 106 (0, 0)) :: (σ0.SR ++ (σ0.SS ++ σ0.Pool))) (K.EndQ at_ i1 (der1 K.w x ks i) σ0) := by
  refine fn_of Tryd.func66 rfl rfl rfl fun w0 hw => ?_
  have hwl := hK.wl
  have hrl := hK.rl
  have hres := hw.d1.sl
  have hts := hw.d2.sl
  have hms := hw.d3.sl
  have hple := hp.le
  have hpl := hp.len
  obtain ⟨hx, hpk, _⟩ := hp.head
  have hxs : (F.nd x ks .nil).size = 1 + ks.size := by simp only [F.size]; omega
  have hat := (List.getElem?_eq_some_iff.1 hx).1
  have hnks := F.num_le ks
  have hasl : at_ < K.sls.length := by rw [hK.sl]; exact hat
  have hok : ndOk x = true := hp.wf.1
  have hop : 1 ≤ x.op ∧ x.op ≤ 8 := (flds_iff.1 (by simp only [ndOk, Bool.and_eq_true] at hok; exact hok.1)).1
  have hx8 := hK.r8 x (List.mem_of_getElem? hx)
  have hkn0 : (ks.num : Int) = x.kids := hp.wf.2.1
  have hcnt := hI0.cnt
  obtain ⟨sx, hsx⟩ : ∃ s, K.sls[at_]? = some s := ⟨_, List.getElem?_eq_getElem hasl⟩
  obtain ⟨row, R1, Rn, R2, hrow, hSR, hOr, hput⟩ := hI0.rows.at hsx
  have hOr : OwnS Eix 1 3 (.slice sx.a sx.xs.length sx.c) row Rn := hOr
  have hrow1 := hI0.len _ _ hrow
  obtain ⟨mv, hmv⟩ : ∃ m, row[i]? = some m := ⟨_, List.getElem?_eq_getElem (by omega)⟩
  have hRn : HIn Rn σ0.SR := by rw [hSR]; exact fun p hp => List.mem_append_right _ (List.mem_append_left _ hp)
  have hlv : row.length = sx.xs.length := hOr.lenv
  have hOrs : IsSl (.slice sx.a sx.xs.length sx.c) sx.xs.length := by have h := hOr.sl; rw [hlv] at h; exact h
  have hsets := hI0.sets.sl
  refine c_seq fun _ hK1 => ?_
  refine c_region ?_
  refine o_step rfl (s_assign rfl) ?_
  refine o_nil ?_
  refine x_then (hK1 _ _ ?_)
  refine c_seq fun _ hK2 => ?_
  refine c_seq fun _ hK3 => ?_
  refine c_region ?_
  refine o_step rfl (s_move rfl) ?_
  refine o_step rfl (s_nil rfl) ?_
  refine o_step rfl (s_field rfl rfl (by decide)) ?_
  refine o_step rfl (s_ld rfl (.own meA rfl)) ?_
  refine o_step rfl (s_move rfl) ?_
  refine o_step rfl (s_idx rfl rfl hms (by omega)) ?_
  refine o_step rfl (s_ld rfl ((RdK.old hw.d3 hw.a3).ld at_ 0 hsx rfl (by decide) (by omega))) ?_
  refine o_step rfl (s_move rfl) ?_
  refine o_step rfl (s_idx rfl rfl hOrs (by omega)) ?_
  refine o_step rfl (s_ld rfl (((hOr.rds.mono hRn).rdk hiA).ld i 0 hmv rfl (by decide) (by omega))) ?_
  by_cases hmz : (mv : Int) > 0
  ·
   obtain ⟨m, rfl⟩ : ∃ m, mv = m + 1 := ⟨mv - 1, by omega⟩
   obtain ⟨s, hss, hD⟩ := hI0.tab _ _ _ _ hrow hmv
   obtain ⟨hs1, S0, hin0, hO0⟩ := hI0.pool s (List.mem_of_getElem? hss)
   have hml := (List.getElem?_eq_some_iff.1 hss).1
   refine o_step rfl (step_cast (v' := .bool true) (s_gtr rfl rfl) (by rw [decide_eq_true (by omega)])) ?_
   refine o_nil ?_
   refine x_then (hK3 _ _ ?_)
   refine c_true rfl ?_
   refine c_seq fun _ hK4 => ?_
   refine c_quiet (by kernel_rfl) ?_
   refine .op rfl (s_move rfl) ?_
   refine .op rfl (s_nil rfl) ?_
   refine .op rfl (s_field rfl rfl (by decide)) ?_
   refine .op rfl (s_ld rfl (.own meA rfl)) ?_
   refine .op rfl (s_move rfl) ?_
   refine .op rfl (s_nil rfl) ?_
   refine .op rfl (s_field rfl rfl (by decide)) ?_
   refine .op rfl (s_ld rfl (.own meA rfl)) ?_
   refine .op rfl (s_move rfl) ?_
   refine .op rfl (s_idx rfl rfl hms (by omega)) ?_
   refine .op rfl (s_ld rfl ((RdK.old hw.d3 hw.a3).ld at_ 0 hsx rfl (by decide) (by omega))) ?_
   refine .op rfl (s_move rfl) ?_
   refine .op rfl (s_idx rfl rfl hOrs (by omega)) ?_
   refine .op rfl (s_ld rfl (((hOr.rds.mono hRn).rdk hiA).ld i 0 hmv rfl (by decide) (by omega))) ?_
   refine .op rfl (step_cast (v' := .int .i64 (m : Nat)) (s_sub rfl rfl (by omega)) (congrArg _ (by omega))) ?_
   refine .op rfl (s_idx rfl rfl hsets (by omega)) ?_
   refine .op rfl (s_ld rfl ((hI0.sets.rdk hiA).ld m 0 hss rfl (by decide) (by omega))) ?_
   refine .op rfl (s_assign rfl) ?_
   refine .nil ?_
   refine x_then (hK4 _ _ ?_)
   refine c_ret ?_
   refine x_then_ret (?_)
   refine x_sub (Sub.refl _) (H' := ((K.bM, .cells [.slice K.ra K.re.length K.rc, .slice K.ta K.w.length K.tc, .slice K.ma K.sls.length K.mc, .slice σ0.sa σ0.ss.length σ0.sc].toArray 106 (0, 0)) :: (σ0.SR ++ (σ0.SS ++ σ0.Pool)))) hzB ?_
   exact x_ret rfl (.tmp rfl (.nil)) (⟨s.a, s.c, s.xs, S0, σ0, rfl, rfl, hO0, hin0, hD x ks .nil i1 hp, .refl hI0⟩)
  ·
   obtain rfl : mv = 0 := by omega
   refine o_step rfl (step_cast (v' := .bool false) (s_gtr rfl rfl) (by rw [decide_eq_false (by omega)])) ?_
   refine o_nil ?_
   refine x_then (hK3 _ _ ?_)
   refine c_false rfl ?_
   refine c_skip ?_
   refine x_then (hK2 _ _ ?_)
   refine c_seq fun _ hK5 => ?_
   refine c_region ?_
   refine o_step rfl (s_move rfl) ?_
   refine o_step rfl (s_nil rfl) ?_
   refine o_step rfl (s_field rfl rfl (by decide)) ?_
   refine o_step rfl (s_ld rfl (.own meA rfl)) ?_
   refine o_step rfl (s_move rfl) ?_
   refine o_step rfl (s_idx rfl rfl hres (by omega)) ?_
   refine o_step rfl (s_ldB rfl ((RdK.old hw.d1 hw.a1).lds at_ hx rfl) (by rfl)) ?_
   refine o_alloc (l := En zN) (by rw [En_zero]; rfl) rfl fun b7 => ?_
   refine o_stW rfl rfl upA lnA lnA onA ?_
   refine o_nil ?_
   refine x_then (hK5 _ _ ?_)
   refine c_seq fun _ hK6 => ?_
   refine c_region ?_
   refine o_step rfl (s_move rfl) ?_
   refine o_step rfl (s_nil rfl) ?_
   refine o_step rfl (s_field rfl rfl (by decide)) ?_
   refine o_step rfl (s_ld rfl (.own meA rfl)) ?_
   refine o_step rfl (s_len rfl) ?_
   refine o_step rfl (s_add rfl rfl (by omega)) ?_
   refine o_make (E := Ebo) (zx := false) (n := K.w.length + 1) rfl rfl rfl (by omega) (by omega) rfl fun b56 S56 hS56 => ?_
   have hS56s := hS56.sl
   rw [List.length_replicate] at hS56s
   refine o_step rfl (s_assign rfl) ?_
   refine o_nil ?_
   refine x_then (hK6 _ _ ?_)
   refine c_seq fun _ hK7 => ?_
   refine c_region ?_
   refine o_step rfl (s_move rfl) ?_
   refine o_step rfl (s_nil rfl) ?_
   refine o_step rfl (s_field rfl rfl (by decide)) ?_
   refine o_step rfl (s_ld rfl (.own meA rfl)) ?_
   refine o_step rfl (s_len rfl) ?_
   refine o_step rfl (s_add rfl rfl (by omega)) ?_
   refine o_make (E := Ebo) (zx := false) (n := K.w.length + 1) rfl rfl rfl (by omega) (by omega) rfl fun b63 S63 hS63 => ?_
   have hS63s := hS63.sl
   rw [List.length_replicate] at hS63s
   refine o_step rfl (s_assign rfl) ?_
   refine o_nil ?_
   refine x_then (hK7 _ _ ?_)
   refine c_seq fun _ hK8 => ?_
   refine c_region ?_
   refine o_step rfl (s_move rfl) ?_
   refine o_step rfl (s_move rfl) ?_
   refine o_step rfl (s_idx rfl rfl hS63s (by omega)) ?_
   refine o_stS1 i true hS63 pkA rfl rfl rfl (by rw [List.length_replicate]; omega) (by omega) fun Sh0 hSh0 => ?_
   have hIh : IsS ((List.replicate (K.w.length + 1) false).set i true) K.w.length (fun q => q = i) := .one hi
   refine o_nil ?_
   refine x_then (hK8 _ _ ?_)
   refine c_seqJ (ι := MeJ) (fun q => OwnS Ebo 1 4 (.slice (some ⟨b56, 0, none⟩) q.l.length (K.w.length + 1)) q.l q.So ∧ IsS q.l K.w.length (der1 K.w x ks i) ∧ K.Ext (at_ + 1) i1 σ0 q.σ) (fun q => [(8, .slice (some ⟨b56, 0, none⟩) q.l.length (K.w.length + 1))]) [(0, _), (1, _), (2, _), (6, _)] (fun q => (K.bM, .cells [.slice K.ra K.re.length K.rc, .slice K.ta K.w.length K.tc, .slice K.ma K.sls.length K.mc, .slice q.σ.sa q.σ.ss.length q.σ.sc].toArray 106 (0, 0)) :: (q.So ++ (q.σ.SR ++ (q.σ.SS ++ q.σ.Pool)))) sbA ?_ ?_
   ·
    rintro q ⟨hOq, hIq, hXq⟩
    have hlq := hIq.len
    have hcq := hXq.inv.cnt
    obtain ⟨row2, Q1, Qn, Q2, hrow2, hSR2, hOr2, hput2⟩ := hXq.inv.rows.at hsx
    have hOr2 : OwnS Eix 1 3 (.slice sx.a sx.xs.length sx.c) row2 Qn := hOr2
    have hr2 : row2 = row := by have h1 := hXq.out at_ (.inl (Nat.lt_succ_self _)); rw [hrow2, hrow] at h1; exact Option.some.inj h1
    subst hr2
    have hOr2s : IsSl (.slice sx.a sx.xs.length sx.c) sx.xs.length := by have h := hOr2.sl; rw [hlv] at h; exact h
    rw [hSR2]
    refine c_seq fun _ hK10 => ?_
    refine c_region ?_
    refine o_step rfl (s_move rfl) ?_
    refine o_step rfl (s_move rfl) ?_
    refine o_step rfl (s_nil rfl) ?_
    refine o_step rfl (s_field rfl rfl (by decide)) ?_
    refine o_step rfl (s_ld rfl (.own meA rfl)) ?_
    refine o_step rfl (s_move rfl) ?_
    refine o_bs (E := Esl) (xs := [(⟨(some ⟨b56, 0, none⟩), (K.w.length + 1), q.l⟩ : Sl Bool)]) (vs := [_]) rfl rfl rfl rfl rfl (by decide) (by decide) fun b186 S186 hS186 => ?_
    refine o_app hXq.inv.sets (hS186.rdk hiA) rfl rfl rfl rfl (by simp only [List.length_singleton]; omega) (by simp only [List.length_singleton]; omega) rfl pkA fun a187 c187 S187 hS187 => ?_
    refine o_step rfl (s_nil rfl) ?_
    refine o_step rfl (s_field rfl rfl (by decide)) ?_
    refine o_store rfl rfl rfl upA ltA rfl ?_
    refine o_nil ?_
    refine x_then (hK10 _ _ ?_)
    refine c_seq fun _ hK11 => ?_
    refine c_tail 13 (by kernel_rfl) ?_
    refine .op rfl (s_move rfl) ?_
    refine .op rfl (s_nil rfl) ?_
    refine .op rfl (s_field rfl rfl (by decide)) ?_
    refine .op rfl (s_ld rfl (.own meA rfl)) ?_
    refine .op rfl (s_move rfl) ?_
    refine .op rfl (s_idx rfl rfl hms (by omega)) ?_
    refine .op rfl (s_ld rfl ((RdK.old hw.d3 hw.a3).ld at_ 0 hsx rfl (by decide) (by omega))) ?_
    refine .op rfl (s_move rfl) ?_
    refine .op rfl (s_move rfl) ?_
    refine .op rfl (s_nil rfl) ?_
    refine .op rfl (s_field rfl rfl (by decide)) ?_
    refine .op rfl (s_ld rfl (.own meA rfl)) ?_
    refine .op rfl (s_len rfl) ?_
    refine .nil ?_
    refine o_step rfl (s_idx rfl rfl hOr2s (by omega)) ?_
    refine o_stS1 i (q.σ.ss ++ [(⟨(some ⟨b56, 0, none⟩), (K.w.length + 1), q.l⟩ : Sl Bool)]).length hOr2 pkA rfl rfl rfl (by omega) (by omega) fun Sn hSn => ?_
    refine o_nil ?_
    refine x_then (hK11 _ _ ?_)
    refine c_seq fun _ hK12 => ?_
    refine c_region ?_
    refine o_step rfl (s_move rfl) ?_
    refine o_step rfl (s_assign rfl) ?_
    refine o_nil ?_
    refine x_then (hK12 _ _ ?_)
    refine c_ret ?_
    refine ?_
    refine x_sub (Sub.refl _) (H' := (K.bM, .cells [.slice K.ra K.re.length K.rc, .slice K.ta K.w.length K.tc, .slice K.ma K.sls.length K.mc, .slice a187 (q.σ.ss ++ [(⟨(some ⟨b56, 0, none⟩), (K.w.length + 1), q.l⟩ : Sl Bool)]).length c187].toArray 106 (0, 0)) :: ((Q1 ++ (Sn ++ Q2)) ++ (S187 ++ (q.So ++ q.σ.Pool)))) (by simp only [List.append_assoc]; exact hzB) ?_
    rw [List.length_append] at hSn
    exact x_ret rfl (.tmp rfl (.nil)) (⟨(some ⟨b56, 0, none⟩), (K.w.length + 1), q.l, q.So, ⟨q.σ.met.set at_ (row2.set i (q.σ.ss.length + 1)), Q1 ++ (Sn ++ Q2), a187, c187, q.σ.ss ++ [(⟨(some ⟨b56, 0, none⟩), (K.w.length + 1), q.l⟩ : Sl Bool)], S187, q.So ++ q.σ.Pool⟩, rfl, rfl, hOq, HIn.appL, hIq, ⟨Inv.add hXq.inv hrow2 hmv hOq hlq hS187 (hput2 _ _ hSn) (fun y js r e hp2 => (by have h1 := hp2.head.1; rw [hx] at h1; cases h1; rw [hp2.uniq hp]; exact hIq)), fun p hp => List.mem_append_right _ (hXq.pool p hp), fun k hk => (List.getElem?_set_ne (by omega)).trans (hXq.out k (by omega))⟩⟩)
   ·
    intro _ hJ9
    refine c_seq fun _ hK13 => ?_
    refine c_region ?_
    refine o_step rfl (s_field rfl rfl (by decide)) ?_
    refine o_step rfl (s_ld rfl (.own meA rfl)) ?_
    refine o_nil ?_
    refine x_then (hK13 _ _ ?_)
    refine c_block ?_
    refine c_seq fun _ hK14 => ?_
    refine c_region ?_
    by_cases h1 : x.op = 1
    ·
     refine o_step rfl (step_cast (v' := .bool true) (s_eql rfl rfl) (by rw [decide_eq_true h1])) ?_
     refine o_step rfl (s_assign rfl) ?_
     refine o_nil ?_
     refine x_then (hK14 _ _ ?_)
     refine c_true rfl ?_
     refine c_seq fun _ hK15 => ?_
     refine c_region ?_
     refine o_step rfl (s_move rfl) ?_
     refine o_step rfl (s_move rfl) ?_
     refine o_step rfl (s_nil rfl) ?_
     refine o_step rfl (s_field rfl rfl (by decide)) ?_
     refine o_step rfl (s_ld rfl (.own meA rfl)) ?_
     refine o_step rfl (s_len rfl) ?_
     by_cases hiw : (i : Int) < K.w.length
     ·
      obtain ⟨b, hb⟩ : ∃ b, K.w[i]? = some b := ⟨_, List.getElem?_eq_getElem (by omega)⟩
      refine o_step rfl (step_cast (v' := .bool true) (s_lss rfl rfl) (by rw [decide_eq_true (by omega)])) ?_
      refine o_nil ?_
      refine x_then (hK15 _ _ ?_)
      refine c_true rfl ?_
      refine c_seq fun _ hK16 => ?_
      refine c_region ?_
      refine o_step rfl (s_move rfl) ?_
      refine o_step rfl (s_nil rfl) ?_
      refine o_step rfl (s_field rfl rfl (by decide)) ?_
      refine o_step rfl (s_ld rfl (.own meA rfl)) ?_
      refine o_step rfl (s_move rfl) ?_
      refine o_step rfl (s_idx rfl rfl hts (by omega)) ?_
      refine o_step rfl (s_ld rfl ((RdK.old hw.d2 hw.a2).ld i 0 hb rfl (by decide) (by omega))) ?_
      refine o_step rfl (s_assign rfl) ?_
      refine o_nil ?_
      refine x_then (hK16 _ _ ?_)
      refine c_region ?_
      refine o_step rfl (s_move rfl) ?_
      refine o_step rfl (s_move rfl) ?_
      refine o_step rfl (s_add rfl rfl (by omega)) ?_
      refine o_step rfl (s_move rfl) ?_
      refine o_step rfl (step_cast (v' := .int .u8 ((b.toNat / 64 : Nat) : Int)) (s_quo rfl rfl (by decide)) (congrArg _ (quo64 b.toNat_lt))) ?_
      refine o_step rfl (s_field rfl rfl (by decide)) ?_
      refine o_step rfl (step_cast (v' := .pointer (some ⟨b7, 1 + b.toNat / 64, none⟩)) (s_indexA rfl rfl (by have := b.toNat_lt; omega)) (by simp)) ?_
      refine o_step rfl (s_ld rfl ((RdPK.own' (cs := Ec x.set) meA nd_set).cel (j := b.toNat / 64) (Ec_get _ (by have := b.toNat_lt; omega)) (by have := b.toNat_lt; omega))) ?_
      refine o_step rfl (s_move rfl) ?_
      refine o_step rfl (step_cast (v' := .int .u8 ((b.toNat % 64 : Nat) : Int)) (s_rem rfl rfl (by decide)) (congrArg _ (rem64 b.toNat_lt))) ?_
      refine o_step rfl (s_shr rfl rfl (by omega)) ?_
      refine o_step rfl (s_and rfl rfl) ?_
      refine o_step rfl (step_cast (v' := .bool (x.set.getLsbD b.toNat)) (s_eql rfl rfl) (congrArg Value.bool (hasB x.set b.toNat_lt))) ?_
      refine o_step rfl (s_idx rfl rfl hS56s (by omega)) ?_
      refine o_stS1 (i + 1) _ hS56 pkA rfl rfl rfl (by rw [List.length_replicate]; omega) (by omega) fun Sx98 hSx98 => ?_
      refine o_nil ?_
      refine x_block ?_
      have hle : ((List.replicate (K.w.length + 1) false).set (i + 1) (x.set.getLsbD b.toNat)).length = K.w.length + 1 := by first | (rw [orL_len, List.length_replicate]) | (rw [List.length_set, List.length_replicate]) | (rw [List.length_replicate]) | exact hll
      exact x_then (hJ9 ⟨(List.replicate (K.w.length + 1) false).set (i + 1) (x.set.getLsbD b.toNat), Sx98, σ0⟩ _ _ ⟨own_len hSx98 hle, (.ds1 h1 hb Iff.rfl), .refl hI0⟩ (by exact Sub.cons' rfl (slv hle) sbA) sbA hzB)
     ·
      refine o_step rfl (step_cast (v' := .bool false) (s_lss rfl rfl) (by rw [decide_eq_false (by omega)])) ?_
      refine o_nil ?_
      refine x_then (hK15 _ _ ?_)
      refine c_false rfl ?_
      refine c_skip ?_
      refine x_block ?_
      have hle : ((List.replicate (K.w.length + 1) false)).length = K.w.length + 1 := by first | (rw [orL_len, List.length_replicate]) | (rw [List.length_set, List.length_replicate]) | (rw [List.length_replicate]) | exact hll
      exact x_then (hJ9 ⟨(List.replicate (K.w.length + 1) false), S56, σ0⟩ _ _ ⟨own_len hS56 hle, (.ds1n h1 (by omega)), .refl hI0⟩ (by exact Sub.cons' rfl (slv hle) sbA) sbA hzB)
    ·
     refine o_step rfl (step_cast (v' := .bool false) (s_eql rfl rfl) (by rw [decide_eq_false h1])) ?_
     refine o_step rfl (s_assign rfl) ?_
     refine o_nil ?_
     refine x_then (hK14 _ _ ?_)
     refine c_false rfl ?_
     refine c_seq fun _ hK17 => ?_
     refine c_region ?_
     by_cases h2 : x.op = 2
     ·
      refine o_step rfl (step_cast (v' := .bool true) (s_eql rfl rfl) (by rw [decide_eq_true h2])) ?_
      refine o_step rfl (s_assign rfl) ?_
      refine o_nil ?_
      refine x_then (hK17 _ _ ?_)
      refine c_true rfl ?_
      refine c_region ?_
      refine o_step rfl (s_move rfl) ?_
      refine o_step rfl (s_move rfl) ?_
      refine o_step rfl (s_move rfl) ?_
      refine o_step rfl (s_eql rfl rfl) ?_
      refine o_step rfl (s_idx rfl rfl hS56s (by omega)) ?_
      refine o_stS1 i _ hS56 pkA rfl rfl rfl (by rw [List.length_replicate]; omega) (by omega) fun Sx105 hSx105 => ?_
      refine o_nil ?_
      refine x_block ?_
      have hle : ((List.replicate (K.w.length + 1) false).set i (decide ((i : Int) = 0))).length = K.w.length + 1 := by first | (rw [orL_len, List.length_replicate]) | (rw [List.length_set, List.length_replicate]) | (rw [List.length_replicate]) | exact hll
      exact x_then (hJ9 ⟨(List.replicate (K.w.length + 1) false).set i (decide ((i : Int) = 0)), Sx105, σ0⟩ _ _ ⟨own_len hSx105 hle, (.ds2 h2 hi (by rw [decide_eq_true_iff]; omega)), .refl hI0⟩ (by exact Sub.cons' rfl (slv hle) sbA) sbA hzB)
     ·
      refine o_step rfl (step_cast (v' := .bool false) (s_eql rfl rfl) (by rw [decide_eq_false h2])) ?_
      refine o_step rfl (s_assign rfl) ?_
      refine o_nil ?_
      refine x_then (hK17 _ _ ?_)
      refine c_false rfl ?_
      refine c_seq fun _ hK18 => ?_
      refine c_region ?_
      by_cases h3 : x.op = 3
      ·
       refine o_step rfl (step_cast (v' := .bool true) (s_eql rfl rfl) (by rw [decide_eq_true h3])) ?_
       refine o_step rfl (s_assign rfl) ?_
       refine o_nil ?_
       refine x_then (hK18 _ _ ?_)
       refine c_true rfl ?_
       refine c_region ?_
       refine o_step rfl (s_move rfl) ?_
       refine o_step rfl (s_move rfl) ?_
       refine o_step rfl (s_move rfl) ?_
       refine o_step rfl (s_move rfl) ?_
       refine o_step rfl (s_nil rfl) ?_
       refine o_step rfl (s_field rfl rfl (by decide)) ?_
       refine o_step rfl (s_ld rfl (.own meA rfl)) ?_
       refine o_step rfl (s_len rfl) ?_
       refine o_step rfl (s_eql rfl rfl) ?_
       refine o_step rfl (s_idx rfl rfl hS56s (by omega)) ?_
       refine o_stS1 i _ hS56 pkA rfl rfl rfl (by rw [List.length_replicate]; omega) (by omega) fun Sx117 hSx117 => ?_
       refine o_nil ?_
       refine x_block ?_
       have hle : ((List.replicate (K.w.length + 1) false).set i (decide ((i : Int) = K.w.length))).length = K.w.length + 1 := by first | (rw [orL_len, List.length_replicate]) | (rw [List.length_set, List.length_replicate]) | (rw [List.length_replicate]) | exact hll
       exact x_then (hJ9 ⟨(List.replicate (K.w.length + 1) false).set i (decide ((i : Int) = K.w.length)), Sx117, σ0⟩ _ _ ⟨own_len hSx117 hle, (.ds3 h3 hi (by rw [decide_eq_true_iff]; omega)), .refl hI0⟩ (by exact Sub.cons' rfl (slv hle) sbA) sbA hzB)
      ·
       refine o_step rfl (step_cast (v' := .bool false) (s_eql rfl rfl) (by rw [decide_eq_false h3])) ?_
       refine o_step rfl (s_assign rfl) ?_
       refine o_nil ?_
       refine x_then (hK18 _ _ ?_)
       refine c_false rfl ?_
       refine c_seq fun _ hK19 => ?_
       refine c_region ?_
       by_cases h7 : x.op = 7
       ·
        refine o_step rfl (step_cast (v' := .bool true) (s_eql rfl rfl) (by rw [decide_eq_true h7])) ?_
        refine o_step rfl (s_assign rfl) ?_
        refine o_nil ?_
        refine x_then (hK19 _ _ ?_)
        refine c_true rfl ?_
        refine c_region ?_
        refine o_step rfl (s_move rfl) ?_
        refine o_step rfl (s_move rfl) ?_
        refine o_step rfl (s_move rfl) ?_
        refine o_step rfl (s_add rfl rfl (by omega)) ?_
        refine o_step rfl (s_move rfl) ?_
        obtain ⟨y, js, rfl⟩ := grp_kid hp.wf h7
        refine o_call (ih y js (by simp only [F.size]; omega) (at_ + 1) _ hpk i hi σ0 hI0) rfl rfl rfl ((Pick.takeC pkA (Pick.takeA pkA pkA))) (fun _ st => ⟨(RdK.old hw.d1 hw.a1).out _ st, St.apart_M st (by exact hiB) hw.d1 hw.a1 (by decide), (RdK.old hw.d2 hw.a2).out _ st, St.apart_M st (by exact hiB) hw.d2 hw.a2 (by decide), (RdK.old hw.d3 hw.a3).out _ st, St.apart_M st (by exact hiB) hw.d3 hw.a3 (by decide)⟩) (fun v125 S125 ⟨a125, c125, l125, S0125, σ125, hv125, hS125, hO125, hi125, hI125, hX125⟩ => ?_)
        subst hv125
        subst hS125
        have hl125 := hI125.len
        refine o_call (orM2_fn (some ⟨b56, 0, none⟩) _ _ (List.replicate (K.w.length + 1) false) List.length_replicate S56 hS56 a125 c125 l125 hl125 (by omega)) rfl rfl rfl pkA (fun _ st => ⟨((hO125.rds.mono hi125).rdk hiA).out _ st, St.apart st pkA hO125 (fun p hp => (show HIn σ125.Pool _ from by exact hiB) p (hi125 p hp))⟩) (fun v126 So126 ⟨hv126, hO126⟩ => ?_)
        subst hv126
        refine o_nil ?_
        refine x_block ?_
        have hle : (orL (List.replicate (K.w.length + 1) false) l125).length = K.w.length + 1 := by first | (rw [orL_len, List.length_replicate]) | (rw [List.length_set, List.length_replicate]) | (rw [List.length_replicate]) | exact hll
        exact x_then (hJ9 ⟨orL (List.replicate (K.w.length + 1) false) l125, So126, σ125⟩ _ _ ⟨own_len hO126 hle, (hI125.ds7 h7), hX125.wide (Nat.le_refl _) (by omega)⟩ (by exact Sub.cons' rfl (slv hle) sbA) sbA hzB)
       ·
        refine o_step rfl (step_cast (v' := .bool false) (s_eql rfl rfl) (by rw [decide_eq_false h7])) ?_
        refine o_step rfl (s_assign rfl) ?_
        refine o_nil ?_
        refine x_then (hK19 _ _ ?_)
        refine c_false rfl ?_
        refine c_seq fun _ hK20 => ?_
        refine c_region ?_
        by_cases h6 : x.op = 6
        ·
         refine o_step rfl (step_cast (v' := .bool true) (s_eql rfl rfl) (by rw [decide_eq_true h6])) ?_
         refine o_step rfl (s_assign rfl) ?_
         refine o_nil ?_
         refine x_then (hK20 _ _ ?_)
         refine c_true rfl ?_
         refine c_region ?_
         refine o_step rfl (s_move rfl) ?_
         refine o_step rfl (s_move rfl) ?_
         refine o_step rfl (s_move rfl) ?_
         refine o_step rfl (s_move rfl) ?_
         obtain ⟨y, js, rfl⟩ := rep_kid hp.wf h6
         refine o_call ((MeE.RoundT.of hK (.of hK (ih y js (by simp only [F.size]; omega)))).at' at_ i1 h6 hp (some ⟨b63, 0, none⟩) (K.w.length + 1) _ ((List.replicate (K.w.length + 1) false).set i true) hIh.len Sh0 _ hSh0 hIh (fun p h => by have h : p = i := h; omega) σ0 hI0) rfl rfl rfl ((Pick.takeC pkA (Pick.takeA pkA (Pick.takeA pkA pkA)))) (fun _ st => ⟨(RdK.old hw.d1 hw.a1).out _ st, St.apart_M st (by exact hiB) hw.d1 hw.a1 (by decide), (RdK.old hw.d2 hw.a2).out _ st, St.apart_M st (by exact hiB) hw.d2 hw.a2 (by decide), (RdK.old hw.d3 hw.a3).out _ st, St.apart_M st (by exact hiB) hw.d3 hw.a3 (by decide)⟩) (fun v133 S133 ⟨a133, c133, l133, So133, σ133, hv133, hS133, hO133, hI133, hX133⟩ => ?_)
         subst hv133
         subst hS133
         have hl133 := hI133.len
         refine o_call (orM2_fn (some ⟨b56, 0, none⟩) _ _ (List.replicate (K.w.length + 1) false) List.length_replicate S56 hS56 a133 c133 l133 hl133 (by omega)) rfl rfl rfl pkA (fun _ st => ⟨(hO133.rdk hiA).out _ st, St.apart st pkA hO133 (by exact hiB)⟩) (fun v134 So134 ⟨hv134, hO134⟩ => ?_)
         subst hv134
         refine o_nil ?_
         refine x_block ?_
         have hle : (orL (List.replicate (K.w.length + 1) false) l133).length = K.w.length + 1 := by first | (rw [orL_len, List.length_replicate]) | (rw [List.length_set, List.length_replicate]) | (rw [List.length_replicate]) | exact hll
         exact x_then (hJ9 ⟨orL (List.replicate (K.w.length + 1) false) l133, So134, σ133⟩ _ _ ⟨own_len hO134 hle, (hI133.ds6 h6), hX133⟩ (by exact Sub.cons' rfl (slv hle) sbA) sbA hzB)
        ·
         refine o_step rfl (step_cast (v' := .bool false) (s_eql rfl rfl) (by rw [decide_eq_false h6])) ?_
         refine o_step rfl (s_assign rfl) ?_
         refine o_nil ?_
         refine x_then (hK20 _ _ ?_)
         refine c_false rfl ?_
         refine c_seq fun _ hK21 => ?_
         refine c_region ?_
         by_cases h4 : x.op = 4
         ·
          refine o_step rfl (step_cast (v' := .bool true) (s_eql rfl rfl) (by rw [decide_eq_true h4])) ?_
          refine o_step rfl (s_assign rfl) ?_
          refine o_nil ?_
          refine x_then (hK21 _ _ ?_)
          refine c_true rfl ?_
          refine c_seq fun _ hK22 => ?_
          refine c_region ?_
          refine o_step rfl (s_move rfl) ?_
          refine o_step rfl (s_add rfl rfl (by omega)) ?_
          refine o_step rfl (s_assign rfl) ?_
          refine o_nil ?_
          refine x_then (hK22 _ _ ?_)
          refine c_seq fun _ hK23 => ?_
          refine c_seq fun _ hK24 => ?_
          refine c_region ?_
          refine o_step rfl (s_assign rfl) ?_
          refine o_nil ?_
          refine x_then (hK24 _ _ ?_)
          refine c_block ?_
          refine c_loop9 (fun (k : Nat) (kp : Nat) (g : F) (ha : Option Addr) (hc : Nat) (h : List Bool) (Sg : Hp) (σ : MeS) (T : Nat → Prop) => at_ + 1 ≤ kp ∧ Part K.re g kp (at_ + 1 + ks.size) ∧ k + g.num = ks.num ∧ g.size ≤ ks.size ∧ OwnS Ebo 1 4 (.slice ha h.length hc) h Sg ∧ IsS h K.w.length T ∧ CatI K.w x ks g i T ∧ K.Ext (at_ + 1) i1 σ0 σ) (fun (k : Nat) (kp : Nat) (g : F) (ha : Option Addr) (hc : Nat) (h : List Bool) (Sg : Hp) (σ : MeS) (T : Nat → Prop) => [(12, .int .i64 k), (11, .int .i64 kp), (9, .slice ha h.length hc)]) [(0, _), (1, _), (2, _), (6, _), (7, _), (8, _)] (fun (k : Nat) (kp : Nat) (g : F) (ha : Option Addr) (hc : Nat) (h : List Bool) (Sg : Hp) (σ : MeS) (T : Nat → Prop) => (b7, .cells (En x).toArray 57 (0, 0)) :: (K.bM, .cells [.slice K.ra K.re.length K.rc, .slice K.ta K.w.length K.tc, .slice K.ma K.sls.length K.mc, .slice σ.sa σ.ss.length σ.sc].toArray 106 (0, 0)) :: (S56 ++ (Sg ++ (σ.SR ++ (σ.SS ++ σ.Pool))))) (fun (k : Nat) (kp : Nat) (g : F) (ha : Option Addr) (hc : Nat) (h : List Bool) (Sg : Hp) (σ : MeS) (T : Nat → Prop) => ks.num - k) 0 (at_ + 1) ks (some ⟨b63, 0, none⟩) (K.w.length + 1) ((List.replicate (K.w.length + 1) false).set i true) Sh0 σ0 (fun q => q = i) ⟨Nat.le_refl _, hpk, by simp, Nat.le_refl _, own_len hSh0 hIh.len, hIh, .start h4, .refl hI0⟩ (by exact Sub.cons rfl (Sub.cons rfl (Sub.cons' rfl (slv hIh.len) sbA))) sbA hzB ?_
          rintro k kp g ha hc h Sg σ T ⟨hkp, hpg, hkn, hgs, hOg, hIg, hT, hX⟩
          have hlg := hIg.len
          refine c_seq fun _ hK25 => ?_
          refine c_seq fun _ hK26 => ?_
          refine c_region ?_
          refine o_step rfl (s_move rfl) ?_
          refine o_step rfl (s_field rfl rfl (by decide)) ?_
          refine o_step rfl (s_ld rfl (.own meA rfl)) ?_
          by_cases hkk : (k : Int) < x.kids
          ·
           obtain ⟨y, js, r, rfl⟩ : ∃ y js r, g = F.nd y js r := by cases g with | nil => simp [F.num] at hkn; omega | nd y a b => exact ⟨y, a, b, rfl⟩
           obtain ⟨hy, hpy, hpr⟩ := hpg.head
           have hgl := hpg.le
           have hgn := hpg.len
           simp only [F.size] at hgn hgs
           have hgm : (F.nd y js r).num = r.num + 1 := by simp [F.num]; try omega
           refine o_step rfl (step_cast (v' := .bool true) (s_lss rfl rfl) (by rw [decide_eq_true (by omega)])) ?_
           refine o_nil ?_
           refine x_then (hK26 _ _ ?_)
           refine c_true rfl ?_
           refine c_skip ?_
           refine x_then (hK25 _ _ ?_)
           refine c_seq fun _ hK27 => ?_
           refine c_block ?_
           refine c_seq fun _ hK28 => ?_
           refine c_region ?_
           refine o_step rfl (s_move rfl) ?_
           refine o_step rfl (s_move rfl) ?_
           refine o_step rfl (s_move rfl) ?_
           refine o_call ((MeE.StepT.of hK (ih y js (by omega))) kp _ hpg.one ha hc h T hIg σ hX.inv) rfl rfl rfl ((Pick.takeC pkA (Pick.takeA pkA pkA))) (fun _ st => ⟨⟨(RdK.old hw.d1 hw.a1).out _ st, St.apart_M st (by exact hiB) hw.d1 hw.a1 (by decide), (RdK.old hw.d2 hw.a2).out _ st, St.apart_M st (by exact hiB) hw.d2 hw.a2 (by decide), (RdK.old hw.d3 hw.a3).out _ st, St.apart_M st (by exact hiB) hw.d3 hw.a3 (by decide)⟩, (hOg.rdk hiA).out _ st, St.apart st (Pick.takeC pkA (Pick.takeA pkA pkA)) hOg (by exact hiB)⟩) (fun v148 S148 ⟨a148, c148, l148, So148, σ148, hv148, hS148, hO148, hI148, hX148⟩ => ?_)
           subst hv148
           subst hS148
           refine o_step rfl (s_assign rfl) ?_
           refine o_nil ?_
           refine x_then (hK28 _ _ ?_)
           refine c_region ?_
           refine o_step rfl (s_move rfl) ?_
           refine o_step rfl (s_nil rfl) ?_
           refine o_step rfl (s_field rfl rfl (by decide)) ?_
           refine o_step rfl (s_ld rfl (.own meA rfl)) ?_
           refine o_step rfl (s_move rfl) ?_
           refine o_callP (rBehind_fn K.ra K.rc K.re hK.rng hK.sh y js kp _ hpg.one) rfl rfl rfl (fun _ st => (RdK.old hw.d1 hw.a1).out _ st) (fun v154 hv154 => ?_)
           subst hv154
           refine o_step rfl (s_assign rfl) ?_
           refine o_nil ?_
           refine x_block ?_
           refine x_then (hK27 _ _ ?_)
           refine c_region ?_
           refine o_step rfl (s_move rfl) ?_
           refine o_step rfl (s_add rfl rfl (by omega)) ?_
           refine o_step rfl (s_assign rfl) ?_
           refine o_nil ?_
           exact x_then (x_inv (k + 1, (kp + 1 + js.size), r, a148, c148, l148, So148, σ148, (img (der1 K.w y js) T)) ⟨by dsimp only; omega, hpr, by dsimp only; omega, by dsimp only; omega, hO148, hI148, hT.step, hX.trans hX148 (by omega) (by omega)⟩ (by first | omega | (dsimp only; omega)) sbA hzB)
          ·
           obtain rfl : g = F.nil := F.num_nil (by omega)
           refine o_step rfl (step_cast (v' := .bool false) (s_lss rfl rfl) (by rw [decide_eq_false (by omega)])) ?_
           refine o_nil ?_
           refine x_then (hK26 _ _ ?_)
           refine c_false rfl ?_
           refine c_exit ?_
           refine x_then_exit ?_
           refine x_then_exit ?_
           refine x_block_exit ?_
           refine x_then (hK23 _ _ ?_)
           refine c_region ?_
           refine o_step rfl (s_move rfl) ?_
           refine o_step rfl (s_move rfl) ?_
           refine o_call (orM2_fn (some ⟨b56, 0, none⟩) _ _ (List.replicate (K.w.length + 1) false) List.length_replicate S56 hS56 ha hc h hlg (by omega)) rfl rfl rfl pkA (fun _ st => ⟨(hOg.rdk hiA).out _ st, St.apart st pkA hOg (by exact hiB)⟩) (fun v157 So157 ⟨hv157, hO157⟩ => ?_)
           subst hv157
           refine o_nil ?_
           refine x_block ?_
           have hle : (orL (List.replicate (K.w.length + 1) false) h).length = K.w.length + 1 := by first | (rw [orL_len, List.length_replicate]) | (rw [List.length_set, List.length_replicate]) | (rw [List.length_replicate]) | exact hll
           exact x_then (hJ9 ⟨orL (List.replicate (K.w.length + 1) false) h, So157, σ⟩ _ _ ⟨own_len hO157 hle, (hT.done hIg), hX⟩ (by exact Sub.cons' rfl (slv hle) sbA) sbA hzB)
         ·
          refine o_step rfl (step_cast (v' := .bool false) (s_eql rfl rfl) (by rw [decide_eq_false h4])) ?_
          refine o_step rfl (s_assign rfl) ?_
          refine o_nil ?_
          refine x_then (hK21 _ _ ?_)
          refine c_false rfl ?_
          refine c_seq fun _ hK29 => ?_
          refine c_region ?_
          by_cases h5 : x.op = 5
          ·
           refine o_step rfl (step_cast (v' := .bool true) (s_eql rfl rfl) (by rw [decide_eq_true h5])) ?_
           refine o_step rfl (s_assign rfl) ?_
           refine o_nil ?_
           refine x_then (hK29 _ _ ?_)
           refine c_true rfl ?_
           refine c_seq fun _ hK30 => ?_
           refine c_region ?_
           refine o_step rfl (s_move rfl) ?_
           refine o_step rfl (s_add rfl rfl (by omega)) ?_
           refine o_step rfl (s_assign rfl) ?_
           refine o_nil ?_
           refine x_then (hK30 _ _ ?_)
           refine c_seq fun _ hK31 => ?_
           refine c_region ?_
           refine o_step rfl (s_assign rfl) ?_
           refine o_nil ?_
           refine x_then (hK31 _ _ ?_)
           refine c_block ?_
           refine c_loop7 (fun (k : Nat) (kp : Nat) (g : F) (l : List Bool) (So : Hp) (σ : MeS) (T : Nat → Prop) => at_ + 1 ≤ kp ∧ Part K.re g kp (at_ + 1 + ks.size) ∧ k + g.num = ks.num ∧ g.size ≤ ks.size ∧ OwnS Ebo 1 4 (.slice (some ⟨b56, 0, none⟩) (K.w.length + 1) (K.w.length + 1)) l So ∧ IsS l K.w.length T ∧ AltI K.w x ks g i T ∧ K.Ext (at_ + 1) i1 σ0 σ) (fun (k : Nat) (kp : Nat) (g : F) (l : List Bool) (So : Hp) (σ : MeS) (T : Nat → Prop) => [(14, .int .i64 k), (13, .int .i64 kp)]) [(0, _), (1, _), (2, _), (6, _), (7, _), (8, _)] (fun (k : Nat) (kp : Nat) (g : F) (l : List Bool) (So : Hp) (σ : MeS) (T : Nat → Prop) => (b7, .cells (En x).toArray 57 (0, 0)) :: (K.bM, .cells [.slice K.ra K.re.length K.rc, .slice K.ta K.w.length K.tc, .slice K.ma K.sls.length K.mc, .slice σ.sa σ.ss.length σ.sc].toArray 106 (0, 0)) :: (So ++ (σ.SR ++ (σ.SS ++ σ.Pool)))) (fun (k : Nat) (kp : Nat) (g : F) (l : List Bool) (So : Hp) (σ : MeS) (T : Nat → Prop) => ks.num - k) 0 (at_ + 1) ks (List.replicate (K.w.length + 1) false) S56 σ0 (fun _ => False) ⟨Nat.le_refl _, hpk, by simp, Nat.le_refl _, hS56, .none, .start h5, .refl hI0⟩ sbA sbA hzB ?_
           rintro k kp g l So σ T ⟨hkp, hpg, hkn, hgs, hO, hIl, hT, hX⟩
           have hll := hIl.len
           refine c_seq fun _ hK32 => ?_
           refine c_seq fun _ hK33 => ?_
           refine c_region ?_
           refine o_step rfl (s_move rfl) ?_
           refine o_step rfl (s_field rfl rfl (by decide)) ?_
           refine o_step rfl (s_ld rfl (.own meA rfl)) ?_
           by_cases hkk : (k : Int) < x.kids
           ·
            obtain ⟨y, js, r, rfl⟩ : ∃ y js r, g = F.nd y js r := by cases g with | nil => simp [F.num] at hkn; omega | nd y a b => exact ⟨y, a, b, rfl⟩
            obtain ⟨hy, hpy, hpr⟩ := hpg.head
            have hgl := hpg.le
            have hgn := hpg.len
            simp only [F.size] at hgn hgs
            have hgm : (F.nd y js r).num = r.num + 1 := by simp [F.num]; try omega
            refine o_step rfl (step_cast (v' := .bool true) (s_lss rfl rfl) (by rw [decide_eq_true (by omega)])) ?_
            refine o_nil ?_
            refine x_then (hK33 _ _ ?_)
            refine c_true rfl ?_
            refine c_skip ?_
            refine x_then (hK32 _ _ ?_)
            refine c_seq fun _ hK34 => ?_
            refine c_block ?_
            refine c_seq fun _ hK35 => ?_
            refine c_region ?_
            refine o_step rfl (s_move rfl) ?_
            refine o_step rfl (s_move rfl) ?_
            refine o_step rfl (s_move rfl) ?_
            refine o_step rfl (s_move rfl) ?_
            refine o_call (ih y js (by omega) kp _ hpg.one i hi σ hX.inv) rfl rfl rfl ((Pick.takeC pkA (Pick.takeA pkA pkA))) (fun _ st => ⟨(RdK.old hw.d1 hw.a1).out _ st, St.apart_M st (by exact hiB) hw.d1 hw.a1 (by decide), (RdK.old hw.d2 hw.a2).out _ st, St.apart_M st (by exact hiB) hw.d2 hw.a2 (by decide), (RdK.old hw.d3 hw.a3).out _ st, St.apart_M st (by exact hiB) hw.d3 hw.a3 (by decide)⟩) (fun v172 S172 ⟨a172, c172, l172, S0172, σ172, hv172, hS172, hO172, hi172, hI172, hX172⟩ => ?_)
            subst hv172
            subst hS172
            have hl172 := hI172.len
            refine o_call (orM2_fn (some ⟨b56, 0, none⟩) _ _ l hll So hO a172 c172 l172 hl172 (by omega)) rfl rfl rfl pkA (fun _ st => ⟨((hO172.rds.mono hi172).rdk hiA).out _ st, St.apart st pkA hO172 (fun p hp => (show HIn σ172.Pool _ from by exact hiB) p (hi172 p hp))⟩) (fun v173 So173 ⟨hv173, hO173⟩ => ?_)
            subst hv173
            refine o_nil ?_
            refine x_then (hK35 _ _ ?_)
            refine c_region ?_
            refine o_step rfl (s_move rfl) ?_
            refine o_step rfl (s_nil rfl) ?_
            refine o_step rfl (s_field rfl rfl (by decide)) ?_
            refine o_step rfl (s_ld rfl (.own meA rfl)) ?_
            refine o_step rfl (s_move rfl) ?_
            refine o_callP (rBehind_fn K.ra K.rc K.re hK.rng hK.sh y js kp _ hpg.one) rfl rfl rfl (fun _ st => (RdK.old hw.d1 hw.a1).out _ st) (fun v179 hv179 => ?_)
            subst hv179
            refine o_step rfl (s_assign rfl) ?_
            refine o_nil ?_
            refine x_block ?_
            refine x_then (hK34 _ _ ?_)
            refine c_region ?_
            refine o_step rfl (s_move rfl) ?_
            refine o_step rfl (s_add rfl rfl (by omega)) ?_
            refine o_step rfl (s_assign rfl) ?_
            refine o_nil ?_
            exact x_then (x_inv (k + 1, (kp + 1 + js.size), r, orL l l172, So173, σ172, (fun q => T q ∨ der1 K.w y js i q)) ⟨by dsimp only; omega, hpr, by dsimp only; omega, by dsimp only; omega, hO173, hIl.or hI172, hT.step, hX.trans hX172 (by omega) (by omega)⟩ (by first | omega | (dsimp only; omega)) sbA hzB)
           ·
            obtain rfl : g = F.nil := F.num_nil (by omega)
            refine o_step rfl (step_cast (v' := .bool false) (s_lss rfl rfl) (by rw [decide_eq_false (by omega)])) ?_
            refine o_nil ?_
            refine x_then (hK33 _ _ ?_)
            refine c_false rfl ?_
            refine c_exit ?_
            refine x_then_exit ?_
            refine x_then_exit ?_
            refine x_block_exit ?_
            refine x_block ?_
            have hle : (l).length = K.w.length + 1 := by first | (rw [orL_len, List.length_replicate]) | (rw [List.length_set, List.length_replicate]) | (rw [List.length_replicate]) | exact hll
            exact x_then (hJ9 ⟨l, So, σ⟩ _ _ ⟨own_len hO hle, (hT.done hIl), hX⟩ (by exact Sub.cons' rfl (slv hle) sbA) sbA hzB)
          ·
           exfalso; omega
theorem ends_all (K : MeE) (hK : K.ok) : ∀ (n : Nat) (x : Nd) (ks : F), ks.size < n → K.EndsT x ks
  | 0, _, _, h => absurd h (Nat.not_lt_zero _)
  | n + 1, x, ks, h => fun at_ i1 hp i hi σ hI => ends_fnM K hK x ks (fun y js hj => ends_all K hK n y js (by omega)) at_ i1 hp i hi σ hI
theorem ends_of (K : MeE) (hK : K.ok) (x : Nd) (ks : F) : K.EndsT x ks := ends_all K hK (ks.size + 1) x ks (Nat.lt_succ_self _)
theorem zers_rep : ∀ (n m : Nat), zers (List.replicate n (List.replicate m 0)) = n * m
  | 0, m => by simp [zers]
  | n + 1, m => by
    have h := zers_rep n m
    have h2 : zer (List.replicate m 0) = m := by simp [zer, List.countP_replicate]
    simp only [zers] at h ⊢
    rw [List.replicate_succ, List.map_cons, List.sum_cons, h, h2, Nat.succ_mul, Nat.add_comm]
theorem Inv.begun {K : MeE} (hb : K.re.length * (K.w.length + 1) ≤ 1000000) {SR : Hp} (h : OwnL Eix 1 3 K.sls (List.replicate K.re.length (List.replicate (K.w.length + 1) 0)) SR) : K.Inv ⟨List.replicate K.re.length (List.replicate (K.w.length + 1) 0), SR, none, 0, [], [], []⟩ :=
  ⟨h, .nil, .begun, fun s hs => (by cases hs), fun k l hk => (by rw [(List.mem_replicate.1 (List.mem_of_getElem? hk)).2, List.length_replicate]), by rw [zers_rep]; simpa using hb⟩
end Go.Proofs.YtmompllplidphaaDoor
namespace Go.Proofs.YtmompllplidphaaDoor
open Go Go.HL Go.Proofs Go.HL.Kl Go.HL.Kl.Mc Go.HL.Sts
set_option maxHeartbeats 2000000 in
theorem means_fn (ra : Option Addr) (rc : Nat) (re : List Nd) (hre : ∀ x ∈ re, -128 ≤ x.op ∧ x.op < 128)(hsb : shapedB re = true) (hrf : refsB re = false) (x : Nd) (ks : F) (hS : Mc.Shp re x ks) (hrl : re.length ≤ 1000) (ta : Option Addr) (tc : Nat) (w : List UInt8) (hwl : w.length ≤ 64) : HL.Fn Tryd.prog 27 [.slice ra re.length rc, .slice ta w.length tc] (fun W => Rd En W (.slice ra re.length rc) re ∧ Rd Eb W (.slice ta w.length tc) w) [] (fun v _ => ∃ b : Bool, v = .bool b ∧ (b = true ↔ der1 w x ks 0 w.length)) := by
  refine fn_of Tryd.func27 rfl rfl rfl fun w0 hw => ?_
  obtain ⟨zs, hzs⟩ : ∃ zs : List Nat, zs = (List.replicate (w.length + 1) 0) := ⟨_, rfl⟩
  have hzl : zs.length = w.length + 1 := by rw [hzs, List.length_replicate]
  have hbb : re.length * (w.length + 1) ≤ 1000000 := Nat.le_trans (Nat.mul_le_mul hrl (show w.length + 1 ≤ 65 by omega)) (by decide)
  have hts := hw.2.sl
  refine c_seq fun _ hK1 => ?_
  refine c_region ?_
  refine o_step rfl (s_assign rfl) ?_
  refine o_nil ?_
  refine x_then (hK1 _ _ ?_)
  refine c_seq fun _ hK2 => ?_
  refine c_region ?_
  refine o_step rfl (s_move rfl) ?_
  refine o_step rfl (s_move rfl) ?_
  refine o_step rfl (step_cast (v' := .agg [.slice ra re.length rc, .slice ta w.length tc, .slice none 0 0, .slice none 0 0].toArray) (s_build (cs := [_, _, _, _]) (vs := [_, _]) rfl rfl (.cons rfl rfl rfl rfl rfl (.cons rfl rfl rfl rfl rfl .nil))) rfl) ?_
  refine o_box rfl rfl rfl fun b11 => ?_
  refine o_step rfl (s_assign rfl) ?_
  refine o_nil ?_
  refine x_then (hK2 _ _ ?_)
  refine c_seq fun _ hK3 => ?_
  refine c_seq fun _ hK4 => ?_
  refine c_region ?_
  refine o_step rfl (s_assign rfl) ?_
  refine o_nil ?_
  refine x_then (hK4 _ _ ?_)
  refine c_block ?_
  refine c_loop7 (fun (k : Nat) (sls : List (Sl Nat)) (ma : Option Addr) (mc : Nat) (SM : Hp) (SR : Hp) (σ : MeS) => k ≤ re.length ∧ sls.length = k ∧ OwnS Esl 1 46 (.slice ma sls.length mc) sls SM ∧ OwnL Eix 1 3 sls (List.replicate k (List.replicate (w.length + 1) 0)) SR ∧ σ = ⟨List.replicate k (List.replicate (w.length + 1) 0), SR, none, 0, [], [], []⟩) (fun (k : Nat) (sls : List (Sl Nat)) (ma : Option Addr) (mc : Nat) (SM : Hp) (SR : Hp) (σ : MeS) => [(6, .int .i64 k)]) [(0, _), (1, _), (4, _), (5, _)] (fun (k : Nat) (sls : List (Sl Nat)) (ma : Option Addr) (mc : Nat) (SM : Hp) (SR : Hp) (σ : MeS) => (b11, .cells [.slice ra re.length rc, .slice ta w.length tc, .slice ma sls.length mc, .slice σ.sa σ.ss.length σ.sc].toArray 106 (0, 0)) :: (SM ++ (σ.SR ++ (σ.SS ++ σ.Pool)))) (fun (k : Nat) (sls : List (Sl Nat)) (ma : Option Addr) (mc : Nat) (SM : Hp) (SR : Hp) (σ : MeS) => re.length - k) 0 [] none 0 [] [] ⟨[], [], none, 0, [], [], []⟩ ⟨Nat.zero_le _, rfl, .nil, .nil, rfl⟩ sbA sbA hzB ?_
  rintro k sls ma mc SM SR σ ⟨hk, hsl, hOM, hL, hσ⟩
  refine c_seq fun _ hK5 => ?_
  refine c_seq fun _ hK6 => ?_
  refine c_region ?_
  refine o_step rfl (s_move rfl) ?_
  refine o_step rfl (s_move rfl) ?_
  refine o_step rfl (s_len rfl) ?_
  by_cases hkr : (k : Int) < re.length
  ·
   subst hσ
   dsimp only
   simp only [List.append_nil, List.nil_append, List.length_nil]
   refine o_step rfl (step_cast (v' := .bool true) (s_lss rfl rfl) (by rw [decide_eq_true hkr])) ?_
   refine o_nil ?_
   refine x_then (hK6 _ _ ?_)
   refine c_true rfl ?_
   refine c_skip ?_
   refine x_then (hK5 _ _ ?_)
   refine c_seq fun _ hK7 => ?_
   refine c_block ?_
   refine c_drawE ([(b11, .cells [.slice ra re.length rc, .slice ta w.length tc, .slice ma sls.length mc, .slice none 0 0].toArray 106 (0, 0))]) (fun i => Nat.beq i 13) ?_
   refine e_pure 0 rfl (by kernel_rfl) (by kernel_rfl) (by kernel_rfl) rfl (s_move rfl) ?_
   refine e_pure 1 rfl (by kernel_rfl) (by kernel_rfl) (by kernel_rfl) rfl (s_move rfl) ?_
   refine e_pure 2 rfl (by kernel_rfl) (by kernel_rfl) (by kernel_rfl) rfl (s_nil rfl) ?_
   refine e_pure 3 rfl (by kernel_rfl) (by kernel_rfl) (by kernel_rfl) rfl (s_field rfl rfl (by decide)) ?_
   refine e_pure 5 rfl (by kernel_rfl) (by kernel_rfl) (by kernel_rfl) rfl (s_move rfl) ?_
   refine e_pure 6 rfl (by kernel_rfl) (by kernel_rfl) (by kernel_rfl) rfl (s_len rfl) ?_
   refine e_pure 7 rfl (by kernel_rfl) (by kernel_rfl) (by kernel_rfl) rfl (s_add rfl rfl (by omega)) ?_
   refine e_take 4 rfl (by kernel_rfl) (by kernel_rfl) (by kernel_rfl) (by kernel_rfl) (fun _ _ => rfl) rfl hzB (s_ld rfl (.own meA rfl)) ?_
   refine e_one 8 rfl (by kernel_rfl) ?_
   refine o_make (E := Eix) (zx := 0) (n := w.length + 1) rfl rfl rfl (by omega) (by omega) rfl fun b26 S26 hS26 => ?_
   rw [← hzs, ← hzl] at hS26
   rw [← hzl]
   refine o_nil ?_
   refine x_oneS hzB ?_
   refine e_one 9 rfl (by kernel_rfl) ?_
   refine o_bs (E := Esl) (xs := [(⟨some ⟨b26, 0, none⟩, zs.length, zs⟩ : Sl Nat)]) (vs := [_]) rfl rfl rfl rfl rfl (by decide) (by decide) fun b27 S27 hS27 => ?_
   refine o_nil ?_
   refine x_oneS hzB ?_
   refine e_one 10 rfl (by kernel_rfl) ?_
   refine o_app hOM (hS27.rdk hiA) rfl rfl rfl rfl (by simp only [List.length_singleton]; omega) (by simp only [List.length_singleton]; omega) rfl pkA fun a28 c28 S28 hS28 => ?_
   refine o_nil ?_
   refine x_oneS hzB ?_
   refine e_one 11 rfl (by kernel_rfl) ?_
   refine o_step rfl (s_nil rfl) ?_
   refine o_nil ?_
   refine x_oneS hzB ?_
   refine e_one 12 rfl (by kernel_rfl) ?_
   refine o_step rfl (s_field rfl rfl (by decide)) ?_
   refine o_nil ?_
   refine x_oneS hzB ?_
   refine e_one 13 rfl (by kernel_rfl) ?_
   refine o_store rfl rfl rfl upA ltA rfl ?_
   refine o_nil ?_
   refine x_oneL rfl ?_
   refine e_done (by kernel_rfl) ?_
   refine x_block ?_
   refine x_then (hK7 _ _ ?_)
   refine c_region ?_
   refine o_step rfl (s_move rfl) ?_
   refine o_step rfl (s_add rfl rfl (by omega)) ?_
   refine o_step rfl (s_assign rfl) ?_
   refine o_nil ?_
   exact x_then (x_inv (k + 1, sls ++ [(⟨some ⟨b26, 0, none⟩, zs.length, zs⟩ : Sl Nat)], a28, c28, S28, SR ++ S26, ⟨List.replicate (k + 1) (List.replicate (w.length + 1) 0), SR ++ S26, none, 0, [], [], []⟩) ⟨by dsimp only; omega, by simp [hsl], hS28, by dsimp only; rw [List.replicate_succ', ← hzs]; rw [← hzs] at hL; exact hL.snoc hS26, rfl⟩ (by first | omega | (dsimp only; omega)) sbA (by simp only [List.append_assoc, List.append_nil, List.nil_append]; exact hzB))
  ·
   obtain rfl : k = re.length := by omega
   have hI : MeE.Inv (⟨b11, ra, rc, re, ta, tc, w, ma, mc, sls⟩ : MeE) σ := by rw [hσ]; exact Inv.begun (K := (⟨b11, ra, rc, re, ta, tc, w, ma, mc, sls⟩ : MeE)) hbb hL
   have hK : MeE.ok (⟨b11, ra, rc, re, ta, tc, w, ma, mc, sls⟩ : MeE) := ⟨hre, hsb, no_refs hsb hrf, show re.length ≤ 1000000 by omega, show w.length ≤ 1000000 by omega, hsl⟩
   refine o_step rfl (step_cast (v' := .bool false) (s_lss rfl rfl) (by rw [decide_eq_false hkr])) ?_
   refine o_nil ?_
   refine x_then (hK6 _ _ ?_)
   refine c_false rfl ?_
   refine c_exit ?_
   refine x_then_exit ?_
   refine x_then_exit ?_
   refine x_block_exit ?_
   refine x_then (hK3 _ _ ?_)
   refine c_seq fun _ hK8 => ?_
   refine c_region ?_
   refine o_step rfl (s_move rfl) ?_
   refine o_call (ends_of (⟨b11, ra, rc, re, ta, tc, w, ma, mc, sls⟩ : MeE) hK x ks 0 re.length hS.part 0 (Nat.zero_le _) σ hI) rfl rfl rfl ((Pick.takeC pkA (Pick.takeA pkA pkA))) (fun _ st => ⟨(RdK.old0 hw.1).out _ st, St.apart_M st (by exact hiB) hw.1 Apart.nil (by decide), (RdK.old0 hw.2).out _ st, St.apart_M st (by exact hiB) hw.2 Apart.nil (by decide), (hOM.rdk hiA).out _ st, St.apart st (Pick.takeC pkA (Pick.takeA pkA pkA)) hOM (by exact hiB)⟩) (fun v32 S32 ⟨a32, c32, l32, S032, σ32, hv32, hS32, hO32, hi32, hI32, hX32⟩ => ?_)
   subst hv32
   subst hS32
   have hl32 := hI32.len
   have hs32 := hO32.sl
   have hl32 : l32.length = w.length + 1 := hl32
   refine o_step rfl (s_assign rfl) ?_
   refine o_nil ?_
   refine x_then (hK8 _ _ ?_)
   refine c_seq fun _ hK9 => ?_
   refine c_region ?_
   refine o_step rfl (s_move rfl) ?_
   refine o_step rfl (s_move rfl) ?_
   refine o_step rfl (s_len rfl) ?_
   refine o_step rfl (s_idx rfl rfl hs32 (by omega)) ?_
   refine o_step rfl (s_ld rfl (((hO32.rds.mono hi32).rdk hiA).ld w.length 0 (bo0_get (by omega)) rfl (by decide) (by omega))) ?_
   refine o_step rfl (s_assign rfl) ?_
   refine o_nil ?_
   refine x_then (hK9 _ _ ?_)
   refine c_ret ?_
   refine ?_
   exact x_ret rfl (.tmp rfl (.nil)) (⟨_, rfl, bo0_true.trans (hI32.get w.length (Nat.le_refl _))⟩)
end Go.Proofs.YtmompllplidphaaDoor
