/- Part of the proofs over this seat: see the text that holds the theorem. Conditions: each theorem bears its own. -/
import Derived.Test.YtmompllplidphaaDoorHTZ
import Derived.Test.YtmompllplidphaaDoorSM23Z
import Derived.Test.YtmompllplidphaaDoorSW1Z
import Derived.Test.YtmompllplidphaaDoorSM15Z
import Derived.Test.YtmompllplidphaaDoorSW14Z
namespace Go.Proofs.YtmompllplidphaaDoor
open Go Go.HL Go.Proofs Go.HL.Kl Go.HL.Kl.Mc Go.HL.Kl.Mc.AskE
open MeE
structure MeJ where
  (l : List Bool) (So : Hp) (σ : MeS)
theorem own_len {a : Option Addr} {n c : Nat} {l : List Bool} {S : Hp} (h : OwnS Ebo 1 4 (.slice a n c) l S) (hn : l.length = n) : OwnS Ebo 1 4 (.slice a l.length c) l S := by rw [hn]; exact h
theorem slv {a : Option Addr} {n c : Nat} {l : List Bool} (hn : l.length = n) : Value.slice a n c = .slice a l.length c := by rw [hn]
theorem MeE.StepT.of {K : MeE} (hK : K.ok) {y : Nd} {js : F} (hE : K.EndsT y js) : K.StepT y js := fun at_ i1 hp fa fc fr S hS σ hI => step_fnM K hK y js hE at_ i1 hp fa fc fr S hS σ hI
theorem MeE.RoundT.of {K : MeE} (hK : K.ok) {x y : Nd} {js : F} (hSt : K.StepT y js) : K.RoundT x y js := fun at_ i1 h6 hp fa fc fr Sh S hO hS hSb σ hI => rounds_fnM K hK x y js hSt at_ i1 h6 hp fa fc fr Sh S hO hS hSb σ hI
theorem MeE.RoundT.at' {K : MeE} {x y : Nd} {js : F} (h : K.RoundT x y js) (at_ i1 : Nat) (h6 : x.op = 6) (hp : Part K.re (.nd x (.nd y js .nil) .nil) at_ i1) (fa : Option Addr) (fc n : Nat) (fr : List Bool) (hn : fr.length = n) (Sh : Hp) (S : Nat → Prop) (hO : OwnS Ebo 1 4 (.slice fa n fc) fr Sh) (hS : IsS fr K.w.length S) (hSb : ∀ p, S p → p ≤ K.w.length) (σ : MeS) (hI : K.Inv σ) :
  HL.Fn Tryd.prog 99 [pt K.bM, .int .i64 at_, .slice fa n fc] (fun W => K.Env W (K.obj σ :: (Sh ++ (σ.SR ++ (σ.SS ++ σ.Pool))))) (K.obj σ :: (Sh ++ (σ.SR ++ (σ.SS ++ σ.Pool)))) (K.OutQ (at_ + 1) i1 (img (rounds x (der1 K.w y js)) S) σ) := by
  subst hn; exact h at_ i1 h6 hp fa fc fr Sh S hO hS hSb σ hI
set_option maxHeartbeats 4000000 in
theorem ends_fnM (K : MeE) (hK : K.ok) (x : Nd) (ks : F) (ih : ∀ y js, js.size < ks.size → K.EndsT y js) (at_ i1 : Nat) (hp : Part K.re (.nd x ks .nil) at_ i1) (i : Nat) (hi : i ≤ K.w.length) (σ0 : MeS) (hI0 : K.Inv σ0) : HL.Fn Tryd.prog 66 [pt K.bM, .int .i64 at_, .int .i64 i] (fun W => K.Env W ((K.bM, .cells [.slice K.ra K.re.length K.rc, .slice K.ta K.w.length K.tc, .slice K.ma K.sls.length K.mc, .slice σ0.sa σ0.ss.length σ0.sc].toArray 106 (0, 0)) :: (σ0.SR ++ (σ0.SS ++ σ0.Pool)))) ((K.bM, .cells [.slice K.ra K.re.length K.rc, .slice K.ta K.w.length K.tc, .slice K.ma K.sls.length K.mc, .slice σ0.sa σ0.ss.length σ0.sc].toArray 106 (0, 0)) :: (σ0.SR ++ (σ0.SS ++ σ0.Pool))) (K.EndQ at_ i1 (der1 K.w x ks i) σ0) := by
  refine fn_of Tryd.func66 rfl rfl rfl fun w0 hw => ?_
  have hwl := hK.wl
  have hrl := hK.rl
  have hres := hw.d1.sl
  have hts := hw.d2.sl
  have hms := hw.d3.sl
  have hple := hp.le
  have hpl := hp.len
  obtain ⟨hx, hpk, _⟩ := hp.head
  have hxs : (F.nd x ks .nil).size = 1 + ks.size := by simp only [F.size]; omega
  have hat := (List.getElem?_eq_some_iff.1 hx).1
  have hnks := F.num_le ks
  have hasl : at_ < K.sls.length := by rw [hK.sl]; exact hat
  have hok : ndOk x = true := hp.wf.1
  have hop : 1 ≤ x.op ∧ x.op ≤ 8 := (flds_iff.1 (by simp only [ndOk, Bool.and_eq_true] at hok; exact hok.1)).1
  have hx8 := hK.r8 x (List.mem_of_getElem? hx)
  have hkn0 : (ks.num : Int) = x.kids := hp.wf.2.1
  have hcnt := hI0.cnt
  obtain ⟨sx, hsx⟩ : ∃ s, K.sls[at_]? = some s := ⟨_, List.getElem?_eq_getElem hasl⟩
  obtain ⟨row, R1, Rn, R2, hrow, hSR, hOr, hput⟩ := hI0.rows.at hsx
  have hOr : OwnS Eix 1 3 (.slice sx.a sx.xs.length sx.c) row Rn := hOr
  have hrow1 := hI0.len _ _ hrow
  obtain ⟨mv, hmv⟩ : ∃ m, row[i]? = some m := gE
  have hRn : HIn Rn σ0.SR := by rw [hSR]; exact fun p hp => List.mem_append_right _ (List.mem_append_left _ hp)
  have hlv : row.length = sx.xs.length := hOr.lenv
  have hOrs : IsSl (.slice sx.a sx.xs.length sx.c) sx.xs.length := by have h := hOr.sl; rw [hlv] at h; exact h
  have hsets := hI0.sets.sl
  refine cR fun _ hK1 => ?_; refine oA (oZ hK1 (c_seq fun _ hK2 => ?_)); refine cR fun _ hK3 => ?_; refine oM ?_; refine oS sN ?_; refine oS sF ?_; refine oS sL (oM ?_); refine oS (s_idx rfl rfl hms (by omega)) ?_; refine oS (s_ld rfl ((RdK.old hw.d3 hw.a3).ld at_ 0 hsx rfl (by decide) (by omega))) ?_; refine oM ?_; refine oS (s_idx rfl rfl hOrs (by omega)) ?_; refine oS (s_ld rfl (((hOr.rds.mono hRn).rdk hiA).ld i 0 hmv rfl (by decide) (by omega))) ?_
  by_cases hmz : (mv : Int) > 0
  ·obtain ⟨m, rfl⟩ : ∃ m, mv = m + 1 := ⟨mv - 1, by omega⟩
   obtain ⟨s, hss, hD⟩ := hI0.tab _ _ _ _ hrow hmv
   obtain ⟨hs1, S0, hin0, hO0⟩ := hI0.pool s (List.mem_of_getElem? hss)
   have hml := (List.getElem?_eq_some_iff.1 hss).1
   refine oS gtT (oZ hK3 ?_); refine cT (c_seq fun _ hK4 => ?_); refine c_quiet (by kernel_rfl) ?_; refine .op rfl (s_move rfl) ?_; refine .op rfl (s_nil rfl) ?_; refine .op rfl (s_field rfl rfl (by decide)) ?_; refine .op rfl (s_ld rfl (.own meA rfl)) ?_; refine .op rfl (s_move rfl) ?_; refine .op rfl (s_nil rfl) ?_; refine .op rfl (s_field rfl rfl (by decide)) ?_; refine .op rfl (s_ld rfl (.own meA rfl)) ?_; refine .op rfl (s_move rfl) ?_; refine .op rfl (s_idx rfl rfl hms (by omega)) ?_; refine .op rfl (s_ld rfl ((RdK.old hw.d3 hw.a3).ld at_ 0 hsx rfl (by decide) (by omega))) ?_; refine .op rfl (s_move rfl) ?_; refine .op rfl (s_idx rfl rfl hOrs (by omega)) ?_; refine .op rfl (s_ld rfl (((hOr.rds.mono hRn).rdk hiA).ld i 0 hmv rfl (by decide) (by omega))) ?_; refine .op rfl (step_cast (v' := .int .i64 (m : Nat)) (s_sub rfl rfl (by omega)) (congrArg _ (by omega))) ?_; refine .op rfl (s_idx rfl rfl hsets (by omega)) ?_; refine .op rfl (s_ld rfl ((hI0.sets.rdk hiA).ld m 0 hss rfl (by decide) (by omega))) ?_; refine .op rfl (s_assign rfl) ?_; refine .nil ?_; refine xZ hK4 (c_ret ?_); refine x_then_ret (?_); refine x_sub (Sub.refl _) (H' := ((K.bM, .cells [.slice K.ra K.re.length K.rc, .slice K.ta K.w.length K.tc, .slice K.ma K.sls.length K.mc, .slice σ0.sa σ0.ss.length σ0.sc].toArray 106 (0, 0)) :: (σ0.SR ++ (σ0.SS ++ σ0.Pool)))) hzB ?_; exact xR rfl rfl (⟨s.a, s.c, s.xs, S0, σ0, rfl, rfl, hO0, hin0, hD x ks .nil i1 hp, .refl hI0⟩)
  ·obtain rfl : mv = 0 := by omega
   refine oS gtF (oZ hK3 ?_); refine cFZ hK2 (cR fun _ hK5 => ?_); refine oM ?_; refine oS sN ?_; refine oS sF ?_; refine oS sL (oM ?_); refine oS (s_idx rfl rfl hres (by omega)) ?_; refine oS (s_ldB rfl ((RdK.old hw.d1 hw.a1).lds at_ hx rfl) (by rfl)) ?_; refine o_alloc (l := En zN) (by rw [En_zero]; rfl) rfl fun b7 => ?_; refine o_stW rfl rfl upA lnA lnA onA ?_; refine oZ hK5 (cR fun _ hK6 => ?_); refine oM ?_; refine oS sN ?_; refine oS sF ?_; refine oS sL ?_; refine oS sC ?_; refine oS sD ?_; refine o_make (E := Ebo) (zx := false) (n := K.w.length + 1) rfl rfl rfl (by omega) (by omega) rfl fun b56 S56 hS56 => ?_
   have hS56s := hS56.sl
   rw [List.length_replicate] at hS56s
   refine oA (oZ hK6 (cR fun _ hK7 => ?_)); refine oM ?_; refine oS sN ?_; refine oS sF ?_; refine oS sL ?_; refine oS sC ?_; refine oS sD ?_; refine o_make (E := Ebo) (zx := false) (n := K.w.length + 1) rfl rfl rfl (by omega) (by omega) rfl fun b63 S63 hS63 => ?_
   have hS63s := hS63.sl
   rw [List.length_replicate] at hS63s
   refine oA (oZ hK7 (cR fun _ hK8 => ?_)); refine oM (oM ?_); refine oS (s_idx rfl rfl hS63s (by omega)) ?_; refine o_stS1 i true hS63 pkA rfl rfl rfl (by rw [List.length_replicate]; omega) (by omega) fun Sh0 hSh0 => ?_
   have hIh : IsS ((List.replicate (K.w.length + 1) false).set i true) K.w.length (fun q => q = i) := .one hi
   refine oZ hK8 ?_; refine c_seqJ (ι := MeJ) (fun q => OwnS Ebo 1 4 (.slice (some ⟨b56, 0, none⟩) q.l.length (K.w.length + 1)) q.l q.So ∧ IsS q.l K.w.length (der1 K.w x ks i) ∧ K.Ext (at_ + 1) i1 σ0 q.σ) (fun q => [(8, .slice (some ⟨b56, 0, none⟩) q.l.length (K.w.length + 1))]) [(0, _), (1, _), (2, _), (6, _)] (fun q => (K.bM, .cells [.slice K.ra K.re.length K.rc, .slice K.ta K.w.length K.tc, .slice K.ma K.sls.length K.mc, .slice q.σ.sa q.σ.ss.length q.σ.sc].toArray 106 (0, 0)) :: (q.So ++ (q.σ.SR ++ (q.σ.SS ++ q.σ.Pool)))) sbA ?_ ?_
   ·rintro q ⟨hOq, hIq, hXq⟩
    have hlq := hIq.len
    have hcq := hXq.inv.cnt
    obtain ⟨row2, Q1, Qn, Q2, hrow2, hSR2, hOr2, hput2⟩ := hXq.inv.rows.at hsx
    have hOr2 : OwnS Eix 1 3 (.slice sx.a sx.xs.length sx.c) row2 Qn := hOr2
    have hr2 : row2 = row := by have h1 := hXq.out at_ (.inl (Nat.lt_succ_self _)); rw [hrow2, hrow] at h1; exact Option.some.inj h1
    subst hr2
    have hOr2s : IsSl (.slice sx.a sx.xs.length sx.c) sx.xs.length := by have h := hOr2.sl; rw [hlv] at h; exact h
    rw [hSR2]
    refine cR fun _ hK10 => ?_; refine oM (oM ?_); refine oS sN ?_; refine oS sF ?_; refine oS sL (oM ?_); refine o_bs (E := Esl) (xs := [(⟨(some ⟨b56, 0, none⟩), (K.w.length + 1), q.l⟩ : Sl Bool)]) (vs := [_]) rfl rfl rfl rfl rfl (by decide) (by decide) fun b186 S186 hS186 => ?_; refine o_app hXq.inv.sets (hS186.rdk hiA) rfl rfl rfl rfl (by simp only [List.length_singleton]; omega) (by simp only [List.length_singleton]; omega) rfl pkA fun a187 c187 S187 hS187 => ?_; refine oS sN ?_; refine oS sF ?_; refine o_store rfl rfl rfl upA ltA rfl ?_; refine oZ hK10 (c_seq fun _ hK11 => ?_); refine c_tail 13 (by kernel_rfl) ?_; refine .op rfl (s_move rfl) ?_; refine .op rfl (s_nil rfl) ?_; refine .op rfl (s_field rfl rfl (by decide)) ?_; refine .op rfl (s_ld rfl (.own meA rfl)) ?_; refine .op rfl (s_move rfl) ?_; refine .op rfl (s_idx rfl rfl hms (by omega)) ?_; refine .op rfl (s_ld rfl ((RdK.old hw.d3 hw.a3).ld at_ 0 hsx rfl (by decide) (by omega))) ?_; refine .op rfl (s_move rfl) ?_; refine .op rfl (s_move rfl) ?_; refine .op rfl (s_nil rfl) ?_; refine .op rfl (s_field rfl rfl (by decide)) ?_; refine .op rfl (s_ld rfl (.own meA rfl)) ?_; refine .op rfl (s_len rfl) ?_; refine .nil ?_; refine oS (s_idx rfl rfl hOr2s (by omega)) ?_; refine o_stS1 i (q.σ.ss ++ [(⟨(some ⟨b56, 0, none⟩), (K.w.length + 1), q.l⟩ : Sl Bool)]).length hOr2 pkA rfl rfl rfl (by omega) (by omega) fun Sn hSn => ?_; refine oZ hK11 (cR fun _ hK12 => ?_); refine oM ?_
    refine oA (oZ hK12 (c_ret ?_)); refine ?_; refine x_sub (Sub.refl _) (H' := (K.bM, .cells [.slice K.ra K.re.length K.rc, .slice K.ta K.w.length K.tc, .slice K.ma K.sls.length K.mc, .slice a187 (q.σ.ss ++ [(⟨(some ⟨b56, 0, none⟩), (K.w.length + 1), q.l⟩ : Sl Bool)]).length c187].toArray 106 (0, 0)) :: ((Q1 ++ (Sn ++ Q2)) ++ (S187 ++ (q.So ++ q.σ.Pool)))) (by simp only [List.append_assoc]; exact hzB) ?_
    rw [List.length_append] at hSn
    exact xR rfl rfl (⟨(some ⟨b56, 0, none⟩), (K.w.length + 1), q.l, q.So, ⟨q.σ.met.set at_ (row2.set i (q.σ.ss.length + 1)), Q1 ++ (Sn ++ Q2), a187, c187, q.σ.ss ++ [(⟨(some ⟨b56, 0, none⟩), (K.w.length + 1), q.l⟩ : Sl Bool)], S187, q.So ++ q.σ.Pool⟩, rfl, rfl, hOq, HIn.appL, hIq, ⟨Inv.add hXq.inv hrow2 hmv hOq hlq hS187 (hput2 _ _ hSn) (fun y js r e hp2 => (by have h1 := hp2.head.1; rw [hx] at h1; cases h1; rw [hp2.uniq hp]; exact hIq)), fun p hp => List.mem_append_right _ (hXq.pool p hp), fun k hk => (List.getElem?_set_ne (by omega)).trans (hXq.out k (by omega))⟩⟩)
   ·intro _ hJ9
    refine cR fun _ hK13 => ?_; refine oS sF ?_; refine oS sL (oZ hK13 (c_block (cR fun _ hK14 => ?_)))
    by_cases h1 : x.op = 1
    ·refine oS (eqT (h := h1)) ?_; refine oA (oZ hK14 ?_); refine cT (cR fun _ hK15 => ?_); refine oM (oM ?_); refine oS sN ?_; refine oS sF ?_; refine oS sL ?_; refine oS sC ?_
     by_cases hiw : (i : Int) < K.w.length
     ·obtain ⟨b, hb⟩ : ∃ b, K.w[i]? = some b := gE
      refine oS lsT (oZ hK15 ?_); refine cT (cR fun _ hK16 => ?_); refine oM ?_; refine oS sN ?_; refine oS sF ?_; refine oS sL (oM ?_); refine oS (s_idx rfl rfl hts (by omega)) ?_; refine oS (s_ld rfl ((RdK.old hw.d2 hw.a2).ld i 0 hb rfl (by decide) (by omega))) ?_; refine oA (oZ hK16 (c_region (oM (oM ?_)))); refine oS sD (oM ?_); refine oS (step_cast (v' := .int .u8 ((b.toNat / 64 : Nat) : Int)) (s_quo rfl rfl (by decide)) (congrArg _ (quo64 b.toNat_lt))) ?_; refine oS sF ?_; refine oS (step_cast (v' := .pointer (some ⟨b7, 1 + b.toNat / 64, none⟩)) (s_indexA rfl rfl (by have := b.toNat_lt; omega)) (by simp)) ?_; refine oS (s_ld rfl ((RdPK.own' (cs := Ec x.set) meA nd_set).cel (j := b.toNat / 64) (Ec_get _ (by have := b.toNat_lt; omega)) (by have := b.toNat_lt; omega))) ?_; refine oM ?_; refine oS (step_cast (v' := .int .u8 ((b.toNat % 64 : Nat) : Int)) (s_rem rfl rfl (by decide)) (congrArg _ (rem64 b.toNat_lt))) ?_; refine oS (s_shr rfl rfl (by omega)) ?_; refine oS (s_and rfl rfl) ?_; refine oS (step_cast (v' := .bool (x.set.getLsbD b.toNat)) (s_eql rfl rfl) (congrArg Value.bool (hasB x.set b.toNat_lt))) ?_; refine oS (s_idx rfl rfl hS56s (by omega)) ?_; refine o_stS1 (i + 1) _ hS56 pkA rfl rfl rfl (by rw [List.length_replicate]; omega) (by omega) fun Sx98 hSx98 => ?_
      refine o_nil (x_block ?_)
      have hle : ((List.replicate (K.w.length + 1) false).set (i + 1) (x.set.getLsbD b.toNat)).length = K.w.length + 1 := by first | (rw [orL_len, List.length_replicate]) | (rw [List.length_set, List.length_replicate]) | (rw [List.length_replicate]) | exact hll
      exact x_then (hJ9 ⟨(List.replicate (K.w.length + 1) false).set (i + 1) (x.set.getLsbD b.toNat), Sx98, σ0⟩ _ _ ⟨own_len hSx98 hle, (.ds1 h1 hb Iff.rfl), .refl hI0⟩ (by exact Sub.cons' rfl (slv hle) sbA) sbA hzB)
     ·refine oS lsF (oZ hK15 ?_); refine cF (c_skip (x_block ?_))
      have hle : ((List.replicate (K.w.length + 1) false)).length = K.w.length + 1 := by first | (rw [orL_len, List.length_replicate]) | (rw [List.length_set, List.length_replicate]) | (rw [List.length_replicate]) | exact hll
      exact x_then (hJ9 ⟨(List.replicate (K.w.length + 1) false), S56, σ0⟩ _ _ ⟨own_len hS56 hle, (.ds1n h1 (by omega)), .refl hI0⟩ (by exact Sub.cons' rfl (slv hle) sbA) sbA hzB)
    ·refine oS (eqF (h := h1)) ?_; refine oA (oZ hK14 ?_); refine cF (cR fun _ hK17 => ?_)
     by_cases h2 : x.op = 2
     ·refine oS (eqT (h := h2)) ?_; refine oA (oZ hK17 ?_); refine cT (c_region (oM (oM (oM ?_)))); refine oS (s_eql rfl rfl) ?_; refine oS (s_idx rfl rfl hS56s (by omega)) ?_; refine o_stS1 i _ hS56 pkA rfl rfl rfl (by rw [List.length_replicate]; omega) (by omega) fun Sx105 hSx105 => ?_; refine o_nil (x_block ?_)
      have hle : ((List.replicate (K.w.length + 1) false).set i (decide ((i : Int) = 0))).length = K.w.length + 1 := by first | (rw [orL_len, List.length_replicate]) | (rw [List.length_set, List.length_replicate]) | (rw [List.length_replicate]) | exact hll
      exact x_then (hJ9 ⟨(List.replicate (K.w.length + 1) false).set i (decide ((i : Int) = 0)), Sx105, σ0⟩ _ _ ⟨own_len hSx105 hle, (.ds2 h2 hi (by rw [decide_eq_true_iff]; omega)), .refl hI0⟩ (by exact Sub.cons' rfl (slv hle) sbA) sbA hzB)
     ·refine oS (eqF (h := h2)) ?_; refine oA (oZ hK17 ?_); refine cF (cR fun _ hK18 => ?_)
      by_cases h3 : x.op = 3
      ·refine oS (eqT (h := h3)) ?_; refine oA (oZ hK18 ?_); refine cT (c_region (oM (oM (oM (oM ?_))))); refine oS sN ?_; refine oS sF ?_; refine oS sL ?_; refine oS sC ?_; refine oS (s_eql rfl rfl) ?_; refine oS (s_idx rfl rfl hS56s (by omega)) ?_; refine o_stS1 i _ hS56 pkA rfl rfl rfl (by rw [List.length_replicate]; omega) (by omega) fun Sx117 hSx117 => ?_; refine o_nil (x_block ?_)
       have hle : ((List.replicate (K.w.length + 1) false).set i (decide ((i : Int) = K.w.length))).length = K.w.length + 1 := by first | (rw [orL_len, List.length_replicate]) | (rw [List.length_set, List.length_replicate]) | (rw [List.length_replicate]) | exact hll
       exact x_then (hJ9 ⟨(List.replicate (K.w.length + 1) false).set i (decide ((i : Int) = K.w.length)), Sx117, σ0⟩ _ _ ⟨own_len hSx117 hle, (.ds3 h3 hi (by rw [decide_eq_true_iff]; omega)), .refl hI0⟩ (by exact Sub.cons' rfl (slv hle) sbA) sbA hzB)
      ·refine oS (eqF (h := h3)) ?_; refine oA (oZ hK18 ?_); refine cF (cR fun _ hK19 => ?_)
       by_cases h7 : x.op = 7
       ·refine oS (eqT (h := h7)) ?_; refine oA (oZ hK19 ?_); refine cT (c_region (oM (oM (oM ?_)))); refine oS sD (oM ?_)
        obtain ⟨y, js, rfl⟩ := grp_kid hp.wf h7
        refine o_call (ih y js (by simp only [F.size]; omega) (at_ + 1) _ hpk i hi σ0 hI0) rfl rfl rfl ((Pick.takeC pkA (Pick.takeA pkA pkA))) (fun _ st => ⟨(RdK.old hw.d1 hw.a1).out _ st, St.apart_M st (by exact hiB) hw.d1 hw.a1 (by decide), (RdK.old hw.d2 hw.a2).out _ st, St.apart_M st (by exact hiB) hw.d2 hw.a2 (by decide), (RdK.old hw.d3 hw.a3).out _ st, St.apart_M st (by exact hiB) hw.d3 hw.a3 (by decide)⟩) (fun v125 S125 ⟨a125, c125, l125, S0125, σ125, hv125, hS125, hO125, hi125, hI125, hX125⟩ => ?_); subst hv125
        subst hS125
        have hl125 := hI125.len
        refine o_call (orM2_fn (some ⟨b56, 0, none⟩) _ _ (List.replicate (K.w.length + 1) false) List.length_replicate S56 hS56 a125 c125 l125 hl125 (by omega)) rfl rfl rfl pkA (fun _ st => ⟨((hO125.rds.mono hi125).rdk hiA).out _ st, St.apart st pkA hO125 (fun p hp => (show HIn σ125.Pool _ from by exact hiB) p (hi125 p hp))⟩) (fun v126 So126 ⟨hv126, hO126⟩ => ?_); subst hv126
        refine o_nil (x_block ?_)
        have hle : (orL (List.replicate (K.w.length + 1) false) l125).length = K.w.length + 1 := by first | (rw [orL_len, List.length_replicate]) | (rw [List.length_set, List.length_replicate]) | (rw [List.length_replicate]) | exact hll
        exact x_then (hJ9 ⟨orL (List.replicate (K.w.length + 1) false) l125, So126, σ125⟩ _ _ ⟨own_len hO126 hle, (hI125.ds7 h7), hX125.wide (Nat.le_refl _) (by omega)⟩ (by exact Sub.cons' rfl (slv hle) sbA) sbA hzB)
       ·refine oS (eqF (h := h7)) ?_; refine oA (oZ hK19 ?_); refine cF (cR fun _ hK20 => ?_)
        by_cases h6 : x.op = 6
        ·refine oS (eqT (h := h6)) ?_; refine oA (oZ hK20 ?_); refine cT (c_region (oM (oM (oM (oM ?_)))))
         obtain ⟨y, js, rfl⟩ := rep_kid hp.wf h6
         refine o_call ((MeE.RoundT.of hK (.of hK (ih y js (by simp only [F.size]; omega)))).at' at_ i1 h6 hp (some ⟨b63, 0, none⟩) (K.w.length + 1) _ ((List.replicate (K.w.length + 1) false).set i true) hIh.len Sh0 _ hSh0 hIh (fun p h => by have h : p = i := h; omega) σ0 hI0) rfl rfl rfl ((Pick.takeC pkA (Pick.takeA pkA (Pick.takeA pkA pkA)))) (fun _ st => ⟨(RdK.old hw.d1 hw.a1).out _ st, St.apart_M st (by exact hiB) hw.d1 hw.a1 (by decide), (RdK.old hw.d2 hw.a2).out _ st, St.apart_M st (by exact hiB) hw.d2 hw.a2 (by decide), (RdK.old hw.d3 hw.a3).out _ st, St.apart_M st (by exact hiB) hw.d3 hw.a3 (by decide)⟩) (fun v133 S133 ⟨a133, c133, l133, So133, σ133, hv133, hS133, hO133, hI133, hX133⟩ => ?_); subst hv133
         subst hS133
         have hl133 := hI133.len
         refine o_call (orM2_fn (some ⟨b56, 0, none⟩) _ _ (List.replicate (K.w.length + 1) false) List.length_replicate S56 hS56 a133 c133 l133 hl133 (by omega)) rfl rfl rfl pkA (fun _ st => ⟨(hO133.rdk hiA).out _ st, St.apart st pkA hO133 (by exact hiB)⟩) (fun v134 So134 ⟨hv134, hO134⟩ => ?_); subst hv134
         refine o_nil (x_block ?_)
         have hle : (orL (List.replicate (K.w.length + 1) false) l133).length = K.w.length + 1 := by first | (rw [orL_len, List.length_replicate]) | (rw [List.length_set, List.length_replicate]) | (rw [List.length_replicate]) | exact hll
         exact x_then (hJ9 ⟨orL (List.replicate (K.w.length + 1) false) l133, So134, σ133⟩ _ _ ⟨own_len hO134 hle, (hI133.ds6 h6), hX133⟩ (by exact Sub.cons' rfl (slv hle) sbA) sbA hzB)
        ·refine oS (eqF (h := h6)) ?_; refine oA (oZ hK20 ?_); refine cF (cR fun _ hK21 => ?_)
         by_cases h4 : x.op = 4
         ·refine oS (eqT (h := h4)) ?_; refine oA (oZ hK21 ?_); refine cT (cR fun _ hK22 => ?_); refine oM ?_; refine oS sD (oA (oZ hK22 (c_seq fun _ hK23 => ?_))); refine cR fun _ hK24 => ?_; refine oA (oZ hK24 (c_block ?_)); refine c_loop9 (fun (k : Nat) (kp : Nat) (g : F) (ha : Option Addr) (hc : Nat) (h : List Bool) (Sg : Hp) (σ : MeS) (T : Nat → Prop) => at_ + 1 ≤ kp ∧ Part K.re g kp (at_ + 1 + ks.size) ∧ k + g.num = ks.num ∧ g.size ≤ ks.size ∧ OwnS Ebo 1 4 (.slice ha h.length hc) h Sg ∧ IsS h K.w.length T ∧ CatI K.w x ks g i T ∧ K.Ext (at_ + 1) i1 σ0 σ) (fun (k : Nat) (kp : Nat) (g : F) (ha : Option Addr) (hc : Nat) (h : List Bool) (Sg : Hp) (σ : MeS) (T : Nat → Prop) => [(12, .int .i64 k), (11, .int .i64 kp), (9, .slice ha h.length hc)]) [(0, _), (1, _), (2, _), (6, _), (7, _), (8, _)] (fun (k : Nat) (kp : Nat) (g : F) (ha : Option Addr) (hc : Nat) (h : List Bool) (Sg : Hp) (σ : MeS) (T : Nat → Prop) => (b7, .cells (En x).toArray 57 (0, 0)) :: (K.bM, .cells [.slice K.ra K.re.length K.rc, .slice K.ta K.w.length K.tc, .slice K.ma K.sls.length K.mc, .slice σ.sa σ.ss.length σ.sc].toArray 106 (0, 0)) :: (S56 ++ (Sg ++ (σ.SR ++ (σ.SS ++ σ.Pool))))) (fun (k : Nat) (kp : Nat) (g : F) (ha : Option Addr) (hc : Nat) (h : List Bool) (Sg : Hp) (σ : MeS) (T : Nat → Prop) => ks.num - k) 0 (at_ + 1) ks (some ⟨b63, 0, none⟩) (K.w.length + 1) ((List.replicate (K.w.length + 1) false).set i true) Sh0 σ0 (fun q => q = i) ⟨Nat.le_refl _, hpk, by simp, Nat.le_refl _, own_len hSh0 hIh.len, hIh, .start h4, .refl hI0⟩ (by exact Sub.cons rfl (Sub.cons rfl (Sub.cons' rfl (slv hIh.len) sbA))) sbA hzB ?_
          rintro k kp g ha hc h Sg σ T ⟨hkp, hpg, hkn, hgs, hOg, hIg, hT, hX⟩
          have hlg := hIg.len
          refine c_seq fun _ hK25 => ?_; refine cR fun _ hK26 => ?_; refine oM ?_; refine oS sF ?_; refine oS sL ?_
          by_cases hkk : (k : Int) < x.kids
          ·obtain ⟨y, js, r, rfl⟩ : ∃ y js r, g = F.nd y js r := by cases g with | nil => simp [F.num] at hkn; omega | nd y a b => exact ⟨y, a, b, rfl⟩
           obtain ⟨hy, hpy, hpr⟩ := hpg.head
           have hgl := hpg.le
           have hgn := hpg.len
           simp only [F.size] at hgn hgs
           have hgm : (F.nd y js r).num = r.num + 1 := by simp [F.num]; try omega
           refine oS lsT (oZ hK26 ?_); refine cTZ hK25 (c_seq fun _ hK27 => ?_); refine c_block (cR fun _ hK28 => ?_); refine oM (oM (oM ?_)); refine o_call ((MeE.StepT.of hK (ih y js (by omega))) kp _ hpg.one ha hc h T hIg σ hX.inv) rfl rfl rfl ((Pick.takeC pkA (Pick.takeA pkA pkA))) (fun _ st => ⟨⟨(RdK.old hw.d1 hw.a1).out _ st, St.apart_M st (by exact hiB) hw.d1 hw.a1 (by decide), (RdK.old hw.d2 hw.a2).out _ st, St.apart_M st (by exact hiB) hw.d2 hw.a2 (by decide), (RdK.old hw.d3 hw.a3).out _ st, St.apart_M st (by exact hiB) hw.d3 hw.a3 (by decide)⟩, (hOg.rdk hiA).out _ st, St.apart st (Pick.takeC pkA (Pick.takeA pkA pkA)) hOg (by exact hiB)⟩) (fun v148 S148 ⟨a148, c148, l148, So148, σ148, hv148, hS148, hO148, hI148, hX148⟩ => ?_)
           subst hv148; subst hS148
           refine oA (oZ hK28 (c_region (oM ?_))); refine oS sN ?_; refine oS sF ?_; refine oS sL (oM ?_); refine o_callP (rBehind_fn K.ra K.rc K.re hK.rng hK.sh y js kp _ hpg.one) rfl rfl rfl (fun _ st => (RdK.old hw.d1 hw.a1).out _ st) (fun v154 hv154 => ?_); subst hv154
           refine oA (o_nil (x_block (xZ hK27 (c_region (oM ?_))))); refine oS sD (oA (o_nil ?_)); exact xI (k + 1, (kp + 1 + js.size), r, a148, c148, l148, So148, σ148, (img (der1 K.w y js) T)) ⟨by dsimp only; omega, hpr, by dsimp only; omega, by dsimp only; omega, hO148, hI148, hT.step, hX.trans hX148 (by omega) (by omega)⟩
          ·obtain rfl : g = F.nil := F.num_nil (by omega)
           refine oS lsF (oZ hK26 ?_); refine cF ?_; refine c_exit ?_; refine x_then_exit (x_then_exit (x_block_exit (xZ hK23 (c_region (oM (oM ?_)))))); refine o_call (orM2_fn (some ⟨b56, 0, none⟩) _ _ (List.replicate (K.w.length + 1) false) List.length_replicate S56 hS56 ha hc h hlg (by omega)) rfl rfl rfl pkA (fun _ st => ⟨(hOg.rdk hiA).out _ st, St.apart st pkA hOg (by exact hiB)⟩) (fun v157 So157 ⟨hv157, hO157⟩ => ?_); subst hv157
           refine o_nil (x_block ?_)
           have hle : (orL (List.replicate (K.w.length + 1) false) h).length = K.w.length + 1 := by first | (rw [orL_len, List.length_replicate]) | (rw [List.length_set, List.length_replicate]) | (rw [List.length_replicate]) | exact hll
           exact x_then (hJ9 ⟨orL (List.replicate (K.w.length + 1) false) h, So157, σ⟩ _ _ ⟨own_len hO157 hle, (hT.done hIg), hX⟩ (by exact Sub.cons' rfl (slv hle) sbA) sbA hzB)
         ·refine oS (eqF (h := h4)) ?_; refine oA (oZ hK21 ?_); refine cF (cR fun _ hK29 => ?_)
          by_cases h5 : x.op = 5
          ·refine oS (eqT (h := h5)) ?_; refine oA (oZ hK29 ?_); refine cT (cR fun _ hK30 => ?_); refine oM ?_; refine oS sD (oA (oZ hK30 (cR fun _ hK31 => ?_))); refine oA (oZ hK31 (c_block ?_)); refine c_loop7 (fun (k : Nat) (kp : Nat) (g : F) (l : List Bool) (So : Hp) (σ : MeS) (T : Nat → Prop) => at_ + 1 ≤ kp ∧ Part K.re g kp (at_ + 1 + ks.size) ∧ k + g.num = ks.num ∧ g.size ≤ ks.size ∧ OwnS Ebo 1 4 (.slice (some ⟨b56, 0, none⟩) (K.w.length + 1) (K.w.length + 1)) l So ∧ IsS l K.w.length T ∧ AltI K.w x ks g i T ∧ K.Ext (at_ + 1) i1 σ0 σ) (fun (k : Nat) (kp : Nat) (g : F) (l : List Bool) (So : Hp) (σ : MeS) (T : Nat → Prop) => [(14, .int .i64 k), (13, .int .i64 kp)]) [(0, _), (1, _), (2, _), (6, _), (7, _), (8, _)] (fun (k : Nat) (kp : Nat) (g : F) (l : List Bool) (So : Hp) (σ : MeS) (T : Nat → Prop) => (b7, .cells (En x).toArray 57 (0, 0)) :: (K.bM, .cells [.slice K.ra K.re.length K.rc, .slice K.ta K.w.length K.tc, .slice K.ma K.sls.length K.mc, .slice σ.sa σ.ss.length σ.sc].toArray 106 (0, 0)) :: (So ++ (σ.SR ++ (σ.SS ++ σ.Pool)))) (fun (k : Nat) (kp : Nat) (g : F) (l : List Bool) (So : Hp) (σ : MeS) (T : Nat → Prop) => ks.num - k) 0 (at_ + 1) ks (List.replicate (K.w.length + 1) false) S56 σ0 (fun _ => False) ⟨Nat.le_refl _, hpk, by simp, Nat.le_refl _, hS56, .none, .start h5, .refl hI0⟩ sbA sbA hzB ?_
           rintro k kp g l So σ T ⟨hkp, hpg, hkn, hgs, hO, hIl, hT, hX⟩
           have hll := hIl.len
           refine c_seq fun _ hK32 => ?_; refine cR fun _ hK33 => ?_; refine oM ?_; refine oS sF ?_; refine oS sL ?_
           by_cases hkk : (k : Int) < x.kids
           ·obtain ⟨y, js, r, rfl⟩ : ∃ y js r, g = F.nd y js r := by cases g with | nil => simp [F.num] at hkn; omega | nd y a b => exact ⟨y, a, b, rfl⟩
            obtain ⟨hy, hpy, hpr⟩ := hpg.head
            have hgl := hpg.le
            have hgn := hpg.len
            simp only [F.size] at hgn hgs
            have hgm : (F.nd y js r).num = r.num + 1 := by simp [F.num]; try omega
            refine oS lsT (oZ hK33 ?_); refine cTZ hK32 (c_seq fun _ hK34 => ?_); refine c_block (cR fun _ hK35 => ?_); refine oM (oM (oM (oM ?_))); refine o_call (ih y js (by omega) kp _ hpg.one i hi σ hX.inv) rfl rfl rfl ((Pick.takeC pkA (Pick.takeA pkA pkA))) (fun _ st => ⟨(RdK.old hw.d1 hw.a1).out _ st, St.apart_M st (by exact hiB) hw.d1 hw.a1 (by decide), (RdK.old hw.d2 hw.a2).out _ st, St.apart_M st (by exact hiB) hw.d2 hw.a2 (by decide), (RdK.old hw.d3 hw.a3).out _ st, St.apart_M st (by exact hiB) hw.d3 hw.a3 (by decide)⟩) (fun v172 S172 ⟨a172, c172, l172, S0172, σ172, hv172, hS172, hO172, hi172, hI172, hX172⟩ => ?_)
            subst hv172; subst hS172
            have hl172 := hI172.len
            refine o_call (orM2_fn (some ⟨b56, 0, none⟩) _ _ l hll So hO a172 c172 l172 hl172 (by omega)) rfl rfl rfl pkA (fun _ st => ⟨((hO172.rds.mono hi172).rdk hiA).out _ st, St.apart st pkA hO172 (fun p hp => (show HIn σ172.Pool _ from by exact hiB) p (hi172 p hp))⟩) (fun v173 So173 ⟨hv173, hO173⟩ => ?_); subst hv173
            refine oZ hK35 (c_region (oM ?_)); refine oS sN ?_; refine oS sF ?_; refine oS sL (oM ?_); refine o_callP (rBehind_fn K.ra K.rc K.re hK.rng hK.sh y js kp _ hpg.one) rfl rfl rfl (fun _ st => (RdK.old hw.d1 hw.a1).out _ st) (fun v179 hv179 => ?_); subst hv179
            refine oA (o_nil (x_block (xZ hK34 (c_region (oM ?_))))); refine oS sD (oA (o_nil ?_)); exact xI (k + 1, (kp + 1 + js.size), r, orL l l172, So173, σ172, (fun q => T q ∨ der1 K.w y js i q)) ⟨by dsimp only; omega, hpr, by dsimp only; omega, by dsimp only; omega, hO173, hIl.or hI172, hT.step, hX.trans hX172 (by omega) (by omega)⟩
           ·obtain rfl : g = F.nil := F.num_nil (by omega)
            refine oS lsF (oZ hK33 ?_); refine cF ?_; refine c_exit ?_; refine x_then_exit (x_then_exit (x_block_exit (x_block ?_)))
            have hle : (l).length = K.w.length + 1 := by first | (rw [orL_len, List.length_replicate]) | (rw [List.length_set, List.length_replicate]) | (rw [List.length_replicate]) | exact hll
            exact x_then (hJ9 ⟨l, So, σ⟩ _ _ ⟨own_len hO hle, (hT.done hIl), hX⟩ (by exact Sub.cons' rfl (slv hle) sbA) sbA hzB)
          ·exfalso; omega
theorem ends_all (K : MeE) (hK : K.ok) : ∀ (n : Nat) (x : Nd) (ks : F), ks.size < n → K.EndsT x ks
  | 0, _, _, h => absurd h (Nat.not_lt_zero _)
  | n + 1, x, ks, h => fun at_ i1 hp i hi σ hI => ends_fnM K hK x ks (fun y js hj => ends_all K hK n y js (by omega)) at_ i1 hp i hi σ hI
theorem ends_of (K : MeE) (hK : K.ok) (x : Nd) (ks : F) : K.EndsT x ks := ends_all K hK (ks.size + 1) x ks (Nat.lt_succ_self _)
theorem zers_rep : ∀ (n m : Nat), zers (List.replicate n (List.replicate m 0)) = n * m
  | 0, m => by simp [zers]
  | n + 1, m => by
    have h := zers_rep n m
    have h2 : zer (List.replicate m 0) = m := by simp [zer, List.countP_replicate]
    simp only [zers] at h ⊢
    rw [List.replicate_succ, List.map_cons, List.sum_cons, h, h2, Nat.succ_mul, Nat.add_comm]
theorem Inv.begun {K : MeE} (hb : K.re.length * (K.w.length + 1) ≤ 1000000) {SR : Hp} (h : OwnL Eix 1 3 K.sls (List.replicate K.re.length (List.replicate (K.w.length + 1) 0)) SR) : K.Inv ⟨List.replicate K.re.length (List.replicate (K.w.length + 1) 0), SR, none, 0, [], [], []⟩ :=
  ⟨h, .nil, .begun, fun s hs => (by cases hs), fun k l hk => (by rw [(List.mem_replicate.1 (List.mem_of_getElem? hk)).2, List.length_replicate]), by rw [zers_rep]; simpa using hb⟩
end Go.Proofs.YtmompllplidphaaDoor
namespace Go.Proofs.YtmompllplidphaaDoor
open Go Go.HL Go.Proofs Go.HL.Kl Go.HL.Kl.Mc Go.HL.Sts
set_option maxHeartbeats 2000000 in
theorem means_fn (ra : Option Addr) (rc : Nat) (re : List Nd) (hre : ∀ x ∈ re, -128 ≤ x.op ∧ x.op < 128)(hsb : shapedB re = true) (hrf : refsB re = false) (x : Nd) (ks : F) (hS : Mc.Shp re x ks) (hrl : re.length ≤ 1000) (ta : Option Addr) (tc : Nat) (w : List UInt8) (hwl : w.length ≤ 64) : HL.Fn Tryd.prog 27 [.slice ra re.length rc, .slice ta w.length tc] (fun W => Rd En W (.slice ra re.length rc) re ∧ Rd Eb W (.slice ta w.length tc) w) [] (fun v _ => ∃ b : Bool, v = .bool b ∧ (b = true ↔ der1 w x ks 0 w.length)) := by
  refine fn_of Tryd.func27 rfl rfl rfl fun w0 hw => ?_
  obtain ⟨zs, hzs⟩ : ∃ zs : List Nat, zs = (List.replicate (w.length + 1) 0) := ⟨_, rfl⟩
  have hzl : zs.length = w.length + 1 := by rw [hzs, List.length_replicate]
  have hbb : re.length * (w.length + 1) ≤ 1000000 := Nat.le_trans (Nat.mul_le_mul hrl (show w.length + 1 ≤ 65 by omega)) (by decide)
  have hts := hw.2.sl
  refine cR fun _ hK1 => ?_; refine oA (oZ hK1 (cR fun _ hK2 => ?_)); refine oM (oM ?_); refine oS (step_cast (v' := .agg [.slice ra re.length rc, .slice ta w.length tc, .slice none 0 0, .slice none 0 0].toArray) (s_build (cs := [_, _, _, _]) (vs := [_, _]) rfl rfl (.cons rfl rfl rfl rfl rfl (.cons rfl rfl rfl rfl rfl .nil))) rfl) ?_; refine o_box rfl rfl rfl fun b11 => ?_; refine oA (oZ hK2 (c_seq fun _ hK3 => ?_)); refine cR fun _ hK4 => ?_; refine oA (oZ hK4 (c_block ?_)); refine c_loop7 (fun (k : Nat) (sls : List (Sl Nat)) (ma : Option Addr) (mc : Nat) (SM : Hp) (SR : Hp) (σ : MeS) => k ≤ re.length ∧ sls.length = k ∧ OwnS Esl 1 46 (.slice ma sls.length mc) sls SM ∧ OwnL Eix 1 3 sls (List.replicate k (List.replicate (w.length + 1) 0)) SR ∧ σ = ⟨List.replicate k (List.replicate (w.length + 1) 0), SR, none, 0, [], [], []⟩) (fun (k : Nat) (sls : List (Sl Nat)) (ma : Option Addr) (mc : Nat) (SM : Hp) (SR : Hp) (σ : MeS) => [(6, .int .i64 k)]) [(0, _), (1, _), (4, _), (5, _)] (fun (k : Nat) (sls : List (Sl Nat)) (ma : Option Addr) (mc : Nat) (SM : Hp) (SR : Hp) (σ : MeS) => (b11, .cells [.slice ra re.length rc, .slice ta w.length tc, .slice ma sls.length mc, .slice σ.sa σ.ss.length σ.sc].toArray 106 (0, 0)) :: (SM ++ (σ.SR ++ (σ.SS ++ σ.Pool)))) (fun (k : Nat) (sls : List (Sl Nat)) (ma : Option Addr) (mc : Nat) (SM : Hp) (SR : Hp) (σ : MeS) => re.length - k) 0 [] none 0 [] [] ⟨[], [], none, 0, [], [], []⟩ ⟨Nat.zero_le _, rfl, .nil, .nil, rfl⟩ sbA sbA hzB ?_
  rintro k sls ma mc SM SR σ ⟨hk, hsl, hOM, hL, hσ⟩
  refine c_seq fun _ hK5 => ?_; refine cR fun _ hK6 => ?_; refine oM (oM ?_); refine oS sC ?_
  by_cases hkr : (k : Int) < re.length
  ·subst hσ
   dsimp only
   simp only [List.append_nil, List.nil_append, List.length_nil]
   refine oS (lsT (h := hkr)) ?_; refine oZ hK6 ?_; refine cTZ hK5 (c_seq fun _ hK7 => ?_); refine c_block ?_; refine c_drawE ([(b11, .cells [.slice ra re.length rc, .slice ta w.length tc, .slice ma sls.length mc, .slice none 0 0].toArray 106 (0, 0))]) (fun i => Nat.beq i 13) ?_; refine eP 0 rfl sM ?_; refine eP 1 rfl sM ?_; refine eP 2 rfl sN ?_; refine eP 3 rfl sF ?_; refine eP 5 rfl sM ?_; refine eP 6 rfl sC ?_; refine eP 7 rfl sD ?_; refine eK 4 rfl sL (eO 8 rfl ?_); refine o_make (E := Eix) (zx := 0) (n := w.length + 1) rfl rfl rfl (by omega) (by omega) rfl fun b26 S26 hS26 => ?_
   rw [← hzs, ← hzl] at hS26
   rw [← hzl]
   refine oX (eO 9 rfl ?_); refine o_bs (E := Esl) (xs := [(⟨some ⟨b26, 0, none⟩, zs.length, zs⟩ : Sl Nat)]) (vs := [_]) rfl rfl rfl rfl rfl (by decide) (by decide) fun b27 S27 hS27 => ?_; refine oX (eO 10 rfl ?_); refine o_app hOM (hS27.rdk hiA) rfl rfl rfl rfl (by simp only [List.length_singleton]; omega) (by simp only [List.length_singleton]; omega) rfl pkA fun a28 c28 S28 hS28 => ?_; refine oX (eO 11 rfl ?_); refine oS sN (oX (eO 12 rfl ?_)); refine oS sF (oX (eO 13 rfl ?_)); refine o_store rfl rfl rfl upA ltA rfl ?_; refine o_nil ?_; refine x_oneL rfl ?_; refine e_done (by kernel_rfl) ?_; refine x_block (xZ hK7 (c_region (oM ?_))); refine oS sD (oA (o_nil ?_)); exact x_then (x_inv (k + 1, sls ++ [(⟨some ⟨b26, 0, none⟩, zs.length, zs⟩ : Sl Nat)], a28, c28, S28, SR ++ S26, ⟨List.replicate (k + 1) (List.replicate (w.length + 1) 0), SR ++ S26, none, 0, [], [], []⟩) ⟨by dsimp only; omega, by simp [hsl], hS28, by dsimp only; rw [List.replicate_succ', ← hzs]; rw [← hzs] at hL; exact hL.snoc hS26, rfl⟩ (by first | omega | (dsimp only; omega)) sbA (by simp only [List.append_assoc, List.append_nil, List.nil_append]; exact hzB))
  ·obtain rfl : k = re.length := by omega
   have hI : MeE.Inv (⟨b11, ra, rc, re, ta, tc, w, ma, mc, sls⟩ : MeE) σ := by rw [hσ]; exact Inv.begun (K := (⟨b11, ra, rc, re, ta, tc, w, ma, mc, sls⟩ : MeE)) hbb hL
   have hK : MeE.ok (⟨b11, ra, rc, re, ta, tc, w, ma, mc, sls⟩ : MeE) := ⟨hre, hsb, no_refs hsb hrf, show re.length ≤ 1000000 by omega, show w.length ≤ 1000000 by omega, hsl⟩
   refine oS (lsF (h := hkr)) ?_; refine oZ hK6 ?_; refine cF ?_; refine c_exit ?_; refine x_then_exit (x_then_exit (x_block_exit (xZ hK3 (cR fun _ hK8 => ?_)))); refine oM ?_; refine o_call (ends_of (⟨b11, ra, rc, re, ta, tc, w, ma, mc, sls⟩ : MeE) hK x ks 0 re.length hS.part 0 (Nat.zero_le _) σ hI) rfl rfl rfl ((Pick.takeC pkA (Pick.takeA pkA pkA))) (fun _ st => ⟨(RdK.old0 hw.1).out _ st, St.apart_M st (by exact hiB) hw.1 Apart.nil (by decide), (RdK.old0 hw.2).out _ st, St.apart_M st (by exact hiB) hw.2 Apart.nil (by decide), (hOM.rdk hiA).out _ st, St.apart st (Pick.takeC pkA (Pick.takeA pkA pkA)) hOM (by exact hiB)⟩) (fun v32 S32 ⟨a32, c32, l32, S032, σ32, hv32, hS32, hO32, hi32, hI32, hX32⟩ => ?_)
   subst hv32; subst hS32
   have hl32 := hI32.len
   have hs32 := hO32.sl
   have hl32 : l32.length = w.length + 1 := hl32
   refine oA (oZ hK8 (cR fun _ hK9 => ?_)); refine oM (oM ?_); refine oS sC ?_; refine oS (s_idx rfl rfl hs32 (by omega)) ?_; refine oS (s_ld rfl (((hO32.rds.mono hi32).rdk hiA).ld w.length 0 (bo0_get (by omega)) rfl (by decide) (by omega))) ?_; refine oA (oZ hK9 (c_ret ?_)); refine ?_; exact xR rfl rfl (⟨_, rfl, bo0_true.trans (hI32.get w.length (Nat.le_refl _))⟩)
theorem size_wt : ∀ f : F, f.size ≤ f.weight
  | .nil => Nat.le_refl _
  | .nd x ks r => by
    have h1 := size_wt ks
    have h2 := size_wt r
    have h3 := times_pos x
    have h4 : ks.weight ≤ times x * ks.weight := Nat.le_mul_of_pos_left _ h3
    simp only [F.size, F.weight]
    omega
theorem shp_len {re : List Nd} {x : Nd} {ks : F} (h : Mc.Shp re x ks) (hw : (F.nd x ks .nil).weight ≤ 20) : re.length ≤ 1000 := by
  have h1 := size_wt (F.nd x ks .nil)
  have h2 := F.flat_size (F.nd x ks .nil)
  have h3 : re = (F.nd x ks .nil).flat := by rw [h.flat]; simp [F.flat]
  rw [← h3] at h2
  omega
end Go.Proofs.YtmompllplidphaaDoor
namespace Go.HL.Sts
open Go Go.HL Go.HL.Kl Go.HL.Kl.Mc
def codeF (n : Nat) : List UInt8 → Nat
  | [] => n
  | b :: t => codeF (n * 256 + b.toNat + 1) t
def code (t : List UInt8) : Nat := codeF 0 t
theorem codeF_append (n : Nat) : ∀ (s t : List UInt8), codeF n (s ++ t) = codeF (codeF n s) t := fun s => by
  induction s generalizing n with
  | nil => intro t; rfl
  | cons b s ih => intro t; exact ih _ t
theorem code_snoc (t : List UInt8) (b : UInt8) : code (t ++ [b]) = code t * 256 + b.toNat + 1 := by
  unfold code; rw [codeF_append]; rfl
theorem codeF_lt {n m : Nat} : ∀ {s t : List UInt8}, s.length = t.length → n < m → codeF n s < codeF m t := fun {s} => by
  induction s generalizing n m with
  | nil => intro t h1 h2; cases t with
    | nil => exact h2
    | cons b t => cases h1
  | cons a s ih =>
    intro t h1 h2
    cases t with
    | nil => cases h1
    | cons b t =>
      have h3 : a.toNat < 256 := a.toNat_lt
      show codeF (n * 256 + a.toNat + 1) s < codeF (m * 256 + b.toNat + 1) t
      exact ih (by simpa using h1) (by omega)
theorem code_len {s t : List UInt8} (h : s.length < t.length) : code s < code t := by
  have e : t = t.take (t.length - s.length) ++ t.drop (t.length - s.length) := (List.take_append_drop _ _).symm
  unfold code
  rw [e, codeF_append]
  refine codeF_lt (by simp; omega) ?_
  obtain ⟨b, u, hu⟩ : ∃ b u, t.take (t.length - s.length) = b :: u := by
    cases hh : t.take (t.length - s.length) with
    | nil => have := congrArg List.length hh; simp at this; omega
    | cons b u => exact ⟨b, u, rfl⟩
  rw [hu]
  have key : ∀ (u : List UInt8) (n : Nat), 0 < n → 0 < codeF n u := by
    intro u
    induction u with
    | nil => intro n h; exact h
    | cons c u ih => intro n h; exact ih _ (by omega)
  exact key u _ (by omega)
theorem code_inj {s t : List UInt8} (h : code s = code t) : s = t := by
  have hl : s.length = t.length := by
    rcases Nat.lt_trichotomy s.length t.length with h1 | h1 | h1
    · have := code_len h1; omega
    · exact h1
    · have := code_len h1; omega
  have key : ∀ (s t : List UInt8) (n : Nat), s.length = t.length → codeF n s = codeF n t → s = t := by
    intro s
    induction s with
    | nil => intro t n h1 h2; cases t with
      | nil => rfl
      | cons b t => cases h1
    | cons a s ih =>
      intro t n h1 h2
      cases t with
      | nil => cases h1
      | cons b t =>
        have h1' : s.length = t.length := by simpa using h1
        rcases Nat.lt_trichotomy a.toNat b.toNat with h3 | h3 | h3
        · have : codeF (n * 256 + a.toNat + 1) s < codeF (n * 256 + b.toNat + 1) t := codeF_lt h1' (by omega)
          have h5 : codeF (n * 256 + a.toNat + 1) s = codeF (n * 256 + b.toNat + 1) t := h2
          omega
        · obtain rfl := UInt8.toNat_inj.1 h3
          rw [ih t _ h1' h2]
        · have : codeF (n * 256 + b.toNat + 1) t < codeF (n * 256 + a.toNat + 1) s := codeF_lt h1'.symm (by omega)
          have h5 : codeF (n * 256 + a.toNat + 1) s = codeF (n * 256 + b.toNat + 1) t := h2
          omega
  exact key s t 0 hl h
theorem code_part {s t : List UInt8} {i : Nat} {a b : UInt8} (hl : s.length = t.length) (hp : s.take i = t.take i) (ha : s[i]? = some a) (hb : t[i]? = some b) (h : a.toNat < b.toNat) : code s < code t := by
  have hi := (List.getElem?_eq_some_iff.1 ha).1
  have hj := (List.getElem?_eq_some_iff.1 hb).1
  have es : s = s.take i ++ a :: s.drop (i + 1) := by
    rw [← (List.getElem?_eq_some_iff.1 ha).2, ← List.drop_eq_getElem_cons hi, List.take_append_drop]
  have et : t = t.take i ++ b :: t.drop (i + 1) := by
    rw [← (List.getElem?_eq_some_iff.1 hb).2, ← List.drop_eq_getElem_cons hj, List.take_append_drop]
  rw [es, et, hp]
  unfold code
  rw [codeF_append, codeF_append]
  show codeF (codeF 0 (t.take i) * 256 + a.toNat + 1) (s.drop (i + 1)) < codeF (codeF 0 (t.take i) * 256 + b.toNat + 1) (t.drop (i + 1))
  exact codeF_lt (by simp; omega) (by omega)
attribute [irreducible] code
theorem gP_goes {d : Df} (h : Shp d) (q : Int) {b : Nat} (hb : b < 256) : gP d q b = goesR d q b := by
  unfold gP
  by_cases hq : q < 0
  · unfold goesR; rw [if_pos hq, if_pos hq]
  · rw [if_neg hq, h.goes (by omega) hb]
theorem tkR_snoc (d : Df) (t : List UInt8) (b : UInt8) (q : Int) : tkR d (t ++ [b]) q = goesR d (tkR d t q) b.toNat := by
  unfold tkR; rw [List.foldl_append]; rfl
def rnT (d : Df) (t : List UInt8) : Int := tkR d t 0
structure UnJ (a b : Df) (i c : Nat) (l : List Bo) (ts : List (List UInt8)) : Prop where
  u : UnI a b l
  ln : ts.length = l.length
  il : i ≤ l.length
  fr : ∀ (k : Nat) (x : Bo) (t : List UInt8), l[k]? = some x → ts[k]? = some t → (x.frm < 0 ∧ t = []) ∨ ∃ (j : Nat) (tj : List UInt8), x.frm = j ∧ ts[j]? = some tj ∧ t = tj ++ [UInt8.ofNat x.by_]
  rn : ∀ (k : Nat) (x : Bo) (t : List UInt8), l[k]? = some x → ts[k]? = some t → x.p = rnT a t ∧ x.q = rnT b t
  z : ts[0]? = some []
  inc : ∀ (k k' : Nat) (t t' : List UInt8), k < k' → ts[k]? = some t → ts[k']? = some t' → code t < code t'
  top : ∀ (k : Nat) (t ti : List UInt8), ts[k]? = some t → ts[i]? = some ti → code t ≤ code ti * 256 + c
  don : ∀ (j : Nat) (x : Bo) (tj : List UInt8), j < i → l[j]? = some x → ts[j]? = some tj → endsR a x.p = endsR b x.q ∧ ∀ e : UInt8, ∃ (m : Nat) (y : Bo) (tm : List UInt8), l[m]? = some y ∧ ts[m]? = some tm ∧ y.p = goesR a x.p e.toNat ∧ y.q = goesR b x.q e.toNat ∧ code tm ≤ code tj * 256 + e.toNat + 1
  cur : ∀ (x : Bo) (ti : List UInt8), l[i]? = some x → ts[i]? = some ti → ∀ e : UInt8, e.toNat < c → ∃ (m : Nat) (y : Bo) (tm : List UInt8), l[m]? = some y ∧ ts[m]? = some tm ∧ y.p = goesR a x.p e.toNat ∧ y.q = goesR b x.q e.toNat ∧ code tm ≤ code ti * 256 + e.toNat + 1
theorem UnJ.zero {a b : Df} (ha : Shp a) (hb : Shp b) : UnJ a b 0 0 [⟨0, 0, -1, 0⟩] [[]] := by
  have one : ∀ {α : Type} {k : Nat} {x y : α}, [x][k]? = some y → k = 0 ∧ y = x := fun {α k x y} h => by
    cases k with
    | zero => simp at h; exact ⟨rfl, h.symm⟩
    | succ k => simp at h
  refine ⟨UnI.one ha.sz.1 hb.sz.1, rfl, Nat.zero_le _, ?_, ?_, rfl, ?_, ?_, ?_, ?_⟩
  · intro k x t hx ht
    obtain ⟨_, rfl⟩ := one hx
    obtain ⟨_, rfl⟩ := one ht
    exact .inl ⟨by decide, rfl⟩
  · intro k x t hx ht
    obtain ⟨_, rfl⟩ := one hx
    obtain ⟨_, rfl⟩ := one ht
    exact ⟨rfl, rfl⟩
  · intro k k' t t' hk ht ht'
    have := (one ht').1; omega
  · intro k t ti ht hti
    obtain ⟨_, rfl⟩ := one ht
    exact Nat.le_add_right_of_le (by obtain ⟨_, rfl⟩ := one hti; exact Nat.le_mul_of_pos_right _ (by decide))
  · intro j x tj hj; omega
  · intro x ti _ _ e he; omega
theorem snoc_get {α : Type} {l : List α} {x y : α} {k : Nat} (h : (l ++ [x])[k]? = some y) : (k < l.length ∧ l[k]? = some y) ∨ (k = l.length ∧ y = x) := by
  rcases Nat.lt_or_ge k l.length with h1 | h1
  · rw [List.getElem?_append_left h1] at h; exact .inl ⟨h1, h⟩
  · rw [List.getElem?_append_right h1] at h
    have h2 : k - l.length < 1 := by simpa using (List.getElem?_eq_some_iff.1 h).1
    rw [show k - l.length = 0 by omega] at h
    exact .inr ⟨by omega, (Option.some.inj h).symm⟩
theorem get_app {α : Type} {l t : List α} {k : Nat} {x : α} (h : l[k]? = some x) : (l ++ t)[k]? = some x := by
  rw [List.getElem?_append_left (List.getElem?_eq_some_iff.1 h).1]; exact h
theorem UnJ.old {a b : Df} (ha : Shp a) (hb : Shp b) {i c : Nat} {l : List Bo} {ts : List (List UInt8)} (h : UnJ a b i c l ts) (hc : c < 256) {x : Bo} (hx : l[i]? = some x) (ho : (gP a x.p c, gP b x.q c) ∈ l.map Bo.pq) : UnJ a b i (c + 1) l ts := by
  have hi := (List.getElem?_eq_some_iff.1 hx).1
  refine ⟨h.u, h.ln, h.il, h.fr, h.rn, h.z, h.inc, fun k t ti h1 h2 => by have := h.top k t ti h1 h2; omega, h.don, ?_⟩
  intro x' ti hx' hti e he
  rcases Nat.lt_or_ge e.toNat c with h1 | h1
  · exact h.cur x' ti hx' hti e h1
  · have h2 : e.toNat = c := by omega
    rw [hx] at hx'
    obtain rfl := Option.some.inj hx'
    obtain ⟨y, hy, he2⟩ := List.mem_map.1 ho
    obtain ⟨m, hm⟩ := List.mem_iff_getElem?.1 hy
    have hml := (List.getElem?_eq_some_iff.1 hm).1
    obtain ⟨tm, htm⟩ : ∃ t, ts[m]? = some t := ⟨_, List.getElem?_eq_getElem (by rw [h.ln]; omega)⟩
    have e1 : y.p = gP a x.p c := congrArg Prod.fst he2
    have e2 : y.q = gP b x.q c := congrArg Prod.snd he2
    refine ⟨m, y, tm, hm, htm, by rw [e1, gP_goes ha _ hc, h2], by rw [e2, gP_goes hb _ hc, h2], ?_⟩
    have h9 := h.top m tm ti htm hti
    rw [h2]
    exact Nat.le_succ_of_le h9
theorem UnJ.new {a b : Df} (ha : Shp a) (hb : Shp b) {i c : Nat} {l : List Bo} {ts : List (List UInt8)} (h : UnJ a b i c l ts) (hc : c < 256) {x : Bo} (hx : l[i]? = some x) {ti : List UInt8} (hti : ts[i]? = some ti) (ho : (gP a x.p c, gP b x.q c) ∉ l.map Bo.pq) : UnJ a b i (c + 1) (l ++ [⟨gP a x.p c, gP b x.q c, i, c⟩]) (ts ++ [ti ++ [UInt8.ofNat c]]) := by
  have hi := (List.getElem?_eq_some_iff.1 hx).1
  have hxm := List.mem_of_getElem? hx
  have hcb : (UInt8.ofNat c).toNat = c := by simp [UInt8.toNat_ofNat']; omega
  have hcode : code (ti ++ [UInt8.ofNat c]) = code ti * 256 + c + 1 := by rw [code_snoc, hcb]
  have hr := h.rn i x ti hx hti
  refine ⟨h.u.push ho (gP_bnd ha (h.u.bp x hxm).2 c) (gP_bnd hb (h.u.bq x hxm).2 c) hi hc, by simp [h.ln], by simp; have := h.il; omega, ?_, ?_, get_app h.z, ?_, ?_, ?_, ?_⟩
  · intro k y t hy ht
    rcases snoc_get hy with ⟨h1, h2⟩ | ⟨h1, h2⟩
    · rcases snoc_get ht with ⟨_, h4⟩ | ⟨h3, _⟩
      · rcases h.fr k y t h2 h4 with h5 | ⟨j, tj, h5, h6, h7⟩
        · exact .inl h5
        · exact .inr ⟨j, tj, h5, get_app h6, h7⟩
      · rw [h.ln] at h3; omega
    · rcases snoc_get ht with ⟨h3, _⟩ | ⟨_, h4⟩
      · rw [h.ln] at h3; omega
      · subst h2; subst h4
        exact .inr ⟨i, ti, rfl, get_app hti, rfl⟩
  · intro k y t hy ht
    rcases snoc_get hy with ⟨h1, h2⟩ | ⟨h1, h2⟩
    · rcases snoc_get ht with ⟨_, h4⟩ | ⟨h3, _⟩
      · exact h.rn k y t h2 h4
      · rw [h.ln] at h3; omega
    · rcases snoc_get ht with ⟨h3, _⟩ | ⟨_, h4⟩
      · rw [h.ln] at h3; omega
      · subst h2; subst h4
        unfold rnT
        rw [tkR_snoc, tkR_snoc, hcb]
        have e1 : tkR a ti 0 = x.p := hr.1.symm
        have e2 : tkR b ti 0 = x.q := hr.2.symm
        rw [e1, e2]
        exact ⟨gP_goes ha _ hc, gP_goes hb _ hc⟩
  · intro k k' t t' hk ht ht'
    rcases snoc_get ht' with ⟨h3, h4⟩ | ⟨h3, h4⟩
    · rcases snoc_get ht with ⟨_, h6⟩ | ⟨h5, _⟩
      · exact h.inc k k' t t' hk h6 h4
      · omega
    · rcases snoc_get ht with ⟨_, h6⟩ | ⟨h5, _⟩
      · have := h.top k t ti h6 hti
        rw [h4, hcode]; omega
      · omega
  · intro k t ti' ht hti'
    rw [get_app hti] at hti'
    obtain rfl := Option.some.inj hti'
    rcases snoc_get ht with ⟨_, h6⟩ | ⟨_, h6⟩
    · have := h.top k t ti h6 hti; omega
    · rw [h6, hcode]; omega
  · intro j y tj hj hy htj
    rcases snoc_get hy with ⟨h1, h2⟩ | ⟨h1, _⟩
    · rcases snoc_get htj with ⟨_, h4⟩ | ⟨h3, _⟩
      · obtain ⟨h5, h6⟩ := h.don j y tj hj h2 h4
        refine ⟨h5, fun e => ?_⟩
        obtain ⟨m, z, tm, g1, g2, g3, g4, g5⟩ := h6 e
        exact ⟨m, z, tm, get_app g1, get_app g2, g3, g4, g5⟩
      · rw [h.ln] at h3; omega
    · omega
  · intro x' ti' hx' hti' e he
    rw [get_app hx] at hx'
    obtain rfl := Option.some.inj hx'
    rw [get_app hti] at hti'
    obtain rfl := Option.some.inj hti'
    rcases Nat.lt_or_ge e.toNat c with h1 | h1
    · obtain ⟨m, z, tm, g1, g2, g3, g4, g5⟩ := h.cur x ti hx hti e h1
      exact ⟨m, z, tm, get_app g1, get_app g2, g3, g4, g5⟩
    · have h2 : e.toNat = c := by omega
      refine ⟨l.length, ⟨gP a x.p c, gP b x.q c, i, c⟩, ti ++ [UInt8.ofNat c], by simp, by rw [← h.ln]; simp, ?_, ?_, by rw [hcode, h2]; exact Nat.le_refl _⟩
      · show gP a x.p c = _; rw [gP_goes ha _ hc, h2]
      · show gP b x.q c = _; rw [gP_goes hb _ hc, h2]
theorem UnJ.row {a b : Df} (ha : Shp a) (hb : Shp b) {i : Nat} {l : List Bo} {ts : List (List UInt8)} (h : UnJ a b i 0 l ts) {x : Bo} (hx : l[i]? = some x) : ∀ c, c ≤ 256 → ∃ ts', UnJ a b i c (unRow a b i x c l) ts' ∧ (unRow a b i x c l)[i]? = some x
  | 0, _ => ⟨ts, h, hx⟩
  | c + 1, hc => by
    obtain ⟨ts', h1, h2⟩ := h.row ha hb hx c (by omega)
    by_cases ho : (gP a x.p c, gP b x.q c) ∈ (unRow a b i x c l).map Bo.pq
    · rw [unRow_old ho]
      exact ⟨ts', h1.old ha hb (by omega) h2 ho, h2⟩
    · rw [unRow_new ho]
      have hi := (List.getElem?_eq_some_iff.1 h2).1
      obtain ⟨ti, hti⟩ : ∃ t, ts'[i]? = some t := ⟨_, List.getElem?_eq_getElem (by rw [h1.ln]; omega)⟩
      exact ⟨_, h1.new ha hb (by omega) h2 hti ho, get_app h2⟩
theorem UnJ.next {a b : Df} {i : Nat} {l : List Bo} {ts : List (List UInt8)} (h : UnJ a b i 256 l ts) {x : Bo} (hx : l[i]? = some x) (he : endsR a x.p = endsR b x.q) : UnJ a b (i + 1) 0 l ts := by
  have hi := (List.getElem?_eq_some_iff.1 hx).1
  obtain ⟨ti, hti⟩ : ∃ t, ts[i]? = some t := ⟨_, List.getElem?_eq_getElem (by rw [h.ln]; omega)⟩
  refine ⟨h.u, h.ln, by omega, h.fr, h.rn, h.z, h.inc, ?_, ?_, fun _ _ _ _ e he => by omega⟩
  · intro k t ti' ht hti'
    have h1 := h.inc i (i + 1) ti ti' (by omega) hti hti'
    have h2 := h.top k t ti ht hti
    have h3 : (code ti + 1) * 256 ≤ code ti' * 256 := Nat.mul_le_mul_right 256 h1
    rw [Nat.succ_mul] at h3
    rw [Nat.add_zero]
    exact Nat.le_trans h2 h3
  · intro j y tj hj hy htj
    rcases Nat.lt_or_ge j i with h1 | h1
    · exact h.don j y tj h1 hy htj
    · obtain rfl : j = i := by omega
      rw [hx] at hy
      obtain rfl := Option.some.inj hy
      exact ⟨he, fun e => h.cur x tj hx htj e e.toNat_lt⟩
theorem UnJ.ahead {a b : Df} {i : Nat} {l : List Bo} {ts : List (List UInt8)} (h : UnJ a b i 0 l ts) (N : Nat) (hN : ∀ (k : Nat) (t : List UInt8), ts[k]? = some t → code t < N → k < i) : ∀ (w : List UInt8), code w < N → ∃ (m : Nat) (y : Bo) (tm : List UInt8), m < i ∧ l[m]? = some y ∧ ts[m]? = some tm ∧ y.p = rnT a w ∧ y.q = rnT b w ∧ code tm ≤ code w := by
  have key : ∀ (n : Nat) (w : List UInt8), w.length = n → code w < N → ∃ (m : Nat) (y : Bo) (tm : List UInt8), m < i ∧ l[m]? = some y ∧ ts[m]? = some tm ∧ y.p = rnT a w ∧ y.q = rnT b w ∧ code tm ≤ code w := by
    intro n
    induction n with
    | zero =>
      intro w hw hc
      obtain rfl := List.eq_nil_of_length_eq_zero hw
      have h0 := hN 0 [] h.z hc
      have hl : 0 < l.length := by have := h.il; omega
      obtain ⟨y, hy⟩ : ∃ y, l[0]? = some y := ⟨_, List.getElem?_eq_getElem hl⟩
      exact ⟨0, y, [], h0, hy, h.z, (h.rn 0 y [] hy h.z).1, (h.rn 0 y [] hy h.z).2, Nat.le_refl _⟩
    | succ n ih =>
      intro w hw hc
      have hne : w ≠ [] := by intro e; subst e; cases hw
      obtain ⟨v, e, rfl⟩ : ∃ v e, w = v ++ [e] := ⟨w.dropLast, w.getLast hne, (List.dropLast_concat_getLast hne).symm⟩
      rw [code_snoc] at hc
      obtain ⟨m, y, tm, h1, h2, h3, h4, h5, h6⟩ := ih v (by simpa using hw) (by omega)
      obtain ⟨_, hd⟩ := h.don m y tm h1 h2 h3
      obtain ⟨m', z, tz, g1, g2, g3, g4, g5⟩ := hd e
      have hle : code tz ≤ code v * 256 + e.toNat + 1 := Nat.le_trans g5 (Nat.succ_le_succ (Nat.add_le_add_right (Nat.mul_le_mul_right 256 h6) _))
      refine ⟨m', z, tz, hN m' tz g2 (by omega), g1, g2, ?_, ?_, by rw [code_snoc]; exact hle⟩
      · rw [g3, h4]; unfold rnT; rw [tkR_snoc]
      · rw [g4, h5]; unfold rnT; rw [tkR_snoc]
  intro w hc
  exact key _ w rfl hc
theorem UnJ.back_eq {a b : Df} {i c : Nat} {l : List Bo} {ts : List (List UInt8)} (h : UnJ a b i c l ts) : ∀ (n k : Nat) (x : Bo) (t : List UInt8), k < n → l[k]? = some x → ts[k]? = some t → (back l x).reverse = t
  | 0, k, _, _, hk, _, _ => absurd hk (Nat.not_lt_zero _)
  | n + 1, k, x, t, hk, hx, ht => by
    rcases h.fr k x t hx ht with ⟨h1, rfl⟩ | ⟨j, tj, h1, h2, rfl⟩
    · rw [back_end h1]; rfl
    · have h3 := h.u.fr k x hx
      have hjl := (List.getElem?_eq_some_iff.1 h2).1
      rw [h.ln] at hjl
      obtain ⟨y, hy⟩ : ∃ y, l[x.frm.toNat]? = some y := ⟨_, List.getElem?_eq_getElem (by rw [h1]; simpa using hjl)⟩
      rw [back_step h.u hx (by omega) hy, List.reverse_cons]
      rw [h1] at hy
      rw [h.back_eq n j y tj (by omega) (by simpa using hy) h2]
theorem UnJ.run {a b : Df} (ha : Shp a) (hb : Shp b) : ∀ (f i : Nat) (l : List Bo) (ts : List (List UInt8)), UnJ a b i 0 l ts → 66050 ≤ f + i → 0 < f →
    (∀ t, unRun a b f i l = some t → endsR a (rnT a t) ≠ endsR b (rnT b t) ∧ ∀ w, code w < code t → endsR a (rnT a w) = endsR b (rnT b w)) ∧ (unRun a b f i l = none → ∀ w, endsR a (rnT a w) = endsR b (rnT b w))
  | 0, _, _, _, _, _, hf => absurd hf (Nat.lt_irrefl _)
  | f + 1, i, l, ts, h, hfi, _ => by
    have hlen := h.u.len ha.sz.2.1 hb.sz.2.1
    have hil := h.il
    rcases Nat.lt_or_ge i l.length with hi | hi
    · obtain ⟨x, hx⟩ : ∃ x, l[i]? = some x := ⟨_, List.getElem?_eq_getElem hi⟩
      obtain ⟨ti, hti⟩ : ∃ t, ts[i]? = some t := ⟨_, List.getElem?_eq_getElem (by rw [h.ln]; omega)⟩
      by_cases he : endsR a x.p = endsR b x.q
      · rw [unRun_step (by omega) hx he, Nat.add_sub_cancel]
        obtain ⟨ts', h1, h2⟩ := h.row ha hb hx 256 (Nat.le_refl _)
        exact UnJ.run ha hb f (i + 1) _ ts' (h1.next h2 he) (by omega) (by omega)
      · rw [unRun_hit (by omega) hx he]
        refine ⟨fun t ht => ?_, fun hn => by cases hn⟩
        obtain rfl := Option.some.inj ht
        rw [h.back_eq (i + 1) i x ti (by omega) hx hti]
        have hr := h.rn i x ti hx hti
        refine ⟨by rw [← hr.1, ← hr.2]; exact he, fun w hw => ?_⟩
        obtain ⟨m, y, tm, h1, h2, h3, h4, h5, h6⟩ := h.ahead (code ti) (fun k t hk hkt => by
          rcases Nat.lt_trichotomy k i with h1 | h1 | h1
          · exact h1
          · subst h1; rw [hti] at hk; obtain rfl := Option.some.inj hk; omega
          · have := h.inc i k ti t h1 hti hk; omega) w hw
        have := (h.don m y tm h1 h2 h3).1
        rw [h4, h5] at this
        exact this
    · rw [unRun_end hi]
      refine ⟨fun t ht => (by cases ht), fun _ w => ?_⟩
      obtain ⟨m, y, tm, h1, h2, h3, h4, h5, h6⟩ := h.ahead (code w + 1) (fun k t hk _ => by
        have := (List.getElem?_eq_some_iff.1 hk).1
        rw [h.ln] at this; omega) w (Nat.lt_succ_self _)
      have := (h.don m y tm h1 h2 h3).1
      rw [h4, h5] at this
      exact this
theorem takesP_rn {d : Df} (h : Shp d) (w : List UInt8) : takesP d w = endsR d (rnT d w) := by
  unfold takesP rnT
  rw [shP_iff.2 h, Bool.true_and]
  exact h.tk w 0 (Int.le_refl _)
theorem unM_some {a b : Df} (ha : Shp a) (hb : Shp b) {t : List UInt8} (h : unM a b = some t) : takesP a t ≠ takesP b t ∧ ∀ w, code w < code t → takesP a w = takesP b w := by
  unfold unM at h
  rw [shP_iff.2 ha, shP_iff.2 hb, Bool.true_and, if_pos rfl] at h
  obtain ⟨h1, h2⟩ := (UnJ.run ha hb 66051 0 _ _ (UnJ.zero ha hb) (by decide) (by decide)).1 t h
  exact ⟨by rw [takesP_rn ha, takesP_rn hb]; exact h1, fun w hw => by rw [takesP_rn ha, takesP_rn hb]; exact h2 w hw⟩
theorem unM_none {a b : Df} (ha : Shp a) (hb : Shp b) (h : unM a b = none) (w : List UInt8) : takesP a w = takesP b w := by
  unfold unM at h
  rw [shP_iff.2 ha, shP_iff.2 hb, Bool.true_and, if_pos rfl] at h
  have h1 := (UnJ.run ha hb 66051 0 _ _ (UnJ.zero ha hb) (by decide) (by decide)).2 h w
  rw [takesP_rn ha, takesP_rn hb]; exact h1
theorem unM_comm {a b : Df} (ha : Shp a) (hb : Shp b) : unM a b = unM b a := by
  cases h1 : unM a b with
  | none =>
    cases h2 : unM b a with
    | none => rfl
    | some t => exact absurd (unM_none ha hb h1 t).symm (unM_some hb ha h2).1
  | some t =>
    obtain ⟨g1, g2⟩ := unM_some ha hb h1
    cases h2 : unM b a with
    | none => exact absurd (unM_none hb ha h2 t).symm g1
    | some u =>
      obtain ⟨k1, k2⟩ := unM_some hb ha h2
      rcases Nat.lt_trichotomy (code t) (code u) with h3 | h3 | h3
      · exact absurd (k2 t h3).symm g1
      · rw [code_inj h3]
      · exact absurd (g2 u h3).symm k1
end Go.HL.Sts
