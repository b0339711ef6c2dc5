/- A slice out of the middle of one. Conditions: none. -/
import Derived.Test.YtmompllplidphaaDoorHlB
import Derived.Test.YtmompllplidphaaDoorSW14Z
import Derived.Test.YtmompllplidphaaDoorSN5Z
import Derived.Test.YtmompllplidphaaDoorSW4Z
import Derived.Test.YtmompllplidphaaDoorMT7Z
import Derived.Test.YtmompllplidphaaDoorKQ8Z
import Derived.Test.YtmompllplidphaaDoorSW2Z
import Derived.Test.YtmompllplidphaaDoorSM1Z
import Derived.Test.YtmompllplidphaaDoorSM4Z
namespace Go.HL
open Go
def midA (a : Option Addr) (c lo k : Nat) : Option Addr := if c = lo then a else a.map (·.add (lo * k))
section
variable {P : Program} {κ : Cx} {L : HL.Loc} {H : Hp} {ty t : TypeId} {x y z : Operand}
/-- 's[l:h]' -/
theorem s_slice_mid {e s by' n c : Nat} {a : Option Addr} {kl kh : IntKind} {l h : Int} [TU P t (.slice e)] [TI P e s by'] (hx : ev L x = some (.slice a n c)) (hy : ev L y = some (.int kl l)) (hz : ev L z = some (.int kh h)) (hb : 0 ≤ l ∧ l ≤ h ∧ h ≤ c) :
    Step P κ (.slice t x (some y) (some z) none) ty L H (.slice (midA a c l.toNat s) (h.toNat - l.toNat) (c - l.toNat)) :=
  ⟨fun ρ w d pos af g hρ _ => by
    have b1 : 0 ≤ h ∧ h ≤ c := by omega
    have b2 : 0 ≤ l ∧ l ≤ (h.toNat : Int) := by omega
    have b3 : 0 ≤ l ∧ l ≤ max h 0 := by omega
    have e2 : (Instr.slice t (.slice a n c) (some (.int kl l)) (some (.int kh h)) none).run P w = .ok (.slice (midA a c l.toNat s) (h.toNat - l.toNat) (c - l.toNat)) w := by
      simp [Instr.slice, run_u, Instr.sliceBounds, Instr.sliceBound, asIntOf, b1, b2, b3, run_size, midA]
    simp [execOp, hρ _ _ hx, hρ _ _ hy, hρ _ _ hz, Instr.sliceAt, run_u, e2]⟩
end
theorem flat_mid {α : Type} (E : α → List Value) {k : Nat} [h : Enc E k] (xs : List α) (lo m : Nat) {j : Nat} {u : Value} (hu : (flat E ((xs.drop lo).take m))[j]? = some u) : (flat E xs)[lo * k + j]? = some u := by
  have e : xs = xs.take lo ++ ((xs.drop lo).take m ++ (xs.drop lo).drop m) := by rw [List.take_append_drop, List.take_append_drop]
  have hj : j < (flat E ((xs.drop lo).take m)).length := by
    rcases Nat.lt_or_ge j (flat E ((xs.drop lo).take m)).length with h' | h'
    · exact h'
    · rw [List.getElem?_eq_none h'] at hu; cases hu
  rcases Nat.lt_or_ge lo xs.length with hl | hl
  · rw [e, flat_append, flat_append]
    have hlen : (flat E (xs.take lo)).length = lo * k := by rw [flat_len, List.length_take, Nat.min_eq_left (by omega)]
    rw [List.getElem?_append_right (by omega), hlen, Nat.add_sub_cancel_left, List.getElem?_append_left hj]
    exact hu
  · rw [List.drop_of_length_le hl] at hj; simp [flat] at hj
theorem Rd.mid {α : Type} {E : α → List Value} {k : Nat} [he : Enc E k] {w : World} {a : Option Addr} {n c : Nat} {xs : List α} (h : Rd E w (.slice a n c) xs) (lo hi : Nat) (h1 : lo ≤ hi) (h2 : hi ≤ xs.length) :
    Rd E w (.slice (midA a c lo k) ((xs.drop lo).take (hi - lo)).length (c - lo)) ((xs.drop lo).take (hi - lo)) := by
  have hs := h.sl
  obtain ⟨⟨a', c', hv, hn, h0, hsp⟩, hle⟩ := hs
  simp only [Value.slice.injEq] at hv
  obtain ⟨rfl, rfl, rfl⟩ := hv
  have hlen : ((xs.drop lo).take (hi - lo)).length = hi - lo := by simp; omega
  have hA : ∀ A, midA a c lo k = some A → hi - lo ≠ 0 → A.spot = none := by
    intro A hA hz
    unfold midA at hA
    rw [if_neg (by omega)] at hA
    cases a with
    | none => cases hA
    | some B =>
      have := hsp B rfl (by omega)
      simp only [Option.map_some, Option.some.injEq] at hA
      subst hA
      unfold Addr.add
      split
      · exact this
      · rfl
  refine ⟨⟨⟨_, _, rfl, by rw [hlen]; omega, fun hm => ?_, fun A hA' hz => hA A hA' (by rw [hlen] at hz; exact hz)⟩, by rw [hlen]; omega⟩, fun j u hu => ?_⟩
  · unfold midA at hm
    split at hm
    · have := h0 hm; omega
    · cases a with
      | none => have := h0 rfl; omega
      | some B => cases hm
  · have hne : hi - lo ≠ 0 := by
      intro e
      rw [e, List.take_zero] at hu
      simp [flat] at hu
    have hg := h.get (lo * k + j) u (flat_mid E xs lo (hi - lo) hu)
    have e : ea (.slice (midA a c lo k) ((xs.drop lo).take (hi - lo)).length (c - lo)) j = ea (.slice a xs.length c) (lo * k + j) := by
      unfold midA
      rw [if_neg (by omega)]
      cases a with
      | none => have := h0 rfl; omega
      | some B =>
        simp only [ea, sblk, soff, Option.map_some, oblk, ooff]
        unfold Addr.add
        split
        · rename_i hz; rw [hz, Nat.zero_add]
        · simp only [Nat.add_assoc]
    rw [e]
    exact hg
end Go.HL
namespace Go.Proofs.YtmompllplidphaaDoor
open Go Go.HL Go.Proofs Go.HL.Kl Go.HL.Kl.Mc Go.HL.Sts
theorem set_a : (Ec 0#256).set 1 (.int .u64 8589934592) = Ec (bit 97) := by kernel_rfl
theorem set_b : (Ec 0#256).set 1 (.int .u64 17179869184) = Ec (bit 98) := by kernel_rfl
/-- how a machine that is owned is read -/
theorem DfO.rdD {d : Df} {na : Option Addr} {nc : Nat} {rows : List (Sl Int)} {ea : Option Addr} {ec : Nat} {aa : Option Addr} {ac : Nat} {Sn Sq Se Sa H : Hp} {w0 w : World} {M : List Nat} (hR : OwnS Esl 1 46 (.slice na rows.length nc) rows Sn) (hQ : OwnL Ei 1 3 rows d.next Sq) (hx : d.next = rows.map Sl.xs) (hE : OwnS Ebo 1 4 (.slice ea d.ends.length ec) d.ends Se) (hA : OwnS Ec 4 54 (.slice aa d.atoms.length ac) d.atoms Sa)
    (h1 : HIn Sn H) (h2 : HIn Sq H) (h3 : HIn Se H) (h4 : HIn Sa H) (st : St w0 w M H) : RdD d aa ac na nc rows ea ec w :=
  ⟨(hA.rdk (κ := ⟨0, [], w0, M⟩) h4).out w st, (hR.rdk (κ := ⟨0, [], w0, M⟩) h1).out w st, fun _ hs => (ownL_rdk (κ := ⟨0, [], w0, M⟩) hQ hx h2 hs).out w st, (hE.rdk (κ := ⟨0, [], w0, M⟩) h3).out w st⟩
set_option maxHeartbeats 4000000 in
theorem lives_fn  : HL.Fn Tryd.prog 9 [] (Tb []) [] (fun v _ => v = .bool true) := by
  refine fn_of Tryd.func9 rfl rfl rfl fun w0 hw => ?_
  refine c_seq fun _ hK1 => ?_
  refine c_region ?_
  refine o_step rfl (s_assign rfl) ?_
  refine o_nil ?_
  refine x_then (hK1 _ _ ?_)
  refine c_seq fun _ hK2 => ?_
  refine c_region ?_
  refine o_alloc (l := Ec 0#256) (by rw [Ec_zero]; rfl) rfl fun b1 => ?_
  refine o_alloc (l := Ec 0#256) (by rw [Ec_zero]; rfl) rfl fun b2 => ?_
  refine o_nil ?_
  refine x_then (hK2 _ _ ?_)
  refine c_seq fun _ hK3 => ?_
  refine c_region ?_
  refine o_step rfl (s_indexA rfl rfl (by omega)) ?_
  refine o_store rfl rfl rfl upA (by show _ < 4; omega) rfl ?_
  rw [show 0 + (1 : Int).toNat * 1 = 1 from rfl, set_a]
  refine o_nil ?_
  refine x_then (hK3 _ _ ?_)
  refine c_seq fun _ hK4 => ?_
  refine c_region ?_
  refine o_step rfl (s_indexA rfl rfl (by omega)) ?_
  refine o_store rfl rfl rfl upA (by show _ < 4; omega) rfl ?_
  rw [show 0 + (1 : Int).toNat * 1 = 1 from rfl, set_b]
  refine o_nil ?_
  refine x_then (hK4 _ _ ?_)
  refine c_seq fun _ hK5 => ?_
  refine c_region ?_
  refine o_step rfl (step_cast (v' := .agg (En ctN).toArray) (s_build (cs := [_, _, _, _, _, _, _, _, _]) (vs := [_, _]) rfl rfl (.cons rfl rfl rfl rfl rfl (.cons rfl rfl rfl rfl rfl (.nil)))) (by kernel_rfl)) ?_
  refine o_step rfl (step_cast (v' := .agg (En stN).toArray) (s_build (cs := [_, _, _, _, _, _, _, _, _]) (vs := [_, _, _]) rfl rfl (.cons rfl rfl rfl rfl rfl (.cons rfl rfl rfl rfl rfl (.cons rfl rfl rfl rfl rfl (.nil))))) (by kernel_rfl)) ?_
  refine o_step rfl (s_ldB rfl (RdPK.cels (.own meA)) lnA) ?_
  refine o_step rfl (step_cast (v' := .agg (En (ltN 97)).toArray) (s_build (cs := [_, _, _, _, _, _, _, _, _]) (vs := [_, _]) rfl rfl (.cons rfl rfl rfl rfl rfl (.cons rfl rfl rfl rfl rfl (.nil)))) (by kernel_rfl)) ?_
  refine o_step rfl (s_ldB rfl (RdPK.cels (.own meA)) lnA) ?_
  refine o_step rfl (step_cast (v' := .agg (En (ltN 98)).toArray) (s_build (cs := [_, _, _, _, _, _, _, _, _]) (vs := [_, _]) rfl rfl (.cons rfl rfl rfl rfl rfl (.cons rfl rfl rfl rfl rfl (.nil)))) (by kernel_rfl)) ?_
  refine o_bs (E := En) (xs := [ctN, stN, ltN 97, ltN 98]) (vs := [_, _, _, _]) rfl rfl rfl rfl rfl (by decide) (by decide) fun b18 S18 hS18 => ?_
  refine o_step rfl (s_assign rfl) ?_
  refine o_nil ?_
  refine x_then (hK5 _ _ ?_)
  refine c_seq fun _ hK6 => ?_
  refine c_region ?_
  refine o_step rfl (s_move rfl) ?_
  refine o_call (make_fn (some ⟨b18, 0, none⟩) 4 reA rngA) rfl rfl rfl (by exact .nil) (fun w st => ⟨(hS18.rdk hiA).out w st, tb_of hw st HSub.nil⟩) (fun v21 S21 hM1 => ?_)
  rcases hM1 with ⟨he, _⟩ | ⟨hd, hv, ho⟩
  ·
   exact absurd he err_A
  obtain rfl := ok_A hd
  obtain ⟨na1, nc1, rows1, ea1, ec1, aa1, ac1, Sn1, Sq1, Se1, Sa1, rfl, rfl, hR1, hQ1, hx1, hE1, hA1⟩ := ho
  subst hv
  refine o_step rfl (s_move rfl) ?_
  refine o_step rfl (s_extract rfl rfl) ?_
  refine o_step rfl (s_extract rfl rfl) ?_
  refine o_alloc rfl rfl fun b4 => ?_
  refine o_stW rfl rfl upA lnA lnA onA ?_
  refine o_step rfl (s_assign rfl) ?_
  refine o_nil ?_
  refine x_then (hK6 _ _ ?_)
  refine c_seq fun _ hK7 => ?_
  refine c_region ?_
  refine o_step rfl (s_move rfl) ?_
  refine o_step rfl (step_cast (v' := .slice (midA (some ⟨b18, 0, none⟩) 4 2 9) reB.length (4 - 2)) (s_slice_mid rfl rfl rfl (by omega)) rfl) ?_
  refine o_call (make_fn (midA (some ⟨b18, 0, none⟩) 4 2 9) (4 - 2) reB rngB) rfl rfl rfl (by exact .nil) (fun w st => ⟨((hS18.rdk hiA).out w st).mid 2 3 (by decide) (by decide), tb_of hw st HSub.nil⟩) (fun v27 S27 hM2 => ?_)
  rcases hM2 with ⟨he, _⟩ | ⟨hd, hv, ho⟩
  ·
   exact absurd he err_B
  obtain rfl := ok_B hd
  obtain ⟨na2, nc2, rows2, ea2, ec2, aa2, ac2, Sn2, Sq2, Se2, Sa2, rfl, rfl, hR2, hQ2, hx2, hE2, hA2⟩ := ho
  subst hv
  refine o_step rfl (s_move rfl) ?_
  refine o_step rfl (s_extract rfl rfl) ?_
  refine o_step rfl (s_extract rfl rfl) ?_
  refine o_alloc rfl rfl fun b6 => ?_
  refine o_stW rfl rfl upA lnA lnA onA ?_
  refine o_step rfl (s_assign rfl) ?_
  refine o_nil ?_
  refine x_then (hK7 _ _ ?_)
  refine c_seq fun _ hK8 => ?_
  refine c_region ?_
  refine o_step rfl (s_ldB rfl (RdPK.cels (.own meA)) lnA) ?_
  refine o_step rfl (s_ldB rfl (RdPK.cels (.own meA)) lnA) ?_
  refine o_call (unlike2_fn dA aa1 ac1 na1 nc1 rows1 ea1 ec1 hx1 dB aa2 ac2 na2 nc2 rows2 ea2 ec2 hx2) rfl rfl rfl (by exact .nil) (fun w st => ⟨DfO.rdD hR1 hQ1 hx1 hE1 hA1 hiA hiA hiA hiA st, DfO.rdD hR2 hQ2 hx2 hE2 hA2 hiA hiA hiA hiA st, tb_of hw st HSub.nil⟩) (fun v33 S33 hU => ?_)
  rcases hU with ⟨hn, _⟩ | ⟨t, ua, uc, ht, hv, hUO⟩
  ·
   rw [unAB] at hn; cases hn
  rw [unAB] at ht
  obtain rfl := Option.some.inj ht
  subst hv
  refine o_step rfl (s_move rfl) ?_
  refine o_step rfl (s_extract rfl rfl) ?_
  refine o_step rfl (s_extract rfl rfl) ?_
  refine o_step rfl (s_assign rfl) ?_
  refine o_step rfl (s_assign rfl) ?_
  refine o_nil ?_
  refine x_then (hK8 _ _ ?_)
  refine c_seq fun _ hK9 => ?_
  refine c_region ?_
  refine o_step rfl (s_move rfl) ?_
  refine o_step rfl (step_cast (v' := .bool true) (s_eql rfl rfl) rfl) ?_
  refine o_step rfl (s_move rfl) ?_
  refine o_yes rfl rfl ?_
  refine o_step rfl (s_move rfl) ?_
  refine o_yes rfl rfl ?_
  refine o_step rfl (step_cast (v' := .bool true) (s_eql rfl rfl) rfl) ?_
  refine o_step rfl (s_pick_t rfl rfl) ?_
  refine o_step rfl (s_move rfl) ?_
  refine o_yes rfl rfl ?_
  refine o_step rfl (s_field rfl rfl (by decide)) ?_
  refine o_yes rfl rfl ?_
  refine o_step rfl (s_ld rfl (.own meA rfl)) ?_
  refine o_yes rfl rfl ?_
  refine o_step rfl (s_len rfl) ?_
  refine o_yes rfl rfl ?_
  refine o_step rfl (step_cast (v' := .bool true) (s_eql rfl rfl) rfl) ?_
  refine o_step rfl (s_pick_t rfl rfl) ?_
  refine o_step rfl (s_move rfl) ?_
  refine o_yes rfl rfl ?_
  refine o_step rfl (s_ldB rfl (RdPK.cels (.own meA)) lnA) ?_
  refine o_yes rfl rfl ?_
  refine o_bs (E := Eb) (xs := [97, 97, 98]) (vs := [_, _, _]) rfl rfl rfl rfl rfl (by decide) (by decide) fun b50 S50 hS50 => ?_
  refine o_yes rfl rfl ?_
  refine o_conv_same rfl hS50 pkA rfl fun S51 hS51 => ?_
  refine o_yes rfl rfl ?_
  refine o_callP (takes2_fn dA aa1 ac1 na1 nc1 rows1 ea1 ec1 hx1 (some ⟨b50, 0, none⟩) 3 [97, 97, 98]) rfl rfl rfl (fun w st => ⟨DfO.rdD hR1 hQ1 hx1 hE1 hA1 hiA hiA hiA hiA st, tb_of hw st HSub.nil, (hS51.rdk hiA).out w st⟩) (fun v52 hv52 => ?_)
  rw [tkA1] at hv52
  subst hv52
  refine o_step rfl (s_pick_t rfl rfl) ?_
  refine o_step rfl (s_move rfl) ?_
  refine o_yes rfl rfl ?_
  refine o_step rfl (s_ldB rfl (RdPK.cels (.own meA)) lnA) ?_
  refine o_yes rfl rfl ?_
  refine o_bs (E := Eb) (xs := [97, 97]) (vs := [_, _]) rfl rfl rfl rfl rfl (by decide) (by decide) fun b56 S56 hS56 => ?_
  refine o_yes rfl rfl ?_
  refine o_conv_same rfl hS56 pkA rfl fun S57 hS57 => ?_
  refine o_yes rfl rfl ?_
  refine o_callP (takes2_fn dA aa1 ac1 na1 nc1 rows1 ea1 ec1 hx1 (some ⟨b56, 0, none⟩) 2 [97, 97]) rfl rfl rfl (fun w st => ⟨DfO.rdD hR1 hQ1 hx1 hE1 hA1 hiA hiA hiA hiA st, tb_of hw st HSub.nil, (hS57.rdk hiA).out w st⟩) (fun v58 hv58 => ?_)
  rw [tkA2] at hv58
  subst hv58
  refine o_yes rfl rfl ?_
  refine o_step rfl (s_not rfl) ?_
  refine o_step rfl (s_pick_t rfl rfl) ?_
  refine o_step rfl (s_move rfl) ?_
  refine o_yes rfl rfl ?_
  refine o_step rfl (s_move rfl) ?_
  refine o_step rfl (s_pick_t rfl rfl) ?_
  refine o_step rfl (s_move rfl) ?_
  refine o_yes rfl rfl ?_
  refine o_step rfl (s_move rfl) ?_
  refine o_yes rfl rfl ?_
  refine o_step rfl (s_b2str rfl (hUO.rdk hiA) rfl) ?_
  refine o_yes rfl rfl ?_
  refine o_step rfl (step_cast (v' := .bool true) (s_eql_str rfl rfl) rfl) ?_
  refine o_step rfl (s_pick_t rfl rfl) ?_
  refine o_step rfl (s_assign rfl) ?_
  refine o_nil ?_
  refine x_then (hK9 _ _ ?_)
  refine c_ret ?_
  refine ?_
  exact x_ret rfl (.tmp rfl (.nil)) (rfl)
end Go.Proofs.YtmompllplidphaaDoor
namespace Go.HL.Sts
open Go Go.HL Go.HL.Kl Go.HL.Kl.Mc
def spZ (j : Nat) : Int := ((1048576 * 9 + j + 1 : Nat) : Int)
def spC (j : Nat) : Kl.Cl := BitVec.ofNat 256 ((1048576 * 9 + j + 1) + 7 * 2 ^ 64)
def spBo (j : Nat) : Bool := decide (IntKind.i64.wrap ((BitVec.ofInt IntKind.i64.bits (((1048576 * 9 + j + 1 : Nat) : Int).fdiv (2 ^ (min ((20 + j % 8 : Nat) : Int).toNat IntKind.i64.bits))) &&& BitVec.ofInt IntKind.i64.bits 1).toNat : Int) = 1)
end Go.HL.Sts
namespace Go.HL.Kl.Mc
open Go Go.HL Go.HL.Kl
theorem no_refs {re : List Nd} (hs : shapedB re = true) (hr : refsB re = false) : ∀ x ∈ re, ¬ x.op = 8 := fun x hx h8 => by rw [refs_yes hs hx h8] at hr; cases hr
/-- rounds, when there were r -/
def RR (x : Nd) (D : Nat → Nat → Prop) (r p q : Nat) : Prop := ∃ k : Nat, x.mn ≤ ((r + k : Nat) : Int) ∧ (x.mx = -1 ∨ ((r + k : Nat) : Int) ≤ x.mx) ∧ pow D k p q
/-- the end of the next round can be m -/
def RQ (x : Nd) (D : Nat → Nat → Prop) (r p q m : Nat) : Prop := (x.mx = -1 ∨ (r : Int) < x.mx) ∧ (m ≠ p ∨ (r : Int) < x.mn ∨ r = 0) ∧ D p m ∧ RR x D (r + 1) m q
theorem rounds_RR {x : Nd} {D : Nat → Nat → Prop} {p q : Nat} : rounds x D p q ↔ RR x D 0 p q := by simp [rounds, RR]
/-- the questions that are answered yes -/
inductive Qry (w : List UInt8) (re : List Nd) : Ky → Prop
  | alt {x : Nd} {ks : F} {i i1 p q : Nat} (hp : Part re (.nd x ks .nil) i i1) (h5 : x.op = 5) (h : der w ks true p q) : Qry w re ⟨i, -1, p, q⟩
  | cat {x : Nd} {ks g : F} {i i1 m p q : Nat} (hp : Part re (.nd x ks .nil) i i1) (h4 : x.op = 4) (hg : Part re g m i1) (h : der w g false p q) : Qry w re ⟨i, m, p, q⟩
  | rep {x : Nd} {ks : F} {i i1 r p q : Nat} (hp : Part re (.nd x ks .nil) i i1) (h6 : x.op = 6) (h : RR x (der w ks false) r p q) : Qry w re ⟨i, r, p, q⟩
/-- what is known is true -/
def MapOk (w : List UInt8) (re : List Nd) (es : List Me) : Prop := ∀ k, getK es k = 0 ∨ (getK es k = 1 ∧ Qry w re k) ∨ (getK es k = -1 ∧ ¬ Qry w re k)
open Classical in
noncomputable def dQ (Q : Prop) : Bool := decide Q
attribute [irreducible] dQ
/-- an asker and what it holds -/
structure AskE where
  (bRe bTx bA bS bE bM nF rF : Nat)
  (ra : Option Addr) (rc : Nat) (re : List Nd) (ta : Option Addr) (tc : Nat) (tx : List UInt8) (l : List Nat)
namespace AskE
abbrev vre (K : AskE) : Value := .slice K.ra K.re.length K.rc
abbrev vtx (K : AskE) : Value := .slice K.ta K.tx.length K.tc
abbrev ven (K : AskE) : Value := .slice (some ⟨K.bE, 0, none⟩) K.re.length K.re.length
abbrev pt (b : Nat) : Value := .pointer (some ⟨b, 0, none⟩)
abbrev cells (K : AskE) : List Value := [K.vre, K.ven, K.vtx, .map (some K.bM), .func (.func K.nF) [].toArray [pt K.bRe, pt K.bTx, pt K.bA].toArray, .func (.func K.rF) [].toArray [pt K.bA].toArray]
end AskE
open AskE
structure Env (w : World) (K : AskE) (M : List Nat) : Prop where
  p1 : RdP w K.bRe 0 [K.vre]
  p2 : RdP w K.bTx 0 [K.vtx]
  p3 : RdP w K.bA 0 [pt K.bS]
  p4 : RdP w K.bS 0 K.cells
  d1 : Rd En w K.vre K.re
  d2 : Rd Eb w K.vtx K.tx
  d3 : Rd Eix w K.ven K.l
  n1 : K.bRe ∉ M
  n2 : K.bTx ∉ M
  n3 : K.bA ∉ M
  n4 : K.bS ∉ M
  a1 : Apart M K.vre
  a2 : Apart M K.vtx
  a3 : Apart M K.ven
/-- what the asker holds is sound -/
structure AskE.ok (K : AskE) : Prop where
  rng : ∀ x ∈ K.re, -128 ≤ x.op ∧ x.op < 128
  no8 : ∀ x ∈ K.re, ¬ x.op = 8
  len : K.re.length ≤ 1000000
  tx : K.tx.length ≤ 1000000
  ends : EndsOk K.re 0 K.l
def AnsK (K : AskE) (Q : Prop) (v : Value) (S' : Hp) : Prop := ∃ es c, v = .bool (dQ Q) ∧ S' = [(K.bM, mpO es c)] ∧ MapOk K.tx K.re es
def NodeK (P : Program) (K : AskE) (x : Nd) (ks : F) : Prop := ∀ (i i1 p q : Nat) (es : List Me) (c : Nat), Part K.re (.nd x ks .nil) i i1 → p ≤ q → q ≤ K.tx.length → MapOk K.tx K.re es →
  Fn P K.nF [.int .i64 i, .int .i64 p, .int .i64 q, pt K.bRe, pt K.bTx, pt K.bA] (fun W => Env W K [K.bM]) [(K.bM, mpO es c)] (AnsK K (der1 K.tx x ks p q))
def RestK (P : Program) (K : AskE) (k : Ky) : Prop := ∀ (es : List Me) (c : Nat), MapOk K.tx K.re es →
  Fn P K.rF [.agg (Ek k).toArray, pt K.bA] (fun W => Env W K [K.bM]) [(K.bM, mpO es c)] (AnsK K (Qry K.tx K.re k))
def FindK (P : Program) (K : AskE) (fn : Nat) (k : Ky) : Prop := ∀ (es : List Me) (c : Nat), MapOk K.tx K.re es →
  Fn P fn [pt K.bS, .agg (Ek k).toArray] (fun W => Env W K [K.bM]) [(K.bM, mpO es c)] (AnsK K (Qry K.tx K.re k))
/-- the greatest -/
def Grt (Q : Nat → Prop) (p q m : Nat) : Prop := p ≤ m ∧ m ≤ q ∧ Q m ∧ ∀ n, m < n → n ≤ q → ¬ Q n
def KidP (K : AskE) (Q : Nat → Prop) (p q : Nat) (v : Value) (S' : Hp) : Prop := ∃ es c, S' = [(K.bM, mpO es c)] ∧ MapOk K.tx K.re es ∧
  ((∃ m, Grt Q p q m ∧ v = .tuple #[.int .i64 m, .bool true]) ∨ ((∀ m, p ≤ m → m ≤ q → ¬ Q m) ∧ v = .tuple #[.int .i64 0, .bool false]))
def KidK (P : Program) (K : AskE) (fn : Nat) (k : Ky) (Q : Nat → Prop) (p q : Nat) : Prop := ∀ (es : List Me) (c : Nat), MapOk K.tx K.re es →
  Fn P fn [pt K.bS, .agg (Ek k).toArray] (fun W => Env W K [K.bM]) [(K.bM, mpO es c)] (KidP K Q p q)
end Go.HL.Kl.Mc
namespace Go.HL.Kl.Mc
open Go Go.HL Go.HL.Kl
theorem der1_1 {w : List UInt8} {x : Nd} {ks : F} {p q : Nat} (h : x.op = 1) : der1 w x ks p q ↔ q = p + 1 ∧ ∃ b, w[p]? = some b ∧ x.set.getLsbD b.toNat = true := by rw [der1_def, if_pos h]
theorem der1_2 {w : List UInt8} {x : Nd} {ks : F} {p q : Nat} (h : x.op = 2) : der1 w x ks p q ↔ p = 0 ∧ q = 0 := by rw [der1_def, if_neg (by omega), if_pos h]
theorem der1_3 {w : List UInt8} {x : Nd} {ks : F} {p q : Nat} (h : x.op = 3) : der1 w x ks p q ↔ p = w.length ∧ q = p := by rw [der1_def, if_neg (by omega), if_neg (by omega), if_pos h]
theorem der1_4 {w : List UInt8} {x : Nd} {ks : F} {p q : Nat} (h : x.op = 4 ∨ x.op = 7) : der1 w x ks p q ↔ der w ks false p q := by rw [der1_def, if_neg (by omega), if_neg (by omega), if_neg (by omega), if_neg (by omega), if_neg (by omega)]
theorem der1_5 {w : List UInt8} {x : Nd} {ks : F} {p q : Nat} (h : x.op = 5) : der1 w x ks p q ↔ der w ks true p q := by rw [der1_def, if_neg (by omega), if_neg (by omega), if_neg (by omega), if_pos h]
theorem der_one {w : List UInt8} {y : Nd} {js : F} {p q : Nat} : der w (.nd y js .nil) false p q ↔ der1 w y js p q := by
  rw [der_cat]
  exact ⟨fun ⟨t, h1, h2⟩ => by rw [der_nil] at h2; exact h2 ▸ h1, fun h => ⟨q, h, der_nil.2 rfl⟩⟩
theorem der_fone {w : List UInt8} {y : Nd} {js : F} : der w (.nd y js .nil) false = der1 w y js := by funext p q; exact propext der_one
/-- derivations go on -/
def Up (D : Nat → Nat → Prop) : Prop := ∀ p q, D p q → p ≤ q
theorem pow_up {D : Nat → Nat → Prop} (h : Up D) : ∀ k, Up (pow D k)
  | 0, p, q, e => Nat.le_of_eq e
  | k + 1, p, q, ⟨t, h1, h2⟩ => Nat.le_trans (h p t h1) (pow_up h k t q h2)
theorem RR_up {x : Nd} {D : Nat → Nat → Prop} {r : Nat} (h : Up D) : Up (RR x D r) := fun p q ⟨k, _, _, hk⟩ => pow_up h k p q hk
theorem der_up {w : List UInt8} : ∀ (f : F) (md : Bool), Up (der w f md)
  | .nil, md, p, q, h => by
    obtain ⟨_, rfl⟩ : md = false ∧ p = q := by simpa [der] using h
    exact Nat.le_refl _
  | .nd x ks r, md, p, q, h => by
    have h1 : Up (der1 w x ks) := by
      intro p q h
      rw [der1_def] at h
      split at h
      · omega
      split at h
      · omega
      split at h
      · omega
      split at h
      · exact der_up ks true p q h
      split at h
      · rw [rounds_RR] at h; exact RR_up (der_up ks false) p q h
      · exact der_up ks false p q h
    cases md with
    | false =>
      obtain ⟨t, h2, h3⟩ := der_cat.1 h
      exact Nat.le_trans (h1 p t h2) (der_up r false t q h3)
    | true =>
      rcases der_alt.1 h with h2 | h2
      · exact h1 p q h2
      · exact der_up r true p q h2
theorem der1_up {w : List UInt8} {x : Nd} {ks : F} : Up (der1 w x ks) := der_up _ _
/-- how many rounds count -/
def nxtR (x : Nd) (r : Nat) : Nat := if x.mx < 0 then min (r + 1) (max x.mn.toNat 1) else r + 1
structure Sp where
  fr : Int
  to : Int
  deriving DecidableEq
def Esp (s : Sp) : List Value := [.int .i64 s.fr, .int .i64 s.to]
instance : Enc Esp 2 := ⟨fun _ => rfl, fun x v hv => by
  simp only [Esp, List.mem_cons, List.not_mem_nil, or_false] at hv
  rcases hv with rfl | rfl <;> rfl⟩
def noS : Sp := ⟨-1, -1⟩
def fg1 (cs : List Sp) (x : Nd) : List Sp := if x.op = 7 then cs.set x.n.toNat noS else cs
def fgt (l : List Nd) (cs : List Sp) : List Sp := l.foldl fg1 cs
/-- likewise, of the places from a up to j -/
def fgtTo (re : List Nd) (a j : Nat) (cs : List Sp) : List Sp := fgt ((re.drop a).take (j - a)) cs
open Classical in
noncomputable def grt (Q : Nat → Prop) (p q : Nat) : Nat := if h : ∃ m, Grt Q p q m then h.choose else 0
attribute [irreducible] grt
noncomputable def reps (x : Nd) (D : Nat → Nat → Prop) (B : Nat → Nat → List Sp → List Sp) (q : Nat) : Nat → Nat → Nat → List Sp → List Sp
  | 0, _, _, cs => cs
  | f + 1, r, p, cs => if dQ (∃ m, Grt (RQ x D r p q) p q m) = true then reps x D B q f (nxtR x r) (grt (RQ x D r p q) p q) (B p (grt (RQ x D r p q) p q) cs) else cs
noncomputable def bst (w : List UInt8) : F → Bool → Nat → Nat → List Sp → List Sp
  | .nil, _, _, _, cs => cs
  | .nd x ks r, m, p, q, cs =>
    let one : Nat → Nat → List Sp → List Sp := fun p q cs =>
      if x.op = 7 then (bst w ks false p q (fgt ks.flat cs)).set x.n.toNat ⟨p, q⟩
      else if x.op = 5 then bst w ks true p q cs
      else if x.op = 4 then bst w ks false p q cs
      else if x.op = 6 then reps x (der w ks false) (fun p q cs => bst w ks false p q (fgt ks.flat cs)) q ((q - p) + max x.mn.toNat 1 + 1) 0 p cs
      else cs
    if m = true then (if dQ (der1 w x ks p q) = true then one p q cs else bst w r true p q cs)
    else bst w r false (grt (fun n => der1 w x ks p n ∧ der w r false n q) p q) q (one p (grt (fun n => der1 w x ks p n ∧ der w r false n q) p q) cs)
noncomputable def bst1 (w : List UInt8) (x : Nd) (ks : F) (p q : Nat) (cs : List Sp) : List Sp :=
  if x.op = 7 then (bst w ks false p q (fgt ks.flat cs)).set x.n.toNat ⟨p, q⟩
  else if x.op = 5 then bst w ks true p q cs
  else if x.op = 4 then bst w ks false p q cs
  else if x.op = 6 then reps x (der w ks false) (fun p q cs => bst w ks false p q (fgt ks.flat cs)) q ((q - p) + max x.mn.toNat 1 + 1) 0 p cs
  else cs
/-- how many groups -/
def gcn (l : List Nd) : Nat := l.countP (fun x => decide (x.op = 7))
def Numd (re : List Nd) (b i i' b' : Nat) : Prop := b' + gcn (re.take i) = b + gcn (re.take i') ∧ ∀ j x, i ≤ j → j < i' → re[j]? = some x → x.op = 7 → x.n + (gcn (re.take i) : Nat) = (b : Int) + (gcn (re.take j) : Nat) + 1
end Go.HL.Kl.Mc
namespace Go.HL
open Go
end Go.HL
namespace Go.HL.Kl.Mc
open Go Go.HL Go.HL.Kl AskE
structure AskG (T n : Nat) where
  (bE bM bA bS : Nat) (S : Hp)
  (h : OwnS Eix 1 T (.slice (some ⟨bE, 0, none⟩) n n) (List.replicate n 0) S)
/-- the captures of the best derivation -/
noncomputable def capsV (w : List UInt8) (re : List Nd) (x : Nd) (ks : F) (p q : Nat) : List Sp := (bst1 w x ks p q (List.replicate (gcn re + 1) noS)).set 0 ⟨p, q⟩
/-- the groups' numbers have their places -/
def Slots (re : List Nd) (n : Nat) : Prop := ∀ y ∈ re, y.op = 7 → 0 ≤ y.n ∧ y.n.toNat < n
def TakeP (K : AskE) (T : Nat) (ca : Option Addr) (cc N : Nat) (cs : List Sp) (S' : Hp) : Prop := ∃ es c Sc, S' = (K.bM, mpO es c) :: Sc ∧ MapOk K.tx K.re es ∧ OwnS Esp 2 T (.slice ca N cc) cs Sc
def TakeK (P : Program) (K : AskE) (fn T : Nat) (x : Nd) (ks : F) : Prop := ∀ (i i1 p q : Nat) (es : List Me) (c : Nat) (ca : Option Addr) (cc N : Nat) (cs : List Sp) (Sc : Hp), Part K.re (.nd x ks .nil) i i1 → p ≤ q → q ≤ K.tx.length → der1 K.tx x ks p q → MapOk K.tx K.re es → cs.length = N → Slots K.re N → OwnS Esp 2 T (.slice ca N cc) cs Sc →
  Fn P fn [pt K.bS, .int .i64 i, .int .i64 p, .int .i64 q, .slice ca N cc] (fun W => Env W K (keys ((K.bM, mpO es c) :: Sc))) ((K.bM, mpO es c) :: Sc) (fun _ S' => TakeP K T ca cc N (bst1 K.tx x ks p q cs) S')
def CapsP (K : AskE) (T : Nat) (cs : List Sp) (v : Value) (S' : Hp) : Prop := ∃ es c a cc Sc, v = .slice a cs.length cc ∧ S' = (K.bM, mpO es c) :: Sc ∧ OwnS Esp 2 T (.slice a cs.length cc) cs Sc
end Go.HL.Kl.Mc
namespace Go.HL.Kl.Mc
open Go Go.HL Go.HL.Kl
/-- an answer: a list of its own of so many instructions -/
def CodeP (T n : Nat) (v : Value) (S' : Hp) : Prop := ∃ (a : Option Addr) (c : Nat) (m : List In), v = .slice a m.length c ∧ m.length = n ∧ OwnS Ein 7 T (.slice a m.length c) m S'
/-- the contract of code, of sides -/
def CodeC (P : Program) (fn T : Nat) (x : Nd) (ks : F) : Prop := ∀ (ma : Option Addr) (mc : Nat) (m : List In) (Sm : Hp) (ra : Option Addr) (rc : Nat) (re : List Nd) (i i1 : Nat), (∀ x ∈ re, -128 ≤ x.op ∧ x.op < 128) → (∀ x ∈ re, ¬ x.op = 8) → re.length ≤ 1000000 → Part re (.nd x ks .nil) i i1 → OwnS Ein 7 T (.slice ma m.length mc) m Sm → m.length + lenT x ks ≤ 70000 →
  Fn P fn [.slice ma m.length mc, .slice ra re.length rc, .int .i64 i] (fun W => Rd En W (.slice ra re.length rc) re ∧ Apart (keys Sm) (.slice ra re.length rc)) Sm (CodeP T (m.length + lenT x ks))
end Go.HL.Kl.Mc
namespace Go.HL.Kl.Mc
open Go Go.HL Go.HL.Kl Go.RowKit Go.ChangeShapes Go.WideShapes Go.ChangeAt
def Ew1 (w : BitVec 64) : List Value := [Ew w]
instance : Enc Ew1 1 := ⟨fun _ => rfl, fun _ v hv => by simp [Ew1, Ew] at hv; subst hv; rfl⟩
theorem open_u64 {P : Program} {t : TypeId} (ht : P.underlying t = some (.int .u64)) : Opens P t Ew1 (fun _ _ => True) := by
  refine ⟨fun enc w fuel cs x h _ => ?_⟩
  obtain ⟨n, rfl, _, hw⟩ := DataW.trod_int ht h
  have hb : 0 ≤ n ∧ n ≤ 18446744073709551615 := by
    simp only [Lit.wf] at hw
    simpa [IntKind.min, IntKind.max, IntKind.signed, IntKind.bits] using hw
  refine ⟨BitVec.ofNat 64 n.toNat, ?_, trivial⟩
  have e : (BitVec.ofNat 64 n.toNat).toNat = n.toNat := by
    rw [BitVec.toNat_ofNat]
    exact Nat.mod_eq_of_lt (by rw [show (2 : Nat) ^ 64 = 18446744073709551616 from by decide]; omega)
  simp only [Ew1, Ew, e, List.cons.injEq, Value.int.injEq, true_and, and_true]
  omega
def mk4 (a b c d : BitVec 64) : Cl := setw (setw (setw (setw 0 0 a) 1 b) 2 c) 3 d
theorem mk4_wd (a b c d : BitVec 64) : Ec (mk4 a b c d) = [Ew a, Ew b, Ew c, Ew d] := by
  simp [Ec, mk4, wd_setw]
theorem open_cl {P : Program} {t e : TypeId} (ht : P.underlying t = some (.array 4 e)) (he : P.underlying e = some (.int .u64)) (hk : P.cellsOf e = 1) (hc : P.cellsOf t = 4) : Opens P t Ec (fun _ _ => True) := by
  refine ⟨fun enc w fuel cs x h hw => ?_⟩
  obtain ⟨xs, rfl, hl, _⟩ := (open_array ht hk (by rw [hc]) (open_u64 he)).out enc w fuel cs x h hw
  match xs, hl with
  | [a, b, c, d], _ => exact ⟨mk4 a b c d, by rw [mk4_wd]; rfl, trivial⟩
def Ei8 (n : Int) : List Value := [.int .i8 n]
instance : Enc Ei8 1 := ⟨fun _ => rfl, fun _ _ h => by simp [Ei8] at h; subst h; rfl⟩
theorem open_i8 {P : Program} {t : TypeId} (ht : P.underlying t = some (.int .i8)) : Opens P t Ei8 (fun _ n => -128 ≤ n ∧ n < 128) := by
  refine ⟨fun enc w fuel cs x h _ => ?_⟩
  obtain ⟨n, rfl, _, hw⟩ := DataW.trod_int ht h
  refine ⟨n, rfl, ?_⟩
  simp only [Lit.wf] at hw
  have : -128 ≤ n ∧ n ≤ 127 := by simpa [IntKind.min, IntKind.max, IntKind.signed, IntKind.bits] using hw
  omega
theorem open_struct6 {P : Program} {t : TypeId} {f0 f1 f2 f3 f4 f5 : Field} {α0 α1 α2 α3 α4 α5 γ : Type} {E0 : α0 → List Value} {E1 : α1 → List Value} {E2 : α2 → List Value} {E3 : α3 → List Value} {E4 : α4 → List Value} {E5 : α5 → List Value} {E : γ → List Value} {M0 : World → α0 → Prop} {M1 : World → α1 → Prop} {M2 : World → α2 → Prop} {M3 : World → α3 → Prop} {M4 : World → α4 → Prop} {M5 : World → α5 → Prop} {Mem : World → γ → Prop}
    (ht : P.underlying t = some (.struct #[f0, f1, f2, f3, f4, f5])) (h0 : f0.offset = 0) (h1 : f1.offset = P.cellsOf f0.type) (h2 : f2.offset = P.cellsOf f0.type + P.cellsOf f1.type) (h3 : f3.offset = P.cellsOf f0.type + P.cellsOf f1.type + P.cellsOf f2.type)
    (h4 : f4.offset = P.cellsOf f0.type + P.cellsOf f1.type + P.cellsOf f2.type + P.cellsOf f3.type) (h5 : f5.offset = P.cellsOf f0.type + P.cellsOf f1.type + P.cellsOf f2.type + P.cellsOf f3.type + P.cellsOf f4.type) (hc : P.cellsOf t = P.cellsOf f0.type + P.cellsOf f1.type + P.cellsOf f2.type + P.cellsOf f3.type + P.cellsOf f4.type + P.cellsOf f5.type)
    (o0 : Opens P f0.type E0 M0) (o1 : Opens P f1.type E1 M1) (o2 : Opens P f2.type E2 M2) (o3 : Opens P f3.type E3 M3) (o4 : Opens P f4.type E4 M4) (o5 : Opens P f5.type E5 M5) (mk : ∀ w a b c d e f, M0 w a → M1 w b → M2 w c → M3 w d → M4 w e → M5 w f → ∃ z, E z = E0 a ++ (E1 b ++ (E2 c ++ (E3 d ++ (E4 e ++ E5 f)))) ∧ Mem w z) : Opens P t E Mem := by
  refine ⟨fun enc w fuel cs x h hw => ?_⟩
  obtain ⟨hl, n, hf⟩ := trod_fields ht h hw
  obtain ⟨y0, e0, w0⟩ := hf 0 f0 rfl
  obtain ⟨y1, e1, w1⟩ := hf 1 f1 rfl
  obtain ⟨y2, e2, w2⟩ := hf 2 f2 rfl
  obtain ⟨y3, e3, w3⟩ := hf 3 f3 rfl
  obtain ⟨y4, e4, w4⟩ := hf 4 f4 rfl
  obtain ⟨y5, e5, w5⟩ := hf 5 f5 rfl
  obtain ⟨a, ha, ma⟩ := o0.out enc w _ _ _ e0 w0
  obtain ⟨b, hb, mb⟩ := o1.out enc w _ _ _ e1 w1
  obtain ⟨c, hcc, mc⟩ := o2.out enc w _ _ _ e2 w2
  obtain ⟨d, hd, md⟩ := o3.out enc w _ _ _ e3 w3
  obtain ⟨e, he, me⟩ := o4.out enc w _ _ _ e4 w4
  obtain ⟨f, hff, mf⟩ := o5.out enc w _ _ _ e5 w5
  obtain ⟨z, hz, hm⟩ := mk w a b c d e f ma mb mc md me mf
  refine ⟨z, ?_, hm⟩
  rw [hz, ← ha, ← hb, ← hcc, ← hd, ← he, ← hff, h0, h1, h2, h3, h4, h5, List.drop_zero, List.take_of_length_le (l := cs.drop (P.cellsOf f0.type + _ + _ + _ + _)) (by rw [List.length_drop]; omega), ← cells_split, ← cells_split, ← cells_split, ← cells_split, List.take_append_drop]
end Go.HL.Kl.Mc
namespace Go.HL.Kl.Mc
open Go Go.HL Go.HL.Kl
/-- the error of Compile -/
noncomputable def errC (re : List Nd) : Int := if shapedB re = false then 49 else if refsB re = true then 44 else 0
/-- the first j nodes are sets -/
structure SetsTo (l : List Nd) (n j : Nat) : Prop where
  len : l.length = n
  rng : ∀ x ∈ l, -128 ≤ x.op ∧ x.op < 128
  get : ∀ t, t < j → ∃ y, l[t]? = some y ∧ y.op = 1 ∧ y.kids = 0
def cls9 (j : Nat) : Cl := mk4 9#64 0#64 (BitVec.ofNat 64 j) 0#64
attribute [irreducible] cls9
def spN (i : Nat) : Nd := ⟨0, 0, ((1048576 * 9 + i + 1 : Nat) : Int), -7, 0, 0⟩
end Go.HL.Kl.Mc
namespace Go.HL.Kl.Mc
open Go Go.HL Go.HL.Kl AskE
/-- a regex that captures take, and a place of a derivation -/
structure May (re : List Nd) (w : List UInt8) (x : Nd) (ks : F) : Prop where
  sh : shapedB re = true
  rf : refsB re = false
  hs : Shp re x ks
def CapO (T : Nat) (w : List UInt8) (re : List Nd) (x : Nd) (ks : F) (p q : Nat) (v : Value) (S' : Hp) : Prop := ∃ a cc, v = .tuple #[.slice a (capsV w re x ks p q).length cc, .bool true] ∧ OwnS Esp 2 T (.slice a (capsV w re x ks p q).length cc) (capsV w re x ks p q) S'
def BestP (T : Nat) (re : List Nd) (w : List UInt8) (fr to : Int) (v : Value) (S' : Hp) : Prop :=
  (∃ x ks, ∃ p q : Nat, May re w x ks ∧ fr = p ∧ to = q ∧ p ≤ q ∧ q ≤ w.length ∧ der1 w x ks p q ∧ CapO T w re x ks p q v S') ∨
  ((¬ ∃ x ks, ∃ p q : Nat, May re w x ks ∧ fr = p ∧ to = q ∧ p ≤ q ∧ q ≤ w.length ∧ der1 w x ks p q) ∧ v = .tuple #[.slice none 0 0, .bool false] ∧ S' = [])
/-- the leftmost, there the longest -/
structure Lft (w : List UInt8) (x : Nd) (ks : F) (f p q : Nat) : Prop where
  ge : f ≤ p
  le : p ≤ q
  len : q ≤ w.length
  der : der1 w x ks p q
  left : ∀ p' q', f ≤ p' → p' < p → q' ≤ w.length → ¬ der1 w x ks p' q'
  long : ∀ q', q < q' → q' ≤ w.length → ¬ der1 w x ks p q'
def FindP (T : Nat) (re : List Nd) (w : List UInt8) (f : Int) (v : Value) (S' : Hp) : Prop :=
  (∃ x ks, ∃ g p q : Nat, May re w x ks ∧ f = g ∧ Lft w x ks g p q ∧ CapO T w re x ks p q v S') ∨
  ((¬ ∃ x ks, ∃ g p q : Nat, May re w x ks ∧ f = g ∧ g ≤ p ∧ q ≤ w.length ∧ der1 w x ks p q) ∧ v = .tuple #[.slice none 0 0, .bool false] ∧ S' = [])
end Go.HL.Kl.Mc
namespace Go.HL.Kl.Mc
open Go Go.HL Go.HL.Kl
/-- rows of sets -/
structure RowsP (rs : List (Sl Bool)) (N : Nat) (D : Nat → Nat → Prop) : Prop where
  len : rs.length = N + 1
  get : ∀ p, p ≤ N → ∃ s, rs[p]? = some s ∧ IsS s.xs N (D p)
/-- the first k rows -/
structure RowsTo (rs : List (Sl Bool)) (N k : Nat) (D : Nat → Nat → Prop) : Prop where
  len : rs.length = k
  get : ∀ p, p < k → ∃ s, rs[p]? = some s ∧ IsS s.xs N (D p)
/-- rows that a part of the heap bears -/
structure RdRows (W : World) (v : Value) (rs : List (Sl Bool)) : Prop where
  out : Rd (Esl (α := Bool)) W v rs
  row : ∀ s ∈ rs, Rd Ebo W (.slice s.a s.xs.length s.c) s.xs
/-! a set, added place by place -/
def orTo (a b : List Bool) (i : Nat) : List Bool := (List.range a.length).map fun j => if j < i then orF a b j else bo0 a j
def fromTo (D : Nat → Nat → Prop) (P : Nat → Prop) (k q : Nat) : Prop := ∃ p, p < k ∧ P p ∧ D p q
structure AgP (N : Nat) (D : Nat → Nat → Prop) (p : Nat) (out : List Bool) (todo : List Nat) : Prop where
  len : out.length = N + 1
  me : out[p]? = some true
  sound : ∀ q : Nat, out[q]? = some true → ∃ k, pow D k p q
  td : ∀ t ∈ todo, out[t]? = some true
  closed : ∀ q : Nat, out[q]? = some true → q ∉ todo → ∀ r, r ≤ N → D q r → out[r]? = some true
/-- the place t at hand, its first k targets looked at -/
structure AgK (N : Nat) (D : Nat → Nat → Prop) (p t k : Nat) (out : List Bool) (todo : List Nat) : Prop where
  len : out.length = N + 1
  me : out[p]? = some true
  tt : out[t]? = some true
  sound : ∀ q : Nat, out[q]? = some true → ∃ k, pow D k p q
  td : ∀ t ∈ todo, out[t]? = some true
  closed : ∀ q : Nat, out[q]? = some true → q ∉ todo → q ≠ t → ∀ r, r ≤ N → D q r → out[r]? = some true
  part : ∀ r, r < k → D t r → out[r]? = some true
def mvN (g : Nat) (x : Nd) : Nd := if 0 < x.n then { x with n := IntKind.i64.wrap (x.n + g) } else x
def F.mv (g : Nat) : F → F
  | .nil => .nil
  | .nd x ks r => .nd (mvN g x) (ks.mv g) (r.mv g)
/-- two regexes under one node -/
def catN : Nd := ⟨4, 0, 0, 0, 0, 2⟩
def altN : Nd := ⟨5, 0, 0, 0, 0, 2⟩
def twoL (n : Nd) (a b : List Nd) (g : Nat) : List Nd := n :: (a ++ b.map (mvN g))
end Go.HL.Kl.Mc
namespace Go.HL.Kl.Mc
open Go Go.HL Go.HL.Kl
def mvTo (g : Nat) (b : List Nd) (j : Nat) : List Nd := (b.take j).map (mvN g) ++ b.drop j
/-- the answer of runs -/
def RowsC (N : Nat) (D : Nat → Nat → Prop) (v : Value) (S : Hp) : Prop := ∃ (a : Option Addr) (c : Nat) (rs : List (Sl Bool)), v = .slice a rs.length c ∧ RowsP rs N D ∧ ∀ W : World, (∀ b o, (b, o) ∈ S → W.heap[b]? = some o) → RdRows W (.slice a rs.length c) rs
/-- read as rows, in every world that bears this part -/
def RdRS (v : Value) (rs : List (Sl Bool)) (S : Hp) : Prop := ∀ W : World, (∀ b o, (b, o) ∈ S → W.heap[b]? = some o) → RdRows W v rs
/-- an answer of Compile that is good -/
def CompOk (re : List Nd) (sv : Value) (S : Hp) (x : Nd) (ks : F) : Prop := ∃ a, shapedB re = true ∧ refsB re = false ∧ Shp re x ks ∧ sv = .slice a (mach (.nd x ks .nil)).length (mach (.nd x ks .nil)).length ∧ RdS Ein (.slice a (mach (.nd x ks .nil)).length (mach (.nd x ks .nil)).length) (mach (.nd x ks .nil)) S
/-! well shaped: forests without groups and references -/
def F.plain : F → Prop
  | .nil => True
  | .nd x ks r => (¬ x.op = 7 ∧ ¬ x.op = 8) ∧ ks.plain ∧ r.plain
def endN : Nd := ⟨4, 0, 0, 0, 0, 0⟩
def rowN (n : Nat) : Nd := ⟨4, 0, 0, 0, 0, (n : Int) + 1⟩
def timN (l m : Nat) : Nd := ⟨6, 0, 0, l, (l : Int) + m, 1⟩
def rowF : List UInt8 → F
  | [] => .nd endN .nil .nil
  | b :: bs => .nd (letN b) .nil (rowF bs)
def rowR (row : List UInt8) (l m : Nat) : List Nd := timN l m :: rowN row.length :: (row.map letN ++ [endN])
def Mt (row w : List UInt8) (p : Nat) : Prop := (w.drop p).take row.length = row
/-- the greatest number of rounds -/
def Most (row w : List UInt8) (n k : Nat) : Prop := k ≤ n ∧ (∀ j, j < k → Mt row w (j * row.length)) ∧ (k = n ∨ ¬ Mt row w (k * row.length))
end Go.HL.Kl.Mc
namespace Go.HL.Kl.Mc
open Go Go.HL Go.HL.Kl AskE
def gl (l : List Nd) : List Nat := (l.filter fun y => decide (y.op = 7)).map fun y => y.n.toNat
def gn (f : F) : List Nat := gl f.flat
def Non (f : F) (cs : List Sp) : Prop := ∀ i ∈ gn f, cs[i]? = some noS
def Nst : F → Int → Int → List Sp → Prop
  | .nil, _, _, _ => True
  | .nd x ks r, lo, hi, cs => (if x.op = 7 then ∃ s, cs[x.n.toNat]? = some s ∧ ((s = noS ∧ Non ks cs) ∨ (lo ≤ s.fr ∧ s.fr ≤ s.to ∧ s.to ≤ hi ∧ Nst ks s.fr s.to cs)) else Nst ks lo hi cs) ∧ Nst r lo hi cs
def catC : Nd := ⟨4, 0, 0, 0, 0, 2⟩
def grpC : Nd := ⟨7, 0, 1, 0, 0, 1⟩
def reC : List Nd := [catC, grpC, starN, letN 97, letN 98]
def ksG : F := .nd starN ksW .nil
def ksB : F := .nd (letN 98) .nil .nil
def ksC : F := .nd grpC ksG ksB
def wC : List UInt8 := [99, 97, 97, 98]
end Go.HL.Kl.Mc
namespace Go.HL.Kl.Mc
open Go Go.HL Go.HL.Kl
section
variable {P : Program} {κ : Cx} {L : Loc} {H : Hp} {ty t t' : TypeId} {x y : Operand}
end
end Go.HL.Kl.Mc
namespace Go.HL.Kl.Mc
open Go Go.HL Go.HL.Kl AskE
structure WalkE where
  (bW : Nat)
  (ra : Option Addr) (rc : Nat) (re : List Nd) (ta : Option Addr) (tc : Nat) (tx : List UInt8) (ca : Option Addr) (N cc : Nat)
namespace WalkE
abbrev vre (K : WalkE) : Value := .slice K.ra K.re.length K.rc
abbrev vtx (K : WalkE) : Value := .slice K.ta K.tx.length K.tc
abbrev vca (K : WalkE) : Value := .slice K.ca K.N K.cc
abbrev cells (K : WalkE) : List Value := [K.vre, K.vtx, K.vca]
end WalkE
structure EnvW (w : World) (K : WalkE) (M : List Nat) : Prop where
  p1 : RdP w K.bW 0 K.cells
  d1 : Rd En w K.vre K.re
  d2 : Rd Eb w K.vtx K.tx
  n1 : K.bW ∉ M
  a1 : Apart M K.vre
  a2 : Apart M K.vtx
structure WalkE.ok (K : WalkE) : Prop where
  rng : ∀ x ∈ K.re, -128 ≤ x.op ∧ x.op < 128
  no8 : ∀ x ∈ K.re, ¬ x.op = 8
  len : K.re.length ≤ 1000000
  tx : K.tx.length ≤ 1000000
def BestK (P : Program) (K : WalkE) (fn T : Nat) (x : Nd) (ks : F) : Prop := ∀ (i i1 p q : Nat) (cs : List Sp) (Sc : Hp), Part K.re (.nd x ks .nil) i i1 → p ≤ q → q ≤ K.tx.length → der1 K.tx x ks p q → cs.length = K.N → Slots K.re K.N → OwnS Esp 2 T K.vca cs Sc →
  Fn P fn [pt K.bW, .int .i64 i, .int .i64 p, .int .i64 q] (fun W => EnvW W K (keys Sc)) Sc (fun _ S' => OwnS Esp 2 T K.vca (bst1 K.tx x ks p q cs) S')
/-- rounds counted, and rounds that count -/
def CapR (x : Nd) (r s : Nat) : Prop := r = s ∨ (x.mx = -1 ∧ max x.mn.toNat 1 ≤ r ∧ s = max x.mn.toNat 1)
end Go.HL.Kl.Mc
namespace Go.HL
open Go
end Go.HL
namespace Go.HL.Kl.Mc
open Go Go.HL Go.HL.Kl
def FRes (re : List Nd) (w : List UInt8) (f : Int) (b : Bool) (L : List Sp) : Prop :=
  (∃ x ks, ∃ g p q : Nat, May re w x ks ∧ f = g ∧ Lft w x ks g p q ∧ b = true ∧ L = capsV w re x ks p q) ∨
  ((¬ ∃ x ks, ∃ g p q : Nat, May re w x ks ∧ f = g ∧ g ≤ p ∧ q ≤ w.length ∧ der1 w x ks p q) ∧ b = false ∧ L = [])
def BRes (re : List Nd) (w : List UInt8) (fr to : Int) (b : Bool) (L : List Sp) : Prop :=
  (∃ x ks, ∃ p q : Nat, May re w x ks ∧ fr = p ∧ to = q ∧ p ≤ q ∧ q ≤ w.length ∧ der1 w x ks p q ∧ b = true ∧ L = capsV w re x ks p q) ∨
  ((¬ ∃ x ks, ∃ p q : Nat, May re w x ks ∧ fr = p ∧ to = q ∧ p ≤ q ∧ q ≤ w.length ∧ der1 w x ks p q) ∧ b = false ∧ L = [])
/-- the spare bytes; a byte changed -/
def spB (j : Nat) : UInt8 := UInt8.ofNat (279 + 7 * j + 3)
def xor3 (x : UInt8) : UInt8 := UInt8.ofNat (BitVec.ofInt 8 (x.toNat : Int) ^^^ BitVec.ofInt 8 3).toNat
end Go.HL.Kl.Mc
namespace Go.Proofs.YtmompllplidphaaDoor
open Go Go.HL Go.Proofs Go.HL.Kl Go.HL.Kl.Mc Go.Tab
theorem longN_fn (n : Int) : HL.Fn Tryd.prog 8 [.int .i64 n] (fun _ => True) [] (fun v _ => v = .bool (decide (n > 2147483647))) := by
  refine fn_of Tryd.func8 rfl rfl rfl fun w0 hw => ?_
  refine c_seq fun _ hK1 => ?_
  refine c_region ?_
  refine o_step rfl (s_assign rfl) ?_
  refine o_nil ?_
  refine x_then (hK1 _ _ ?_)
  refine c_seq fun _ hK2 => ?_
  refine c_region ?_
  refine o_step rfl (s_move rfl) ?_
  refine o_step rfl (s_gtr rfl rfl) ?_
  refine o_step rfl (s_assign rfl) ?_
  refine o_nil ?_
  refine x_then (hK2 _ _ ?_)
  refine c_ret ?_
  refine ?_
  exact x_ret rfl (.tmp rfl (.nil)) (rfl)
end Go.Proofs.YtmompllplidphaaDoor
namespace Go.Proofs.YtmompllplidphaaDoor
open Go Go.HL Go.Proofs Go.HL.Kl Go.HL.Kl.Mc Go.HL.Sts
/-- lists with room behind them, owned -/
inductive OwnW : List (Sl Int) → Hp → Prop
  | nil : OwnW [] []
  | cons {s : Sl Int} {sls : List (Sl Int)} {S R : Hp} (h : OwnS Ei 1 3 (.slice s.a (wdl spZ s.xs).length s.c) (wdl spZ s.xs) S) (hs : OwnW sls R) : OwnW (s :: sls) (S ++ R)
/-- the lists behind -/
def Sps (n : Nat) (sps : List (Sl Int)) : Prop := ∀ j s, sps[j]? = some s → s.xs = [spZ (n + j)]
/-- a machine with room behind its lists, owned -/
def WdO (d : Df) (v : Value) (S : Hp) : Prop := ∃ (aC aR aE : Option Addr) (hs sps : List (Sl Int)) (SC SB SH SS SE : Hp), v = .agg [.slice aC d.atoms.length (d.atoms.length + 64), .slice aR hs.length (hs.length + 64), .slice aE d.ends.length (d.ends.length + 64)].toArray ∧ S = SC ++ (SB ++ (SH ++ (SS ++ SE))) ∧
  OwnS Ec 4 54 (.slice aC (wdl spC d.atoms).length (d.atoms.length + 64)) (wdl spC d.atoms) SC ∧ OwnS Esl 1 46 (.slice aR (hs ++ sps).length (hs.length + 64)) (hs ++ sps) SB ∧ OwnW hs SH ∧ OwnL Ei 1 3 sps (sps.map Sl.xs) SS ∧ OwnS Ebo 1 4 (.slice aE (wdl spBo d.ends).length (d.ends.length + 64)) (wdl spBo d.ends) SE ∧ d.next = hs.map Sl.xs ∧ sps.length = 64 ∧ Sps hs.length sps
/-- nothing in a machine is too large -/
structure Sml (d : Df) (rows : List (Sl Int)) : Prop where
  at_ : d.atoms.length ≤ 16777216
  nx : rows.length ≤ 16777216
  en : d.ends.length ≤ 16777216
  rw_ : ∀ s ∈ rows, s.xs.length ≤ 16777216
end Go.Proofs.YtmompllplidphaaDoor
