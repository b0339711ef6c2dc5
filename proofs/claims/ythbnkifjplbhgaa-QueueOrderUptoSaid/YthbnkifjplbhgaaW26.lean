/- Part of the proofs over this seat: see the text that holds the theorem. Conditions: each theorem bears its own. -/
import Derived.Test.YthbnkifjplbhgaaW25
import Derived.Test.YthbnkifjplbhgaaM15
namespace Go.Proofs.Ythbnkifjplbhgaa
open Go Go.HL Go.Proofs
/-- the queue that lives flushes, what came out: so many calls, these bytes -/
def LvH (bq b2 b3 : Nat) (s : Int × List UInt8) (S : Hp) : Prop := ∃ aa ca Sa Sg, S.Perm ((bq, .cells [.bool true, .slice none 0 0].toArray 58 (0, 0)) :: (b2, .cells [.int .i64 s.1].toArray 3 (0, 0)) :: (b3, .cells [.slice aa s.2.length ca].toArray 35 (0, 0)) :: (Sa ++ Sg)) ∧ OwnS Eb 1 5 (.slice aa s.2.length ca) s.2 Sa
theorem lvR_fn (bq b2 b3 : Nat) (s : Int × List UInt8) (S : Hp) (n : ByteArray) (hs : LvH bq b2 b3 s S) (hk : lvKR s n) :
    HL.Fn Try.prog 50 ([] ++ [.string n] ++ []) (fun _ => True) S (fun v S' => ∃ a c b, v = .slice a b.length c ∧ RdS Eb (.slice a b.length c) b S' ∧ (b = (lvR s n).1 ∧ LvH bq b2 b3 (lvR s n).2 S')) := by
  refine ((livesR_fn n hk).frame (R := S)).weaken (fun _ h => h) fun v S' hv => ?_
  obtain ⟨S1, rfl, c, b, rfl, ho⟩ := hv
  refine ⟨_, _, _, rfl, ho.rds.mono HIn.appL, rfl, ?_⟩
  obtain ⟨aa, ca, Sa, Sg, hp, hO⟩ := hs
  refine ⟨aa, ca, Sa, Sg ++ S1, ?_, hO⟩
  refine List.perm_append_comm.trans ?_
  have := hp.append_right S1
  simpa [List.append_assoc, lvR] using this
theorem lvO_fn (bq b2 b3 : Nat) (s : Int × List UInt8) (S : Hp) (b : List UInt8) (Sb : Hp) (a : Option Addr) (c : Nat) (hs : LvH bq b2 b3 s S) (hb : OwnS Eb 1 5 (.slice a b.length c) b Sb) (hk : lvKO s b) :
    HL.Fn Try.prog 51 ([] ++ [.slice a b.length c] ++ [.pointer (some ⟨b2, 0, none⟩), .pointer (some ⟨b3, 0, none⟩)]) (fun _ => True) (S ++ Sb) (fun v S' => v = .int .i64 (lvO s b).1 ∧ LvH bq b2 b3 (lvO s b).2 S') := by
  obtain ⟨aa, ca, Sa, Sg, hp, hO⟩ := hs
  have h1 := ((livesO_fn b2 b3 s.1 aa ca s.2 Sa hO a c b ⟨hk.1, hk.2.1⟩ hk.2.2).frame (R := (bq, .cells [.bool true, .slice none 0 0].toArray 58 (0, 0)) :: (Sg ++ Sb)))
  have hpm : (((b2, .cells [.int .i64 s.1].toArray 3 (0, 0)) :: (b3, .cells [.slice aa s.2.length ca].toArray 35 (0, 0)) :: Sa) ++ ((bq, .cells [.bool true, .slice none 0 0].toArray 58 (0, 0)) :: (Sg ++ Sb))).Perm (S ++ Sb) := by
    refine List.Perm.trans ?_ (hp.append_right Sb).symm
    refine List.perm_middle.trans ?_
    simp [List.append_assoc]
  have h2 := h1.has (pre' := fun _ => True) (fun w _ hS => ⟨hb.rd fun x o hm => hS.has x o (by simp; exact .inr (.inr (.inr (.inr (.inr hm))))), Has.apart hS .here hb fun p hm => List.mem_cons_of_mem _ (List.mem_append_right _ hm)⟩)
  refine (h2.perm hpm).weaken (fun _ h => h) fun v S' hv => ?_
  obtain ⟨S1, rfl, rfl, a', c', Sa', rfl, hO'⟩ := hv
  refine ⟨rfl, a', c', Sa', Sg ++ Sb, ?_, hO'⟩
  refine List.perm_middle.trans ?_
  simp [List.append_assoc, lvO]

theorem qlives_fn  : HL.Fn Try.prog 15 [] (fun _ => True) [] (fun v _ => v = .bool true) := by
  refine fn_of Try.func15 rfl rfl rfl fun w0 hw => ?_
  refine c_seq fun _ hK1 => ?_
  refine c_region ?_
  refine o_step rfl (s_assign rfl) ?_
  refine o_nil ?_
  refine x_then (hK1 _ _ ?_)
  refine c_seq fun _ hK2 => ?_
  refine c_region ?_
  refine o_call (queueNew_fn) rfl rfl rfl (by exact .nil) (fun _ _ => trivial) (fun v8 S8 ⟨bq, hv8, hS8⟩ => ?_)
  subst hv8
  subst hS8
  refine o_step rfl (s_assign rfl) ?_
  refine o_nil ?_
  refine x_then (hK2 _ _ ?_)
  refine c_seq fun _ hK3 => ?_
  refine c_seq fun _ hK4 => ?_
  refine c_region ?_
  refine o_step rfl (s_move rfl) ?_
  refine o_step rfl (step_cast (v' := .bool false) (s_eql_nilp rfl rfl) rfl) ?_
  refine o_nil ?_
  refine x_then (hK4 _ _ ?_)
  refine c_false rfl ?_
  refine c_skip ?_
  refine x_then (hK3 _ _ ?_)
  refine c_seq fun _ hK5 => ?_
  refine c_region ?_
  refine o_step rfl (s_move rfl) ?_
  refine o_bs (E := Eb) (xs := [97]) (vs := [_]) rfl rfl rfl rfl rfl (by decide) (by decide) fun b12 S12 hS12 => ?_
  refine o_conv_same rfl hS12 (by first | ((repeat (first | exact .one | exact .here | exact .all | apply Pick.cons | apply Pick.app)); done) | ((repeat (first | exact .one | exact .here | exact .all | apply Pick.cons | apply Pick.assoc | apply Pick.app)); done) | exact Pick.takeA (by repeat (first | exact .one | exact .here | exact .all | apply Pick.cons | apply Pick.assoc | apply Pick.app)) (by repeat (first | exact .one | exact .here | exact .all | apply Pick.cons | apply Pick.assoc | apply Pick.app))) rfl fun S13 hS13 => ?_
  refine o_call (text_fn bq none 0 [] [] .nil (by decide) _ _ [97]) rfl rfl rfl (by first | ((repeat (first | exact .one | exact .here | exact .all | apply Pick.cons | apply Pick.app)); done) | ((repeat (first | exact .one | exact .here | exact .all | apply Pick.cons | apply Pick.assoc | apply Pick.app)); done) | exact Pick.takeA (by repeat (first | exact .one | exact .here | exact .all | apply Pick.cons | apply Pick.assoc | apply Pick.app)) (by repeat (first | exact .one | exact .here | exact .all | apply Pick.cons | apply Pick.assoc | apply Pick.app))) (fun w st => ⟨(hS13.rdk (by repeat (first | exact HIn.here | exact HIn.all | exact HIn.one | apply HIn.cons | apply HIn.assoc | apply HIn.app))).out w st, st.apart (S := [_]) (by first | ((repeat (first | exact .one | exact .here | exact .all | apply Pick.cons | apply Pick.app)); done) | ((repeat (first | exact .one | exact .here | exact .all | apply Pick.cons | apply Pick.assoc | apply Pick.app)); done) | exact Pick.takeA (by repeat (first | exact .one | exact .here | exact .all | apply Pick.cons | apply Pick.assoc | apply Pick.app)) (by repeat (first | exact .one | exact .here | exact .all | apply Pick.cons | apply Pick.assoc | apply Pick.app))) hS13 (by repeat (first | exact HIn.here | exact HIn.all | exact HIn.one | apply HIn.cons | apply HIn.assoc | apply HIn.app))⟩) (fun v14 S14 ⟨hv14, qa14, qc14, a14, c14, So14, Sx14, hS14, hO14, hX14⟩ => ?_)
  subst hv14
  subst hS14
  refine o_nil ?_
  refine x_then (hK5 _ _ ?_)
  refine c_seq fun _ hK6 => ?_
  refine c_region ?_
  refine o_step rfl (s_move rfl) ?_
  refine o_call (file_fn bq qa14 qc14 _ So14 hO14 (by simp) _) rfl rfl rfl ((Pick.takeC (by first | ((repeat (first | exact .one | exact .here | exact .all | apply Pick.cons | apply Pick.app)); done) | ((repeat (first | exact .one | exact .here | exact .all | apply Pick.cons | apply Pick.assoc | apply Pick.app)); done) | exact Pick.takeA (by repeat (first | exact .one | exact .here | exact .all | apply Pick.cons | apply Pick.assoc | apply Pick.app)) (by repeat (first | exact .one | exact .here | exact .all | apply Pick.cons | apply Pick.assoc | apply Pick.app))) (by first | ((repeat (first | exact .one | exact .here | exact .all | apply Pick.cons | apply Pick.app)); done) | ((repeat (first | exact .one | exact .here | exact .all | apply Pick.cons | apply Pick.assoc | apply Pick.app)); done) | exact Pick.takeA (by repeat (first | exact .one | exact .here | exact .all | apply Pick.cons | apply Pick.assoc | apply Pick.app)) (by repeat (first | exact .one | exact .here | exact .all | apply Pick.cons | apply Pick.assoc | apply Pick.app))))) (fun _ _ => trivial) (fun v16 S16 ⟨hv16, qa16, qc16, So16, hS16, hO16⟩ => ?_)
  subst hv16
  subst hS16
  refine o_nil ?_
  refine x_then (hK6 _ _ ?_)
  refine c_seq fun _ hK7 => ?_
  refine c_region ?_
  refine o_alloc rfl rfl fun b2 => ?_
  refine o_store rfl rfl rfl (by repeat (first | exact .here | apply Upd.there | apply Upd.assoc | apply Upd.skip)) (by first | decide | omega | (simp; done) | (simp; omega)) rfl ?_
  refine o_nil ?_
  refine x_then (hK7 _ _ ?_)
  refine c_seq fun _ hK8 => ?_
  refine c_region ?_
  refine o_alloc rfl rfl fun b3 => ?_
  refine o_nil ?_
  refine x_then (hK8 _ _ ?_)
  refine c_seq fun _ hK9 => ?_
  refine c_region ?_
  refine o_step rfl (s_assign rfl) ?_
  refine o_nil ?_
  refine x_then (hK9 _ _ ?_)
  refine c_seq fun _ hK10 => ?_
  refine c_region ?_
  refine o_step rfl (s_func (us := []) (vs := [_, _]) rfl rfl) ?_
  refine o_step rfl (s_assign rfl) ?_
  refine o_nil ?_
  refine x_then (hK10 _ _ ?_)
  refine c_seq fun _ hK11 => ?_
  refine c_region ?_
  refine o_step rfl (s_move rfl) ?_
  refine o_step rfl (s_move rfl) ?_
  refine o_step rfl (s_move rfl) ?_
  refine o_call (qflush_fn lvR lvO lvKR lvKO (LvH bq b2 b3) 50 51 [] [] [] [.pointer (some ⟨b2, 0, none⟩), .pointer (some ⟨b3, 0, none⟩)] (fun s S n => lvR_fn bq b2 b3 s S n) (fun s S b Sb a c => lvO_fn bq b2 b3 s S b Sb a c) bq qa16 qc16 ([] ++ [(⟨103, .slice a14 [(97 : UInt8)].length c14⟩ : IV)] ++ [(⟨104, .string ⟨#[102]⟩⟩ : IV)]) So16 Sx14 [(b2, .cells [.int .i64 0].toArray 3 (0, 0)), (b3, .cells [.slice none 0 0].toArray 35 (0, 0))] hO16 [.text [97], .file ⟨#[102]⟩] (items2 hX14) (0, []) ⟨none, 0, [], [], .refl _, .nil⟩ lvFits) rfl rfl rfl ((Pick.takeC (by first | ((repeat (first | exact .one | exact .here | exact .all | apply Pick.cons | apply Pick.app)); done) | ((repeat (first | exact .one | exact .here | exact .all | apply Pick.cons | apply Pick.assoc | apply Pick.app)); done) | exact Pick.takeA (by repeat (first | exact .one | exact .here | exact .all | apply Pick.cons | apply Pick.assoc | apply Pick.app)) (by repeat (first | exact .one | exact .here | exact .all | apply Pick.cons | apply Pick.assoc | apply Pick.app))) (Pick.takeA (by first | ((repeat (first | exact .one | exact .here | exact .all | apply Pick.cons | apply Pick.app)); done) | ((repeat (first | exact .one | exact .here | exact .all | apply Pick.cons | apply Pick.assoc | apply Pick.app)); done) | exact Pick.takeA (by repeat (first | exact .one | exact .here | exact .all | apply Pick.cons | apply Pick.assoc | apply Pick.app)) (by repeat (first | exact .one | exact .here | exact .all | apply Pick.cons | apply Pick.assoc | apply Pick.app))) (Pick.takeA (by first | ((repeat (first | exact .one | exact .here | exact .all | apply Pick.cons | apply Pick.app)); done) | ((repeat (first | exact .one | exact .here | exact .all | apply Pick.cons | apply Pick.assoc | apply Pick.app)); done) | exact Pick.takeA (by repeat (first | exact .one | exact .here | exact .all | apply Pick.cons | apply Pick.assoc | apply Pick.app)) (by repeat (first | exact .one | exact .here | exact .all | apply Pick.cons | apply Pick.assoc | apply Pick.app))) (Pick.takeC (by first | ((repeat (first | exact .one | exact .here | exact .all | apply Pick.cons | apply Pick.app)); done) | ((repeat (first | exact .one | exact .here | exact .all | apply Pick.cons | apply Pick.assoc | apply Pick.app)); done) | exact Pick.takeA (by repeat (first | exact .one | exact .here | exact .all | apply Pick.cons | apply Pick.assoc | apply Pick.app)) (by repeat (first | exact .one | exact .here | exact .all | apply Pick.cons | apply Pick.assoc | apply Pick.app))) (by first | ((repeat (first | exact .one | exact .here | exact .all | apply Pick.cons | apply Pick.app)); done) | ((repeat (first | exact .one | exact .here | exact .all | apply Pick.cons | apply Pick.assoc | apply Pick.app)); done) | exact Pick.takeA (by repeat (first | exact .one | exact .here | exact .all | apply Pick.cons | apply Pick.assoc | apply Pick.app)) (by repeat (first | exact .one | exact .here | exact .all | apply Pick.cons | apply Pick.assoc | apply Pick.app)))))))) (fun _ _ => trivial) (fun v21 S21 ⟨hv21, hH21⟩ => ?_)
  rw [lvEnds] at hv21 hH21
  subst hv21
  obtain ⟨aa1, ca1, Sa1, Sg1, hp21, hO21⟩ := hH21
  refine o_sk (HSub.trans (HSub.of_pick (A := S21) (by first | ((repeat (first | exact .one | exact .here | exact .all | apply Pick.cons | apply Pick.app)); done) | ((repeat (first | exact .one | exact .here | exact .all | apply Pick.cons | apply Pick.assoc | apply Pick.app)); done) | exact Pick.takeA (by repeat (first | exact .one | exact .here | exact .all | apply Pick.cons | apply Pick.assoc | apply Pick.app)) (by repeat (first | exact .one | exact .here | exact .all | apply Pick.cons | apply Pick.assoc | apply Pick.app)))) (HSub.of_perm hp21)) ?_
  refine o_step rfl (s_assign rfl) ?_
  refine o_nil ?_
  refine x_then (hK11 _ _ ?_)
  refine c_seq fun _ hK12 => ?_
  refine c_region ?_
  refine o_step rfl (s_move rfl) ?_
  refine o_step rfl (s_move rfl) ?_
  refine o_step rfl (s_move rfl) ?_
  refine o_call (qflush_fn lvR lvO lvKR lvKO (LvH bq b2 b3) 50 51 [] [] [] [.pointer (some ⟨b2, 0, none⟩), .pointer (some ⟨b3, 0, none⟩)] (fun s S n => lvR_fn bq b2 b3 s S n) (fun s S b Sb a c => lvO_fn bq b2 b3 s S b Sb a c) bq none 0 [] [] [] ((b2, .cells [.int .i64 2].toArray 3 (0, 0)) :: (b3, .cells [.slice aa1 [97, 10, 102, 102].length ca1].toArray 35 (0, 0)) :: (Sa1 ++ Sg1)) .nil [] ⟨rfl, fun j q h => by simp at h⟩ (2, [97, 10, 102, 102]) ⟨aa1, ca1, Sa1, Sg1, .refl _, hO21⟩ trivial) rfl rfl rfl ((Pick.takeC (by first | ((repeat (first | exact .one | exact .here | exact .all | apply Pick.cons | apply Pick.app)); done) | ((repeat (first | exact .one | exact .here | exact .all | apply Pick.cons | apply Pick.assoc | apply Pick.app)); done) | exact Pick.takeA (by repeat (first | exact .one | exact .here | exact .all | apply Pick.cons | apply Pick.assoc | apply Pick.app)) (by repeat (first | exact .one | exact .here | exact .all | apply Pick.cons | apply Pick.assoc | apply Pick.app))) (by first | ((repeat (first | exact .one | exact .here | exact .all | apply Pick.cons | apply Pick.app)); done) | ((repeat (first | exact .one | exact .here | exact .all | apply Pick.cons | apply Pick.assoc | apply Pick.app)); done) | exact Pick.takeA (by repeat (first | exact .one | exact .here | exact .all | apply Pick.cons | apply Pick.assoc | apply Pick.app)) (by repeat (first | exact .one | exact .here | exact .all | apply Pick.cons | apply Pick.assoc | apply Pick.app))))) (fun _ _ => trivial) (fun v25 S25 ⟨hv25, hH25⟩ => ?_)
  change v25 = .int .i64 0 at hv25
  change LvH bq b2 b3 (2, [97, 10, 102, 102]) S25 at hH25
  subst hv25
  obtain ⟨aa2, ca2, Sa2, Sg2, hp25, hO25⟩ := hH25
  refine o_sk (HSub.trans (HSub.of_pick (A := S25) (by first | ((repeat (first | exact .one | exact .here | exact .all | apply Pick.cons | apply Pick.app)); done) | ((repeat (first | exact .one | exact .here | exact .all | apply Pick.cons | apply Pick.assoc | apply Pick.app)); done) | exact Pick.takeA (by repeat (first | exact .one | exact .here | exact .all | apply Pick.cons | apply Pick.assoc | apply Pick.app)) (by repeat (first | exact .one | exact .here | exact .all | apply Pick.cons | apply Pick.assoc | apply Pick.app)))) (HSub.of_perm hp25)) ?_
  refine o_step rfl (s_assign rfl) ?_
  refine o_nil ?_
  refine x_then (hK12 _ _ ?_)
  refine c_seq fun _ hK13 => ?_
  refine c_region ?_
  refine o_step rfl (s_move rfl) ?_
  refine o_step rfl (s_eql_t rfl rfl (by omega)) ?_
  refine o_step rfl (s_move rfl) ?_
  refine o_yes rfl rfl ?_
  refine o_step rfl (s_move rfl) ?_
  refine o_yes rfl rfl ?_
  refine o_step rfl (s_eql_t rfl rfl (by omega)) ?_
  refine o_step rfl (s_pick_t rfl rfl) ?_
  refine o_step rfl (s_move rfl) ?_
  refine o_yes rfl rfl ?_
  refine o_step rfl (s_ld rfl (.own (by repeat (first | exact List.mem_cons_self | apply List.mem_cons_of_mem | apply mem_assoc | apply mem_app)) rfl)) ?_
  refine o_yes rfl rfl ?_
  refine o_step rfl (s_eql_t rfl rfl (by omega)) ?_
  refine o_step rfl (s_pick_t rfl rfl) ?_
  refine o_step rfl (s_move rfl) ?_
  refine o_yes rfl rfl ?_
  refine o_step rfl (s_ld rfl (.own (by repeat (first | exact List.mem_cons_self | apply List.mem_cons_of_mem | apply mem_assoc | apply mem_app)) rfl)) ?_
  refine o_yes rfl rfl ?_
  refine o_step rfl (s_b2str rfl (hO25.rdk (by repeat (first | exact HIn.here | exact HIn.all | exact HIn.one | apply HIn.cons | apply HIn.assoc | apply HIn.app))) rfl) ?_
  refine o_yes rfl rfl ?_
  refine o_step rfl (step_cast (v' := .bool true) (s_eql_str rfl rfl) (congrArg Value.bool (decide_eq_true rfl))) ?_
  refine o_step rfl (s_pick_t rfl rfl) ?_
  refine o_step rfl (s_move rfl) ?_
  refine o_yes rfl rfl ?_
  refine o_step rfl (s_move rfl) ?_
  refine o_yes rfl rfl ?_
  refine o_callP (len_fn bq (.bool true) none 0 0) rfl rfl rfl (fun w st => (RdPK.own (by repeat (first | exact List.mem_cons_self | apply List.mem_cons_of_mem | apply mem_assoc | apply mem_app))).out w st) (fun v43 hv43 => ?_)
  subst hv43
  refine o_yes rfl rfl ?_
  refine o_step rfl (s_eql_t rfl rfl (by omega)) ?_
  refine o_step rfl (s_pick_t rfl rfl) ?_
  refine o_step rfl (s_assign rfl) ?_
  refine o_nil ?_
  refine x_then (hK13 _ _ ?_)
  refine c_ret ?_
  refine ?_
  exact x_ret rfl (.tmp rfl (.nil)) (rfl)

theorem queueNil_fn (a : Option Addr) (c : Nat) (xs : List UInt8) (s : ByteArray) : HL.Fn Try.prog 4 [.slice a xs.length c, .string s] (fun w => Rd Eb w (.slice a xs.length c) xs) [] (fun v _ => v = .bool true) := by
  refine fn_of Try.func4 rfl rfl rfl fun w0 hw => ?_
  refine c_seq fun _ hK1 => ?_
  refine c_region ?_
  refine o_step rfl (s_assign rfl) ?_
  refine o_nil ?_
  refine x_then (hK1 _ _ ?_)
  refine c_seq fun _ hK2 => ?_
  refine c_region ?_
  refine o_step rfl (s_assign rfl) ?_
  refine o_nil ?_
  refine x_then (hK2 _ _ ?_)
  refine c_seq fun _ hK3 => ?_
  refine c_seq fun _ hK4 => ?_
  refine c_region ?_
  refine o_step rfl (s_assign rfl) ?_
  refine o_nil ?_
  refine x_then (hK4 _ _ ?_)
  refine c_block ?_
  -- not carried: 4
  refine c_loopB (fun (i : Nat) => i ≤ 2) (fun (i : Nat) => [(6, .int .i64 i)]) [(0, _), (1, _), (5, _)] (fun (i : Nat) => []) (fun (i : Nat) => 2 - i) 0 (by omega) (by repeat (first | exact Sub.nil | refine Sub.cons rfl ?_)) (by repeat (first | exact Sub.nil | refine Sub.cons rfl ?_)) (by repeat (first | exact HSub.refl _ | exact HSub.nil | refine HSub.takeC (by first | ((repeat (first | exact .one | exact .here | exact .all | apply Pick.cons | apply Pick.app)); done) | ((repeat (first | exact .one | exact .here | exact .all | apply Pick.cons | apply Pick.assoc | apply Pick.app)); done) | exact Pick.takeA (by repeat (first | exact .one | exact .here | exact .all | apply Pick.cons | apply Pick.assoc | apply Pick.app)) (by repeat (first | exact .one | exact .here | exact .all | apply Pick.cons | apply Pick.assoc | apply Pick.app))) ?_ | refine HSub.take (by first | ((repeat (first | exact .one | exact .here | exact .all | apply Pick.cons | apply Pick.app)); done) | ((repeat (first | exact .one | exact .here | exact .all | apply Pick.cons | apply Pick.assoc | apply Pick.app)); done) | exact Pick.takeA (by repeat (first | exact .one | exact .here | exact .all | apply Pick.cons | apply Pick.assoc | apply Pick.app)) (by repeat (first | exact .one | exact .here | exact .all | apply Pick.cons | apply Pick.assoc | apply Pick.app))) ?_ | exact HSub.of_pick (by first | ((repeat (first | exact .one | exact .here | exact .all | apply Pick.cons | apply Pick.app)); done) | ((repeat (first | exact .one | exact .here | exact .all | apply Pick.cons | apply Pick.assoc | apply Pick.app)); done) | exact Pick.takeA (by repeat (first | exact .one | exact .here | exact .all | apply Pick.cons | apply Pick.assoc | apply Pick.app)) (by repeat (first | exact .one | exact .here | exact .all | apply Pick.cons | apply Pick.assoc | apply Pick.app))))) ?_
  rintro i hI
  refine c_seq fun _ hK5 => ?_
  refine c_seq fun _ hK6 => ?_
  refine c_region ?_
  refine o_step rfl (s_move rfl) ?_
  refine o_step rfl (s_lss rfl rfl) ?_
  refine o_nil ?_
  refine x_then (hK6 _ _ ?_)
  refine c_if rfl (fun hlt => ?_) (fun hlt => ?_)
  · skip
    refine c_skip ?_
    refine x_then (hK5 _ _ ?_)
    refine c_seq fun _ hK7 => ?_
    refine c_block ?_
    refine c_seq fun _ hK8 => ?_
    refine c_region ?_
    refine o_step rfl (s_move rfl) ?_
    refine o_step rfl (s_assign rfl) ?_
    refine o_nil ?_
    refine x_then (hK8 _ _ ?_)
    refine c_seq fun _ hK9 => ?_
    refine c_seq fun _ hK10 => ?_
    refine c_region ?_
    refine o_step rfl (s_move rfl) ?_
    refine o_step rfl (s_eql rfl rfl) ?_
    refine o_nil ?_
    refine x_then (hK10 _ _ ?_)
    refine c_if rfl (fun h1 => ?_) (fun h1 => ?_)
    · skip
      skip
      · skip
        refine c_region ?_
        refine o_step rfl (s_build (cs := [_, _]) (vs := []) rfl rfl (.nil)) ?_
        refine o_box rfl rfl rfl fun b17 => ?_
        refine o_step rfl (s_assign rfl) ?_
        refine o_nil ?_
        refine x_then (hK9 _ _ ?_)
        refine c_seq fun _ hK11 => ?_
        refine c_region ?_
        refine o_step rfl (s_build (cs := [_, _, _, _, _, _, _, _, _, _, _, _, _, _, _, _, _, _, _, _, _, _, _, _, _, _, _, _, _, _]) (vs := []) rfl rfl (.nil)) ?_
        refine o_box rfl rfl rfl fun b19 => ?_
        refine o_step rfl (s_assign rfl) ?_
        refine o_nil ?_
        refine x_then (hK11 _ _ ?_)
        refine c_seq fun _ hK12 => ?_
        refine c_region ?_
        refine o_step rfl (s_move rfl) ?_
        refine o_step rfl (s_move rfl) ?_
        refine o_callP (text_plain b17 (.slice none 0 0) a c xs) rfl rfl rfl (fun w st => ⟨(RdPK.own (by repeat (first | exact List.mem_cons_self | apply List.mem_cons_of_mem | apply mem_assoc | apply mem_app))).out w st, (RdK.old0 hw).out w st⟩) (fun v22 hv22 => ?_)
        refine o_nil ?_
        refine x_then (hK12 _ _ ?_)
        refine c_seq fun _ hK13 => ?_
        refine c_region ?_
        refine o_step rfl (s_move rfl) ?_
        refine o_step rfl (s_move rfl) ?_
        refine o_callP (file_plain b17 (.slice none 0 0) s) rfl rfl rfl (fun w st => (RdPK.own (by repeat (first | exact List.mem_cons_self | apply List.mem_cons_of_mem | apply mem_assoc | apply mem_app))).out w st) (fun v25 hv25 => ?_)
        refine o_nil ?_
        refine x_then (hK13 _ _ ?_)
        refine c_seq fun _ hK14 => ?_
        refine c_region ?_
        refine o_step rfl (s_move rfl) ?_
        refine o_callP (len_fn b17 (.bool false) none 0 0) rfl rfl rfl (fun w st => (RdPK.own (by repeat (first | exact List.mem_cons_self | apply List.mem_cons_of_mem | apply mem_assoc | apply mem_app))).out w st) (fun v27 hv27 => ?_)
        subst hv27
        refine o_step rfl (s_neq_f rfl rfl (by omega)) ?_
        refine o_step rfl (s_move rfl) ?_
        refine o_yes rfl rfl ?_
        refine o_step rfl (s_move rfl) ?_
        refine o_yes rfl rfl ?_
        refine o_step rfl (s_move rfl) ?_
        refine o_yes rfl rfl ?_
        refine o_step rfl (s_func (us := [_]) (vs := []) rfl rfl) ?_
        refine o_yes rfl rfl ?_
        refine o_step rfl (s_move rfl) ?_
        refine o_yes rfl rfl ?_
        refine o_step rfl (s_func (us := [_]) (vs := []) rfl rfl) ?_
        refine o_yes rfl rfl ?_
        refine o_callP (qflush_plain b17 (.slice none 0 0) _ _) rfl rfl rfl (fun w st => (RdPK.own (by repeat (first | exact List.mem_cons_self | apply List.mem_cons_of_mem | apply mem_assoc | apply mem_app))).out w st) (fun v35 hv35 => ?_)
        subst hv35
        refine o_yes rfl rfl ?_
        refine o_step rfl (s_neq_f rfl rfl (by omega)) ?_
        refine o_step rfl (s_pick_f rfl rfl) ?_
        refine o_step rfl (s_move rfl) ?_
        refine o_yes rfl rfl ?_
        refine o_step rfl (s_move rfl) ?_
        refine o_yes rfl rfl ?_
        refine o_step rfl (s_nil rfl) ?_
        refine o_yes rfl rfl ?_
        refine o_step rfl (s_field rfl rfl (by decide)) ?_
        refine o_yes rfl rfl ?_
        refine o_step rfl (s_field rfl rfl (by decide)) ?_
        refine o_yes rfl rfl ?_
        refine o_step rfl (s_ld rfl (.own (by repeat (first | exact List.mem_cons_self | apply List.mem_cons_of_mem | apply mem_assoc | apply mem_app)) rfl)) ?_
        refine o_yes rfl rfl ?_
        refine o_step rfl (s_len rfl) ?_
        refine o_yes rfl rfl ?_
        refine o_step rfl (s_neq_f rfl rfl (by omega)) ?_
        refine o_step rfl (s_pick_f rfl rfl) ?_
        refine o_nil ?_
        refine x_then (hK14 _ _ ?_)
        refine c_false rfl ?_
        refine c_skip ?_
        refine x_block ?_
        refine x_then (hK7 _ _ ?_)
        refine c_region ?_
        refine o_step rfl (s_move rfl) ?_
        refine o_step rfl (s_add rfl rfl (by omega)) ?_
        refine o_step rfl (s_assign rfl) ?_
        refine o_nil ?_
        exact x_then (x_inv (i + 1) (by omega) (by first | omega | (dsimp only; omega)) (by repeat (first | exact Sub.nil | refine Sub.cons rfl ?_)) (by repeat (first | exact HSub.refl _ | exact HSub.nil | refine HSub.takeC (by first | ((repeat (first | exact .one | exact .here | exact .all | apply Pick.cons | apply Pick.app)); done) | ((repeat (first | exact .one | exact .here | exact .all | apply Pick.cons | apply Pick.assoc | apply Pick.app)); done) | exact Pick.takeA (by repeat (first | exact .one | exact .here | exact .all | apply Pick.cons | apply Pick.assoc | apply Pick.app)) (by repeat (first | exact .one | exact .here | exact .all | apply Pick.cons | apply Pick.assoc | apply Pick.app))) ?_ | refine HSub.take (by first | ((repeat (first | exact .one | exact .here | exact .all | apply Pick.cons | apply Pick.app)); done) | ((repeat (first | exact .one | exact .here | exact .all | apply Pick.cons | apply Pick.assoc | apply Pick.app)); done) | exact Pick.takeA (by repeat (first | exact .one | exact .here | exact .all | apply Pick.cons | apply Pick.assoc | apply Pick.app)) (by repeat (first | exact .one | exact .here | exact .all | apply Pick.cons | apply Pick.assoc | apply Pick.app))) ?_ | exact HSub.of_pick (by first | ((repeat (first | exact .one | exact .here | exact .all | apply Pick.cons | apply Pick.app)); done) | ((repeat (first | exact .one | exact .here | exact .all | apply Pick.cons | apply Pick.assoc | apply Pick.app)); done) | exact Pick.takeA (by repeat (first | exact .one | exact .here | exact .all | apply Pick.cons | apply Pick.assoc | apply Pick.app)) (by repeat (first | exact .one | exact .here | exact .all | apply Pick.cons | apply Pick.assoc | apply Pick.app))))))
    · skip
      skip
      · skip
        refine c_skip ?_
        refine x_then (hK9 _ _ ?_)
        refine c_seq fun _ hK15 => ?_
        refine c_region ?_
        refine o_step rfl (s_build (cs := [_, _, _, _, _, _, _, _, _, _, _, _, _, _, _, _, _, _, _, _, _, _, _, _, _, _, _, _, _, _]) (vs := []) rfl rfl (.nil)) ?_
        refine o_box rfl rfl rfl fun b19 => ?_
        refine o_step rfl (s_assign rfl) ?_
        refine o_nil ?_
        refine x_then (hK15 _ _ ?_)
        refine c_seq fun _ hK16 => ?_
        refine c_region ?_
        refine o_step rfl (s_move rfl) ?_
        refine o_step rfl (s_move rfl) ?_
        refine o_callP (text_none a c xs) rfl rfl rfl (fun w st => (RdK.old0 hw).out w st) (fun v22 hv22 => ?_)
        refine o_nil ?_
        refine x_then (hK16 _ _ ?_)
        refine c_seq fun _ hK17 => ?_
        refine c_region ?_
        refine o_step rfl (s_move rfl) ?_
        refine o_step rfl (s_move rfl) ?_
        refine o_callP (file_none s) rfl rfl rfl (fun _ _ => trivial) (fun v25 hv25 => ?_)
        refine o_nil ?_
        refine x_then (hK17 _ _ ?_)
        refine c_seq fun _ hK18 => ?_
        refine c_region ?_
        refine o_step rfl (s_move rfl) ?_
        refine o_callP (len_none) rfl rfl rfl (fun _ _ => trivial) (fun v27 hv27 => ?_)
        subst hv27
        refine o_step rfl (s_neq_f rfl rfl (by omega)) ?_
        refine o_step rfl (s_move rfl) ?_
        refine o_yes rfl rfl ?_
        refine o_step rfl (s_move rfl) ?_
        refine o_yes rfl rfl ?_
        refine o_step rfl (s_move rfl) ?_
        refine o_yes rfl rfl ?_
        refine o_step rfl (s_func (us := [_]) (vs := []) rfl rfl) ?_
        refine o_yes rfl rfl ?_
        refine o_step rfl (s_move rfl) ?_
        refine o_yes rfl rfl ?_
        refine o_step rfl (s_func (us := [_]) (vs := []) rfl rfl) ?_
        refine o_yes rfl rfl ?_
        refine o_callP (qflush_none _ _) rfl rfl rfl (fun _ _ => trivial) (fun v35 hv35 => ?_)
        subst hv35
        refine o_yes rfl rfl ?_
        refine o_step rfl (s_neq_f rfl rfl (by omega)) ?_
        refine o_step rfl (s_pick_f rfl rfl) ?_
        refine o_step rfl (s_move rfl) ?_
        refine o_yes rfl rfl ?_
        refine o_step rfl (s_move rfl) ?_
        refine o_yes rfl rfl ?_
        refine o_step rfl (s_nil rfl) ?_
        refine o_yes rfl rfl ?_
        refine o_step rfl (s_field rfl rfl (by decide)) ?_
        refine o_yes rfl rfl ?_
        refine o_step rfl (s_field rfl rfl (by decide)) ?_
        refine o_yes rfl rfl ?_
        refine o_step rfl (s_ld rfl (.own (by repeat (first | exact List.mem_cons_self | apply List.mem_cons_of_mem | apply mem_assoc | apply mem_app)) rfl)) ?_
        refine o_yes rfl rfl ?_
        refine o_step rfl (s_len rfl) ?_
        refine o_yes rfl rfl ?_
        refine o_step rfl (s_neq_f rfl rfl (by omega)) ?_
        refine o_step rfl (s_pick_f rfl rfl) ?_
        refine o_nil ?_
        refine x_then (hK18 _ _ ?_)
        refine c_false rfl ?_
        refine c_skip ?_
        refine x_block ?_
        refine x_then (hK7 _ _ ?_)
        refine c_region ?_
        refine o_step rfl (s_move rfl) ?_
        refine o_step rfl (s_add rfl rfl (by omega)) ?_
        refine o_step rfl (s_assign rfl) ?_
        refine o_nil ?_
        exact x_then (x_inv (i + 1) (by omega) (by first | omega | (dsimp only; omega)) (by repeat (first | exact Sub.nil | refine Sub.cons rfl ?_)) (by repeat (first | exact HSub.refl _ | exact HSub.nil | refine HSub.takeC (by first | ((repeat (first | exact .one | exact .here | exact .all | apply Pick.cons | apply Pick.app)); done) | ((repeat (first | exact .one | exact .here | exact .all | apply Pick.cons | apply Pick.assoc | apply Pick.app)); done) | exact Pick.takeA (by repeat (first | exact .one | exact .here | exact .all | apply Pick.cons | apply Pick.assoc | apply Pick.app)) (by repeat (first | exact .one | exact .here | exact .all | apply Pick.cons | apply Pick.assoc | apply Pick.app))) ?_ | refine HSub.take (by first | ((repeat (first | exact .one | exact .here | exact .all | apply Pick.cons | apply Pick.app)); done) | ((repeat (first | exact .one | exact .here | exact .all | apply Pick.cons | apply Pick.assoc | apply Pick.app)); done) | exact Pick.takeA (by repeat (first | exact .one | exact .here | exact .all | apply Pick.cons | apply Pick.assoc | apply Pick.app)) (by repeat (first | exact .one | exact .here | exact .all | apply Pick.cons | apply Pick.assoc | apply Pick.app))) ?_ | exact HSub.of_pick (by first | ((repeat (first | exact .one | exact .here | exact .all | apply Pick.cons | apply Pick.app)); done) | ((repeat (first | exact .one | exact .here | exact .all | apply Pick.cons | apply Pick.assoc | apply Pick.app)); done) | exact Pick.takeA (by repeat (first | exact .one | exact .here | exact .all | apply Pick.cons | apply Pick.assoc | apply Pick.app)) (by repeat (first | exact .one | exact .here | exact .all | apply Pick.cons | apply Pick.assoc | apply Pick.app))))))
  · skip
    refine c_exit ?_
    refine x_then_exit ?_
    refine x_then_exit ?_
    refine x_block_exit ?_
    refine x_then (hK3 _ _ ?_)
    refine c_seq fun _ hK19 => ?_
    refine c_region ?_
    refine o_callP (qlives_fn) rfl rfl rfl (fun _ _ => trivial) (fun v47 hv47 => ?_)
    refine o_step rfl (s_assign rfl) ?_
    refine o_nil ?_
    refine x_then (hK19 _ _ ?_)
    refine c_ret ?_
    refine ?_
    exact x_ret rfl (.tmp rfl (.nil)) (hv47)
end Go.Proofs.Ythbnkifjplbhgaa
