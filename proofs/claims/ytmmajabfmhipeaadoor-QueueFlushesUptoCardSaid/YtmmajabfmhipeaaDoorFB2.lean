/- What lies there of the reference's side; its Read, Out and Flush. Conditions: none. -/
import Derived.Test.YtmmajabfmhipeaaDoorFB1
import Derived.Test.YtmmajabfmhipeaaDoorHlB
namespace Go.Proofs.YtmmajabfmhipeaaDoor
open Go Go.HL Go.Proofs Go.Tab
structure BD where
  (fa : Option Addr) (fc : Nat) (Sf : Hp) (sum : Int) (aa : Option Addr) (ac : Nat) (al : List UInt8) (Sa : Hp) (ca : Option Addr) (cc : Nat) (cl : List CallV) (Sc : Hp) (ga : Option Addr) (gc : Nat) (gl : List (Sl UInt8)) (Sg : Hp) (la : Option Addr) (lc : Nat) (ll : List (Sl UInt8)) (Sn : Hp) (wa : Option Addr) (wc : Nat) (wl : List (Sl UInt8)) (Sw : Hp) (ia : Option Addr) (ic : Nat) (il : List RI) (SI Sx : Hp)
structure BD.Ok (d : BD) (p : AP) (fs : List FileV) (L : List (Sl UInt8)) (g0 z : Nat) (s : QW) : Prop where
  hf : OwnS Efile 3 115 (.slice d.fa fs.length d.fc) fs d.Sf
  hsum : 0 ≤ d.sum ∧ d.sum ≤ 1048578 * (s.calls.length + z)
  ha : OwnS Eb 1 5 (.slice d.aa d.al.length d.ac) d.al d.Sa
  hal : d.al.length ≤ 1048577 * (g0 + s.outs)
  hc : OwnS Ecall 3 204 (.slice d.ca d.cl.length d.cc) d.cl d.Sc
  hci : CallsIn d.cl s.calls d.Sx
  hg : OwnS Esl 1 40 (.slice d.ga d.gl.length d.gc) d.gl d.Sg
  hgl : d.gl.length ≤ g0 + s.outs
  hl : OwnS Esl 1 40 (.slice d.la d.ll.length d.lc) d.ll d.Sn
  hll : d.ll.length ≤ 1000
  hw : OwnS Esl 1 40 (.slice d.wa d.wl.length d.wc) d.wl d.Sw
  hwl : d.wl.length = d.ll.length
  hi : OwnS Eri 3 131 (.slice d.ia d.il.length d.ic) d.il d.SI
  hia : d.il.map RI.abs = s.q
  hir : ∀ x ∈ d.il, RdS Eb x.t.v x.t.xs d.Sx
def BD.rest (d : BD) : Hp := d.Sf ++ (d.Sa ++ (d.Sc ++ (d.Sg ++ (d.Sn ++ (d.Sw ++ (d.SI ++ d.Sx))))))
def BD.heap (d : BD) (p : AP) (fs : List FileV) (outs : Int) : Hp := (p.bs, .cells [.slice none 0 0, .pointer none, .pointer none, .pointer none, .slice d.fa fs.length d.fc, .int .i64 p.fail, .int .i64 p.err, .int .i64 0, .int .i64 p.dur, .pointer (some ⟨p.bq, 0, none⟩), .slice p.B.a p.B.xs.length p.B.c, .string p.N, .bool false, .bool false, .bool false, .bool false, .int .i64 0, .int .i64 outs, .int .i64 d.sum, .slice d.aa d.al.length d.ac, .string ⟨#[]⟩, .slice d.ca d.cl.length d.cc, .slice d.ga d.gl.length d.gc, .slice d.la d.ll.length d.lc, .slice d.wa d.wl.length d.wc].toArray 43 (0, 0)) :: (p.bq, .cells [.slice d.ia d.il.length d.ic].toArray 112 (0, 0)) :: d.rest
def BH (p : AP) (fs : List FileV) (L : List (Sl UInt8)) (g0 z : Nat) (s : QW) (S : Hp) : Prop := ∃ d : BD, S.Perm (d.heap p fs (s.outs : Nat)) ∧ d.Ok p fs L g0 z s
theorem bR_fn (p : AP) (fs : List FileV) (L : List (Sl UInt8)) (g0 z : Nat) (hP : APre p fs L g0 z) (s : QW) (S : Hp) (n : ByteArray) (hs : BH p fs L g0 z s S) (hk : qKR s n) :
    HL.Fn Tryd.prog 83 [.pointer (some ⟨p.bs, 0, none⟩), .string n] (OldL L S) S (fun v S' => ∃ a c b, v = .slice a b.length c ∧ RdS Eb (.slice a b.length c) b S' ∧ (b = (qR fs s n).1 ∧ BH p fs L g0 z (qR fs s n).2 S')) := by
  obtain ⟨d, hp, ok⟩ := hs
  have hk' := hk.1
  have hcl := ok.hci.len
  have hsum := ok.hsum
  have hz := hP.z
  have h1 := (wreadB_fn p.bs (.slice none 0 0) (.pointer none) (.pointer none) (.int .i64 p.fail) (.int .i64 p.err) (.int .i64 0) (.int .i64 p.dur) (.pointer (some ⟨p.bq, 0, none⟩)) (.slice p.B.a p.B.xs.length p.B.c) (.string p.N) (.bool false) (.bool false) (.bool false) (.int .i64 0) (.int .i64 (s.outs : Nat)) (.slice d.aa d.al.length d.ac) (.string ⟨#[]⟩) (.slice d.ga d.gl.length d.gc) d.fa d.fc fs d.Sf ok.hf hP.fb d.ca d.cc d.cl d.Sc ok.hc (by omega) d.sum (by omega) d.la d.wa d.lc d.wc d.ll d.wl d.Sn d.Sw ok.hl ok.hw ok.hll ok.hwl n).frame (R := (p.bq, .cells [.slice d.ia d.il.length d.ic].toArray 112 (0, 0)) :: (d.Sa ++ (d.Sg ++ (d.SI ++ d.Sx))))
  have hpm : ((p.bs, .cells [.slice none 0 0, .pointer none, .pointer none, .pointer none, .slice d.fa fs.length d.fc, .int .i64 p.fail, .int .i64 p.err, .int .i64 0, .int .i64 p.dur, .pointer (some ⟨p.bq, 0, none⟩), .slice p.B.a p.B.xs.length p.B.c, .string p.N, .bool false, .bool false, .bool false, .bool false, .int .i64 0, .int .i64 (s.outs : Nat), .int .i64 d.sum, .slice d.aa d.al.length d.ac, .string ⟨#[]⟩, .slice d.ca d.cl.length d.cc, .slice d.ga d.gl.length d.gc, .slice d.la d.ll.length d.lc, .slice d.wa d.wl.length d.wc].toArray 43 (0, 0)) :: (d.Sf ++ (d.Sc ++ (d.Sn ++ d.Sw))) ++ ((p.bq, .cells [.slice d.ia d.il.length d.ic].toArray 112 (0, 0)) :: (d.Sa ++ (d.Sg ++ (d.SI ++ d.Sx))))).Perm S := by
    refine List.Perm.trans ?_ hp.symm
    rw [List.cons_append]
    refine List.Perm.cons _ ?_
    classical exact List.perm_iff_count.2 fun x => by simp only [BD.rest, List.count_append, List.count_cons]; omega
  have h2 := h1.has (pre' := OldL L S) (fun w h hS q hq => by
    obtain ⟨f, hf, rfl⟩ := List.mem_map.1 hq
    exact (OldL.sub h (fun x hx => hpm.mem_iff.1 (List.mem_append_left _ hx))) _ (hP.fL f hf))
  refine (h2.perm hpm).weaken (fun _ h => h) fun v S' hv => ?_
  obtain ⟨S1, rfl, a', c', a2, c2, ca', cc', Sc', la', lc', ll', wa', wc', wl', Sn', Sw', Sx', Sy', rfl, rfl, hlp, hc', hr2, hr, hst⟩ := hv
  refine ⟨a', c', _, rfl, hr.mono (hin_sub hzB), rfl, ⟨{ d with sum := d.sum + 1 + ([] : List UInt8).length, ca := ca', cc := cc', cl := d.cl ++ [(⟨3, n, ⟨a2, c2, []⟩⟩ : CallV)], Sc := Sc', la := la', lc := lc', ll := ll', Sn := Sn', wa := wa', wc := wc', wl := wl', Sw := Sw', Sx := d.Sx ++ (Sx' ++ Sy') }, ?_, ?_⟩⟩
  · rw [List.cons_append]
    refine List.Perm.cons _ ?_
    classical exact List.perm_iff_count.2 fun x => by simp only [BD.rest, List.count_append, List.count_cons]; omega
  · refine ⟨ok.hf, by simp only [qR, List.length_append, List.length_nil, List.length_singleton]; omega, ok.ha, ok.hal, hc', ⟨by simp [qR, ok.hci.abs, CallV.abs], fun c hc => ?_⟩, ok.hg, ok.hgl, hlp.1, hlp.2.2.1, hlp.2.1, hlp.2.2.2, ok.hi, ok.hia, fun x hx => (ok.hir x hx).mono HIn.appL⟩
    rcases List.mem_append.1 hc with hc | hc
    · exact (ok.hci.rd c hc).mono HIn.appL
    · have e := List.mem_singleton.1 hc
      subst e
      exact hr2.mono fun q hq => HIn.appR q (HIn.appL q hq)
theorem bO_fn (p : AP) (fs : List FileV) (L : List (Sl UInt8)) (g0 z : Nat) (hP : APre p fs L g0 z) (s : QW) (S : Hp) (b : List UInt8) (Sb : Hp) (a : Option Addr) (c : Nat) (hs : BH p fs L g0 z s S) (hb : OwnS Eb 1 5 (.slice a b.length c) b Sb) (hk : qKO s b) :
    HL.Fn Tryd.prog 84 [.pointer (some ⟨p.bs, 0, none⟩), .slice a b.length c] (OldL L (S ++ Sb)) (S ++ Sb) (fun v S' => v = .int .i64 (qO p.fail p.err p.dur p.B.xs p.N s b).1 ∧ BH p fs L g0 z (qO p.fail p.err p.dur p.B.xs p.N s b).2 S') := by
  obtain ⟨d, hp, ok⟩ := hs
  obtain ⟨hk1, hk2, hk3, hk4⟩ := hk
  have hcl := ok.hci.len
  have hsum := ok.hsum
  have hal := ok.hal
  have hgl := ok.hgl
  have hqn : d.il.length = s.q.length := by have := congrArg List.length ok.hia; simpa using this
  have hz := hP.z
  have hg0 := hP.g
  have h1 := (woutQ_fn p.bs (.slice none 0 0) (.pointer none) (.pointer none) (.slice d.fa fs.length d.fc) (.bool false) (.bool false) (.int .i64 0) (.string ⟨#[]⟩) (.slice d.la d.ll.length d.lc) (.slice d.wa d.wl.length d.wc) d.aa d.ac d.al d.Sa ok.ha d.ga d.gc d.gl d.Sg ok.hg (by omega) p.fail p.err (s.outs : Nat) (by omega) d.ca d.cc d.cl d.Sc ok.hc (by omega) d.sum (by omega) a c b Sb hb (by omega) p.bq p.dur p.B.a p.B.c p.B.xs p.N d.ia d.ic d.il d.SI ok.hi (by omega) hP.B).frame (R := d.Sf ++ (d.Sn ++ (d.Sw ++ d.Sx)))
  have hpm : ((p.bs, .cells [.slice none 0 0, .pointer none, .pointer none, .pointer none, .slice d.fa fs.length d.fc, .int .i64 p.fail, .int .i64 p.err, .int .i64 0, .int .i64 p.dur, .pointer (some ⟨p.bq, 0, none⟩), .slice p.B.a p.B.xs.length p.B.c, .string p.N, .bool false, .bool false, .bool false, .bool false, .int .i64 0, .int .i64 (s.outs : Nat), .int .i64 d.sum, .slice d.aa d.al.length d.ac, .string ⟨#[]⟩, .slice d.ca d.cl.length d.cc, .slice d.ga d.gl.length d.gc, .slice d.la d.ll.length d.lc, .slice d.wa d.wl.length d.wc].toArray 43 (0, 0)) :: (p.bq, .cells [.slice d.ia d.il.length d.ic].toArray 112 (0, 0)) :: (d.Sa ++ (d.Sc ++ (d.Sg ++ (d.SI ++ Sb)))) ++ (d.Sf ++ (d.Sn ++ (d.Sw ++ d.Sx)))).Perm (S ++ Sb) := by
    refine List.Perm.trans ?_ (hp.append_right Sb).symm
    simp only [BD.heap, List.cons_append]
    refine List.Perm.cons _ (List.Perm.cons _ ?_)
    classical exact List.perm_iff_count.2 fun x => by simp only [BD.rest, List.count_append, List.count_cons]; omega
  have h2 := h1.has (pre' := OldL L (S ++ Sb)) (fun w h hS => (OldL.sub h (fun x hx => hpm.mem_iff.1 (List.mem_append_left _ hx))) _ hP.BL)
  refine (h2.perm hpm).weaken (fun _ h => h) fun v S' hv => ?_
  obtain ⟨S1, rfl, rfl, a1, c1, aa', ac', ca', cc', ga', gc', ia', ic', il', Sa', Sc', Sg', SI', St, Sx', rfl, ha', hc', hg', hr1, hi', hpu⟩ := hv
  have hil' : il'.map RI.abs = (qO p.fail p.err p.dur p.B.xs p.N s b).2.q ∧ ∀ x ∈ il', RdS Eb x.t.v x.t.xs (d.Sx ++ (St ++ (Sx' ++ Sb))) := by
    rcases hpu with ⟨hno, rfl⟩ | ⟨hyes, at_, ct, rfl, hto⟩
    · simp only [qO, if_neg hno]
      exact ⟨ok.hia, fun x hx => (ok.hir x hx).mono HIn.appL⟩
    · simp only [qO, if_pos hyes]
      refine ⟨by rw [List.map_append, List.map_append, ok.hia]; simp [RI.abs], fun x hx => ?_⟩
      rcases List.mem_append.1 hx with hx | hx
      · rcases List.mem_append.1 hx with hx | hx
        · exact (ok.hir x hx).mono HIn.appL
        · have e := List.mem_singleton.1 hx
          subst e
          exact hto.rds.mono fun q hq => HIn.appR q (HIn.appL q hq)
      · have e := List.mem_singleton.1 hx
        subst e
        exact (RdS.nil : RdS Eb (.slice none 0 0) [] []).mono fun q hq => by cases hq
  refine ⟨rfl, { d with sum := d.sum + 1 + b.length, aa := aa', ac := ac', al := d.al ++ b, Sa := Sa', ca := ca', cc := cc', cl := d.cl ++ [(⟨1, ⟨#[]⟩, ⟨a1, c1, b⟩⟩ : CallV)], Sc := Sc', ga := ga', gc := gc', gl := d.gl ++ [(⟨a, c, b⟩ : Sl UInt8)], Sg := Sg', ia := ia', ic := ic', il := il', SI := SI', Sx := d.Sx ++ (St ++ (Sx' ++ Sb)) }, ?_, ?_⟩
  · rw [List.cons_append]
    refine List.Perm.cons _ ?_
    classical exact List.perm_iff_count.2 fun x => by simp only [BD.rest, List.count_append, List.count_cons]; omega
  · refine ⟨ok.hf, by simp only [qO, List.length_append, List.length_singleton]; omega, ha', by simp only [qO, List.length_append]; omega, hc', ⟨by simp [qO, ok.hci.abs, CallV.abs], fun c hc => ?_⟩, hg', by simp only [qO, List.length_append, List.length_singleton]; omega, ok.hl, ok.hll, ok.hw, ok.hwl, hi', hil'.1, hil'.2⟩
    rcases List.mem_append.1 hc with hc | hc
    · exact (ok.hci.rd c hc).mono HIn.appL
    · have e := List.mem_singleton.1 hc
      subst e
      exact hr1.mono fun q hq => HIn.appR q (HIn.appR q (HIn.appL q hq))
theorem ri_at {il : List RI} {l : List QI} (h : il.map RI.abs = l) {j : Nat} (hj : j < il.length) : (∃ x, il[j]? = some x ∧ x.f = true ∧ l.drop j = .file x.n :: l.drop (j + 1)) ∨ (∃ x, il[j]? = some x ∧ x.f = false ∧ l.drop j = .text x.t.xs :: l.drop (j + 1)) := by
  have hx : il[j]? = some il[j] := List.getElem?_eq_getElem hj
  have hd : l.drop j = RI.abs il[j] :: l.drop (j + 1) := by
    subst h
    rw [List.drop_eq_getElem_cons (by rw [List.length_map]; exact hj), List.getElem_map]
  cases hf : il[j].f with
  | true => exact .inl ⟨_, hx, hf, by rw [hd, RI.abs, if_pos hf]⟩
  | false => exact .inr ⟨_, hx, hf, by rw [hd, RI.abs, if_neg (by rw [hf]; simp)]⟩
set_option maxHeartbeats 2000000 in
theorem rqFlush_fn (p : AP) (fs : List FileV) (L : List (Sl UInt8)) (g0 z : Nat) (hP : APre p fs L g0 z) (l : List QI) (ia : Option Addr) (ic : Nat) (il : List RI) (SI Si Sx : Hp) (hi : OwnS Eri 3 131 (.slice ia il.length ic) il SI) (hia : il.map RI.abs = l) (hir : ∀ x ∈ il, RdS Eb x.t.v x.t.xs Si) (s0 : QW) (h0 : BH p fs L g0 z s0 ((p.bq, .cells [.slice none 0 0].toArray 112 (0, 0)) :: Sx)) (hf : fitsQ (qR fs) (qO p.fail p.err p.dur p.B.xs p.N) qKR qKO l s0) : HL.Fn Tryd.prog 51 [.pointer (some ⟨p.bq, 0, none⟩), .pointer (some ⟨p.bs, 0, none⟩)] (OldL L ((p.bq, .cells [.slice ia il.length ic].toArray 112 (0, 0)) :: (SI ++ (Si ++ Sx)))) ((p.bq, .cells [.slice ia il.length ic].toArray 112 (0, 0)) :: (SI ++ (Si ++ Sx))) (fun v S' => v = .int .i64 (flushQ (qR fs) (qO p.fail p.err p.dur p.B.xs p.N) l s0).1 ∧ BH p fs L g0 z (flushQ (qR fs) (qO p.fail p.err p.dur p.B.xs p.N) l s0).2 S') := by
  refine fn_of Tryd.func51 rfl rfl rfl fun w0 hw => ?_
  have hsi := hi.sl
  have hbi := hsi.le
  have hil : il.length = l.length := by rw [← hia, List.length_map]
  refine c_seq fun _ hK1 => ?_
  refine c_region ?_
  refine o_step rfl (s_assign rfl) ?_
  refine o_nil ?_
  refine x_then (hK1 _ _ ?_)
  refine c_seq fun _ hK2 => ?_
  refine c_seq fun _ hK3 => ?_
  refine c_region ?_
  refine o_step rfl (s_move rfl) ?_
  refine o_step rfl (step_cast (v' := .bool false) (s_eql_nilp rfl rfl) rfl) ?_
  refine o_nil ?_
  refine x_then (hK3 _ _ ?_)
  refine c_false rfl ?_
  refine c_skip ?_
  refine x_then (hK2 _ _ ?_)
  refine c_seq fun _ hK4 => ?_
  refine c_region ?_
  refine o_step rfl (s_move rfl) ?_
  refine o_step rfl (s_nil rfl) ?_
  refine o_step rfl (s_field rfl rfl (by decide)) ?_
  refine o_step rfl (s_ld rfl (.own meA rfl)) ?_
  refine o_step rfl (s_assign rfl) ?_
  refine o_nil ?_
  refine x_then (hK4 _ _ ?_)
  refine c_seq fun _ hK5 => ?_
  refine c_region ?_
  refine o_step rfl (s_move rfl) ?_
  refine o_step rfl (s_nil rfl) ?_
  refine o_step rfl (s_field rfl rfl (by decide)) ?_
  refine o_store rfl rfl rfl upA (by first | decide | omega | (simp; done) | (simp; omega)) rfl ?_
  refine o_nil ?_
  refine x_then (hK5 _ _ ?_)
  refine c_seq fun _ hK6 => ?_
  refine c_seq fun _ hK7 => ?_
  refine c_region ?_
  refine o_step rfl (s_assign rfl) ?_
  refine o_nil ?_
  refine x_then (hK7 _ _ ?_)
  refine c_block ?_
  -- not carried: 4
  refine c_loop3 (fun (j : Nat) (s : QW) (S : Hp) => j ≤ il.length ∧ BH p fs L g0 z s S ∧ fitsQ (qR fs) (qO p.fail p.err p.dur p.B.xs p.N) qKR qKO (l.drop j) s ∧ flushQ (qR fs) (qO p.fail p.err p.dur p.B.xs p.N) l s0 = flushQ (qR fs) (qO p.fail p.err p.dur p.B.xs p.N) (l.drop j) s) (fun (j : Nat) (s : QW) (S : Hp) => [(6, .int .i64 j)]) [(1, _), (5, _)] (fun (j : Nat) (s : QW) (S : Hp) => SI ++ (Si ++ S)) (fun (j : Nat) (s : QW) (S : Hp) => il.length - j) 0 s0 _ ⟨by omega, h0, hf, rfl⟩ sbA sbA hzB ?_
  rintro j s S ⟨hj, hH, hft, hfq⟩
  refine c_seq fun _ hK8 => ?_
  refine c_seq fun _ hK9 => ?_
  refine c_region ?_
  refine o_step rfl (s_move rfl) ?_
  refine o_step rfl (s_move rfl) ?_
  refine o_step rfl (s_len rfl) ?_
  refine o_step rfl (s_lss rfl rfl) ?_
  refine o_nil ?_
  refine x_then (hK9 _ _ ?_)
  refine c_if rfl (fun hlt => ?_) (fun hlt => ?_)
  ·
   have hcase := ri_at hia (j := j) (by omega)
   rcases hcase with ⟨x, hx, hxf, hdr⟩ | ⟨x, hx, hxf, hdr⟩
   ·
    have hlk := look_len (n := x.n) hP.fb
    refine c_skip ?_
    refine x_then (hK8 _ _ ?_)
    refine c_seq fun _ hK10 => ?_
    refine c_block ?_
    refine c_seq fun _ hK11 => ?_
    refine c_region ?_
    refine o_step rfl (s_assign rfl) ?_
    refine o_nil ?_
    refine x_then (hK11 _ _ ?_)
    refine c_seq fun _ hK12 => ?_
    refine c_seq fun _ hK13 => ?_
    refine c_region ?_
    refine o_step rfl (s_move rfl) ?_
    refine o_step rfl (s_move rfl) ?_
    refine o_step rfl (s_idx rfl rfl hsi (by omega)) ?_
    refine o_step rfl (s_field rfl rfl (by decide)) ?_
    refine o_step rfl (step_cast (v' := .bool true) (s_ld rfl ((hi.rdk hiA).ld j 0 hx rfl (by decide) (by omega))) (by rw [hxf])) ?_
    refine o_nil ?_
    refine x_then (hK13 _ _ ?_)
    refine c_true rfl ?_
    refine c_seq fun _ hK14 => ?_
    refine c_region ?_
    refine o_step rfl (s_move rfl) ?_
    refine o_step rfl (s_move rfl) ?_
    refine o_step rfl (s_move rfl) ?_
    refine o_step rfl (s_idx rfl rfl hsi (by omega)) ?_
    refine o_step rfl (s_field rfl rfl (by decide)) ?_
    refine o_step rfl (s_ld rfl ((hi.rdk hiA).ld j 1 hx rfl (by decide) (by omega))) ?_
    refine o_call (bR_fn p fs L g0 z hP s S x.n hH (fits_fileR hdr hft)) rfl rfl rfl (pkA) (fun w st => OldL.st hw st hiA) (fun v36 S36 ⟨a36, c36, b36, hv36, hr36, hb36, hH36⟩ => ?_)
    subst hv36
    subst hb36
    refine o_step rfl (s_assign rfl) ?_
    refine o_nil ?_
    refine x_then (hK14 _ _ ?_)
    refine c_seq fun _ hK15 => ?_
    refine c_region ?_
    refine o_step rfl (s_move rfl) ?_
    refine o_step rfl (s_move rfl) ?_
    refine o_app (OwnS.nil : OwnS Eb 1 5 (.slice none 0 0) [] []) (hr36.rdk hiA) rfl rfl rfl rfl (by show (0 + (look fs x.n).length) * 1 ≤ _; omega) (by show 0 + (look fs x.n).length ≤ _; omega) rfl (by exact .nil) fun a39 c39 S39 hS39 => ?_
    rw [List.nil_append] at hS39
    rw [List.nil_append]
    refine o_step rfl (s_assign rfl) ?_
    refine o_nil ?_
    refine x_then (hK15 _ _ ?_)
    refine c_seq fun _ hK16 => ?_
    refine c_region ?_
    refine o_step rfl (s_move rfl) ?_
    refine o_step rfl (s_len rfl) ?_
    by_cases hb0 : ((qR fs s x.n).1.length : Int) = 0
    ·
     refine o_step rfl (step_cast (v' := .bool true) (s_eql rfl rfl) (by rw [decide_eq_true hb0])) ?_
     refine o_nil ?_
     refine x_then (hK16 _ _ ?_)
     refine c_true rfl ?_
     refine c_exit ?_
     refine x_then_exit ?_
     refine x_block_exit ?_
     refine x_then (hK10 _ _ ?_)
     refine c_region ?_
     refine o_step rfl (s_move rfl) ?_
     refine o_step rfl (s_add rfl rfl (by omega)) ?_
     refine o_step rfl (s_assign rfl) ?_
     refine o_nil ?_
     exact x_then (x_inv (j + 1, _, _) ⟨by omega, hH36, fits_file0 hdr hb0 hft, by rw [hfq, hdr, flush_file0 hb0]⟩ (by first | omega | (dsimp only; omega)) sbA hzB)
    ·
     refine o_step rfl (step_cast (v' := .bool false) (s_eql rfl rfl) (by rw [decide_eq_false hb0])) ?_
     refine o_nil ?_
     refine x_then (hK16 _ _ ?_)
     refine c_false rfl ?_
     refine c_skip ?_
     refine x_then (hK12 _ _ ?_)
     refine c_seq fun _ hK17 => ?_
     refine c_region ?_
     refine o_step rfl (s_move rfl) ?_
     refine o_step rfl (s_move rfl) ?_
     refine o_call (bO_fn p fs L g0 z hP (qR fs s x.n).2 S36 (qR fs s x.n).1 S39 a39 c39 hH36 hS39 (fits_file hdr hb0 hft).1) rfl rfl rfl ((Pick.takeA pkA pkA)) (fun w st => OldL.st hw st (HIn.app2 hiA hiA)) (fun v55 S55 ⟨hv55, hS55⟩ => ?_)
     subst hv55
     refine o_step rfl (s_assign rfl) ?_
     refine o_nil ?_
     refine x_then (hK17 _ _ ?_)
     refine c_seq fun _ hK18 => ?_
     refine c_region ?_
     refine o_step rfl (s_move rfl) ?_
     refine o_step rfl (s_neq rfl rfl) ?_
     refine o_nil ?_
     refine x_then (hK18 _ _ ?_)
     refine c_if rfl (fun hne => ?_) (fun hne => ?_)
     ·
      refine c_seq fun _ hK19 => ?_
      refine c_region ?_
      refine o_step rfl (s_move rfl) ?_
      refine o_step rfl (s_assign rfl) ?_
      refine o_nil ?_
      refine x_then (hK19 _ _ ?_)
      refine c_ret ?_
      refine x_block_ret (x_then_ret (x_then_ret (x_block_ret (x_then_ret (?_)))))
      refine x_sub (Sub.refl _) (H' := S55) hzB ?_
      exact x_ret rfl (.tmp rfl (.nil)) (⟨by rw [hfq, hdr, flush_file hb0, if_pos hne]; rfl, by rw [hfq, hdr, flush_file hb0, if_pos hne]; exact hS55⟩)
     ·
      refine c_skip ?_
      refine x_block ?_
      refine x_then (hK10 _ _ ?_)
      refine c_region ?_
      refine o_step rfl (s_move rfl) ?_
      refine o_step rfl (s_add rfl rfl (by omega)) ?_
      refine o_step rfl (s_assign rfl) ?_
      refine o_nil ?_
      exact x_then (x_inv (j + 1, _, _) ⟨by omega, hS55, (fits_file hdr hb0 hft).2 (Decidable.not_not.1 hne), by rw [hfq, hdr, flush_file hb0, if_neg hne]⟩ (by first | omega | (dsimp only; omega)) sbA hzB)
   ·
    have hrx := hir x (List.mem_of_getElem? hx)
    have hxl := (fits_text hdr rfl hft).1
    refine c_skip ?_
    refine x_then (hK8 _ _ ?_)
    refine c_seq fun _ hK20 => ?_
    refine c_block ?_
    refine c_seq fun _ hK21 => ?_
    refine c_region ?_
    refine o_step rfl (s_assign rfl) ?_
    refine o_nil ?_
    refine x_then (hK21 _ _ ?_)
    refine c_seq fun _ hK22 => ?_
    refine c_seq fun _ hK23 => ?_
    refine c_region ?_
    refine o_step rfl (s_move rfl) ?_
    refine o_step rfl (s_move rfl) ?_
    refine o_step rfl (s_idx rfl rfl hsi (by omega)) ?_
    refine o_step rfl (s_field rfl rfl (by decide)) ?_
    refine o_step rfl (step_cast (v' := .bool false) (s_ld rfl ((hi.rdk hiA).ld j 0 hx rfl (by decide) (by omega))) (by rw [hxf])) ?_
    refine o_nil ?_
    refine x_then (hK23 _ _ ?_)
    refine c_false rfl ?_
    refine c_seq fun _ hK24 => ?_
    refine c_region ?_
    refine o_step rfl (s_move rfl) ?_
    refine o_step rfl (s_move rfl) ?_
    refine o_step rfl (s_move rfl) ?_
    refine o_step rfl (s_idx rfl rfl hsi (by omega)) ?_
    refine o_step rfl (s_field rfl rfl (by decide)) ?_
    refine o_step rfl (s_ld rfl ((hi.rdk hiA).ld j 2 hx rfl (by decide) (by omega))) ?_
    refine o_app (OwnS.nil : OwnS Eb 1 5 (.slice none 0 0) [] []) (hrx.rdk hiA) rfl rfl rfl rfl (by show (0 + x.t.xs.length) * 1 ≤ _; omega) (by show 0 + x.t.xs.length ≤ _; omega) rfl (by exact .nil) fun a49 c49 S49 hS49 => ?_
    rw [List.nil_append] at hS49
    rw [List.nil_append]
    refine o_step rfl (s_assign rfl) ?_
    refine o_nil ?_
    refine x_then (hK24 _ _ ?_)
    refine c_region ?_
    refine o_step rfl (s_move rfl) ?_
    refine o_bs (E := Eb) (xs := [10]) (vs := [_]) rfl rfl rfl rfl rfl (by decide) (by decide) fun b51 S51 hS51 => ?_
    refine o_app hS49 (hS51.rdk hiA) rfl rfl rfl rfl (by show (x.t.xs.length + 1) * 1 ≤ _; omega) (by show x.t.xs.length + 1 ≤ _; omega) rfl pkA fun a52 c52 S52 hS52 => ?_
    refine o_step rfl (s_assign rfl) ?_
    refine o_nil ?_
    refine x_then (hK22 _ _ ?_)
    refine c_seq fun _ hK25 => ?_
    refine c_region ?_
    refine o_step rfl (s_move rfl) ?_
    refine o_step rfl (s_move rfl) ?_
    refine o_call (bO_fn p fs L g0 z hP s S (x.t.xs ++ [10]) S52 a52 c52 hH hS52 (fits_text hdr rfl hft).2.1) rfl rfl rfl ((Pick.takeA pkA pkA)) (fun w st => OldL.st hw st (HIn.app2 hiA hiA)) (fun v55 S55 ⟨hv55, hS55⟩ => ?_)
    subst hv55
    refine o_step rfl (s_assign rfl) ?_
    refine o_nil ?_
    refine x_then (hK25 _ _ ?_)
    refine c_seq fun _ hK26 => ?_
    refine c_region ?_
    refine o_step rfl (s_move rfl) ?_
    refine o_step rfl (s_neq rfl rfl) ?_
    refine o_nil ?_
    refine x_then (hK26 _ _ ?_)
    refine c_if rfl (fun hne => ?_) (fun hne => ?_)
    ·
     refine c_seq fun _ hK27 => ?_
     refine c_region ?_
     refine o_step rfl (s_move rfl) ?_
     refine o_step rfl (s_assign rfl) ?_
     refine o_nil ?_
     refine x_then (hK27 _ _ ?_)
     refine c_ret ?_
     refine x_block_ret (x_then_ret (x_then_ret (x_block_ret (x_then_ret (?_)))))
     refine x_sub (Sub.refl _) (H' := S55) hzB ?_
     exact x_ret rfl (.tmp rfl (.nil)) (⟨by rw [hfq, hdr, flush_text, if_pos hne]; rfl, by rw [hfq, hdr, flush_text, if_pos hne]; exact hS55⟩)
    ·
     refine c_skip ?_
     refine x_block ?_
     refine x_then (hK20 _ _ ?_)
     refine c_region ?_
     refine o_step rfl (s_move rfl) ?_
     refine o_step rfl (s_add rfl rfl (by omega)) ?_
     refine o_step rfl (s_assign rfl) ?_
     refine o_nil ?_
     exact x_then (x_inv (j + 1, _, _) ⟨by omega, hS55, (fits_text hdr rfl hft).2.2 (Decidable.not_not.1 hne), by rw [hfq, hdr, flush_text, if_neg hne]⟩ (by first | omega | (dsimp only; omega)) sbA hzB)
  ·
   have hd0 : l.drop j = [] := List.drop_eq_nil_of_le (by omega)
   refine c_exit ?_
   refine x_then_exit ?_
   refine x_then_exit ?_
   refine x_block_exit ?_
   refine x_then (hK6 _ _ ?_)
   refine c_seq fun _ hK28 => ?_
   refine c_region ?_
   refine o_step rfl (s_assign rfl) ?_
   refine o_nil ?_
   refine x_then (hK28 _ _ ?_)
   refine c_ret ?_
   refine ?_
   refine x_sub (Sub.refl _) (H' := S) hzB ?_
   exact x_ret rfl (.tmp rfl (.nil)) (⟨by rw [hfq, hd0]; rfl, by rw [hfq, hd0]; exact hH⟩)
end Go.Proofs.YtmmajabfmhipeaaDoor
