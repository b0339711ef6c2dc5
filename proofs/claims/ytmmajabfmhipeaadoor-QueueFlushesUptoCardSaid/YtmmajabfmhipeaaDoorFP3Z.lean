/- A pair of queues, and a step of a script on both. Conditions: none. -/
import Derived.Test.YtmmajabfmhipeaaDoorFA3Z
import Derived.Test.YtmmajabfmhipeaaDoorFW30
namespace Go.Proofs.YtmmajabfmhipeaaDoor
open Go Go.HL Go.Proofs Go.Tab
set_option maxHeartbeats 2000000
/-- a pair of queues, behind n steps of a script: how much waits, went out, was called -/
structure PI (L : List (Sl UInt8)) (n : Nat) (p : AP) (fs : List FileV) (g0 z : Nat) (s : QW) : Prop where
  fb : ∀ f ∈ fs, f.b.xs.length ≤ 1048576
  fL : ∀ f ∈ fs, f.b ∈ L
  BL : p.B ∈ L
  B : p.B.xs.length ≤ 1048576
  fn : fs.length ≤ n
  qt : ∀ b, QI.text b ∈ s.q → b.length ≤ 1048576
  g : g0 + s.outs + s.q.length ≤ 3 * n
  z : z + s.calls.length + 2 * s.q.length ≤ 6 * n
def PairH (L : List (Sl UInt8)) (bp n : Nat) (S : Hp) : Prop := ∃ (p : AP) (br bw : Nat) (fs : List FileV) (g0 z : Nat) (s : QW) (d : AD) (e : BD), S.Perm ((bp, .cells [.pointer (some ⟨p.bq, 0, none⟩), .pointer (some ⟨br, 0, none⟩), .pointer (some ⟨p.bs, 0, none⟩), .pointer (some ⟨bw, 0, none⟩)].toArray 33 (0, 0)) :: (d.heap p fs (s.outs : Nat) ++ e.heap (⟨bw, br, p.fail, p.err, p.dur, p.B, p.N⟩ : AP) fs (s.outs : Nat))) ∧ PI L n p fs g0 z s ∧ d.Ok p fs L g0 z s ∧ e.Ok (⟨bw, br, p.fail, p.err, p.dur, p.B, p.N⟩ : AP) fs L g0 z s
theorem PI.mono {L : List (Sl UInt8)} {n : Nat} {p : AP} {fs : List FileV} {g0 z : Nat} {s : QW} (h : PI L n p fs g0 z s) : PI L (n + 1) p fs g0 z s := ⟨h.fb, h.fL, h.BL, h.B, by have := h.fn; omega, h.qt, by have := h.g; omega, by have := h.z; omega⟩
theorem PairH.mono {L : List (Sl UInt8)} {bp n : Nat} {S : Hp} (h : PairH L bp n S) : PairH L bp (n + 1) S := by
  obtain ⟨p, br, bw, fs, g0, z, s, d, e, hp, hI, h1, h2⟩ := h
  exact ⟨p, br, bw, fs, g0, z, s, d, e, hp, hI.mono, h1, h2⟩
theorem PI.push {L : List (Sl UInt8)} {n : Nat} {p : AP} {fs : List FileV} {g0 z : Nat} {s : QW} {q : QI} (h : PI L n p fs g0 z s) (hq : ∀ b, QI.text b = q → b.length ≤ 1048576) : PI L (n + 1) p fs g0 z { s with q := s.q ++ [q] } :=
  ⟨h.fb, h.fL, h.BL, h.B, by have := h.fn; omega, fun b hb => (List.mem_append.1 hb).elim (h.qt b) (fun e => hq b (List.mem_singleton.1 e)), by have := h.g; simp only [List.length_append, List.length_singleton]; omega, by have := h.z; simp only [List.length_append, List.length_singleton]; omega⟩
theorem AD.Ok.setQ {d : AD} {p : AP} {fs : List FileV} {L : List (Sl UInt8)} {g0 z : Nat} {s : QW} (ok : d.Ok p fs L g0 z s) {qa : Option Addr} {qc : Nat} {ql : List IV} {So Si : Hp} {q : List QI} (hq : OwnS Eiv 1 135 (.slice qa ql.length qc) ql So) (hqi : Items ql q Si) : ({ d with qa := qa, qc := qc, ql := ql, So := So, Si := Si } : AD).Ok p fs L g0 z { s with q := q } :=
  ⟨ok.hf, ok.hsum, ok.ha, ok.hal, ok.hc, ok.hci, ok.hg, ok.hgo, ok.hgl, ok.hgb, ok.hl, ok.hlo, ok.hll, ok.hlb, ok.hw, ok.hwx, ok.hwL, ok.hs, ok.hsx, ok.hsr, hq, hqi⟩
theorem BD.Ok.setQ {e : BD} {p : AP} {fs : List FileV} {L : List (Sl UInt8)} {g0 z : Nat} {s : QW} (ok : e.Ok p fs L g0 z s) {ia : Option Addr} {ic : Nat} {il : List RI} {SI St : Hp} {q : List QI} (hi : OwnS Eri 3 131 (.slice ia il.length ic) il SI) (hia : il.map RI.abs = q) (hir : ∀ x ∈ il, RdS Eb x.t.v x.t.xs (e.Sx ++ St)) : ({ e with ia := ia, ic := ic, il := il, SI := SI, Sx := e.Sx ++ St } : BD).Ok p fs L g0 z { s with q := q } :=
  ⟨ok.hf, ok.hsum, ok.ha, ok.hal, ok.hc, ok.hci.mono HIn.appL, ok.hg, ok.hgl, ok.hl, ok.hll, ok.hw, ok.hwl, hi, hia, hir⟩
theorem AD.Ok.setF {d : AD} {p : AP} {fs fs' : List FileV} {L : List (Sl UInt8)} {g0 z : Nat} {s : QW} (ok : d.Ok p fs L g0 z s) {fa : Option Addr} {fc : Nat} {Sf : Hp} (hf : OwnS Efile 3 115 (.slice fa fs'.length fc) fs' Sf) : ({ d with fa := fa, fc := fc, Sf := Sf } : AD).Ok p fs' L g0 z s :=
  ⟨hf, ok.hsum, ok.ha, ok.hal, ok.hc, ok.hci, ok.hg, ok.hgo, ok.hgl, ok.hgb, ok.hl, ok.hlo, ok.hll, ok.hlb, ok.hw, ok.hwx, ok.hwL, ok.hs, ok.hsx, ok.hsr, ok.hq, ok.hqi⟩
theorem BD.Ok.setF {e : BD} {p : AP} {fs fs' : List FileV} {L : List (Sl UInt8)} {g0 z : Nat} {s : QW} (ok : e.Ok p fs L g0 z s) {fa : Option Addr} {fc : Nat} {Sf : Hp} (hf : OwnS Efile 3 115 (.slice fa fs'.length fc) fs' Sf) : ({ e with fa := fa, fc := fc, Sf := Sf } : BD).Ok p fs' L g0 z s :=
  ⟨hf, ok.hsum, ok.ha, ok.hal, ok.hc, ok.hci, ok.hg, ok.hgl, ok.hl, ok.hll, ok.hw, ok.hwl, ok.hi, ok.hia, ok.hir⟩
theorem AD.Ok.start {d : AD} {p p' : AP} {fs : List FileV} {L : List (Sl UInt8)} {g0 z : Nat} {s : QW} (ok : d.Ok p fs L g0 z s) : ({ d with qa := none, qc := 0, ql := [], So := [], Si := [], ca := none, cc := 0, cl := [], Sc := [], Sx := d.Sx ++ d.Sc } : AD).Ok p' fs L (g0 + s.outs) (z + s.calls.length) ⟨[], 0, []⟩ :=
  ⟨ok.hf, by have := ok.hsum; simp only [List.length_nil]; omega, ok.ha, ok.hal, .nil, .nil, ok.hg, ok.hgo, ok.hgl, ok.hgb, ok.hl, ok.hlo, ok.hll, ok.hlb, ok.hw, ok.hwx, ok.hwL, ok.hs, ok.hsx, fun x hx => (ok.hsr x hx).mono HIn.appL, .nil, ⟨rfl, fun _ _ h => by simp at h⟩⟩
theorem BD.Ok.start {e : BD} {p p' : AP} {fs : List FileV} {L : List (Sl UInt8)} {g0 z : Nat} {s : QW} (ok : e.Ok p fs L g0 z s) : ({ e with ia := none, ic := 0, il := [], SI := [], ca := none, cc := 0, cl := [], Sc := [], Sx := e.Sc } : BD).Ok p' fs L (g0 + s.outs) (z + s.calls.length) ⟨[], 0, []⟩ :=
  ⟨ok.hf, by have := ok.hsum; simp only [List.length_nil]; omega, ok.ha, ok.hal, .nil, .nil, ok.hg, ok.hgl, ok.hl, ok.hll, ok.hw, ok.hwl, .nil, rfl, fun _ h => by cases h⟩
theorem does_fn (L : List (Sl UInt8)) (bp n : Nat) (S : Hp) (o : OpQ) (h : PairH L bp n S) (hoL : o.b ∈ L) (hob : o.b.xs.length ≤ 1048576) (hn : n ≤ 1048600) : HL.Fn Tryd.prog 9 [.pointer (some ⟨bp, 0, none⟩), .agg (Eopq o).toArray] (OldL L S) S (fun v S' => v = .bool true ∧ PairH L bp (n + 1) S') := by
  obtain ⟨p, br, bw, fs, g0, z, s, d, e, hS, hI, okd, oke⟩ := h
  have hg := hI.g
  have hz := hI.z
  have hfn := hI.fn
  have hql := okd.hqi.len
  have hil : e.il.length = s.q.length := by have := congrArg List.length oke.hia; simpa using this
  by_cases h0 : o.k = 0
  · have h1 := (does0_fn bp p.bq br p.bs bw d.qa d.qc d.ql d.So okd.hq (by omega) e.ia e.ic e.il e.SI oke.hi (by omega) o h0 hob).frame (R := (p.bs, .cells [.slice none 0 0, .pointer none, .pointer none, .pointer none, .slice d.fa fs.length d.fc, .int .i64 p.fail, .int .i64 p.err, .int .i64 0, .int .i64 0, .pointer none, .slice none 0 0, .string ⟨#[]⟩, .bool false, .bool false, .bool false, .bool false, .int .i64 0, .int .i64 (s.outs : Nat), .int .i64 d.sum, .slice d.aa d.al.length d.ac, .string ⟨#[]⟩, .slice d.ca d.cl.length d.cc, .slice d.ga d.gl.length d.gc, .slice d.la d.ll.length d.lc, .slice d.wa d.wl.length d.wc, .pointer (some ⟨p.bq, 0, none⟩), .int .i64 p.dur, .slice p.B.a p.B.xs.length p.B.c, .string p.N, .slice d.sa d.sl.length d.sc].toArray 45 (0, 0)) :: (bw, .cells [.slice none 0 0, .pointer none, .pointer none, .pointer none, .slice e.fa fs.length e.fc, .int .i64 p.fail, .int .i64 p.err, .int .i64 0, .int .i64 p.dur, .pointer (some ⟨br, 0, none⟩), .slice p.B.a p.B.xs.length p.B.c, .string p.N, .bool false, .bool false, .bool false, .bool false, .int .i64 0, .int .i64 (s.outs : Nat), .int .i64 e.sum, .slice e.aa e.al.length e.ac, .string ⟨#[]⟩, .slice e.ca e.cl.length e.cc, .slice e.ga e.gl.length e.gc, .slice e.la e.ll.length e.lc, .slice e.wa e.wl.length e.wc].toArray 43 (0, 0)) :: (d.Sf ++ (d.Sa ++ (d.Sc ++ (d.Sg ++ (d.SG ++ (d.Sn ++ (d.SL ++ (d.Sw ++ (d.Ss ++ (d.Si ++ (d.Sx ++ (e.Sf ++ (e.Sa ++ (e.Sc ++ (e.Sg ++ (e.Sn ++ (e.Sw ++ (e.Sx)))))))))))))))))))
    have hpm : (((bp, .cells [.pointer (some ⟨p.bq, 0, none⟩), .pointer (some ⟨br, 0, none⟩), .pointer (some ⟨p.bs, 0, none⟩), .pointer (some ⟨bw, 0, none⟩)].toArray 33 (0, 0)) :: (p.bq, .cells [.bool true, .slice d.qa d.ql.length d.qc].toArray 109 (0, 0)) :: (br, .cells [.slice e.ia e.il.length e.ic].toArray 112 (0, 0)) :: (d.So ++ e.SI)) ++ ((p.bs, .cells [.slice none 0 0, .pointer none, .pointer none, .pointer none, .slice d.fa fs.length d.fc, .int .i64 p.fail, .int .i64 p.err, .int .i64 0, .int .i64 0, .pointer none, .slice none 0 0, .string ⟨#[]⟩, .bool false, .bool false, .bool false, .bool false, .int .i64 0, .int .i64 (s.outs : Nat), .int .i64 d.sum, .slice d.aa d.al.length d.ac, .string ⟨#[]⟩, .slice d.ca d.cl.length d.cc, .slice d.ga d.gl.length d.gc, .slice d.la d.ll.length d.lc, .slice d.wa d.wl.length d.wc, .pointer (some ⟨p.bq, 0, none⟩), .int .i64 p.dur, .slice p.B.a p.B.xs.length p.B.c, .string p.N, .slice d.sa d.sl.length d.sc].toArray 45 (0, 0)) :: (bw, .cells [.slice none 0 0, .pointer none, .pointer none, .pointer none, .slice e.fa fs.length e.fc, .int .i64 p.fail, .int .i64 p.err, .int .i64 0, .int .i64 p.dur, .pointer (some ⟨br, 0, none⟩), .slice p.B.a p.B.xs.length p.B.c, .string p.N, .bool false, .bool false, .bool false, .bool false, .int .i64 0, .int .i64 (s.outs : Nat), .int .i64 e.sum, .slice e.aa e.al.length e.ac, .string ⟨#[]⟩, .slice e.ca e.cl.length e.cc, .slice e.ga e.gl.length e.gc, .slice e.la e.ll.length e.lc, .slice e.wa e.wl.length e.wc].toArray 43 (0, 0)) :: (d.Sf ++ (d.Sa ++ (d.Sc ++ (d.Sg ++ (d.SG ++ (d.Sn ++ (d.SL ++ (d.Sw ++ (d.Ss ++ (d.Si ++ (d.Sx ++ (e.Sf ++ (e.Sa ++ (e.Sc ++ (e.Sg ++ (e.Sn ++ (e.Sw ++ (e.Sx)))))))))))))))))))).Perm S := List.Perm.trans (by classical exact List.perm_iff_count.2 fun x => by simp only [AD.heap, AD.rest, BD.heap, BD.rest, List.count_append, List.count_cons, List.cons_append, List.nil_append, List.count_nil]; omega) hS.symm
    have h2 := h1.has (pre' := OldL L S) (fun w h hS => (OldL.sub h (fun x hx => hpm.mem_iff.1 (List.mem_append_left _ hx))) _ hoL)
    refine (h2.perm hpm).weaken (fun _ h => h) fun v S' hv => ?_
    obtain ⟨S1, rfl, rfl, qa', qc', a', c', So', Sx, ia', ic', a2, c2, SI', St, rfl, hq', hx', hi', ht'⟩ := hv
    refine ⟨rfl, p, br, bw, fs, g0, z, _, _, _, ?_, hI.push (q := .text o.b.xs) (fun b e => by cases e; exact hob), okd.setQ hq' (okd.hqi.text hx'), oke.setQ (St := St) (q := s.q ++ [.text o.b.xs]) hi' (by rw [List.map_append, oke.hia]; rfl) (fun x hx => (List.mem_append.1 hx).elim (fun h => (oke.hir x h).mono HIn.appL) (fun e => by rw [List.mem_singleton.1 e]; exact ht'.rds.mono HIn.appR))⟩
    classical exact List.perm_iff_count.2 fun x => by simp only [AD.heap, AD.rest, BD.heap, BD.rest, List.count_append, List.count_cons, List.cons_append, List.nil_append, List.count_nil]; omega
  by_cases h1k : o.k = 1
  · have h1 := (does1_fn bp p.bq br p.bs bw d.qa d.qc d.ql d.So okd.hq (by omega) e.ia e.ic e.il e.SI oke.hi (by omega) o h1k).frame (R := (p.bs, .cells [.slice none 0 0, .pointer none, .pointer none, .pointer none, .slice d.fa fs.length d.fc, .int .i64 p.fail, .int .i64 p.err, .int .i64 0, .int .i64 0, .pointer none, .slice none 0 0, .string ⟨#[]⟩, .bool false, .bool false, .bool false, .bool false, .int .i64 0, .int .i64 (s.outs : Nat), .int .i64 d.sum, .slice d.aa d.al.length d.ac, .string ⟨#[]⟩, .slice d.ca d.cl.length d.cc, .slice d.ga d.gl.length d.gc, .slice d.la d.ll.length d.lc, .slice d.wa d.wl.length d.wc, .pointer (some ⟨p.bq, 0, none⟩), .int .i64 p.dur, .slice p.B.a p.B.xs.length p.B.c, .string p.N, .slice d.sa d.sl.length d.sc].toArray 45 (0, 0)) :: (bw, .cells [.slice none 0 0, .pointer none, .pointer none, .pointer none, .slice e.fa fs.length e.fc, .int .i64 p.fail, .int .i64 p.err, .int .i64 0, .int .i64 p.dur, .pointer (some ⟨br, 0, none⟩), .slice p.B.a p.B.xs.length p.B.c, .string p.N, .bool false, .bool false, .bool false, .bool false, .int .i64 0, .int .i64 (s.outs : Nat), .int .i64 e.sum, .slice e.aa e.al.length e.ac, .string ⟨#[]⟩, .slice e.ca e.cl.length e.cc, .slice e.ga e.gl.length e.gc, .slice e.la e.ll.length e.lc, .slice e.wa e.wl.length e.wc].toArray 43 (0, 0)) :: (d.Sf ++ (d.Sa ++ (d.Sc ++ (d.Sg ++ (d.SG ++ (d.Sn ++ (d.SL ++ (d.Sw ++ (d.Ss ++ (d.Si ++ (d.Sx ++ (e.Sf ++ (e.Sa ++ (e.Sc ++ (e.Sg ++ (e.Sn ++ (e.Sw ++ (e.Sx)))))))))))))))))))
    have hpm : (((bp, .cells [.pointer (some ⟨p.bq, 0, none⟩), .pointer (some ⟨br, 0, none⟩), .pointer (some ⟨p.bs, 0, none⟩), .pointer (some ⟨bw, 0, none⟩)].toArray 33 (0, 0)) :: (p.bq, .cells [.bool true, .slice d.qa d.ql.length d.qc].toArray 109 (0, 0)) :: (br, .cells [.slice e.ia e.il.length e.ic].toArray 112 (0, 0)) :: (d.So ++ e.SI)) ++ ((p.bs, .cells [.slice none 0 0, .pointer none, .pointer none, .pointer none, .slice d.fa fs.length d.fc, .int .i64 p.fail, .int .i64 p.err, .int .i64 0, .int .i64 0, .pointer none, .slice none 0 0, .string ⟨#[]⟩, .bool false, .bool false, .bool false, .bool false, .int .i64 0, .int .i64 (s.outs : Nat), .int .i64 d.sum, .slice d.aa d.al.length d.ac, .string ⟨#[]⟩, .slice d.ca d.cl.length d.cc, .slice d.ga d.gl.length d.gc, .slice d.la d.ll.length d.lc, .slice d.wa d.wl.length d.wc, .pointer (some ⟨p.bq, 0, none⟩), .int .i64 p.dur, .slice p.B.a p.B.xs.length p.B.c, .string p.N, .slice d.sa d.sl.length d.sc].toArray 45 (0, 0)) :: (bw, .cells [.slice none 0 0, .pointer none, .pointer none, .pointer none, .slice e.fa fs.length e.fc, .int .i64 p.fail, .int .i64 p.err, .int .i64 0, .int .i64 p.dur, .pointer (some ⟨br, 0, none⟩), .slice p.B.a p.B.xs.length p.B.c, .string p.N, .bool false, .bool false, .bool false, .bool false, .int .i64 0, .int .i64 (s.outs : Nat), .int .i64 e.sum, .slice e.aa e.al.length e.ac, .string ⟨#[]⟩, .slice e.ca e.cl.length e.cc, .slice e.ga e.gl.length e.gc, .slice e.la e.ll.length e.lc, .slice e.wa e.wl.length e.wc].toArray 43 (0, 0)) :: (d.Sf ++ (d.Sa ++ (d.Sc ++ (d.Sg ++ (d.SG ++ (d.Sn ++ (d.SL ++ (d.Sw ++ (d.Ss ++ (d.Si ++ (d.Sx ++ (e.Sf ++ (e.Sa ++ (e.Sc ++ (e.Sg ++ (e.Sn ++ (e.Sw ++ (e.Sx)))))))))))))))))))).Perm S := List.Perm.trans (by classical exact List.perm_iff_count.2 fun x => by simp only [AD.heap, AD.rest, BD.heap, BD.rest, List.count_append, List.count_cons, List.cons_append, List.nil_append, List.count_nil]; omega) hS.symm
    refine (h1.perm hpm).weaken (fun _ _ => trivial) fun v S' hv => ?_
    obtain ⟨S1, rfl, rfl, qa', qc', So', ia', ic', SI', rfl, hq', hi'⟩ := hv
    refine ⟨rfl, p, br, bw, fs, g0, z, _, _, _, ?_, hI.push (q := .file o.n) (fun b e => by cases e), okd.setQ hq' okd.hqi.file, oke.setQ (St := []) (q := s.q ++ [.file o.n]) hi' (by rw [List.map_append, oke.hia]; rfl) (fun x hx => (List.mem_append.1 hx).elim (fun h => (oke.hir x h).mono HIn.appL) (fun e => by rw [List.mem_singleton.1 e]; exact (RdS.nil : RdS Eb (.slice none 0 0) [] []).mono fun q hq => by cases hq))⟩
    classical exact List.perm_iff_count.2 fun x => by simp only [AD.heap, AD.rest, BD.heap, BD.rest, List.count_append, List.count_cons, List.cons_append, List.nil_append, List.count_nil]; omega
  by_cases h2k : o.k = 2
  · have h1 := (does2_fn bp p.bq br p.bs bw d.qa e.ia d.qc e.ic d.ql e.il (by omega) o h2k).frame (R := (p.bs, .cells [.slice none 0 0, .pointer none, .pointer none, .pointer none, .slice d.fa fs.length d.fc, .int .i64 p.fail, .int .i64 p.err, .int .i64 0, .int .i64 0, .pointer none, .slice none 0 0, .string ⟨#[]⟩, .bool false, .bool false, .bool false, .bool false, .int .i64 0, .int .i64 (s.outs : Nat), .int .i64 d.sum, .slice d.aa d.al.length d.ac, .string ⟨#[]⟩, .slice d.ca d.cl.length d.cc, .slice d.ga d.gl.length d.gc, .slice d.la d.ll.length d.lc, .slice d.wa d.wl.length d.wc, .pointer (some ⟨p.bq, 0, none⟩), .int .i64 p.dur, .slice p.B.a p.B.xs.length p.B.c, .string p.N, .slice d.sa d.sl.length d.sc].toArray 45 (0, 0)) :: (bw, .cells [.slice none 0 0, .pointer none, .pointer none, .pointer none, .slice e.fa fs.length e.fc, .int .i64 p.fail, .int .i64 p.err, .int .i64 0, .int .i64 p.dur, .pointer (some ⟨br, 0, none⟩), .slice p.B.a p.B.xs.length p.B.c, .string p.N, .bool false, .bool false, .bool false, .bool false, .int .i64 0, .int .i64 (s.outs : Nat), .int .i64 e.sum, .slice e.aa e.al.length e.ac, .string ⟨#[]⟩, .slice e.ca e.cl.length e.cc, .slice e.ga e.gl.length e.gc, .slice e.la e.ll.length e.lc, .slice e.wa e.wl.length e.wc].toArray 43 (0, 0)) :: (d.Sf ++ (d.Sa ++ (d.Sc ++ (d.Sg ++ (d.SG ++ (d.Sn ++ (d.SL ++ (d.Sw ++ (d.Ss ++ (d.So ++ (d.Si ++ (d.Sx ++ (e.Sf ++ (e.Sa ++ (e.Sc ++ (e.Sg ++ (e.Sn ++ (e.Sw ++ (e.SI ++ (e.Sx)))))))))))))))))))))
    have hpm : (([(bp, .cells [.pointer (some ⟨p.bq, 0, none⟩), .pointer (some ⟨br, 0, none⟩), .pointer (some ⟨p.bs, 0, none⟩), .pointer (some ⟨bw, 0, none⟩)].toArray 33 (0, 0)), (p.bq, .cells [.bool true, .slice d.qa d.ql.length d.qc].toArray 109 (0, 0)), (br, .cells [.slice e.ia e.il.length e.ic].toArray 112 (0, 0))] : Hp) ++ ((p.bs, .cells [.slice none 0 0, .pointer none, .pointer none, .pointer none, .slice d.fa fs.length d.fc, .int .i64 p.fail, .int .i64 p.err, .int .i64 0, .int .i64 0, .pointer none, .slice none 0 0, .string ⟨#[]⟩, .bool false, .bool false, .bool false, .bool false, .int .i64 0, .int .i64 (s.outs : Nat), .int .i64 d.sum, .slice d.aa d.al.length d.ac, .string ⟨#[]⟩, .slice d.ca d.cl.length d.cc, .slice d.ga d.gl.length d.gc, .slice d.la d.ll.length d.lc, .slice d.wa d.wl.length d.wc, .pointer (some ⟨p.bq, 0, none⟩), .int .i64 p.dur, .slice p.B.a p.B.xs.length p.B.c, .string p.N, .slice d.sa d.sl.length d.sc].toArray 45 (0, 0)) :: (bw, .cells [.slice none 0 0, .pointer none, .pointer none, .pointer none, .slice e.fa fs.length e.fc, .int .i64 p.fail, .int .i64 p.err, .int .i64 0, .int .i64 p.dur, .pointer (some ⟨br, 0, none⟩), .slice p.B.a p.B.xs.length p.B.c, .string p.N, .bool false, .bool false, .bool false, .bool false, .int .i64 0, .int .i64 (s.outs : Nat), .int .i64 e.sum, .slice e.aa e.al.length e.ac, .string ⟨#[]⟩, .slice e.ca e.cl.length e.cc, .slice e.ga e.gl.length e.gc, .slice e.la e.ll.length e.lc, .slice e.wa e.wl.length e.wc].toArray 43 (0, 0)) :: (d.Sf ++ (d.Sa ++ (d.Sc ++ (d.Sg ++ (d.SG ++ (d.Sn ++ (d.SL ++ (d.Sw ++ (d.Ss ++ (d.So ++ (d.Si ++ (d.Sx ++ (e.Sf ++ (e.Sa ++ (e.Sc ++ (e.Sg ++ (e.Sn ++ (e.Sw ++ (e.SI ++ (e.Sx)))))))))))))))))))))).Perm S := List.Perm.trans (by classical exact List.perm_iff_count.2 fun x => by simp only [AD.heap, AD.rest, BD.heap, BD.rest, List.count_append, List.count_cons, List.cons_append, List.nil_append, List.count_nil]; omega) hS.symm
    refine (h1.perm hpm).weaken (fun _ _ => trivial) fun v S' hv => ?_
    obtain ⟨S1, rfl, rfl, rfl⟩ := hv
    refine ⟨rfl, p, br, bw, fs, g0, z, s, d, e, ?_, hI.mono, okd, oke⟩
    exact (by classical exact List.perm_iff_count.2 fun x => by simp only [AD.heap, AD.rest, BD.heap, BD.rest, List.count_append, List.count_cons, List.cons_append, List.nil_append, List.count_nil]; omega)
  by_cases h4k : o.k = 4
  · have h1 := (does4_fn bp p.bq br p.bs bw d.fa e.fa d.fc e.fc fs d.Sf e.Sf okd.hf oke.hf (by omega) (.slice none 0 0) (.pointer none) (.pointer none) (.pointer none) (.int .i64 p.fail) (.int .i64 p.err) (.int .i64 0) (.int .i64 0) (.pointer none) (.slice none 0 0) (.string ⟨#[]⟩) (.bool false) (.bool false) (.bool false) (.bool false) (.int .i64 0) (.int .i64 (s.outs : Nat)) (.int .i64 d.sum) (.slice d.aa d.al.length d.ac) (.string ⟨#[]⟩) (.slice d.ca d.cl.length d.cc) (.slice d.ga d.gl.length d.gc) (.slice d.la d.ll.length d.lc) (.slice d.wa d.wl.length d.wc) (.pointer (some ⟨p.bq, 0, none⟩)) (.int .i64 p.dur) (.slice p.B.a p.B.xs.length p.B.c) (.string p.N) (.slice d.sa d.sl.length d.sc) (.slice none 0 0) (.pointer none) (.pointer none) (.pointer none) (.int .i64 p.fail) (.int .i64 p.err) (.int .i64 0) (.int .i64 p.dur) (.pointer (some ⟨br, 0, none⟩)) (.slice p.B.a p.B.xs.length p.B.c) (.string p.N) (.bool false) (.bool false) (.bool false) (.bool false) (.int .i64 0) (.int .i64 (s.outs : Nat)) (.int .i64 e.sum) (.slice e.aa e.al.length e.ac) (.string ⟨#[]⟩) (.slice e.ca e.cl.length e.cc) (.slice e.ga e.gl.length e.gc) (.slice e.la e.ll.length e.lc) (.slice e.wa e.wl.length e.wc) o h4k).frame (R := (p.bq, .cells [.bool true, .slice d.qa d.ql.length d.qc].toArray 109 (0, 0)) :: (br, .cells [.slice e.ia e.il.length e.ic].toArray 112 (0, 0)) :: (d.Sa ++ (d.Sc ++ (d.Sg ++ (d.SG ++ (d.Sn ++ (d.SL ++ (d.Sw ++ (d.Ss ++ (d.So ++ (d.Si ++ (d.Sx ++ (e.Sa ++ (e.Sc ++ (e.Sg ++ (e.Sn ++ (e.Sw ++ (e.SI ++ (e.Sx)))))))))))))))))))
    have hpm : (((bp, .cells [.pointer (some ⟨p.bq, 0, none⟩), .pointer (some ⟨br, 0, none⟩), .pointer (some ⟨p.bs, 0, none⟩), .pointer (some ⟨bw, 0, none⟩)].toArray 33 (0, 0)) :: (p.bs, .cells [.slice none 0 0, .pointer none, .pointer none, .pointer none, .slice d.fa fs.length d.fc, .int .i64 p.fail, .int .i64 p.err, .int .i64 0, .int .i64 0, .pointer none, .slice none 0 0, .string ⟨#[]⟩, .bool false, .bool false, .bool false, .bool false, .int .i64 0, .int .i64 (s.outs : Nat), .int .i64 d.sum, .slice d.aa d.al.length d.ac, .string ⟨#[]⟩, .slice d.ca d.cl.length d.cc, .slice d.ga d.gl.length d.gc, .slice d.la d.ll.length d.lc, .slice d.wa d.wl.length d.wc, .pointer (some ⟨p.bq, 0, none⟩), .int .i64 p.dur, .slice p.B.a p.B.xs.length p.B.c, .string p.N, .slice d.sa d.sl.length d.sc].toArray 45 (0, 0)) :: (bw, .cells [.slice none 0 0, .pointer none, .pointer none, .pointer none, .slice e.fa fs.length e.fc, .int .i64 p.fail, .int .i64 p.err, .int .i64 0, .int .i64 p.dur, .pointer (some ⟨br, 0, none⟩), .slice p.B.a p.B.xs.length p.B.c, .string p.N, .bool false, .bool false, .bool false, .bool false, .int .i64 0, .int .i64 (s.outs : Nat), .int .i64 e.sum, .slice e.aa e.al.length e.ac, .string ⟨#[]⟩, .slice e.ca e.cl.length e.cc, .slice e.ga e.gl.length e.gc, .slice e.la e.ll.length e.lc, .slice e.wa e.wl.length e.wc].toArray 43 (0, 0)) :: (d.Sf ++ e.Sf)) ++ ((p.bq, .cells [.bool true, .slice d.qa d.ql.length d.qc].toArray 109 (0, 0)) :: (br, .cells [.slice e.ia e.il.length e.ic].toArray 112 (0, 0)) :: (d.Sa ++ (d.Sc ++ (d.Sg ++ (d.SG ++ (d.Sn ++ (d.SL ++ (d.Sw ++ (d.Ss ++ (d.So ++ (d.Si ++ (d.Sx ++ (e.Sa ++ (e.Sc ++ (e.Sg ++ (e.Sn ++ (e.Sw ++ (e.SI ++ (e.Sx)))))))))))))))))))).Perm S := List.Perm.trans (by classical exact List.perm_iff_count.2 fun x => by simp only [AD.heap, AD.rest, BD.heap, BD.rest, List.count_append, List.count_cons, List.cons_append, List.nil_append, List.count_nil]; omega) hS.symm
    refine (h1.perm hpm).weaken (fun _ _ => trivial) fun v S' hv => ?_
    obtain ⟨S1, rfl, rfl, fa', fca', fb', fcb', Sf', Sg', rfl, hf', hg'⟩ := hv
    refine ⟨rfl, p, br, bw, fs ++ [(⟨o.n, o.b⟩ : FileV)], g0, z, s, _, _, ?_, ⟨fun f hf => (List.mem_append.1 hf).elim (hI.fb f) (fun e => by rw [List.mem_singleton.1 e]; exact hob), fun f hf => (List.mem_append.1 hf).elim (hI.fL f) (fun e => by rw [List.mem_singleton.1 e]; exact hoL), hI.BL, hI.B, by rw [List.length_append, List.length_singleton]; omega, hI.qt, by omega, by omega⟩, okd.setF hf', oke.setF hg'⟩
    classical exact List.perm_iff_count.2 fun x => by simp only [AD.heap, AD.rest, BD.heap, BD.rest, List.count_append, List.count_cons, List.cons_append, List.nil_append, List.count_nil]; omega
  by_cases h3k : o.k = 3
  · have hP1 : APre ⟨p.bs, p.bq, o.fail, o.err, o.during, o.b, o.n⟩ fs L (g0 + s.outs) (z + s.calls.length) := ⟨hI.fb, hI.fL, hoL, hob, by omega, by omega⟩
    have hP2 : APre ⟨bw, br, o.fail, o.err, o.during, o.b, o.n⟩ fs L (g0 + s.outs) (z + s.calls.length) := ⟨hI.fb, hI.fL, hoL, hob, by omega, by omega⟩
    have hon : QOnce o.during o.b.xs o.n ⟨[], 0, []⟩ := ⟨.inl rfl⟩
    have hft := qFits (fail := o.fail) (err := o.err) hI.fb s.q ⟨[], 0, []⟩ hon hI.qt (by simp only [List.length_nil]; omega) (by show 0 + _ ≤ _; omega)
    obtain ⟨b1, b2, b3⟩ := qBnd (fs := fs) (fail := o.fail) (err := o.err) s.q ⟨[], 0, []⟩ hon
    have hb3 := b3.len
    simp only [List.length_nil, Nat.zero_add] at b1 b2
    have h1 := does3_fn bp p.bq br p.bs bw o (.slice none 0 0) (.pointer none) (.pointer none) (.pointer none) (.slice d.fa fs.length d.fc) (.int .i64 p.fail) (.int .i64 p.err) (.int .i64 0) (.int .i64 0) (.pointer none) (.slice none 0 0) (.string ⟨#[]⟩) (.bool false) (.bool false) (.bool false) (.bool false) (.int .i64 0) (.int .i64 (s.outs : Nat)) (.int .i64 d.sum) (.slice d.aa d.al.length d.ac) (.string ⟨#[]⟩) (.slice d.ca d.cl.length d.cc) (.slice d.ga d.gl.length d.gc) (.slice d.la d.ll.length d.lc) (.slice d.wa d.wl.length d.wc) (.pointer (some ⟨p.bq, 0, none⟩)) (.int .i64 p.dur) (.slice p.B.a p.B.xs.length p.B.c) (.string p.N) (.slice d.sa d.sl.length d.sc) (.slice none 0 0) (.pointer none) (.pointer none) (.pointer none) (.slice e.fa fs.length e.fc) (.int .i64 p.fail) (.int .i64 p.err) (.int .i64 0) (.int .i64 p.dur) (.pointer (some ⟨br, 0, none⟩)) (.slice p.B.a p.B.xs.length p.B.c) (.string p.N) (.bool false) (.bool false) (.bool false) (.bool false) (.int .i64 0) (.int .i64 (s.outs : Nat)) (.int .i64 e.sum) (.slice e.aa e.al.length e.ac) (.string ⟨#[]⟩) (.slice e.ca e.cl.length e.cc) (.slice e.ga e.gl.length e.gc) (.slice e.la e.ll.length e.lc) (.slice e.wa e.wl.length e.wc) d.qa d.qc d.ql d.So okd.hq (by omega) e.ia e.ic e.il e.SI oke.hi (by omega) L fs (g0 + s.outs) (z + s.calls.length) s.q d.Si (d.Sf ++ (d.Sa ++ (d.Sg ++ (d.SG ++ (d.Sn ++ (d.SL ++ (d.Sw ++ (d.Ss ++ (d.Sx ++ (d.Sc)))))))))) e.Sx (e.Sf ++ (e.Sa ++ (e.Sg ++ (e.Sn ++ (e.Sw ++ (e.Sc)))))) okd.hqi oke.hia oke.hir hP1 hP2 ⟨_, (by refine List.Perm.trans (List.Perm.swap _ _ _) (List.Perm.cons _ (List.Perm.cons _ ?_)); classical exact List.perm_iff_count.2 fun x => by simp only [AD.heap, AD.rest, BD.heap, BD.rest, List.count_append, List.count_cons, List.cons_append, List.nil_append, List.count_nil]), okd.start⟩ ⟨_, (by refine List.Perm.trans (List.Perm.swap _ _ _) (List.Perm.cons _ (List.Perm.cons _ ?_)); classical exact List.perm_iff_count.2 fun x => by simp only [AD.heap, AD.rest, BD.heap, BD.rest, List.count_append, List.count_cons, List.cons_append, List.nil_append, List.count_nil]), oke.start⟩ hft h3k
    have hpm : ((bp, .cells [.pointer (some ⟨p.bq, 0, none⟩), .pointer (some ⟨br, 0, none⟩), .pointer (some ⟨p.bs, 0, none⟩), .pointer (some ⟨bw, 0, none⟩)].toArray 33 (0, 0)) :: (p.bs, .cells [.slice none 0 0, .pointer none, .pointer none, .pointer none, .slice d.fa fs.length d.fc, .int .i64 p.fail, .int .i64 p.err, .int .i64 0, .int .i64 0, .pointer none, .slice none 0 0, .string ⟨#[]⟩, .bool false, .bool false, .bool false, .bool false, .int .i64 0, .int .i64 (s.outs : Nat), .int .i64 d.sum, .slice d.aa d.al.length d.ac, .string ⟨#[]⟩, .slice d.ca d.cl.length d.cc, .slice d.ga d.gl.length d.gc, .slice d.la d.ll.length d.lc, .slice d.wa d.wl.length d.wc, .pointer (some ⟨p.bq, 0, none⟩), .int .i64 p.dur, .slice p.B.a p.B.xs.length p.B.c, .string p.N, .slice d.sa d.sl.length d.sc].toArray 45 (0, 0)) :: (bw, .cells [.slice none 0 0, .pointer none, .pointer none, .pointer none, .slice e.fa fs.length e.fc, .int .i64 p.fail, .int .i64 p.err, .int .i64 0, .int .i64 p.dur, .pointer (some ⟨br, 0, none⟩), .slice p.B.a p.B.xs.length p.B.c, .string p.N, .bool false, .bool false, .bool false, .bool false, .int .i64 0, .int .i64 (s.outs : Nat), .int .i64 e.sum, .slice e.aa e.al.length e.ac, .string ⟨#[]⟩, .slice e.ca e.cl.length e.cc, .slice e.ga e.gl.length e.gc, .slice e.la e.ll.length e.lc, .slice e.wa e.wl.length e.wc].toArray 43 (0, 0)) :: (p.bq, .cells [.bool true, .slice d.qa d.ql.length d.qc].toArray 109 (0, 0)) :: (br, .cells [.slice e.ia e.il.length e.ic].toArray 112 (0, 0)) :: (d.So ++ (d.Si ++ (e.SI ++ (e.Sx ++ ((d.Sf ++ (d.Sa ++ (d.Sg ++ (d.SG ++ (d.Sn ++ (d.SL ++ (d.Sw ++ (d.Ss ++ (d.Sx ++ (d.Sc)))))))))) ++ (e.Sf ++ (e.Sa ++ (e.Sg ++ (e.Sn ++ (e.Sw ++ (e.Sc)))))))))))).Perm S := List.Perm.trans (by classical exact List.perm_iff_count.2 fun x => by simp only [AD.heap, AD.rest, BD.heap, BD.rest, List.count_append, List.count_cons, List.cons_append, List.nil_append, List.count_nil]; omega) hS.symm
    have h2 := h1.has (pre' := OldL L S) (fun w h hS => OldL.sub h (fun x hx => hpm.mem_iff.1 hx))
    refine (h2.perm hpm).weaken (fun _ h => h) fun v S' hv => ?_
    obtain ⟨rfl, SA, SB, rfl, ⟨d', hpd, okd'⟩, ⟨e', hpe, oke'⟩⟩ := hv
    exact ⟨rfl, ⟨p.bs, p.bq, o.fail, o.err, o.during, o.b, o.n⟩, br, bw, fs, _, _, _, d', e', List.Perm.cons _ (hpd.append hpe), ⟨hI.fb, hI.fL, hoL, hob, by omega, fun b hb => by
      rcases b3.once with e | ⟨_, e⟩
      · rw [e] at hb; cases hb
      · rw [e] at hb
        simp only [List.mem_cons, QI.text.injEq, List.not_mem_nil, or_false, reduceCtorEq] at hb
        rw [hb]; exact hob, by omega, by omega⟩, okd', oke'⟩
  have h1 := (doesX_fn (.pointer (some ⟨bp, 0, none⟩)) o h0 h1k h2k h3k h4k).frame (R := S)
  refine (h1.perm (by simp)).weaken (fun _ _ => trivial) fun v S' hv => ?_
  obtain ⟨S1, rfl, rfl, rfl⟩ := hv
  exact ⟨rfl, p, br, bw, fs, g0, z, s, d, e, by simpa using hS, hI.mono, okd, oke⟩
theorem beyondQ_fn (a : Option Addr) (c : Nat) (things : List OpQ) (hbl : ∀ o ∈ things, o.b.xs.length ≤ 140737488355328 ∧ o.n.size ≤ 140737488355328) : HL.Fn Tryd.prog 6 [.slice a things.length c] (fun w => Rd Eopq w (.slice a things.length c) things) [] (fun v _ => ∃ b, v = .bool b) := by
  refine fn_of Tryd.func6 rfl rfl rfl fun w0 hw => ?_
  have hth := hw
  have hst := hw.sl
  have hbt := hst.le
  refine c_seq fun _ hK1 => ?_
  refine c_region ?_
  refine o_step rfl (s_assign rfl) ?_
  refine o_nil ?_
  refine x_then (hK1 _ _ ?_)
  refine c_seq fun _ hK2 => ?_
  refine c_region ?_
  refine o_step rfl (s_move rfl) ?_
  refine o_step rfl (s_len rfl) ?_
  refine o_step rfl (s_assign rfl) ?_
  refine o_nil ?_
  refine x_then (hK2 _ _ ?_)
  refine c_seq fun _ hK3 => ?_
  refine c_seq fun _ hK4 => ?_
  refine c_region ?_
  refine o_step rfl (s_assign rfl) ?_
  refine o_nil ?_
  refine x_then (hK4 _ _ ?_)
  refine c_block ?_
  refine c_loop2 (fun (i : Nat) (m : Int) => i ≤ things.length ∧ 0 ≤ m ∧ m ≤ 9223372036854775807) (fun (i : Nat) (m : Int) => [(4, .int .i64 i), (3, .int .i64 m)]) [(0, _), (2, _)] (fun (i : Nat) (m : Int) => _) (fun (i : Nat) (m : Int) => things.length - i) 0 (things.length : Int) ⟨by omega, by omega, by omega⟩ sbA sbA hzB ?_
  rintro i m ⟨hi, hm0, hm1⟩
  refine c_seq fun _ hK5 => ?_
  refine c_seq fun _ hK6 => ?_
  refine c_region ?_
  refine o_step rfl (s_move rfl) ?_
  refine o_step rfl (s_move rfl) ?_
  refine o_step rfl (s_len rfl) ?_
  by_cases hlt : i < things.length
  · skip
    have hil := hlt
    have hob := hbl _ (gd_mem (d := oz) hil)
    refine o_step rfl (step_cast (v' := .bool true) (s_lss rfl rfl) (by rw [decide_eq_true (by omega)])) ?_
    refine o_step rfl (s_move rfl) ?_
    refine o_yes rfl rfl ?_
    refine o_step rfl (s_move rfl) ?_
    refine o_yes rfl rfl ?_
    refine o_step rfl (s_leq rfl rfl) ?_
    refine o_step rfl (s_pick_t rfl rfl) ?_
    refine o_nil ?_
    refine x_then (hK6 _ _ ?_)
    refine c_if rfl (fun h14 => ?_) (fun h14 => ?_)
    · skip
      refine c_skip ?_
      refine x_then (hK5 _ _ ?_)
      refine c_seq fun _ hK7 => ?_
      refine c_block ?_
      refine c_quiet (by kernel_rfl) ?_
      refine .op rfl (s_move rfl) ?_
      refine .op rfl (s_move rfl) ?_
      refine .op rfl (s_move rfl) ?_
      refine .op rfl (s_idx rfl rfl (by assumption) (by omega)) ?_
      refine .op rfl (s_field rfl rfl (by decide)) ?_
      refine .op rfl (s_ld rfl ((RdK.old0 hth).ld i 1 (gd_get (d := oz) (by omega)) rfl (by decide) (by omega))) ?_
      refine .op rfl (s_len rfl) ?_
      refine .op rfl (s_add rfl rfl (by omega)) ?_
      refine .op rfl (s_move rfl) ?_
      refine .op rfl (s_move rfl) ?_
      refine .op rfl (s_idx rfl rfl (by assumption) (by omega)) ?_
      refine .op rfl (s_field rfl rfl (by decide)) ?_
      refine .op rfl (s_ld rfl ((RdK.old0 hth).ld i 2 (gd_get (d := oz) (by omega)) rfl (by decide) (by omega))) ?_
      refine .op rfl (s_lenstr rfl) ?_
      refine .op rfl (s_add rfl rfl (by omega)) ?_
      refine .op rfl (s_assign rfl) ?_
      refine .nil ?_
      refine x_block ?_
      refine x_then (hK7 _ _ ?_)
      refine c_region ?_
      refine o_step rfl (s_move rfl) ?_
      refine o_step rfl (s_add rfl rfl (by omega)) ?_
      refine o_step rfl (s_assign rfl) ?_
      refine o_nil ?_
      exact x_then (x_inv (i + 1, m + (things.getD i oz).b.xs.length + (things.getD i oz).n.size) ⟨by omega, by omega, by omega⟩ (by first | omega | (dsimp only; omega)) sbA hzB)
    · skip
      refine c_exit ?_
      refine x_then_exit ?_
      refine x_then_exit ?_
      refine x_block_exit ?_
      refine x_then (hK3 _ _ ?_)
      refine c_seq fun _ hK8 => ?_
      refine c_region ?_
      refine o_step rfl (s_move rfl) ?_
      by_cases h33 : 2147483647 < m
      · skip
        refine o_step rfl (step_cast (v' := .bool true) (s_gtr rfl rfl) (by rw [decide_eq_true (by omega)])) ?_
        refine o_step rfl (s_move rfl) ?_
        refine o_no rfl rfl rfl rfl ?_
        refine o_no rfl rfl rfl rfl ?_
        refine o_no rfl rfl rfl rfl ?_
        refine o_step rfl (s_pick_t rfl rfl) ?_
        refine o_step rfl (s_assign rfl) ?_
        refine o_nil ?_
        refine x_then (hK8 _ _ ?_)
        refine c_ret ?_
        refine ?_
        exact x_ret rfl (.tmp rfl (.nil)) (⟨_, rfl⟩)
      · skip
        refine o_step rfl (step_cast (v' := .bool false) (s_gtr rfl rfl) (by rw [decide_eq_false (by omega)])) ?_
        refine o_step rfl (s_move rfl) ?_
        refine o_yes rfl rfl ?_
        refine o_step rfl (s_move rfl) ?_
        refine o_yes rfl rfl ?_
        refine o_step rfl (s_len rfl) ?_
        refine o_yes rfl rfl ?_
        refine o_step rfl (s_gtr rfl rfl) ?_
        refine o_step rfl (s_pick_f rfl rfl) ?_
        refine o_step rfl (s_assign rfl) ?_
        refine o_nil ?_
        refine x_then (hK8 _ _ ?_)
        refine c_ret ?_
        refine ?_
        exact x_ret rfl (.tmp rfl (.nil)) (⟨_, rfl⟩)
  · skip
    refine o_step rfl (step_cast (v' := .bool false) (s_lss rfl rfl) (by rw [decide_eq_false (by omega)])) ?_
    refine o_step rfl (s_move rfl) ?_
    refine o_no rfl rfl rfl rfl ?_
    refine o_no rfl rfl rfl rfl ?_
    refine o_step rfl (s_pick_f rfl rfl) ?_
    refine o_nil ?_
    refine x_then (hK6 _ _ ?_)
    refine c_false rfl ?_
    refine c_exit ?_
    refine x_then_exit ?_
    refine x_then_exit ?_
    refine x_block_exit ?_
    refine x_then (hK3 _ _ ?_)
    refine c_seq fun _ hK9 => ?_
    refine c_region ?_
    refine o_step rfl (s_move rfl) ?_
    by_cases h33 : 2147483647 < m
    · skip
      refine o_step rfl (step_cast (v' := .bool true) (s_gtr rfl rfl) (by rw [decide_eq_true (by omega)])) ?_
      refine o_step rfl (s_move rfl) ?_
      refine o_no rfl rfl rfl rfl ?_
      refine o_no rfl rfl rfl rfl ?_
      refine o_no rfl rfl rfl rfl ?_
      refine o_step rfl (s_pick_t rfl rfl) ?_
      refine o_step rfl (s_assign rfl) ?_
      refine o_nil ?_
      refine x_then (hK9 _ _ ?_)
      refine c_ret ?_
      refine ?_
      exact x_ret rfl (.tmp rfl (.nil)) (⟨_, rfl⟩)
    · skip
      refine o_step rfl (step_cast (v' := .bool false) (s_gtr rfl rfl) (by rw [decide_eq_false (by omega)])) ?_
      refine o_step rfl (s_move rfl) ?_
      refine o_yes rfl rfl ?_
      refine o_step rfl (s_move rfl) ?_
      refine o_yes rfl rfl ?_
      refine o_step rfl (s_len rfl) ?_
      refine o_yes rfl rfl ?_
      refine o_step rfl (s_gtr rfl rfl) ?_
      refine o_step rfl (s_pick_f rfl rfl) ?_
      refine o_step rfl (s_assign rfl) ?_
      refine o_nil ?_
      refine x_then (hK9 _ _ ?_)
      refine c_ret ?_
      refine ?_
      exact x_ret rfl (.tmp rfl (.nil)) (⟨_, rfl⟩)
end Go.Proofs.YtmmajabfmhipeaaDoor
