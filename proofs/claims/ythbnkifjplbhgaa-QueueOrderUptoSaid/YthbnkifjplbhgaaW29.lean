/- Part of the proofs over this seat: see the text that holds the theorem. Conditions: each theorem bears its own. -/
import Derived.Test.YthbnkifjplbhgaaW28
namespace Go.Proofs.Ythbnkifjplbhgaa
open Go Go.HL Go.Proofs Go.Tab
/-- a side with a world without disk, output, queue: what lies there -/
structure SD where
  fa : Option Addr
  fc : Nat
  Sf : Hp
  sum : Int
  aa : Option Addr
  ac : Nat
  al : List UInt8
  Sa : Hp
  ca : Option Addr
  cc : Nat
  cl : List CallV
  Sc : Hp
  ga : Option Addr
  gc : Nat
  gl : List (Sl UInt8)
  Sg : Hp
  la : Option Addr
  lc : Nat
  ll : List (Sl UInt8)
  Sn : Hp
  wa : Option Addr
  wc : Nat
  wl : List (Sl UInt8)
  Sw : Hp
  sa : Option Addr
  sc : Nat
  sl : List (Sl UInt8)
  Ss : Hp
  Sx : Hp
structure SD.Ok (d : SD) (fs : List FileV) (z : Nat) (s : QS) : Prop where
  hf : OwnS Efile 3 46 (.slice d.fa fs.length d.fc) fs d.Sf
  hsum : 0 ≤ d.sum ∧ d.sum ≤ 1048578 * (s.calls.length + z)
  ha : OwnS Eb 1 5 (.slice d.aa d.al.length d.ac) d.al d.Sa
  hal : d.al.length ≤ 1048577 * s.outs
  hc : OwnS Ecall 3 49 (.slice d.ca d.cl.length d.cc) d.cl d.Sc
  hci : CallsIn d.cl s.calls d.Sx
  hg : OwnS Esl 1 35 (.slice d.ga d.gl.length d.gc) d.gl d.Sg
  hgl : d.gl.length ≤ s.outs
  hl : OwnS Esl 1 35 (.slice d.la d.ll.length d.lc) d.ll d.Sn
  hw : OwnS Esl 1 35 (.slice d.wa d.wl.length d.wc) d.wl d.Sw
  hll : d.ll.length ≤ 1000
  hwl : d.wl.length = d.ll.length
  hs : OwnS Esl 1 35 (.slice d.sa d.sl.length d.sc) d.sl d.Ss
  hsl : d.sl.length ≤ s.outs
  ho : s.outs ≤ 4194304
def SD.blk (d : SD) (bs : Nat) (fs : List FileV) (fail err outs : Int) : Nat × Obj := (bs, .cells [.slice none 0 0, .pointer none, .pointer none, .pointer none, .slice d.fa fs.length d.fc, .int .i64 fail, .int .i64 err, .int .i64 0, .int .i64 0, .pointer none, .slice none 0 0, .string ⟨#[]⟩, .bool false, .bool false, .bool false, .bool false, .int .i64 0, .int .i64 outs, .int .i64 d.sum, .slice d.aa d.al.length d.ac, .string ⟨#[]⟩, .slice d.ca d.cl.length d.cc, .slice d.ga d.gl.length d.gc, .slice d.la d.ll.length d.lc, .slice d.wa d.wl.length d.wc, .pointer none, .int .i64 0, .slice none 0 0, .string ⟨#[]⟩, .slice d.sa d.sl.length d.sc].toArray 40 (0, 0))
def SD.heap (d : SD) (bs : Nat) (fs : List FileV) (fail err outs : Int) : Hp := d.blk bs fs fail err outs :: (d.Sf ++ (d.Sa ++ (d.Sc ++ (d.Sg ++ (d.Sn ++ (d.Sw ++ (d.Ss ++ d.Sx)))))))
theorem SD.heap_app {d : SD} {bs : Nat} {fs : List FileV} {fail err outs : Int} {R : Hp} : d.heap bs fs fail err outs ++ R = d.blk bs fs fail err outs :: ((d.Sf ++ (d.Sa ++ (d.Sc ++ (d.Sg ++ (d.Sn ++ (d.Sw ++ (d.Ss ++ d.Sx))))))) ++ R) := rfl
def SideH (bs : Nat) (fs : List FileV) (fail err : Int) (z : Nat) (s : QS) (S : Hp) : Prop := ∃ d : SD, S.Perm (d.heap bs fs fail err s.outs) ∧ d.Ok fs z s
theorem sdR_fn (bs : Nat) (fs : List FileV) (fail err : Int) (z : Nat) (hz : z ≤ 4194304) (hfb : ∀ f ∈ fs, f.b.xs.length ≤ 1048576) (s : QS) (S : Hp) (n : ByteArray) (hs : SideH bs fs fail err z s S) (hk : sdKR s n) :
    HL.Fn Try.prog 22 ([.pointer (some ⟨bs, 0, none⟩)] ++ [.string n] ++ []) (OldL (fs.map FileV.b) S) S (fun v S' => ∃ a c b, v = .slice a b.length c ∧ RdS Eb (.slice a b.length c) b S' ∧ (b = (sdR fs s n).1 ∧ SideH bs fs fail err z (sdR fs s n).2 S')) := by
  obtain ⟨d, hp, ok⟩ := hs
  have hk' : s.calls.length ≤ 4194304 := hk
  have hcl := ok.hci.len
  have hsum := ok.hsum
  have h1 := (sread_fn bs (.slice none 0 0) (.pointer none) (.pointer none) (.int .i64 fail) (.int .i64 err) (.int .i64 0) (.int .i64 0) (.pointer none) (.slice none 0 0) (.string ⟨#[]⟩) (.bool false) (.bool false) (.bool false) (.int .i64 0) (.int .i64 s.outs) (.slice d.aa d.al.length d.ac) (.string ⟨#[]⟩) (.slice d.ga d.gl.length d.gc) (.pointer none) (.int .i64 0) (.slice none 0 0) (.string ⟨#[]⟩) (.slice d.sa d.sl.length d.sc) d.fa d.fc fs d.Sf ok.hf hfb d.ca d.cc d.cl d.Sc ok.hc (by omega) d.sum (by omega) d.la d.wa d.lc d.wc d.ll d.wl d.Sn d.Sw ok.hl ok.hw ok.hll ok.hwl n).frame (R := d.Sa ++ (d.Sg ++ (d.Ss ++ d.Sx)))
  have hpm : ((bs, .cells [.slice none 0 0, .pointer none, .pointer none, .pointer none, .slice d.fa fs.length d.fc, .int .i64 fail, .int .i64 err, .int .i64 0, .int .i64 0, .pointer none, .slice none 0 0, .string ⟨#[]⟩, .bool false, .bool false, .bool false, .bool false, .int .i64 0, .int .i64 s.outs, .int .i64 d.sum, .slice d.aa d.al.length d.ac, .string ⟨#[]⟩, .slice d.ca d.cl.length d.cc, .slice d.ga d.gl.length d.gc, .slice d.la d.ll.length d.lc, .slice d.wa d.wl.length d.wc, .pointer none, .int .i64 0, .slice none 0 0, .string ⟨#[]⟩, .slice d.sa d.sl.length d.sc].toArray 40 (0, 0)) :: (d.Sf ++ (d.Sc ++ (d.Sn ++ d.Sw))) ++ (d.Sa ++ (d.Sg ++ (d.Ss ++ d.Sx)))).Perm S := by
    refine List.Perm.trans ?_ hp.symm
    rw [List.cons_append]
    refine List.Perm.cons _ ?_
    classical exact List.perm_iff_count.2 fun x => by simp only [List.count_append]; omega
  have h2 := h1.has (pre' := OldL (fs.map FileV.b) S) (fun w h hS => OldL.sub h (fun x hx => hpm.mem_iff.1 (List.mem_append_left _ hx)))
  refine (h2.perm hpm).weaken (fun _ h => h) fun v S' hv => ?_
  obtain ⟨S1, rfl, a', c', a2, c2, ca', cc', Sc', la', lc', ll', wa', wc', wl', Sn', Sw', Sx', rfl, rfl, hlp, hc', hr2, hr⟩ := hv
  refine ⟨a', c', _, rfl, hr.mono (hin_sub (by repeat (first | exact HSub.refl _ | exact HSub.nil | refine HSub.takeC (by first | ((repeat (first | exact .one | exact .here | exact .all | apply Pick.cons | apply Pick.app)); done) | ((repeat (first | exact .one | exact .here | exact .all | apply Pick.cons | apply Pick.assoc | apply Pick.app)); done) | exact Pick.takeA (by repeat (first | exact .one | exact .here | exact .all | apply Pick.cons | apply Pick.assoc | apply Pick.app)) (by repeat (first | exact .one | exact .here | exact .all | apply Pick.cons | apply Pick.assoc | apply Pick.app))) ?_ | refine HSub.take (by first | ((repeat (first | exact .one | exact .here | exact .all | apply Pick.cons | apply Pick.app)); done) | ((repeat (first | exact .one | exact .here | exact .all | apply Pick.cons | apply Pick.assoc | apply Pick.app)); done) | exact Pick.takeA (by repeat (first | exact .one | exact .here | exact .all | apply Pick.cons | apply Pick.assoc | apply Pick.app)) (by repeat (first | exact .one | exact .here | exact .all | apply Pick.cons | apply Pick.assoc | apply Pick.app))) ?_ | exact HSub.of_pick (by first | ((repeat (first | exact .one | exact .here | exact .all | apply Pick.cons | apply Pick.app)); done) | ((repeat (first | exact .one | exact .here | exact .all | apply Pick.cons | apply Pick.assoc | apply Pick.app)); done) | exact Pick.takeA (by repeat (first | exact .one | exact .here | exact .all | apply Pick.cons | apply Pick.assoc | apply Pick.app)) (by repeat (first | exact .one | exact .here | exact .all | apply Pick.cons | apply Pick.assoc | apply Pick.app)))))), rfl, ⟨d.fa, d.fc, d.Sf, d.sum + 1 + ([] : List UInt8).length, d.aa, d.ac, d.al, d.Sa, ca', cc', d.cl ++ [(⟨3, n, ⟨a2, c2, []⟩⟩ : CallV)], Sc', d.ga, d.gc, d.gl, d.Sg, la', lc', ll', Sn', wa', wc', wl', Sw', d.sa, d.sc, d.sl, d.Ss, d.Sx ++ Sx'⟩, ?_, ?_⟩
  · rw [List.cons_append]
    refine List.Perm.cons _ ?_
    classical exact List.perm_iff_count.2 fun x => by simp only [List.count_append]; omega
  · refine ⟨ok.hf, ?_, ok.ha, ok.hal, hc', ?_, ok.hg, ok.hgl, hlp.1, hlp.2.1, hlp.2.2.1, hlp.2.2.2, ok.hs, ok.hsl, ok.ho⟩
    · simp only [sdR, List.length_append, List.length_nil, List.length_singleton]; omega
    · refine ⟨by simp [sdR, ok.hci.abs, CallV.abs], fun c hc => ?_⟩
      rcases List.mem_append.1 hc with hc | hc
      · exact (ok.hci.rd c hc).mono HIn.appL
      · have e := List.mem_singleton.1 hc
        subst e
        exact hr2.mono HIn.appR
theorem sdO_fn (bs : Nat) (fs : List FileV) (fail err : Int) (z : Nat) (hz : z ≤ 4194304) (s : QS) (S : Hp) (b : List UInt8) (Sb : Hp) (a : Option Addr) (c : Nat) (hs : SideH bs fs fail err z s S) (hb : OwnS Eb 1 5 (.slice a b.length c) b Sb) (hk : sdKO s b) :
    HL.Fn Try.prog 23 ([.pointer (some ⟨bs, 0, none⟩)] ++ [.slice a b.length c] ++ []) (fun _ => True) (S ++ Sb) (fun v S' => v = .int .i64 (sdO fail err s b).1 ∧ SideH bs fs fail err z (sdO fail err s b).2 S') := by
  obtain ⟨d, hp, ok⟩ := hs
  obtain ⟨hk1, hk2, hk3⟩ := hk
  have hcl := ok.hci.len
  have hsum := ok.hsum
  have hal := ok.hal
  have hgl := ok.hgl
  have hsl := ok.hsl
  have h1 := (sout_fn bs (.slice none 0 0) (.pointer none) (.pointer none) (.slice d.fa fs.length d.fc) (.int .i64 0) (.slice none 0 0) (.string ⟨#[]⟩) (.bool false) (.bool false) (.int .i64 0) (.string ⟨#[]⟩) (.slice d.la d.ll.length d.lc) (.slice d.wa d.wl.length d.wc) (.int .i64 0) (.slice none 0 0) (.string ⟨#[]⟩) d.aa d.ac d.al d.Sa ok.ha d.ga d.gc d.gl d.Sg ok.hg (by omega) fail err s.outs (by omega) d.ca d.cc d.cl d.Sc ok.hc (by omega) d.sum (by omega) a c b Sb hb (by omega) d.sa d.sc d.sl d.Ss ok.hs (by omega)).frame (R := d.Sf ++ (d.Sn ++ (d.Sw ++ d.Sx)))
  have hpm : ((bs, .cells [.slice none 0 0, .pointer none, .pointer none, .pointer none, .slice d.fa fs.length d.fc, .int .i64 fail, .int .i64 err, .int .i64 0, .int .i64 0, .pointer none, .slice none 0 0, .string ⟨#[]⟩, .bool false, .bool false, .bool false, .bool false, .int .i64 0, .int .i64 s.outs, .int .i64 d.sum, .slice d.aa d.al.length d.ac, .string ⟨#[]⟩, .slice d.ca d.cl.length d.cc, .slice d.ga d.gl.length d.gc, .slice d.la d.ll.length d.lc, .slice d.wa d.wl.length d.wc, .pointer none, .int .i64 0, .slice none 0 0, .string ⟨#[]⟩, .slice d.sa d.sl.length d.sc].toArray 40 (0, 0)) :: (d.Sa ++ (d.Sc ++ (d.Sg ++ (d.Ss ++ Sb)))) ++ (d.Sf ++ (d.Sn ++ (d.Sw ++ d.Sx)))).Perm (S ++ Sb) := by
    refine List.Perm.trans ?_ (hp.append_right Sb).symm
    rw [List.cons_append, SD.heap_app]
    refine List.Perm.cons _ ?_
    classical exact List.perm_iff_count.2 fun x => by simp only [List.count_append]; omega
  refine (h1.perm hpm).weaken (fun _ h => h) fun v S' hv => ?_
  obtain ⟨S1, rfl, rfl, a1, c1, aa', ac', ca', cc', ga', gc', sa', sc', a2, c2, Sa', Sc', Sg', Ss', Sx', rfl, ha', hc', hg', hs', hr⟩ := hv
  refine ⟨rfl, ⟨d.fa, d.fc, d.Sf, d.sum + 1 + b.length, aa', ac', d.al ++ b, Sa', ca', cc', d.cl ++ [(⟨1, ⟨#[]⟩, ⟨a1, c1, b⟩⟩ : CallV)], Sc', ga', gc', d.gl ++ [(⟨a, c, b⟩ : Sl UInt8)], Sg', d.la, d.lc, d.ll, d.Sn, d.wa, d.wc, d.wl, d.Sw, sa', sc', d.sl ++ [(⟨a2, c2, b⟩ : Sl UInt8)], Ss', d.Sx ++ Sx'⟩, ?_, ?_⟩
  · rw [List.cons_append]
    refine List.Perm.cons _ ?_
    classical exact List.perm_iff_count.2 fun x => by simp only [List.count_append]; omega
  · refine ⟨ok.hf, ?_, ha', ?_, hc', ?_, hg', ?_, ok.hl, ok.hw, ok.hll, ok.hwl, hs', ?_, ?_⟩
    · simp only [sdO, List.length_append, List.length_singleton]; omega
    · simp only [sdO, List.length_append]; omega
    · refine ⟨by simp [sdO, ok.hci.abs, CallV.abs], fun c hc => ?_⟩
      rcases List.mem_append.1 hc with hc | hc
      · exact (ok.hci.rd c hc).mono HIn.appL
      · have e := List.mem_singleton.1 hc
        subst e
        exact hr.mono HIn.appR
    · simp only [sdO, List.length_append, List.length_singleton]; omega
    · simp only [sdO, List.length_append, List.length_singleton]; omega
    · simp only [sdO]; omega

/-- the same beside an empty queue -/
def SideQ (bq bs : Nat) (fs : List FileV) (fail err : Int) (z : Nat) (s : QS) (S : Hp) : Prop := ∃ S1, S.Perm ((bq, .cells [.bool true, .slice none 0 0].toArray 58 (0, 0)) :: S1) ∧ SideH bs fs fail err z s S1
theorem sdRQ_fn (bq bs : Nat) (fs : List FileV) (fail err : Int) (z : Nat) (hz : z ≤ 4194304) (hfb : ∀ f ∈ fs, f.b.xs.length ≤ 1048576) (s : QS) (S : Hp) (n : ByteArray) (hs : SideQ bq bs fs fail err z s S) (hk : sdKR s n) :
    HL.Fn Try.prog 22 ([.pointer (some ⟨bs, 0, none⟩)] ++ [.string n] ++ []) (OldL (fs.map FileV.b) S) S (fun v S' => ∃ a c b, v = .slice a b.length c ∧ RdS Eb (.slice a b.length c) b S' ∧ (b = (sdR fs s n).1 ∧ SideQ bq bs fs fail err z (sdR fs s n).2 S')) := by
  obtain ⟨S1, hp, hs⟩ := hs
  have h1 := (sdR_fn bs fs fail err z hz hfb s S1 n hs hk).frame (R := [(bq, .cells [.bool true, .slice none 0 0].toArray 58 (0, 0))])
  have hpm : (S1 ++ ([(bq, .cells [.bool true, .slice none 0 0].toArray 58 (0, 0))] : Hp)).Perm S := List.perm_append_comm.trans hp.symm
  have h2 := h1.has (pre' := OldL (fs.map FileV.b) S) (fun w h hS => OldL.sub h (fun x hx => hpm.mem_iff.1 (List.mem_append_left _ hx)))
  refine (h2.perm hpm).weaken (fun _ h => h) fun v S' hv => ?_
  obtain ⟨S2, rfl, a, c, b, rfl, hr, hb, hq⟩ := hv
  exact ⟨a, c, b, rfl, hr.mono HIn.appL, hb, S2, List.perm_append_comm, hq⟩
theorem sdOQ_fn (bq bs : Nat) (fs : List FileV) (fail err : Int) (z : Nat) (hz : z ≤ 4194304) (s : QS) (S : Hp) (b : List UInt8) (Sb : Hp) (a : Option Addr) (c : Nat) (hs : SideQ bq bs fs fail err z s S) (hb : OwnS Eb 1 5 (.slice a b.length c) b Sb) (hk : sdKO s b) :
    HL.Fn Try.prog 23 ([.pointer (some ⟨bs, 0, none⟩)] ++ [.slice a b.length c] ++ []) (fun _ => True) (S ++ Sb) (fun v S' => v = .int .i64 (sdO fail err s b).1 ∧ SideQ bq bs fs fail err z (sdO fail err s b).2 S') := by
  obtain ⟨S1, hp, hs⟩ := hs
  have h1 := (sdO_fn bs fs fail err z hz s S1 b Sb a c hs hb hk).frame (R := [(bq, .cells [.bool true, .slice none 0 0].toArray 58 (0, 0))])
  have hpm : ((S1 ++ Sb) ++ ([(bq, .cells [.bool true, .slice none 0 0].toArray 58 (0, 0))] : Hp)).Perm (S ++ Sb) := (List.perm_append_comm (l₁ := S1 ++ Sb)).trans (hp.append_right Sb).symm
  refine (h1.perm hpm).weaken (fun _ h => h) fun v S' hv => ?_
  obtain ⟨S2, rfl, hv, hq⟩ := hv
  exact ⟨hv, S2, List.perm_append_comm, hq⟩
theorem sideQ0 {bq bs : Nat} {f : Sl FileV} {fail : Int} {Sf : Hp} (hF : OwnS Efile 3 46 (.slice f.a f.xs.length f.c) f.xs Sf) : SideQ bq bs f.xs fail 22 0 ⟨[], 0⟩ ((bq, .cells [.bool true, .slice none 0 0].toArray 58 (0, 0)) :: (bs, .cells [.slice none 0 0, .pointer none, .pointer none, .pointer none, .slice f.a f.xs.length f.c, .int .i64 fail, .int .i64 22, .int .i64 0, .int .i64 0, .pointer none, .slice none 0 0, .string ⟨#[]⟩, .bool false, .bool false, .bool false, .bool false, .int .i64 0, .int .i64 0, .int .i64 0, .slice none 0 0, .string ⟨#[]⟩, .slice none 0 0, .slice none 0 0, .slice none 0 0, .slice none 0 0, .pointer none, .int .i64 0, .slice none 0 0, .string ⟨#[]⟩, .slice none 0 0].toArray 40 (0, 0)) :: Sf) := by
  refine ⟨_, List.Perm.refl _, ⟨f.a, f.c, Sf, 0, none, 0, [], [], none, 0, [], [], none, 0, [], [], none, 0, [], [], none, 0, [], [], none, 0, [], [], []⟩, ?_, ⟨hF, by simp, .nil, by simp, .nil, .nil, .nil, by simp, .nil, .nil, by simp, rfl, .nil, by simp, by simp⟩⟩
  refine List.Perm.cons _ ?_
  simp
theorem sideQ1 {bq bs : Nat} {fs : List FileV} {fail : Int} {s : QS} {d : SD} (ok : d.Ok fs 0 s) : SideQ bq bs fs fail 22 s.calls.length ⟨[], s.outs⟩ ((bq, .cells [.bool true, .slice none 0 0].toArray 58 (0, 0)) :: (bs, .cells [.slice none 0 0, .pointer none, .pointer none, .pointer none, .slice d.fa fs.length d.fc, .int .i64 fail, .int .i64 22, .int .i64 0, .int .i64 0, .pointer none, .slice none 0 0, .string ⟨#[]⟩, .bool false, .bool false, .bool false, .bool false, .int .i64 0, .int .i64 s.outs, .int .i64 d.sum, .slice d.aa d.al.length d.ac, .string ⟨#[]⟩, .slice none 0 0, .slice d.ga d.gl.length d.gc, .slice d.la d.ll.length d.lc, .slice d.wa d.wl.length d.wc, .pointer none, .int .i64 0, .slice none 0 0, .string ⟨#[]⟩, .slice d.sa d.sl.length d.sc].toArray 40 (0, 0)) :: (d.Sf ++ (d.Sa ++ (d.Sg ++ (d.Sn ++ (d.Sw ++ (d.Ss ++ d.Sx))))))) := by
  have hsum := ok.hsum
  refine ⟨_, List.Perm.refl _, { d with ca := none, cc := 0, cl := [], Sc := [] }, ?_, ⟨ok.hf, by simp only [List.length_nil]; omega, ok.ha, ok.hal, .nil, .nil, ok.hg, ok.hgl, ok.hl, ok.hw, ok.hll, ok.hwl, ok.hs, ok.hsl, ok.ho⟩⟩
  refine List.Perm.cons _ ?_
  simp
end Go.Proofs.Ythbnkifjplbhgaa
