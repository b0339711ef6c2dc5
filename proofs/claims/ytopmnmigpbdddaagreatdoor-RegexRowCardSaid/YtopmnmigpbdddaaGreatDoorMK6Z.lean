/- Groups lie in the match, inner ones in outer ones; the known run. Conditions: none. -/
import Derived.Test.YtopmnmigpbdddaaGreatDoorMK3Z
import Derived.Test.YtopmnmigpbdddaaGreatDoorMT8Z
namespace Go.HL.Kl.Mc
open Go Go.HL Go.HL.Kl AskE
def gl (l : List Nd) : List Nat := (l.filter fun y => decide (y.op = 7)).map fun y => y.n.toNat
def gn (f : F) : List Nat := gl f.flat
theorem gl_cons (x : Nd) (l : List Nd) : gl (x :: l) = (if x.op = 7 then [x.n.toNat] else []) ++ gl l := by
  unfold gl
  by_cases h : x.op = 7 <;> simp [List.filter_cons, h]
theorem gl_app (l m : List Nd) : gl (l ++ m) = gl l ++ gl m := by simp [gl]
theorem gn_nd (x : Nd) (ks r : F) : gn (.nd x ks r) = (if x.op = 7 then [x.n.toNat] else []) ++ (gn ks ++ gn r) := by
  show gl (x :: (ks.flat ++ r.flat)) = _
  rw [gl_cons, gl_app]; rfl
theorem gl_mem {l : List Nd} {y : Nd} (h : y ∈ l) (h7 : y.op = 7) : y.n.toNat ∈ gl l := List.mem_map.2 ⟨y, List.mem_filter.2 ⟨h, by simp [h7]⟩, rfl⟩
def Non (f : F) (cs : List Sp) : Prop := ∀ i ∈ gn f, cs[i]? = some noS
def Nst : F → Int → Int → List Sp → Prop
  | .nil, _, _, _ => True
  | .nd x ks r, lo, hi, cs => (if x.op = 7 then ∃ s, cs[x.n.toNat]? = some s ∧ ((s = noS ∧ Non ks cs) ∨ (lo ≤ s.fr ∧ s.fr ≤ s.to ∧ s.to ≤ hi ∧ Nst ks s.fr s.to cs)) else Nst ks lo hi cs) ∧ Nst r lo hi cs
theorem Non.split {x : Nd} {ks r : F} {cs : List Sp} (h : Non (.nd x ks r) cs) : (x.op = 7 → cs[x.n.toNat]? = some noS) ∧ Non ks cs ∧ Non r cs := by
  unfold Non at h ⊢
  rw [gn_nd] at h
  refine ⟨fun h7 => h _ (by simp [h7]), fun i hi => h i (by simp [hi]), fun i hi => h i (by simp [hi])⟩
theorem Nst_non : ∀ {f : F} {lo hi : Int} {cs : List Sp}, Non f cs → Nst f lo hi cs
  | .nil, _, _, _, _ => trivial
  | .nd x ks r, lo, hi, cs, h => by
    obtain ⟨h1, h2, h3⟩ := h.split
    refine ⟨?_, Nst_non h3⟩
    split
    · rename_i h7; exact ⟨noS, h1 h7, .inl ⟨rfl, h2⟩⟩
    · exact Nst_non h2
theorem Nst_wide : ∀ {f : F} {lo hi lo' hi' : Int} {cs : List Sp}, lo' ≤ lo → hi ≤ hi' → Nst f lo hi cs → Nst f lo' hi' cs
  | .nil, _, _, _, _, _, _, _, _ => trivial
  | .nd x ks r, lo, hi, lo', hi', cs, a, b, h => by
    refine ⟨?_, Nst_wide a b h.2⟩
    have h1 := h.1
    split at h1
    · rename_i h7
      rw [if_pos h7]
      obtain ⟨s, hs, h2⟩ := h1
      refine ⟨s, hs, h2.imp id fun ⟨c, d, e, g⟩ => ⟨by omega, d, by omega, g⟩⟩
    · rename_i h7
      rw [if_neg h7]
      exact Nst_wide a b h1
theorem Nst_congr : ∀ {f : F} {lo hi : Int} {cs cs' : List Sp}, (∀ i ∈ gn f, cs'[i]? = cs[i]?) → Nst f lo hi cs → Nst f lo hi cs'
  | .nil, _, _, _, _, _, _ => trivial
  | .nd x ks r, lo, hi, cs, cs', hc, h => by
    have hx : x.op = 7 → cs'[x.n.toNat]? = cs[x.n.toNat]? := fun h7 => hc _ (by rw [gn_nd]; simp [h7])
    have hk : ∀ i ∈ gn ks, cs'[i]? = cs[i]? := fun i hi => hc i (by rw [gn_nd]; simp [hi])
    have hr : ∀ i ∈ gn r, cs'[i]? = cs[i]? := fun i hi => hc i (by rw [gn_nd]; simp [hi])
    refine ⟨?_, Nst_congr hr h.2⟩
    have h1 := h.1
    split at h1
    · rename_i h7
      rw [if_pos h7]
      obtain ⟨s, hs, h2⟩ := h1
      refine ⟨s, by rw [hx h7]; exact hs, h2.imp (fun ⟨a, b⟩ => ⟨a, fun i hi => by rw [hk i hi]; exact b i hi⟩) fun ⟨c, d, e, g⟩ => ⟨c, d, e, Nst_congr hk g⟩⟩
    · rename_i h7
      rw [if_neg h7]
      exact Nst_congr hk h1
theorem fgt_get : ∀ (l : List Nd) (cs : List Sp), (∀ i ∈ gl l, i < cs.length) → (∀ i ∈ gl l, (fgt l cs)[i]? = some noS) ∧ ∀ i, i ∉ gl l → (fgt l cs)[i]? = cs[i]?
  | [], cs, _ => ⟨fun i h => by simp [gl] at h, fun i _ => rfl⟩
  | x :: l, cs, hl => by
    have e : fgt (x :: l) cs = fgt l (fg1 cs x) := rfl
    have hl' : ∀ i ∈ gl l, i < (fg1 cs x).length := fun i hi => by rw [fg1_len]; exact hl i (by rw [gl_cons]; simp [hi])
    obtain ⟨h1, h2⟩ := fgt_get l (fg1 cs x) hl'
    rw [e, gl_cons]
    constructor
    · intro i hi
      by_cases hm : i ∈ gl l
      · exact h1 i hm
      · rw [h2 i hm]
        by_cases h7 : x.op = 7
        · simp [h7, hm] at hi
          subst hi
          rw [fg1, if_pos h7, List.getElem?_set_self (hl _ (by rw [gl_cons]; simp [h7]))]
        · simp [h7, hm] at hi
    · intro i hi
      have hm : i ∉ gl l := fun h => hi (by simp [h])
      rw [h2 i hm, fg1]
      split
      · rename_i h7
        rw [List.getElem?_set_ne]
        intro e; subst e
        exact hi (by simp [h7])
      · rfl
theorem reps_nst {x : Nd} {D : Nat → Nat → Prop} {B : Nat → Nat → List Sp → List Sp} {q p0 : Nat} {ks : F} {N : Nat}
    (hB : ∀ p m cs, cs.length = N → D p m → Nst ks p m (B p m cs) ∧ (B p m cs).length = N ∧ ∀ i, i ∉ gn ks → (B p m cs)[i]? = cs[i]?) :
    ∀ f r p cs, p0 ≤ p → cs.length = N → Nst ks p0 q cs → Nst ks p0 q (reps x D B q f r p cs) ∧ ∀ i, i ∉ gn ks → (reps x D B q f r p cs)[i]? = cs[i]?
  | 0, r, p, cs, _, _, h => ⟨h, fun _ _ => rfl⟩
  | f + 1, r, p, cs, hp, hl, h => by
    by_cases hg : ∃ m, Grt (RQ x D r p q) p q m
    · obtain ⟨m, hm⟩ := hg
      rw [reps_go hm]
      obtain ⟨h1, h2, h3⟩ := hB p m cs hl hm.2.2.1.2.2.1
      obtain ⟨h4, h5⟩ := reps_nst (q := q) (p0 := p0) hB f (nxtR x r) m (B p m cs) (Nat.le_trans hp hm.1) h2 (Nst_wide (lo := (p : Int)) (hi := (m : Int)) (by have := hp; omega) (by have h9 : m ≤ q := hm.2.1; omega) h1)
      exact ⟨h4, fun i hi => (h5 i hi).trans (h3 i hi)⟩
    · have : ∀ m, p ≤ m → m ≤ q → ¬ RQ x D r p q m := fun m a b c => hg (grt_ex a b c)
      rw [reps_end this]
      exact ⟨h, fun _ _ => rfl⟩
theorem nodup_parts {x : Nd} {ks r : F} (h : (gn (.nd x ks r)).Nodup) : (gn ks).Nodup ∧ (gn r).Nodup ∧ (∀ i ∈ gn ks, i ∉ gn r) ∧ (x.op = 7 → x.n.toNat ∉ gn ks ∧ x.n.toNat ∉ gn r) := by
  rw [gn_nd, List.nodup_append] at h
  obtain ⟨_, h2, h3⟩ := h
  rw [List.nodup_append] at h2
  refine ⟨h2.1, h2.2.1, fun i hi hr => h2.2.2 i hi i hr rfl, fun h7 => ⟨fun hk => h3 x.n.toNat (by simp [h7]) x.n.toNat (by simp [hk]) rfl, fun hk => h3 x.n.toNat (by simp [h7]) x.n.toNat (by simp [hk]) rfl⟩⟩
theorem bst_nst (w : List UInt8) : ∀ (f : F) (m : Bool) (p q : Nat) (cs : List Sp), (gn f).Nodup → (∀ i ∈ gn f, i < cs.length) → Non f cs → der w f m p q → Nst f p q (bst w f m p q cs) ∧ ∀ i, i ∉ gn f → (bst w f m p q cs)[i]? = cs[i]?
  | .nil, m, p, q, cs, _, _, _, _ => by rw [bst_nil]; exact ⟨trivial, fun _ _ => rfl⟩
  | .nd x ks r, m, p, q, cs, hnd, hsl, hno, hd => by
    obtain ⟨n1, n2, n3, n4⟩ := nodup_parts hnd
    have s1 : ∀ i ∈ gn ks, i < cs.length := fun i hi => hsl i (by rw [gn_nd]; simp [hi])
    have s2 : ∀ i ∈ gn r, i < cs.length := fun i hi => hsl i (by rw [gn_nd]; simp [hi])
    have s3 : x.op = 7 → x.n.toNat < cs.length := fun h7 => hsl _ (by rw [gn_nd]; simp [h7])
    obtain ⟨o1, o2, o3⟩ := hno.split
    have one : ∀ p q, der1 w x ks p q → Nst (.nd x ks .nil) p q (bst1 w x ks p q cs) ∧ ∀ i, i ∉ gn (.nd x ks .nil) → (bst1 w x ks p q cs)[i]? = cs[i]? := by
      intro p q h1
      have g1 : gn (.nd x ks .nil) = (if x.op = 7 then [x.n.toNat] else []) ++ gn ks := by rw [gn_nd]; simp [gn, gl, F.flat]
      rw [g1]
      by_cases h7 : x.op = 7
      · rw [bst1_7 h7, if_pos h7]
        obtain ⟨f1, f2⟩ := fgt_get ks.flat cs s1
        have hdk := (der1_4 (.inr h7)).1 h1
        obtain ⟨k1, k2⟩ := bst_nst w ks false p q (fgt ks.flat cs) n1 (by rw [fgt_len]; exact s1) f1 hdk
        have hlen : (bst w ks false p q (fgt ks.flat cs)).length = cs.length := by rw [bst_len, fgt_len]
        refine ⟨⟨?_, trivial⟩, fun i hi => ?_⟩
        · rw [if_pos h7]
          refine ⟨⟨p, q⟩, List.getElem?_set_self (by rw [hlen]; exact s3 h7), .inr ⟨Int.le_refl _, by have := der1_up _ _ h1; show (p : Int) ≤ q; omega, Int.le_refl _, ?_⟩⟩
          exact Nst_congr (fun i hi => List.getElem?_set_ne (fun e => (n4 h7).1 (by rw [e]; exact hi))) k1
        · simp at hi
          rw [List.getElem?_set_ne (fun e => hi.1 e.symm), k2 i hi.2, f2 i hi.2]
      · rw [if_neg h7, List.nil_append]
        have tr : ∀ c, Nst ks p q c → Nst (.nd x ks .nil) p q c := fun c h => ⟨by rw [if_neg h7]; exact h, trivial⟩
        by_cases h5 : x.op = 5
        · rw [bst1_5 h5]
          obtain ⟨k1, k2⟩ := bst_nst w ks true p q cs n1 s1 o2 ((der1_5 h5).1 h1)
          exact ⟨tr _ k1, k2⟩
        by_cases h4 : x.op = 4
        · rw [bst1_4 h4]
          obtain ⟨k1, k2⟩ := bst_nst w ks false p q cs n1 s1 o2 ((der1_4 (.inl h4)).1 h1)
          exact ⟨tr _ k1, k2⟩
        by_cases h6 : x.op = 6
        · rw [bst1_6 h6]
          obtain ⟨k1, k2⟩ := reps_nst (x := x) (D := der w ks false) (B := fun p q cs => bst w ks false p q (fgt ks.flat cs)) (q := q) (p0 := p) (ks := ks) (N := cs.length) (fun p m c hc hm => by
            obtain ⟨f1, f2⟩ := fgt_get ks.flat c (by rw [hc]; exact s1)
            obtain ⟨k1, k2⟩ := bst_nst w ks false p m (fgt ks.flat c) n1 (by rw [fgt_len, hc]; exact s1) f1 hm
            exact ⟨k1, by rw [bst_len, fgt_len, hc], fun i hi => (k2 i hi).trans (f2 i hi)⟩) ((q - p) + max x.mn.toNat 1 + 1) 0 p cs (Nat.le_refl _) rfl (Nst_non o2)
          exact ⟨tr _ k1, k2⟩
        · have e : bst1 w x ks p q cs = cs := by rw [bst1, if_neg h7, if_neg h5, if_neg h4, if_neg h6]
          rw [e]
          exact ⟨tr _ (Nst_non o2), fun _ _ => rfl⟩
    have up1 : ∀ {lo hi c}, Nst (.nd x ks .nil) lo hi c → Nst r lo hi c → Nst (.nd x ks r) lo hi c := fun h h' => ⟨h.1, h'⟩
    have g1 : ∀ i, i ∈ gn (.nd x ks .nil) ↔ (x.op = 7 ∧ i = x.n.toNat) ∨ i ∈ gn ks := fun i => by
      rw [gn_nd]
      by_cases h7 : x.op = 7 <;> simp [h7, gn, gl, F.flat]
    have g2 : ∀ i, i ∉ gn (.nd x ks r) → i ∉ gn (.nd x ks .nil) ∧ i ∉ gn r := fun i hi => by
      rw [gn_nd] at hi
      constructor
      · rw [g1]; rintro (⟨h7, rfl⟩ | h)
        · exact hi (by simp [h7])
        · exact hi (by simp [h])
      · exact fun h => hi (by simp [h])
    have g3 : ∀ i ∈ gn (.nd x ks .nil), i ∉ gn r := fun i hi => by
      rcases (g1 i).1 hi with ⟨h7, rfl⟩ | h
      · exact (n4 h7).2
      · exact n3 i h
    cases m with
    | true =>
      rw [bst_alt]
      split
      · rename_i hq
        obtain ⟨k1, k2⟩ := one p q (dQ_iff.1 hq)
        refine ⟨up1 k1 (Nst_non fun i hi => ?_), fun i hi => k2 i (g2 i hi).1⟩
        rw [k2 i (fun h => g3 i h hi)]; exact o3 i hi
      · rename_i hq
        have hdr := (der_alt.1 hd).resolve_left fun h => hq (dQ_t h)
        obtain ⟨k1, k2⟩ := bst_nst w r true p q cs n2 s2 o3 hdr
        refine ⟨up1 (Nst_non fun i hi => ?_) k1, fun i hi => k2 i (g2 i hi).2⟩
        rw [k2 i (g3 i hi)]
        rcases (g1 i).1 hi with ⟨h7, rfl⟩ | h
        · exact o1 h7
        · exact o2 i h
    | false =>
      obtain ⟨t, h1, h2⟩ := der_cat.1 hd
      obtain ⟨n, hn⟩ := grt_ex (Q := fun n => der1 w x ks p n ∧ der w r false n q) (der1_up _ _ h1) (der_up _ _ _ _ h2) ⟨h1, h2⟩
      rw [bst_cat hn]
      obtain ⟨k1, k2⟩ := one p n hn.2.2.1.1
      obtain ⟨l1, l2⟩ := bst_nst w r false n q (bst1 w x ks p n cs) n2 (by rw [bst1_len]; exact s2) (fun i hi => by rw [k2 i (fun h => g3 i h hi)]; exact o3 i hi) hn.2.2.1.2
      refine ⟨up1 (Nst_wide (Int.le_refl _) (by have := hn.2.1; omega) (Nst_congr (fun i hi => l2 i (g3 i hi)) k1)) (Nst_wide (by have := hn.1; omega) (Int.le_refl _) l1), fun i hi => ?_⟩
      rw [l2 i (g2 i hi).2, k2 i (g2 i hi).1]
theorem gl_take {re : List Nd} (h : shapedB re = true) : ∀ j, j ≤ re.length → (gl (re.take j)).Nodup ∧ ∀ i ∈ gl (re.take j), 1 ≤ i ∧ i ≤ gcn (re.take j)
  | 0, _ => by simp [gl]
  | j + 1, hj => by
    obtain ⟨h1, h2⟩ := gl_take h j (by omega)
    have hx : re[j]? = some re[j] := List.getElem?_eq_getElem (by omega)
    have ht := gcn_take hx
    have e : gl (re.take (j + 1)) = gl (re.take j) ++ gl [re[j]] := by rw [List.take_add_one, hx, gl_app]; rfl
    rw [e, gl_cons]
    by_cases h7 : re[j].op = 7
    · have hn := (grp_n h hx h7).1
      rw [if_pos h7] at ht ⊢
      rw [show gl ([] : List Nd) = [] from rfl, List.append_nil]
      refine ⟨List.nodup_append.2 ⟨h1, by simp, fun a ha b hb => ?_⟩, fun i hi => ?_⟩
      · obtain rfl := List.mem_singleton.1 hb
        have := (h2 a ha).2; omega
      · rcases List.mem_append.1 hi with hi | hi
        · have := h2 i hi; omega
        · obtain rfl := List.mem_singleton.1 hi; omega
    · rw [if_neg h7] at ht ⊢
      rw [show gl ([] : List Nd) = [] from rfl, List.append_nil, List.append_nil]
      exact ⟨h1, fun i hi => by have := h2 i hi; omega⟩
theorem gn_root {re : List Nd} {x : Nd} {ks : F} (hs : Shp re x ks) : gn (.nd x ks .nil) = gl re := by
  rw [hs.flat, gn, F.flat]; simp [F.flat]
theorem caps_nst {re : List Nd} {w : List UInt8} {x : Nd} {ks : F} {p q : Nat} (hm : May re w x ks) (hd : der1 w x ks p q) : Nst (.nd x ks .nil) p q (capsV w re x ks p q) ∧ (capsV w re x ks p q)[0]? = some ⟨p, q⟩ := by
  obtain ⟨h1, h2⟩ := gl_take hm.sh re.length (Nat.le_refl _)
  rw [List.take_length] at h1 h2
  have hg := gn_root hm.hs
  obtain ⟨k1, _⟩ := bst_nst w (.nd x ks .nil) false p q (List.replicate (gcn re + 1) noS) (by rw [hg]; exact h1) (fun i hi => by rw [hg] at hi; have := h2 i hi; simp; omega) (fun i hi => by
    rw [hg] at hi; have := h2 i hi
    rw [List.getElem?_replicate, if_pos (by omega)]) (der_one.2 hd)
  rw [bst_one hd] at k1
  refine ⟨Nst_congr (fun i hi => ?_) k1, ?_⟩
  · rw [hg] at hi; have := h2 i hi
    rw [capsV, List.getElem?_set_ne (by omega)]
  · rw [capsV, List.getElem?_set_self (by rw [bst1_len]; simp)]
theorem Nst_at {re : List Nd} {cs : List Sp} : ∀ (f : F) (i e : Nat) (lo hi : Int), Part re f i e → Nst f lo hi cs → ∀ j y js r j', Part re (.nd y js r) j j' → i ≤ j → j < e → y.op = 7 →
    ∃ s, cs[y.n.toNat]? = some s ∧ ((s = noS ∧ Non js cs) ∨ (lo ≤ s.fr ∧ s.fr ≤ s.to ∧ s.to ≤ hi ∧ Nst js s.fr s.to cs))
  | .nil, i, e, lo, hi, hp, _, j, y, js, r, j', hj, h1, h2, h7 => by have := hp.len; simp only [F.size] at this; omega
  | .nd x ks rr, i, e, lo, hi, hp, hn, j, y, js, r, j', hj, h1, h2, h7 => by
    obtain ⟨hx, hk, hr⟩ := hp.head
    by_cases e1 : j = i
    · subst e1
      obtain rfl := hp.uniq hj
      obtain rfl : x = y := by have := hj.head.1; rw [hx] at this; exact Option.some.inj this
      have := hn.1
      rw [if_pos h7] at this
      exact this
    by_cases e2 : j < i + 1 + ks.size
    · have hk1 := hn.1
      split at hk1
      · obtain ⟨s, hs, hc⟩ := hk1
        rcases hc with ⟨_, hno⟩ | ⟨a, b, c, d⟩
        · obtain ⟨t, ht, hc⟩ := Nst_at ks _ _ lo hi hk (Nst_non hno) j y js r j' hj (by omega) e2 h7
          exact ⟨t, ht, hc⟩
        · obtain ⟨t, ht, hc⟩ := Nst_at ks _ _ s.fr s.to hk d j y js r j' hj (by omega) e2 h7
          exact ⟨t, ht, hc.imp id fun ⟨u, v, z, o⟩ => ⟨by omega, v, by omega, o⟩⟩
      · exact Nst_at ks _ _ lo hi hk hk1 j y js r j' hj (by omega) e2 h7
    · exact Nst_at rr _ _ lo hi hr hn.2 j y js r j' hj (by omega) h2 h7
theorem part_mem {re : List Nd} {f : F} {i e k : Nat} {z : Nd} (hp : Part re f i e) (h1 : i ≤ k) (h2 : k < e) (hz : re[k]? = some z) : z ∈ f.flat := by
  have hf := hp.flat
  have hl := hp.len
  have : (re.drop i)[k - i]? = some z := by rw [List.getElem?_drop, show i + (k - i) = k by omega]; exact hz
  rw [hf, List.getElem?_append_left (by rw [F.flat_size]; omega)] at this
  exact List.mem_of_getElem? this
theorem nest_law {re : List Nd} {w : List UInt8} {x : Nd} {ks : F} {p q : Nat} (hm : May re w x ks) (hd : der1 w x ks p q) {i i' : Nat} {y : Nd} {js r : F} (hp : Part re (.nd y js r) i i') (h7 : y.op = 7) :
    ∃ s, (capsV w re x ks p q)[y.n.toNat]? = some s ∧ (s = noS ∨ ((p : Int) ≤ s.fr ∧ s.fr ≤ s.to ∧ s.to ≤ q)) ∧ ∀ k z, i ≤ k → k < i + 1 + js.size → re[k]? = some z → z.op = 7 →
      ∃ t, (capsV w re x ks p q)[z.n.toNat]? = some t ∧ (s = noS → t = noS) ∧ (s ≠ noS → t = noS ∨ (s.fr ≤ t.fr ∧ t.to ≤ s.to)) := by
  obtain ⟨h1, h2⟩ := caps_nst hm hd
  have hroot := hm.hs.part
  have hlt := (List.getElem?_eq_some_iff.1 hp.head.1).1
  obtain ⟨s, hs, hc⟩ := Nst_at _ _ _ _ _ hroot h1 i y js r i' hp (Nat.zero_le _) hlt h7
  refine ⟨s, hs, hc.imp (fun h => h.1) (fun ⟨a, b, c, _⟩ => ⟨a, b, c⟩), fun k z hk1 hk2 hz hz7 => ?_⟩
  by_cases e : k = i
  · subst e
    obtain rfl : y = z := by have := hp.head.1; rw [hz] at this; exact (Option.some.inj this).symm
    exact ⟨s, hs, id, fun _ => .inr ⟨Int.le_refl _, Int.le_refl _⟩⟩
  have hjs := hp.head.2.1
  rcases hc with ⟨h0, hno⟩ | ⟨a, b, c, d⟩
  · have hz' := part_mem hjs (by omega) hk2 hz
    exact ⟨noS, hno _ (gl_mem hz' hz7), fun _ => rfl, fun h => absurd h0 h⟩
  · obtain ⟨z', zs, zr, zj, hzp⟩ := Part.at js _ _ hjs k (by omega) hk2
    obtain rfl : z' = z := by have := hzp.head.1; rw [hz] at this; exact (Option.some.inj this).symm
    obtain ⟨t, ht, hc2⟩ := Nst_at js _ _ _ _ hjs d k z' zs zr zj hzp (by omega) hk2 hz7
    refine ⟨t, ht, fun e => ?_, fun _ => hc2.imp (fun h => h.1) fun ⟨u, _, v, _⟩ => ⟨u, v⟩⟩
    exfalso
    rw [e] at a
    simp only [noS] at a
    omega
/-! the known run -/
def catC : Nd := ⟨4, 0, 0, 0, 0, 2⟩
def grpC : Nd := ⟨7, 0, 1, 0, 0, 1⟩
def reC : List Nd := [catC, grpC, starN, letN 97, letN 98]
def ksG : F := .nd starN ksW .nil
def ksB : F := .nd (letN 98) .nil .nil
def ksC : F := .nd grpC ksG ksB
def wC : List UInt8 := [99, 97, 97, 98]
def Refd (re : List Nd) (b i i' b' : Nat) : Prop := b ≤ b' ∧ ∀ j x, i ≤ j → j < i' → re[j]? = some x → x.op = 8 → 1 ≤ x.n ∧ x.n ≤ (b' : Int)
theorem kidsN_ref {re : List Nd} {step : Nat → List Bool → Option (Nat × List Bool)} (hs : ∀ i en i' en', step i en = some (i', en') → i ≤ i' ∧ Refd re en.length i i' en'.length) :
    ∀ k i en i' en', kidsN step k i en = some (i', en') → i ≤ i' ∧ Refd re en.length i i' en'.length := by
  intro k
  induction k with
  | zero =>
    intro i en i' en' h
    simp only [kidsN, Option.some.injEq, Prod.mk.injEq] at h
    obtain ⟨rfl, rfl⟩ := h
    exact ⟨Nat.le_refl _, Nat.le_refl _, fun j x h1 h2 => by omega⟩
  | succ k ih =>
    intro i en i' en' h
    simp only [kidsN] at h
    split at h
    · cases h
    · rename_i j en1 hst
      obtain ⟨h1, h2, h3⟩ := hs _ _ _ _ hst
      obtain ⟨h4, h5, h6⟩ := ih _ _ _ _ h
      refine ⟨by omega, by omega, fun t x ht1 ht2 hx h8 => ?_⟩
      rcases Nat.lt_or_ge t j with e | e
      · have := h3 t x ht1 e hx h8; omega
      · exact h6 t x e ht2 hx h8
theorem shN_ref {re : List Nd} : ∀ f i en g i' en', shN re f i en g = some (i', en') → i ≤ i' ∧ Refd re en.length i i' en'.length := by
  intro f
  induction f with
  | zero => intro i en g i' en' h; cases h
  | succ f ih =>
    intro i en g i' en' h
    simp only [shN] at h
    split at h
    · cases h
    · rename_i x hx
      split at h
      · split at h
        · cases h
        · rename_i en1 g1 hg
          split at h
          · cases h
          · rename_i i2 en2 hk
            simp only [Option.some.injEq, Prod.mk.injEq] at h
            obtain ⟨rfl, rfl⟩ := h
            obtain ⟨h1, h2, h3⟩ := kidsN_ref (fun i en i' en' h => ih i en g1 i' en' h) _ _ _ _ _ hk
            have he : en.length ≤ en1.length ∧ (x.op = 8 → 1 ≤ x.n ∧ x.n ≤ en.length) := by
              unfold gate at hg
              split at hg
              · split at hg
                · cases hg; rename_i _ hc; exact ⟨Nat.le_refl _, fun _ => ⟨hc.1, hc.2.1⟩⟩
                · cases hg
              split at hg
              · split at hg
                · cases hg; rename_i h8 _ _; exact ⟨by simp, fun h => absurd h h8⟩
                · cases hg
              · cases hg; rename_i h8 _; exact ⟨Nat.le_refl _, fun h => absurd h h8⟩
            have hl : (if x.op = 7 then en2.set (x.n.toNat - 1) true else en2).length = en2.length := by split <;> simp
            refine ⟨by omega, by rw [hl]; omega, fun j y hj1 hj2 hy h8 => ?_⟩
            rw [hl]
            by_cases e : j = i
            · subst e
              rw [hx] at hy; cases hy
              have := he.2 h8; omega
            · exact h3 j y (by omega) hj2 hy h8
      · cases h
theorem ref_n {re : List Nd} (h : shapedB re = true) {y : Nd} (hy : y ∈ re) (h8 : y.op = 8) : 1 ≤ y.n ∧ y.n ≤ (gcn re : Nat) := by
  obtain ⟨⟨en, hsh⟩, _⟩ := shapedB_iff.1 h
  obtain ⟨_, h1, _⟩ := shN_num _ _ _ _ _ _ hsh
  obtain ⟨_, _, h3⟩ := shN_ref _ _ _ _ _ _ hsh
  obtain ⟨j, hj⟩ := List.getElem?_of_mem hy
  have h4 := h3 j y (Nat.zero_le _) (List.getElem?_eq_some_iff.1 hj).1 hj h8
  rw [List.take_length] at h1
  simp [gcn] at h1
  simp only [gcn]
  omega
theorem grp_le {re : List Nd} (h : shapedB re = true) {y : Nd} (hy : y ∈ re) (h7 : y.op = 7) : 1 ≤ y.n ∧ y.n ≤ (gcn re : Nat) := by
  obtain ⟨j, hj⟩ := List.getElem?_of_mem hy
  have h1 := grp_n h hj h7
  omega
theorem Part.app {re : List Nd} {f g : F} {a b c : Nat} (h : Part re f a b) (h' : Part re g b c) : Part re (f.app g) a c :=
  ⟨F.wf_app h.wf h'.wf, by rw [h.flat, h'.flat, F.flat_app, List.append_assoc], by rw [h'.len, h.len, F.size_app]; omega, h'.le⟩
theorem part_at {re : List Nd} : ∀ (f : F) (a b : Nat), Part re f a b → ∀ k, a ≤ k → k < b → ∃ y js r e, Part re (.nd y js r) k e
  | .nil, a, b, h, k, h1, h2 => by have := h.len; simp only [F.size] at this; omega
  | .nd x ks r, a, b, h, k, h1, h2 => by
    obtain ⟨_, h3, h4⟩ := h.head
    by_cases e : k = a
    · subst e; exact ⟨x, ks, r, b, h⟩
    · rcases Nat.lt_or_ge k (a + 1 + ks.size) with h5 | h5
      · exact part_at ks _ _ h3 k (by omega) h5
      · exact part_at r _ _ h4 k h5 h2
def BehI (re : List Nd) (hl : List Nat) (i : Nat) : Prop := hl.length = i ∧ ∀ k y js r e, k < i → Part re (.nd y js r) k e → hl[k]? = some (k + 1 + js.size)
theorem BehI.nil {re : List Nd} : BehI re [] 0 := ⟨rfl, fun _ _ _ _ _ h => absurd h (Nat.not_lt_zero _)⟩
theorem BehI.snoc {re : List Nd} {hl : List Nat} {i : Nat} (h : BehI re hl i) {y : Nd} {js r : F} {e : Nat} (hp : Part re (.nd y js r) i e) : BehI re (hl ++ [i + 1 + js.size]) (i + 1) :=
  ⟨by rw [List.length_append, h.1]; rfl, fun k y' js' r' e' hk hp' => by
    by_cases e : k = i
    · subst e
      have hu : js' = js := by
        obtain ⟨h1, _, _⟩ := hp.head
        obtain ⟨h2, _, _⟩ := hp'.head
        rw [h1] at h2
        cases h2
        exact hp'.uniq hp
      subst hu
      rw [List.getElem?_append_right (by rw [h.1]; exact Nat.le_refl _), h.1, Nat.sub_self]; rfl
    · rw [List.getElem?_append_left (by rw [h.1]; omega)]
      exact h.2 k y' js' r' e' (by omega) hp'⟩
theorem Part.one_end {re : List Nd} {y : Nd} {js r : F} {k e : Nat} (hp : Part re (.nd y js r) k e) : Part re (.nd y js .nil) k (k + 1 + js.size) := hp.one
/-! all ends of one node -/
def LF1 (w : List UInt8) (x : Nd) (ks : F) (i j : Nat) (c : Caps) : List Caps := LF w (.nd x ks .nil) true i j c
theorem LF_nilT {w : List UInt8} {i j : Nat} {c : Caps} : LF w .nil true i j c = [] := by rw [LF]; simp
theorem LF_nilF {w : List UInt8} {i j : Nat} {c : Caps} : LF w .nil false i j c = if i = j then [c] else [] := by rw [LF]; simp
theorem LF_alt {w : List UInt8} {y : Nd} {js r : F} {i j : Nat} {c : Caps} : LF w (.nd y js r) true i j c = LF1 w y js i j c ++ LF w r true i j c := by
  rw [LF1, LF, LF, LF_nilT]
  simp only [if_true, List.append_nil]
theorem LF_cat {w : List UInt8} {y : Nd} {js r : F} {i j : Nat} {c : Caps} : LF w (.nd y js r) false i j c = (ends i j).flatMap (fun e => (LF1 w y js i e c).flatMap (fun c1 => LF w r false e j c1)) := by
  rw [LF]
  simp only [Bool.false_eq_true, if_false]
  refine flatMap_congr' fun e _ => ?_
  rw [LF1, LF, LF_nilT]
  simp only [if_true, List.append_nil]
section
variable {w : List UInt8} {x : Nd} {ks : F} {i j : Nat} {c : Caps}
theorem LF1_def : LF1 w x ks i j c = (if x.op = 1 then (if j = i + 1 ∧ (∃ b, w[i]? = some b ∧ x.set.getLsbD b.toNat = true) then [c] else [])
      else if x.op = 2 then (if i = 0 ∧ j = 0 then [c] else [])
      else if x.op = 3 then (if i = w.length ∧ j = w.length then [c] else [])
      else if x.op = 8 then (if sameAt w (c.getD (x.n.toNat - 1) noS) i j = true then [c] else [])
      else if x.op = 5 then LF w ks true i j c
      else if x.op = 6 then RLf x (fun p e c => LF w ks false p e (emp ks.flat c)) j 0 i c
      else if x.op = 7 then (LF w ks false i j (emp ks.flat c)).map (fun d => d.set (x.n.toNat - 1) ⟨i, j⟩)
      else LF w ks false i j c) := by
  rw [LF1, LF, LF_nilT]
  simp only [if_true, List.append_nil]
theorem LF1_1 (h : x.op = 1) : LF1 w x ks i j c = if j = i + 1 ∧ (∃ b, w[i]? = some b ∧ x.set.getLsbD b.toNat = true) then [c] else [] := by rw [LF1_def, if_pos h]
theorem LF1_2 (h : x.op = 2) : LF1 w x ks i j c = if i = 0 ∧ j = 0 then [c] else [] := by rw [LF1_def, if_neg (by omega), if_pos h]
theorem LF1_3 (h : x.op = 3) : LF1 w x ks i j c = if i = w.length ∧ j = w.length then [c] else [] := by rw [LF1_def, if_neg (by omega), if_neg (by omega), if_pos h]
theorem LF1_8 (h : x.op = 8) : LF1 w x ks i j c = if sameAt w (c.getD (x.n.toNat - 1) noS) i j = true then [c] else [] := by rw [LF1_def, if_neg (by omega), if_neg (by omega), if_neg (by omega), if_pos h]
theorem LF1_5 (h : x.op = 5) : LF1 w x ks i j c = LF w ks true i j c := by rw [LF1_def, if_neg (by omega), if_neg (by omega), if_neg (by omega), if_neg (by omega), if_pos h]
theorem LF1_6 (h : x.op = 6) : LF1 w x ks i j c = RLf x (fun p e c => LF w ks false p e (emp ks.flat c)) j 0 i c := by rw [LF1_def, if_neg (by omega), if_neg (by omega), if_neg (by omega), if_neg (by omega), if_neg (by omega), if_pos h]
theorem LF1_7 (h : x.op = 7) : LF1 w x ks i j c = (LF w ks false i j (emp ks.flat c)).map (fun d => d.set (x.n.toNat - 1) ⟨i, j⟩) := by rw [LF1_def, if_neg (by omega), if_neg (by omega), if_neg (by omega), if_neg (by omega), if_neg (by omega), if_neg (by omega), if_pos h]
theorem LF1_4 (h : x.op = 4) : LF1 w x ks i j c = LF w ks false i j c := by rw [LF1_def, if_neg (by omega), if_neg (by omega), if_neg (by omega), if_neg (by omega), if_neg (by omega), if_neg (by omega), if_neg (by omega)]
theorem LF_one : LF w (.nd x ks .nil) false i j c = if i ≤ j then LF1 w x ks i j c else [] := by
  rw [LF_cat]
  have e1 : ∀ e, (LF1 w x ks i e c).flatMap (fun c1 => LF w .nil false e j c1) = if e = j then LF1 w x ks i e c else [] := fun e => by
    by_cases h : e = j
    · rw [if_pos h]
      have : (fun c1 => LF w .nil false e j c1) = fun c1 => [c1] := by funext c1; rw [LF_nilF, if_pos h]
      rw [this, List.flatMap_singleton']
    · rw [if_neg h]
      have : (fun c1 : Caps => LF w .nil false e j c1) = fun _ => [] := by funext c1; rw [LF_nilF, if_neg h]
      rw [this]; simp
  have e2 : ∀ (k : Nat), (down i k).flatMap (fun e => if e = j then LF1 w x ks i e c else []) = if i ≤ j ∧ j < i + k then LF1 w x ks i j c else [] := by
    intro k
    induction k with
    | zero => rw [if_neg (by omega)]; rfl
    | succ k ih =>
      rw [down, List.flatMap_cons, ih]
      by_cases h : i + k = j
      · subst h
        rw [if_pos rfl, if_neg (by omega), if_pos (by omega), List.append_nil]
      · rw [if_neg h, List.nil_append]
        by_cases h2 : i ≤ j ∧ j < i + k
        · rw [if_pos h2, if_pos (by omega)]
        · rw [if_neg h2, if_neg (by omega)]
  rw [flatMap_congr' (fun e _ => e1 e), ends, e2]
  by_cases h : i ≤ j
  · rw [if_pos (by omega), if_pos h]
  · rw [if_neg (by omega), if_neg h]
end
/-! forests by their place and their number of trees -/
theorem Part.uniqN {re : List Nd} : ∀ (f g : F) (i e e' : Nat), Part re f i e → Part re g i e' → f.num = g.num → f = g
  | .nil, .nil, _, _, _, _, _, _ => rfl
  | .nil, .nd y js s, i, e, e', _, _, h => by simp only [F.num] at h; omega
  | .nd x ks r, .nil, i, e, e', _, _, h => by simp only [F.num] at h; omega
  | .nd x ks r, .nd y js s, i, e, e', h1, h2, h => by
    have hk := h1.uniq h2
    subst hk
    obtain ⟨a1, a2, a3⟩ := h1.head
    obtain ⟨b1, b2, b3⟩ := h2.head
    rw [a1] at b1
    cases b1
    rw [Part.uniqN r s _ _ _ a3 b3 (by simp only [F.num] at h; omega)]
open Classical in
noncomputable def foAt (re : List Nd) (k m : Nat) : F := if h : ∃ g, (∃ e, Part re g k e) ∧ g.num = m then h.choose else .nil
theorem foAt_eq {re : List Nd} {g : F} {k e : Nat} (h : Part re g k e) : foAt re k g.num = g := by
  have hx : ∃ g', (∃ e, Part re g' k e) ∧ g'.num = g.num := ⟨g, ⟨e, h⟩, rfl⟩
  unfold foAt
  rw [dif_pos hx]
  obtain ⟨⟨e', h1⟩, h2⟩ := hx.choose_spec
  exact Part.uniqN _ _ _ _ _ h1 h h2
theorem Part.mem {re : List Nd} {g : F} {k e : Nat} (h : Part re g k e) {y : Nd} (hy : y ∈ g.flat) : y ∈ re := List.mem_of_mem_drop (by rw [h.flat]; exact List.mem_append_left _ hy)
theorem foAt_mem {re : List Nd} {k m : Nat} {y : Nd} (h : y ∈ (foAt re k m).flat) : y ∈ re := by
  unfold foAt at h
  split at h
  · rename_i hx
    obtain ⟨⟨e', h1⟩, h2⟩ := hx.choose_spec
    exact h1.mem h
  · simp [F.flat] at h
/-! frames -/
structure Frm where
  up : Nat
  node : Nat
  kid : Nat
  left : Nat
  fr : Nat
  to : Nat
  deriving DecidableEq
structure SrE where
  re : List Nd
  w : List UInt8
  R : List Nat
namespace SrE
variable (K : SrE)
noncomputable def kidsB (node : Nat) : Nat → Nat → Caps → List Caps := fun p e c => LF K.w (foAt K.re (node + 1) 1) false p e (emp (foAt K.re (node + 1) 1).flat c)
noncomputable def kontF (fs : List Frm) : Nat → Nat → Nat → Caps → Option Caps
  | 0, _, _, c => some c
  | n + 1, u, at_, c => if u = 0 then some c else match fs[u - 1]? with
    | none => none
    | some f => match K.re[f.node]? with
      | none => none
      | some x =>
        if x.op = 4 then (LF K.w (foAt K.re f.kid f.left) false at_ f.to c).findSome? (fun c' => kontF fs n f.up f.to c')
        else if x.op = 6 then (RLf x (K.kidsB f.node) f.to f.kid at_ c).findSome? (fun c' => kontF fs n f.up f.to c')
        else kontF fs n f.up at_ (c.set (x.n.toNat - 1) ⟨f.fr, f.to⟩)
noncomputable def kont (fs : List Frm) (u at_ : Nat) (c : Caps) : Option Caps := K.kontF fs u u at_ c
end SrE
def Chn (fs : List Frm) : Prop := ∀ (k : Nat) f, fs[k]? = some f → f.up ≤ k
theorem Chn.snoc {fs : List Frm} (h : Chn fs) {f : Frm} (hf : f.up ≤ fs.length) : Chn (fs ++ [f]) := fun k g hg => by
  rcases Nat.lt_or_ge k fs.length with h' | h'
  · rw [List.getElem?_append_left h'] at hg; exact h k g hg
  · rw [List.getElem?_append_right h'] at hg
    have hk : k - fs.length = 0 := by
      rcases Nat.lt_or_ge (k - fs.length) 1 with a | a
      · omega
      · rw [List.getElem?_eq_none (by simpa using a)] at hg; cases hg
    rw [hk] at hg
    have : f = g := by simpa using hg
    subst this; omega
namespace SrE
variable {K : SrE}
theorem kontF_up {fs : List Frm} (hc : Chn fs) : ∀ (u n : Nat), u ≤ n → ∀ (at_ : Nat) (c : Caps), K.kontF fs n u at_ c = K.kontF fs u u at_ c := by
  intro u
  induction u using Nat.strongRecOn with
  | ind u ih =>
    intro n hn at_ c
    cases u with
    | zero => cases n <;> simp [kontF]
    | succ k =>
      obtain ⟨m, rfl⟩ : ∃ m, n = m + 1 := ⟨n - 1, by omega⟩
      rw [kontF, kontF]
      simp only [Nat.add_one_ne_zero, if_false, Nat.add_sub_cancel]
      cases hf : fs[k]? with
      | none => rfl
      | some f =>
        have hu := hc k f hf
        have e : ∀ at_ c, K.kontF fs m f.up at_ c = K.kontF fs k f.up at_ c := fun at_ c => by
          rw [ih f.up (by omega) m (by omega), ih f.up (by omega) k hu]
        have e2 : K.kontF fs m f.up = K.kontF fs k f.up := by funext a b; exact e a b
        simp only [e2]
theorem kont_zero {fs : List Frm} {at_ : Nat} {c : Caps} : K.kont fs 0 at_ c = some c := rfl
theorem kont_succ {fs : List Frm} (hc : Chn fs) {k : Nat} {f : Frm} {x : Nd} (hf : fs[k]? = some f) (hx : K.re[f.node]? = some x) {at_ : Nat} {c : Caps} : K.kont fs (k + 1) at_ c =
    (if x.op = 4 then (LF K.w (foAt K.re f.kid f.left) false at_ f.to c).findSome? (fun c' => K.kont fs f.up f.to c')
    else if x.op = 6 then (RLf x (K.kidsB f.node) f.to f.kid at_ c).findSome? (fun c' => K.kont fs f.up f.to c')
    else K.kont fs f.up at_ (c.set (x.n.toNat - 1) ⟨f.fr, f.to⟩)) := by
  have e : K.kontF fs k f.up = K.kont fs f.up := by funext a b; exact kontF_up hc f.up k (hc k f hf) a b
  unfold kont at e ⊢
  rw [kontF]
  simp only [Nat.add_one_ne_zero, if_false, Nat.add_sub_cancel, hf, hx, e]
theorem kont_ext {fs gs : List Frm} (hc : Chn fs) (hc' : Chn (fs ++ gs)) : ∀ (u : Nat), u ≤ fs.length → ∀ (at_ : Nat) (c : Caps), K.kont (fs ++ gs) u at_ c = K.kont fs u at_ c := by
  intro u
  induction u using Nat.strongRecOn with
  | ind u ih =>
    intro hu at_ c
    cases u with
    | zero => rfl
    | succ k =>
      have hk : fs[k]? = some fs[k] := List.getElem?_eq_getElem (by omega)
      have hk' : (fs ++ gs)[k]? = some fs[k] := by rw [List.getElem?_append_left (by omega)]; exact hk
      have hup := hc k _ hk
      cases hx : K.re[(fs[k]).node]? with
      | none =>
        unfold kont
        rw [kontF, kontF]
        simp only [Nat.add_one_ne_zero, if_false, Nat.add_sub_cancel, hk, hk', hx]
      | some x =>
        have e : K.kont (fs ++ gs) (fs[k]).up = K.kont fs (fs[k]).up := by funext a b; exact ih _ (by omega) (by omega) a b
        rw [kont_succ hc' hk' hx, kont_succ hc hk hx, e]
end SrE
theorem SimL.find {R : Nat → Prop} {k k' : Caps → Option Caps} (hk : ∀ c c', Sim R c c' → (k c = none ↔ k' c' = none)) {l l' : List Caps} (h : SimL R l l') : l.findSome? k = none ↔ l'.findSome? k' = none := by
  induction h with
  | nil => simp
  | cons a t ih =>
    rw [List.findSome?_cons, List.findSome?_cons]
    have h1 := hk _ _ a
    split
    · rename_i h2
      split
      · simp
      · rename_i h3; rw [h1.2 h3] at h2; cases h2
    · rename_i h2
      rw [h1.1 h2]
      exact ih
namespace SrE
variable {K : SrE}
abbrev Sm (K : SrE) (c c' : Caps) : Prop := Sim (fun n => n + 1 ∈ K.R) c c'
theorem kont_sim (hR : ∀ x ∈ K.re, x.op = 8 → 1 ≤ x.n ∧ x.n.toNat ∈ K.R) {fs : List Frm} (hc : Chn fs) : ∀ (u at_ : Nat) (c c' : Caps), K.Sm c c' → (K.kont fs u at_ c = none ↔ K.kont fs u at_ c' = none) := by
  have hfo : ∀ k m n, refd (foAt K.re k m).flat n → n + 1 ∈ K.R := fun k m n ⟨y, hy, h8, hn⟩ => by
    obtain ⟨h1, h2⟩ := hR y (foAt_mem hy) h8
    rw [← hn, show y.n.toNat - 1 + 1 = y.n.toNat by omega]; exact h2
  intro u
  induction u using Nat.strongRecOn with
  | ind u ih =>
    intro at_ c c' hs
    cases u with
    | zero => simp [kont_zero]
    | succ k =>
      cases hf : fs[k]? with
      | none => unfold kont; rw [kontF, kontF]; simp only [Nat.add_one_ne_zero, if_false, Nat.add_sub_cancel, hf]
      | some f =>
        cases hx : K.re[f.node]? with
        | none => unfold kont; rw [kontF, kontF]; simp only [Nat.add_one_ne_zero, if_false, Nat.add_sub_cancel, hf, hx]
        | some x =>
          have hup := hc k f hf
          rw [kont_succ hc hf hx, kont_succ hc hf hx]
          split
          · exact SimL.find (fun c c' h => ih f.up (by omega) _ c c' h) (LF_sim _ _ _ _ _ _ (hfo _ _) hs)
          split
          · have hB : ∀ p e c c', K.Sm c c' → SimL (fun n => n + 1 ∈ K.R) (K.kidsB f.node p e c) (K.kidsB f.node p e c') := fun p e c c' h => LF_sim _ _ _ _ _ _ (hfo _ _) (h.emp _)
            exact SimL.find (fun c c' h => ih f.up (by omega) _ c c' h) (RLf_sim hB _ _ _ _ _ hs)
          · exact ih f.up (by omega) _ _ _ (hs.set _ _)
end SrE
end Go.HL.Kl.Mc
namespace Go.HL.Kl.Mc
open Go Go.HL Go.HL.Kl AskE
/-! where something stands first in a list -/
section
variable {α : Type} [DecidableEq α]
def fnd (a : α) : List α → Option Nat
  | [] => none
  | b :: l => if b = a then some 0 else (fnd a l).map (· + 1)
theorem fnd_some {a : α} : ∀ {l : List α} {k : Nat}, fnd a l = some k → l[k]? = some a
  | [], _, h => by simp [fnd] at h
  | b :: l, k, h => by
    unfold fnd at h
    split at h
    · cases h; simpa
    · rw [Option.map_eq_some_iff] at h
      obtain ⟨m, h1, rfl⟩ := h
      simpa using fnd_some h1
theorem fnd_none {a : α} : ∀ {l : List α}, fnd a l = none → a ∉ l
  | [], _ => by simp
  | b :: l, h => by
    unfold fnd at h
    split at h
    · cases h
    · rename_i hb
      rw [Option.map_eq_none_iff] at h
      simp [fnd_none h, Ne.symm hb]
end
/-! what the groups have taken that are referred to, as a number -/
structure Tk where
  ahead : Nat
  h : List Sp
  deriving DecidableEq
def zSp : Sp := ⟨0, 0⟩
def chunk (l : List Sp) (q : Nat) : List Sp := (List.range 4).map fun k => l.getD (4 * q + k) zSp
def chunks (l : List Sp) : List (List Sp) := (List.range ((l.length + 3) / 4)).map (chunk l)
theorem chunks_inj {l l' : List Sp} (hl : l.length = l'.length) (h : chunks l = chunks l') : l = l' := by
  apply List.ext_getElem?
  intro m
  rcases Nat.lt_or_ge m l.length with hm | hm
  · have hq : m / 4 < (l.length + 3) / 4 := by omega
    have h1 : (chunks l)[m / 4]? = (chunks l')[m / 4]? := by rw [h]
    unfold chunks at h1
    rw [List.getElem?_map, List.getElem?_map, List.getElem?_range hq, List.getElem?_range (by omega)] at h1
    have h2 : chunk l (m / 4) = chunk l' (m / 4) := by simpa using h1
    have h3 : (chunk l (m / 4))[m % 4]? = (chunk l' (m / 4))[m % 4]? := by rw [h2]
    unfold chunk at h3
    rw [List.getElem?_map, List.getElem?_map, List.getElem?_range (by omega)] at h3
    have h4 : l.getD (4 * (m / 4) + m % 4) zSp = l'.getD (4 * (m / 4) + m % 4) zSp := by simpa using h3
    rw [show 4 * (m / 4) + m % 4 = m by omega] at h4
    rw [List.getD_eq_getElem?_getD, List.getD_eq_getElem?_getD, List.getElem?_eq_getElem hm, List.getElem?_eq_getElem (by omega)] at h4
    rw [List.getElem?_eq_getElem hm, List.getElem?_eq_getElem (by omega)]
    exact congrArg some h4
  · rw [List.getElem?_eq_none hm, List.getElem?_eq_none (by omega)]
theorem chunks_len {l : List Sp} : (chunks l).length = (l.length + 3) / 4 := by simp [chunks]
def stG (ts : List Tk) (n : Nat) : List (List Sp) → Nat × List Tk
  | [] => (n, ts)
  | h :: r => match fnd ⟨n, h⟩ ts with
    | some k => stG ts (k + 1) r
    | none => stG (ts ++ [⟨n, h⟩]) (ts.length + 1) r
def Dec (ts : List Tk) : Nat → List (List Sp) → Nat → Prop
  | n, [], m => n = m
  | n, h :: r, m => ∃ k : Nat, ts[k]? = some ⟨n, h⟩ ∧ Dec ts (k + 1) r m
theorem Dec.mono {ts e : List Tk} : ∀ {hs : List (List Sp)} {n m : Nat}, Dec ts n hs m → Dec (ts ++ e) n hs m
  | [], _, _, h => h
  | h :: r, n, m, ⟨k, h1, h2⟩ => ⟨k, by rw [List.getElem?_append_left (List.getElem?_eq_some_iff.1 h1).1]; exact h1, h2.mono⟩
theorem Dec.snoc {ts : List Tk} : ∀ {hs : List (List Sp)} {h : List Sp} {n m : Nat}, Dec ts n (hs ++ [h]) m ↔ ∃ a k : Nat, Dec ts n hs a ∧ ts[k]? = some ⟨a, h⟩ ∧ m = k + 1
  | [], h, n, m => by
    constructor
    · rintro ⟨k, h1, h2⟩; exact ⟨n, k, rfl, h1, h2.symm⟩
    · rintro ⟨a, k, h1, h2, rfl⟩
      have h1 : n = a := h1
      subst h1
      exact ⟨k, h2, rfl⟩
  | g :: r, h, n, m => by
    constructor
    · rintro ⟨k, h1, h2⟩
      obtain ⟨a, k2, h3, h4, h5⟩ := Dec.snoc.1 h2
      exact ⟨a, k2, ⟨k, h1, h3⟩, h4, h5⟩
    · rintro ⟨a, k2, ⟨k, h1, h3⟩, h4, h5⟩
      exact ⟨k, h1, Dec.snoc.2 ⟨a, k2, h3, h4, h5⟩⟩
theorem Dec.inj {ts : List Tk} {n : Nat} : ∀ (len : Nat) {hs hs' : List (List Sp)} {m : Nat}, hs.length = len → hs'.length = len → Dec ts n hs m → Dec ts n hs' m → hs = hs' := by
  intro len
  induction len with
  | zero => intro hs hs' m h1 h2 _ _; rw [List.eq_nil_of_length_eq_zero h1, List.eq_nil_of_length_eq_zero h2]
  | succ len ih =>
    intro hs hs' m h1 h2 d1 d2
    have e1 := List.dropLast_concat_getLast (l := hs) (by intro e; subst e; simp at h1)
    have e2 := List.dropLast_concat_getLast (l := hs') (by intro e; subst e; simp at h2)
    rw [← e1] at d1
    rw [← e2] at d2
    obtain ⟨a, k, a1, a2, a3⟩ := Dec.snoc.1 d1
    obtain ⟨b, q, b1, b2, b3⟩ := Dec.snoc.1 d2
    obtain rfl : k = q := by omega
    rw [a2] at b2
    have h5 := Option.some.inj b2
    injection h5 with h6 h7
    subst h6
    rw [← e1, ← e2, ih (by simp [h1]) (by simp [h2]) a1 b1, h7]
theorem Dec.fn {ts : List Tk} (hn : ts.Nodup) : ∀ {hs : List (List Sp)} {n m m' : Nat}, Dec ts n hs m → Dec ts n hs m' → m = m'
  | [], _, _, _, h, h' => h.symm.trans h'
  | h :: r, n, m, m', ⟨k, h1, h2⟩, ⟨k', h3, h4⟩ => by
    have : k = k' := by
      have l1 := (List.getElem?_eq_some_iff.1 h1).1
      exact (List.getElem?_inj l1 hn).1 (h1.trans h3.symm)
    subst this
    exact Dec.fn hn h2 h4
theorem stG_spec : ∀ (hs : List (List Sp)) (ts : List Tk) (n : Nat), ts.Nodup → (∃ e, (stG ts n hs).2 = ts ++ e ∧ e.length ≤ hs.length) ∧ (stG ts n hs).2.Nodup ∧ Dec (stG ts n hs).2 n hs (stG ts n hs).1
  | [], ts, n, h => ⟨⟨[], by simp [stG]⟩, by simpa [stG] using h, rfl⟩
  | h :: r, ts, n, hn => by
    unfold stG
    cases hf : fnd ⟨n, h⟩ ts with
    | some k =>
      dsimp only
      obtain ⟨⟨e, h1, hl⟩, h2, h3⟩ := stG_spec r ts (k + 1) hn
      refine ⟨⟨e, h1, by rw [List.length_cons]; omega⟩, h2, k, ?_, h3⟩
      rw [h1, List.getElem?_append_left (List.getElem?_eq_some_iff.1 (fnd_some hf)).1]
      exact fnd_some hf
    | none =>
      dsimp only
      have hnn : (ts ++ [(⟨n, h⟩ : Tk)]).Nodup := List.nodup_append.2 ⟨hn, by simp, fun a ha b hb => by
        obtain rfl := List.mem_singleton.1 hb
        intro e; subst e
        exact fnd_none hf ha⟩
      obtain ⟨⟨e, h1, hl⟩, h2, h3⟩ := stG_spec r (ts ++ [(⟨n, h⟩ : Tk)]) (ts.length + 1) hnn
      refine ⟨⟨([⟨n, h⟩] : List Tk) ++ e, by rw [h1, List.append_assoc], by simp; omega⟩, h2, ts.length, ?_, h3⟩
      rw [h1, List.getElem?_append_left (by simp), List.getElem?_append_right (Nat.le_refl _)]
      simp
/-! the state -/
structure Pt where
  u : Nat
  at_ : Nat
  tk : Nat
  deriving DecidableEq
structure SS where
  fs : List Frm
  ts : List Tk
  F : List Pt
  cs : List Sp
  fuel : Nat
  wk : Nat
def SS.push (S : SS) (f : Frm) : Nat × SS := match fnd f S.fs with
  | some k => (k + 1, S)
  | none => (S.fs.length + 1, { S with fs := S.fs ++ [f] })
def SrE.proj (K : SrE) (cs : List Sp) : List Sp := K.R.map fun n => cs.getD n noS
def SrE.code (K : SrE) (S : SS) : Nat × SS := ((stG S.ts 0 (chunks (K.proj S.cs))).1, { S with ts := (stG S.ts 0 (chunks (K.proj S.cs))).2 })
noncomputable def SrE.bh (K : SrE) (k : Nat) : Nat := k + (foAt K.re k 1).size
def SrE.good (K : SrE) (x : Nd) (cs : List Sp) (i j : Nat) : Prop :=
  (x.op = 1 ∧ j = i + 1 ∧ ∃ b, K.w[i]? = some b ∧ x.set.getLsbD b.toNat = true) ∨ (x.op = 2 ∧ j = 0) ∨ (x.op = 3 ∧ i = K.w.length) ∨
  (x.op = 8 ∧ cs.getD x.n.toNat noS ≠ noS ∧ (K.w.drop (cs.getD x.n.toNat noS).fr.toNat).take ((cs.getD x.n.toNat noS).to - (cs.getD x.n.toNat noS).fr).toNat = (K.w.drop i).take (j - i))
def SrE.inn (K : SrE) (a b : Nat) : List Nd := (K.re.drop a).take (b - a)
def emW : List Nd → List Sp → List Sp
  | [], _ => []
  | x :: l, cs => if x.op = 7 then cs.getD x.n.toNat noS :: emW l (cs.set x.n.toNat noS) else emW l cs
def rst : List Nd → List Sp → List Sp → List Sp
  | [], _, cs => cs
  | x :: l, was, cs => if x.op = 7 then rst l was.tail (cs.set x.n.toNat (was.headD noS)) else rst l was cs
def satK (x : Nd) (k : Nat) : Nat := if x.mx < 0 then min (k + 1) (max x.mn.toNat 1) else k + 1
def SS.fail (S : SS) (b : Bool) (p : Pt) : SS := if b = true then S else { S with F := p :: S.F }
/-! runs -/
inductive SQ
  | take (at_ i j up : Nat)
  | alt (kid left i j up : Nat)
  | next (u at_ : Nat)
  | body (f : Frm) (at_ : Nat)
  | row (f : Frm) (at_ : Nat)
  | rowL (f : Frm) (u at_ : Nat) (es : List Nat)
  | rnd (f : Frm) (at_ : Nat)
  | rndL (f : Frm) (u at_ : Nat) (es : List Nat)
def brk (x : Nd) (f : Frm) (at_ e : Nat) : Prop := e = at_ ∧ x.mn ≤ (f.kid : Int) ∧ 0 < f.kid
def SS.tick (S : SS) : SS := { S with fuel := S.fuel - 1, wk := S.wk + 1 }
inductive Ev (K : SrE) : SS → SQ → Bool → SS → Prop
  | takeNo {S : SS} {at_ i j up : Nat} {x : Nd} (hx : K.re[at_]? = some x) (hf : 0 < S.fuel) (ho : x.op = 1 ∨ x.op = 2 ∨ x.op = 3 ∨ x.op = 8) (hg : ¬ K.good x S.cs i j) : Ev K S (.take at_ i j up) false S.tick
  | takeYes {S S' : SS} {at_ i j up : Nat} {x : Nd} {b : Bool} (hx : K.re[at_]? = some x) (hf : 0 < S.fuel) (ho : x.op = 1 ∨ x.op = 2 ∨ x.op = 3 ∨ x.op = 8) (hg : K.good x S.cs i j) (h : Ev K S.tick (.next up j) b S') : Ev K S (.take at_ i j up) b S'
  | takeAlt {S S' : SS} {at_ i j up : Nat} {x : Nd} {b : Bool} (hx : K.re[at_]? = some x) (hf : 0 < S.fuel) (ho : x.op = 5) (h : Ev K S.tick (.alt (at_ + 1) x.kids.toNat i j up) b S') : Ev K S (.take at_ i j up) b S'
  | takeCat {S S2 S' : SS} {at_ i j up u : Nat} {x : Nd} {b : Bool} (hx : K.re[at_]? = some x) (hf : 0 < S.fuel) (ho : x.op = 4) (hp : S.tick.push ⟨up, at_, at_ + 1, x.kids.toNat, i, j⟩ = (u, S2)) (h : Ev K S2 (.next u i) b S') : Ev K S (.take at_ i j up) b S'
  | takeRep {S S2 S' : SS} {at_ i j up u : Nat} {x : Nd} {b : Bool} (hx : K.re[at_]? = some x) (hf : 0 < S.fuel) (ho : x.op = 6) (hp : S.tick.push ⟨up, at_, 0, 0, 0, j⟩ = (u, S2)) (h : Ev K S2 (.next u i) b S') : Ev K S (.take at_ i j up) b S'
  | takeGrpY {S S2 S' : SS} {at_ i j up u : Nat} {x : Nd} (hx : K.re[at_]? = some x) (hf : 0 < S.fuel) (ho : x.op = 7) (hp : ({ S.tick with cs := fgt (K.inn (at_ + 1) (K.bh at_)) S.cs } : SS).push ⟨up, at_, 0, 0, i, j⟩ = (u, S2)) (h : Ev K S2 (.take (at_ + 1) i j u) true S') : Ev K S (.take at_ i j up) true S'
  | takeGrpN {S S2 S' : SS} {at_ i j up u : Nat} {x : Nd} (hx : K.re[at_]? = some x) (hf : 0 < S.fuel) (ho : x.op = 7) (hp : ({ S.tick with cs := fgt (K.inn (at_ + 1) (K.bh at_)) S.cs } : SS).push ⟨up, at_, 0, 0, i, j⟩ = (u, S2)) (h : Ev K S2 (.take (at_ + 1) i j u) false S') : Ev K S (.take at_ i j up) false { S' with cs := rst (K.inn (at_ + 1) (K.bh at_)) (emW (K.inn (at_ + 1) (K.bh at_)) S.cs) S'.cs }
  | altNil {S : SS} {kid i j up : Nat} : Ev K S (.alt kid 0 i j up) false S
  | altYes {S S' : SS} {kid l i j up : Nat} (h : Ev K S (.take kid i j up) true S') : Ev K S (.alt kid (l + 1) i j up) true S'
  | altNo {S S1 S' : SS} {kid l i j up : Nat} {b : Bool} (h : Ev K S (.take kid i j up) false S1) (h' : Ev K S1 (.alt (K.bh kid) l i j up) b S') : Ev K S (.alt kid (l + 1) i j up) b S'
  | nextZero {S : SS} {at_ : Nat} : Ev K S (.next 0 at_) true S
  | nextMemo {S : SS} {k at_ : Nat} (h : (⟨k + 1, at_, (K.code S).1⟩ : Pt) ∈ S.F) : Ev K S (.next (k + 1) at_) false (K.code S).2
  | nextGo {S S2 : SS} {k at_ : Nat} {f : Frm} {b : Bool} (hn : (⟨k + 1, at_, (K.code S).1⟩ : Pt) ∉ S.F) (hf : S.fs[k]? = some f) (h : Ev K { (K.code S).2 with wk := S.wk + 1 } (.body f at_) b S2) : Ev K S (.next (k + 1) at_) b (S2.fail b ⟨k + 1, at_, (K.code S).1⟩)
  | bodyCat {S S' : SS} {f : Frm} {at_ : Nat} {x : Nd} {b : Bool} (hx : K.re[f.node]? = some x) (ho : x.op = 4) (h : Ev K S (.row f at_) b S') : Ev K S (.body f at_) b S'
  | bodyRep {S S' : SS} {f : Frm} {at_ : Nat} {x : Nd} {b : Bool} (hx : K.re[f.node]? = some x) (ho : x.op = 6) (h : Ev K S (.rnd f at_) b S') : Ev K S (.body f at_) b S'
  | bodyGrpY {S S' : SS} {f : Frm} {at_ : Nat} {x : Nd} (hx : K.re[f.node]? = some x) (h4 : ¬ x.op = 4) (h6 : ¬ x.op = 6) (h : Ev K { S with cs := S.cs.set x.n.toNat ⟨f.fr, f.to⟩ } (.next f.up at_) true S') : Ev K S (.body f at_) true S'
  | bodyGrpN {S S' : SS} {f : Frm} {at_ : Nat} {x : Nd} (hx : K.re[f.node]? = some x) (h4 : ¬ x.op = 4) (h6 : ¬ x.op = 6) (h : Ev K { S with cs := S.cs.set x.n.toNat ⟨f.fr, f.to⟩ } (.next f.up at_) false S') : Ev K S (.body f at_) false { S' with cs := S'.cs.set x.n.toNat (S.cs.getD x.n.toNat noS) }
  | rowZN {S : SS} {f : Frm} {at_ : Nat} (hl : f.left = 0) (he : at_ ≠ f.to) : Ev K S (.row f at_) false S
  | rowZ {S S' : SS} {f : Frm} {at_ : Nat} {b : Bool} (hl : f.left = 0) (he : at_ = f.to) (h : Ev K S (.next f.up at_) b S') : Ev K S (.row f at_) b S'
  | rowS {S S1 S' : SS} {f : Frm} {at_ u l : Nat} {b : Bool} (hl : f.left = l + 1) (hp : S.push { f with kid := K.bh f.kid, left := l, fr := 0 } = (u, S1)) (h : Ev K S1 (.rowL f u at_ (ends at_ f.to)) b S') : Ev K S (.row f at_) b S'
  | rowLNil {S : SS} {f : Frm} {u at_ : Nat} : Ev K S (.rowL f u at_ []) false S
  | rowLYes {S S' : SS} {f : Frm} {u at_ e : Nat} {es : List Nat} (h : Ev K S (.take f.kid at_ e u) true S') : Ev K S (.rowL f u at_ (e :: es)) true S'
  | rowLLast {S S' : SS} {f : Frm} {u at_ e : Nat} {es : List Nat} (hl : f.left = 1) (h : Ev K S (.take f.kid at_ e u) false S') : Ev K S (.rowL f u at_ (e :: es)) false S'
  | rowLNo {S S1 S' : SS} {f : Frm} {u at_ e : Nat} {es : List Nat} {b : Bool} (hl : f.left ≠ 1) (h : Ev K S (.take f.kid at_ e u) false S1) (h' : Ev K S1 (.rowL f u at_ es) b S') : Ev K S (.rowL f u at_ (e :: es)) b S'
  | rndYes {S S1 S' : SS} {f : Frm} {at_ u : Nat} {x : Nd} (hx : K.re[f.node]? = some x) (hm : x.mx < 0 ∨ (f.kid : Int) < x.mx) (hp : S.push { f with kid := satK x f.kid } = (u, S1)) (h : Ev K S1 (.rndL f u at_ (ends at_ f.to)) true S') : Ev K S (.rnd f at_) true S'
  | rndEnd {S S1 S2 S' : SS} {f : Frm} {at_ u : Nat} {x : Nd} {b : Bool} (hx : K.re[f.node]? = some x) (hm : x.mx < 0 ∨ (f.kid : Int) < x.mx) (hp : S.push { f with kid := satK x f.kid } = (u, S1)) (h : Ev K S1 (.rndL f u at_ (ends at_ f.to)) false S2) (he : at_ = f.to ∧ x.mn ≤ (f.kid : Int)) (h' : Ev K S2 (.next f.up at_) b S') : Ev K S (.rnd f at_) b S'
  | rndNo {S S1 S2 : SS} {f : Frm} {at_ u : Nat} {x : Nd} (hx : K.re[f.node]? = some x) (hm : x.mx < 0 ∨ (f.kid : Int) < x.mx) (hp : S.push { f with kid := satK x f.kid } = (u, S1)) (h : Ev K S1 (.rndL f u at_ (ends at_ f.to)) false S2) (he : ¬ (at_ = f.to ∧ x.mn ≤ (f.kid : Int))) : Ev K S (.rnd f at_) false S2
  | rnd0End {S S' : SS} {f : Frm} {at_ : Nat} {x : Nd} {b : Bool} (hx : K.re[f.node]? = some x) (hm : ¬ (x.mx < 0 ∨ (f.kid : Int) < x.mx)) (he : at_ = f.to ∧ x.mn ≤ (f.kid : Int)) (h' : Ev K S (.next f.up at_) b S') : Ev K S (.rnd f at_) b S'
  | rnd0No {S : SS} {f : Frm} {at_ : Nat} {x : Nd} (hx : K.re[f.node]? = some x) (hm : ¬ (x.mx < 0 ∨ (f.kid : Int) < x.mx)) (he : ¬ (at_ = f.to ∧ x.mn ≤ (f.kid : Int))) : Ev K S (.rnd f at_) false S
  | rndLNil {S : SS} {f : Frm} {u at_ : Nat} : Ev K S (.rndL f u at_ []) false S
  | rndLBrk {S : SS} {f : Frm} {u at_ e : Nat} {es : List Nat} {x : Nd} (hx : K.re[f.node]? = some x) (hb : brk x f at_ e) : Ev K S (.rndL f u at_ (e :: es)) false S
  | rndLYes {S S' : SS} {f : Frm} {u at_ e : Nat} {es : List Nat} {x : Nd} (hx : K.re[f.node]? = some x) (hb : ¬ brk x f at_ e) (h : Ev K { S with cs := fgt (K.inn (f.node + 1) (K.bh f.node)) S.cs } (.take (f.node + 1) at_ e u) true S') : Ev K S (.rndL f u at_ (e :: es)) true S'
  | rndLNo {S S1 S' : SS} {f : Frm} {u at_ e : Nat} {es : List Nat} {x : Nd} {b : Bool} (hx : K.re[f.node]? = some x) (hb : ¬ brk x f at_ e) (h : Ev K { S with cs := fgt (K.inn (f.node + 1) (K.bh f.node)) S.cs } (.take (f.node + 1) at_ e u) false S1)
      (h' : Ev K { S1 with cs := rst (K.inn (f.node + 1) (K.bh f.node)) (emW (K.inn (f.node + 1) (K.bh f.node)) S.cs) S1.cs } (.rndL f u at_ es) b S') : Ev K S (.rndL f u at_ (e :: es)) b S'
end Go.HL.Kl.Mc
