/- Groups lie in the match, inner ones in outer ones; the known run. Conditions: none. -/
import Derived.Test.YtmpeokbongnniaaMK1Z
import Derived.Test.YtmpeokbongnniaaMT8Z
import Derived.Test.YtmpeokbongnniaaHlB
import Derived.Test.YtmpeokbongnniaaHTZ
import Derived.Test.YtmpeokbongnniaaMT3Z
namespace Go.HL.Kl.Mc
open Go Go.HL Go.HL.Kl AskE
def gl (l : List Nd) : List Nat := (l.filter fun y => decide (y.op = 7)).map fun y => y.n.toNat
def gn (f : F) : List Nat := gl f.flat
theorem gl_cons (x : Nd) (l : List Nd) : gl (x :: l) = (if x.op = 7 then [x.n.toNat] else []) ++ gl l := by
  unfold gl
  by_cases h : x.op = 7 <;> simp [List.filter_cons, h]
theorem gl_app (l m : List Nd) : gl (l ++ m) = gl l ++ gl m := by simp [gl]
theorem gn_nd (x : Nd) (ks r : F) : gn (.nd x ks r) = (if x.op = 7 then [x.n.toNat] else []) ++ (gn ks ++ gn r) := by
  show gl (x :: (ks.flat ++ r.flat)) = _
  rw [gl_cons, gl_app]; rfl
theorem gl_mem {l : List Nd} {y : Nd} (h : y ∈ l) (h7 : y.op = 7) : y.n.toNat ∈ gl l := List.mem_map.2 ⟨y, List.mem_filter.2 ⟨h, by simp [h7]⟩, rfl⟩
def Non (f : F) (cs : List Sp) : Prop := ∀ i ∈ gn f, cs[i]? = some noS
def Nst : F → Int → Int → List Sp → Prop
  | .nil, _, _, _ => True
  | .nd x ks r, lo, hi, cs => (if x.op = 7 then ∃ s, cs[x.n.toNat]? = some s ∧ ((s = noS ∧ Non ks cs) ∨ (lo ≤ s.fr ∧ s.fr ≤ s.to ∧ s.to ≤ hi ∧ Nst ks s.fr s.to cs)) else Nst ks lo hi cs) ∧ Nst r lo hi cs
theorem Non.split {x : Nd} {ks r : F} {cs : List Sp} (h : Non (.nd x ks r) cs) : (x.op = 7 → cs[x.n.toNat]? = some noS) ∧ Non ks cs ∧ Non r cs := by
  unfold Non at h ⊢
  rw [gn_nd] at h
  refine ⟨fun h7 => h _ (by simp [h7]), fun i hi => h i (by simp [hi]), fun i hi => h i (by simp [hi])⟩
theorem Nst_non : ∀ {f : F} {lo hi : Int} {cs : List Sp}, Non f cs → Nst f lo hi cs
  | .nil, _, _, _, _ => trivial
  | .nd x ks r, lo, hi, cs, h => by
    obtain ⟨h1, h2, h3⟩ := h.split
    refine ⟨?_, Nst_non h3⟩
    split
    · rename_i h7; exact ⟨noS, h1 h7, .inl ⟨rfl, h2⟩⟩
    · exact Nst_non h2
theorem Nst_wide : ∀ {f : F} {lo hi lo' hi' : Int} {cs : List Sp}, lo' ≤ lo → hi ≤ hi' → Nst f lo hi cs → Nst f lo' hi' cs
  | .nil, _, _, _, _, _, _, _, _ => trivial
  | .nd x ks r, lo, hi, lo', hi', cs, a, b, h => by
    refine ⟨?_, Nst_wide a b h.2⟩
    have h1 := h.1
    split at h1
    · rename_i h7
      rw [if_pos h7]
      obtain ⟨s, hs, h2⟩ := h1
      refine ⟨s, hs, h2.imp id fun ⟨c, d, e, g⟩ => ⟨by omega, d, by omega, g⟩⟩
    · rename_i h7
      rw [if_neg h7]
      exact Nst_wide a b h1
theorem Nst_congr : ∀ {f : F} {lo hi : Int} {cs cs' : List Sp}, (∀ i ∈ gn f, cs'[i]? = cs[i]?) → Nst f lo hi cs → Nst f lo hi cs'
  | .nil, _, _, _, _, _, _ => trivial
  | .nd x ks r, lo, hi, cs, cs', hc, h => by
    have hx : x.op = 7 → cs'[x.n.toNat]? = cs[x.n.toNat]? := fun h7 => hc _ (by rw [gn_nd]; simp [h7])
    have hk : ∀ i ∈ gn ks, cs'[i]? = cs[i]? := fun i hi => hc i (by rw [gn_nd]; simp [hi])
    have hr : ∀ i ∈ gn r, cs'[i]? = cs[i]? := fun i hi => hc i (by rw [gn_nd]; simp [hi])
    refine ⟨?_, Nst_congr hr h.2⟩
    have h1 := h.1
    split at h1
    · rename_i h7
      rw [if_pos h7]
      obtain ⟨s, hs, h2⟩ := h1
      refine ⟨s, by rw [hx h7]; exact hs, h2.imp (fun ⟨a, b⟩ => ⟨a, fun i hi => by rw [hk i hi]; exact b i hi⟩) fun ⟨c, d, e, g⟩ => ⟨c, d, e, Nst_congr hk g⟩⟩
    · rename_i h7
      rw [if_neg h7]
      exact Nst_congr hk h1
theorem fgt_get : ∀ (l : List Nd) (cs : List Sp), (∀ i ∈ gl l, i < cs.length) → (∀ i ∈ gl l, (fgt l cs)[i]? = some noS) ∧ ∀ i, i ∉ gl l → (fgt l cs)[i]? = cs[i]?
  | [], cs, _ => ⟨fun i h => by simp [gl] at h, fun i _ => rfl⟩
  | x :: l, cs, hl => by
    have e : fgt (x :: l) cs = fgt l (fg1 cs x) := rfl
    have hl' : ∀ i ∈ gl l, i < (fg1 cs x).length := fun i hi => by rw [fg1_len]; exact hl i (by rw [gl_cons]; simp [hi])
    obtain ⟨h1, h2⟩ := fgt_get l (fg1 cs x) hl'
    rw [e, gl_cons]
    constructor
    · intro i hi
      by_cases hm : i ∈ gl l
      · exact h1 i hm
      · rw [h2 i hm]
        by_cases h7 : x.op = 7
        · simp [h7, hm] at hi
          subst hi
          rw [fg1, if_pos h7, List.getElem?_set_self (hl _ (by rw [gl_cons]; simp [h7]))]
        · simp [h7, hm] at hi
    · intro i hi
      have hm : i ∉ gl l := fun h => hi (by simp [h])
      rw [h2 i hm, fg1]
      split
      · rename_i h7
        rw [List.getElem?_set_ne]
        intro e; subst e
        exact hi (by simp [h7])
      · rfl
theorem reps_nst {x : Nd} {D : Nat → Nat → Prop} {B : Nat → Nat → List Sp → List Sp} {q p0 : Nat} {ks : F} {N : Nat}
    (hB : ∀ p m cs, cs.length = N → D p m → Nst ks p m (B p m cs) ∧ (B p m cs).length = N ∧ ∀ i, i ∉ gn ks → (B p m cs)[i]? = cs[i]?) :
    ∀ f r p cs, p0 ≤ p → cs.length = N → Nst ks p0 q cs → Nst ks p0 q (reps x D B q f r p cs) ∧ ∀ i, i ∉ gn ks → (reps x D B q f r p cs)[i]? = cs[i]?
  | 0, r, p, cs, _, _, h => ⟨h, fun _ _ => rfl⟩
  | f + 1, r, p, cs, hp, hl, h => by
    by_cases hg : ∃ m, Grt (RQ x D r p q) p q m
    · obtain ⟨m, hm⟩ := hg
      rw [reps_go hm]
      obtain ⟨h1, h2, h3⟩ := hB p m cs hl hm.2.2.1.2.2.1
      obtain ⟨h4, h5⟩ := reps_nst (q := q) (p0 := p0) hB f (nxtR x r) m (B p m cs) (Nat.le_trans hp hm.1) h2 (Nst_wide (lo := (p : Int)) (hi := (m : Int)) (by have := hp; omega) (by have h9 : m ≤ q := hm.2.1; omega) h1)
      exact ⟨h4, fun i hi => (h5 i hi).trans (h3 i hi)⟩
    · have : ∀ m, p ≤ m → m ≤ q → ¬ RQ x D r p q m := fun m a b c => hg (grt_ex a b c)
      rw [reps_end this]
      exact ⟨h, fun _ _ => rfl⟩
theorem nodup_parts {x : Nd} {ks r : F} (h : (gn (.nd x ks r)).Nodup) : (gn ks).Nodup ∧ (gn r).Nodup ∧ (∀ i ∈ gn ks, i ∉ gn r) ∧ (x.op = 7 → x.n.toNat ∉ gn ks ∧ x.n.toNat ∉ gn r) := by
  rw [gn_nd, List.nodup_append] at h
  obtain ⟨_, h2, h3⟩ := h
  rw [List.nodup_append] at h2
  refine ⟨h2.1, h2.2.1, fun i hi hr => h2.2.2 i hi i hr rfl, fun h7 => ⟨fun hk => h3 x.n.toNat (by simp [h7]) x.n.toNat (by simp [hk]) rfl, fun hk => h3 x.n.toNat (by simp [h7]) x.n.toNat (by simp [hk]) rfl⟩⟩
theorem bst_nst (w : List UInt8) : ∀ (f : F) (m : Bool) (p q : Nat) (cs : List Sp), (gn f).Nodup → (∀ i ∈ gn f, i < cs.length) → Non f cs → der w f m p q → Nst f p q (bst w f m p q cs) ∧ ∀ i, i ∉ gn f → (bst w f m p q cs)[i]? = cs[i]?
  | .nil, m, p, q, cs, _, _, _, _ => by rw [bst_nil]; exact ⟨trivial, fun _ _ => rfl⟩
  | .nd x ks r, m, p, q, cs, hnd, hsl, hno, hd => by
    obtain ⟨n1, n2, n3, n4⟩ := nodup_parts hnd
    have s1 : ∀ i ∈ gn ks, i < cs.length := fun i hi => hsl i (by rw [gn_nd]; simp [hi])
    have s2 : ∀ i ∈ gn r, i < cs.length := fun i hi => hsl i (by rw [gn_nd]; simp [hi])
    have s3 : x.op = 7 → x.n.toNat < cs.length := fun h7 => hsl _ (by rw [gn_nd]; simp [h7])
    obtain ⟨o1, o2, o3⟩ := hno.split
    have one : ∀ p q, der1 w x ks p q → Nst (.nd x ks .nil) p q (bst1 w x ks p q cs) ∧ ∀ i, i ∉ gn (.nd x ks .nil) → (bst1 w x ks p q cs)[i]? = cs[i]? := by
      intro p q h1
      have g1 : gn (.nd x ks .nil) = (if x.op = 7 then [x.n.toNat] else []) ++ gn ks := by rw [gn_nd]; simp [gn, gl, F.flat]
      rw [g1]
      by_cases h7 : x.op = 7
      · rw [bst1_7 h7, if_pos h7]
        obtain ⟨f1, f2⟩ := fgt_get ks.flat cs s1
        have hdk := (der1_4 (.inr h7)).1 h1
        obtain ⟨k1, k2⟩ := bst_nst w ks false p q (fgt ks.flat cs) n1 (by rw [fgt_len]; exact s1) f1 hdk
        have hlen : (bst w ks false p q (fgt ks.flat cs)).length = cs.length := by rw [bst_len, fgt_len]
        refine ⟨⟨?_, trivial⟩, fun i hi => ?_⟩
        · rw [if_pos h7]
          refine ⟨⟨p, q⟩, List.getElem?_set_self (by rw [hlen]; exact s3 h7), .inr ⟨Int.le_refl _, by have := der1_up _ _ h1; show (p : Int) ≤ q; omega, Int.le_refl _, ?_⟩⟩
          exact Nst_congr (fun i hi => List.getElem?_set_ne (fun e => (n4 h7).1 (by rw [e]; exact hi))) k1
        · simp at hi
          rw [List.getElem?_set_ne (fun e => hi.1 e.symm), k2 i hi.2, f2 i hi.2]
      · rw [if_neg h7, List.nil_append]
        have tr : ∀ c, Nst ks p q c → Nst (.nd x ks .nil) p q c := fun c h => ⟨by rw [if_neg h7]; exact h, trivial⟩
        by_cases h5 : x.op = 5
        · rw [bst1_5 h5]
          obtain ⟨k1, k2⟩ := bst_nst w ks true p q cs n1 s1 o2 ((der1_5 h5).1 h1)
          exact ⟨tr _ k1, k2⟩
        by_cases h4 : x.op = 4
        · rw [bst1_4 h4]
          obtain ⟨k1, k2⟩ := bst_nst w ks false p q cs n1 s1 o2 ((der1_4 (.inl h4)).1 h1)
          exact ⟨tr _ k1, k2⟩
        by_cases h6 : x.op = 6
        · rw [bst1_6 h6]
          obtain ⟨k1, k2⟩ := reps_nst (x := x) (D := der w ks false) (B := fun p q cs => bst w ks false p q (fgt ks.flat cs)) (q := q) (p0 := p) (ks := ks) (N := cs.length) (fun p m c hc hm => by
            obtain ⟨f1, f2⟩ := fgt_get ks.flat c (by rw [hc]; exact s1)
            obtain ⟨k1, k2⟩ := bst_nst w ks false p m (fgt ks.flat c) n1 (by rw [fgt_len, hc]; exact s1) f1 hm
            exact ⟨k1, by rw [bst_len, fgt_len, hc], fun i hi => (k2 i hi).trans (f2 i hi)⟩) ((q - p) + max x.mn.toNat 1 + 1) 0 p cs (Nat.le_refl _) rfl (Nst_non o2)
          exact ⟨tr _ k1, k2⟩
        · have e : bst1 w x ks p q cs = cs := by rw [bst1, if_neg h7, if_neg h5, if_neg h4, if_neg h6]
          rw [e]
          exact ⟨tr _ (Nst_non o2), fun _ _ => rfl⟩
    have up1 : ∀ {lo hi c}, Nst (.nd x ks .nil) lo hi c → Nst r lo hi c → Nst (.nd x ks r) lo hi c := fun h h' => ⟨h.1, h'⟩
    have g1 : ∀ i, i ∈ gn (.nd x ks .nil) ↔ (x.op = 7 ∧ i = x.n.toNat) ∨ i ∈ gn ks := fun i => by
      rw [gn_nd]
      by_cases h7 : x.op = 7 <;> simp [h7, gn, gl, F.flat]
    have g2 : ∀ i, i ∉ gn (.nd x ks r) → i ∉ gn (.nd x ks .nil) ∧ i ∉ gn r := fun i hi => by
      rw [gn_nd] at hi
      constructor
      · rw [g1]; rintro (⟨h7, rfl⟩ | h)
        · exact hi (by simp [h7])
        · exact hi (by simp [h])
      · exact fun h => hi (by simp [h])
    have g3 : ∀ i ∈ gn (.nd x ks .nil), i ∉ gn r := fun i hi => by
      rcases (g1 i).1 hi with ⟨h7, rfl⟩ | h
      · exact (n4 h7).2
      · exact n3 i h
    cases m with
    | true =>
      rw [bst_alt]
      split
      · rename_i hq
        obtain ⟨k1, k2⟩ := one p q (dQ_iff.1 hq)
        refine ⟨up1 k1 (Nst_non fun i hi => ?_), fun i hi => k2 i (g2 i hi).1⟩
        rw [k2 i (fun h => g3 i h hi)]; exact o3 i hi
      · rename_i hq
        have hdr := (der_alt.1 hd).resolve_left fun h => hq (dQ_t h)
        obtain ⟨k1, k2⟩ := bst_nst w r true p q cs n2 s2 o3 hdr
        refine ⟨up1 (Nst_non fun i hi => ?_) k1, fun i hi => k2 i (g2 i hi).2⟩
        rw [k2 i (g3 i hi)]
        rcases (g1 i).1 hi with ⟨h7, rfl⟩ | h
        · exact o1 h7
        · exact o2 i h
    | false =>
      obtain ⟨t, h1, h2⟩ := der_cat.1 hd
      obtain ⟨n, hn⟩ := grt_ex (Q := fun n => der1 w x ks p n ∧ der w r false n q) (der1_up _ _ h1) (der_up _ _ _ _ h2) ⟨h1, h2⟩
      rw [bst_cat hn]
      obtain ⟨k1, k2⟩ := one p n hn.2.2.1.1
      obtain ⟨l1, l2⟩ := bst_nst w r false n q (bst1 w x ks p n cs) n2 (by rw [bst1_len]; exact s2) (fun i hi => by rw [k2 i (fun h => g3 i h hi)]; exact o3 i hi) hn.2.2.1.2
      refine ⟨up1 (Nst_wide (Int.le_refl _) (by have := hn.2.1; omega) (Nst_congr (fun i hi => l2 i (g3 i hi)) k1)) (Nst_wide (by have := hn.1; omega) (Int.le_refl _) l1), fun i hi => ?_⟩
      rw [l2 i (g2 i hi).2, k2 i (g2 i hi).1]
end Go.HL.Kl.Mc

/- What the laws ask of the groups; the known run. Conditions: none. -/
namespace Go.HL.Kl.Mc
open Go Go.HL Go.HL.Kl AskE
theorem gl_take {re : List Nd} (h : shapedB re = true) : ∀ j, j ≤ re.length → (gl (re.take j)).Nodup ∧ ∀ i ∈ gl (re.take j), 1 ≤ i ∧ i ≤ gcn (re.take j)
  | 0, _ => by simp [gl]
  | j + 1, hj => by
    obtain ⟨h1, h2⟩ := gl_take h j (by omega)
    have hx : re[j]? = some re[j] := List.getElem?_eq_getElem (by omega)
    have ht := gcn_take hx
    have e : gl (re.take (j + 1)) = gl (re.take j) ++ gl [re[j]] := by rw [List.take_add_one, hx, gl_app]; rfl
    rw [e, gl_cons]
    by_cases h7 : re[j].op = 7
    · have hn := (grp_n h hx h7).1
      rw [if_pos h7] at ht ⊢
      rw [show gl ([] : List Nd) = [] from rfl, List.append_nil]
      refine ⟨List.nodup_append.2 ⟨h1, by simp, fun a ha b hb => ?_⟩, fun i hi => ?_⟩
      · obtain rfl := List.mem_singleton.1 hb
        have := (h2 a ha).2; omega
      · rcases List.mem_append.1 hi with hi | hi
        · have := h2 i hi; omega
        · obtain rfl := List.mem_singleton.1 hi; omega
    · rw [if_neg h7] at ht ⊢
      rw [show gl ([] : List Nd) = [] from rfl, List.append_nil, List.append_nil]
      exact ⟨h1, fun i hi => by have := h2 i hi; omega⟩
theorem gn_root {re : List Nd} {x : Nd} {ks : F} (hs : Shp re x ks) : gn (.nd x ks .nil) = gl re := by
  rw [hs.flat, gn, F.flat]; simp [F.flat]
theorem caps_nst {re : List Nd} {w : List UInt8} {x : Nd} {ks : F} {p q : Nat} (hm : May re w x ks) (hd : der1 w x ks p q) : Nst (.nd x ks .nil) p q (capsV w re x ks p q) ∧ (capsV w re x ks p q)[0]? = some ⟨p, q⟩ := by
  obtain ⟨h1, h2⟩ := gl_take hm.sh re.length (Nat.le_refl _)
  rw [List.take_length] at h1 h2
  have hg := gn_root hm.hs
  obtain ⟨k1, _⟩ := bst_nst w (.nd x ks .nil) false p q (List.replicate (gcn re + 1) noS) (by rw [hg]; exact h1) (fun i hi => by rw [hg] at hi; have := h2 i hi; simp; omega) (fun i hi => by
    rw [hg] at hi; have := h2 i hi
    rw [List.getElem?_replicate, if_pos (by omega)]) (der_one.2 hd)
  rw [bst_one hd] at k1
  refine ⟨Nst_congr (fun i hi => ?_) k1, ?_⟩
  · rw [hg] at hi; have := h2 i hi
    rw [capsV, List.getElem?_set_ne (by omega)]
  · rw [capsV, List.getElem?_set_self (by rw [bst1_len]; simp)]
theorem Nst_at {re : List Nd} {cs : List Sp} : ∀ (f : F) (i e : Nat) (lo hi : Int), Part re f i e → Nst f lo hi cs → ∀ j y js r j', Part re (.nd y js r) j j' → i ≤ j → j < e → y.op = 7 →
    ∃ s, cs[y.n.toNat]? = some s ∧ ((s = noS ∧ Non js cs) ∨ (lo ≤ s.fr ∧ s.fr ≤ s.to ∧ s.to ≤ hi ∧ Nst js s.fr s.to cs))
  | .nil, i, e, lo, hi, hp, _, j, y, js, r, j', hj, h1, h2, h7 => by have := hp.len; simp only [F.size] at this; omega
  | .nd x ks rr, i, e, lo, hi, hp, hn, j, y, js, r, j', hj, h1, h2, h7 => by
    obtain ⟨hx, hk, hr⟩ := hp.head
    by_cases e1 : j = i
    · subst e1
      obtain rfl := hp.uniq hj
      obtain rfl : x = y := by have := hj.head.1; rw [hx] at this; exact Option.some.inj this
      have := hn.1
      rw [if_pos h7] at this
      exact this
    by_cases e2 : j < i + 1 + ks.size
    · have hk1 := hn.1
      split at hk1
      · obtain ⟨s, hs, hc⟩ := hk1
        rcases hc with ⟨_, hno⟩ | ⟨a, b, c, d⟩
        · obtain ⟨t, ht, hc⟩ := Nst_at ks _ _ lo hi hk (Nst_non hno) j y js r j' hj (by omega) e2 h7
          exact ⟨t, ht, hc⟩
        · obtain ⟨t, ht, hc⟩ := Nst_at ks _ _ s.fr s.to hk d j y js r j' hj (by omega) e2 h7
          exact ⟨t, ht, hc.imp id fun ⟨u, v, z, o⟩ => ⟨by omega, v, by omega, o⟩⟩
      · exact Nst_at ks _ _ lo hi hk hk1 j y js r j' hj (by omega) e2 h7
    · exact Nst_at rr _ _ lo hi hr hn.2 j y js r j' hj (by omega) h2 h7
theorem part_mem {re : List Nd} {f : F} {i e k : Nat} {z : Nd} (hp : Part re f i e) (h1 : i ≤ k) (h2 : k < e) (hz : re[k]? = some z) : z ∈ f.flat := by
  have hf := hp.flat
  have hl := hp.len
  have : (re.drop i)[k - i]? = some z := by rw [List.getElem?_drop, show i + (k - i) = k by omega]; exact hz
  rw [hf, List.getElem?_append_left (by rw [F.flat_size]; omega)] at this
  exact List.mem_of_getElem? this
theorem nest_law {re : List Nd} {w : List UInt8} {x : Nd} {ks : F} {p q : Nat} (hm : May re w x ks) (hd : der1 w x ks p q) {i i' : Nat} {y : Nd} {js r : F} (hp : Part re (.nd y js r) i i') (h7 : y.op = 7) :
    ∃ s, (capsV w re x ks p q)[y.n.toNat]? = some s ∧ (s = noS ∨ ((p : Int) ≤ s.fr ∧ s.fr ≤ s.to ∧ s.to ≤ q)) ∧ ∀ k z, i ≤ k → k < i + 1 + js.size → re[k]? = some z → z.op = 7 →
      ∃ t, (capsV w re x ks p q)[z.n.toNat]? = some t ∧ (s = noS → t = noS) ∧ (s ≠ noS → t = noS ∨ (s.fr ≤ t.fr ∧ t.to ≤ s.to)) := by
  obtain ⟨h1, h2⟩ := caps_nst hm hd
  have hroot := hm.hs.part
  have hlt := (List.getElem?_eq_some_iff.1 hp.head.1).1
  obtain ⟨s, hs, hc⟩ := Nst_at _ _ _ _ _ hroot h1 i y js r i' hp (Nat.zero_le _) hlt h7
  refine ⟨s, hs, hc.imp (fun h => h.1) (fun ⟨a, b, c, _⟩ => ⟨a, b, c⟩), fun k z hk1 hk2 hz hz7 => ?_⟩
  by_cases e : k = i
  · subst e
    obtain rfl : y = z := by have := hp.head.1; rw [hz] at this; exact (Option.some.inj this).symm
    exact ⟨s, hs, id, fun _ => .inr ⟨Int.le_refl _, Int.le_refl _⟩⟩
  have hjs := hp.head.2.1
  rcases hc with ⟨h0, hno⟩ | ⟨a, b, c, d⟩
  · have hz' := part_mem hjs (by omega) hk2 hz
    exact ⟨noS, hno _ (gl_mem hz' hz7), fun _ => rfl, fun h => absurd h0 h⟩
  · obtain ⟨z', zs, zr, zj, hzp⟩ := Part.at js _ _ hjs k (by omega) hk2
    obtain rfl : z' = z := by have := hzp.head.1; rw [hz] at this; exact (Option.some.inj this).symm
    obtain ⟨t, ht, hc2⟩ := Nst_at js _ _ _ _ hjs d k z' zs zr zj hzp (by omega) hk2 hz7
    refine ⟨t, ht, fun e => ?_, fun _ => hc2.imp (fun h => h.1) fun ⟨u, _, v, _⟩ => ⟨u, v⟩⟩
    exfalso
    rw [e] at a
    simp only [noS] at a
    omega
/-! the known run -/
def catC : Nd := ⟨4, 0, 0, 0, 0, 2⟩
def grpC : Nd := ⟨7, 0, 1, 0, 0, 1⟩
def reC : List Nd := [catC, grpC, starN, letN 97, letN 98]
def ksG : F := .nd starN ksW .nil
def ksB : F := .nd (letN 98) .nil .nil
def ksC : F := .nd grpC ksG ksB
def wC : List UInt8 := [99, 97, 97, 98]
end Go.HL.Kl.Mc

/- Spans compared. Conditions: none. -/
namespace Go.HL.Kl.Mc
open Go Go.HL Go.HL.Kl
section
variable {P : Program} {κ : Cx} {L : Loc} {H : Hp} {ty t t' : TypeId} {x y : Operand}
theorem sp_fq {e : Nat} [TU P e (.int .i64)] [TG P e true] (w : World) (p q : Sp) : FQ P w 9998 (Esp p).toArray (Esp q).toArray [(e, 0), (e, 1)] (decide (p = q)) := by
  have h : FQ P w 9998 (Esp p).toArray (Esp q).toArray [(e, 0), (e, 1)] _ :=
    .int (j := .i64) (p := p.fr) (q := q.fr) rfl rfl (.int (j := .i64) (p := p.to) (q := q.to) rfl rfl .nil)
  have e : (p.fr == q.fr && (p.to == q.to && true)) = decide (p = q) := by
    cases p; cases q
    simp only [Sp.mk.injEq, Bool.and_true]
    rw [Bool.eq_iff_iff]
    simp
  rw [← e]; exact h
theorem s_eql_sp {e : Nat} [EG P t] [TU P e (.int .i64)] [TG P e true] [TQ P t [(e, 0), (e, 1)]] {p q : Sp} (hx : ev L x = some (.agg (Esp p).toArray)) (hy : ev L y = some (.agg (Esp q).toArray)) : Step P κ (.binOp .eql t x y t') ty L H (.bool (decide (p = q))) :=
  s_eql_st hx hy fun w => sp_fq w p q
theorem s_neq_sp {e : Nat} [EG P t] [TU P e (.int .i64)] [TG P e true] [TQ P t [(e, 0), (e, 1)]] {p q : Sp} (hx : ev L x = some (.agg (Esp p).toArray)) (hy : ev L y = some (.agg (Esp q).toArray)) : Step P κ (.binOp .neq t x y t') ty L H (.bool (!decide (p = q))) :=
  s_neq_st hx hy fun w => sp_fq w p q
end
end Go.HL.Kl.Mc

/- A slice out of the middle of one. Conditions: none. -/
namespace Go.HL
open Go
def midA (a : Option Addr) (c lo k : Nat) : Option Addr := if c = lo then a else a.map (·.add (lo * k))
section
variable {P : Program} {κ : Cx} {L : HL.Loc} {H : Hp} {ty t : TypeId} {x y z : Operand}
theorem s_slice_mid {e s by' n c : Nat} {a : Option Addr} {kl kh : IntKind} {l h : Int} [TU P t (.slice e)] [TI P e s by'] (hx : ev L x = some (.slice a n c)) (hy : ev L y = some (.int kl l)) (hz : ev L z = some (.int kh h)) (hb : 0 ≤ l ∧ l ≤ h ∧ h ≤ c) :
    Step P κ (.slice t x (some y) (some z) none) ty L H (.slice (midA a c l.toNat s) (h.toNat - l.toNat) (c - l.toNat)) :=
  ⟨fun ρ w d pos af g hρ _ => by
    have b1 : 0 ≤ h ∧ h ≤ c := by omega
    have b2 : 0 ≤ l ∧ l ≤ (h.toNat : Int) := by omega
    have b3 : 0 ≤ l ∧ l ≤ max h 0 := by omega
    have e2 : (Instr.slice t (.slice a n c) (some (.int kl l)) (some (.int kh h)) none).run P w = .ok (.slice (midA a c l.toNat s) (h.toNat - l.toNat) (c - l.toNat)) w := by
      simp [Instr.slice, run_u, Instr.sliceBounds, Instr.sliceBound, asIntOf, b1, b2, b3, run_size, midA]
    simp [execOp, hρ _ _ hx, hρ _ _ hy, hρ _ _ hz, Instr.sliceAt, run_u, e2]⟩
end
theorem flat_mid {α : Type} (E : α → List Value) {k : Nat} [h : Enc E k] (xs : List α) (lo m : Nat) {j : Nat} {u : Value} (hu : (flat E ((xs.drop lo).take m))[j]? = some u) : (flat E xs)[lo * k + j]? = some u := by
  have e : xs = xs.take lo ++ ((xs.drop lo).take m ++ (xs.drop lo).drop m) := by rw [List.take_append_drop, List.take_append_drop]
  have hj : j < (flat E ((xs.drop lo).take m)).length := by
    rcases Nat.lt_or_ge j (flat E ((xs.drop lo).take m)).length with h' | h'
    · exact h'
    · rw [List.getElem?_eq_none h'] at hu; cases hu
  rcases Nat.lt_or_ge lo xs.length with hl | hl
  · rw [e, flat_append, flat_append]
    have hlen : (flat E (xs.take lo)).length = lo * k := by rw [flat_len, List.length_take, Nat.min_eq_left (by omega)]
    rw [List.getElem?_append_right (by omega), hlen, Nat.add_sub_cancel_left, List.getElem?_append_left hj]
    exact hu
  · rw [List.drop_of_length_le hl] at hj; simp [flat] at hj
theorem Rd.mid {α : Type} {E : α → List Value} {k : Nat} [he : Enc E k] {w : World} {a : Option Addr} {n c : Nat} {xs : List α} (h : Rd E w (.slice a n c) xs) (lo hi : Nat) (h1 : lo ≤ hi) (h2 : hi ≤ xs.length) :
    Rd E w (.slice (midA a c lo k) ((xs.drop lo).take (hi - lo)).length (c - lo)) ((xs.drop lo).take (hi - lo)) := by
  have hs := h.sl
  obtain ⟨⟨a', c', hv, hn, h0, hsp⟩, hle⟩ := hs
  simp only [Value.slice.injEq] at hv
  obtain ⟨rfl, rfl, rfl⟩ := hv
  have hlen : ((xs.drop lo).take (hi - lo)).length = hi - lo := by simp; omega
  have hA : ∀ A, midA a c lo k = some A → hi - lo ≠ 0 → A.spot = none := by
    intro A hA hz
    unfold midA at hA
    rw [if_neg (by omega)] at hA
    cases a with
    | none => cases hA
    | some B =>
      have := hsp B rfl (by omega)
      simp only [Option.map_some, Option.some.injEq] at hA
      subst hA
      unfold Addr.add
      split
      · exact this
      · rfl
  refine ⟨⟨⟨_, _, rfl, by rw [hlen]; omega, fun hm => ?_, fun A hA' hz => hA A hA' (by rw [hlen] at hz; exact hz)⟩, by rw [hlen]; omega⟩, fun j u hu => ?_⟩
  · unfold midA at hm
    split at hm
    · have := h0 hm; omega
    · cases a with
      | none => have := h0 rfl; omega
      | some B => cases hm
  · have hne : hi - lo ≠ 0 := by
      intro e
      rw [e, List.take_zero] at hu
      simp [flat] at hu
    have hg := h.get (lo * k + j) u (flat_mid E xs lo (hi - lo) hu)
    have e : ea (.slice (midA a c lo k) ((xs.drop lo).take (hi - lo)).length (c - lo)) j = ea (.slice a xs.length c) (lo * k + j) := by
      unfold midA
      rw [if_neg (by omega)]
      cases a with
      | none => have := h0 rfl; omega
      | some B =>
        simp only [ea, sblk, soff, Option.map_some, oblk, ooff]
        unfold Addr.add
        split
        · rename_i hz; rw [hz, Nat.zero_add]
        · simp only [Nat.add_assoc]
    rw [e]
    exact hg
end Go.HL

/- The document's walk through the best derivation. Conditions: none. -/
namespace Go.HL.Kl.Mc
open Go Go.HL Go.HL.Kl AskE
structure WalkE where
  (bW : Nat)
  (ra : Option Addr) (rc : Nat) (re : List Nd) (ta : Option Addr) (tc : Nat) (tx : List UInt8) (ca : Option Addr) (N cc : Nat)
namespace WalkE
abbrev vre (K : WalkE) : Value := .slice K.ra K.re.length K.rc
abbrev vtx (K : WalkE) : Value := .slice K.ta K.tx.length K.tc
abbrev vca (K : WalkE) : Value := .slice K.ca K.N K.cc
abbrev cells (K : WalkE) : List Value := [K.vre, K.vtx, K.vca]
end WalkE
structure EnvW (w : World) (K : WalkE) (M : List Nat) : Prop where
  p1 : RdP w K.bW 0 K.cells
  d1 : Rd En w K.vre K.re
  d2 : Rd Eb w K.vtx K.tx
  n1 : K.bW ∉ M
  a1 : Apart M K.vre
  a2 : Apart M K.vtx
structure WalkE.ok (K : WalkE) : Prop where
  rng : ∀ x ∈ K.re, -128 ≤ x.op ∧ x.op < 128
  no8 : ∀ x ∈ K.re, ¬ x.op = 8
  len : K.re.length ≤ 1000000
  tx : K.tx.length ≤ 1000000
def BestK (P : Program) (K : WalkE) (fn T : Nat) (x : Nd) (ks : F) : Prop := ∀ (i i1 p q : Nat) (cs : List Sp) (Sc : Hp), Part K.re (.nd x ks .nil) i i1 → p ≤ q → q ≤ K.tx.length → der1 K.tx x ks p q → cs.length = K.N → Slots K.re K.N → OwnS Esp 2 T K.vca cs Sc →
  Fn P fn [pt K.bW, .int .i64 i, .int .i64 p, .int .i64 q] (fun W => EnvW W K (keys Sc)) Sc (fun _ S' => OwnS Esp 2 T K.vca (bst1 K.tx x ks p q cs) S')
def CapR (x : Nd) (r s : Nat) : Prop := r = s ∨ (x.mx = -1 ∧ max x.mn.toNat 1 ≤ r ∧ s = max x.mn.toNat 1)
end Go.HL.Kl.Mc

/- Answers are told by the regex, the text, the place. Conditions: none. -/
namespace Go.HL
open Go
end Go.HL
namespace Go.HL.Kl.Mc
open Go Go.HL Go.HL.Kl
theorem Lft.uniq {w : List UInt8} {x : Nd} {ks : F} {f p q p' q' : Nat} (h : Lft w x ks f p q) (h' : Lft w x ks f p' q') : p = p' ∧ q = q' := by
  have hp : p = p' := by
    rcases Nat.lt_trichotomy p p' with e | e | e
    · exact absurd h.der (h'.left p q h.ge e h.len)
    · exact e
    · exact absurd h'.der (h.left p' q' h'.ge e h'.len)
  subst hp; refine ⟨rfl, ?_⟩
  rcases Nat.lt_trichotomy q q' with e | e | e
  · exact absurd h'.der (h.long q' e h'.len)
  · exact e
  · exact absurd h.der (h'.long q e h.len)
def FRes (re : List Nd) (w : List UInt8) (f : Int) (b : Bool) (L : List Sp) : Prop :=
  (∃ x ks, ∃ g p q : Nat, May re w x ks ∧ f = g ∧ Lft w x ks g p q ∧ b = true ∧ L = capsV w re x ks p q) ∨
  ((¬ ∃ x ks, ∃ g p q : Nat, May re w x ks ∧ f = g ∧ g ≤ p ∧ q ≤ w.length ∧ der1 w x ks p q) ∧ b = false ∧ L = [])
theorem FRes.uniq {re : List Nd} {w : List UInt8} {f : Int} {b b' : Bool} {L L' : List Sp} (h : FRes re w f b L) (h' : FRes re w f b' L') : b = b' ∧ L = L' := by
  rcases h with ⟨x, ks, g, p, q, hm, hg, hl, rfl, rfl⟩ | ⟨hn, rfl, rfl⟩ <;> rcases h' with ⟨x', ks', g', p', q', hm', hg', hl', rfl, rfl⟩ | ⟨hn', rfl, rfl⟩
  · obtain ⟨rfl, rfl⟩ := hm.hs.uniq hm'.hs
    obtain rfl : g = g' := by omega
    obtain ⟨rfl, rfl⟩ := hl.uniq hl'
    exact ⟨rfl, rfl⟩
  · exact absurd ⟨x, ks, g, p, q, hm, hg, hl.ge, hl.len, hl.der⟩ hn'
  · exact absurd ⟨x', ks', g', p', q', hm', hg', hl'.ge, hl'.len, hl'.der⟩ hn
  · exact ⟨rfl, rfl⟩
theorem capsV_le {w : List UInt8} {re : List Nd} {x : Nd} {ks : F} {p q : Nat} : (capsV w re x ks p q).length ≤ re.length + 1 := by
  rw [capsV_len]
  have : gcn re ≤ re.length := List.countP_le_length
  omega
theorem FindP.res {T : Nat} {re : List Nd} {w : List UInt8} {f : Int} {v : Value} {S' : Hp} (h : FindP T re w f v S') : ∃ b L a c, FRes re w f b L ∧ v = .tuple #[.slice a L.length c, .bool b] ∧ OwnS Esp 2 T (.slice a L.length c) L S' := by
  rcases h with ⟨x, ks, g, p, q, hm, hg, hl, a, cc, hv, hO⟩ | ⟨hn, hv, rfl⟩
  · exact ⟨true, _, a, cc, .inl ⟨x, ks, g, p, q, hm, hg, hl, rfl, rfl⟩, hv, hO⟩
  · exact ⟨false, [], none, 0, .inr ⟨hn, rfl, rfl⟩, hv, .nil⟩
def BRes (re : List Nd) (w : List UInt8) (fr to : Int) (b : Bool) (L : List Sp) : Prop :=
  (∃ x ks, ∃ p q : Nat, May re w x ks ∧ fr = p ∧ to = q ∧ p ≤ q ∧ q ≤ w.length ∧ der1 w x ks p q ∧ b = true ∧ L = capsV w re x ks p q) ∨
  ((¬ ∃ x ks, ∃ p q : Nat, May re w x ks ∧ fr = p ∧ to = q ∧ p ≤ q ∧ q ≤ w.length ∧ der1 w x ks p q) ∧ b = false ∧ L = [])
theorem BestP.res {T : Nat} {re : List Nd} {w : List UInt8} {fr to : Int} {v : Value} {S' : Hp} (h : BestP T re w fr to v S') : ∃ b L a c, BRes re w fr to b L ∧ v = .tuple #[.slice a L.length c, .bool b] ∧ OwnS Esp 2 T (.slice a L.length c) L S' := by
  rcases h with ⟨x, ks, p, q, hm, h1, h2, h3, h4, h5, a, cc, hv, hO⟩ | ⟨hn, hv, rfl⟩
  · exact ⟨true, _, a, cc, .inl ⟨x, ks, p, q, hm, h1, h2, h3, h4, h5, rfl, rfl⟩, hv, hO⟩
  · exact ⟨false, [], none, 0, .inr ⟨hn, rfl, rfl⟩, hv, .nil⟩
def spB (j : Nat) : UInt8 := UInt8.ofNat (279 + 7 * j + 3)
def xor3 (x : UInt8) : UInt8 := UInt8.ofNat (BitVec.ofInt 8 (x.toNat : Int) ^^^ BitVec.ofInt 8 3).toNat
end Go.HL.Kl.Mc

/- Matches one behind the other, of whatever finds them. Conditions: none. -/
namespace Go.HL.Kl.Mc
open Go Go.HL Go.HL.Kl AskE
theorem part_ex {f : F} : ∀ {re : List Nd} {i e : Nat} {n : Nat}, Part re f i e → n ∈ gn f → ∃ j y js r j', Part re (.nd y js r) j j' ∧ y.op = 7 ∧ y.n.toNat = n := by
  induction f with
  | nil => intro re i e n _ h; simp [gn, F.flat, gl] at h
  | nd x ks r ih1 ih2 =>
    intro re i e n hp h
    rw [gn_nd] at h
    obtain ⟨_, hk, hr⟩ := hp.head
    rcases List.mem_append.1 h with h | h
    · split at h
      · rename_i h7
        obtain rfl := List.mem_singleton.1 h
        exact ⟨i, x, ks, r, e, hp, h7, rfl⟩
      · cases h
    · rcases List.mem_append.1 h with h | h
      · exact ih1 hk h
      · exact ih2 hr h
theorem caps_in {re : List Nd} {w : List UInt8} {x : Nd} {ks : F} {p q : Nat} (hm : May re w x ks) (hd : der1 w x ks p q) (hpq : p ≤ q) : ∀ s ∈ capsV w re x ks p q, s = noS ∨ ((p : Int) ≤ s.fr ∧ s.fr ≤ s.to ∧ s.to ≤ q) := by
  intro s hs
  obtain ⟨i, hi, rfl⟩ := List.mem_iff_getElem.1 hs
  have hg := List.getElem?_eq_getElem hi
  by_cases h0 : i = 0
  · subst h0
    rw [(caps_nst hm hd).2] at hg
    rw [← Option.some.inj hg]
    exact .inr ⟨Int.le_refl _, by simp only; omega, Int.le_refl _⟩
  by_cases hn : i ∈ gn (.nd x ks .nil)
  · obtain ⟨j, y, js, r, j', hp, h7, rfl⟩ := part_ex hm.hs.part hn
    obtain ⟨t, ht, hc, _⟩ := nest_law hm hd hp h7
    rw [hg] at ht
    rw [Option.some.inj ht]; exact hc
  · left
    obtain ⟨h1, h2⟩ := gl_take hm.sh re.length (Nat.le_refl _)
    rw [List.take_length] at h1 h2
    have hgr := gn_root hm.hs
    obtain ⟨_, k2⟩ := bst_nst w (.nd x ks .nil) false p q (List.replicate (gcn re + 1) noS) (by rw [hgr]; exact h1) (fun i hi => by rw [hgr] at hi; have := h2 i hi; simp; omega) (fun i hi => by
      rw [hgr] at hi; have := h2 i hi
      rw [List.getElem?_replicate, if_pos (by omega)]) (der_one.2 hd)
    have h3 := k2 i hn
    rw [bst_one hd] at h3
    have h4 : (capsV w re x ks p q)[i]? = (List.replicate (gcn re + 1) noS)[i]? := by rw [capsV, List.getElem?_set_ne (by omega), h3]
    rw [hg, List.getElem?_replicate] at h4
    split at h4
    · exact Option.some.inj h4
    · cases h4
structure GoodL (n at_ : Nat) (L : List Sp) (p q : Nat) : Prop where
  hd : L[0]? = some ⟨p, q⟩
  ge : at_ ≤ p
  le : p ≤ q
  ln : q ≤ n
  all : ∀ s ∈ L, s = noS ∨ (0 ≤ s.fr ∧ s.fr ≤ s.to ∧ s.to ≤ n)
  len : L.length ≤ 4294967296
theorem GoodL.mono {n a b : Nat} {L : List Sp} {p q : Nat} (h : GoodL n b L p q) (hab : a ≤ b) : GoodL n a L p q := ⟨h.hd, by have := h.ge; omega, h.le, h.ln, h.all, h.len⟩
theorem FRes.good {re : List Nd} {w : List UInt8} {f : Nat} {L : List Sp} (h : FRes re w (f : Int) true L) : ∃ p q, GoodL w.length f L p q := by
  rcases h with ⟨x, ks, g, p, q, hm, hg, hl, _, rfl⟩ | ⟨_, h, _⟩
  · obtain rfl : f = g := by omega
    have hle := hm.hs.len
    have hcl := capsV_le (w := w) (re := re) (x := x) (ks := ks) (p := p) (q := q)
    refine ⟨p, q, (caps_nst hm hl.der).2, hl.ge, hl.le, hl.len, fun s hs => (caps_in hm hl.der hl.le s hs).imp id fun ⟨h1, h2, h3⟩ => ⟨by omega, h2, by have := hl.len; omega⟩, by omega⟩
  · cases h
theorem FRes.none {re : List Nd} {w : List UInt8} {f : Int} {L : List Sp} (h : FRes re w f false L) : L = [] := by
  rcases h with ⟨_, _, _, _, _, _, _, _, h, _⟩ | ⟨_, _, h⟩
  · cases h
  · exact h
theorem least_ex {P : Nat → Prop} : ∀ n, P n → ∃ m, P m ∧ ∀ k, k < m → ¬ P k := fun n => by
  induction n using Nat.strongRecOn with
  | ind n ih =>
    intro h
    by_cases hk : ∃ k, k < n ∧ P k
    · obtain ⟨k, hk, hp⟩ := hk
      exact ih k hk hp
    · exact ⟨n, h, fun k h1 h2 => hk ⟨k, h1, h2⟩⟩
theorem Lft.ex {w : List UInt8} {x : Nd} {ks : F} {g p q : Nat} (h1 : g ≤ p) (h2 : q ≤ w.length) (h3 : der1 w x ks p q) : ∃ p' q', Lft w x ks g p' q' := by
  obtain ⟨p', ⟨a1, q1, a2, a3⟩, a4⟩ := least_ex (P := fun p => g ≤ p ∧ ∃ q, q ≤ w.length ∧ der1 w x ks p q) p ⟨h1, q, h2, h3⟩
  obtain ⟨k, ⟨q', b1, b2⟩, b3⟩ := least_ex (P := fun k => ∃ q, q + k = w.length ∧ der1 w x ks p' q) (w.length - q1) ⟨q1, by omega, a3⟩
  exact ⟨p', q', a1, der1_up _ _ b2, by omega, b2, fun p2 q2 c1 c2 c3 c4 => a4 p2 c2 ⟨c1, q2, c3, c4⟩, fun q2 c1 c2 c3 => b3 (w.length - q2) (by omega) ⟨q2, by omega, c3⟩⟩
theorem FRes.ex {re : List Nd} {w : List UInt8} {x : Nd} {ks : F} (hm : May re w x ks) (f : Nat) : ∃ b L, FRes re w (f : Int) b L := by
  by_cases h : ∃ x ks, ∃ g p q : Nat, May re w x ks ∧ (f : Int) = g ∧ Lft w x ks g p q
  · obtain ⟨x, ks, g, p, q, h1, h2, h3⟩ := h
    exact ⟨true, _, .inl ⟨x, ks, g, p, q, h1, h2, h3, rfl, rfl⟩⟩
  · refine ⟨false, [], .inr ⟨fun ⟨x', ks', g, p, q, h1, h2, h3, h4, h5⟩ => h ?_, rfl, rfl⟩⟩
    obtain ⟨p', q', hL⟩ := Lft.ex h3 h4 h5
    exact ⟨x', ks', g, p', q', h1, h2, hL⟩
inductive MtS {σ : Type} (stp : σ → Nat → Bool → List Sp → σ → Prop) (n : Nat) : σ → Nat → Int → List (List Sp) → Prop
  | out {s : σ} {a : Nat} {last : Int} (h : n < a) : MtS stp n s a last []
  | none {s s' : σ} {a : Nat} {last : Int} (h : a ≤ n) (hs : stp s a false [] s') : MtS stp n s a last []
  | skip {s s' : σ} {a p : Nat} {last : Int} {L : List Sp} {xs : List (List Sp)} (h : a ≤ n) (hs : stp s a true L s') (hg : GoodL n a L p p) (hl : last = p) (hr : MtS stp n s' (a + 1) last xs) : MtS stp n s a last xs
  | take {s s' : σ} {a p q : Nat} {last : Int} {L : List Sp} {xs : List (List Sp)} (h : a ≤ n) (hs : stp s a true L s') (hg : GoodL n a L p q) (hl : ¬ (p = q ∧ last = p)) (hr : MtS stp n s' q q xs) : MtS stp n s a last (L :: xs)
inductive ChL (n : Nat) : Nat → Int → List (List Sp) → Prop
  | nil {a : Nat} {last : Int} : ChL n a last []
  | cons {a p q : Nat} {last : Int} {L : List Sp} {xs : List (List Sp)} (hg : GoodL n a L p q) (hl : ¬ (p = q ∧ last = p)) (hr : ChL n q q xs) : ChL n a last (L :: xs)
theorem ChL.mono {n a b : Nat} {last : Int} {xs : List (List Sp)} (h : ChL n b last xs) (hab : a ≤ b) : ChL n a last xs := by
  cases h with
  | nil => exact .nil
  | cons hg hl hr => exact .cons (hg.mono hab) hl hr
theorem MtS.ch {σ : Type} {stp : σ → Nat → Bool → List Sp → σ → Prop} {n : Nat} {s : σ} {a : Nat} {last : Int} {xs : List (List Sp)} (h : MtS stp n s a last xs) : ChL n a last xs := by
  induction h with
  | out => exact .nil
  | none => exact .nil
  | skip _ _ _ _ _ ih => exact ih.mono (Nat.le_succ _)
  | take _ _ hg hl _ ih => exact .cons hg hl ih
theorem ChL.len {n a : Nat} {last : Int} {xs : List (List Sp)} (h : ChL n a last xs) : xs.length ≤ n + 1 - a + (if last = a then 0 else 1) := by
  induction h with
  | nil => simp
  | @cons a p q last L xs hg hl hr ih =>
    have h1 := hg.ge
    have h2 := hg.le
    have h3 := hg.ln
    rw [if_pos rfl] at ih
    simp only [List.length_cons]
    by_cases e : q = a
    · have : ¬ last = (a : Int) := fun h => hl ⟨by omega, by omega⟩
      rw [if_neg this]; omega
    · split <;> omega
def stpR (re : List Nd) (w : List UInt8) (_ : Unit) (a : Nat) (b : Bool) (L : List Sp) (_ : Unit) : Prop := FRes re w (a : Int) b L
theorem MtR.ex {re : List Nd} {w : List UInt8} {x : Nd} {ks : F} (hm : May re w x ks) : ∀ (m a : Nat) (last : Int), 2 * (w.length + 1 - a) + (if last = a then 0 else 1) ≤ m → ∃ xs, MtS (stpR re w) w.length () a last xs := by
  intro m
  induction m with
  | zero =>
    intro a last h
    exact ⟨[], .out (by split at h <;> omega)⟩
  | succ m ih =>
    intro a last h
    by_cases ha : a ≤ w.length
    · obtain ⟨b, L, hf⟩ := FRes.ex hm a
      cases b with
      | false => exact ⟨[], .none ha (s' := ()) (by rw [hf.none] at hf; exact hf)⟩
      | true =>
        obtain ⟨p, q, hg⟩ := hf.good
        have h1 := hg.ge
        have h2 := hg.le
        have h3 := hg.ln
        by_cases hl : p = q ∧ last = p
        · obtain ⟨rfl, hl⟩ := hl
          obtain ⟨xs, hx⟩ := ih (a + 1) last (by split at h <;> split <;> omega)
          exact ⟨xs, .skip ha (s' := ()) hf hg hl hx⟩
        · obtain ⟨xs, hx⟩ := ih q q (by
            rw [if_pos rfl]
            split at h
            · rename_i e
              have : a < q := by
                rcases Nat.lt_or_ge a q with h' | h'
                · exact h'
                · exact absurd ⟨by omega, by omega⟩ hl
              omega
            · omega)
          exact ⟨L :: xs, .take ha (s' := ()) hf hg hl hx⟩
    · exact ⟨[], .out (by omega)⟩
theorem MtS.out_nil {σ : Type} {stp : σ → Nat → Bool → List Sp → σ → Prop} {n : Nat} {s : σ} {a : Nat} {last : Int} {xs : List (List Sp)} (h : MtS stp n s a last xs) (ha : n < a) : xs = [] := by
  cases h with
  | out => rfl
  | none h => omega
  | skip h => omega
  | take h => omega
def Det {σ : Type} (stp : σ → Nat → Bool → List Sp → σ → Prop) : Prop := ∀ s a b L s' b2 L2 s2, stp s a b L s' → stp s a b2 L2 s2 → b = b2 ∧ L = L2 ∧ s' = s2
theorem stpR_det {re : List Nd} {w : List UInt8} : Det (stpR re w) := fun _ _ _ _ _ _ _ _ h h' => ⟨(h.uniq h').1, (h.uniq h').2, rfl⟩
theorem MtS.at_none {σ : Type} {stp : σ → Nat → Bool → List Sp → σ → Prop} (hd : Det stp) {n : Nat} {s s' : σ} {a : Nat} {last : Int} {L : List Sp} {xs : List (List Sp)} (h : MtS stp n s a last xs) (ha : a ≤ n) (hs : stp s a false L s') : xs = [] := by
  cases h with
  | out h => omega
  | none _ _ => rfl
  | skip _ h2 => exact absurd (hd _ _ _ _ _ _ _ _ hs h2).1 (by decide)
  | take _ h2 => exact absurd (hd _ _ _ _ _ _ _ _ hs h2).1 (by decide)
theorem MtS.at_some {σ : Type} {stp : σ → Nat → Bool → List Sp → σ → Prop} (hd : Det stp) {n : Nat} {s s' : σ} {a : Nat} {last : Int} {L : List Sp} {xs : List (List Sp)} (h : MtS stp n s a last xs) (ha : a ≤ n) (hs : stp s a true L s') :
    ∃ p q, GoodL n a L p q ∧ ((p = q ∧ last = p ∧ MtS stp n s' (a + 1) last xs) ∨ (¬ (p = q ∧ last = p) ∧ ∃ r, xs = L :: r ∧ MtS stp n s' q q r)) := by
  cases h with
  | out h => omega
  | none _ h2 => exact absurd (hd _ _ _ _ _ _ _ _ hs h2).1 (by decide)
  | skip _ h2 hg hl hr =>
    obtain ⟨_, rfl, rfl⟩ := hd _ _ _ _ _ _ _ _ hs h2
    exact ⟨_, _, hg, .inl ⟨rfl, hl, hr⟩⟩
  | take _ h2 hg hl hr =>
    obtain ⟨_, rfl, rfl⟩ := hd _ _ _ _ _ _ _ _ hs h2
    exact ⟨_, _, hg, .inr ⟨hl, _, rfl, hr⟩⟩
theorem MtS.has {σ : Type} {stp : σ → Nat → Bool → List Sp → σ → Prop} {n : Nat} {s : σ} {a : Nat} {last : Int} {xs : List (List Sp)} (h : MtS stp n s a last xs) (ha : a ≤ n) : ∃ b L s', stp s a b L s' := by
  cases h with
  | out h => omega
  | none _ h2 => exact ⟨_, _, _, h2⟩
  | skip _ h2 => exact ⟨_, _, _, h2⟩
  | take _ h2 => exact ⟨_, _, _, h2⟩
end Go.HL.Kl.Mc

/- Iterators that hand over memory of their own; a method of a pointer called through an interface. Conditions: none. -/
namespace Go.HL
open Go
theorem hin_sub {S H : Hp} (h : HSub H S) : HIn S H := fun x hx => by
  obtain ⟨R, hR⟩ := h
  exact hR.mem_iff.2 (List.mem_append_left _ hx)
def OldL (L : List (Sl UInt8)) (S : Hp) (w : World) : Prop := ∀ p ∈ L, Rd Eb w p.v p.xs ∧ Apart (keys S) p.v
theorem tm_ofP {P : Program} {t e : TypeId} {name : String} {f : FuncId} (hu : P.underlying t = some (.pointer e)) (h : ((P.info? t).bind fun i => (i.methods.find? (·.name == name)).map fun m => (m.path.isEmpty, m.func)) = some (true, some (f, true))) : TM P t name f := by
  refine ⟨fun v w => ?_⟩
  cases hi : P.info? t with
  | none => simp [hi] at h
  | some i =>
    rw [hi] at h
    simp only [Option.bind_some, Option.map_eq_some_iff, Prod.mk.injEq] at h
    obtain ⟨m, hm, hp, hf⟩ := h
    have hz : P.types.size + Made.depth = (P.types.size + (Made.depth - 1)) + 1 := by
      have : 0 < Made.depth := by decide
      omega
    have hpl : m.path.toList = [] := by
      have := Array.isEmpty_iff.1 hp
      rw [this]
    rw [hz]
    have hget : (underlying t).run P w = .ok (.pointer e) w := run_underlying hu w
    simp [method, typeInfo, hi, hm, hpl, follow, hf, receiverAt, hget, Place.get]
section
variable {P : Program} {κ : Cx} {Q : Pst} {L L' : Loc} {H H' : Hp} {ops : Array Oper} {rest : List Oper} {ty : TypeId} {d : Nat} {pos : String} {af : Array Edge} {v : Value}
structure ItV (P : Program) (gf : FuncId) (us lb : List Value) {α : Type} (EV : α → List Value → Hp → Prop) (xs : List α) (pre : Hp → World → Prop) (S : Hp) (IS : Hp → Prop) : Prop where
  enters : Enters P gf
  out : ∀ (l : Nat) (HS HX : List α → Hp → Prop), (∀ pre x vs Sx B, HS pre B → pre ++ [x] <+: xs → EV x vs Sx → Yd P l vs (B ++ Sx) (fun v B' => (v = .bool true ∧ HS (pre ++ [x]) B') ∨ (v = .bool false ∧ HX (pre ++ [x]) B'))) →
    ∀ B, HS [] B → Fn P gf (us ++ [.func (.yield l) #[] #[]] ++ lb) (pre (S ++ B)) (S ++ B) (fun _ S' => ∃ S1 B', S' = S1 ++ B' ∧ IS S1 ∧ (HS xs B' ∨ ∃ p, p <+: xs ∧ HX p B'))

theorem c_rangeV {α : Type} {g : Operand} {ps : Array Tmp} {assign body : Code} {gf : FuncId} {us lb : List Value} {EV : α → List Value → Hp → Prop} {xs : List α} {pre : Hp → World → Prop} {S B0 R : Hp} {IS : Hp → Prop} (I : List α → Hp → Prop) (Ix : Code → List α → Hp → Prop)
    (hg : ev L g = some (.func (.func gf) us.toArray lb.toArray)) (it : ItV P gf us lb EV xs pre S IS) (hpk : Pick H (S ++ B0) R) (hpre : ∀ w H1 S1, St κ.w0 w κ.M H1 → HSub H1 S1 → pre S1 w) (h0 : I [] B0) (hps : (ps.toList.all fun p => Nat.blt p κ.n) = true) (hlen : ∀ x vs Sx, EV x vs Sx → ps.toList.length = vs.length) (hda : noDefC assign = true)
    (hround : ∀ (l : Nat) (r : Loop) (p : List α) (x : α) (B : Hp) (W : World), r.assign = assign → r.body = body → I p B → p ++ [x] <+: xs → ∀ (vs : List Value) (Sx : Hp), EV x vs Sx → ∀ post : Value → Hp → Prop,
      (∀ B', I (p ++ [x]) B' → post (.bool true) ((l, .loop (recAt r .ready none)) :: B')) → (∀ c B', Ix c (p ++ [x]) B' → post (.bool false) ((l, .loop (recAt r .done (some c))) :: B')) →
      C P ⟨κ.n, [], W, keys ((l, .loop (recAt r .ready none)) :: (B ++ Sx))⟩ (Exit.then (Begin P l body (roundPost P l (Post W (keys ((l, .loop (recAt r .ready none)) :: (B ++ Sx))) post))) fun _ _ _ => False) assign ((ps.toList.zip vs).reverse ++ L) ((l, .loop (recAt r .ready none)) :: (B ++ Sx)))
    (hdone : ∀ D S1 B, IS S1 → I xs B → X ⟨κ.n, ⟨.collected D, #[]⟩ :: κ.ds, κ.w0, κ.M⟩ (Q .normal) L ((D, .deferred (some [])) :: (S1 ++ B ++ R)))
    (hstop : ∀ D S1 c p B, IS S1 → p <+: xs → Ix c p B → C P ⟨κ.n, ⟨.collected D, #[]⟩ :: κ.ds, κ.w0, κ.M⟩ Q c L ((D, .deferred (some [])) :: (S1 ++ B ++ R))) :
    C P κ Q (.rangeFunc g ps assign body) L H := by
  refine ⟨fun ro a w hr ok => ?_⟩
  have hro : ro = none := by
    rcases hr with h | h
    · exact h
    · simp [noDefC] at h
  subst hro; refine wpIn_rangeFunc fun fn _ => ?_
  have hgv := ok.fr.ev hg
  obtain ⟨r, hrr⟩ : ∃ r : Loop, r = { state := .ready, pending := none, fn, tmps := a.tmps, params := ps, assign, body, defers := w.heap.size } := ⟨_, rfl⟩
  have er : recAt r .ready none = r := by rw [hrr]; rfl
  obtain ⟨w1, hw1⟩ : ∃ w1, w1 = (w.alloc (.deferred (some []))).alloc (.loop r) := ⟨_, rfl⟩
  have st1 : St κ.w0 w1 κ.M ((w.heap.size + 1, .loop r) :: (w.heap.size, .deferred (some [])) :: H) := by
    have := (ok.st.alloc (.deferred (some []))).alloc (.loop r)
    rw [hw1]; simpa using this
  have hp1 : ((w.heap.size + 1, Obj.loop r) :: (w.heap.size, Obj.deferred (some [])) :: H).Perm ((S ++ ((w.heap.size + 1, Obj.loop (recAt r .ready none)) :: B0)) ++ ((w.heap.size, Obj.deferred (some [])) :: R)) := by
    rw [er]
    have e1 := hpk.perm
    refine (List.Perm.swap _ _ _).trans ?_
    have e2 : (S ++ (w.heap.size + 1, Obj.loop r) :: B0 ++ (w.heap.size, Obj.deferred (some [])) :: R).Perm ((w.heap.size, Obj.deferred (some [])) :: (w.heap.size + 1, Obj.loop r) :: (S ++ B0 ++ R)) := by
      refine List.perm_middle.trans ?_; refine List.Perm.cons _ ?_
      rw [List.append_assoc, List.append_assoc]
      exact List.perm_middle
    exact ((e1.cons _).cons _).trans e2.symm
  have st2 := st1.perm hp1
  have hcall := (it.out (w.heap.size + 1) (fun p B => ∃ B1, B = (w.heap.size + 1, Obj.loop (recAt r .ready none)) :: B1 ∧ I p B1) (fun p B => ∃ c B1, B = (w.heap.size + 1, Obj.loop (recAt r .done (some c))) :: B1 ∧ Ix c p B1)
    (fun p x vs Sx B hB hx hev => by
      obtain ⟨B1, rfl, hi⟩ := hB
      refine yd_of (B := B1 ++ Sx) ok.fr (by rw [hrr]) (by rw [hrr]; exact fun p hp => List.all_eq_true.1 hps p hp) (by rw [hrr]; exact hlen x vs Sx hev) (by rw [hrr]; exact hda) fun W => ?_
      have := hround (w.heap.size + 1) r p x B1 W (by rw [hrr]) (by rw [hrr]) hi hx vs Sx hev (fun v B' => (v = .bool true ∧ ∃ B1, B' = (w.heap.size + 1, Obj.loop (recAt r .ready none)) :: B1 ∧ I (p ++ [x]) B1) ∨ (v = .bool false ∧ ∃ c B1, B' = (w.heap.size + 1, Obj.loop (recAt r .done (some c))) :: B1 ∧ Ix c (p ++ [x]) B1))
        (fun B' hb => .inl ⟨rfl, B', rfl, hb⟩) (fun c B' hb => .inr ⟨rfl, c, B', rfl, hb⟩)
      have e1 : r.params = ps := by rw [hrr]
      have e2 : r.assign = assign := by rw [hrr]
      have e3 : r.body = body := by rw [hrr]
      rw [e1, e2, e3]
      exact this) _ ⟨B0, rfl, h0⟩).calls w1 ?_ st2.has_of
  · refine ⟨w.heap.size + 1, [⟨.collected w.heap.size, #[]⟩], w1, ⟨.fn (.func gf) lb.toArray, (us ++ [Value.func (.yield (w.heap.size + 1)) #[] #[]]).toArray⟩, w1, gf, (us ++ [Value.func (.yield (w.heap.size + 1)) #[] #[]] ++ lb).toArray, w1, ?_, ?_, fun _ _ => trivial, ?_, fun h => by simp [FR, Fence.wide] at h, ?_⟩
    · rw [hw1, hrr]; exact run_enterLoop_outer _ _ _ _ _
    · simp only [resolve, hgv]
      simp [go_sem, Deferred.ofValue]
    · have := it.enters (us ++ [Value.func (.yield (w.heap.size + 1)) #[] #[]] ++ lb).toArray w1
      simpa [invoke] using this
    · refine CallsIn.mono (calls_FR hcall) fun e w3 he => ?_
      obtain ⟨v, S', rfl, ⟨S1, B', rfl, hIS, hB⟩, hst⟩ := he.out
      have st3 := st2.comp hst
      have fr' : Fr { tmps := a.tmps, defers := ⟨.collected w.heap.size, #[]⟩ :: a.defers } κ.n (⟨.collected w.heap.size, #[]⟩ :: κ.ds) L := ⟨ok.fr.size, by simp [ok.fr.defers], ok.fr.get⟩
      have perm3 : ∀ (x : Nat × Obj) (B1 : Hp), (S1 ++ x :: B1 ++ (w.heap.size, Obj.deferred (some [])) :: R).Perm (x :: (w.heap.size, Obj.deferred (some [])) :: (S1 ++ B1 ++ R)) := by
        intro x B1
        refine List.perm_middle.trans ?_; refine (List.Perm.cons _ ?_).trans (List.Perm.swap _ _ _)
        rw [List.append_assoc, List.append_assoc]
        exact List.perm_middle
      rcases hB with ⟨B1, rfl, hi⟩ | ⟨p, hpx, c, B1, rfl, hi⟩
      · have st4 := st3.perm (perm3 _ _)
        refine ⟨none, w3.putObj (w.heap.size + 1) (.loop (recAt r .exhausted none)), run_endLoop (r := recAt r .ready none) (st4.has _ _ List.mem_cons_self) (by simp [recAt]), ?_⟩
        have st5 := (st4.obj (o' := .loop (recAt r .exhausted none)) .here).sub (HSub.skip (HSub.refl _))
        exact (hdone w.heap.size S1 B1 hIS hi).out _ _ ⟨fr', st5⟩
      · have st4 := st3.perm (perm3 _ _)
        refine ⟨some c, w3.putObj (w.heap.size + 1) (.loop (recAt r .exhausted (some c))), run_endLoop (r := recAt r .done (some c)) (st4.has _ _ List.mem_cons_self) (by simp [recAt]), ?_⟩
        have st5 := (st4.obj (o' := .loop (recAt r .exhausted (some c))) .here).sub (HSub.skip (HSub.refl _))
        exact (hstop w.heap.size S1 c p B1 hIS hpx hi).out none _ _ (.inl rfl) ⟨fr', st5⟩
  · exact hpre _ _ _ st2 (HSub.of_pick .here)

theorem s_slice_lo {t : TypeId} {x y : Operand} {e s by' n c : Nat} {a : Option Addr} {kl : IntKind} {l : Int} [TU P t (.slice e)] [TI P e s by'] (hx : ev L x = some (.slice a n c)) (hy : ev L y = some (.int kl l)) (hb : 0 ≤ l ∧ l ≤ n ∧ n ≤ c) :
    Step P κ (.slice t x (some y) none none) ty L H (.slice (midA a c l.toNat s) (n - l.toNat) (c - l.toNat)) :=
  ⟨fun ρ w d pos af g hρ _ => by
    have b1 : 0 ≤ l ∧ l ≤ (n : Int) := by omega
    have b3 : 0 ≤ l ∧ l ≤ max (n : Int) 0 := by omega
    have b4 : (n : Int) ≤ c := by omega
    have e2 : (Instr.slice t (.slice a n c) (some (.int kl l)) none none).run P w = .ok (.slice (midA a c l.toNat s) (n - l.toNat) (c - l.toNat)) w := by
      simp [Instr.slice, run_u, Instr.sliceBounds, Instr.sliceBound, asIntOf, b1, b3, b4, run_size, midA]
    simp [execOp, hρ _ _ hx, hρ _ _ hy, Instr.sliceAt, run_u, e2]⟩
theorem RdK.mid {α : Type} {E : α → List Value} {k : Nat} [he : Enc E k] {a : Option Addr} {n c : Nat} {xs : List α} (h : RdK E κ H (.slice a n c) xs) (lo hi : Nat) (h1 : lo ≤ hi) (h2 : hi ≤ xs.length) :
    RdK E κ H (.slice (midA a c lo k) ((xs.drop lo).take (hi - lo)).length (c - lo)) ((xs.drop lo).take (hi - lo)) := ⟨fun w st => (h.out w st).mid lo hi h1 h2⟩
end
end Go.HL

/- Part of the proofs over this seat: see the text that holds the theorem. Conditions: each theorem bears its own. -/
namespace Go.Proofs.Ytmpeokbongnniaa
open Go Go.HL Go.Proofs Go.HL.Kl
theorem has_fn (c : Cl) (x : Nat) (hx : x < 256) : HL.Fn Try.prog 98 [.agg (Ec c).toArray, .int .u8 x] (fun _ => True) [] (fun v _ => v = .bool (c.getLsbD x)) := by
  refine fn_of Try.func98 rfl rfl rfl fun w0 hw => ?_; refine c_seq fun _ hK1 => ?_; refine c_region ?_; refine o_box rfl rfl rfl fun b2 => ?_; refine o_step rfl (s_assign rfl) ?_; refine o_nil ?_; refine x_then (hK1 _ _ ?_); refine c_seq fun _ hK2 => ?_; refine c_region ?_; refine o_step rfl (s_move rfl) ?_; refine o_step rfl (step_cast (v' := .int .u8 ((x / 64 : Nat) : Int)) (s_shr rfl rfl (by decide)) (congrArg _ (shr6_u8 hx))) ?_; refine o_step rfl (s_idx1 rfl rfl (by omega)) ?_; refine o_step rfl (s_ld rfl ((RdPK.own meA).cel (j := x / 64) (Ec_get _ (by omega)) (by omega))) ?_; refine o_step rfl (s_move rfl) ?_; refine o_step rfl (step_cast (v' := .int .u8 ((x % 64 : Nat) : Int)) (s_and rfl rfl) (congrArg _ (v_and63 hx))) ?_; refine o_step rfl (s_shr rfl rfl (by omega)) ?_; refine o_step rfl (s_and rfl rfl) ?_; refine o_step rfl (step_cast (v' := .bool (c.getLsbD x)) (s_eql rfl rfl) (congrArg Value.bool (hasB c hx))) ?_
  refine o_step rfl (s_assign rfl) ?_; refine o_nil ?_; refine x_then (hK2 _ _ ?_); refine c_ret ?_; refine ?_; exact x_ret rfl (.tmp rfl (.nil)) (rfl)

end Go.Proofs.Ytmpeokbongnniaa
