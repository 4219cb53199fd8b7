/- An abstract machine for Go programs, and its soundness: the framework of this proof; no condition. -/
import Derived.Laws.Small
import Derived.Laws.Cover3
import Derived.Test.YtmdmlncdjdphdaaGreatHearth1
set_option linter.unusedVariables false
set_option linter.unusedSimpArgs false
/- The abstract machine: append, the step. -/
namespace Hearth
open Go
section
variable {P : Program} {N : Nat} {w0 : World} {own0 : Nat → Nat → Prop} {hdr0 : Nat → Value} {Fr : List ((Nat → Prop) × World)} {own : Nat → Nat → Prop} {hdr : Nat → Value} {s : St} {a : Act} {w : World}
theorem run_append_room' {w : World} (t ty e e0 : TypeId) (i : TypeInfo) (ht : P.underlying t = some (.slice e)) (hi : P.info? e = some i)
    (g sLen sCap : Nat) (cur : Array Value) (hg : w.heap[g]? = some (.cells cur e0 (0, 0)))
    (a : Addr) (m c : Nat) (news : List Value) (hl : news.length = m * i.size) (hnews : ∀ j u, news[j]? = some u → w.cell? (a.add j) = some u) (h1 : ∀ u ∈ news, u.oneCell' = true)
    (hroom : sLen + m ≤ sCap) (hfit : sLen * i.size + news.length ≤ cur.size) :
    (Builtin.append_ #[t, t] ty #[.slice (some ⟨g, 0, none⟩) sLen sCap, .slice (some a) m c]).run P w =
      .ok (.slice (some ⟨g, 0, none⟩) (sLen + m) sCap) (w.setRow g (cur.toList.take (sLen * i.size) ++ news ++ cur.toList.drop (sLen * i.size + news.length)).toArray) := by
  have hf := run_firstCells_some (P := P) w i.size m a m c news hl hnews
  have hst := run_storeCells_at (P := P) g (sLen * i.size) e0 news 0 cur w hg (by simpa using hfit) h1
  simp only [Nat.add_zero] at hst
  simp [Builtin.append_, run_underlying ht, Go.sizeOf, typeInfo, hi, Builtin.lenOf, hroom, hf, Addr.add_lit, hst]
theorem run_append_zero {w : World} (t ty e : TypeId) (i : TypeInfo) (ht : P.underlying t = some (.slice e)) (hi : P.info? e = some i) (A : Option Addr) (n cap : Nat) (hn : n ≤ cap) (B : Option Addr) (c : Nat) :
    (Builtin.append_ #[t, t] ty #[.slice A n cap, .slice B 0 c]).run P w = .ok (.slice A n cap) w := by
  cases A <;> cases B <;> simp [Builtin.append_, run_underlying ht, Go.sizeOf, typeInfo, hi, Builtin.lenOf, hn, Builtin.firstCells, loadCells, loadCellsFrom, storeCells]
structure FlatOwn (w : World) (own : Nat → Nat → Prop) (dp : Bool) (sz : Nat) (rows : List (List DV)) (L : List Value) (G : Nat → Nat → Prop) : Prop where
  len : L.length = rows.length * sz
  szs : ∀ (i : Nat) (cs : List DV), rows[i]? = some cs → cs.length = sz
  ow : ∀ (i j : Nat) (cs : List DV) (d : DV), rows[i]? = some cs → cs[j]? = some d → ∃ u, L[i * sz + j]? = some u ∧ Own w (Free w own) dp d u (G (i * sz + j))
theorem FlatOwn.app {dp dp' : Bool} {sz : Nat} {r1 r2 : List (List DV)} {L1 L2 : List Value} {G1 G2 : Nat → Nat → Prop} (h1 : FlatOwn w own dp sz r1 L1 G1) (h2 : FlatOwn w own dp' sz r2 L2 G2) :
    FlatOwn w own (dp && dp') sz (r1 ++ r2) (L1 ++ L2) (fun k c => if k < r1.length * sz then G1 k c else G2 (k - r1.length * sz) c) := by
  refine ⟨by rw [List.length_append, List.length_append, h1.len, h2.len, Nat.add_mul], fun i cs hi => ?_, fun i j cs d hi hj => ?_⟩
  · rw [List.getElem?_append] at hi
    split at hi
    · exact h1.szs i cs hi
    · exact h2.szs _ cs hi
  · have hjs : ∀ (h : cs.length = sz), j < sz := fun h => by rw [← h]; exact (List.getElem?_eq_some_iff.1 hj).1
    rw [List.getElem?_append] at hi
    split at hi
    · rename_i hlt
      obtain ⟨u, h3, h4⟩ := h1.ow i j cs d hi hj
      have hk := flat_lt (hjs (h1.szs i cs hi)) hlt
      refine ⟨u, ?_, ?_⟩
      · rw [List.getElem?_append, if_pos (by rw [h1.len]; exact hk)]; exact h3
      · exact h4.mono (by cases dp <;> simp) (fun b hb => ⟨rfl, hb⟩) _ fun b hb => ⟨rfl, by rw [if_pos hk]; exact hb⟩
    · rename_i hge
      obtain ⟨u, h3, h4⟩ := h2.ow _ j cs d hi hj
      have hk : ¬ i * sz + j < r1.length * sz := by
        have := Nat.mul_le_mul_right sz (show r1.length ≤ i by omega)
        omega
      have he : i * sz + j - r1.length * sz = (i - r1.length) * sz + j := by
        rw [Nat.sub_mul]
        have := Nat.mul_le_mul_right sz (show r1.length ≤ i by omega)
        omega
      refine ⟨u, ?_, ?_⟩
      · rw [List.getElem?_append, if_neg (by rw [h1.len]; exact hk), h1.len, he]; exact h3
      · exact h4.mono (by cases dp <;> simp) (fun b hb => ⟨rfl, hb⟩) _ fun b hb => ⟨rfl, by rw [if_neg hk, he]; exact hb⟩
theorem Src.flat {v : Value} {dp : Bool} {y : DV} {ids : List Nat} (h : Src w own v dp y ids) (hsl : y.isSl = true) :
    ∃ (A : Option Addr) (c : Nat) (L : List Value) (G : Nat → Nat → Prop), v = .slice A y.len c ∧ L.length = y.len * y.esz ∧ (0 < y.len → ∃ ad, A = some ad ∧ ∀ (k : Nat) (u : Value), L[k]? = some u → w.cell? (ad.add k) = some u) ∧
      (∀ u ∈ L, u.oneCell' = true) ∧ (∀ k c, G k c → ∃ j ∈ ids, own j c) ∧ (∀ k k' c, G k c → G k' c → k = k') ∧ FlatOwn w own dp y.esz y.rows L G := by
  obtain ⟨A, c, us, G, h1, h2, h3, h4, h5, h6, h7⟩ := h.ex
  have hl := len_rows hsl
  refine ⟨A, c, flatU us y.esz y.len, G, h1, flatU_len _ _ _, h2, h3, h4, h5, by rw [flatU_len, hl], h6, fun i j cs d hi hj => ⟨us i j, ?_, h7 i j cs d hi hj⟩⟩
  exact flatU_get (by rw [← h6 i cs hi]; exact (List.getElem?_eq_some_iff.1 hj).1) (by rw [← hl]; exact (List.getElem?_eq_some_iff.1 hi).1)
theorem Top.flat {dp : Bool} {x : DV} {b cap : Nat} {cur : Array Value} {us : Nat → Nat → Value} {Fs : Nat → Nat → Nat → Prop} {F : Nat → Prop} (h0 : 0 < x.esz)
    (h4 : x.rows.length ≤ cap) (h6 : cur.size = cap * x.esz) (h7 : ∀ (i : Nat) (cs : List DV), x.rows[i]? = some cs → cs.length = x.esz)
    (h8 : ∀ (i j : Nat) (cs : List DV) (d : DV), x.rows[i]? = some cs → cs[j]? = some d → cur[i * x.esz + j]? = some (us i j)) (h9 : ∀ i j k, Fs i j k → F k ∧ k ≠ b)
    (h10 : ∀ i j i' j' k, Fs i j k → Fs i' j' k → i = i' ∧ j = j') (h11 : ∀ (i j : Nat) (cs : List DV) (d : DV), x.rows[i]? = some cs → cs[j]? = some d → Own w (Free w own) dp d (us i j) (Fs i j)) :
    FlatOwn w own dp x.esz x.rows (cur.toList.take (x.rows.length * x.esz)) (fun k => Fs (k / x.esz) (k % x.esz)) ∧
      (∀ k c, Fs (k / x.esz) (k % x.esz) c → F c ∧ c ≠ b) ∧ (∀ k k' c, Fs (k / x.esz) (k % x.esz) c → Fs (k' / x.esz) (k' % x.esz) c → k = k') := by
  have hle : x.rows.length * x.esz ≤ cur.size := by rw [h6]; exact Nat.mul_le_mul_right _ h4
  refine ⟨⟨by simp; omega, h7, fun i j cs d hi hj => ?_⟩, fun k c hc => h9 _ _ c hc, fun k k' c h1 h2 => ?_⟩
  · have hjs : j < x.esz := by rw [← h7 i cs hi]; exact (List.getElem?_eq_some_iff.1 hj).1
    have hil : i < x.rows.length := (List.getElem?_eq_some_iff.1 hi).1
    refine ⟨us i j, ?_, ?_⟩
    · rw [List.getElem?_take, if_pos (flat_lt hjs hil), Array.getElem?_toList]
      exact h8 i j cs d hi hj
    · simp only [(flat_div hjs).1, (flat_div hjs).2]
      exact h11 i j cs d hi hj
  · obtain ⟨e1, e2⟩ := h10 _ _ _ _ c h1 h2
    rw [← Nat.div_add_mod k x.esz, ← Nat.div_add_mod k' x.esz, e1, e2]
structure Feeds (P : Program) (t tx ty e : TypeId) (ti : TypeInfo) (w : World) (q : Value) (n : Nat) (L : List Value) : Prop where
  zero : n = 0 → ∀ (A : Option Addr) (m cap : Nat), m ≤ cap → (Builtin.append_ #[t, tx] ty #[.slice A m cap, q]).run P w = .ok (.slice A m cap) w
  nil : 0 < n → ∀ z, ti.zero = some z → (n : Int) ≤ 9223372036854775807 → n * ti.bytes ≤ 281474976710656 → (Builtin.append_ #[t, tx] ty #[.slice none 0 0, q]).run P w =
      .ok (.slice (some ⟨w.heap.size, 0, none⟩) n (grownCap w n 0 e)) (w.drew.alloc (.cells (L.toArray ++ Builtin.zeroCells z.cells (grownCap w n 0 e - n)) e))
  room : 0 < n → ∀ (e0 : TypeId) (g sLen sCap : Nat) (cur : Array Value), w.heap[g]? = some (.cells cur e0 (0, 0)) → (∀ u ∈ L, u.oneCell' = true) → sLen + n ≤ sCap → sLen * ti.size + L.length ≤ cur.size →
      (Builtin.append_ #[t, tx] ty #[.slice (some ⟨g, 0, none⟩) sLen sCap, q]).run P w = .ok (.slice (some ⟨g, 0, none⟩) (sLen + n) sCap) (w.setRow g (cur.toList.take (sLen * ti.size) ++ L ++ cur.toList.drop (sLen * ti.size + L.length)).toArray)
  grow : 0 < n → ∀ z, ti.zero = some z → ∀ (b : Addr) (sLen sCap : Nat) (olds : List Value), olds.length = sLen * ti.size → (∀ j v, olds[j]? = some v → w.cell? (b.add j) = some v) → sCap < sLen + n → ((sLen + n : Nat) : Int) ≤ 9223372036854775807 →
      Builtin.nextslicecap (sLen + n) sCap * ti.bytes ≤ 281474976710656 → (Builtin.append_ #[t, tx] ty #[.slice (some b) sLen sCap, q]).run P w =
      .ok (.slice (some ⟨w.heap.size, 0, none⟩) (sLen + n) (grownCap w (sLen + n) sCap e)) (w.drew.alloc (.cells (olds.toArray ++ L.toArray ++ Builtin.zeroCells z.cells (grownCap w (sLen + n) sCap e - (sLen + n))) e))
theorem Feeds.slice {t ty e : TypeId} {ti : TypeInfo} {w : World} (t1 : P.underlying t = some (.slice e)) (t2 : P.info? e = some ti) {A : Option Addr} {c n : Nat} {L : List Value} (g2 : L.length = n * ti.size)
    (g3 : 0 < n → ∃ ad, A = some ad ∧ ∀ (k : Nat) (u : Value), L[k]? = some u → w.cell? (ad.add k) = some u) : Feeds P t t ty e ti w (.slice A n c) n L := by
  refine ⟨?_, ?_, ?_, ?_⟩
  · intro h A' m cap hm
    subst h
    exact run_append_zero t ty e ti t1 t2 A' m cap hm A c
  · intro h z hz h63 h48
    obtain ⟨ad, rfl, hc⟩ := g3 h
    exact run_append_nil w t ty e ti z t1 t2 hz ad n c L g2 hc h h63 h48
  · intro h e0 g sLen sCap cur hg h1 hr hf
    obtain ⟨ad, rfl, hc⟩ := g3 h
    exact run_append_room' t ty e e0 ti t1 t2 g sLen sCap cur hg ad n c L g2 hc h1 hr hf
  · intro h z hz b sLen sCap olds hlo holds hg h63 hfit
    obtain ⟨ad, rfl, hc⟩ := g3 h
    exact run_append_grow w t ty e ti z t1 t2 hz b sLen sCap olds hlo holds ad n c L g2 hc hg h63 hfit
def bcells (b : ByteArray) : List Value := b.data.toList.map fun x => Value.int .u8 x.toNat
theorem bcells_len (b : ByteArray) : (bcells b).length = b.size := by
  unfold bcells
  rw [List.length_map, Array.length_toList]
  rfl
theorem firstB (b : ByteArray) (w' : World) : (Builtin.firstCells 1 b.size (.string b)).run P w' = .ok (bcells b).toArray w' := by
  simp [Builtin.firstCells, bcells]
  apply Array.ext'
  simp
theorem Feeds.string {t tx ty e : TypeId} {ti : TypeInfo} {w : World} (t1 : P.underlying t = some (.slice e)) (tu : P.underlying tx = some .string) (t2 : P.info? e = some ti) (hs : ti.size = 1) (b : ByteArray) : Feeds P t tx ty e ti w (.string b) b.size (bcells b) := by
  have hf := fun w' => firstB (P := P) b w'
  refine ⟨?_, ?_, ?_, ?_⟩
  · intro h A m cap hm
    have h0 : bcells b = [] := List.eq_nil_of_length_eq_zero (by rw [bcells_len]; exact h)
    cases A <;> simp [Builtin.append_, run_underlying t1, run_underlying tu, Go.sizeOf, typeInfo, t2, hs, Builtin.lenOf, hm, h, hf, h0, storeCells, Builtin.firstCells]
  · intro h z hz h63 h48
    have hn : b.size ≠ 0 := by omega
    have h63' : ¬ (9223372036854775807 < (b.size : Int)) := by omega
    have h48' : ¬ (281474976710656 < Builtin.nextslicecap b.size 0 * ti.bytes) := by rw [nextslicecap_zero h]; omega
    simp [Builtin.append_, run_underlying t1, run_underlying tu, Go.sizeOf, typeInfo, zeroValue, t2, hz, hs, Builtin.lenOf, hn, h63', h48', Question.forced, run_firstCells_none, hf, newRow, grownCap]
  · intro h e0 g sLen sCap cur hg h1 hr hfit
    have hst := run_storeCells_at (P := P) g (sLen * ti.size) e0 (bcells b) 0 cur w hg (by simpa using hfit) h1
    simp only [Nat.add_zero, hs, Nat.mul_one] at hst
    simp [Builtin.append_, run_underlying t1, run_underlying tu, Go.sizeOf, typeInfo, t2, hs, Builtin.lenOf, hr, hf, Addr.add_lit, hst]
  · intro h z hz a sLen sCap olds hlo holds hg h63 hfit
    have hn : ¬ (sLen + b.size ≤ sCap) := by omega
    have h63' : ¬ (9223372036854775807 < ((sLen : Int) + (b.size : Int))) := by omega
    have h48' : ¬ (281474976710656 < Builtin.nextslicecap (sLen + b.size) sCap * ti.bytes) := by omega
    have hfo := run_firstCells_some (P := P) w.drew ti.size sLen a sLen sCap olds hlo (by simpa using holds)
    rw [hs] at hfo
    simp [Builtin.append_, run_underlying t1, run_underlying tu, Go.sizeOf, typeInfo, zeroValue, t2, hz, hs, Builtin.lenOf, hn, h63', h48', Question.forced, hf, hfo, newRow, grownCap]
    congr 2
    apply Array.ext'
    simp [List.append_assoc]
theorem snd_app_core {K : AV → St → Prop} {t tx ty e : TypeId} {ti : TypeInfo} {d : Nat} {x : AC} {p q : Value} {dp dp' : Bool} {xs ys : DV} {ids : List Nat} {L : List Value} {G : Nat → Nat → Prop}
    (r : RelX P N w0 own0 hdr0 Fr own hdr s a w) (ht : elemOf? P t = some (e, ti)) (hz : (zeroXs P e).isSome = true) (hzs : ∀ z, ti.zero = some z → z.cells.size = ti.size)
    (hx : RC P w own hdr s.ob x p) (hb : s.base x = some (dp, xs)) (hal2 : alien ∉ ids) (ysl : ys.isSl = true) (fd : Feeds P t tx ty e ti w q ys.len L) (g2 : L.length = ys.len * ti.size) (g4 : ∀ u ∈ L, u.oneCell' = true)
    (g5 : ∀ k c, G k c → ∃ j ∈ ids, own j c) (g6 : ∀ k k' c, G k c → G k' c → k = k') (g7 : FlatOwn w own dp' ti.size ys.rows L G)
    (h1 : xs.esz = ti.size) (h3 : 0 < ti.size) (h4 : x.ownId d ∉ s.hold) (h5 : ∀ j ∈ ids, j ∉ s.hold) (h6 : x.ownId d ∉ ids) (h7 : (xs.len + ys.len) * ti.bytes ≤ 140737488355328) (h8 : xs.len + ys.len ≤ 9223372036854775807)
    (h10 : K (.c (.arr (x.ownId d) ((s.ob (x.ownId d)).ver + 1))) ((s.kill ids).newOb (x.ownId d) (.arr (dp && dp') (xs.app ys)))) :
    ∃ v w' z s', (Builtin.append_ #[t, tx] ty #[p, q]).run P w = .ok v w' ∧ K z s' ∧ RelV P N w0 own0 hdr0 Fr s' a w' z v := by
  obtain ⟨t1, t2⟩ := elemOf?_sound ht
  obtain ⟨zs, hzs'⟩ := Option.isSome_iff_exists.1 hz
  obtain ⟨i', z, z1, z2, z3, z4⟩ := zeroXs_sound hzs'
  rw [t2] at z1; simp at z1; subst z1
  have hzz := hzs z z2
  have hdis12 : ∀ {G1 : Nat → Nat → Prop} {n1 : Nat}, (∀ k c, G1 k c → own (x.ownId d) c) → (∀ k k' c, G1 k c → G1 k' c → k = k') →
      ∀ k k' c, (if k < n1 then G1 k c else G (k - n1) c) → (if k' < n1 then G1 k' c else G (k' - n1) c) → k = k' := by
    intro G1 n1 e1 e2 k k' c hk hk'
    have no : ∀ k k', G1 k c → G k' c → False := fun k k' a1 a2 => by
      obtain ⟨j, hj, ho⟩ := g5 k' c a2
      exact h6 (r.dis j _ c ho (e1 k c a1) ▸ hj)
    split at hk <;> split at hk'
    · exact e2 k k' c hk hk'
    · exact (no _ _ hk hk').elim
    · exact (no _ _ hk' hk).elim
    · have := g6 _ _ c hk hk'; omega
  have hylen := len_rows ysl
  have hal : x.ownId d ≠ alien ∧ alien ∉ ids := by
    refine ⟨?_, hal2⟩
    cases x with
    | arr id ver =>
      simp only [St.base] at hb
      split at hb
      · rename_i dp0 x0 hk
        exact r.ne_al (id := id) (by rw [(St.obj_ok hk (by simp)).2]; simp)
      · rename_i x0 hk
        exact r.ne_al (id := id) (by rw [(St.obj_ok hk (by simp)).2]; simp)
      · simp at hb
    | _ => exact rid_al d 0
  -- the base
  have hbase : ∃ (L1 : List Value) (G1 : Nat → Nat → Prop), FlatOwn w own dp ti.size xs.rows L1 G1 ∧ (∀ k c, G1 k c → own (x.ownId d) c) ∧ (∀ k k' c, G1 k c → G1 k' c → k = k') ∧ xs.isSl = true ∧
      ((p = .slice none 0 0 ∧ xs.rows = []) ∨ ∃ (b cap : Nat) (cur : Array Value) (e0 : TypeId), p = .slice (some ⟨b, 0, none⟩) xs.rows.length cap ∧ w.heap[b]? = some (.cells cur e0 (0, 0)) ∧ own (x.ownId d) b ∧
        xs.rows.length ≤ cap ∧ cap ≤ maxLen ∧ cur.size = cap * ti.size ∧ L1 = cur.toList.take (xs.rows.length * ti.size) ∧ (∀ k c, G1 k c → c ≠ b)) := by
    cases x with
    | arr id ver =>
      simp only [St.base] at hb
      split at hb
      · rename_i dp0 x0 hk
        simp at hb
        obtain ⟨rfl, rfl⟩ := hb
        obtain ⟨q1, q2⟩ := St.obj_ok hk (by simp)
        obtain ⟨hsl, ht'⟩ := r.arrAt q2
        have hp := hx.2 q1.symm
        rcases ht' with ⟨f1, f2⟩ | ⟨b', cap', cur, e', us, Fs, f1, f2, f3, f4, f5, f6, f7, f8, f9, f10, f11⟩
        · exact ⟨[], fun _ _ => False, ⟨by simp [f1], by simp [f1], by simp [f1]⟩, by simp, by simp, hsl, .inl ⟨hp.trans f2, f1⟩⟩
        · obtain ⟨k1, k2, k3⟩ := Top.flat (w := w) (own := own) (dp := dp0) (by omega) f4 f6 f7 f8 f9 f10 f11
          rw [h1] at k1 k2 k3 f6
          exact ⟨_, _, k1, fun k c hc => (k2 k c hc).1, k3, hsl, .inr ⟨b', cap', cur, e', hp.trans f1, f2, f3, f4, f5, f6, rfl, fun k c hc => (k2 k c hc).2⟩⟩
      · rename_i x0 hk
        simp at hb
        obtain ⟨rfl, rfl⟩ := hb
        obtain ⟨q1, q2⟩ := St.obj_ok hk (by simp)
        obtain ⟨⟨hsl, ht'⟩, _⟩ := r.flatAt q2
        have hp := hx.2 q1.symm
        rcases ht' with ⟨f1, f2⟩ | ⟨b', cap', cur, e', us, Fs, f1, f2, f3, f4, f5, f6, f7, f8, f9, f10, f11⟩
        · exact ⟨[], fun _ _ => False, ⟨by simp [f1], by simp [f1], by simp [f1]⟩, by simp, by simp, hsl, .inl ⟨hp.trans f2, f1⟩⟩
        · obtain ⟨k1, k2, k3⟩ := Top.flat (w := w) (own := own) (dp := false) (by omega) f4 f6 f7 f8 f9 f10 f11
          rw [h1] at k1 k2 k3 f6
          exact ⟨_, _, k1, fun k c hc => (k2 k c hc).1, k3, hsl, .inr ⟨b', cap', cur, e', hp.trans f1, f2, f3, f4, f5, f6, rfl, fun k c hc => (k2 k c hc).2⟩⟩
      · simp at hb
    | nil sz =>
      simp [St.base] at hb
      obtain ⟨rfl, rfl⟩ := hb
      exact ⟨[], fun _ _ => False, ⟨by simp [DV.rows], by simp [DV.rows], by simp [DV.rows]⟩, by simp, by simp, rfl, .inl ⟨hx, rfl⟩⟩
    | _ => simp [St.base] at hb
  obtain ⟨L1, G1, b1, b2, b3, bsl, b4⟩ := hbase
  have hflat := b1.app g7
  have hxlen := len_rows bsl
  have happ : xs.app ys = .sl ti.size (xs.rows ++ ys.rows) := by simp [DV.app, h1]
  rw [happ] at h10
  have hG12 : ∀ k c, (if k < xs.rows.length * ti.size then G1 k c else G (k - xs.rows.length * ti.size) c) → Mine own (x.ownId d) ids c := by
    intro k c hk
    split at hk
    · exact ⟨_, .inl rfl, b2 k c hk⟩
    · obtain ⟨j, hj, ho⟩ := g5 _ c hk
      exact ⟨j, .inr hj, ho⟩
  have hrlen : (xs.rows ++ ys.rows).length = xs.len + ys.len := by rw [List.length_append, hxlen, hylen]
  -- a new row
  have hnew : ∀ (cap : Nat) (cur : Array Value), xs.len + ys.len ≤ cap → cap ≤ maxLen → cur.size = cap * ti.size → (∀ k u, (L1 ++ L)[k]? = some u → cur[k]? = some u) →
      RelV P N w0 own0 hdr0 Fr ((s.kill ids).newOb (x.ownId d) (.arr (dp && dp') (.sl ti.size (xs.rows ++ ys.rows)))) a (w.drew.alloc (.cells cur e)) (.c (.arr (x.ownId d) ((s.ob (x.ownId d)).ver + 1))) (.slice (some ⟨w.heap.size, 0, none⟩) (xs.len + ys.len) cap) :=
    fun cap cur c1 c2 c3 c4 => r.newArr (.inr rfl) hal h4 h5 h6 hrlen c1 c2 c3 hflat.szs hG12 (hdis12 b2 b3) fun i j cs d' hi hj => by
      obtain ⟨u, u1, u2⟩ := hflat.ow i j cs d' hi hj
      exact ⟨u, c4 _ u u1, u2⟩
  -- what is as it was
  have hsame : ys.len = 0 → ∀ (dp'' : Bool), RelV P N w0 own0 hdr0 Fr ((s.kill ids).newOb (x.ownId d) (.arr (dp && dp') (.sl ti.size (xs.rows ++ ys.rows)))) a w (.c (.arr (x.ownId d) ((s.ob (x.ownId d)).ver + 1))) p := by
    intro hm _
    have hy0 : ys.rows = [] := List.eq_nil_of_length_eq_zero (by omega)
    have hm := r.make (id := x.ownId d) (ids := ids) (k := .arr (dp && dp') (.sl ti.size (xs.rows ++ ys.rows))) (F := fun c => own (x.ownId d) c) (v := p) (w' := w) hal h4 h5 h6 (Ext.refl _ _)
      (fun b hb => ⟨r.lt _ b hb, .inr ⟨_, .inl rfl, hb⟩⟩) (fun rc => by
        unfold RO
        rw [ob_new h6]
        refine ⟨rfl, ?_⟩
        have free : ∀ c, Free w own c → w.heap[c]? = w.heap[c]? ∧ Free w (ownTo own (x.ownId d) ids fun c => own (x.ownId d) c) c := by
          intro c hc
          refine ⟨rfl, hc.1, fun j hj => ?_⟩
          simp only [ownTo] at hj
          split at hj
          · exact hc.2 _ hj
          · split at hj
            · exact hj
            · exact hc.2 j hj
        show Top w _ (dp && dp') ti.size (xs.rows ++ ys.rows) (hdrTo hdr (x.ownId d) ids p (x.ownId d)) _
        simp only [hdrTo, if_true]
        rw [hy0, List.append_nil]
        rcases b4 with ⟨e1, e2⟩ | ⟨b, cap, cur, e0, e1, e2, e3, e4, e5, e6, e7, e8⟩
        · exact .inl ⟨e2, e1⟩
        · rw [e1]
          refine top_of_flat xs.rows (b := b) (cap := cap) (cur := cur) (e := e0) G1 e2 (by simp [ownTo, e3]) e4 e5 e6 b1.szs (fun k c hc => ⟨by simp [ownTo]; exact b2 k c hc, e8 k c hc⟩) b3 fun i j cs d' hi hj => ?_
          obtain ⟨u, u1, u2⟩ := b1.ow i j cs d' hi hj
          refine ⟨u, ?_, u2.mono (by cases dp <;> simp) free _ fun c hc => ⟨rfl, hc⟩⟩
          rw [e7, List.getElem?_take] at u1
          split at u1
          · simpa using u1
          · simp at u1)
    refine ⟨_, _, hm.1, ?_⟩
    simp only [RS, RV1, RC]
    rw [ob_new h6]
    exact ⟨Nat.le_refl _, fun _ => by simp [hdrTo]⟩
  have hzc : ∀ n, (Builtin.zeroCells z.cells n).size = n * ti.size := fun n => by rw [size_zeroCells, hzz]
  have hbytes : (xs.len + ys.len) * ti.bytes ≤ 140737488355328 := h7
  by_cases hm0 : ys.len = 0
  · -- nothing comes
    refine ⟨p, w, _, _, ?_, h10, hsame hm0 true⟩
    rcases b4 with ⟨rfl, _⟩ | ⟨b, cap, cur, e0, rfl, e2, e3, e4, _⟩
    · exact fd.zero hm0 none 0 0 (Nat.le_refl _)
    · exact fd.zero hm0 _ _ _ e4
  · have hpos : 0 < ys.len := by omega
    rcases b4 with ⟨rfl, e2⟩ | ⟨b, cap, cur, e0, rfl, e2, e3, e4, e5, e6, e7, e8⟩
    · have hx0 : xs.len = 0 := by rw [← hxlen, e2]; rfl
      have hL1 : L1 = [] := List.eq_nil_of_length_eq_zero (by rw [b1.len, e2]; simp)
      refine ⟨_, _, _, _, fd.nil hpos z z2 (by omega) (by rw [hx0] at hbytes; simp at hbytes; omega), h10, ?_⟩
      have := hnew (grownCap w ys.len 0 e) (L.toArray ++ Builtin.zeroCells z.cells (grownCap w ys.len 0 e - ys.len)) (by have := grownCap_ge w ys.len 0 e; omega)
        (grownCap_le_maxLen w ys.len 0 e (by simp only [maxLen]; omega)) (by
          simp only [Array.size_append, List.size_toArray, hzc, g2, ← Nat.add_mul]
          congr 1
          have := grownCap_ge w ys.len 0 e
          omega) (fun k u hu => by
          rw [hL1, List.nil_append] at hu
          rw [Array.getElem?_append, if_pos (by simpa using (List.getElem?_eq_some_iff.1 hu).1)]
          simpa using hu)
      rw [hx0, Nat.zero_add] at this
      exact this
    · rw [hxlen] at e4 e7
      have hL1 : L1.length = xs.len * ti.size := by rw [b1.len, hxlen]
      rw [hxlen]
      have hcur : ∀ k u, L1[k]? = some u → cur[k]? = some u := fun k u hu => by
        rw [e7, List.getElem?_take] at hu
        split at hu
        · simpa using hu
        · simp at hu
      by_cases hroom : xs.len + ys.len ≤ cap
      · have hfit : xs.len * ti.size + L.length ≤ cur.size := by rw [g2, e6, ← Nat.add_mul]; exact Nat.mul_le_mul_right _ hroom
        refine ⟨_, _, _, _, fd.room hpos e0 b xs.len cap cur e2 g4 hroom hfit, h10, ?_⟩
        generalize hw' : w.setRow b (cur.toList.take (xs.len * ti.size) ++ L ++ cur.toList.drop (xs.len * ti.size + L.length)).toArray = w'
        have hw1 : w'.heap[b]? = some (.cells (cur.toList.take (xs.len * ti.size) ++ L ++ cur.toList.drop (xs.len * ti.size + L.length)).toArray e0 (0, 0)) := by rw [← hw']; exact setRow_heap w b cur _ e0 _ e2
        have hw2 : ∀ c, c ≠ b → w'.heap[c]? = w.heap[c]? := fun c hc => by rw [← hw']; exact setRow_other w b c _ hc
        have hext : Ext w w' (fun c => c = b) := by rw [← hw']; exact setRow_ext w b _ _ rfl
        have hm := r.make (id := x.ownId d) (ids := ids) (k := .arr (dp && dp') (.sl ti.size (xs.rows ++ ys.rows))) (F := Mine own (x.ownId d) ids) (v := .slice (some ⟨b, 0, none⟩) (xs.len + ys.len) cap) (w' := w') hal h4 h5 h6
          ⟨hext.os, hext.tape, hext.output, hext.size, fun c hc hM => hext.same c hc fun e => hM (e ▸ ⟨_, .inl rfl, e3⟩), hext.drawn⟩
          (fun c hc => ⟨by obtain ⟨j, _, hj⟩ := hc; exact Nat.lt_of_lt_of_le (r.lt j c hj) hext.size, .inr hc⟩) (fun rc => by
            unfold RO
            rw [ob_new h6]
            refine ⟨rfl, ?_⟩
            have free : ∀ c, Free w own c → w'.heap[c]? = w.heap[c]? ∧ Free w' (ownTo own (x.ownId d) ids (Mine own (x.ownId d) ids)) c := by
              intro c hc
              refine ⟨hw2 c (fun e => hc.2 _ (e ▸ e3)), Nat.lt_of_lt_of_le hc.1 hext.size, fun j hj => ?_⟩
              simp only [ownTo] at hj
              split at hj
              · obtain ⟨j', _, hj⟩ := hj; exact hc.2 j' hj
              · split at hj
                · exact hj
                · exact hc.2 j hj
            show Top w' _ (dp && dp') ti.size (xs.rows ++ ys.rows) (hdrTo hdr (x.ownId d) ids (.slice (some ⟨b, 0, none⟩) (xs.len + ys.len) cap) (x.ownId d)) _
            simp only [hdrTo, if_true]
            rw [← hrlen]
            refine top_of_flat (xs.rows ++ ys.rows) (b := b) (cap := cap) (e := e0) (fun k c => if k < xs.rows.length * ti.size then G1 k c else G (k - xs.rows.length * ti.size) c) hw1 (by simp [ownTo]; exact ⟨_, .inl rfl, e3⟩)
              (by rw [hrlen]; exact hroom) e5 (by simp; rw [← e6]; omega) hflat.szs (fun k c hc => ⟨by simp only [ownTo, if_true]; exact hG12 k c hc, ?_⟩) (hdis12 b2 b3) fun i j cs d' hi hj => ?_
            · split at hc
              · exact e8 k c hc
              · obtain ⟨j, hj, ho⟩ := g5 _ c hc
                exact fun e => h6 (r.dis j _ b (e ▸ ho) e3 ▸ hj)
            · obtain ⟨u, u1, u2⟩ := hflat.ow i j cs d' hi hj
              refine ⟨u, ?_, u2.mono (fun h => h) free _ fun c hc => ⟨hw2 c ?_, hc⟩⟩
              · rw [over_get hfit]
                rw [List.getElem?_append, hL1] at u1
                split at u1
                · rename_i hk
                  rw [if_pos hk]; exact hcur _ u u1
                · rename_i hk
                  have := (List.getElem?_eq_some_iff.1 u1).1
                  rw [if_neg hk, if_pos (by omega)]; exact u1
              · split at hc
                · exact e8 _ c hc
                · obtain ⟨j, hj, ho⟩ := g5 _ c hc
                  exact fun e => h6 (r.dis j _ b (e ▸ ho) e3 ▸ hj))
        refine ⟨_, _, hm.1, ?_⟩
        simp only [RS, RV1, RC]
        rw [ob_new h6]
        exact ⟨Nat.le_refl _, fun _ => by simp [hdrTo]⟩
      · have holds : ∀ j u, L1[j]? = some u → w.cell? ((⟨b, 0, none⟩ : Addr).add j) = some u := fun j u hu => by
          rw [addr_add, Nat.zero_add]
          simp [World.cell?, e2, hcur j u hu]
        refine ⟨_, _, _, _, fd.grow hpos z z2 ⟨b, 0, none⟩ xs.len cap L1 hL1 holds (by omega) (by omega) (growslice_fits (by omega) hbytes), h10, ?_⟩
        have hge := grownCap_ge w (xs.len + ys.len) cap e
        refine hnew _ _ hge (grownCap_le_maxLen w _ cap e (by simp only [maxLen]; omega)) (by
          simp only [Array.size_append, List.size_toArray, hzc, g2, hL1, ← Nat.add_mul]
          congr 1
          omega) (fun k u hu => by
          have hk := (List.getElem?_eq_some_iff.1 hu).1
          rw [Array.getElem?_append, if_pos (by simpa using hk)]
          rw [List.append_toArray, List.getElem?_toArray]
          exact hu)
theorem snd_app {K : AV → St → Prop} {t e : TypeId} {ti : TypeInfo} {d : Nat} {x y : AC} {p q : Value}
    (r : RelX P N w0 own0 hdr0 Fr own hdr s a w) (ht : elemOf? P t = some (e, ti)) (hz : (zeroXs P e).isSome = true) (hzs : ∀ z, ti.zero = some z → z.cells.size = ti.size)
    (hx : RC P w own hdr s.ob x p) (hy : RC P w own hdr s.ob y q) (ty : TypeId) (h : appA s d ti.size ti.bytes x y K) :
    ∃ v w' z s', (Builtin.append_ #[t, t] ty #[p, q]).run P w = .ok v w' ∧ K z s' ∧ RelV P N w0 own0 hdr0 Fr s' a w' z v := by
  obtain ⟨t1, t2⟩ := elemOf?_sound ht
  unfold appA at h
  split at h
  · rename_i dp xs dp' ys ids hb hs
    obtain ⟨h1, h2, h3, h4, h5, h6, h7, h8, h9, h10⟩ := h
    obtain ⟨ysl, hsrc⟩ := src_sound r hs (by omega) hy
    obtain ⟨A, c, L, G, g1, g2, g3, g4, g5, g6, g7⟩ := hsrc.flat ysl
    rw [h2] at g2 g7
    subst g1
    exact snd_app_core r ht hz hzs hx hb (r.ids_al (src_ids hs)) ysl (Feeds.slice t1 t2 g2 g3) g2 g4 g5 g6 g7 h1 h3 h4 h5 h6 h7 h8 h10
  · exact h.elim
theorem snd_del {K : AV → St → Prop} {t e : TypeId} {ti : TypeInfo} {d : Nat} {x y : AC} {p q : Value}
    (r : RelX P N w0 own0 hdr0 Fr own hdr s a w) (ht : elemOf? P t = some (e, ti))
    (hx : RC P w own hdr s.ob x p) (hy : RC P w own hdr s.ob y q) (ty : TypeId) (h : delA s ti.size ti.bytes x y K) :
    ∃ v w' z s', (Builtin.append_ #[t, t] ty #[p, q]).run P w = .ok v w' ∧ K z s' ∧ RelV P N w0 own0 hdr0 Fr s' a w' z v := by
  obtain ⟨t1, t2⟩ := elemOf?_sound ht
  obtain ⟨id, ver, ev, n, k, l, rfl, rfl, ho, h3, hnk, hkl, hl0, hh, hK⟩ := h
  have hk' : (s.ob id).k = .arr true (encB l) := by rw [ho]
  have hv' : (s.ob id).ver = ver := by rw [ho]
  have hne : id ≠ alien := r.ne_al (by rw [hk']; simp)
  obtain ⟨hsl, htop⟩ := r.arrAt hk'
  have hrl : (encB l).rows.length = l.length := by simp [encB, DV.rows]
  rcases htop with ⟨f1, f2⟩ | ⟨b, cap, cur, e', us, Fs, f1, f2, f3, f4, f5, f6, f7, f8, f9, f10, f11⟩
  · exfalso
    rw [f1] at hrl
    simp at hrl
    omega
  rw [hrl] at f4 f1
  obtain ⟨b1, n1, cap1, e1, e2, e3, e4⟩ := hx.2 hv'.symm
  obtain ⟨b2, n2, cap2, e5, e6, e7, e8⟩ := hy.2 hv'.symm
  rw [f1] at e1 e5
  simp only [Value.slice.injEq, Option.some.injEq, Addr.mk.injEq] at e1 e5
  obtain ⟨⟨rfl, _, _⟩, rfl, rfl⟩ := e1
  obtain ⟨⟨rfl, _, _⟩, rfl, rfl⟩ := e5
  have hes : (s.ob id).k.dv.esz = 1 := by rw [hk']; rfl
  rw [hes] at e4 e8
  simp only [Nat.zero_mul, ite_self, Nat.sub_zero] at e4
  rw [show (encB l).esz = 1 from rfl, Nat.mul_one] at f6
  have hval : ∀ i (h : i < l.length), cur[i]? = some (.int .u8 (l[i]).toNat) := fun i h => by
    have g1 : (encB l).rows[i]? = some [.sc (.int .u8 (l[i]).toNat)] := by simp [encB, DV.rows, h]
    have g2 := f8 i 0 _ _ g1 rfl
    have g3 := f11 i 0 _ _ g1 rfl
    rw [show (encB l).esz = 1 from rfl, Nat.mul_one, Nat.add_zero] at g2
    rw [g2]
    generalize us i 0 = u at g3
    cases g3 with
    | sc v h1 F => rfl
    | pers x v F hd p => cases hd
  have hLl : ((cur.toList.drop k).take (l.length - k)).length = l.length - k := by simp; omega
  have hLg : ∀ j u, ((cur.toList.drop k).take (l.length - k))[j]? = some u → j < l.length - k ∧ cur[k + j]? = some u := fun j u hu => by
    have hj := (List.getElem?_eq_some_iff.1 hu).1
    rw [hLl] at hj
    rw [List.getElem?_take, if_pos hj, List.getElem?_drop] at hu
    exact ⟨hj, by simpa using hu⟩
  have fd : Feeds P t t ty e ti w q (l.length - k) ((cur.toList.drop k).take (l.length - k)) := by
    rw [e8]
    refine Feeds.slice t1 t2 (by rw [hLl, h3, Nat.mul_one]) fun hpos => ⟨⟨b, k, none⟩, ?_, fun j u hu => ?_⟩
    · rw [if_neg (by omega), Nat.mul_one]
    · obtain ⟨_, hu⟩ := hLg j u hu
      rw [addr_add]
      simp [World.cell?, f2, hu]
  have hl' : (l.take n ++ l.drop k).length = n + (l.length - k) := by simp; omega
  have fin : ∀ (w' : World) (cur' : Array Value) (e0 : TypeId), w'.heap[b]? = some (.cells cur' e0 (0, 0)) → (∀ c, c ≠ b → w'.heap[c]? = w.heap[c]?) → Ext w w' (fun c => c = b) → cur'.size = cap →
      (∀ i (h : i < (l.take n ++ l.drop k).length), cur'[i]? = some (.int .u8 ((l.take n ++ l.drop k)[i]).toNat)) →
      RelV P N w0 own0 hdr0 Fr (s.newOb id (.arr true (encB (l.take n ++ l.drop k)))) a w' (.c (.arr id (ver + 1))) (.slice (some ⟨b, 0, none⟩) (n + (l.length - k)) cap) := by
    intro w' cur' e0 k1 k2 k3 k4 k5
    have hkill : s.kill [] = s := by cases s; simp [St.kill]
    generalize hlL : l.take n ++ l.drop k = l2 at *
    have hm := r.make (id := id) (ids := []) (k := .arr true (encB l2)) (F := fun c => own id c) (v := .slice (some ⟨b, 0, none⟩) (n + (l.length - k)) cap) (w' := w') ⟨hne, by simp⟩ hh (by simp) (by simp)
      ⟨k3.os, k3.tape, k3.output, k3.size, fun c hc hM => k3.same c hc fun e => hM (e ▸ ⟨_, .inl rfl, f3⟩), k3.drawn⟩
      (fun c hc => ⟨Nat.lt_of_lt_of_le (r.lt _ c hc) k3.size, .inr ⟨_, .inl rfl, hc⟩⟩) (fun rc => by
        unfold RO
        rw [ob_new (by simp)]
        refine ⟨rfl, ?_⟩
        show Top w' _ true 1 (encB l2).rows (hdrTo hdr id [] (.slice (some ⟨b, 0, none⟩) (n + (l.length - k)) cap) id) _
        simp only [hdrTo, if_true]
        have hrl2 : (encB l2).rows.length = l2.length := by simp [encB, DV.rows]
        rw [← hl', ← hrl2]
        refine top_of_flat (encB l2).rows (b := b) (cap := cap) (cur := cur') (e := e0) (fun _ _ => False) k1 (by simp [ownTo, f3]) (by rw [hrl2, hl']; omega) f5 (by rw [k4, Nat.mul_one])
          (fun i cs hi => by
            simp only [encB, DV.rows, List.getElem?_map, Option.map_eq_some_iff] at hi
            obtain ⟨u, _, rfl⟩ := hi
            rfl) (fun _ _ hf => hf.elim) (fun _ _ _ hf => hf.elim) fun i j cs d' hi hj => ?_
        simp only [encB, DV.rows, List.getElem?_map, Option.map_eq_some_iff] at hi
        obtain ⟨u, hu, rfl⟩ := hi
        cases j with
        | succ j => simp at hj
        | zero =>
          simp at hj
          subst hj
          obtain ⟨hi', rfl⟩ := List.getElem?_eq_some_iff.1 hu
          exact ⟨_, by rw [Nat.mul_one, Nat.add_zero]; exact k5 i hi', .sc _ rfl _⟩)
    rw [hkill] at hm
    refine ⟨_, _, hm.1, ?_⟩
    simp only [RS, RV1, RC]
    have hnew : (s.newOb id (.arr true (encB l2))).ob id = ⟨ver + 1, 0, .arr true (encB l2)⟩ := by
      simp only [St.newOb, St.setOb, Hearth.upd, if_true, hv']
    rw [hnew]
    exact ⟨Nat.le_refl _, fun _ => by simp [hdrTo]⟩
  rw [e4]
  by_cases hz : l.length - k = 0
  · have hfz := fd.zero hz (some ⟨b, 0, none⟩) n cap (by omega)
    refine ⟨_, _, _, _, hfz, hK, ?_⟩
    have := fin w cur e' f2 (fun _ _ => rfl) (Ext.refl _ _) f6 fun i h => by
      rw [hl'] at h
      rw [List.getElem_append_left (by simp; omega), List.getElem_take]
      exact hval i (by omega)
    rw [hz, Nat.add_zero] at this
    exact this
  · have hfit : n + ((cur.toList.drop k).take (l.length - k)).length ≤ cur.size := by rw [hLl]; omega
    have hroom := fd.room (by omega) e' b n cap cur f2 (fun u hu => by
      obtain ⟨j, hj⟩ := List.mem_iff_getElem?.1 hu
      obtain ⟨h1, h2⟩ := hLg j u hj
      rw [hval (k + j) (by omega)] at h2
      simp at h2
      rw [← h2]
      rfl) (by omega) (by rw [h3, Nat.mul_one]; exact hfit)
    rw [h3, Nat.mul_one] at hroom
    refine ⟨_, _, _, _, hroom, hK, ?_⟩
    refine fin _ _ e' (setRow_heap w b cur _ e' _ f2) (fun c hc => setRow_other w b c _ hc) (setRow_ext w b _ _ rfl) (by simp; omega) fun i h => ?_
    rw [over_get hfit, hLl]
    rw [hl'] at h
    split
    · rename_i hi
      rw [List.getElem_append_left (by simp; omega), List.getElem_take]
      exact hval i (by omega)
    · rename_i hi
      rw [List.getElem?_take, if_pos (by omega), List.getElem?_drop, Array.getElem?_toList, hval _ (by omega)]
      rw [List.getElem_append_right (by simp; omega), List.getElem_drop]
      have el : (List.take n l).length = n := by simp; omega
      simp only [el]
theorem snd_apps {K : AV → St → Prop} {t tx e : TypeId} {ti : TypeInfo} {d : Nat} {x : AC} {p : Value} {b : ByteArray}
    (r : RelX P N w0 own0 hdr0 Fr own hdr s a w) (ht : elemOf? P t = some (e, ti)) (hu : P.underlying tx = some .string) (hz : (zeroXs P e).isSome = true) (hzs : ∀ z, ti.zero = some z → z.cells.size = ti.size)
    (hx : RC P w own hdr s.ob x p) (ty : TypeId) (h : appS s d ti.size ti.bytes x b K) :
    ∃ v w' z s', (Builtin.append_ #[t, tx] ty #[p, .string b]).run P w = .ok v w' ∧ K z s' ∧ RelV P N w0 own0 hdr0 Fr s' a w' z v := by
  obtain ⟨t1, t2⟩ := elemOf?_sound ht
  unfold appS at h
  split at h
  · rename_i dp xs hb
    obtain ⟨h1, h3, h4, h7, h8, h10⟩ := h
    have hlen : (bytesD b).len = b.size := by simp [bytesD, DV.len]; rw [ByteArray.toList_eq]; exact Array.length_toList
    have hk : (s.kill []) = s := by cases s; simp [St.kill]
    refine snd_app_core (ys := bytesD b) (ids := []) (dp' := true) (L := bcells b) (G := fun _ _ => False) r ht hz hzs hx hb (by simp) rfl (by rw [hlen]; exact Feeds.string t1 hu t2 h3 b) (by rw [bcells_len, hlen, h3, Nat.mul_one])
      (fun u hu => by
        obtain ⟨_, _, rfl⟩ := List.mem_map.1 hu
        rfl) (fun _ _ hf => hf.elim) (fun _ _ _ hf => hf.elim) ?_ h1 (by omega) h4 (by simp) (by simp) (by rw [hlen]; exact h7) (by rw [hlen]; exact h8) (by rw [hk, Bool.and_true]; exact h10)
    rw [h3]
    have hbt : b.toList = b.data.toList := ByteArray.toList_eq b
    refine ⟨by rw [bcells_len, Nat.mul_one]; exact hlen.symm, fun i cs hi => ?_, fun i j cs d hi hj => ?_⟩
    · simp only [bytesD, DV.rows, List.getElem?_map, Option.map_eq_some_iff] at hi
      obtain ⟨u, _, rfl⟩ := hi
      rfl
    · simp only [bytesD, DV.rows, List.getElem?_map, Option.map_eq_some_iff] at hi
      obtain ⟨u, hu, rfl⟩ := hi
      cases j with
      | succ j => simp at hj
      | zero =>
        simp at hj
        subst hj
        refine ⟨.int .u8 u.toNat, ?_, .sc _ rfl _⟩
        rw [Nat.mul_one, Nat.add_zero]
        unfold bcells
        rw [List.getElem?_map, ← hbt, hu]
        rfl
  · exact h.elim
end
end Hearth

/- The abstract machine: the rest of the operations. -/
namespace Hearth
open Go
section
variable {P : Program} {N : Nat} {w0 : World} {own0 : Nat → Nat → Prop} {hdr0 : Nat → Value} {Fr : List ((Nat → Prop) × World)} {own : Nat → Nat → Prop} {hdr : Nat → Value} {s : St} {a : Act} {w : World}
theorem RelX.more (r : RelX P N w0 own0 hdr0 Fr own hdr s a w) {w' : World} (hx : Ext w w' (fun _ => False)) : RelX P N w0 own0 hdr0 Fr own hdr s a w' ∧ ∀ x v, RS P w own hdr s.ob x v → RS P w' own hdr s.ob x v := by
  have h : Upd own hdr s.ob w own hdr s.ob w' (fun _ => False) :=
    ⟨fun h => h, fun _ _ => ⟨rfl, rfl, rfl⟩, ⟨hx.os, hx.tape, hx.output, hx.size, fun b hb _ => hx.same b hb (fun h => h), hx.drawn⟩, fun _ h => h.elim, fun _ _ _ h => h.elim, fun _ h => h.elim⟩
  exact ⟨r.upd h (fun _ h => h.elim) (fun _ _ h => h.elim), fun x v hv => h.rs r.dis r.objs hv⟩
theorem RelX.freeze (r : RelX P N w0 own0 hdr0 Fr own hdr s a w) {id : Nat} {dp : Bool} {x : DV} (hk : (s.ob id).k = .arr dp x) (hid : id ∉ s.hold) (hv : 0 < (s.ob id).ver) :
    ∃ own' hdr', RelX P N w0 own0 hdr0 Fr own' hdr' (s.setOb id ⟨(s.ob id).ver, (s.ob id).ev + 1, .frz x⟩) a w ∧ Pers w (Free w own') x (hdr id) := by
  obtain ⟨hsl, ht⟩ := r.arrAt hk
  have free : ∀ b, (Free w own b ∨ own id b) → Free w (ownTo own id [] (fun _ => False)) b := by
    rintro b (hb | hb)
    · refine ⟨hb.1, fun j hj => ?_⟩
      simp only [ownTo] at hj
      split at hj
      · exact hj
      · simp at hj; exact hb.2 j hj
    · refine ⟨r.lt id b hb, fun j hj => ?_⟩
      simp only [ownTo] at hj
      split at hj
      · exact hj
      · rename_i hne
        simp at hj
        exact hne (r.dis j id b hj hb)
  have hp : Pers w (Free w (ownTo own id [] (fun _ => False))) x (hdr id) := by
    have := ht.pers (S' := Free w (ownTo own id [] (fun _ => False))) (fun b hb => free b (.inl hb)) (fun b hb => free b (.inr hb))
    rw [← DV.sl_eta hsl] at this
    exact this
  have h := r.turn (id := id) (ids := []) (k := .frz x) (ev := (s.ob id).ev + 1) (F := fun _ => False) (w' := w) ⟨r.ne_al (by rw [hk]; simp), by simp⟩ hid (by simp) (by simp) (Ext.refl _ _) (fun _ h => h.elim) (fun h => by omega) (by omega) (by rw [hk]; rfl) (fun h => by omega) (fun rc => by
    unfold RO
    simp only [St.setOb, upd_same]
    refine ⟨hsl, by simp [ownTo], ?_⟩
    simpa [hdrTo] using hp)
  rw [St.kill_nil] at h
  exact ⟨_, _, h.1, hp⟩
theorem stab_pers (r : RelX P N w0 own0 hdr0 Fr own hdr s a w) {c : AC} {v : Value} {x : DV} (hc : RC P w own hdr s.ob c v) (h : s.rd c = some x)
    (hst : (∃ y, c = .d y) ∨ (∃ sz, c = .nil sz) ∨ ∃ id ver y, c = .arr id ver ∧ s.obj id ver = .frz y) : Pers w (Free w own) x v := by
  rcases hst with ⟨y, rfl⟩ | ⟨sz, rfl⟩ | ⟨id, ver, y, rfl, hk⟩
  · simp [St.rd] at h; subst h; exact hc
  · simp [St.rd] at h; subst h
    rw [show v = .slice none 0 0 from hc]
    exact .emp _ _ _
  · simp [St.rd, hk] at h; subst h
    obtain ⟨h1, h2⟩ := St.obj_ok hk (by simp)
    rw [hc.2 h1.symm]
    exact (r.frzAt h2).2.2
theorem rd_cur {c : AC} {x : DV} {id ver : Nat} (hc : c = .arr id ver) (h : s.rd c = some x) : (s.ob id).ver = ver ∧ ((∃ dp, (s.ob id).k = .arr dp x) ∨ (s.ob id).k = .frz x) := by
  subst hc
  simp only [St.rd] at h
  split at h
  · rename_i dp y hk
    obtain ⟨h1, h2⟩ := St.obj_ok hk (by simp)
    simp at h; subst h
    exact ⟨h1, .inl ⟨dp, h2⟩⟩
  · rename_i y hk
    obtain ⟨h1, h2⟩ := St.obj_ok hk (by simp)
    simp at h; subst h
    exact ⟨h1, .inr h2⟩
  · simp at h
theorem Good.mk' {K : AV → St → Prop} {v : Value} {x : AV} {s' : St} {w' : World} (hK : K x s') (hr : RelV P N w0 own0 hdr0 Fr s' a w' x v) : Good P N w0 own0 hdr0 Fr a K (.ok (.value v) w') :=
  ⟨v, w', x, s', .inl rfl, hK, hr⟩
theorem Rel.skip {s' : St} {w' : World} (h : Rel P N w0 own0 hdr0 Fr s' a w') {K : AV → St → Prop} (hK : K (.c .any) s') : Good P N w0 own0 hdr0 Fr a K (.ok .skip w') := by
  obtain ⟨own, hdr, r⟩ := h
  exact ⟨undef, w', _, s', .inr ⟨rfl, rfl⟩, hK, own, hdr, r, trivial⟩
end
end Hearth

/- The abstract machine: each operation that is no call does what the model's does. -/
namespace Hearth
open Go
section
variable {P : Program} {N : Nat} {w0 : World} {own0 : Nat → Nat → Prop} {hdr0 : Nat → Value} {Fr : List ((Nat → Prop) × World)} {own : Nat → Nat → Prop} {hdr : Nat → Value} {s : St} {a : Act} {w : World} {F : Nat → Prop}
theorem kB {v : Value} {b : Bool} (h : RS P w own hdr s.ob (.c (.d (.sc (.bool b)))) v) : v = .bool b := sc_of h
theorem rsB (b : Bool) : RS P w own hdr s.ob (.b b) (.bool b) := .sc _ rfl
theorem rsV {v : Value} (h : v.oneCell' = true) : RS P w own hdr s.ob (.vv v) v := .sc _ h
theorem snd_bin {K : AV → St → Prop} {o : Oper} {op : BinOp} {xt yt : TypeId} {x y : Operand} {x' y' : X} (r : RelX P N w0 own0 hdr0 Fr own hdr s a w) (ho : o.op = .binOp op xt x y yt)
    (hx : digX P xt x = some x') (hy : digX P yt y = some y') (h : stepO P s (.bin op x' y') K) : GoodQ P N w0 own0 hdr0 Fr F a w K (execOp a.eval o) := by
  simp only [stepO] at h
  split at h
  · rename_i u v hu hv
    split at h
    · rename_i z hz
      have h1 := ev_sound r hx
      have h2 := ev_sound r hy
      rw [hu] at h1
      rw [hv] at h2
      have e1 := sc_of h1
      have e2 := sc_of h2
      refine GoodQ.val r (fun w' => by simp only [execOp, ho, e1, e2, Sem.run_bind, eqGuard_sc hz, Result.andThen_ok, evBin_run hz, Sem.run_pure]) (rsV (evBin_one hz)) h
    · exact h.elim
  · exact h.elim
theorem snd_beq {K : AV → St → Prop} {o : Oper} {ne : Bool} {xt yt : TypeId} {x y : Operand} {x' y' : X} (r : RelX P N w0 own0 hdr0 Fr own hdr s a w) (ho : o.op = .binOp (if ne then .neq else .eql) xt x y yt)
    (ht : P.underlying xt = some .bool) (hx : digX P xt x = some x') (hy : digX P yt y = some y') (h : stepO P s (.beq ne x' y') K) : GoodQ P N w0 own0 hdr0 Fr F a w K (execOp a.eval o) := by
  simp only [stepO] at h
  split at h
  · rename_i u v hu hv
    have h1 := ev_sound r hx
    have h2 := ev_sound r hy
    rw [hu] at h1
    rw [hv] at h2
    have e1 := sc_of h1
    have e2 := sc_of h2
    have : ∀ w' : World, (execOp a.eval o).run P w' = .ok (.value (.bool (if ne then u != v else u == v))) w' := by
      intro w'
      cases ne <;> simp [execOp, ho, e1, e2, eqGuard, run_eql_bool w' xt u v ht, run_neq_bool w' xt u v ht, bne]
    exact GoodQ.val r this (rsB _) h
  · exact h.elim
theorem snd_eqn {K : AV → St → Prop} {o : Oper} {ne : Bool} {xt yt e : TypeId} {x : Operand} {x' : X} (r : RelX P N w0 own0 hdr0 Fr own hdr s a w) (ho : o.op = .binOp (if ne then .neq else .eql) xt x (.const (.slice none 0 0)) yt)
    (ht : P.underlying xt = some (.slice e)) (hx : digX P xt x = some x') (h : stepO P s (.eqn ne x') K) : GoodQ P N w0 own0 hdr0 Fr F a w K (execOp a.eval o) := by
  have h1 := ev_sound r hx
  have run : ∀ A n c, a.eval x = .slice A n c → ∀ w' : World, (execOp a.eval o).run P w' = .ok (.value (.bool (if ne then !A.isNone else A.isNone))) w' := by
    intro A n c he w'
    have hc : a.eval (.const (.slice none 0 0)) = .slice none 0 0 := rfl
    cases ne <;> simp [execOp, ho, he, hc, eqGuard, binOp, run_equal_slice_nil w' xt e A n c ht]
  simp only [stepO] at h
  split at h
  · rename_i sz hsz
    rw [hsz] at h1
    have := run none 0 0 h1
    rw [show (if ne then !(none : Option Addr).isNone else (none : Option Addr).isNone) = !ne by cases ne <;> rfl] at this
    exact GoodQ.val r this (rsB _) h
  · rename_i c hc hsz
    split at h
    · rename_i y hy
      rw [hsz] at h1
      obtain ⟨h2, h3⟩ := h
      have hp := r.rd h1 hy
      obtain ⟨A, cp, he, _⟩ := hp.slice h2
      refine GoodQ.val r (run A _ cp he) (rsB _) (h3 A.isNone fun h0 => ?_)
      rw [he] at hp
      obtain ⟨_, b, off, hA, _⟩ := hp.rowAt h2 h0
      rw [hA]; rfl
    · exact h.elim
  · exact h.elim
theorem snd_slen {K : AV → St → Prop} {o : Oper} {t : TypeId} {x : Operand} {x' : X} (r : RelX P N w0 own0 hdr0 Fr own hdr s a w) (ho : o.op = .call { callee := .builtin .len, args := #[x], argTypes := #[t] })
    (ht : P.underlying t = some .string) (hx : digX P t x = some x') (h : stepO P s (.slen x') K) : GoodQ P N w0 own0 hdr0 Fr F a w K (execOp a.eval o) := by
  have h1 := ev_sound r hx
  simp only [stepO] at h
  split at h
  · rename_i b hb
    rw [hb] at h1
    have e1 := sc_of h1
    have : ∀ w' : World, (execOp a.eval o).run P w' = .ok (.value (.int .i64 b.size)) w' := by
      intro w'
      simp [execOp, ho, resolve, invoke, builtin, Builtin.len_, run_underlying ht, e1, goInt]
    exact GoodQ.val r this (rsV rfl) h
  · exact h.elim
theorem snd_len {K : AV → St → Prop} {o : Oper} {t e : TypeId} {x : Operand} {x' : X} (r : RelX P N w0 own0 hdr0 Fr own hdr s a w) (ho : o.op = .call { callee := .builtin .len, args := #[x], argTypes := #[t] })
    (ht : P.underlying t = some (.slice e)) (hx : digX P t x = some x') (h : stepO P s (.len x') K) : GoodQ P N w0 own0 hdr0 Fr F a w K (execOp a.eval o) := by
  have h1 := ev_sound r hx
  simp only [stepO] at h
  split at h
  · rename_i c hb
    rw [hb] at h1
    split at h
    · rename_i y hy
      obtain ⟨h2, h3⟩ := h
      obtain ⟨A, cp, he, _⟩ := (r.rd h1 hy).slice h2
      have : ∀ w' : World, (execOp a.eval o).run P w' = .ok (.value (.int .i64 y.len)) w' := by
        intro w'
        simp [execOp, ho, resolve, invoke, builtin, Builtin.len_, run_underlying ht, he, goInt]
      exact GoodQ.val r this (rsV rfl) h3
    · exact h.elim
  · exact h.elim
theorem snd_app' {K : AV → St → Prop} {o : Oper} {t e : TypeId} {i : TypeInfo} {d : Nat} {x y : Operand} {x' y' : X} {zs : List X} (r : RelX P N w0 own0 hdr0 Fr own hdr s a w) (ho : o.op = .call { callee := .builtin .append, args := #[x, y], argTypes := #[t, t] })
    (ht : elemOf? P t = some (e, i)) (hx : digX P t x = some x') (hy : digX P t y = some y') (hz : zeroXs P e = some zs) (hl : zs.length = i.size) (h : stepO P s (.app d i.size i.bytes x' y') K) : Good P N w0 own0 hdr0 Fr a K ((execOp a.eval o).run P w) := by
  simp only [stepO] at h
  split at h
  · rename_i u v hu hv
    have h1 := ev_sound r hx
    have h2 := ev_sound r hy
    rw [hu] at h1
    rw [hv] at h2
    have hres : ∃ v w' z s', (Builtin.append_ #[t, t] o.type #[a.eval x, a.eval y]).run P w = .ok v w' ∧ K z s' ∧ RelV P N w0 own0 hdr0 Fr s' a w' z v := by
      rcases h with h | h
      · exact snd_app (K := K) (d := d) r ht (by rw [hz]; rfl) (fun z hz' => by
          obtain ⟨i', z', e1, e2, e3, _⟩ := zeroXs_sound hz
          rw [(elemOf?_sound ht).2] at e1; simp at e1; subst e1
          rw [hz'] at e2; simp at e2; subst e2
          rw [← e3, hl]) h1 h2 o.type h
      · exact snd_del (K := K) (d := d) r ht h1 h2 o.type h
    obtain ⟨v', w', z, s', g1, g2, g3⟩ := hres
    have : (execOp a.eval o).run P w = .ok (.value v') w' := by
      simp [execOp, ho, resolve, invoke, builtin, g1]
    rw [this]
    exact Good.mk' g2 g3
  · exact h.elim
theorem snd_apps' {K : AV → St → Prop} {o : Oper} {t u e : TypeId} {i : TypeInfo} {d : Nat} {x y : Operand} {x' y' : X} {zs : List X} (r : RelX P N w0 own0 hdr0 Fr own hdr s a w) (ho : o.op = .call { callee := .builtin .append, args := #[x, y], argTypes := #[t, u] })
    (hu : P.underlying u = some .string) (ht : elemOf? P t = some (e, i)) (hx : digX P t x = some x') (hy : digX P u y = some y') (hz : zeroXs P e = some zs) (hl : zs.length = i.size) (h : stepO P s (.apps d i.size i.bytes x' y') K) : Good P N w0 own0 hdr0 Fr a K ((execOp a.eval o).run P w) := by
  simp only [stepO] at h
  split at h
  · rename_i u' b hu' hv
    have h1 := ev_sound r hx
    have h2 := ev_sound r hy
    rw [hu'] at h1
    rw [hv] at h2
    have h2' := sc_of h2
    obtain ⟨v', w', z, s', g1, g2, g3⟩ := snd_apps (K := K) (d := d) r ht hu (by rw [hz]; rfl) (fun z hz' => by
      obtain ⟨i', z', e1, e2, e3, _⟩ := zeroXs_sound hz
      rw [(elemOf?_sound ht).2] at e1; simp at e1; subst e1
      rw [hz'] at e2; simp at e2; subst e2
      rw [← e3, hl]) h1 o.type h
    have : (execOp a.eval o).run P w = .ok (.value v') w' := by
      simp [execOp, ho, resolve, invoke, builtin, h2', g1]
    rw [this]
    exact Good.mk' g2 g3
  · exact h.elim
theorem snd_mm {K : AV → St → Prop} {o : Oper} {mx : Bool} {ts : Array TypeId} {x y : Operand} {x' y' : X} {t u : TypeId} (r : RelX P N w0 own0 hdr0 Fr own hdr s a w) (ho : o.op = .call { callee := .builtin (if mx then .max else .min), args := #[x, y], argTypes := ts })
    (hx : digX P t x = some x') (hy : digX P u y = some y') (h : stepO P s (.mm mx x' y') K) : GoodQ P N w0 own0 hdr0 Fr F a w K (execOp a.eval o) := by
  simp only [stepO] at h
  split at h
  · rename_i k p k' q hu hv
    have h1 := ev_sound r hx
    have h2 := ev_sound r hy
    rw [hu] at h1
    rw [hv] at h2
    have e1 := sc_of h1
    have e2 := sc_of h2
    obtain ⟨rfl, h⟩ := h
    have : ∀ w' : World, (execOp a.eval o).run P w' = .ok (.value (.int k (if mx then (if q > p then q else p) else (if q < p then q else p)))) w' := by
      intro w'
      cases mx <;> simp [execOp, ho, resolve, invoke, builtin, Builtin.max_, Builtin.min_, e1, e2, Builtin.max2, Builtin.min2]
    exact GoodQ.val r this (rsV rfl) h
  · exact h.elim
theorem snd_win {K : AV → St → Prop} {o : Oper} {t e : TypeId} {i : TypeInfo} {x : Operand} {lo hi : Option Operand} {x' : X} {lo' hi' : Option X} (r : RelX P N w0 own0 hdr0 Fr own hdr s a w) (ho : o.op = .slice t x lo hi none)
    (ht : elemOf? P t = some (e, i)) (hx : digX P t x = some x') (hlo : digO? P 0 lo = some lo') (hhi : digO? P 0 hi = some hi') (h : winA s i.size x' lo' hi' K) :
    GoodQ P N w0 own0 hdr0 Fr F a w K (execOp a.eval o) := by
  have h1 := ev_sound r hx
  obtain ⟨id, ver, ev, dp, y, hxe, hob, hsz, hpos, p, q, g2, g3, g4, g5, g6⟩ := h
  rw [hxe] at h1
  have hk' : (s.ob id).k = .arr dp y := by rw [hob]
  have hv' : (s.ob id).ver = ver := by rw [hob]
  replace h1 : RC P w own hdr s.ob (.arr id ver) (a.eval x) := h1
  have he := h1.2 hv'.symm
  obtain ⟨hsl, htop⟩ := r.arrAt hk'
  have hrl := len_rows hsl
  rcases htop with ⟨f1, f2⟩ | ⟨b, cap, cur, e', us, Fs, f1, f2, f3, f4, f5, f6, f7, f8, f9, f10, f11⟩
  · exfalso
    rw [f1] at hrl
    simp at hrl
    omega
  have bound : ∀ {lo : Option Operand} {lo' : Option X} {p n : Nat}, digO? P 0 lo = some lo' → (Option.map s.ev lo' = none ∧ p = n ∨ ∃ k, Option.map s.ev lo' = some (.vv (.int k p))) → (lo.map a.eval = none ∧ p = n ∨ ∃ k, lo.map a.eval = some (.int k p)) := by
    intro lo lo' p n h2 h3
    cases lo with
    | none =>
      simp [digO?] at h2; subst h2
      rcases h3 with ⟨_, h3⟩ | ⟨k, h3⟩
      · exact .inl ⟨rfl, h3⟩
      · simp at h3
    | some z =>
      simp only [digO?, Option.map_eq_some_iff] at h2
      obtain ⟨z', h4, rfl⟩ := h2
      rcases h3 with ⟨h3, _⟩ | ⟨k, h3⟩
      · simp at h3
      · simp at h3
        have h5 := ev_sound r h4
        rw [h3] at h5
        exact .inr ⟨k, by simp [sc_of h5]⟩
  rw [hrl] at f1 f4
  have hrun : ∀ w' : World, (execOp a.eval o).run P w' = .ok (.value (.slice (if cap = p then some ⟨b, 0, none⟩ else some ⟨b, p * i.size, none⟩) (q - p) (cap - p))) w' := by
    intro w'
    have := run_cut (P := P) (w := w') (A := some ⟨b, 0, none⟩) (n := y.len) (c := cap) (lo := p) (hi := q) (l := lo.map a.eval) (h := hi.map a.eval) ht (bound hlo g2) (bound hhi g3) g4 g5 f4
    simp only [Option.map_some, addr_add, Nat.zero_add] at this
    simp only [execOp, ho, he, f1]
    simp [this]
  refine GoodQ.val r hrun (x := .c (.win id ver p q)) ?_ g6
  refine ⟨Nat.le_of_eq hv'.symm, fun _ => ⟨b, y.len, cap, f1, g4, g5, ?_⟩⟩
  rw [show (s.ob id).k.dv.esz = i.size by rw [hk']; exact hsz]
theorem snd_cut {K : AV → St → Prop} {o : Oper} {t e : TypeId} {i : TypeInfo} {x : Operand} {lo hi : Option Operand} {x' : X} {lo' hi' : Option X} (r : RelX P N w0 own0 hdr0 Fr own hdr s a w) (ho : o.op = .slice t x lo hi none)
    (ht : elemOf? P t = some (e, i)) (hx : digX P t x = some x') (hlo : digO? P 0 lo = some lo') (hhi : digO? P 0 hi = some hi') (h : stepO P s (.cut i.size x' lo' hi') K) :
    GoodQ P N w0 own0 hdr0 Fr F a w K (execOp a.eval o) := by
  have h1 := ev_sound r hx
  simp only [stepO] at h
  refine Or.elim h (fun h => ?_) fun h => snd_win r ho ht hx hlo hhi h
  unfold cutA at h
  split at h
  · rename_i c hc
    rw [hc] at h1
    replace h1 : RC P w own hdr s.ob c (a.eval x) := h1
    split at h
    · rename_i y hy
      obtain ⟨g1, hez, p, q, g2, g3, g4, g5, g6⟩ := h
      obtain ⟨A, cp, he, hle⟩ := (r.rd h1 hy).slice g1
      have bound : ∀ {lo : Option Operand} {lo' : Option X} {p n : Nat}, digO? P 0 lo = some lo' → (Option.map s.ev lo' = none ∧ p = n ∨ ∃ k, Option.map s.ev lo' = some (.vv (.int k p))) → (lo.map a.eval = none ∧ p = n ∨ ∃ k, lo.map a.eval = some (.int k p)) := by
        intro lo lo' p n h2 h3
        cases lo with
        | none =>
          simp [digO?] at h2; subst h2
          rcases h3 with ⟨_, h3⟩ | ⟨k, h3⟩
          · exact .inl ⟨rfl, h3⟩
          · simp at h3
        | some z =>
          simp only [digO?, Option.map_eq_some_iff] at h2
          obtain ⟨z', h4, rfl⟩ := h2
          rcases h3 with ⟨h3, _⟩ | ⟨k, h3⟩
          · simp at h3
          · simp at h3
            have h5 := ev_sound r h4
            rw [h3] at h5
            exact .inr ⟨k, by simp [sc_of h5]⟩
      have hrun : ∀ w' : World, (execOp a.eval o).run P w' = .ok (.value (.slice (if cp = p then A else A.map (·.add (p * i.size))) (q - p) (cp - p))) w' := by
        intro w'
        have := run_cut (P := P) (w := w') (A := A) (n := y.len) (c := cp) (lo := p) (hi := q) (l := lo.map a.eval) (h := hi.map a.eval) ht (bound hlo g2) (bound hhi g3) g4 g5 hle
        simp only [execOp, ho, he]
        simp [this]
      split at g6
      · have hp := stab_pers r h1 hy (.inl ⟨_, rfl⟩)
        rw [he] at hp
        have := hp.cut g1 g4 g5
        rw [hez] at this
        exact GoodQ.val r hrun (x := .dv (y.cut p q)) this g6
      · have hp := stab_pers r h1 hy (.inr (.inl ⟨_, rfl⟩))
        rw [he] at hp
        have := hp.cut g1 g4 g5
        rw [hez] at this
        exact GoodQ.val r hrun (x := .dv (y.cut p q)) this g6
      · rename_i id ver
        have hcc : AC.arr id ver = AC.arr id ver := rfl
        obtain ⟨v1, v2⟩ := rd_cur hcc hy
        split at g6
        · rename_i z hz
          have hp := stab_pers r h1 hy (.inr (.inr ⟨id, ver, z, hcc, by simp [St.obj, v1, hz]⟩))
          rw [he] at hp
          have := hp.cut g1 g4 g5
          rw [hez] at this
          exact GoodQ.val r hrun (x := .dv (y.cut p q)) this g6
        · rename_i hnf
          obtain ⟨g7, g8, g9⟩ := g6
          rcases v2 with ⟨dp, hk⟩ | hk
          · obtain ⟨own', hdr', r', hp⟩ := r.freeze hk g7 g8
            have hv : a.eval x = hdr id := h1.2 v1.symm
            rw [← hv, he] at hp
            have := hp.cut g1 g4 g5
            rw [hez] at this
            exact GoodQ.mk' hrun (x := .dv (y.cut p q)) g9 ⟨own', hdr', r', this⟩
          · exact absurd hk (hnf y)
      · exact g6.elim
    · exact h.elim
  · exact h.elim
theorem snd_cut3 {K : AV → St → Prop} {o : Oper} {t e : TypeId} {i : TypeInfo} {x hi mx : Operand} {lo : Option Operand} {x' hi' mx' : X} {lo' : Option X} (r : RelX P N w0 own0 hdr0 Fr own hdr s a w) (ho : o.op = .slice t x lo (some hi) (some mx))
    (ht : elemOf? P t = some (e, i)) (hx : digX P t x = some x') (hlo : digO? P 0 lo = some lo') (hhi : digX P 0 hi = some hi') (hmx : digX P 0 mx = some mx') (h : stepO P s (.cut3 i.size x' lo' hi' mx') K) :
    GoodQ P N w0 own0 hdr0 Fr F a w K (execOp a.eval o) := by
  have h1 := ev_sound r hx
  have h7 := ev_sound r hhi
  have h8 := ev_sound r hmx
  simp only [stepO] at h
  split at h
  · rename_i y hc
    rw [hc] at h1
    replace h1 : RC P w own hdr s.ob (.d y) (a.eval x) := h1
    have hy : s.rd (.d y) = some y := rfl
    obtain ⟨g1, hez, p, q, g2, ⟨k1, g3⟩, ⟨k2, g3'⟩, g4, g5, g6⟩ := h
    rw [g3] at h7
    rw [g3'] at h8
    obtain ⟨A, cp, he, hle⟩ := (r.rd h1 hy).slice g1
    have hlo' : lo.map a.eval = none ∧ p = 0 ∨ ∃ k, lo.map a.eval = some (.int k p) := by
      cases lo with
      | none =>
        simp [digO?] at hlo; subst hlo
        rcases g2 with ⟨_, h3⟩ | ⟨k, h3⟩
        · exact .inl ⟨rfl, h3⟩
        · simp at h3
      | some z =>
        simp only [digO?, Option.map_eq_some_iff] at hlo
        obtain ⟨z', h4, rfl⟩ := hlo
        rcases g2 with ⟨h3, _⟩ | ⟨k, h3⟩
        · simp at h3
        · simp at h3
          have h5 := ev_sound r h4
          rw [h3] at h5
          exact .inr ⟨k, by simp [sc_of h5]⟩
    have hrun : ∀ w' : World, (execOp a.eval o).run P w' = .ok (.value (.slice (if q = p then A else A.map (·.add (p * i.size))) (q - p) (q - p))) w' := by
      intro w'
      have := run_cut3 (P := P) (w := w') (A := A) (n := y.len) (c := cp) (lo := p) (hi := q) (l := lo.map a.eval) (k' := k1) (k'' := k2) ht hlo' g4 g5 hle
      simp only [execOp, ho, he]
      simp [sc_of h7, sc_of h8, this]
    have hp := stab_pers r h1 hy (.inl ⟨_, rfl⟩)
    rw [he] at hp
    have hp2 := hp.cut g1 g4 g5
    rw [hez] at hp2
    refine GoodQ.val r hrun (x := .dv (y.cut p q)) ?_ g6
    by_cases hqp : q = p
    · subst hqp
      rw [if_pos rfl, Nat.sub_self]
      have : y.cut q q = .sl y.esz [] := by simp [DV.cut]
      rw [this]
      exact .emp _ _ _
    · rw [if_neg hqp]
      have hcp : ¬ cp = p := by omega
      rw [if_neg hcp] at hp2
      exact hp2.cap rfl (Nat.le_refl _) (by omega)
  · exact h.elim
end
end Hearth

/- The abstract machine: each operation that is no call does what the model's does (2). -/
namespace Hearth
open Go
section
variable {P : Program} {N : Nat} {w0 : World} {own0 : Nat → Nat → Prop} {hdr0 : Nat → Value} {Fr : List ((Nat → Prop) × World)} {own : Nat → Nat → Prop} {hdr : Nat → Value} {s : St} {a : Act} {w : World} {K : AV → St → Prop} {o : Oper} {F : Nat → Prop}
theorem snd_mov {t : TypeId} {x : Operand} {x' : X} (r : RelX P N w0 own0 hdr0 Fr own hdr s a w) (ho : o.op = .move x ∨ o.op = .assign x) (hx : digX P t x = some x') (h : stepO P s (.mov x') K) : GoodQ P N w0 own0 hdr0 Fr F a w K (execOp a.eval o) := by
  have : ∀ w' : World, (execOp a.eval o).run P w' = .ok (.value (a.eval x)) w' := by
    intro w'
    rcases ho with ho | ho <;> simp [execOp, ho]
  exact GoodQ.val r this (ev_sound r hx) h
theorem snd_nck {t : TypeId} {x : Operand} {x' : X} (r : RelX P N w0 own0 hdr0 Fr own hdr s a w) (ho : o.op = .nilCheck x) (hx : digX P t x = some x') (h : stepO P s (.nck x') K) : GoodQ P N w0 own0 hdr0 Fr F a w K (execOp a.eval o) := by
  have h1 := ev_sound r hx
  simp only [stepO] at h
  split at h
  · rename_i c hc
    rw [hc] at h1
    replace h1 : RC P w own hdr s.ob c (a.eval x) := h1
    obtain ⟨h2, h3⟩ := h
    have : ∃ ad, a.eval x = .pointer (some ad) := by
      split at h2
      · obtain ⟨b, off, h4, _⟩ := h1
        exact ⟨_, h4⟩
      · simp only [St.live] at h2
        split at h2
        · rename_i hk
          obtain ⟨b, _, h4⟩ := h1.2 (St.obj_ok hk (by simp)).1.symm
          exact ⟨_, h4⟩
        · simp at h2
      · simp only [St.live] at h2
        split at h2
        · rename_i hk
          obtain ⟨b, n, cap, _, _, h4⟩ := h1.2 (St.obj_ok hk (by simp)).1.symm
          exact ⟨_, h4⟩
        · simp at h2
      · simp only [St.live] at h2
        split at h2
        · rename_i hk
          obtain ⟨b, n, cap, _, _, h4⟩ := h1.2 (St.obj_ok hk (by simp)).1.symm (by have := h2; simp at this; exact this.symm)
          exact ⟨_, h4⟩
        · simp at h2
      · exact h2.elim
    obtain ⟨ad, he⟩ := this
    exact GoodQ.val (v := a.eval x) (x := .c c) r (fun w' => by simp [execOp, ho, he]) h1 h3
  · exact h.elim
theorem snd_pick {t : TypeId} {c x y : Operand} {c' x' y' : X} (r : RelX P N w0 own0 hdr0 Fr own hdr s a w) (ho : o.op = .pick c x y) (hc : digX P t c = some c') (hx : digX P t x = some x') (hy : digX P t y = some y')
    (h : stepO P s (.pick c' x' y') K) : GoodQ P N w0 own0 hdr0 Fr F a w K (execOp a.eval o) := by
  simp only [stepO] at h
  split at h
  · rename_i b hb
    have h1 := ev_sound r hc
    rw [hb] at h1
    have e1 := kB h1
    have : ∀ w' : World, (execOp a.eval o).run P w' = .ok (.value (if b then a.eval x else a.eval y)) w' := by intro w'; simp [execOp, ho, e1, asBool]
    cases b
    · exact GoodQ.val r this (ev_sound r hy) (h.2 rfl)
    · exact GoodQ.val r this (ev_sound r hx) (h.1 rfl)
  · exact h.elim
theorem snd_un {op : UnOp} {t : TypeId} {x : Operand} {x' : X} (r : RelX P N w0 own0 hdr0 Fr own hdr s a w) (ho : o.op = .unOp op t x) (hx : digX P t x = some x') (h : stepO P s (.un op x') K) : GoodQ P N w0 own0 hdr0 Fr F a w K (execOp a.eval o) := by
  simp only [stepO] at h
  split at h
  · rename_i u hu
    split at h
    · rename_i v hv
      have h1 := ev_sound r hx
      rw [hu] at h1
      have e1 := sc_of h1
      refine GoodQ.val r (fun w' => by simp only [execOp, ho, e1, Sem.run_bind, evUn_run hv, Result.andThen_ok, Sem.run_pure]) (rsV (evUn_one hv)) h
    · exact h.elim
  · exact h.elim
theorem snd_conv {k k0 : IntKind} {src dst : TypeId} {x : Operand} {x' : X} (r : RelX P N w0 own0 hdr0 Fr own hdr s a w) (ho : o.op = .convert src dst x) (hs : P.underlying src = some (.int k0)) (hd : P.underlying dst = some (.int k))
    (hx : digX P src x = some x') (h : stepO P s (.conv k x') K) : GoodQ P N w0 own0 hdr0 Fr F a w K (execOp a.eval o) := by
  simp only [stepO] at h
  split at h
  · rename_i k' n hn
    have h1 := ev_sound r hx
    rw [hn] at h1
    have e1 := sc_of h1
    have : ∀ w' : World, (execOp a.eval o).run P w' = .ok (.value (.int k (k.wrap n))) w' := by
      intro w'
      simp [execOp, ho, convert, run_underlying hs, run_underlying hd, e1, Conv.intToInt]
    exact GoodQ.val r this (rsV rfl) h
  · exact h.elim
theorem snd_sts {src dst : TypeId} {x : Operand} {x' : X} (r : RelX P N w0 own0 hdr0 Fr own hdr s a w) (ho : o.op = .convert src dst x) (hs : P.underlying src = some .string) (hd : P.underlying dst = some .string)
    (hx : digX P src x = some x') (h : stepO P s (.sts x') K) : GoodQ P N w0 own0 hdr0 Fr F a w K (execOp a.eval o) := by
  simp only [stepO] at h
  split at h
  · rename_i b hb
    have h1 := ev_sound r hx
    rw [hb] at h1
    have e1 := sc_of h1
    have : ∀ w' : World, (execOp a.eval o).run P w' = .ok (.value (.string b)) w' := by
      intro w'
      simp [execOp, ho, convert, run_underlying hs, run_underlying hd, e1]
    exact GoodQ.val r this (rsV rfl) h
  · exact h.elim
theorem snd_b2s' {src dst e : TypeId} {x : Operand} {x' : X} (r : RelX P N w0 own0 hdr0 Fr own hdr s a w) (ho : o.op = .convert src dst x) (hs : P.underlying src = some (.slice e)) (he : P.underlying e = some (.int .u8)) (hd : P.underlying dst = some .string)
    (hx : digX P src x = some x') (h : stepO P s (.b2s x') K) : Good P N w0 own0 hdr0 Fr a K ((execOp a.eval o).run P w) := by
  simp only [stepO] at h
  split at h
  · rename_i c hc
    split at h
    · rename_i y hy
      obtain ⟨l, rfl, hK⟩ := h
      have h1 := ev_sound r hx
      rw [hc] at h1
      have hp := r.rd h1 hy
      have : (execOp a.eval o).run P w = .ok (.value (.string ⟨l.toArray⟩)) w := by
        simp [execOp, ho, snd_b2s hs he hd hp]
      rw [this]
      exact Good.val r (rsV rfl) hK
    · exact h.elim
  · exact h.elim
theorem snd_s2b {src dst e : TypeId} {x : Operand} {x' : X} (r : RelX P N w0 own0 hdr0 Fr own hdr s a w) (ho : o.op = .convert src dst x) (hs : P.underlying src = some .string) (hd : P.underlying dst = some (.slice e)) (he : P.underlying e = some (.int .u8))
    (hx : digX P src x = some x') (h : stepO P s (.s2b x') K) : Good P N w0 own0 hdr0 Fr a K ((execOp a.eval o).run P w) := by
  simp only [stepO] at h
  split at h
  · rename_i b hb
    have h1 := ev_sound r hx
    rw [hb] at h1
    have e1 := sc_of h1
    have : (execOp a.eval o).run P w = .ok (.value (.slice (some ⟨w.heap.size, 0, none⟩) b.size (grownCap w b.size 0 e))) (Lib.bytesWorld w e b) := by
      simp [execOp, ho, e1, Lib.run_convert_string_bytes w src dst e b hs hd he]
    rw [this]
    have hx : Ext w (Lib.bytesWorld w e b) (fun _ => False) := ⟨rfl, rfl, rfl, by rw [Lib.bytesWorld_size]; omega, fun j hj _ => Lib.bytesWorld_at_old w e b j hj, by unfold Lib.bytesWorld World.freeze; split <;> exact Nat.le_succ _⟩
    obtain ⟨r', _⟩ := r.more hx
    refine Good.val r' (x := .dv (encB b.toList)) (bytes_pers h.1 ?_ _ rfl) h.2
    refine ⟨by rw [Lib.bytesWorld_size]; omega, fun j hj => ?_⟩
    have := r.lt j _ hj
    omega
  · exact h.elim
theorem snd_box {t : TypeId} {d : Nat} {x : Operand} {x' : X} (r : RelX P N w0 own0 hdr0 Fr own hdr s a w) (ho : o.op = .box t x) (hx : digX P t x = some x') (h : stepO P s (.box d x') K) : Good P N w0 own0 hdr0 Fr a K ((execOp a.eval o).run P w) := by
  have h1 := ev_sound r hx
  have run : (execOp a.eval o).run P w = .ok (.value (.pointer (some ⟨w.heap.size, 0, none⟩))) (w.alloc (.cells (a.eval x).cells t)) := by
    simp [execOp, ho, Instr.box, newVar, newRow]
  rw [run]
  simp only [stepO] at h
  split at h
  · exact h.elim
  · rename_i hv
    obtain ⟨h2, h3, h4⟩ := h
    have : (a.eval x).cells.size = (s.ev x').cells.length ∧ ∀ (k : Nat) (c : AC) (u : Value), (s.ev x').cells[k]? = some c → (a.eval x).cells[k]? = some u → RC P w own hdr s.ob c u :=
      RS.cells h1 (fun c u hc hr => by
        rw [hc] at h3
        exact r.one hr (by simpa [AV.cells] using h3)) (fun l hl => hv l hl)
    exact Good.mk' h4 (r.box (rid_al _ _) h2 this.1 this.2)
theorem snd_alloc {t : TypeId} {d : Nat} {zs : List X} (r : RelX P N w0 own0 hdr0 Fr own hdr s a w) (ho : o.op = .alloc t) (hz : zeroXs P t = some zs) (h : stepO P s (.alloc d zs) K) : Good P N w0 own0 hdr0 Fr a K ((execOp a.eval o).run P w) := by
  obtain ⟨i, z, z1, z2, z3, z4⟩ := zeroXs_sound hz
  have run : (execOp a.eval o).run P w = .ok (.value (.pointer (some ⟨w.heap.size, 0, none⟩))) (w.alloc (.cells z.cells t)) := by
    simp [execOp, ho, Instr.alloc, run_zero z1 z2, newVar, newRow]
  rw [run]
  simp only [stepO] at h
  refine Good.mk' h.2 (r.box (rid_al _ _) h.1 (by simp [z3]) fun k c u hc hu => ?_)
  rw [List.getElem?_map, Option.map_eq_some_iff] at hc
  obtain ⟨x, hx, rfl⟩ := hc
  exact z4 k x u hx hu
theorem snd_build {t : TypeId} {fs : Array Field} {places : List (Nat × Nat)} {zs : List X} {parts : Array (Nat × Operand)} {ps : List (Nat × Nat × X)} (r : RelX P N w0 own0 hdr0 Fr own hdr s a w) (ho : o.op = .build t parts)
    (ht : fieldsOf P t = some fs) (hz : zeroXs P t = some zs) (hp : fs.toList.mapM (fun f => (P.info? f.type).map fun i => (f.offset, i.size)) = some places) (hd : digParts P (placeOf fs places) parts.toList = some ps)
    (h : stepO P s (.build zs ps) K) : GoodQ P N w0 own0 hdr0 Fr F a w K (execOp a.eval o) := by
  obtain ⟨i, z, z1, z2, z3, z4⟩ := zeroXs_sound hz
  simp only [stepO] at h
  split at h
  · rename_i cs hf
    obtain ⟨vs', f1, f2, f3⟩ := fill_sound r (placeOf fs places) hd hf (vs := z.cells) (by simp [z3]) (fun k c u hc hu => by
      rw [List.getElem?_map, Option.map_eq_some_iff] at hc
      obtain ⟨x, hx, rfl⟩ := hc
      exact z4 k x u hx hu)
    have hpl : (fun i => (placeOf fs places i).map fun p => (p.2.1, p.2.2)) = (places.toArray[·]?) := by
      funext i
      simp only [placeOf, Option.map_map, List.getElem?_toArray]
      cases places[i]? <;> rfl
    rw [hpl] at f1
    have hb : P.built t (parts.toList.map fun p => (p.1, a.eval p.2)) = some vs' := by
      simp only [Program.built, z1, fieldsOf_sound ht, z2, hp, f1]
    have run : ∀ w' : World, (execOp a.eval o).run P w' = .ok (.value (.agg vs')) w' := by
      intro w'
      simp only [execOp, ho]
      have := run_build (P := P) w' t (parts.map fun (i, x) => (i, a.eval x)) vs' (by simpa using hb)
      simp [this]
    exact GoodQ.val r run (x := .g cs) ⟨vs', rfl, f2, f3⟩ h
  · exact h.elim
theorem snd_buildA {t e : TypeId} {ie : TypeInfo} {zs : List X} {parts : Array (Nat × Operand)} {ps : List (Nat × Nat × X)} (r : RelX P N w0 own0 hdr0 Fr own hdr s a w) (ho : o.op = .build t parts)
    (ht : arrE? P t = some (e, ie)) (hz : zeroXs P t = some zs) (hd : digParts P (fun k => some (e, k * ie.size, ie.size)) parts.toList = some ps)
    (h : stepO P s (.build zs ps) K) : GoodQ P N w0 own0 hdr0 Fr F a w K (execOp a.eval o) := by
  obtain ⟨i, z, z1, z2, z3, z4⟩ := zeroXs_sound hz
  have hta : ∃ n, P.underlying t = some (.array n e) ∧ P.info? e = some ie := by
    unfold arrE? at ht
    split at ht
    · rename_i n e' he
      simp only [Option.map_eq_some_iff, Prod.mk.injEq] at ht
      obtain ⟨j, h1, rfl, rfl⟩ := ht
      exact ⟨n, he, h1⟩
    · cases ht
  obtain ⟨n, ht1, ht2⟩ := hta
  simp only [stepO] at h
  split at h
  · rename_i cs hf
    obtain ⟨vs', f1, f2, f3⟩ := fill_sound r (fun k => some (e, k * ie.size, ie.size)) hd hf (vs := z.cells) (by simp [z3]) (fun k c u hc hu => by
      rw [List.getElem?_map, Option.map_eq_some_iff] at hc
      obtain ⟨x, hx, rfl⟩ := hc
      exact z4 k x u hx hu)
    have hb : P.built t (parts.toList.map fun p => (p.1, a.eval p.2)) = some vs' := by
      simp only [Program.built, z1, ht1, z2, ht2]
      simpa using f1
    have run : ∀ w' : World, (execOp a.eval o).run P w' = .ok (.value (.agg vs')) w' := by
      intro w'
      simp only [execOp, ho]
      have := run_build (P := P) w' t (parts.map fun (i, x) => (i, a.eval x)) vs' (by simpa using hb)
      simp [this]
    exact GoodQ.val r run (x := .g cs) ⟨vs', rfl, f2, f3⟩ h
  · exact h.elim
theorem Good.frz {res : Result Next} (h : Good P N w0 own0 hdr0 Fr a (frzK K) res) : Good P N w0 own0 hdr0 Fr a K res := by
  obtain ⟨v, w', x, s', h1, hK, own, hdr, r, hv⟩ := h
  unfold frzK at hK
  split at hK
  · rename_i id ver
    split at hK
    · rename_i dp sz xs hk
      obtain ⟨hh, hK⟩ := hK
      obtain ⟨o1, o2⟩ := St.obj_ok hk (by simp)
      obtain ⟨_, ht⟩ := r.arrAt o2
      have hv' : v = hdr id := hv.2 o1.symm
      have hal := r.ne_al (id := id) (by rw [o2]; simp)
      have h := r.make (id := id) (ids := []) (k := .dead) (F := fun _ => False) (v := undef) (w' := w') ⟨hal, by simp⟩ hh (by simp) (by simp) (Ext.refl _ _) (fun b hb => hb.elim) (fun rc => by
        unfold RO
        rw [ob_new (by simp)]
        simp [ownTo, hdrTo])
      rw [St.kill_nil] at h
      refine ⟨v, w', _, _, h1, hK, _, _, h.1, ?_⟩
      show Pers _ _ _ _
      rw [hv']
      refine Top.pers ht (fun c hc => ⟨hc.1, fun j hj => ?_⟩) (fun c hc => ⟨r.lt id c hc, fun j hj => ?_⟩)
      · simp only [ownTo] at hj
        split at hj
        · exact hj
        · simp at hj; exact hc.2 j hj
      · simp only [ownTo] at hj
        split at hj
        · exact hj
        · simp at hj; rename_i hne; exact hne (r.dis j id c hj hc)
    · exact hK.elim
  · exact hK.elim
theorem snd_lit' {t e : TypeId} {i : TypeInfo} {d n : Nat} {zs : List X} {parts : Array (Nat × Operand)} {ps : List (Nat × Nat × X)} (r : RelX P N w0 own0 hdr0 Fr own hdr s a w) (ho : o.op = .buildSlice t n parts)
    (ht : elemOf? P t = some (e, i)) (hz : zeroXs P e = some zs) (hd : digParts P (fun k => some (e, k * i.size, i.size)) parts.toList = some ps) (h : stepO P s (.lit d i.size zs n ps) K) :
    Good P N w0 own0 hdr0 Fr a K ((execOp a.eval o).run P w) := by
  have main : ∀ K : AV → St → Prop, litA s d i.size zs n ps K → Good P N w0 own0 hdr0 Fr a K ((execOp a.eval o).run P w) := by
   intro K h
   obtain ⟨v, w', x, s', h1, h2, h3⟩ := snd_lit r ht hz hd h
   have run : (execOp a.eval o).run P w = .ok (.value v) w' := by
    simp only [execOp, ho]
    have : (parts.map fun (i, x) => (i, a.eval x)) = (parts.toList.map fun p => (p.1, a.eval p.2)).toArray := by
      apply Array.ext'
      simp
    simp [this, h1]
   rw [run]
   exact Good.mk' h2 h3
  rcases h with h | h
  · exact main K h
  · exact (main _ h).frz
theorem snd_fld' {t : TypeId} {fs : Array Field} {f : Nat} {fd : Field} {n : Option Nat} {x : Operand} {x' : X} (r : RelX P N w0 own0 hdr0 Fr own hdr s a w) (ho : o.op = .field t x f) (ht : fieldsOf P t = some fs) (hf : fs[f]? = some fd)
    (hn : numOf P fd.type = some n) (hx : digX P t x = some x') (h : stepO P s (.fld x' fd.offset n) K) : GoodQ P N w0 own0 hdr0 Fr F a w K (execOp a.eval o) := by
  simp only [stepO] at h
  split at h
  · rename_i cs hcs
    split at h
    · rename_i v hv
      have h1 := ev_sound r hx
      rw [hcs] at h1
      obtain ⟨u, h2, h3⟩ := snd_fld (K := K) r ht hf hn h1 hv
      have run : ∀ w' : World, (execOp a.eval o).run P w' = .ok (.value u) w' := by intro w'; simp [execOp, ho, h2]
      exact GoodQ.val r run h3 h
    · exact h.elim
  · exact h.elim
theorem snd_load' {t : TypeId} {n : Option Nat} {x : Operand} {x' : X} (r : RelX P N w0 own0 hdr0 Fr own hdr s a w) (ho : o.op = .load t x) (hn : numOf P t = some n) (hx : digX P 0 x = some x') (h : stepO P s (.load n x') K) :
    Good P N w0 own0 hdr0 Fr a K ((execOp a.eval o).run P w) := by
  obtain ⟨u, y, b, h1, h2, h3, _⟩ := snd_load r hn (ev_sound r hx) h
  have run : (execOp a.eval o).run P w = .ok (.value u) w := by simp [execOp, ho, h1 w rfl]
  rw [run]
  exact Good.val r h3 h2
def stillA (s : St) : AV → Prop
  | .c (.dpt _) => True
  | .c (.cpt _) => True
  | .c (.ptr id _ _) | .c (.ept id _ _ _) | .c (.spt id _ _ _ _ _ _) => id ∈ s.hold
  | _ => False
def Now (w : World) (own : Nat → Nat → Prop) (hold : List Nat) (b : Nat) : Prop := b < w.heap.size ∧ ∀ id, own id b → id ∈ hold
theorem sq_load {t : TypeId} {n : Option Nat} {x : Operand} {x' : X} (r : RelX P N w0 own0 hdr0 Fr own hdr s a w) (ho : o.op = .load t x) (hn : numOf P t = some n) (hx : digX P 0 x = some x') (hst : stillA s (s.ev x')) (h : stepO P s (.load n x') K) :
    GoodQ P N w0 own0 hdr0 Fr (Now w own s.hold) a w K (execOp a.eval o) := by
  obtain ⟨u, y, b, h1, h2, h3, h4⟩ := snd_load r hn (ev_sound r hx) h
  suffices hb : Now w own s.hold b from ⟨u, y, s, fun w' hw' => by simp [execOp, ho, h1 w' (hw' b hb)], h2, own, hdr, r, h3⟩
  unfold stillA at hst
  split at hst
  · rename_i hp
    rw [hp] at h4
    exact ⟨h4.1, fun id hid => absurd hid (h4.2 id)⟩
  · rename_i hp
    rw [hp] at h4
    exact ⟨h4.1, fun id hid => absurd hid (h4.2 id)⟩
  · rename_i hp
    rw [hp] at h4
    exact ⟨r.lt _ _ h4, fun id hid => r.dis _ _ _ h4 hid ▸ hst⟩
  · rename_i hp
    rw [hp] at h4
    exact ⟨r.lt _ _ h4, fun id hid => r.dis _ _ _ h4 hid ▸ hst⟩
  · rename_i hp
    rw [hp] at h4
    exact ⟨r.lt _ _ h4, fun id hid => r.dis _ _ _ h4 hid ▸ hst⟩
  · exact hst.elim
theorem snd_store' {t : TypeId} {n : Option Nat} {i : TypeInfo} {x v : Operand} {x' v' : X} (r : RelX P N w0 own0 hdr0 Fr own hdr s a w) (ho : o.op = .store t x v) (hi : P.info? t = some i) (hn : n.getD 1 = i.size) (hx : digX P 0 x = some x') (hv : digX P t v = some v')
    (h : stepO P s (.store n x' v') K) : Good P N w0 own0 hdr0 Fr a K ((execOp a.eval o).run P w) := by
  have h1 := ev_sound r hx
  have h2 := ev_sound r hv
  have run : ∀ w', (Instr.storeAt t (a.eval x) (a.eval v)).run P w = .ok () w' → (execOp a.eval o).run P w = .ok .skip w' := fun w' hw => by simp [execOp, ho, hw]
  simp only [stepO, storeA] at h
  split at h
  · rename_i id ver off hp
    rw [hp] at h1
    split at h
    · rename_i cs hk
      obtain ⟨g1, g2, g3, g4, g5, g6⟩ := h
      obtain ⟨w', h3, h4⟩ := snd_store_box (K := K) r hi hn h1 h2 hk g1 g2 g3 g4 g5
      rw [run w' h3]
      exact h4.skip g6
    · exact h.elim
  · rename_i id ver k off hp
    rw [hp] at h1
    split at h
    · rename_i dp y hk
      split at h
      · rename_i ds dp' ids hps
        obtain ⟨g1, g2, g3, g4, g5, g6, g7, g8, g9⟩ := h
        obtain ⟨w', h3, h4⟩ := snd_store_elem r hi hn h1 h2 hk hps g1 g2 g3 g4 g5 g6 g7 g8
        rw [run w' h3]
        exact h4.skip g9
      · exact h.elim
    · exact h.elim
  · rename_i id ver ev p q k off hp
    rw [hp] at h1
    split at h
    · rename_i dp y hk
      split at h
      · rename_i u hu
        rw [hu] at h2
        obtain ⟨rfl, g1, rfl, g2, g3, g4, g5⟩ := h
        obtain ⟨w', h3, h4⟩ := snd_store_nest r hi hn h1 h2 hk g1 g2 g3 g4
        rw [run w' h3]
        exact h4.skip g5
      · exact h.elim
    · exact h.elim
  · exact h.elim
theorem snd_fad' {t : TypeId} {fs : Array Field} {f : Nat} {fd : Field} {i : TypeInfo} {x : Operand} {x' : X} (r : RelX P N w0 own0 hdr0 Fr own hdr s a w) (ho : o.op = .fieldAddr t x f) (ht : fieldsOf P t = some fs) (hf : fs[f]? = some fd)
    (hi : P.info? fd.type = some i) (hs : i.size ≠ 0) (hx : digX P 0 x = some x') (h : stepO P s (.fad x' fd.offset) K) : GoodQ P N w0 own0 hdr0 Fr F a w K (execOp a.eval o) := by
  have h1 := ev_sound r hx
  have run : ∀ b off, a.eval x = .pointer (some ⟨b, off, none⟩) → ∀ w' : World, (execOp a.eval o).run P w' = .ok (.value (.pointer (some ⟨b, off + fd.offset, none⟩))) w' := fun b off he w' => by
    simp [execOp, ho, he, snd_fad (w := w') (b := b) (off := off) ht hf hi hs]
  have stale : ∀ v, (∃ b off, a.eval x = .pointer (some ⟨b, off, none⟩)) ∨ v → True := fun _ _ => trivial
  simp only [stepO] at h
  split at h
  · rename_i id ver off hp
    rw [hp] at h1
    obtain ⟨h, hlive⟩ := h
    split at hlive
    · rename_i cs hk
      obtain ⟨q1, q2⟩ := St.obj_ok hk (by simp)
      obtain ⟨b, h2, h3⟩ := h1.2 q1.symm
      exact GoodQ.val r (run b off h3) (x := .c (.ptr id ver (off + fd.offset))) ⟨h1.1, fun _ => ⟨b, h2, rfl⟩⟩ h
    · exact hlive.elim
  · rename_i id ver k off hp
    rw [hp] at h1
    obtain ⟨h, hlive⟩ := h
    obtain ⟨b, n, cap, h2, h3, h4⟩ := h1.2 hlive.symm
    exact GoodQ.val r (run b _ h4) (x := .c (.ept id ver k (off + fd.offset))) ⟨h1.1, fun _ => ⟨b, n, cap, h2, h3, by rw [Nat.add_assoc]⟩⟩ h
  · rename_i ds hp
    rw [hp] at h1
    obtain ⟨b, off, h2, h3, h4⟩ := h1
    refine GoodQ.val r (run b off h2) (x := .c (.dpt (ds.drop fd.offset))) ⟨b, off + fd.offset, rfl, h3, fun j d hj => ?_⟩ h
    rw [List.getElem?_drop] at hj
    obtain ⟨u, h5, h6⟩ := h4 _ d hj
    exact ⟨u, by rw [Nat.add_assoc]; exact h5, h6⟩
  · rename_i ds hp
    rw [hp] at h1
    obtain ⟨b, off, h2, h3, h4⟩ := h1
    refine GoodQ.val r (run b off h2) (x := .c (.cpt (ds.drop fd.offset))) ⟨b, off + fd.offset, rfl, h3, fun j d hj => ?_⟩ h
    rw [List.getElem?_drop] at hj
    obtain ⟨u, h5, h6⟩ := h4 _ d hj
    exact ⟨u, by rw [Nat.add_assoc]; exact h5, h6⟩
  · rename_i id ver ev p q k off hp
    rw [hp] at h1
    obtain ⟨h, hlive, hev⟩ := h
    obtain ⟨b, n, cap, h2, h3, h4⟩ := h1.2 hlive.symm hev.symm
    exact GoodQ.val r (run b _ h4) (x := .c (.spt id ver ev p q k (off + fd.offset))) ⟨h1.1, fun _ _ => ⟨b, n, cap, h2, h3, by rw [Nat.add_assoc]⟩⟩ h
  · exact h.elim
theorem snd_iad' {t e : TypeId} {i : TypeInfo} {x n : Operand} {x' n' : X} {u : TypeId} (r : RelX P N w0 own0 hdr0 Fr own hdr s a w) (ho : o.op = .indexAddr t x n) (ht : elemOf? P t = some (e, i)) (hx : digX P t x = some x') (hn : digX P u n = some n')
    (h : stepO P s (.iad i.size x' n') K) : GoodQ P N w0 own0 hdr0 Fr F a w K (execOp a.eval o) := by
  have h1 := ev_sound r hx
  have h2 := ev_sound r hn
  simp only [stepO] at h
  split at h
  · rename_i c k m hc hm
    rw [hc] at h1
    rw [hm] at h2
    obtain ⟨v, y, h3, h4, h5⟩ := snd_iad (K := K) (k := k) r ht h1 h
    have run : ∀ w' : World, (execOp a.eval o).run P w' = .ok (.value v) w' := by intro w'; simp [execOp, ho, sc_of h2, h3]
    exact GoodQ.val r run h5 h4
  · exact h.elim
theorem arrOf?_sound {t : TypeId} {n : Nat} {i : TypeInfo} (h : arrOf? P t = some (n, i)) : ∃ e, P.underlying t = some (.array n e) ∧ P.info? e = some i := by
  unfold arrOf? at h
  split at h
  · rename_i m e he
    simp only [Option.map_eq_some_iff, Prod.mk.injEq] at h
    obtain ⟨j, h1, rfl, rfl⟩ := h
    exact ⟨e, he, h1⟩
  · cases h
theorem run_aad {t : TypeId} {i : TypeInfo} {k : IntKind} {m : Int} {n b off : Nat} (ht : arrOf? P t = some (n, i)) (h0 : 0 ≤ m) (h1 : m.toNat < n) :
    (Instr.indexAt t (.pointer (some ⟨b, off, none⟩)) (.int k m)).run P w = .ok (.pointer (some ⟨b, off + m.toNat * i.size, none⟩)) w := by
  obtain ⟨e, g1, g2⟩ := arrOf?_sound ht
  have h2 : m < (n : Int) := by omega
  simp [Instr.indexAt, asIntOf, run_underlying g1, h0, h2, Go.sizeOf, typeInfo, g2, addr_add, Instr.sureAddr]
theorem snd_flit {t e : TypeId} {i : TypeInfo} {d n : Nat} {zs : List X} {parts : Array (Nat × Operand)} {ps : List (Nat × Nat × X)} (r : RelX P N w0 own0 hdr0 Fr own hdr s a w) (ho : o.op = .buildSlice t n parts)
    (ht : elemOf? P t = some (e, i)) (hz : zeroXs P e = some zs) (hd : digParts P (fun k => some (e, k * i.size, i.size)) parts.toList = some ps) (h : stepO P s (.flit d i.size zs n ps) K) :
    Good P N w0 own0 hdr0 Fr a K ((execOp a.eval o).run P w) := by
  obtain ⟨t1, t2⟩ := elemOf?_sound ht
  obtain ⟨i', z, z1, z2, z3, z4⟩ := zeroXs_sound hz
  rw [t2] at z1; simp at z1; subst z1
  simp only [stepO] at h
  split at h
  · rename_i cs hf
    obtain ⟨h1, h2, h3, h4, h5, h6⟩ := h
    obtain ⟨vs', f1, f2, f3⟩ := fill_sound r (fun k => some (e, k * i.size, i.size)) hd hf (vs := (Array.range (n * i.size)).map (z.cells[· % z.cells.size]!)) (by simp [h2]) (zero_cells z3 h2 z4)
    have hrun : (Instr.buildSlice t n (parts.toList.map fun p => (p.1, a.eval p.2)).toArray).run P w = .ok (.slice (some ⟨w.heap.size, 0, none⟩) n n) (w.alloc (.cells vs' e)) := by
      have hsz0 : ¬ (2 ^ 24 < n * i.size) := by rw [h1]; omega
      have h0 : ¬ (n * i.size = 0) := by rw [h1]; omega
      simp [Instr.buildSlice, run_underlying t1, Go.sizeOf, typeInfo, t2, h0, hsz0, run_zero t2 z2, newRow]
      simp at f1
      rw [f1]
      simp
    have run : (execOp a.eval o).run P w = .ok (.value (.slice (some ⟨w.heap.size, 0, none⟩) n n)) (w.alloc (.cells vs' e)) := by
      simp only [execOp, ho]
      have : (parts.map fun (i, x) => (i, a.eval x)) = (parts.toList.map fun p => (p.1, a.eval p.2)).toArray := by
        apply Array.ext'
        simp
      simp [this, hrun]
    rw [run]
    obtain ⟨own', hdr', r', hv⟩ := r.box (t := e) (rid_al d 0) h5 f2 f3
    have hob : ((s.newOb (rid d 0) (.box cs)).ob (rid d 0)).ver = (s.ob (rid d 0)).ver + 1 := by simp [St.newOb, St.setOb, Hearth.upd]
    obtain ⟨b, g1, g2⟩ := hv.2 hob.symm
    refine Good.mk' h6 ⟨own', hdr', r', ⟨Nat.le_of_eq hob.symm, fun _ => ⟨b, g1, ?_⟩⟩⟩
    simp at g2
    rw [g2]
  · exact h.elim
theorem snd_flen {K : AV → St → Prop} {o : Oper} {t e : TypeId} {x : Operand} {x' : X} (r : RelX P N w0 own0 hdr0 Fr own hdr s a w) (ho : o.op = .call { callee := .builtin .len, args := #[x], argTypes := #[t] })
    (ht : P.underlying t = some (.slice e)) (hx : digX P t x = some x') (h : stepO P s (.flen x') K) : GoodQ P N w0 own0 hdr0 Fr F a w K (execOp a.eval o) := by
  have h1 := ev_sound r hx
  simp only [stepO] at h
  split at h
  · rename_i id ver n hb
    rw [hb] at h1
    obtain ⟨h2, h3⟩ := h
    obtain ⟨b, _, he⟩ := h1.2 h2.symm
    have : ∀ w' : World, (execOp a.eval o).run P w' = .ok (.value (.int .i64 n)) w' := by
      intro w'
      simp [execOp, ho, resolve, invoke, builtin, Builtin.len_, run_underlying ht, he, goInt]
    exact GoodQ.val r this (rsV rfl) h3
  · exact h.elim
theorem snd_fiad {t e : TypeId} {i : TypeInfo} {x n : Operand} {x' n' : X} {u : TypeId} (r : RelX P N w0 own0 hdr0 Fr own hdr s a w) (ho : o.op = .indexAddr t x n) (ht : elemOf? P t = some (e, i)) (hx : digX P t x = some x') (hn : digX P u n = some n')
    (h : stepO P s (.fiad i.size x' n') K) : GoodQ P N w0 own0 hdr0 Fr F a w K (execOp a.eval o) := by
  have h1 := ev_sound r hx
  have h2 := ev_sound r hn
  simp only [stepO] at h
  split at h
  · rename_i id ver len k m hc hm
    rw [hc] at h1
    rw [hm] at h2
    obtain ⟨h3, h4, h5, h6⟩ := h
    obtain ⟨b, g1, g2⟩ := h1.2 h3.symm
    have run : ∀ w' : World, (execOp a.eval o).run P w' = .ok (.value (.pointer (some ⟨b, m.toNat, none⟩))) w' := by
      intro w'
      simp [execOp, ho, sc_of h2, g2, run_iad (w := w') (b := b) (off := 0) (cap := len) (k := k) ht h5.1 h5.2, h4]
    exact GoodQ.val r run (x := .c (.ptr id ver m.toNat)) ⟨h1.1, fun _ => ⟨b, g1, rfl⟩⟩ h6
  · exact h.elim
theorem snd_aad {t : TypeId} {i : TypeInfo} {x m : Operand} {x' m' : X} {n : Nat} {u u' : TypeId} (r : RelX P N w0 own0 hdr0 Fr own hdr s a w) (ho : o.op = .indexAddr t x m) (ht : arrOf? P t = some (n, i)) (hx : digX P u' x = some x') (hn : digX P u m = some m')
    (h : stepO P s (.aad n i.size x' m') K) : GoodQ P N w0 own0 hdr0 Fr F a w K (execOp a.eval o) := by
  have h1 := ev_sound r hx
  have h2 := ev_sound r hn
  simp only [stepO] at h
  split at h
  · rename_i id ver off k j hp hm
    rw [hp] at h1
    rw [hm] at h2
    obtain ⟨⟨h3, h4⟩, hlive, h⟩ := h
    split at hlive
    · rename_i cs hk
      obtain ⟨q1, q2⟩ := St.obj_ok hk (by simp)
      obtain ⟨b, h5, h6⟩ := h1.2 q1.symm
      have run : ∀ w' : World, (execOp a.eval o).run P w' = .ok (.value (.pointer (some ⟨b, off + j.toNat * i.size, none⟩))) w' := by
        intro w'
        simp [execOp, ho, sc_of h2, h6, run_aad (w := w') ht h3 h4]
      exact GoodQ.val r run (x := .c (.ptr id ver (off + j.toNat * i.size))) ⟨h1.1, fun _ => ⟨b, h5, rfl⟩⟩ h
    · exact hlive.elim
  · exact h.elim
theorem snd_ix {t : TypeId} {x n : Operand} {x' n' : X} {u : TypeId} (r : RelX P N w0 own0 hdr0 Fr own hdr s a w) (ho : o.op = .index t x n) (ht : P.underlying t = some .string) (hx : digX P t x = some x') (hn : digX P u n = some n')
    (h : stepO P s (.ix x' n') K) : GoodQ P N w0 own0 hdr0 Fr F a w K (execOp a.eval o) := by
  have h1 := ev_sound r hx
  have h2 := ev_sound r hn
  simp only [stepO] at h
  split at h
  · rename_i b k m hb hm
    rw [hb] at h1
    rw [hm] at h2
    obtain ⟨⟨h3, h4⟩, h5⟩ := h
    have hg : b[m.toNat]? = some (b.toList.getD m.toNat 0) := by
      rw [Go.ByteArray.toList_eq, List.getD_eq_getElem?_getD, Array.getElem?_toList]
      have h6 : m.toNat < b.data.size := h4
      rw [Array.getElem?_eq_getElem h6]
      simp only [Option.getD_some]
      rw [getElem?_pos b m.toNat h4]
      rfl
    have run : ∀ w' : World, (execOp a.eval o).run P w' = .ok (.value (.int .u8 (b.toList.getD m.toNat 0).toNat)) w' := by
      intro w'
      simp only [execOp, ho, sc_of h1, sc_of h2, Instr.index, asIntOf, Sem.run_bind, Sem.run_pure, Result.andThen_ok, run_underlying ht, if_pos h3, hg]
    exact GoodQ.val r run (rsV rfl) h5
  · exact h.elim
theorem snd_mk' {t e : TypeId} {i : TypeInfo} {d : Nat} {zs : List X} {n c : Operand} {n' : X} {u : TypeId} (r : RelX P N w0 own0 hdr0 Fr own hdr s a w) (ho : o.op = .makeSlice t n c) (ht : elemOf? P t = some (e, i)) (hz : zeroXs P e = some zs)
    (hn : digX P u n = some n') (hnc : a.eval n = a.eval c) (h : stepO P s (.mk d i.size zs i.bytes n') K) : Good P N w0 own0 hdr0 Fr a K ((execOp a.eval o).run P w) := by
  have h1 := ev_sound r hn
  simp only [stepO] at h
  split at h
  · rename_i k m hm
    rw [hm] at h1
    obtain ⟨h2, h3, h4, h5, h6⟩ := h
    split at h6
    · rename_i ds dp hp
      obtain ⟨v, w', h7, h8⟩ := snd_mk (d := d) (k := k) r ht hz h2 h3 h4 h5 hp
      have run : (execOp a.eval o).run P w = .ok (.value v) w' := by
        simp only [execOp, ho, ← hnc, sc_of h1]
        simp [h7]
      rw [run]
      exact Good.mk' h6 h8
    · exact h6.elim
  · exact h.elim
theorem snd_ext {x : Operand} {k : Nat} {x' : X} {u : TypeId} (r : RelX P N w0 own0 hdr0 Fr own hdr s a w) (ho : o.op = .extract x k) (hx : digX P u x = some x') (h : stepO P s (.ext x' k) K) : GoodQ P N w0 own0 hdr0 Fr F a w K (execOp a.eval o) := by
  have h1 := ev_sound r hx
  simp only [stepO] at h
  split at h
  · rename_i l hl
    rw [hl] at h1
    split at h
    · rename_i v hv
      obtain ⟨vs, h2, h3, h4⟩ := h1
      have hlt : k < vs.size := by rw [h3]; exact (List.getElem?_eq_some_iff.1 hv).1
      have run : ∀ w' : World, (execOp a.eval o).run P w' = .ok (.value vs[k]) w' := by
        intro w'
        simp only [execOp, ho, h2, Instr.extract, Array.getElem?_eq_getElem hlt]
        simp
      have h5 := h4 k v _ hv (Array.getElem?_eq_getElem hlt)
      refine GoodQ.val r run (x := v) ?_ h
      cases v with
      | c c => exact h5
      | g xs => exact h5
      | t l => exact h5.elim
    · exact h.elim
  · exact h.elim
theorem run_s2s {t e : TypeId} {b n c : Nat} {cur : Array Value} {e' : TypeId} (ht : P.underlying t = some (.slice e)) (he : P.underlying e = some (.int .u8)) (hb : w.heap[b]? = some (.cells cur e' (0, 0))) :
    (convert t t (.slice (some ⟨b, 0, none⟩) n c)).run P w = .ok (.slice (some ⟨b, 0, none⟩) n c) (w.freeze ⟨b, cur.size, none⟩ 1) := by
  have hsh : w.shape? b = some (e', cur.size) := by unfold World.shape?; rw [hb]
  simp [convert, run_underlying ht, run_underlying he, markStringish, hsh]
theorem freeze_at {b n : Nat} {cur : Array Value} {e' : TypeId} (hb : w.heap[b]? = some (.cells cur e' (0, 0))) : (w.freeze ⟨b, n, none⟩ 1).heap[b]? = some (.cells cur e' (n, n + 1)) := by
  unfold World.freeze
  rw [if_neg (by decide)]
  simp [Array.getElem?_modify, hb]
theorem freeze_old {b n c : Nat} (hc : c ≠ b) : (w.freeze ⟨b, n, none⟩ 1).heap[c]? = w.heap[c]? := by
  unfold World.freeze
  rw [if_neg (by decide)]
  simp [Array.getElem?_modify, Ne.symm hc]
theorem freeze_size {b n : Nat} : (w.freeze ⟨b, n, none⟩ 1).heap.size = w.heap.size := by
  unfold World.freeze
  rw [if_neg (by decide)]
  simp
theorem snd_s2s {t e : TypeId} {x : Operand} {x' : X} (r : RelX P N w0 own0 hdr0 Fr own hdr s a w) (ho : o.op = .convert t t x) (ht : P.underlying t = some (.slice e)) (he : P.underlying e = some (.int .u8))
    (hx : digX P t x = some x') (h : stepO P s (.s2s x') K) : Good P N w0 own0 hdr0 Fr a K ((execOp a.eval o).run P w) := by
  simp only [stepO] at h
  split at h
  · rename_i id ver hev
    split at h
    · rename_i dp sz y ys hk
      obtain ⟨hh, hK⟩ := h
      have h1 := ev_sound r hx
      rw [hev] at h1
      obtain ⟨o1, o2⟩ := St.obj_ok hk (by simp)
      obtain ⟨_, ht'⟩ := r.arrAt o2
      have hv := h1.2 o1.symm
      rcases ht' with ⟨e0, _⟩ | ⟨b, cap, cur, e', us, Fs, g1, g2, g3, g4, g5, g6, g7, g8, g9, g10, g11⟩
      · simp [DV.rows] at e0
      have hrun : (execOp a.eval o).run P w = .ok (.value (.slice (some ⟨b, 0, none⟩) (DV.sl sz (y :: ys)).rows.length cap)) (w.freeze ⟨b, cur.size, none⟩ 1) := by
        rw [g1] at hv
        simp [execOp, ho, hv, run_s2s ht he g2]
      rw [hrun]
      have hal := r.ne_al (id := id) (by rw [o2]; simp)
      have hext : Ext w (w.freeze ⟨b, cur.size, none⟩ 1) (Mine own id []) := by
        refine ⟨?_, ?_, ?_, by rw [freeze_size]; exact Nat.le_refl _, fun c hc hn => freeze_old fun e => hn ⟨id, .inl rfl, e ▸ g3⟩, ?_⟩ <;> (unfold World.freeze; rw [if_neg (by decide)]); exact Nat.le_refl _
      have h := r.make (id := id) (ids := []) (k := .dead) (F := fun _ => False) (v := undef) (w' := w.freeze ⟨b, cur.size, none⟩ 1) ⟨hal, by simp⟩ hh (by simp) (by simp) hext (fun b hb => hb.elim) (fun rc => by
        unfold RO
        rw [ob_new (by simp)]
        simp [ownTo, hdrTo])
      rw [St.kill_nil] at h
      have free : ∀ c, Free w own c → (w.freeze ⟨b, cur.size, none⟩ 1).heap[c]? = w.heap[c]? ∧ Free (w.freeze ⟨b, cur.size, none⟩ 1) (ownTo own id [] fun _ => False) c := by
        intro c hc
        refine ⟨freeze_old fun e => hc.2 id (e ▸ g3), by rw [freeze_size]; exact hc.1, fun j hj => ?_⟩
        simp only [ownTo] at hj
        split at hj
        · exact hj
        · simp at hj; exact hc.2 j hj
      have mine : ∀ c, own id c → Free (w.freeze ⟨b, cur.size, none⟩ 1) (ownTo own id [] fun _ => False) c := by
        intro c hc
        refine ⟨by rw [freeze_size]; exact r.lt id c hc, fun j hj => ?_⟩
        simp only [ownTo] at hj
        split at hj
        · exact hj
        · simp at hj; rename_i hne; exact hne (r.dis j id c hj hc)
      refine ⟨_, _, _, _, .inl rfl, hK, _, _, h.1, ?_⟩
      show Pers _ _ _ _
      rw [show DV.sl sz (y :: ys) = DV.sl (DV.sl sz (y :: ys)).esz (DV.sl sz (y :: ys)).rows from rfl]
      refine .sl _ _ b 0 cap us g4 g5 (mine b g3) g7 (fun i j cs d e1 e2 => ?_) fun i j cs d e1 e2 => ?_
      · rw [Nat.zero_add]
        simp [World.cell?, freeze_at g2, g8 i j cs d e1 e2]
      · exact ((g11 i j cs d e1 e2).mono (fun h => h) free (Fs i j) fun c hc => ⟨freeze_old (g9 i j c hc).2, hc⟩).toPers (fun _ h => h) fun c hc => mine c (g9 i j c hc).1
    · exact h.elim
  · exact h.elim
end
end Hearth

/- The abstract machine: calls. -/
namespace Hearth
open Go
section
variable {P : Program} {N : Nat} {w0 : World} {own0 : Nat → Nat → Prop} {hdr0 : Nat → Value} {Fr : List ((Nat → Prop) × World)} {own : Nat → Nat → Prop} {hdr : Nat → Value} {s : St} {a : Act} {w : World}
def cellOf (ra : List RA) (vs : Array Value) (q : Nat) : Value :=
  match ra[q / 64]? with
  | some (.one _) => vs.getD (q / 64) undef
  | some (.agg _) => match vs.getD (q / 64) undef with
    | .agg us => us.getD (q % 64) undef
    | _ => undef
  | none => undef
def inR (d id : Nat) : Prop := rid d 0 ≤ id ∧ id < rid d 4096
instance (d id : Nat) : Decidable (inR d id) := inferInstanceAs (Decidable (_ ∧ _))
def given (bs : List (Nat × Nat × Bool)) (id : Nat) : Prop := ∃ q, (q, id, true) ∈ bs
open Classical in
noncomputable def ownC (own : Nat → Nat → Prop) (d : Nat) (ra : List RA) (bs : List (Nat × Nat × Bool)) (G : Nat → Nat → Prop) (id : Nat) : Nat → Prop :=
  if inR d id then (match resOK ra (id - rid d 0) with
    | .arr _ _ => G (id - rid d 0)
    | .box _ => G (id - rid d 0)
    | _ => fun _ => False)
  else if given bs id then fun _ => False else own id
open Classical in
noncomputable def hdrC (hdr : Nat → Value) (d : Nat) (ra : List RA) (bs : List (Nat × Nat × Bool)) (vs : Array Value) (id : Nat) : Value :=
  if inR d id then (match resOK ra (id - rid d 0) with
    | .arr _ _ => cellOf ra vs (id - rid d 0)
    | .box _ => cellOf ra vs (id - rid d 0)
    | _ => undef)
  else if given bs id then undef else hdr id
theorem resOK_cases (ra : List RA) (q : Nat) : resOK ra q = .dead ∨ (∃ dp x, resOK ra q = .arr dp x) ∨ ∃ cs : List DV, resOK ra q = .box (cs.map .d) := by
  unfold resOK
  have : ∀ x : RV, x.ok = .dead ∨ (∃ dp y, x.ok = .arr dp y) ∨ ∃ cs : List DV, x.ok = .box (cs.map .d) := by
    intro x; cases x
    · exact .inl rfl
    · exact .inr (.inl ⟨_, _, rfl⟩)
    · exact .inr (.inr ⟨_, rfl⟩)
  split
  · split
    · exact this _
    · exact .inl rfl
  · split
    · exact this _
    · exact .inl rfl
  · exact .inl rfl
theorem nodup_snd {bs : List (Nat × Nat × Bool)} (h : (bs.map (·.2.1)).Nodup) {e e' : Nat × Nat × Bool} (he : e ∈ bs) (he' : e' ∈ bs) (hid : e.2.1 = e'.2.1) : e = e' := by
  induction bs with
  | nil => cases he
  | cons x xs ih =>
    simp only [List.map_cons, List.nodup_cons] at h
    rcases List.mem_cons.1 he with h1 | h1 <;> rcases List.mem_cons.1 he' with h2 | h2
    · rw [h1, h2]
    · exact absurd (List.mem_map.2 ⟨e', h2, by rw [← hid, h1]⟩) h.1
    · exact absurd (List.mem_map.2 ⟨e, h1, by rw [hid, h2]⟩) h.1
    · exact ih h.2 h1 h2
theorem find_snd {bs : List (Nat × Nat × Bool)} (h : (bs.map (·.2.1)).Nodup) (id : Nat) :
    (∃ e ∈ bs, e.2.1 = id ∧ bs.find? (fun b => b.2.1 == id) = some e) ∨ ((∀ e ∈ bs, e.2.1 ≠ id) ∧ bs.find? (fun b => b.2.1 == id) = none) := by
  cases hf : bs.find? (fun b => b.2.1 == id) with
  | none => exact .inr ⟨fun e he => by simpa using List.find?_eq_none.1 hf e he, rfl⟩
  | some e => exact .inl ⟨e, List.mem_of_find?_eq_some hf, by simpa using List.find?_some hf, rfl⟩
theorem Pers.clean {w w' : World} {S S' : Nat → Prop} {x : DV} {v : Value} (h : x.isSc = true) (p : Pers w S x v) : Pers w' S' x v := by
  cases p with
  | sc v h1 => exact .sc v h1
  | emp => simp [DV.isSc] at h
  | sl => simp [DV.isSc] at h
theorem Own.clean {w : World} {S S' : Nat → Prop} {x : DV} {v : Value} {F : Nat → Prop} (p : Own w S true x v F) : Own w S' true x v F := by
  induction p with
  | sc v h1 F => exact .sc v h1 F
  | pers x v F hd p => cases hd
  | nil sz F => exact .nil sz F
  | sl sz xs b cap cur e us Fs F hb hF hcap hmax hcur hsz hc hFs hdis hn ih => exact .sl sz xs b cap cur e us Fs F hb hF hcap hmax hcur hsz hc hFs hdis ih
theorem Top.clean {w : World} {S S' : Nat → Prop} {sz : Nat} {xs : List (List DV)} {v : Value} {F : Nat → Prop} (h : Top w S true sz xs v F) : Top w S' true sz xs v F := by
  rcases h with h | ⟨b, cap, cur, e, us, Fs, h0, h1, h2, h3, h4, h5, h6, h7, h8, h9, h10⟩
  · exact .inl h
  · exact .inr ⟨b, cap, cur, e, us, Fs, h0, h1, h2, h3, h4, h5, h6, h7, h8, h9, fun i j cs d a b => (h10 i j cs d a b).clean⟩
theorem RVr.clean {w : World} {S S' : Nat → Prop} {x : RV} {v : Value} {F : Nat → Prop} (h : x.clean = true) (p : RVr w S x v F) : RVr w S' x v F := by
  cases x with
  | d x => exact Pers.clean h p
  | own dp x =>
    simp only [RV.clean] at h
    subst h
    exact ⟨p.1, p.2.clean⟩
  | box cs =>
    obtain ⟨b, vs, t, h1, h2, h3, h4, h5⟩ := p
    simp only [RV.clean, List.all_eq_true] at h
    exact ⟨b, vs, t, h1, h2, h3, h4, fun k c u a a' => Pers.clean (h c (List.mem_of_getElem? a)) (h5 k c u a a')⟩
theorem RAr.clean {w : World} {S S' : Nat → Prop} {t : Nat} {x : RA} {v : Value} {G : Nat → Nat → Prop} (h : x.clean = true) (p : RAr w S t x v G) : RAr w S' t x v G := by
  cases x with
  | one x => exact RVr.clean h p
  | agg xs =>
    obtain ⟨vs, h1, h2, h3, h4⟩ := p
    simp only [RA.clean, List.all_eq_true] at h
    exact ⟨vs, h1, h2, h3, fun k x u a b => RVr.clean (h x (List.mem_of_getElem? a)) (h4 k x u a b)⟩
theorem RAs.clean {w : World} {S S' : Nat → Prop} {ra : List RA} {v : Value} {G : Nat → Nat → Prop} (h : ra.all RA.clean = true) (p : RAs w S ra v G) : RAs w S' ra v G := by
  obtain ⟨vs, h1, h2, h3⟩ := p
  simp only [List.all_eq_true] at h
  exact ⟨vs, h1, h2, fun t a u x y => RAr.clean (h a (List.mem_of_getElem? x)) (h3 t a u x y)⟩
theorem oid_div {t k : Nat} (h : k < 64) : oid t k / 64 = t ∧ oid t k % 64 = k := by unfold oid; omega
def St.after' (s : St) (d : Nat) (ra : List RA) (bs : List (Nat × Nat × Bool)) (os : Outs) : St :=
  { s with ob := fun id =>
      if rid d 0 ≤ id ∧ id < rid d 4096 then ⟨(s.ob id).ver + 1, 0, resOK ra (id - rid d 0)⟩
      else match bs.find? (fun b => b.2.1 == id) with
        | some (_, _, true) => ⟨(s.ob id).ver + 1, 0, .dead⟩
        | some (q, _, false) => match (s.ob id).k with
          | .arr dp _ => ⟨(s.ob id).ver, (s.ob id).ev + 1, .arr dp (os.a q)⟩
          | _ => ⟨(s.ob id).ver, (s.ob id).ev + 1, .box ((os.b q).map .d)⟩
        | none => s.ob id }
theorem after_ob (s : St) (d : Nat) (ra : List RA) (bs : List (Nat × Nat × Bool)) (os : Outs) (id : Nat) : (s.after' d ra bs os).ob id =
    (if inR d id then ⟨(s.ob id).ver + 1, 0, resOK ra (id - rid d 0)⟩
      else match bs.find? (fun b => b.2.1 == id) with
        | some (_, _, true) => ⟨(s.ob id).ver + 1, 0, .dead⟩
        | some (q, _, false) => match (s.ob id).k with
          | .arr dp _ => ⟨(s.ob id).ver, (s.ob id).ev + 1, .arr dp (os.a q)⟩
          | _ => ⟨(s.ob id).ver, (s.ob id).ev + 1, .box ((os.b q).map .d)⟩
        | none => s.ob id) := rfl
theorem RelX.called' (r : RelX P N w0 own0 hdr0 Fr own hdr s a w) {d : Nat} {bs : List (Nat × Nat × Bool)} {ra : List RA} {os : Outs} {w' : World} {vs : Array Value} {S : Nat → Prop} {G : Nat → Nat → Prop}
    (hnd : (bs.map (·.2.1)).Nodup) (hh : ∀ b ∈ bs, b.2.1 ∉ s.hold) (hr : ∀ q, rid d 0 ≤ q → q < rid d 4096 → q ∉ s.hold)
    (hk : ∀ q id g, (q, id, g) ∈ bs → (∃ dp x, (s.ob id).k = .arr dp x) ∨ g = false ∧ ∃ cs, (s.ob id).k = .box cs)
    (hx : Ext w w' (fun b => ∃ q id g, (q, id, g) ∈ bs ∧ own id b))
    (hf : Fresh w w' G (fun b => ∃ q id, (q, id, true) ∈ bs ∧ own id b))
    (hS : (∀ b, S b → b < w'.heap.size ∧ (Free w own b ∨ w.heap.size ≤ b ∨ ∃ q id, (q, id, true) ∈ bs ∧ own id b) ∧ ∀ i, ¬ G i b) ∨ ra.all RA.clean = true ∧ bs = [])
    (hl : ra.length ≤ 64) (hvs : vs.size = ra.length) (hv : ∀ (t : Nat) (x : RA) (u : Value), ra[t]? = some x → vs[t]? = some u → RAr w' S t x u G)
    (ho : ∀ q id, (q, id, false) ∈ bs → match (s.ob id).k with
      | .arr dp x => (os.a q).isSl = true ∧ (os.a q).esz = x.esz ∧ Top w' S dp (os.a q).esz (os.a q).rows (hdr id) (own id)
      | .box _ => PAr P w' S (fun _ => False) (.box (os.b q)) (hdr id) (own id)
      | _ => False) :
    RelX P N w0 own0 hdr0 Fr (ownC own d ra bs G) (hdrC hdr d ra bs vs) (s.after' d ra bs os) a w' ∧
      (∀ c u, RC P w own hdr s.ob c u → RC P w' (ownC own d ra bs G) (hdrC hdr d ra bs vs) (s.after' d ra bs os).ob c u) ∧
      RS P w' (ownC own d ra bs G) (hdrC hdr d ra bs vs) (s.after' d ra bs os).ob (resV s d ra) (if h : vs.size = 1 then vs[0] else .tuple vs) := by
  have noAl : ∀ q id g, (q, id, g) ∈ bs → id ≠ alien := fun q id g hb => r.ne_al (by
    rcases hk q id g hb with ⟨dp, x, h⟩ | ⟨_, cs, h⟩ <;> rw [h] <;> simp)
  -- what is nobody's behind the call
  have gives : ∀ i b, G i b → w.heap.size ≤ b ∨ ∃ q id, (q, id, true) ∈ bs ∧ own id b := hf.new
  have ownc : ∀ id b, ownC own d ra bs G id b → (inR d id ∧ G (id - rid d 0) b) ∨ (¬ inR d id ∧ ¬ given bs id ∧ own id b) := by
    intro id b hb
    by_cases hin : inR d id
    · simp only [ownC, if_pos hin] at hb
      rcases resOK_cases ra (id - rid d 0) with h | ⟨dp, x, h⟩ | ⟨cs, h⟩
      · rw [h] at hb; exact hb.elim
      · rw [h] at hb; exact .inl ⟨hin, hb⟩
      · rw [h] at hb; exact .inl ⟨hin, hb⟩
    · by_cases hg : given bs id
      · simp only [ownC, if_neg hin, if_pos hg] at hb
      · simp only [ownC, if_neg hin, if_neg hg] at hb
        exact .inr ⟨hin, hg, hb⟩
  have notG : ∀ id b, ¬ given bs id → own id b → ∀ i, ¬ G i b := by
    intro id b hg hb i hG
    rcases gives i b hG with h | ⟨q, id', h1, h2⟩
    · have := r.lt id b hb; omega
    · exact hg ⟨q, r.dis id id' b hb h2 ▸ h1⟩
  have upd : Upd own hdr s.ob w (ownC own d ra bs G) (hdrC hdr d ra bs vs) (s.after' d ra bs os).ob w' (fun id => inR d id ∨ ∃ q g, (q, id, g) ∈ bs) := by
    refine ⟨?_, fun id hU => ?_, ⟨hx.os, hx.tape, hx.output, hx.size, fun b hb hn => hx.same b hb fun ⟨q, id, g, h1, h2⟩ => hn ⟨id, .inr ⟨q, g, h1⟩, h2⟩, hx.drawn⟩, fun id hU b hb => ?_, fun i j b _ _ h1 h2 => ?_, fun id hU => ?_⟩
    · rintro (h | ⟨q, g, h⟩)
      · unfold inR rid alien at h; omega
      · exact noAl q alien g h rfl
    · simp only [not_or, not_exists] at hU
      have hg : ¬ given bs id := fun ⟨q, h⟩ => hU.2 q true h
      have hnone : bs.find? (fun b => b.2.1 == id) = none := by
        rcases find_snd hnd id with ⟨e, he, h1, _⟩ | ⟨_, h⟩
        · exact absurd (by rw [← h1]; exact he) (hU.2 e.1 e.2.2)
        · exact h
      refine ⟨by simp [ownC, hU.1, hg], by simp [hdrC, hU.1, hg], ?_⟩
      rw [after_ob, if_neg hU.1, hnone]
    · rcases ownc id b hb with ⟨_, h⟩ | ⟨h1, h2, h⟩
      · refine ⟨hf.lt _ b h, ?_⟩
        rcases gives _ b h with h | ⟨q, id', h1, h2⟩
        · exact .inl h
        · exact .inr ⟨id', .inr ⟨q, true, h1⟩, h2⟩
      · exact ⟨Nat.lt_of_lt_of_le (r.lt id b h) hx.size, .inr ⟨id, hU, h⟩⟩
    · rcases ownc i b h1 with ⟨a1, a2⟩ | ⟨a1, a2, a3⟩ <;> rcases ownc j b h2 with ⟨b1, b2⟩ | ⟨b1, b2, b3⟩
      · have := hf.dis _ _ b a2 b2
        unfold inR at a1 b1; omega
      · exact absurd a2 (notG j b b2 b3 _)
      · exact absurd b2 (notG i b a2 a3 _)
      · exact r.dis i j b a3 b3
    · rw [after_ob]
      by_cases hin : inR d id
      · rw [if_pos hin]
        exact ⟨Nat.le_succ _, fun h => by simp at h⟩
      · rw [if_neg hin]
        rcases find_snd hnd id with ⟨⟨q, id', g⟩, he, h1, h2⟩ | ⟨hno, h2⟩
        · simp only at h1; subst h1
          rw [h2]
          cases g with
          | true => exact ⟨Nat.le_succ _, fun h => by simp at h⟩
          | false =>
            have hng : ¬ given bs id' := fun ⟨q', h⟩ => by
              have := nodup_snd hnd he h rfl
              simp at this
            have hh' : hdrC hdr d ra bs vs id' = hdr id' := by simp [hdrC, hin, hng]
            have ho' := ho q id' he
            rcases hk q id' false he with ⟨dp, x, hk'⟩ | ⟨_, cs, hk'⟩
            · simp only [hk'] at ho' ⊢
              refine ⟨Nat.le_refl _, fun _ => ⟨hh', ho'.2.1, fun _ b => ?_, Nat.le_succ _, fun h => by simp at h⟩⟩
              simp [ownC, hin, hng]
            · simp only [hk'] at ho' ⊢
              refine ⟨Nat.le_refl _, fun _ => ⟨hh', rfl, fun _ b => ?_, Nat.le_succ _, fun h => by simp at h⟩⟩
              simp [ownC, hin, hng]
        · rcases hU with h | ⟨q, g, h⟩
          · exact absurd h hin
          · exact absurd rfl (hno _ h)
  have free : ∀ b, b < w'.heap.size → (Free w own b ∨ w.heap.size ≤ b ∨ ∃ q id, (q, id, true) ∈ bs ∧ own id b) → (∀ i, ¬ G i b) → Free w' (ownC own d ra bs G) b := by
    intro b hb h hG
    refine ⟨hb, fun id hid => ?_⟩
    rcases ownc id b hid with ⟨_, a2⟩ | ⟨_, a2, a3⟩
    · exact hG _ a2
    · rcases h with h | h | ⟨q, id', h1, h2⟩
      · exact h.2 id a3
      · have := r.lt id b a3; omega
      · exact a2 ⟨q, r.dis id id' b a3 h2 ▸ h1⟩
  -- the results
  have hres : ∀ (t : Nat) (x : RA) (u : Value), ra[t]? = some x → vs[t]? = some u → RAr w' (Free w' (ownC own d ra bs G)) t x u G := by
    intro t x u h1 h2
    have := hv t x u h1 h2
    rcases hS with h | ⟨h, _⟩
    · exact this.mono fun b hb => free b (h b hb).1 (h b hb).2.1 (h b hb).2.2
    · exact this.clean (List.all_eq_true.1 h x (List.mem_of_getElem? h1))
  have hcell : ∀ (t k : Nat) (x : RV) (u : Value), k < 64 → (ra[t]? = some (.one x) ∧ k = 0 ∧ vs[t]? = some u ∨ ∃ xs us, ra[t]? = some (.agg xs) ∧ xs[k]? = some x ∧ vs[t]? = some (.agg us) ∧ us[k]? = some u) →
      RVr w' (Free w' (ownC own d ra bs G)) x u (G (oid t k)) ∧ cellOf ra vs (oid t k) = u ∧ resOK ra (oid t k) = x.ok ∧ oid t k < 4096 := by
    intro t k x u hk h
    obtain ⟨o1, o2⟩ := oid_div (t := t) hk
    have lt4 : ∀ y, ra[t]? = some y → oid t k < 4096 := by
      intro y hy
      have := (List.getElem?_eq_some_iff.1 hy).1
      unfold oid; omega
    rcases h with ⟨h1, rfl, h2⟩ | ⟨xs, us, h1, h2, h3, h4⟩
    · refine ⟨hres t _ u h1 h2, ?_, ?_, lt4 _ h1⟩
      · simp [cellOf, o1, h1, h2]
      · simp [resOK, o1, o2, h1]
    · obtain ⟨us', e1, e2, e3, e4⟩ := hres t _ _ h1 h3
      simp at e1; subst e1
      refine ⟨e4 k x u h2 h4, ?_, ?_, lt4 _ h1⟩
      · simp [cellOf, o1, o2, h1, h3, h4]
      · simp [resOK, o1, o2, h1, h2]
  have hrange : ∀ q, q < 4096 → inR d (rid d q) ∧ rid d q - rid d 0 = q := by
    intro q hq
    unfold inR rid
    omega
  have hrc : ∀ (t k : Nat) (x : RV) (u : Value), k < 64 → (ra[t]? = some (.one x) ∧ k = 0 ∧ vs[t]? = some u ∨ ∃ xs us, ra[t]? = some (.agg xs) ∧ xs[k]? = some x ∧ vs[t]? = some (.agg us) ∧ us[k]? = some u) →
      RC P w' (ownC own d ra bs G) (hdrC hdr d ra bs vs) (s.after' d ra bs os).ob (resC s d (aid t k) x) u := by
    intro t k x u hk h
    obtain ⟨h1, h2, h3, h4⟩ := hcell t k x u hk h
    cases x with
    | d x => exact h1
    | own dp x =>
      obtain ⟨g1, g2⟩ := hrange _ h4
      have e : aid t k = oid t k := rfl
      simp only [resC, e, RC]
      rw [after_ob, if_pos g1]
      refine ⟨Nat.le_refl _, fun _ => ?_⟩
      simp only [hdrC, if_pos g1, g2, h3, RV.ok]
      exact h2.symm
    | box cs =>
      obtain ⟨g1, g2⟩ := hrange _ h4
      have e : aid t k = oid t k := rfl
      obtain ⟨b, vs', tt, k1, k2, k3, k4, k5⟩ := h1
      simp only [resC, e, RC]
      rw [after_ob, if_pos g1]
      refine ⟨Nat.le_refl _, fun _ => ?_⟩
      simp only [hdrC, if_pos g1, g2, h3, RV.ok, h2]
      exact ⟨b, k1, k1⟩
  have rc : ∀ c u, RC P w own hdr s.ob c u → RC P w' (ownC own d ra bs G) (hdrC hdr d ra bs vs) (s.after' d ra bs os).ob c u := fun c u => upd.rc r.dis r.objs
  refine ⟨?_, rc, ?_⟩
  · have := r.upd upd (fun id hU => ?_) (fun _ id hU => ?_)
    · exact this
    · rcases hU with h | ⟨q, g, h⟩
      · exact hr id h.1 h.2
      · exact hh _ h
    · unfold RO
      by_cases hin : inR d id
      · rw [after_ob, if_pos hin]
        simp only [ownC, hdrC, if_pos hin]
        have hq : id - rid d 0 < 4096 := by unfold inR rid at hin; unfold rid; omega
        generalize id - rid d 0 = q at *
        have hoid : q = oid (q / 64) (q % 64) := by unfold oid; omega
        have hk64 : q % 64 < 64 := Nat.mod_lt _ (by omega)
        -- which result it is
        have which : resOK ra q ≠ .dead → ∃ y u, RVr w' (Free w' (ownC own d ra bs G)) y u (G q) ∧ cellOf ra vs q = u ∧ resOK ra q = y.ok := by
          intro hne
          obtain ⟨ok, h⟩ : ∃ ok, resOK ra q = ok := ⟨_, rfl⟩
          rw [h] at hne ⊢
          unfold resOK at h
          split at h
          · rename_i y hy
            split at h
            · rename_i h0
              have hlt : q / 64 < vs.size := by rw [hvs]; exact (List.getElem?_eq_some_iff.1 hy).1
              obtain ⟨g1, g2, _, _⟩ := hcell (q / 64) (q % 64) y _ hk64 (.inl ⟨hy, h0, Array.getElem?_eq_getElem hlt⟩)
              rw [← hoid] at g1 g2
              exact ⟨y, _, g1, g2, h.symm⟩
            · exact absurd h.symm hne
          · rename_i ys hy
            split at h
            · rename_i y hy2
              have hlt : q / 64 < vs.size := by rw [hvs]; exact (List.getElem?_eq_some_iff.1 hy).1
              obtain ⟨us, e1, e2, e3, e4⟩ := hres (q / 64) _ _ hy (Array.getElem?_eq_getElem hlt)
              have hlt2 : q % 64 < us.size := by rw [e2]; exact (List.getElem?_eq_some_iff.1 hy2).1
              obtain ⟨g1, g2, _, _⟩ := hcell (q / 64) (q % 64) y _ hk64 (.inr ⟨ys, us, hy, hy2, by rw [← e1]; exact Array.getElem?_eq_getElem hlt, Array.getElem?_eq_getElem hlt2⟩)
              rw [← hoid] at g1 g2
              exact ⟨y, _, g1, g2, h.symm⟩
            · exact absurd h.symm hne
          · exact absurd h.symm hne
        rcases resOK_cases ra q with h | ⟨dp, x, h⟩ | ⟨cs, h⟩
        · rw [h]; simp
        · obtain ⟨y, u, g1, g2, g3⟩ := which (by rw [h]; simp)
          rw [h]
          simp only
          rw [h] at g3
          cases y with
          | own dp' y =>
            simp [RV.ok] at g3
            obtain ⟨rfl, rfl⟩ := g3
            rw [g2]
            exact g1
          | _ => simp [RV.ok] at g3
        · obtain ⟨y, u, g1, g2, g3⟩ := which (by rw [h]; simp)
          rw [h]
          simp only
          rw [h] at g3
          cases y with
          | box cs' =>
            simp only [RV.ok, OK.box.injEq] at g3
            rw [g2]
            obtain ⟨b, us, t, k1, k2, k3, k4, k5⟩ := g1
            refine ⟨b, us, t, k1, k2, k3, by rw [g3]; simpa using k4, fun k c u' h3 h4 => ?_⟩
            rw [g3, List.getElem?_map, Option.map_eq_some_iff] at h3
            obtain ⟨c', h3, rfl⟩ := h3
            exact k5 k c' u' h3 h4
          | _ => simp [RV.ok] at g3
      · rw [after_ob, if_neg hin]
        rcases find_snd hnd id with ⟨⟨q, id', g⟩, he, h1, h2⟩ | ⟨hno, h2⟩
        · simp only at h1; subst h1
          rw [h2]
          cases g with
          | true =>
            have hg : given bs id' := ⟨q, he⟩
            simp [ownC, hdrC, hin, hg]
          | false =>
            have hng : ¬ given bs id' := fun ⟨q', h⟩ => by
              have := nodup_snd hnd he h rfl
              simp at this
            have ho' := ho q id' he
            have hbs : bs ≠ [] := fun e => by rw [e] at he; cases he
            have hSF : ∀ b, S b → Free w' (ownC own d ra bs G) b := by
              rcases hS with h | ⟨_, h⟩
              · exact fun b hb => free b (h b hb).1 (h b hb).2.1 (h b hb).2.2
              · exact absurd h hbs
            rcases hk q id' false he with ⟨dp, x, hk'⟩ | ⟨_, cs, hk'⟩
            · simp only [hk'] at ho' ⊢
              simp only [ownC, hdrC, if_neg hin, if_neg hng]
              refine ⟨ho'.1, ho'.2.2.mono (fun h => h) (fun b hb => ⟨rfl, ?_⟩) fun b hb => ⟨rfl, hb⟩⟩
              exact hSF b hb
            · simp only [hk'] at ho' ⊢
              simp only [ownC, hdrC, if_neg hin, if_neg hng]
              obtain ⟨b, us, t, g1, g2, g3, g4, g5⟩ := ho'
              refine ⟨b, us, t, g1, g2, g3, by simpa using g4, fun k c u h3 h4 => ?_⟩
              rw [List.getElem?_map, Option.map_eq_some_iff] at h3
              obtain ⟨c', h3, rfl⟩ := h3
              exact (g5 k c' u h3 h4).mono fun b hb => ⟨rfl, hSF b hb⟩
        · rcases hU with h | ⟨q, g, h⟩
          · exact absurd h hin
          · exact absurd rfl (hno _ h)
  · -- the results' values
    have hRA : ∀ (t : Nat) (x : RA) (u : Value), ra[t]? = some x → vs[t]? = some u → RV1 P w' (ownC own d ra bs G) (hdrC hdr d ra bs vs) (s.after' d ra bs os).ob (resA s d t x) u := by
      intro t x u h1 h2
      cases x with
      | one x => exact hrc t 0 x u (by omega) (.inl ⟨h1, rfl, h2⟩)
      | agg xs =>
        obtain ⟨us, rfl, e2, e3, e4⟩ := hres t _ _ h1 h2
        have hL : ∀ (k0 : Nat) (xs : List RV), (resL s d t k0 xs).length = xs.length ∧ ∀ (k : Nat) (c : AC), (resL s d t k0 xs)[k]? = some c → ∃ x, xs[k]? = some x ∧ c = resC s d (aid t (k0 + k)) x := by
          intro k0 xs
          induction xs generalizing k0 with
          | nil => exact ⟨rfl, fun k c h => by simp [resL] at h⟩
          | cons x xs ih =>
            obtain ⟨i1, i2⟩ := ih (k0 + 1)
            refine ⟨by simp [resL, i1], fun k c h => ?_⟩
            cases k with
            | zero => simp [resL] at h; exact ⟨x, rfl, h.symm⟩
            | succ k =>
              simp [resL] at h
              obtain ⟨y, h3, h4⟩ := i2 k c h
              exact ⟨y, by simpa using h3, by rw [h4, show k0 + 1 + k = k0 + (k + 1) by omega]⟩
        obtain ⟨l1, l2⟩ := hL 0 xs
        refine ⟨us, rfl, by rw [l1, e2], fun k c u h3 h4 => ?_⟩
        obtain ⟨x, h5, rfl⟩ := l2 k c h3
        rw [Nat.zero_add]
        have hk64 : k < 64 := Nat.lt_of_lt_of_le (List.getElem?_eq_some_iff.1 h5).1 e3
        exact hrc t k x u hk64 (.inr ⟨xs, us, h1, h5, h2, h4⟩)
    have hAs : ∀ (t0 : Nat) (as : List RA), (resAs s d t0 as).length = as.length ∧ ∀ (k : Nat) (c : AV), (resAs s d t0 as)[k]? = some c → ∃ x, as[k]? = some x ∧ c = resA s d (t0 + k) x := by
      intro t0 as
      induction as generalizing t0 with
      | nil => exact ⟨rfl, fun k c h => by simp [resAs] at h⟩
      | cons x xs ih =>
        obtain ⟨i1, i2⟩ := ih (t0 + 1)
        refine ⟨by simp [resAs, i1], fun k c h => ?_⟩
        cases k with
        | zero => simp [resAs] at h; exact ⟨x, rfl, h.symm⟩
        | succ k =>
          simp [resAs] at h
          obtain ⟨y, h3, h4⟩ := i2 k c h
          exact ⟨y, by simpa using h3, by rw [h4, show t0 + 1 + k = t0 + (k + 1) by omega]⟩
    have tup : ∀ {as : List RA}, as = ra → as.length ≠ 1 → RS P w' (ownC own d ra bs G) (hdrC hdr d ra bs vs) (s.after' d ra bs os).ob (.t (resAs s d 0 as)) (if h : vs.size = 1 then vs[0] else .tuple vs) := by
      intro as has hne
      subst has
      rw [dif_neg (by omega)]
      obtain ⟨l1, l2⟩ := hAs 0 as
      refine ⟨vs, rfl, by rw [l1, hvs], fun k x u h1 h2 => ?_⟩
      obtain ⟨y, h3, rfl⟩ := l2 k x h1
      rw [Nat.zero_add]
      exact hRA k y u h3 h2
    unfold resV
    split
    · rename_i x
      have h1 : vs.size = 1 := by rw [hvs]; rfl
      rw [dif_pos h1]
      have := hRA 0 x vs[0] rfl (Array.getElem?_eq_getElem (by omega))
      unfold resA at this ⊢
      split <;> exact this
    · rename_i hne
      refine tup rfl fun h1 => ?_
      match hra : ra, h1 with
      | [x], _ => exact hne x hra
theorem RelX.called (r : RelX P N w0 own0 hdr0 Fr own hdr s a w) {d : Nat} {bs : List (Nat × Nat × Bool)} {ra : List RA} {os : Outs} {w' : World} {vs : Array Value} {S : Nat → Prop} {G : Nat → Nat → Prop}
    (hnd : (bs.map (·.2.1)).Nodup) (hh : ∀ b ∈ bs, b.2.1 ∉ s.hold) (hr : ∀ q, rid d 0 ≤ q → q < rid d 4096 → q ∉ s.hold)
    (hk : ∀ q id g, (q, id, g) ∈ bs → (∃ dp x, (s.ob id).k = .arr dp x) ∨ g = false ∧ ∃ cs, (s.ob id).k = .box cs)
    (hx : Ext w w' (fun b => ∃ q id g, (q, id, g) ∈ bs ∧ own id b))
    (hf : Fresh w w' G (fun b => ∃ q id, (q, id, true) ∈ bs ∧ own id b))
    (hS : (∀ b, S b → b < w'.heap.size ∧ (Free w own b ∨ w.heap.size ≤ b ∨ ∃ q id, (q, id, true) ∈ bs ∧ own id b) ∧ ∀ i, ¬ G i b) ∨ ra.all RA.clean = true ∧ bs = [])
    (hl : ra.length ≤ 64) (hvs : vs.size = ra.length) (hv : ∀ (t : Nat) (x : RA) (u : Value), ra[t]? = some x → vs[t]? = some u → RAr w' S t x u G)
    (ho : ∀ q id, (q, id, false) ∈ bs → match (s.ob id).k with
      | .arr dp x => (os.a q).isSl = true ∧ (os.a q).esz = x.esz ∧ Top w' S dp (os.a q).esz (os.a q).rows (hdr id) (own id)
      | .box _ => PAr P w' S (fun _ => False) (.box (os.b q)) (hdr id) (own id)
      | _ => False) :
    RelV P N w0 own0 hdr0 Fr (s.after d ra bs os) a w' (resV s d ra) (if h : vs.size = 1 then vs[0] else .tuple vs) := by
  unfold St.after
  split
  · rename_i hD
    simp only [Bool.and_eq_true, List.isEmpty_iff] at hD
    obtain ⟨hD, rfl⟩ := hD
    have hx' : Ext w w' (fun _ => False) := ⟨hx.os, hx.tape, hx.output, hx.size, fun b hb _ => hx.same b hb (by simp), hx.drawn⟩
    obtain ⟨r', hrs⟩ := r.more hx'
    refine ⟨own, hdr, r', ?_⟩
    have hcell : ∀ (x : RV) (u : Value) (F : Nat → Prop), x.isD = true → (ra.all RA.clean = true → x.clean = true) → RVr w' S x u F → ∀ q, RC P w' own hdr s.ob (resC s d q x) u := by
      intro x u F hx hcl h q
      cases x with
      | own dp x => simp [RV.isD] at hx
      | box cs => simp [RV.isD] at hx
      | d x =>
        show Pers w' (Free w' own) x u
        rcases hS with hS | ⟨hS, _⟩
        · refine Pers.mono (fun b hb => ⟨rfl, (hS b hb).1, fun id hid => ?_⟩) h
          rcases (hS b hb).2.1 with h | h | ⟨_, _, h, _⟩
          · exact h.2 id hid
          · have := r.lt id b hid; omega
          · simp at h
        · exact Pers.clean (hcl hS) h
    have hRA : ∀ (t : Nat) (x : RA) (u : Value), ra[t]? = some x → vs[t]? = some u → RV1 P w' own hdr s.ob (resA s d t x) u := by
      intro t x u h1 h2
      have hxD := List.all_eq_true.1 hD x (List.mem_of_getElem? h1)
      have hxC : ra.all RA.clean = true → x.clean = true := fun h => List.all_eq_true.1 h x (List.mem_of_getElem? h1)
      have hxv := hv t x u h1 h2
      cases x with
      | one x => exact hcell x u _ hxD hxC hxv _
      | agg xs =>
        obtain ⟨us, rfl, e2, e3, e4⟩ := hxv
        have hL : ∀ (k0 : Nat) (xs : List RV), (resL s d t k0 xs).length = xs.length ∧ ∀ (k : Nat) (c : AC), (resL s d t k0 xs)[k]? = some c → ∃ x, xs[k]? = some x ∧ c = resC s d (aid t (k0 + k)) x := by
          intro k0 xs
          induction xs generalizing k0 with
          | nil => exact ⟨rfl, fun k c h => by simp [resL] at h⟩
          | cons x xs ih =>
            obtain ⟨i1, i2⟩ := ih (k0 + 1)
            refine ⟨by simp [resL, i1], fun k c h => ?_⟩
            cases k with
            | zero => simp [resL] at h; exact ⟨x, rfl, h.symm⟩
            | succ k =>
              simp [resL] at h
              obtain ⟨y, h3, h4⟩ := i2 k c h
              exact ⟨y, by simpa using h3, by rw [h4, show k0 + 1 + k = k0 + (k + 1) by omega]⟩
        obtain ⟨l1, l2⟩ := hL 0 xs
        refine ⟨us, rfl, by rw [l1, e2], fun k c u h3 h4 => ?_⟩
        obtain ⟨x, h5, rfl⟩ := l2 k c h3
        exact hcell x u _ (List.all_eq_true.1 hxD x (List.mem_of_getElem? h5)) (fun h => List.all_eq_true.1 (hxC h) x (List.mem_of_getElem? h5)) (e4 k x u h5 h4) _
    have hAs : ∀ (t0 : Nat) (as : List RA), (resAs s d t0 as).length = as.length ∧ ∀ (k : Nat) (c : AV), (resAs s d t0 as)[k]? = some c → ∃ x, as[k]? = some x ∧ c = resA s d (t0 + k) x := by
      intro t0 as
      induction as generalizing t0 with
      | nil => exact ⟨rfl, fun k c h => by simp [resAs] at h⟩
      | cons x xs ih =>
        obtain ⟨i1, i2⟩ := ih (t0 + 1)
        refine ⟨by simp [resAs, i1], fun k c h => ?_⟩
        cases k with
        | zero => simp [resAs] at h; exact ⟨x, rfl, h.symm⟩
        | succ k =>
          simp [resAs] at h
          obtain ⟨y, h3, h4⟩ := i2 k c h
          exact ⟨y, by simpa using h3, by rw [h4, show t0 + 1 + k = t0 + (k + 1) by omega]⟩
    have tup : ∀ {as : List RA}, as = ra → as.length ≠ 1 → RS P w' own hdr s.ob (.t (resAs s d 0 as)) (if h : vs.size = 1 then vs[0] else .tuple vs) := by
      intro as has hne
      subst has
      rw [dif_neg (by omega)]
      obtain ⟨l1, l2⟩ := hAs 0 as
      refine ⟨vs, rfl, by rw [l1, hvs], fun k x u h1 h2 => ?_⟩
      obtain ⟨y, h3, rfl⟩ := l2 k x h1
      rw [Nat.zero_add]
      exact hRA k y u h3 h2
    unfold resV
    split
    · rename_i x
      have h1 : vs.size = 1 := by rw [hvs]; rfl
      rw [dif_pos h1]
      have := hRA 0 x vs[0] rfl (Array.getElem?_eq_getElem (by omega))
      unfold resA at this ⊢
      split <;> exact this
    · rename_i hne
      refine tup rfl fun h1 => ?_
      match hra : ra, h1 with
      | [x], _ => exact hne x hra
  · have h := r.called' hnd hh hr hk hx hf hS hl hvs hv ho
    exact ⟨_, _, h.1, h.2.2⟩
end
end Hearth

/- The abstract machine: calls' arguments. -/
namespace Hearth
open Go
section
variable {P : Program} {N : Nat} {w0 : World} {own0 : Nat → Nat → Prop} {hdr0 : Nat → Value} {Fr : List ((Nat → Prop) × World)} {own : Nat → Nat → Prop} {hdr : Nat → Value} {s : St} {a : Act} {w : World}
inductive At : AV → GA → Nat → AC → PA → Prop where
  | one (c : AC) (p : PA) : At (.c c) (.one p) 0 c p
  | agg (cs : List AC) (ps : List PA) (k : Nat) (c : AC) (p : PA) (h : ps.length ≤ 64) (h1 : cs[k]? = some c) (h2 : ps[k]? = some p) : At (.g cs) (.agg ps) k c p
theorem At.lt {v : AV} {g : GA} {k : Nat} {c : AC} {p : PA} (h : At v g k c p) : k < 64 := by
  cases h with
  | one => omega
  | agg cs ps k c p h h1 h2 => exact Nat.lt_of_lt_of_le (List.getElem?_eq_some_iff.1 h2).1 h
theorem At.gaAt {v : AV} {g : GA} {k : Nat} {c : AC} {p : PA} (h : At v g k c p) {gas : List GA} {t : Nat} (hg : gas[t]? = some g) : gaAt gas (aid t k) = some p := by
  have hk := h.lt
  have h1 : aid t k / 64 = t := by unfold aid; omega
  have h2 : aid t k % 64 = k := by unfold aid; omega
  unfold Hearth.gaAt
  rw [h1, h2, hg]
  cases h with
  | one => rfl
  | agg cs ps k c p h h1 h2 => simp [GA.at, hk, h2]
theorem aid_inj {t k t' k' : Nat} (h : k < 64) (h' : k' < 64) (e : aid t k = aid t' k') : t = t' ∧ k = k' := by
  unfold aid at e; omega
theorem mem_bindC {q : Nat} {c : AC} {p : PA} {e : Nat × Nat × Bool} (h : e ∈ bindC q c p) : e.1 = q := by
  unfold bindC at h
  split at h <;> simp at h <;> rw [h]
theorem mem_bindL {t : Nat} {e : Nat × Nat × Bool} : ∀ {k0 : Nat} {cs : List AC} {ps : List PA}, e ∈ bindL t k0 cs ps ↔ ∃ j c p, cs[j]? = some c ∧ ps[j]? = some p ∧ e ∈ bindC (aid t (k0 + j)) c p
  | k0, [], ps => by simp [bindL]
  | k0, c :: cs, [] => by simp [bindL]
  | k0, c :: cs, p :: ps => by
    simp only [bindL, List.mem_append, mem_bindL (k0 := k0 + 1)]
    constructor
    · rintro (h | ⟨j, c', p', h1, h2, h3⟩)
      · exact ⟨0, c, p, rfl, rfl, h⟩
      · exact ⟨j + 1, c', p', by simpa using h1, by simpa using h2, by rw [show k0 + (j + 1) = k0 + 1 + j by omega]; exact h3⟩
    · rintro ⟨j, c', p', h1, h2, h3⟩
      cases j with
      | zero => simp at h1 h2; subst h1; subst h2; exact .inl h3
      | succ j => exact .inr ⟨j, c', p', by simpa using h1, by simpa using h2, by rw [show k0 + 1 + j = k0 + (j + 1) by omega]; exact h3⟩
theorem mem_bindG {t : Nat} {e : Nat × Nat × Bool} {v : AV} {g : GA} (hm : matchG P s v g) : e ∈ bindG t v g ↔ ∃ k c p, At v g k c p ∧ e ∈ bindC (aid t k) c p := by
  cases v with
  | c c =>
    cases g with
    | one p =>
      simp only [bindG]
      constructor
      · intro h; exact ⟨0, c, p, .one c p, h⟩
      · rintro ⟨k, c', p', h, h'⟩; cases h; exact h'
    | agg ps => exact hm.elim
  | g cs =>
    cases g with
    | one p => exact hm.elim
    | agg ps =>
      simp only [bindG, mem_bindL, Nat.zero_add]
      constructor
      · rintro ⟨j, x, p, h1, h2, h3⟩; exact ⟨j, x, p, .agg cs ps j x p hm.2 h1 h2, h3⟩
      · rintro ⟨k, c', p', h, h'⟩; cases h with | agg _ _ _ _ _ h h1 h2 => exact ⟨k, c', p', h1, h2, h'⟩
  | t xs => cases g <;> exact hm.elim
theorem matchGs_get : ∀ {avs : List AV} {gas : List GA}, matchGs P s avs gas → avs.length = gas.length ∧ ∀ (t : Nat) (v : AV) (g : GA), avs[t]? = some v → gas[t]? = some g → matchG P s v g
  | [], [], _ => by simp
  | v :: vs, g :: gs, h => by
    obtain ⟨h1, h2⟩ := matchGs_get h.2
    refine ⟨by simp [h1], fun t v' g' h3 h4 => ?_⟩
    cases t with
    | zero => simp at h3 h4; subst h3; subst h4; exact h.1
    | succ t => simp at h3 h4; exact h2 t v' g' h3 h4
  | [], _ :: _, h => h.elim
  | _ :: _, [], h => h.elim
theorem mem_bindGs {e : Nat × Nat × Bool} : ∀ {t0 : Nat} {avs : List AV} {gas : List GA}, matchGs P s avs gas → (e ∈ bindGs t0 avs gas ↔ ∃ t v g k c p, avs[t]? = some v ∧ gas[t]? = some g ∧ At v g k c p ∧ e ∈ bindC (aid (t0 + t) k) c p)
  | t0, [], gas, _ => by simp [bindGs]
  | t0, v :: vs, [], h => by exact h.elim
  | t0, v :: vs, g :: gs, h => by
    simp only [bindGs, List.mem_append, mem_bindG h.1, mem_bindGs (t0 := t0 + 1) h.2]
    constructor
    · rintro (⟨k, c, p, h1, h2⟩ | ⟨t, v', g', k, c, p, h1, h2, h3, h4⟩)
      · exact ⟨0, v, g, k, c, p, rfl, rfl, h1, h2⟩
      · exact ⟨t + 1, v', g', k, c, p, by simpa using h1, by simpa using h2, h3, by rw [show t0 + (t + 1) = t0 + 1 + t by omega]; exact h4⟩
    · rintro ⟨t, v', g', k, c, p, h1, h2, h3, h4⟩
      cases t with
      | zero => simp at h1 h2; subst h1; subst h2; exact .inl ⟨k, c, p, h3, h4⟩
      | succ t => exact .inr ⟨t, v', g', k, c, p, by simpa using h1, by simpa using h2, h3, by rw [show t0 + 1 + t = t0 + (t + 1) by omega]; exact h4⟩
theorem matchL_get : ∀ {cs : List AC} {ps : List PA}, matchL P s cs ps → cs.length = ps.length ∧ ∀ (k : Nat) (c : AC) (p : PA), cs[k]? = some c → ps[k]? = some p → matchC P s c p
  | [], [], _ => by simp
  | v :: vs, g :: gs, h => by
    obtain ⟨h1, h2⟩ := matchL_get h.2
    refine ⟨by simp [h1], fun t v' g' h3 h4 => ?_⟩
    cases t with
    | zero => simp at h3 h4; subst h3; subst h4; exact h.1
    | succ t => simp at h3 h4; exact h2 t v' g' h3 h4
  | [], _ :: _, h => h.elim
  | _ :: _, [], h => h.elim
theorem At.match {v : AV} {g : GA} {k : Nat} {c : AC} {p : PA} (h : At v g k c p) (hm : matchG P s v g) : matchC P s c p := by
  cases h with
  | one => exact hm
  | agg cs ps k c p h h1 h2 => exact (matchL_get hm.1).2 k c p h1 h2
theorem stabL_get : ∀ {cs : List AC} {ps : List PA}, cs.length = ps.length → stabL s cs ps = true → ∀ (k : Nat) (c : AC) (p : PA), cs[k]? = some c → ps[k]? = some p → stabC s c p = true
  | [], _, _, _, k, c, p, h, _ => by simp at h
  | c :: cs, [], h, _, _, _, _, _, _ => by simp at h
  | c :: cs, p :: ps, h, hs, k, c', p', h1, h2 => by
    simp only [stabL, Bool.and_eq_true] at hs
    cases k with
    | zero => simp at h1 h2; subst h1; subst h2; exact hs.1
    | succ k => simp at h1 h2; exact stabL_get (by simpa using h) hs.2 k c' p' h1 h2
theorem stabGs_get : ∀ {avs : List AV} {gas : List GA}, matchGs P s avs gas → stabGs s avs gas = true → ∀ (t : Nat) (v : AV) (g : GA) (k : Nat) (c : AC) (p : PA), avs[t]? = some v → gas[t]? = some g → At v g k c p → stabC s c p = true
  | [], _, _, _, t, v, g, k, c, p, h, _, _ => by simp at h
  | v :: vs, [], h, _, _, _, _, _, _, _, _, _, _ => h.elim
  | v :: vs, g :: gs, h, hs, t, v', g', k, c, p, h1, h2, h3 => by
    cases t with
    | zero =>
      simp at h1 h2; subst h1; subst h2
      cases h3 with
      | one => simp only [stabGs, Bool.and_eq_true] at hs; exact hs.1
      | agg cs ps k c p h4 h5 h6 => simp only [stabGs, Bool.and_eq_true] at hs; exact stabL_get (matchL_get h.1.1).1 hs.1 k c p h5 h6
    | succ t =>
      simp at h1 h2
      refine stabGs_get h.2 ?_ t v' g' k c p h1 h2 h3
      have hm := h.1
      cases v <;> cases g <;> first | exact hm.elim | (simp only [stabGs, Bool.and_eq_true] at hs; exact hs.2)
theorem looksL_get : ∀ {cs : List AC} {ps : List PA} (k : Nat) (c : AC) (p : PA), cs[k]? = some c → ps[k]? = some p → looksC c p = true → looksL cs ps = true
  | [], _, k, c, p, h, _, _ => by simp at h
  | c :: cs, [], _, _, _, _, h, _ => by simp at h
  | c :: cs, p :: ps, k, c', p', h1, h2, h3 => by
    simp only [looksL, Bool.or_eq_true]
    cases k with
    | zero => simp at h1 h2; subst h1; subst h2; exact .inl h3
    | succ k => simp at h1 h2; exact .inr (looksL_get k c' p' h1 h2 h3)
theorem looksGs_get : ∀ {avs : List AV} {gas : List GA}, matchGs P s avs gas → ∀ (t : Nat) (v : AV) (g : GA) (k : Nat) (c : AC) (p : PA), avs[t]? = some v → gas[t]? = some g → At v g k c p → looksC c p = true → looksGs avs gas = true
  | [], _, _, t, v, g, k, c, p, h, _, _, _ => by simp at h
  | v :: vs, [], h, _, _, _, _, _, _, _, _, _, _ => h.elim
  | v :: vs, g :: gs, h, t, v', g', k, c, p, h1, h2, h3, h4 => by
    cases t with
    | zero =>
      simp at h1 h2; subst h1; subst h2
      cases h3 with
      | one => simp only [looksGs, Bool.or_eq_true]; exact .inl h4
      | agg cs ps k c p h5 h6 h7 => simp only [looksGs, Bool.or_eq_true]; exact .inl (looksL_get k c p h6 h7 h4)
    | succ t =>
      simp at h1 h2
      have ih := looksGs_get h.2 t v' g' k c p h1 h2 h3 h4
      have hm := h.1
      cases v <;> cases g <;> first | exact hm.elim | (simp only [looksGs, Bool.or_eq_true]; exact .inr ih)
theorem FnOK.fval {f : FuncId} {first : List DA} {fs cv : Array Value} {dss : List (List CD)} {Sf : Nat → Prop} {C : FC} (he : Enters P f) (hfs : DAs w Sf first fs) (hsf : ∀ b, Sf b → b < w.heap.size) (hcv : cv.size = dss.length)
    (hc : ∀ (k : Nat) (ds : List CD) (u : Value), dss[k]? = some ds → cv[k]? = some u → PAr P w Sf Sf (.ptr ds) u (fun _ => False))
    (h : ∀ as R, C as R → FnOK P f (first.map DA.ga ++ as.map DA.ga ++ dss.map fun ds => .one (.ptr ds)) (fun ra _ => R ra)) : FVal P w Sf (.func (.func f) fs cv) C := by
  refine ⟨f, fs, cv, rfl, he, fun as R hC w' S' vs hw hsz hS' hvs => ?_⟩
  have hSf : ∀ b, Sf b → w'.heap[b]? = w.heap[b]? ∧ (S' b ∨ Sf b) := fun b hb => ⟨hw b hb, .inr hb⟩
  have key := (h as R hC).2 w' (fun b => S' b ∨ Sf b) (fun _ _ => False) (fs ++ vs ++ cv) (by simp [hfs.1, hvs.1, hcv])
  have ga : ∀ (t : Nat) (x : DA) (v : Value) (G : Nat → Nat → Prop), DAr w' (fun b => S' b ∨ Sf b) x v → GAr P w' (fun b => S' b ∨ Sf b) (fun b => b < w'.heap.size ∧ ∀ q, ¬ (fun _ _ => False : Nat → Nat → Prop) q b) t G x.ga v := by
    intro t x v G hx
    cases x with
    | one x => exact hx
    | agg xs =>
      obtain ⟨us, h1, h2, h3⟩ := hx
      refine ⟨us, h1, by simpa using h2.1, by simpa using h2.2, fun k x u h4 h5 => ?_⟩
      rw [List.getElem?_map, Option.map_eq_some_iff] at h4
      obtain ⟨y, h4, rfl⟩ := h4
      exact h3 k y u h4 h5
  have get : ∀ (t : Nat) (g : GA) (v : Value), (first.map DA.ga ++ as.map DA.ga ++ dss.map fun ds => GA.one (.ptr ds))[t]? = some g → (fs ++ vs ++ cv)[t]? = some v →
      GAr P w' (fun b => S' b ∨ Sf b) (fun b => b < w'.heap.size ∧ ∀ q, ¬ (fun _ _ => False : Nat → Nat → Prop) q b) t (fun _ _ => False) g v := by
    intro t g v h1 h2
    have hl1 : fs.size = first.length := hfs.1
    have hl2 : vs.size = as.length := hvs.1
    rw [Array.getElem?_append, Array.getElem?_append] at h2
    rw [List.getElem?_append, List.getElem?_append] at h1
    simp only [List.length_append, List.length_map, Array.size_append, hl1, hl2, List.getElem?_map, Option.map_eq_some_iff] at h1 h2
    by_cases a1 : t < first.length
    · rw [if_pos (by omega), if_pos a1] at h1 h2
      simp only [Option.map_eq_some_iff] at h1
      obtain ⟨x, h3, rfl⟩ := h1
      exact ga t x v _ ((hfs.2 t x v h3 h2).mono hSf)
    · by_cases a2 : t < first.length + as.length
      · rw [if_pos a2, if_neg a1] at h1 h2
        simp only [Option.map_eq_some_iff] at h1
        obtain ⟨x, h3, rfl⟩ := h1
        exact ga t x v _ ((hvs.2 _ x v h3 h2).mono fun b hb => ⟨rfl, .inl hb⟩)
      · rw [if_neg a2] at h1 h2
        simp only [Option.map_eq_some_iff] at h1
        obtain ⟨ds, h3, rfl⟩ := h1
        obtain ⟨b, off, h4, h5, h6⟩ := hc _ ds v h3 h2
        refine ⟨b, off, h4, .inr h5, fun k c hk => ?_⟩
        obtain ⟨u, h7, h8⟩ := h6 k c hk
        refine ⟨u, (cell_same (hw b h5)).trans h7, ?_⟩
        cases c with
        | d x => exact Pers.mono hSf h8
        | fv p C =>
          refine FVal.mono (fun b hb => ?_) hsz h8
          cases p with
          | true => exact (show False from hb).elim
          | false => exact ⟨hw b hb, Nat.lt_of_lt_of_le (hsf b hb) hsz, fun _ h => h⟩
  refine (key get (fun _ _ _ h => h.elim) (fun _ _ h => h.elim) (fun b hb => hb.elim (hS' b) fun hb => Nat.lt_of_lt_of_le (hsf b hb) hsz) (fun _ _ h => h.elim)).mono ?_
  rintro e w'' ⟨v, ra, os, G, h1, h2, h3, h4, h5, _⟩
  refine ⟨v, ra, G, h1, h2, ⟨h3.os, h3.tape, h3.output, h3.size, fun b hb _ => h3.same b hb fun ⟨_, h⟩ => h, h3.drawn⟩, ⟨h4.dis, h4.lt, fun i b hb => .inl ?_⟩, h5.mono fun b hb => ⟨hb.1, ?_, hb.2.2⟩⟩
  · rcases h4.new i b hb with h | ⟨_, _, _, _, h⟩
    · exact h
    · exact h.elim
  · rcases hb.2.1 with (h | h) | h | ⟨_, _, _, _, h⟩
    · exact .inl h
    · exact .inr (.inl h)
    · exact .inr (.inr h)
    · exact h.elim
theorem Pers.mono' {w : World} {S S' : Nat → Prop} (h : ∀ b, S b → S' b) {x : DV} {v : Value} (p : Pers w S x v) : Pers w S' x v := p.mono fun b hb => ⟨rfl, h b hb⟩
theorem rds_get : ∀ {cs : List AC} {ds : List DV}, s.rds cs = some ds → cs.length = ds.length ∧ ∀ (k : Nat) (d : DV), ds[k]? = some d → ∃ c, cs[k]? = some c ∧ s.rd c = some d
  | [], ds, h => by simp [St.rds] at h; subst h; simp
  | c :: cs, ds, h => by
    simp only [St.rds] at h
    split at h
    · rename_i d ds' h1 h2
      simp at h; subst h
      obtain ⟨i1, i2⟩ := rds_get h2
      refine ⟨by simp [i1], fun k d' hk => ?_⟩
      cases k with
      | zero => simp at hk; subst hk; exact ⟨c, rfl, h1⟩
      | succ k => simp at hk; obtain ⟨c', h3, h4⟩ := i2 k d' hk; exact ⟨c', by simpa using h3, h4⟩
    · simp at h
theorem stabR_pers (r : RelX P N w0 own0 hdr0 Fr own hdr s a w) {c : AC} {v : Value} {x : DV} (hc : RC P w own hdr s.ob c v) (h : s.rd c = some x) (hs : stabR s c = true) : Pers w (Free w own) x v := by
  refine stab_pers r hc h ?_
  unfold stabR at hs
  split at hs
  · exact .inl ⟨_, rfl⟩
  · exact .inr (.inl ⟨_, rfl⟩)
  · rename_i id ver
    split at hs
    · rename_i y hk; exact .inr (.inr ⟨_, _, y, rfl, hk⟩)
    · simp at hs
  · simp at hs
theorem cds_get : ∀ {cs : List AC} {ds : List CD}, s.cds cs = some ds → cs.length = ds.length ∧ ∀ (k : Nat) (d : CD), ds[k]? = some d → ∃ c, cs[k]? = some c ∧ s.cd c = some d
  | [], ds, h => by simp [St.cds] at h; subst h; simp
  | c :: cs, ds, h => by
    simp only [St.cds] at h
    split at h
    · rename_i d ds' h1 h2
      simp at h; subst h
      obtain ⟨i1, i2⟩ := cds_get h2
      refine ⟨by simp [i1], fun k d' hk => ?_⟩
      cases k with
      | zero => simp at hk; subst hk; exact ⟨c, rfl, h1⟩
      | succ k => simp at hk; obtain ⟨c', h3, h4⟩ := i2 k d' hk; exact ⟨c', by simpa using h3, h4⟩
    · simp at h
theorem cd_sound (r : RelX P N w0 own0 hdr0 Fr own hdr s a w) {c : AC} {d : CD} {u : Value} (h : s.cd c = some d) (hc : RC P w own hdr s.ob c u) : CDr P w (All w) (FreeF w own) d u := by
  cases c with
  | fv p C => simp [St.cd] at h; subst h; exact hc
  | _ =>
    simp only [St.cd, Option.map_eq_some_iff] at h
    obtain ⟨x, hx, rfl⟩ := h
    exact r.rd hc hx
theorem CDr.mono {S S' Sf Sf' : Nat → Prop} (h : ∀ b, S b → S' b) (h' : ∀ b, Sf b → Sf' b) {d : CD} {u : Value} (p : CDr P w S Sf d u) : CDr P w S' Sf' d u := by
  cases d with
  | d x => exact Pers.mono' h p
  | fv pu C =>
    refine FVal.mono (fun b hb => ⟨rfl, ?_⟩) (Nat.le_refl _) p
    cases pu with
    | true => exact hb
    | false => exact h' b hb
theorem caps_get (r : RelX P N w0 own0 hdr0 Fr own hdr s a w) : ∀ {caps : List (Nat × Nat)} {dss : List (List CD)}, s.caps caps = some dss → caps.length = dss.length ∧
    ∀ (k : Nat) (ds : List CD), dss[k]? = some ds → ∃ id ver, caps[k]? = some (id, ver) ∧ (s.ob id).ver = ver ∧ PAr P w (All w) (FreeF w own) (.ptr ds) (hdr id) (fun _ => False)
  | [], dss, h => by simp [St.caps] at h; subst h; simp
  | (id, ver) :: caps, dss, h => by
    simp only [St.caps] at h
    split at h
    · rename_i cs hk
      split at h
      · rename_i ds l h1 h2
        simp at h; subst h
        obtain ⟨i1, i2⟩ := caps_get r h2
        refine ⟨by simp [i1], fun k ds' hk' => ?_⟩
        cases k with
        | zero =>
          simp at hk'; subst hk'
          obtain ⟨o1, o2⟩ := St.obj_ok hk (by simp)
          obtain ⟨b, vs, t, g1, g2, g3, g4, g5⟩ := r.boxAt o2
          refine ⟨id, ver, rfl, o1, b, 0, g1, r.lt id b ((g2 b).2 rfl), fun k c hc => ?_⟩
          obtain ⟨x, h3, h4⟩ := (cds_get h1).2 k c hc
          have hlt : k < vs.size := by rw [g4]; exact (List.getElem?_eq_some_iff.1 h3).1
          exact ⟨vs[k], by simp [World.cell?, g3, hlt], cd_sound r h4 (g5 k x _ h3 (Array.getElem?_eq_getElem hlt))⟩
        | succ k => simp at hk'; obtain ⟨id', ver', h3, h4⟩ := i2 k ds' hk'; exact ⟨id', ver', by simpa using h3, h4⟩
      · simp at h
    · simp at h
theorem arg_sound (r : RelX P N w0 own0 hdr0 Fr own hdr s a w) {q : Nat} {c : AC} {p : PA} {v : Value} {bs : List (Nat × Nat × Bool)} {S : Nat → Prop} (hc : RC P w own hdr s.ob c v) (hm : matchC P s c p)
    (hbs : ∀ e ∈ bs, (s.ob e.2.1).k ≠ .ext)
    (hmode : (stabC s c p = true ∧ (∀ b, S b ↔ Free w own b) ∧ (looksC c p = true → bs = [])) ∨ ((∀ b, S b ↔ All w b) ∧ bs = [])) :
    PAr P w S (fun b => b < w.heap.size ∧ ∀ q', ¬ ∃ id g, (q', id, g) ∈ bs ∧ own id b) p v (fun b => ∃ id g, (q, id, g) ∈ bindC q c p ∧ own id b) := by
  have hFS : ∀ b, Free w own b → S b := by
    intro b hb
    rcases hmode with ⟨_, h, _⟩ | ⟨h, _⟩
    · exact (h b).2 hb
    · exact (h b).2 hb.1
  have hloose : ∀ b, FreeF w own b → b < w.heap.size ∧ ∀ q', ¬ ∃ id g, (q', id, g) ∈ bs ∧ own id b := by
    intro b hb
    refine ⟨hb.1, ?_⟩
    rintro q' ⟨id, g, h1, h2⟩
    have := hb.2 id h2
    subst this
    exact hbs _ h1 r.al
  have rdS : ∀ {x : DV}, (stabR s c = true ∨ ∀ b, S b ↔ All w b) → s.rd c = some x → Pers w S x v := by
    intro x h hx
    rcases h with h | h
    · exact (stabR_pers r hc hx h).mono' hFS
    · exact (r.rd hc hx).mono' fun b hb => (h b).2 hb
  cases p with
  | d x =>
    have hm' : s.rd c = some x := by
      cases c <;> exact hm
    refine rdS ?_ hm'
    rcases hmode with ⟨h, _, _⟩ | ⟨h, _⟩
    · left
      cases c <;> simp_all [stabC, stabR]
    · exact .inr h
  | arr g dp x =>
    cases c with
    | arr id ver =>
      obtain ⟨dp', hk, hdp⟩ := hm
      obtain ⟨o1, o2⟩ := St.obj_ok hk (by simp)
      obtain ⟨g1, g2⟩ := r.arrAt o2
      refine ⟨g1, ?_⟩
      rw [hc.2 o1.symm]
      refine g2.mono (fun h => ?_) (fun b hb => ⟨rfl, hFS b hb⟩) fun b hb => ⟨rfl, id, g, by simp [bindC], hb⟩
      rcases hdp with h' | ⟨_, h'⟩
      · rw [h', h]
      · exact h'
    | nil sz =>
      obtain ⟨rfl, _⟩ := hm
      exact ⟨rfl, .inl ⟨rfl, hc⟩⟩
    | _ => exact hm.elim
  | box ds =>
    cases c with
    | ptr id ver off =>
      obtain ⟨rfl, cs, hk, hds⟩ := hm
      obtain ⟨o1, o2⟩ := St.obj_ok hk (by simp)
      obtain ⟨b, vs, t, g1, g2, g3, g4, g5⟩ := r.boxAt o2
      obtain ⟨b', h1, rfl⟩ := hc.2 o1.symm
      rw [g1] at h1; simp at h1; subst h1
      refine ⟨b, vs, t, rfl, fun x => ?_, g3, by rw [g4, (rds_get hds).1], fun k d u h2 h3 => ?_⟩
      · rw [← g2 x]
        constructor
        · rintro ⟨id', g', h2, h3⟩; simp [bindC] at h2; rw [h2.1] at h3; exact h3
        · intro h2; exact ⟨id, false, by simp [bindC], h2⟩
      · obtain ⟨x, h4, h5⟩ := (rds_get hds).2 k d h2
        have hx := g5 k x u h4 h3
        rcases hmode with ⟨h, _, _⟩ | ⟨h, _⟩
        · simp only [stabC, hk, List.all_eq_true] at h
          exact (stabR_pers r hx h5 (h x (List.mem_of_getElem? h4))).mono' hFS
        · exact (r.rd hx h5).mono' fun b hb => (h b).2 hb
    | _ => exact hm.elim
  | ptr ds =>
    cases c with
    | ptr id ver off =>
      obtain ⟨rfl, cs, hk, hds⟩ := hm
      obtain ⟨o1, o2⟩ := St.obj_ok hk (by simp)
      obtain ⟨b, vs, t, g1, g2, g3, g4, g5⟩ := r.boxAt o2
      obtain ⟨b', h1, rfl⟩ := hc.2 o1.symm
      rw [g1] at h1; simp at h1; subst h1
      rcases hmode with ⟨h, _, _⟩ | ⟨hA, _⟩
      · simp [stabC] at h
      · refine ⟨b, 0, rfl, (hA b).2 (r.lt id b ((g2 b).2 rfl)), fun k d h2 => ?_⟩
        obtain ⟨x, h4, h5⟩ := (cds_get hds).2 k d h2
        have hlt : k < vs.size := by rw [g4]; exact (List.getElem?_eq_some_iff.1 h4).1
        exact ⟨vs[k], by simp [World.cell?, g3, hlt], (cd_sound r h5 (g5 k x _ h4 (Array.getElem?_eq_getElem hlt))).mono (fun b hb => (hA b).2 hb) hloose⟩
    | cpt ds' =>
      obtain rfl : ds' = ds := hm
      obtain ⟨b, off, h1, h2, h3⟩ := hc
      refine ⟨b, off, h1, hFS b h2, fun k d hk => ?_⟩
      obtain ⟨u, h4, h5⟩ := h3 k d hk
      exact ⟨u, h4, h5.mono hFS hloose⟩
    | _ => exact hm.elim
  | fv pu C =>
    have hm' : FnC P s c pu C := by cases c <;> exact hm
    show FVal P w (if pu then fun _ => False else _) v C
    unfold FnC at hm'
    split at hm'
    · rename_i p' C'
      obtain ⟨h1, h2⟩ := hm'
      have hv : FVal P w (if p' then fun _ => False else FreeF w own) v C' := hc
      have hv' : FVal P w (if pu then fun _ => False else fun b => b < w.heap.size ∧ ∀ q', ¬ ∃ id g, (q', id, g) ∈ bs ∧ own id b) v C' := by
        refine hv.mono (fun b hb => ⟨rfl, ?_⟩) (Nat.le_refl _)
        cases p' with
        | true => exact (show False from hb).elim
        | false =>
          have : pu = false := by cases pu <;> simp_all
          subst this
          exact hloose b hb
      obtain ⟨f, first, caps, e1, e2, e3⟩ := hv'
      exact ⟨f, first, caps, e1, e2, fun as R hC => e3 as R (h2 as R hC)⟩
    · rename_i f fs cs
      obtain ⟨rfl, rfl, he, hC⟩ := hm'
      have hv : v = .func (.func f) #[] #[] := Pers.scEq hc
      subst hv
      refine FnOK.fval (first := []) (dss := []) he ⟨rfl, by simp⟩ (fun b hb => ?_) rfl (by simp) (fun as R h => by simpa using hC as R h)
      cases pu with
      | true => exact (show False from hb).elim
      | false => exact hb.1
    · rename_i f first caps
      obtain ⟨rfl, he, dss, hd, hC⟩ := hm'
      obtain ⟨fs, vs, rfl, h1, h2, h3⟩ := hc
      have hb0 : bs = [] := by
        rcases hmode with ⟨_, _, h⟩ | ⟨_, h⟩
        · exact h rfl
        · exact h
      subst hb0
      obtain ⟨k1, k2⟩ := caps_get r hd
      refine FnOK.fval (dss := dss) he (h1.mono fun b hb => ⟨rfl, hb.1, by simp⟩) (fun b hb => hb.1) (by rw [h2, k1]) (fun k ds u h4 h5 => ?_) (fun as R h => (hC as R h).2)
      obtain ⟨id, ver, h6, h7, h8⟩ := k2 k ds h4
      have h9 := (h3 k id ver u h6 h5).2 h7.symm
      subst h9
      obtain ⟨b, off, g1, g2, g3⟩ := h8
      refine ⟨b, off, g1, ⟨g2, by simp⟩, fun k c hk => ?_⟩
      obtain ⟨u, g4, g5⟩ := g3 k c hk
      exact ⟨u, g4, g5.mono (fun b hb => ⟨hb, by simp⟩) fun b hb => ⟨hb.1, by simp⟩⟩
    · exact hm'.elim
end
end Hearth

/- The abstract machine: calls of functions and of function values; function values made. -/
namespace Hearth
open Go
section
variable {P : Program} {N : Nat} {w0 : World} {own0 : Nat → Nat → Prop} {hdr0 : Nat → Value} {Fr : List ((Nat → Prop) × World)} {own : Nat → Nat → Prop} {hdr : Nat → Value} {s : St} {a : Act} {w : World}
def GoodC (P : Program) (N : Nat) (w0 : World) (own0 : Nat → Nat → Prop) (hdr0 : Nat → Value) (Fr : List ((Nat → Prop) × World)) (a : Act) (K : AV → St → Prop) (f : FuncId) (args : Array Value) (w : World) : Prop :=
  Enters P f ∧ Calls P f args w fun e w' => ∃ v x s', e = .returned v ∧ K x s' ∧ RelV P N w0 own0 hdr0 Fr s' a w' x v
theorem At.unique {v : AV} {g : GA} {k : Nat} {c c' : AC} {p p' : PA} (h : At v g k c p) (h' : At v g k c' p') : c = c' ∧ p = p' := by
  cases h with
  | one => cases h'; exact ⟨rfl, rfl⟩
  | agg _ _ _ _ _ _ x y => cases h' with | agg _ _ _ _ _ _ x' y' => rw [x] at x'; rw [y] at y'; simp at x' y'; exact ⟨x', y'⟩
theorem binds_q {t0 : Nat} {avs : List AV} {gas : List GA} (hm : matchGs P s avs gas) {e e' : Nat × Nat × Bool} (he : e ∈ bindGs t0 avs gas) (he' : e' ∈ bindGs t0 avs gas) (hq : e.1 = e'.1) :
    ∃ t k q c p, q = aid (t0 + t) k ∧ e ∈ bindC q c p ∧ e' ∈ bindC q c p := by
  obtain ⟨t, v, g, k, c, p, h1, h2, h3, h4⟩ := (mem_bindGs hm).1 he
  obtain ⟨t', v', g', k', c', p', h1', h2', h3', h4'⟩ := (mem_bindGs hm).1 he'
  have := aid_inj h3.lt h3'.lt ((mem_bindC h4).symm.trans (hq.trans (mem_bindC h4')))
  obtain ⟨ht, rfl⟩ := this
  obtain rfl : t = t' := by omega
  rw [h1] at h1'; rw [h2] at h2'
  simp at h1' h2'; subst h1'; subst h2'
  have : c = c' ∧ p = p' := At.unique h3 h3'
  obtain ⟨rfl, rfl⟩ := this
  exact ⟨t, k, _, c, p, rfl, h4, h4'⟩
theorem bindC_unique {q : Nat} {c : AC} {p : PA} {e e' : Nat × Nat × Bool} (h : e ∈ bindC q c p) (h' : e' ∈ bindC q c p) : e = e' := by
  unfold bindC at h h'
  split at h <;> simp_all
theorem call_sound {K : AV → St → Prop} {d f : Nat} {avs : List AV} {vs : Array Value} (r : RelX P N w0 own0 hdr0 Fr own hdr s a w) (hl : vs.size = avs.length)
    (hv : ∀ (t : Nat) (x : AV) (v : Value), avs[t]? = some x → vs[t]? = some v → RS P w own hdr s.ob x v) (h : callA P s d f avs K) : GoodC P N w0 own0 hdr0 Fr a K f vs w := by
  obtain ⟨gas, R, hok, hm, hnd, hhold, hmode, hg60, hra, hrange, hK⟩ := h
  refine ⟨hok.1, ?_⟩
  obtain ⟨hlen, hget⟩ := matchGs_get hm
  generalize hbs : bindGs 0 avs gas = bs at *
  have hmem : ∀ e, e ∈ bs ↔ ∃ t v g k c p, avs[t]? = some v ∧ gas[t]? = some g ∧ At v g k c p ∧ e ∈ bindC (aid t k) c p := by
    intro e
    rw [← hbs, mem_bindGs hm]
    simp only [Nat.zero_add]
  have hinfo : ∀ q id g, (q, id, g) ∈ bs → (∃ dp x dp', gaAt gas q = some (.arr g dp x) ∧ (s.ob id).k = .arr dp' x ∧ (dp' = dp ∨ g = true ∧ dp' = true)) ∨ (g = false ∧ ∃ ds cs, gaAt gas q = some (.box ds) ∧ (s.ob id).k = .box cs ∧ cs.length = ds.length) := by
    intro q id g he
    obtain ⟨t, v, ga, k, c, p, h1, h2, h3, h4⟩ := (hmem _).1 he
    have hq := mem_bindC h4
    simp only at hq
    have hga := h3.gaAt h2
    rw [← hq] at hga
    have hmc := h3.match (hget t v ga h1 h2)
    unfold bindC at h4
    split at h4
    · simp at h4
      obtain ⟨_, rfl, rfl⟩ := h4
      obtain ⟨dp', hk, hdp⟩ := hmc
      exact .inl ⟨_, _, dp', hga, (St.obj_ok hk (by simp)).2, hdp⟩
    · simp at h4
      obtain ⟨_, rfl, rfl⟩ := h4
      obtain ⟨_, cs, hk, hds⟩ := hmc
      exact .inr ⟨rfl, _, cs, hga, (St.obj_ok hk (by simp)).2, (rds_get hds).1⟩
    · simp at h4
  have hext : ∀ e ∈ bs, (s.ob e.2.1).k ≠ .ext := by
    rintro ⟨q, id, g⟩ he
    rcases hinfo q id g he with ⟨_, _, _, _, h, _⟩ | ⟨_, _, _, _, h, _⟩ <;> simp only <;> rw [h] <;> simp
  have hlooks : ∀ (t : Nat) (v : AV) (g : GA) (k : Nat) (c : AC) (p : PA), avs[t]? = some v → gas[t]? = some g → At v g k c p → looksC c p = true → looksGs avs gas = true := looksGs_get hm
  -- what may be read
  obtain ⟨S, hSlt, hSmode, hSF⟩ : ∃ S : Nat → Prop, (∀ b, S b → b < w.heap.size) ∧
      ((stabGs s avs gas = true ∧ (looksGs avs gas = true → bs = []) ∧ ∀ b, S b ↔ Free w own b) ∨ ((∀ ra os, R ra os → ra.all RA.clean = true) ∧ bs = [] ∧ ∀ b, S b ↔ All w b)) ∧ (∀ q id g b, (q, id, g) ∈ bs → own id b → ¬ S b) := by
    rcases hmode with ⟨h1, h2⟩ | ⟨h1, h2⟩
    · exact ⟨Free w own, fun b hb => hb.1, .inl ⟨h1, h2, fun b => Iff.rfl⟩, fun q id g b _ ho hs => hs.2 id ho⟩
    · exact ⟨All w, fun b hb => hb, .inr ⟨h1, h2, fun b => Iff.rfl⟩, fun q id g b he => by rw [h2] at he; cases he⟩
  have key := hok.2 w S (fun q b => ∃ id g, (q, id, g) ∈ bs ∧ own id b) vs (by rw [hl, hlen]) (fun t g v h1 h2 => by
    have hlt : t < avs.length := by rw [hlen]; exact (List.getElem?_eq_some_iff.1 h1).1
    have hx := List.getElem?_eq_getElem hlt
    have hrs := hv t _ v hx h2
    have hmg := hget t _ g hx h1
    have cell : ∀ k c p u, At (avs[t]) g k c p → RC P w own hdr s.ob c u → PAr P w S (fun b => b < w.heap.size ∧ ∀ q, ¬ ∃ id g, (q, id, g) ∈ bs ∧ own id b) p u (fun b => ∃ id g, (aid t k, id, g) ∈ bs ∧ own id b) := by
      intro k c p u hat hc
      have := arg_sound (q := aid t k) (S := S) (bs := bs) r hc (hat.match hmg) hext (by
        rcases hSmode with ⟨g1, g2, g3⟩ | ⟨g1, g2, g3⟩
        · exact .inl ⟨stabGs_get hm g1 t _ g k c p hx h1 hat, g3, fun hlk => g2 (hlooks t _ g k c p hx h1 hat hlk)⟩
        · exact .inr ⟨g3, g2⟩)
      have hF : (fun b => ∃ id g, (aid t k, id, g) ∈ bindC (aid t k) c p ∧ own id b) = (fun b => ∃ id g, (aid t k, id, g) ∈ bs ∧ own id b) := by
        funext b
        apply propext
        constructor
        · rintro ⟨id, g', h3, h4⟩
          exact ⟨id, g', (hmem _).2 ⟨t, _, g, k, c, p, hx, h1, hat, h3⟩, h4⟩
        · rintro ⟨id, g', h3, h4⟩
          obtain ⟨t', v', g'', k', c', p', e1, e2, e3, e4⟩ := (hmem _).1 h3
          have := aid_inj hat.lt e3.lt (mem_bindC e4)
          obtain ⟨rfl, rfl⟩ := this
          rw [hx] at e1; rw [h1] at e2
          simp at e1 e2; subst e1; subst e2
          have : c = c' ∧ p = p' := hat.unique e3
          obtain ⟨rfl, rfl⟩ := this
          exact ⟨id, g', e4, h4⟩
      rw [← hF]
      exact this
    generalize hz : avs[t] = z at *
    cases z with
    | c c =>
      cases g with
      | one p => exact cell 0 c p v (.one c p) hrs
      | agg ps => exact hmg.elim
    | g cs =>
      cases g with
      | one p => exact hmg.elim
      | agg ps =>
        obtain ⟨us, e1, e2, e3⟩ := hrs
        obtain ⟨l1, l2⟩ := matchL_get hmg.1
        refine ⟨us, e1, by rw [e2, l1], hmg.2, fun k p u h3 h4 => ?_⟩
        have hk : k < cs.length := by rw [l1]; exact (List.getElem?_eq_some_iff.1 h3).1
        have hck := List.getElem?_eq_getElem hk
        exact cell k _ p u (.agg cs ps k _ p hmg.2 hck h3) (e3 k _ u hck h4)
    | t xs => cases g <;> exact hmg.elim)
    (by
      rintro q q' b ⟨id, g, h1, h2⟩ ⟨id', g', h3, h4⟩
      have := r.dis id id' b h2 h4
      subst this
      have := nodup_snd hnd h1 h3 rfl
      simp at this
      exact this.1)
    (fun q b ⟨id, g, h1, h2⟩ => ⟨r.lt id b h2, hSF q id g b h1 h2⟩) hSlt
    (fun q b ⟨id, g, h1, h2⟩ => by
      rcases hinfo q id g h1 with ⟨dp, x, _, h3, _⟩ | ⟨_, cs, _, h3, _⟩
      · exact ⟨g, dp, x, .inl h3⟩
      · exact ⟨g, true, .sl 0 [], .inr ⟨cs, h3⟩⟩)
  refine key.mono ?_
  rintro e w' ⟨v, ra, os, G, rfl, hR, hx, hf, ⟨rs, rfl, hrs1, hrs2⟩, hout⟩
  have hgv : ∀ b, GivenTo gas (fun q b => ∃ id g, (q, id, g) ∈ bs ∧ own id b) b → ∃ q id, (q, id, true) ∈ bs ∧ own id b := by
    rintro b ⟨q, dp, x, h1, id, g, h2, h3⟩
    rcases hinfo q id g h2 with ⟨dp', x', _, h4, _⟩ | ⟨_, cs, _, h4, _⟩
    · rw [h1] at h4; simp at h4
      obtain rfl : g = true := h4.1
      exact ⟨q, id, h2, h3⟩
    · rw [h1] at h4; simp at h4
  have hfin := r.called (d := d) (bs := bs) (ra := ra) (os := os) (w' := w') (vs := rs) (S := fun b => b < w'.heap.size ∧ (S b ∨ w.heap.size ≤ b ∨ GivenTo gas (fun q b => ∃ id g, (q, id, g) ∈ bs ∧ own id b) b) ∧ ∀ i, ¬ G i b) (G := G) hnd hhold hrange
    (fun q id g h1 => by
      rcases hinfo q id g h1 with ⟨_, x, dp', _, h3, _⟩ | ⟨rfl, _, cs, _, h3, _⟩
      · exact .inl ⟨dp', x, h3⟩
      · exact .inr ⟨rfl, cs, h3⟩)
    ⟨hx.os, hx.tape, hx.output, hx.size, fun b hb hn => hx.same b hb fun ⟨q, id, g, h1, h2⟩ => hn ⟨q, id, g, h1, h2⟩, hx.drawn⟩
    ⟨hf.dis, hf.lt, fun i b hb => (hf.new i b hb).imp id (hgv b)⟩
    (by
      rcases hSmode with ⟨_, _, g3⟩ | ⟨g1, g2, g3⟩
      · left
        intro b hb
        refine ⟨hb.1, ?_, hb.2.2⟩
        rcases hb.2.1 with h | h | h
        · exact .inl ((g3 b).1 h)
        · exact .inr (.inl h)
        · exact .inr (.inr (hgv b h))
      · exact .inr ⟨g1 ra os hR, g2⟩)
    (hra ra os hR) hrs1 hrs2
    (fun q id h1 => by
      obtain ⟨t, v, g, k, c, p, e1, e2, e3, e4⟩ := (hmem _).1 h1
      have hq := mem_bindC e4
      simp only at hq
      subst hq
      have hga := e3.gaAt e2
      have hlt : t < vs.size := by rw [hl]; exact (List.getElem?_eq_some_iff.1 e1).1
      have hvt := Array.getElem?_eq_getElem hlt
      have hrs := hv t v _ e1 hvt
      -- the cell's value
      obtain ⟨u, hu1, hu2, hu3⟩ : ∃ u, RC P w own hdr s.ob c u ∧ (match (generalizing := false) g with | .one _ => u = vs[t] | .agg _ => ∃ us : Array Value, vs[t] = .agg us ∧ us[k]? = some u) ∧ g.at k = some p := by
        cases e3 with
        | one => exact ⟨_, hrs, rfl, rfl⟩
        | agg cs ps k c p h3 h4 h5 =>
          obtain ⟨us, f1, f2, f3⟩ := hrs
          have hk : k < us.size := by rw [f2]; exact (List.getElem?_eq_some_iff.1 h4).1
          refine ⟨us[k], f3 k c _ h4 (Array.getElem?_eq_getElem hk), ⟨us, f1, Array.getElem?_eq_getElem hk⟩, ?_⟩
          have : k < 64 := Nat.lt_of_lt_of_le (List.getElem?_eq_some_iff.1 h5).1 h3
          simp [GA.at, this, h5]
      have hfin := hout t k g vs[t] p u e2 hvt hu3 hu2
      have hown : ∀ b, (∃ id' g, (aid t k, id', g) ∈ bs ∧ own id' b) ↔ own id b := by
        intro b
        constructor
        · rintro ⟨id', g', h2, h3⟩
          rw [← hbs] at h1 h2
          obtain ⟨_, _, _, _, _, _, m1, m2⟩ := binds_q hm h1 h2 rfl
          have := bindC_unique m1 m2
          simp at this
          rw [this.1]; exact h3
        · intro h2; exact ⟨id, false, h1, h2⟩
      have hmc := e3.match (hget t v g e1 e2)
      unfold bindC at e4
      split at e4
      · simp at e4
        obtain ⟨rfl, rfl⟩ := e4
        obtain ⟨dp', hk, hdp⟩ := hmc
        obtain ⟨o1, o2⟩ := St.obj_ok hk (by simp)
        replace hdp := hdp.resolve_right fun h => by simp at h
        simp only [o2]
        simp only at hfin
        obtain ⟨f1, f2, f3⟩ := hfin
        refine ⟨f1, f2, ?_⟩
        rw [f2, hdp, ← hu1.2 o1.symm]
        exact f3.mono (fun h => h) (fun b hb => ⟨rfl, hb⟩) fun b hb => ⟨rfl, (hown b).1 hb⟩
      · simp at e4
        obtain ⟨rfl⟩ := e4
        obtain ⟨hoff, cs, hk, hds⟩ := hmc
        obtain ⟨o1, o2⟩ := St.obj_ok hk (by simp)
        simp only [o2]
        simp only at hfin
        obtain ⟨⟨b, us, tt, f1, f2, f3, f4, f5⟩, _⟩ := hfin
        obtain ⟨b', f6, f7⟩ := hu1.2 o1.symm
        refine ⟨b, us, tt, ?_, fun x => ?_, f3, f4, f5⟩
        · rw [f6]; rw [f7] at f1; simp at f1; rw [f1.1]
        · rw [← hown x]; exact f2 x
      · simp at e4)
  exact ⟨_, _, _, rfl, hK ra os hR, hfin⟩
theorem callv_sound {K : AV → St → Prop} {d : Nat} {avs : List AV} {vs : Array Value} {p : Bool} {C : FC} {v : Value} {as : List DA} {R : List RA → Prop} (r : RelX P N w0 own0 hdr0 Fr own hdr s a w) (hl : vs.size = avs.length)
    (hv : ∀ (t : Nat) (x : AV) (v : Value), avs[t]? = some x → vs[t]? = some v → RS P w own hdr s.ob x v) (hf : RC P w own hdr s.ob (.fv p C) v) (hC : C as R)
    (hm : matchGs P s avs (as.map DA.ga)) (hmode : (p = true ∧ stabGs s avs (as.map DA.ga) = true) ∨ ∀ ra, R ra → ra.all RA.clean = true) (hra : ∀ ra, R ra → ra.length ≤ 64)
    (hrange : ∀ q, rid d 0 ≤ q → q < rid d 4096 → q ∉ s.hold) (hK : ∀ ra, R ra → K (resV s d ra) (s.after d ra [] ⟨fun _ => .sl 0 [], fun _ => []⟩)) :
    ∃ f first caps, v = .func (.func f) first caps ∧ GoodC P N w0 own0 hdr0 Fr a K f (first ++ vs ++ caps) w := by
  obtain ⟨f, first, caps, rfl, he, hc⟩ := hf
  refine ⟨f, first, caps, rfl, he, ?_⟩
  obtain ⟨hlen, hget⟩ := matchGs_get hm
  obtain ⟨S, hSlt, hSmode⟩ : ∃ S : Nat → Prop, (∀ b, S b → b < w.heap.size) ∧ ((p = true ∧ stabGs s avs (as.map DA.ga) = true ∧ ∀ b, S b ↔ Free w own b) ∨ ((∀ ra, R ra → ra.all RA.clean = true) ∧ ∀ b, S b ↔ All w b)) := by
    rcases hmode with ⟨h1, h2⟩ | h1
    · exact ⟨Free w own, fun b hb => hb.1, .inl ⟨h1, h2, fun b => Iff.rfl⟩⟩
    · exact ⟨All w, fun b hb => hb, .inr ⟨h1, fun b => Iff.rfl⟩⟩
  have hvs : DAs w S as vs := by
    refine ⟨by rw [hl, hlen, List.length_map], fun t x v h1 h2 => ?_⟩
    have hlt : t < avs.length := by rw [hlen, List.length_map]; exact (List.getElem?_eq_some_iff.1 h1).1
    have hx := List.getElem?_eq_getElem hlt
    have hg : (as.map DA.ga)[t]? = some x.ga := by simp [h1]
    have hrs := hv t _ v hx h2
    have hmg := hget t _ _ hx hg
    have cell : ∀ k c y u, At (avs[t]) x.ga k c (.d y) → RC P w own hdr s.ob c u → Pers w S y u := by
      intro k c y u hat hc
      exact arg_sound (q := aid t k) (S := S) (bs := []) r hc (hat.match hmg) (by simp) (by
        rcases hSmode with ⟨_, g1, g3⟩ | ⟨_, g3⟩
        · exact .inl ⟨stabGs_get hm g1 t _ _ k c _ hx hg hat, g3, fun _ => rfl⟩
        · exact .inr ⟨g3, rfl⟩)
    generalize avs[t] = z at *
    cases z with
    | c c =>
      cases x with
      | one y => exact cell 0 c y v (.one c _) hrs
      | agg ys => exact hmg.elim
    | g cs =>
      cases x with
      | one y => exact hmg.elim
      | agg ys =>
        obtain ⟨us, e1, e2, e3⟩ := hrs
        obtain ⟨l1, l2⟩ := matchL_get hmg.1
        rw [List.length_map] at l1
        refine ⟨us, e1, ⟨by rw [e2, l1], by simpa using hmg.2⟩, fun k y u h3 h4 => ?_⟩
        have hk : k < cs.length := by rw [l1]; exact (List.getElem?_eq_some_iff.1 h3).1
        have hck := List.getElem?_eq_getElem hk
        exact cell k _ y u (.agg cs _ k _ _ hmg.2 hck (by simp [h3])) (e3 k _ u hck h4)
    | t xs => cases x <;> exact hmg.elim
  refine (hc as R hC w S vs (fun _ _ => rfl) (Nat.le_refl _) hSlt hvs).mono ?_
  rintro e w' ⟨v, ra, G, rfl, hR, hx, hf, ⟨rs, rfl, hrs1, hrs2⟩⟩
  have hfin := r.called (d := d) (bs := []) (ra := ra) (os := ⟨fun _ => .sl 0 [], fun _ => []⟩) (w' := w') (vs := rs) (G := G) (by simp) (by simp) hrange (by simp)
    ⟨hx.os, hx.tape, hx.output, hx.size, fun b hb hn => hx.same b hb fun h => h, hx.drawn⟩ ⟨hf.dis, hf.lt, fun i b hb => (hf.new i b hb).imp id fun h => h.elim⟩
    (by
      rcases hSmode with ⟨hp, _, g3⟩ | ⟨g1, g3⟩
      · left
        intro b hb
        refine ⟨hb.1, ?_, hb.2.2⟩
        rw [hp] at hb
        rcases hb.2.1 with h | h | h
        · exact .inl ((g3 b).1 h)
        · exact (show False from h).elim
        · exact .inr (.inl h)
      · exact .inr ⟨g1 ra hR, rfl⟩)
    (hra ra hR) hrs1 hrs2 (by simp)
  exact ⟨_, _, _, rfl, hK ra hR, hfin⟩
theorem snd_clo {F : Nat → Prop} {K : AV → St → Prop} {o : Oper} {f : Nat} {first caps : Array Operand} {first' caps' : List X} {ts us : List TypeId} (r : RelX P N w0 own0 hdr0 Fr own hdr s a w) (ho : o.op = .makeFunc (.func f) first caps)
    (hf : digXs P ts first.toList = some first') (hc : digXs P us caps.toList = some caps') (h : stepO P s (.clo f first' caps') K) : GoodQ P N w0 own0 hdr0 Fr F a w K (execOp a.eval o) := by
  obtain ⟨fs, vs, h1, h2, h3⟩ := h
  obtain ⟨f1, f2⟩ := digXs_sound r hf
  obtain ⟨c1, c2⟩ := digXs_sound r hc
  have hfs : fs.length = first'.length ∧ ∀ (k : Nat) (x : DA) (y : X), fs[k]? = some x → first'[k]? = some y → ∀ v, RS P w own hdr s.ob (s.ev y) v → DAr w (Free w own) x v := by
    clear f1 f2 hf h3
    induction first' generalizing fs with
    | nil => simp at h1; subst h1; simp
    | cons y ys ih =>
      simp only [List.map_cons, List.mapM_cons, Option.bind_eq_bind, Option.bind_eq_some_iff, Option.pure_def, Option.some.injEq] at h1
      obtain ⟨x, h4, xs, h5, rfl⟩ := h1
      obtain ⟨i1, i2⟩ := ih xs h5
      refine ⟨by simp [i1], fun k x' y' h6 h7 v hv => ?_⟩
      cases k with
      | zero =>
        simp at h6 h7; subst h6; subst h7
        unfold daOf at h4
        split at h4
        · rename_i z hz
          simp at h4; subst h4
          rw [hz] at hv; exact hv
        · rename_i zs hz
          split at h4
          · rename_i h64
            simp only [Option.map_eq_some_iff] at h4
            obtain ⟨ds, h4, rfl⟩ := h4
            rw [hz] at hv
            obtain ⟨us, e1, e2, e3⟩ := hv
            have hds : ds.length = zs.length ∧ ∀ (k : Nat) (d : DV), ds[k]? = some d → zs[k]? = some (.d d) := by
              clear h64 e2 e3 hz
              induction zs generalizing ds with
              | nil => simp at h4; subst h4; simp
              | cons z zs ih =>
                simp only [List.mapM_cons, Option.bind_eq_bind, Option.bind_eq_some_iff, Option.pure_def, Option.some.injEq] at h4
                obtain ⟨d, h8, ds', h9, rfl⟩ := h4
                obtain ⟨j1, j2⟩ := ih ds' h9
                refine ⟨by simp [j1], fun k d' hk => ?_⟩
                cases k with
                | zero =>
                  simp at hk; subst hk
                  unfold dOf at h8
                  split at h8
                  · simp at h8; subst h8; rfl
                  · simp at h8
                | succ k => simp at hk; simpa using j2 k d' hk
            exact ⟨us, e1, ⟨by rw [e2, hds.1], by rw [hds.1]; exact h64⟩, fun k d u h8 h9 => e3 k _ u (hds.2 k d h8) h9⟩
          · simp at h4
        · simp at h4
      | succ k => simp at h6 h7; exact i2 k x' y' h6 h7 v hv
  have hvs : vs.length = caps'.length ∧ ∀ (k id ver : Nat) (y : X), vs[k]? = some (id, ver) → caps'[k]? = some y → s.ev y = .c (.ptr id ver 0) := by
    clear c1 c2 hc h3
    induction caps' generalizing vs with
    | nil => simp at h2; subst h2; simp
    | cons y ys ih =>
      simp only [List.map_cons, List.mapM_cons, Option.bind_eq_bind, Option.bind_eq_some_iff, Option.pure_def, Option.some.injEq] at h2
      obtain ⟨x, h4, xs, h5, rfl⟩ := h2
      obtain ⟨i1, i2⟩ := ih xs h5
      refine ⟨by simp [i1], fun k id ver y' h6 h7 => ?_⟩
      cases k with
      | zero =>
        simp at h6 h7; subst h6; subst h7
        unfold capOf at h4
        split at h4
        · rename_i hz
          simp at h4
          obtain ⟨rfl, rfl⟩ := h4
          exact hz
        · simp at h4
      | succ k => simp at h6 h7; exact i2 k id ver y' h6 h7
  refine GoodQ.val (v := .func (.func f) (first.map a.eval) (caps.map a.eval)) (x := .c (.fn f fs vs)) r (fun w' => by simp [execOp, ho, Instr.makeFunc]) ?_ h3
  refine ⟨_, _, rfl, ⟨by simp [hfs.1, f1], fun t x v h4 h5 => ?_⟩, by simp [hvs.1, c1], fun k id ver u h4 h5 => ?_⟩
  · have hlt : t < first'.length := by rw [← hfs.1]; exact (List.getElem?_eq_some_iff.1 h4).1
    have hy := List.getElem?_eq_getElem hlt
    simp only [Array.getElem?_map, Option.map_eq_some_iff] at h5
    obtain ⟨z, h6, rfl⟩ := h5
    exact hfs.2 t x _ h4 hy _ (f2 t z _ (by simpa using h6) hy)
  · have hlt : k < caps'.length := by rw [← hvs.1]; exact (List.getElem?_eq_some_iff.1 h4).1
    have hy := List.getElem?_eq_getElem hlt
    simp only [Array.getElem?_map, Option.map_eq_some_iff] at h5
    obtain ⟨z, h6, rfl⟩ := h5
    have h7 := c2 k z _ (by simpa using h6) hy
    rw [hvs.2 k id ver _ h4 hy] at h7
    replace h7 : RC P w own hdr s.ob (.ptr id ver 0) (a.eval z) := h7
    refine ⟨h7.1, fun e => ?_⟩
    obtain ⟨b, h8, h9⟩ := h7.2 e
    rw [h8, h9]
end
end Hearth

/- The abstract machine: calls that are handed nested rows of an object. -/
namespace Hearth
open Go
section
variable {P : Program} {N : Nat} {w0 : World} {own0 : Nat → Nat → Prop} {hdr0 : Nat → Value} {Fr : List ((Nat → Prop) × World)} {own : Nat → Nat → Prop} {hdr : Nat → Value} {s : St} {a : Act} {w : World}
variable {id ver ev i : Nat} {x : DV}
theorem mem_subL {t : Nat} {e : Nat × Nat} : ∀ {k0 : Nat} {cs : List AC} {ps : List PA}, e ∈ subL t k0 cs ps ↔ ∃ j c p, cs[j]? = some c ∧ ps[j]? = some p ∧ e ∈ subC (aid t (k0 + j)) c p
  | k0, [], ps => by simp [subL]
  | k0, c :: cs, [] => by simp [subL]
  | k0, c :: cs, p :: ps => by
    simp only [subL, List.mem_append, mem_subL (k0 := k0 + 1)]
    constructor
    · rintro (h | ⟨j, c', p', h1, h2, h3⟩)
      · exact ⟨0, c, p, rfl, rfl, h⟩
      · exact ⟨j + 1, c', p', by simpa using h1, by simpa using h2, by rw [show k0 + (j + 1) = k0 + 1 + j by omega]; exact h3⟩
    · rintro ⟨j, c', p', h1, h2, h3⟩
      cases j with
      | zero => simp at h1 h2; subst h1; subst h2; exact .inl h3
      | succ j => exact .inr ⟨j, c', p', by simpa using h1, by simpa using h2, by rw [show k0 + 1 + j = k0 + (j + 1) by omega]; exact h3⟩
theorem mem_subG {t : Nat} {e : Nat × Nat} {v : AV} {g : GA} (hm : matchSG id ver ev i x v g) : e ∈ subG t v g ↔ ∃ k c p, At v g k c p ∧ e ∈ subC (aid t k) c p := by
  cases v with
  | c c =>
    cases g with
    | one p =>
      simp only [subG]
      constructor
      · intro h; exact ⟨0, c, p, .one c p, h⟩
      · rintro ⟨k, c', p', h, h'⟩; cases h; exact h'
    | agg ps => exact hm.elim
  | g cs =>
    cases g with
    | one p => exact hm.elim
    | agg ps =>
      simp only [subG, mem_subL, Nat.zero_add]
      constructor
      · rintro ⟨j, x, p, h1, h2, h3⟩; exact ⟨j, x, p, .agg cs ps j x p hm.2 h1 h2, h3⟩
      · rintro ⟨k, c', p', h, h'⟩; cases h with | agg _ _ _ _ _ h h1 h2 => exact ⟨k, c', p', h1, h2, h'⟩
  | t xs => cases g <;> exact hm.elim
theorem matchSGs_get : ∀ {avs : List AV} {gas : List GA}, matchSGs id ver ev i x avs gas → avs.length = gas.length ∧ ∀ (t : Nat) (v : AV) (g : GA), avs[t]? = some v → gas[t]? = some g → matchSG id ver ev i x v g
  | [], [], _ => by simp
  | v :: vs, g :: gs, h => by
    obtain ⟨h1, h2⟩ := matchSGs_get h.2
    refine ⟨by simp [h1], fun t v' g' h3 h4 => ?_⟩
    cases t with
    | zero => simp at h3 h4; subst h3; subst h4; exact h.1
    | succ t => simp at h3 h4; exact h2 t v' g' h3 h4
  | [], _ :: _, h => h.elim
  | _ :: _, [], h => h.elim
theorem matchSL_get : ∀ {avs : List AC} {gas : List PA}, matchSL id ver ev i x avs gas → avs.length = gas.length ∧ ∀ (t : Nat) (v : AC) (g : PA), avs[t]? = some v → gas[t]? = some g → matchSC id ver ev i x v g
  | [], [], _ => by simp
  | v :: vs, g :: gs, h => by
    obtain ⟨h1, h2⟩ := matchSL_get h.2
    refine ⟨by simp [h1], fun t v' g' h3 h4 => ?_⟩
    cases t with
    | zero => simp at h3 h4; subst h3; subst h4; exact h.1
    | succ t => simp at h3 h4; exact h2 t v' g' h3 h4
  | [], _ :: _, h => h.elim
  | _ :: _, [], h => h.elim
theorem At.matchS {v : AV} {g : GA} {k : Nat} {c : AC} {p : PA} (h : At v g k c p) (hm : matchSG id ver ev i x v g) : matchSC id ver ev i x c p := by
  cases h with
  | one => exact hm
  | agg cs ps k c p h h1 h2 => exact (matchSL_get hm.1).2 k c p h1 h2
theorem mem_subGs {e : Nat × Nat} : ∀ {t0 : Nat} {avs : List AV} {gas : List GA}, matchSGs id ver ev i x avs gas → (e ∈ subGs t0 avs gas ↔ ∃ t v g k c p, avs[t]? = some v ∧ gas[t]? = some g ∧ At v g k c p ∧ e ∈ subC (aid (t0 + t) k) c p)
  | t0, [], gas, _ => by simp [subGs]
  | t0, v :: vs, [], h => by exact h.elim
  | t0, v :: vs, g :: gs, h => by
    simp only [subGs, List.mem_append, mem_subG h.1, mem_subGs (t0 := t0 + 1) h.2]
    constructor
    · rintro (⟨k, c, p, h1, h2⟩ | ⟨t, v', g', k, c, p, h1, h2, h3, h4⟩)
      · exact ⟨0, v, g, k, c, p, rfl, rfl, h1, h2⟩
      · exact ⟨t + 1, v', g', k, c, p, by simpa using h1, by simpa using h2, h3, by rw [show t0 + (t + 1) = t0 + 1 + t by omega]; exact h4⟩
    · rintro ⟨t, v', g', k, c, p, h1, h2, h3, h4⟩
      cases t with
      | zero => simp at h1 h2; subst h1; subst h2; exact .inl ⟨k, c, p, h3, h4⟩
      | succ t => exact .inr ⟨t, v', g', k, c, p, by simpa using h1, by simpa using h2, h3, by rw [show t0 + 1 + t = t0 + (t + 1) by omega]; exact h4⟩
theorem mem_subC {q : Nat} {c : AC} {p : PA} {e : Nat × Nat} (h : e ∈ subC q c p) : e.1 = q ∧ ∃ id ver ev i g dp y, c = .sub id ver ev i e.2 ∧ p = .arr g dp y := by
  unfold subC at h
  split at h
  · simp at h; subst h; exact ⟨rfl, _, _, _, _, _, _, _, rfl, rfl⟩
  · simp at h
theorem backS_spec {os : Outs} : ∀ {l : List (Nat × Nat)} {x : DV}, x.isSl = true → (l.map (·.2)).Nodup →
    (backS i os l x).isSl = true ∧ (backS i os l x).esz = x.esz ∧ (backS i os l x).rows.length = x.rows.length ∧
    ∀ (i' : Nat) (cs' : List DV), (backS i os l x).rows[i']? = some cs' → ∃ cs, x.rows[i']? = some cs ∧ cs'.length = cs.length ∧
      ∀ (j' : Nat) (d' : DV), cs'[j']? = some d' → ∃ d, cs[j']? = some d ∧ ((∃ q, (q, j') ∈ l ∧ i' = i ∧ d' = os.a q) ∨ (d' = d ∧ (i' = i → ∀ q, (q, j') ∉ l)))
  | [], x, hx, _ => ⟨hx, rfl, rfl, fun i' cs' h => ⟨cs', h, rfl, fun j' d' hd => ⟨d', hd, .inr ⟨rfl, by simp⟩⟩⟩⟩
  | (q, j) :: l, x, hx, hn => by
    simp only [List.map_cons, List.nodup_cons] at hn
    obtain ⟨h1, h2, h3, h4⟩ := backS_spec (os := os) (l := l) (x := x.setCell i j (os.a q)) rfl hn.2
    refine ⟨h1, h2, by rw [backS, h3]; simp [DV.setCell, DV.rows], fun i' cs' h => ?_⟩
    obtain ⟨cs, e1, e2, e3⟩ := h4 i' cs' h
    rw [show (x.setCell i j (os.a q)).rows = x.rows.set i ((x.rows.getD i []).set j (os.a q)) from rfl, List.getElem?_set] at e1
    by_cases hi : i = i'
    · subst hi
      rw [if_pos rfl] at e1
      split at e1
      · rename_i hlt
        rw [Option.some.injEq] at e1
        have hrow : x.rows[i]? = some x.rows[i] := List.getElem?_eq_getElem hlt
        rw [getD_at hrow] at e1
        refine ⟨_, hrow, by rw [e2, ← e1]; simp, fun j' d' hd => ?_⟩
        obtain ⟨d, g1, g2⟩ := e3 j' d' hd
        rw [← e1, List.getElem?_set] at g1
        by_cases hj : j = j'
        · subst hj
          rw [if_pos rfl] at g1
          split at g1
          · rename_i hjl
            simp at g1; subst g1
            refine ⟨_, List.getElem?_eq_getElem hjl, .inl ⟨q, List.mem_cons_self .., rfl, ?_⟩⟩
            rcases g2 with ⟨q', g3, _, _⟩ | ⟨g3, _⟩
            · exact absurd (List.mem_map.2 ⟨(q', j), g3, rfl⟩) hn.1
            · exact g3
          · simp at g1
        · rw [if_neg hj] at g1
          refine ⟨d, g1, ?_⟩
          rcases g2 with ⟨q', g3, g4, g5⟩ | ⟨g3, g4⟩
          · exact .inl ⟨q', List.mem_cons_of_mem _ g3, g4, g5⟩
          · refine .inr ⟨g3, fun hi q' hm => ?_⟩
            rcases List.mem_cons.1 hm with h | h
            · simp at h; exact hj h.2.symm
            · exact g4 hi q' h
      · cases e1
    · rw [if_neg hi] at e1
      refine ⟨cs, e1, e2, fun j' d' hd => ?_⟩
      obtain ⟨d, g1, g2⟩ := e3 j' d' hd
      refine ⟨d, g1, ?_⟩
      rcases g2 with ⟨q', g3, g4, g5⟩ | ⟨g3, g4⟩
      · exact absurd g4.symm hi
      · exact .inr ⟨g3, fun h => absurd h.symm hi⟩
theorem Own.top {S : Nat → Prop} {z : DV} {v : Value} {F : Nat → Prop} (h : Own w S true z v F) (hz : z.isSl = true) : Top w S true z.esz z.rows v F := by
  cases h with
  | sc => simp [DV.isSl] at hz
  | pers _ _ _ hd => cases hd
  | nil => exact .inl ⟨rfl, rfl⟩
  | sl sz xs b cap cur e us Fs F h1 h2 h3 h4 h5 h6 h7 h8 h9 h10 => exact .inr ⟨b, cap, cur, e, us, Fs, rfl, h1, h2, h3, h4, h5, h6, h7, h8, h9, h10⟩
theorem callS_sound {K : AV → St → Prop} {f : Nat} {avs : List AV} {vs : Array Value} (r : RelX P N w0 own0 hdr0 Fr own hdr s a w) (hl : vs.size = avs.length)
    (hv : ∀ (t : Nat) (x : AV) (v : Value), avs[t]? = some x → vs[t]? = some v → RS P w own hdr s.ob x v) (h : callS P s f avs K) : GoodC P N w0 own0 hdr0 Fr a K f vs w := by
  obtain ⟨gas, R, id, ver, ev, i, x, hok, hob, hid, hix, hm, hnd, hK⟩ := h
  refine ⟨hok.1, ?_⟩
  obtain ⟨hlen, hget⟩ := matchSGs_get hm
  generalize hbs : subGs 0 avs gas = bs at *
  have hmem : ∀ e, e ∈ bs ↔ ∃ t v g k c p, avs[t]? = some v ∧ gas[t]? = some g ∧ At v g k c p ∧ e ∈ subC (aid t k) c p := by
    intro e
    rw [← hbs, mem_subGs hm]
    simp only [Nat.zero_add]
  have hk : (s.ob id).k = .arr true x := by rw [hob]
  have hver : (s.ob id).ver = ver := by rw [hob]
  have hev : (s.ob id).ev = ev := by rw [hob]
  obtain ⟨hsl, ht⟩ := r.arrAt hk
  have hne := r.ne_al (id := id) (by rw [hk]; simp)
  -- each handed cell
  have hinfo : ∀ q j, (q, j) ∈ bs → ∃ t k v g, avs[t]? = some v ∧ gas[t]? = some g ∧ q = aid t k ∧ At v g k (.sub id ver ev i j) (.arr false true (x.at i j)) ∧ (x.at i j).isSl = true := by
    intro q j he
    obtain ⟨t, v, g, k, c, p, h1, h2, h3, h4⟩ := (hmem _).1 he
    obtain ⟨e1, id', ver', ev', i', g', dp', y, rfl, rfl⟩ := mem_subC h4
    obtain ⟨rfl, rfl, rfl, rfl, rfl, rfl, rfl, hy⟩ := h3.matchS (hget t v g h1 h2)
    exact ⟨t, k, v, g, h1, h2, e1, h3, hy⟩
  rcases ht with ⟨h0, hn0⟩ | ⟨b, cap, cur, e0, us, Fs, g1, g2, g3, g4, g5, g6, g7, g8, g9, g10, g11⟩
  · rw [h0] at hix; simp at hix
  have hsubval : ∀ j u, RC P w own hdr s.ob (.sub id ver ev i j) u → ∃ cs d, x.rows[i]? = some cs ∧ cs[j]? = some d ∧ d = x.at i j ∧ u = us i j := by
    intro j u hu
    have := hu.2 hver.symm hev.symm
    rw [hk] at this
    obtain ⟨b', n', cap', e1, e2, e3, e4⟩ := this
    rw [g1] at e1; simp at e1
    obtain ⟨rfl, rfl, rfl⟩ := e1
    have hcs : x.rows[i]? = some x.rows[i] := List.getElem?_eq_getElem e2
    have hd : (x.rows[i])[j]? = some ((x.rows[i])[j]'(by rw [g7 i _ hcs]; exact e3)) := List.getElem?_eq_getElem _
    refine ⟨_, _, hcs, hd, (DV.at_eq hcs hd).symm, ?_⟩
    have := g8 i j _ _ hcs hd
    simp only [OK.dv] at e4
    simp [World.cell?, g2, this] at e4
    exact e4.symm
  have key := hok.2 w (Free w own) (fun q c => ∃ j, (q, j) ∈ bs ∧ Fs i j c) vs (by rw [hl, hlen]) (fun t g v h1 h2 => by
    have hlt : t < avs.length := by rw [hlen]; exact (List.getElem?_eq_some_iff.1 h1).1
    have hx := List.getElem?_eq_getElem hlt
    have hrs := hv t _ v hx h2
    have hmg := hget t _ g hx h1
    have cell : ∀ k c p u, At (avs[t]) g k c p → RC P w own hdr s.ob c u → PAr P w (Free w own) (fun b => b < w.heap.size ∧ ∀ q, ¬ ∃ j, (q, j) ∈ bs ∧ Fs i j b) p u (fun c => ∃ j, (aid t k, j) ∈ bs ∧ Fs i j c) := by
      intro k c p u hat hc
      have hmc := hat.matchS hmg
      cases p with
      | d y =>
        cases c with
        | d y' => obtain rfl : y' = y := hmc; exact hc
        | _ => exact hmc.elim
      | arr g' dp y =>
        cases c with
        | sub id' ver' ev' i' j =>
          obtain ⟨rfl, rfl, rfl, rfl, rfl, rfl, rfl, hy⟩ := hmc
          obtain ⟨cs, d, e1, e2, e3, e4⟩ := hsubval j u hc
          refine ⟨hy, ?_⟩
          have := g11 _ j cs d e1 e2
          rw [e3, ← e4] at this
          exact (this.top hy).mono (fun h => h) (fun b hb => ⟨rfl, hb⟩) fun c hc => ⟨rfl, j, (hmem _).2 ⟨t, _, g, k, _, _, hx, h1, hat, by simp [subC]⟩, hc⟩
        | _ => exact hmc.elim
      | _ => cases c <;> exact hmc.elim
    generalize hz : avs[t] = z at *
    cases z with
    | c c =>
      cases g with
      | one p => exact cell 0 c p v (.one c p) hrs
      | agg ps => exact hmg.elim
    | g cs =>
      cases g with
      | one p => exact hmg.elim
      | agg ps =>
        obtain ⟨us, e1, e2, e3⟩ := hrs
        obtain ⟨l1, l2⟩ := matchSL_get hmg.1
        refine ⟨us, e1, by rw [e2, l1], hmg.2, fun k p u h3 h4 => ?_⟩
        have hk : k < cs.length := by rw [l1]; exact (List.getElem?_eq_some_iff.1 h3).1
        have hck := List.getElem?_eq_getElem hk
        exact cell k _ p u (.agg cs ps k _ p hmg.2 hck h3) (e3 k _ u hck h4)
    | t xs => cases g <;> exact hmg.elim)
    (by
      rintro q q' c ⟨j, h1, h2⟩ ⟨j', h3, h4⟩
      obtain ⟨_, rfl⟩ := g10 _ _ _ _ _ h2 h4
      have : ∀ {l : List (Nat × Nat)}, (l.map (·.2)).Nodup → (q, j) ∈ l → (q', j) ∈ l → q = q' := by
        intro l hn m1 m2
        induction l with
        | nil => cases m1
        | cons y l ih =>
          simp only [List.map_cons, List.nodup_cons] at hn
          rcases List.mem_cons.1 m1 with h1 | h1 <;> rcases List.mem_cons.1 m2 with h2 | h2
          · rw [← h1] at h2; simp at h2; exact h2.symm
          · exact absurd (List.mem_map.2 ⟨_, h2, by rw [← h1]⟩) hn.1
          · exact absurd (List.mem_map.2 ⟨_, h1, by rw [← h2]⟩) hn.1
          · exact ih hn.2 h1 h2
      exact this hnd h1 h3)
    (fun q c ⟨j, h1, h2⟩ => ⟨r.lt id c (g9 i j c h2).1, fun hS => hS.2 id (g9 i j c h2).1⟩) (fun c hc => hc.1)
    (fun q c ⟨j, h1, h2⟩ => by
      obtain ⟨t, k, v, g, h3, h4, rfl, h5, _⟩ := hinfo q j h1
      exact ⟨false, true, _, .inl (h5.gaAt h4)⟩)
  refine key.mono ?_
  rintro e w' ⟨v, ra, os, G, rfl, hR, hx, hf, hras, hout⟩
  obtain ⟨u, rfl, hKu⟩ := hK ra os hR
  obtain ⟨rs, rfl, hrs1, hrs2⟩ := hras
  have hrs1' : rs.size = 1 := hrs1
  rw [dif_pos hrs1']
  have hval := hrs2 0 _ rs[0] rfl (Array.getElem?_eq_getElem (by omega))
  obtain ⟨q1, q2, q3, q4⟩ := backS_spec (i := i) (os := os) (l := bs) (x := x) hsl hnd
  have hbb : ∀ q j, (q, j) ∈ bs → ¬ Fs i j b := fun q j _ hc => (g9 i j b hc).2 rfl
  have hbsame : w'.heap[b]? = w.heap[b]? := hx.same b (r.lt id b g3) fun ⟨q, j, h1, h2⟩ => hbb q j h1 h2
  have hext : Ext w w' (Mine own id []) := ⟨hx.os, hx.tape, hx.output, hx.size, fun c hc hn => hx.same c hc fun ⟨q, j, h1, h2⟩ => hn ⟨id, .inl rfl, (g9 i j c h2).1⟩, hx.drawn⟩
  have h := r.turn (id := id) (ids := []) (k := .arr true (backS i os bs x)) (ev := ev + 1) (F := own id) (w' := w') ⟨hne, by simp⟩ hid (by simp) (by simp) hext (fun c hc => ⟨id, .inl rfl, hc⟩) (fun _ _ => Iff.rfl) (by omega)
    (by rw [hk]; exact q2) (fun h => by omega) (fun rc => by
      unfold RO
      simp only [St.setOb, upd_same]
      have free : ∀ c, Free w own c → w'.heap[c]? = w.heap[c]? ∧ Free w' (ownTo own id [] (own id)) c := by
        intro c hc
        refine ⟨hext.same c hc.1 fun ⟨j, _, ho⟩ => hc.2 j ho, Nat.lt_of_lt_of_le hc.1 hext.size, fun j ho => ?_⟩
        simp only [ownTo] at ho
        split at ho
        · exact hc.2 _ ho
        · simp at ho; exact hc.2 _ ho
      refine ⟨q1, .inr ⟨b, cap, cur, e0, us, Fs, ?_, hbsame.trans g2, by simp [ownTo, g3], by rw [q3]; exact g4, g5, by rw [q2]; exact g6, ?_, ?_, ?_, g10, ?_⟩⟩
      · simp [hdrTo, g1, q3]
      · intro i' cs' hcs'
        obtain ⟨cs, e1, e2, _⟩ := q4 i' cs' hcs'
        rw [e2, q2]; exact g7 i' cs e1
      · intro i' j' cs' d' hcs' hd'
        obtain ⟨cs, e1, e2, e3⟩ := q4 i' cs' hcs'
        obtain ⟨d, e4, _⟩ := e3 j' d' hd'
        rw [q2]; exact g8 i' j' cs d e1 e4
      · intro i' j' c hc
        simpa [ownTo] using g9 i' j' c hc
      · intro i' j' cs' d' hcs' hd'
        obtain ⟨cs, e1, e2, e3⟩ := q4 i' cs' hcs'
        obtain ⟨d, e4, e5⟩ := e3 j' d' hd'
        rcases e5 with ⟨q, m1, rfl, rfl⟩ | ⟨rfl, m1⟩
        · obtain ⟨t, k, v, g, h3, h4, rfl, h5, h6⟩ := hinfo q j' m1
          have hlt : t < vs.size := by rw [hl]; exact (List.getElem?_eq_some_iff.1 h3).1
          have hvt := Array.getElem?_eq_getElem hlt
          have hrs := hv t v _ h3 hvt
          obtain ⟨u', hu1, hu2, hu3⟩ : ∃ u', RC P w own hdr s.ob (.sub id ver ev i' j') u' ∧ (match (generalizing := false) g with | .one _ => u' = vs[t] | .agg _ => ∃ us : Array Value, vs[t] = .agg us ∧ us[k]? = some u') ∧ g.at k = some (.arr false true (x.at i' j')) := by
            cases h5 with
            | one => exact ⟨_, hrs, rfl, rfl⟩
            | agg cs ps k c p hA hB hC =>
              obtain ⟨us, f1, f2, f3⟩ := hrs
              have hk : k < us.size := by rw [f2]; exact (List.getElem?_eq_some_iff.1 hB).1
              refine ⟨us[k], f3 k _ _ hB (Array.getElem?_eq_getElem hk), ⟨us, f1, Array.getElem?_eq_getElem hk⟩, ?_⟩
              have : k < 64 := Nat.lt_of_lt_of_le (List.getElem?_eq_some_iff.1 hC).1 hA
              simp [GA.at, this, hC]
          have hfin := hout t k g vs[t] _ u' h4 hvt hu3 hu2
          simp only at hfin
          obtain ⟨f1, f2, f3⟩ := hfin
          obtain ⟨_, _, _, _, _, hu⟩ := hsubval j' u' hu1
          rw [hu] at f3
          have f4 : Own w' (Free w' (ownTo own id [] (own id))) true (os.a (aid t k)) (us i' j') (Fs i' j') := by
            have f5 := (f3.clean (S' := Free w' (ownTo own id [] (own id)))).mono (fun h => h) (fun b hb => ⟨rfl, hb⟩) (F' := Fs i' j') fun c hc => ⟨rfl, by
              obtain ⟨j2, m2, m3⟩ := hc
              obtain ⟨t2, k2, v2, gg2, n1, n2, n3, n4, _⟩ := hinfo _ j2 m2
              have := aid_inj h5.lt n4.lt n3
              obtain ⟨rfl, rfl⟩ := this
              rw [h3] at n1; rw [h4] at n2
              simp at n1 n2; subst n1; subst n2
              have := (h5.unique n4).1
              simp at this
              rw [this]; exact m3⟩
            have := f5.own
            rw [← f2] at this
            rwa [← DV.sl_eta f1] at this
          exact f4
        · refine (g11 i' j' cs d' e1 e4).mono (fun h => h) free _ fun c hc => ⟨hx.same c (r.lt id c (g9 i' j' c hc).1) ?_, hc⟩
          rintro ⟨q, j2, m2, m3⟩
          obtain ⟨rfl, rfl⟩ := g10 _ _ _ _ _ hc m3
          exact m1 rfl q m2)
  have h1 := h.1
  rw [St.kill_nil, hver] at h1
  exact ⟨_, _, _, rfl, hKu, _, _, h1, Pers.clean rfl hval⟩
end
end Hearth

/- The abstract machine: calls of functions whose contracts are told by states. -/
namespace Hearth
open Go
theorem rhoOf_mem {ρ : List (Nat × Nat)} {q id : Nat} (h : rhoOf ρ q = some id) : (q, id) ∈ ρ := by
  induction ρ with
  | nil => cases h
  | cons e ρ ih =>
    obtain ⟨p, i⟩ := e
    simp only [rhoOf] at h
    split at h
    · rename_i e; simp at h; subst e; subst h; exact List.mem_cons_self ..
    · exact List.mem_cons_of_mem _ (ih h)
theorem rhoTo_mem {ρ : List (Nat × Nat)} {q id : Nat} (h : rhoTo ρ id = some q) : (q, id) ∈ ρ := by
  induction ρ with
  | nil => cases h
  | cons e ρ ih =>
    obtain ⟨p, i⟩ := e
    simp only [rhoTo] at h
    split at h
    · rename_i e; simp at h; subst e; subst h; exact List.mem_cons_self ..
    · exact List.mem_cons_of_mem _ (ih h)
theorem rhoOf_of {ρ : List (Nat × Nat)} {q id : Nat} (hn : (ρ.map (·.1)).Nodup) (h : (q, id) ∈ ρ) : rhoOf ρ q = some id := by
  induction ρ with
  | nil => cases h
  | cons e ρ ih =>
    obtain ⟨p, i⟩ := e
    simp only [List.map_cons, List.nodup_cons] at hn
    simp only [rhoOf]
    rcases List.mem_cons.1 h with h | h
    · simp at h; rw [if_pos h.1, h.2]
    · have hne : q ≠ p := fun e => hn.1 (by rw [← e]; exact List.mem_map.2 ⟨_, h, rfl⟩)
      rw [if_neg hne, ih hn.2 h]
theorem rhoTo_of {ρ : List (Nat × Nat)} {q id : Nat} (hn : (ρ.map (·.2)).Nodup) (h : (q, id) ∈ ρ) : rhoTo ρ id = some q := by
  induction ρ with
  | nil => cases h
  | cons e ρ ih =>
    obtain ⟨p, i⟩ := e
    simp only [List.map_cons, List.nodup_cons] at hn
    simp only [rhoTo]
    rcases List.mem_cons.1 h with h | h
    · simp at h; rw [if_pos h.2, h.1]
    · have hne : id ≠ i := fun e => hn.1 (by rw [← e]; exact List.mem_map.2 ⟨_, h, rfl⟩)
      rw [if_neg hne, ih hn.2 h]
theorem loAt_none {lo : List (Nat × OK)} {q : Nat} (h : q ∉ lo.map (·.1)) : loAt lo q = none := by
  induction lo with
  | nil => rfl
  | cons e lo ih =>
    obtain ⟨p, k⟩ := e
    simp only [List.map_cons, List.mem_cons, not_or] at h
    simp only [loAt, if_neg h.1, ih h.2]
theorem loAt_some {lo : List (Nat × OK)} {q : Nat} (h : q ∈ lo.map (·.1)) : ∃ k, loAt lo q = some k := by
  induction lo with
  | nil => cases h
  | cons e lo ih =>
    obtain ⟨p, k⟩ := e
    simp only [List.map_cons, List.mem_cons] at h
    simp only [loAt]
    by_cases e : q = p
    · exact ⟨k, if_pos e⟩
    · rw [if_neg e]; exact ih (h.resolve_left e)
theorem iniT_at {lo : List (Nat × OK)} (q : Nat) : obTab 0 (iniT lo) q = match loAt lo q with
    | some k => ⟨0, 0, k⟩
    | none => if q = alien then ⟨0, 0, .ext⟩ else ⟨0, 0, .dead⟩ := by
  induction lo with
  | nil => rfl
  | cons e lo ih =>
    obtain ⟨p, k⟩ := e
    simp only [iniT, List.map_cons, obTab, loAt] at ih ⊢
    by_cases e : q = p
    · rw [if_pos e, if_pos e]
    · rw [if_neg e, if_neg e, ih]
theorem finT_at {lo : List (Nat × OK)} (q : Nat) : obTab 1 (finT lo) q = match loAt lo q with
    | some k => ⟨verO q k, 0, k⟩
    | none => if q = alien then ⟨0, 0, .ext⟩ else ⟨1, 0, .dead⟩ := by
  induction lo with
  | nil => rfl
  | cons e lo ih =>
    obtain ⟨p, k⟩ := e
    simp only [finT, List.map_cons, obTab, loAt] at ih ⊢
    by_cases e : q = p
    · rw [if_pos e, if_pos e, e]
    · rw [if_neg e, if_neg e, ih]
theorem kds_at {lo lo' : List (Nat × OK)} (h : kds lo' = kds lo) (q : Nat) : (loAt lo' q).map (fun k => (k.kd, k.dv.esz)) = (loAt lo q).map (fun k => (k.kd, k.dv.esz)) := by
  induction lo generalizing lo' with
  | nil => cases lo' with
    | nil => rfl
    | cons => simp [kds] at h
  | cons e lo ih =>
    cases lo' with
    | nil => simp [kds] at h
    | cons e' lo' =>
      obtain ⟨p, k⟩ := e
      obtain ⟨p', k'⟩ := e'
      simp only [kds, List.map_cons, List.cons.injEq, Prod.mk.injEq] at h
      obtain ⟨⟨rfl, h2, h2'⟩, h3⟩ := h
      simp only [loAt]
      split
      · simp [h2, h2']
      · exact ih h3
theorem toL_get {s : St} {ρ : List (Nat × Nat)} : ∀ {cs ds : List AC}, toL s ρ cs ds → cs.length = ds.length ∧ ∀ (k : Nat) (d : AC), ds[k]? = some d → ∃ c, cs[k]? = some c ∧ toC s ρ c d
  | [], [], _ => by simp
  | c :: cs, d :: ds, h => by
    obtain ⟨h1, h2⟩ := toL_get h.2
    refine ⟨by simp [h1], fun k e hk => ?_⟩
    cases k with
    | zero => simp at hk; subst hk; exact ⟨c, rfl, h.1⟩
    | succ k => simp at hk; simpa using h2 k e hk
  | [], _ :: _, h => h.elim
  | _ :: _, [], h => h.elim
theorem toVs_get {s : St} {ρ : List (Nat × Nat)} : ∀ {cs ds : List AV}, toVs s ρ cs ds → cs.length = ds.length ∧ ∀ (k : Nat) (d : AV), ds[k]? = some d → ∃ c, cs[k]? = some c ∧ toV s ρ c d
  | [], [], _ => by simp
  | c :: cs, d :: ds, h => by
    obtain ⟨h1, h2⟩ := toVs_get h.2
    refine ⟨by simp [h1], fun k e hk => ?_⟩
    cases k with
    | zero => simp at hk; subst hk; exact ⟨c, rfl, h.1⟩
    | succ k => simp at hk; simpa using h2 k e hk
  | [], _ :: _, h => h.elim
  | _ :: _, [], h => h.elim
theorem toOs_get {s : St} {ρ : List (Nat × Nat)} : ∀ {lo : List (Nat × OK)} {q : Nat} {k : OK}, toOs s ρ lo → loAt lo q = some k → ∃ id, rhoOf ρ q = some id ∧ toK s ρ (s.ob id).k k
  | [], _, _, _, h => by cases h
  | (p, k0) :: lo, q, k, h, h' => by
    simp only [loAt] at h'
    split at h'
    · rename_i e; simp at h'; subst e; subst h'; exact h.1
    · exact toOs_get h.2 h'
section
variable {P : Program} {N : Nat} {w0 : World} {own0 : Nat → Nat → Prop} {hdr0 : Nat → Value} {Fr : List ((Nat → Prop) × World)} {own : Nat → Nat → Prop} {hdr : Nat → Value} {s : St} {a : Act} {w : World}
theorem callO_sound {K : AV → St → Prop} {f : Nat} {avs : List AV} {vs : Array Value} (r : RelX P N w0 own0 hdr0 Fr own hdr s a w) (hl : vs.size = avs.length)
    (hv : ∀ (t : Nat) (x : AV) (v : Value), avs[t]? = some x → vs[t]? = some v → RS P w own hdr s.ob x v) (h : callO P s f avs K) : GoodC P N w0 own0 hdr0 Fr a K f vs w := by
  obtain ⟨args, lo, R, ρ, hok, hargs, hos, hkeys, hn1, hn2, hal, hhold, hK⟩ := h
  refine ⟨hok.1, ?_⟩
  obtain ⟨la, ga⟩ := toVs_get hargs
  have neAl : ∀ {q id}, rhoOf ρ q = some id → q ≠ alien := fun h e => hal (e ▸ List.mem_map.2 ⟨_, rhoOf_mem h, rfl⟩)
  have loRho : ∀ q, (loAt lo q = none ∧ rhoOf ρ q = none) ∨ ∃ k id, loAt lo q = some k ∧ rhoOf ρ q = some id ∧ toK s ρ (s.ob id).k k := by
    intro q
    by_cases hq : q ∈ lo.map (·.1)
    · obtain ⟨k, hk⟩ := loAt_some hq
      obtain ⟨id, h1, h2⟩ := toOs_get hos hk
      exact .inr ⟨k, id, hk, h1, h2⟩
    · refine .inl ⟨loAt_none hq, ?_⟩
      cases e : rhoOf ρ q with
      | none => rfl
      | some id => rw [hkeys] at hq; exact absurd (List.mem_map.2 ⟨_, rhoOf_mem e, rfl⟩) hq
  let ownC : Nat → Nat → Prop := fun q b => if q = alien then (∃ id, rhoTo ρ id = none ∧ own id b) else ∃ id, rhoOf ρ q = some id ∧ own id b
  let hdrC : Nat → Value := fun q => match rhoOf ρ q with
    | some id => hdr id
    | none => undef
  have ownC_al : ∀ b, ownC alien b ↔ ∃ id, rhoTo ρ id = none ∧ own id b := fun b => by simp only [ownC, if_pos]
  have ownC_q : ∀ q, q ≠ alien → ∀ b, ownC q b ↔ ∃ id, rhoOf ρ q = some id ∧ own id b := fun q hq b => by simp only [ownC, if_neg hq]
  have ownC_of : ∀ {q b}, ownC q b → ∃ id, own id b := by
    intro q b h
    by_cases hq : q = alien
    · subst hq; obtain ⟨id, _, h⟩ := (ownC_al b).1 h; exact ⟨id, h⟩
    · obtain ⟨id, _, h⟩ := (ownC_q q hq b).1 h; exact ⟨id, h⟩
  have freeC : ∀ b, Free w own b → Free w ownC b := fun b hb => ⟨hb.1, fun q hq => by obtain ⟨id, h⟩ := ownC_of hq; exact hb.2 id h⟩
  have rcC : ∀ {c c' : AC} {u : Value}, toC s ρ c c' → RC P w own hdr s.ob c u → RC P w ownC hdrC (obTab 0 (iniT lo)) c' u := by
    intro c c' u ht hc
    have v0 : ∀ q id, rhoOf ρ q = some id → (obTab 0 (iniT lo) q).ver = 0 ∧ hdrC q = hdr id := by
      intro q id h
      refine ⟨?_, by simp only [hdrC, h]⟩
      rw [iniT_at]
      split
      · rfl
      · split <;> rfl
    cases c' with
    | d x =>
      rcases ht with rfl | ⟨sz, rfl, rfl⟩
      · exact Pers.mono' freeC hc
      · rw [show u = .slice none 0 0 from hc]; exact .emp _ _ _
    | nil sz => rw [show c = .nil sz from ht] at hc; exact hc
    | arr q v =>
      obtain ⟨rfl, id, h1, rfl⟩ := ht
      obtain ⟨h2, h3⟩ := v0 q id h1
      refine ⟨Nat.zero_le _, fun _ => ?_⟩
      rw [h3]; exact hc.2 rfl
    | ptr q v off =>
      obtain ⟨rfl, id, h1, rfl⟩ := ht
      obtain ⟨h2, h3⟩ := v0 q id h1
      refine ⟨Nat.zero_le _, fun _ => ?_⟩
      rw [h3]; exact hc.2 rfl
    | _ => exact ht.elim
  have key := hok.2 w ownC hdrC vs (by rw [hl, la]) (fun t x v h1 h2 => by
      obtain ⟨c, h3, h4⟩ := ga t x h1
      have hrs := hv t c v h3 h2
      cases x with
      | c d => cases c with
        | c c => exact rcC h4 hrs
        | g _ => exact h4.elim
        | t _ => exact h4.elim
      | g ds => cases c with
        | c c => exact h4.elim
        | t _ => exact h4.elim
        | g cs =>
          obtain ⟨us, e1, e2, e3⟩ := hrs
          obtain ⟨g1, g2⟩ := toL_get h4
          refine ⟨us, e1, e2.trans g1, fun k d u hd hu => ?_⟩
          obtain ⟨c, g3, g4⟩ := g2 k d hd
          exact rcC g4 (e3 k c u g3 hu)
      | t _ => cases c <;> exact h4.elim)
    (fun q => by
      unfold RO
      rw [iniT_at]
      rcases loRho q with ⟨h1, h2⟩ | ⟨k, id, h1, h2, h3⟩
      · rw [h1]
        simp only
        split
        · rename_i he
          by_cases hq : q = alien
          · rw [if_pos hq] at he; cases he
          · exact ⟨by simp only [hdrC, h2], fun b hb => by obtain ⟨id, h, _⟩ := (ownC_q q hq b).1 hb; rw [h2] at h; cases h⟩
        · simp only [hdrC, h2]
        all_goals (rename_i he; split at he <;> cases he)
      · rw [h1]
        simp only
        have hq := neAl h2
        have hro := r.objs id
        have ho : ∀ b, ownC q b ↔ own id b := fun b => by
          rw [ownC_q q hq]
          exact ⟨fun ⟨i, h, h'⟩ => by rw [h2] at h; simp at h; rw [h]; exact h', fun h => ⟨id, h2, h⟩⟩
        have hh : hdrC q = hdr id := by simp only [hdrC, h2]
        unfold RO at hro
        unfold toK at h3
        split at h3
        · rename_i cs' 
          obtain ⟨cs, e, h4⟩ := h3
          simp only [e] at hro
          obtain ⟨b, us, t, g1, g2, g3, g4, g5⟩ := hro
          obtain ⟨l1, l2⟩ := toL_get h4
          refine ⟨b, us, t, hh.trans g1, fun x => (ho x).trans (g2 x), g3, g4.trans l1, fun k d u hd hu => ?_⟩
          obtain ⟨c, m1, m2⟩ := l2 k d hd
          exact rcC m2 (g5 k c u m1 hu)
        · rename_i dp x
          obtain ⟨dp0, e, hd⟩ : ∃ dp0, (s.ob id).k = .arr dp0 x ∧ (dp = true → dp0 = true) := by
            cases dp with
            | true => exact ⟨true, h3, fun h => h⟩
            | false => obtain ⟨dp0, h⟩ := h3; exact ⟨dp0, h, nofun⟩
          simp only [e] at hro
          rw [hh]
          exact ⟨hro.1, hro.2.mono hd (fun b hb => ⟨rfl, freeC b hb⟩) fun b hb => ⟨rfl, (ho b).2 hb⟩⟩
        · exact h3.elim)
    (fun q q' b h1 h2 => by
      by_cases hq : q = alien <;> by_cases hq' : q' = alien
      · rw [hq, hq']
      · subst hq
        obtain ⟨id, g1, g2⟩ := (ownC_al b).1 h1
        obtain ⟨id', g3, g4⟩ := (ownC_q q' hq' b).1 h2
        obtain rfl := r.dis id id' b g2 g4
        rw [rhoTo_of hn2 (rhoOf_mem g3)] at g1; cases g1
      · subst hq'
        obtain ⟨id, g1, g2⟩ := (ownC_al b).1 h2
        obtain ⟨id', g3, g4⟩ := (ownC_q q hq b).1 h1
        obtain rfl := r.dis id id' b g2 g4
        rw [rhoTo_of hn2 (rhoOf_mem g3)] at g1; cases g1
      · obtain ⟨id, g1, g2⟩ := (ownC_q q hq b).1 h1
        obtain ⟨id', g3, g4⟩ := (ownC_q q' hq' b).1 h2
        obtain rfl := r.dis id id' b g2 g4
        have e1 := rhoTo_of hn2 (rhoOf_mem g1)
        rw [rhoTo_of hn2 (rhoOf_mem g3)] at e1
        simp at e1; exact e1.symm)
    (fun q b h => by obtain ⟨id, h⟩ := ownC_of h; exact r.lt id b h)
  refine key.mono ?_
  rintro e w' ⟨rs, ra, lo', own', hdr', rfl, hR, hkd, hrl, hres, hobj, hdis, hlt, hext, hzero, hnew⟩
  have loAt' : ∀ {q id}, rhoOf ρ q = some id → ∃ k', loAt lo' q = some k' ∧ ((∃ cs cs', k' = .box cs' ∧ (s.ob id).k = .box cs) ∨ ∃ dp dp0 x x0, k' = .arr dp x ∧ (s.ob id).k = .arr dp0 x0 ∧ x.esz = x0.esz) := by
    intro q id hq
    rcases loRho q with ⟨_, h2⟩ | ⟨k, id', h1, h2, h3⟩
    · rw [hq] at h2; cases h2
    · rw [hq] at h2; simp at h2; subst h2
      have := kds_at hkd q
      rw [h1] at this
      cases e : loAt lo' q with
      | none => rw [e] at this; cases this
      | some k' =>
        rw [e] at this
        simp only [Option.map_some, Option.some.injEq, Prod.mk.injEq] at this
        refine ⟨k', rfl, ?_⟩
        unfold toK at h3
        split at h3
        · obtain ⟨cs, e2, _⟩ := h3
          cases k' <;> simp [OK.kd] at this
          exact .inl ⟨cs, _, rfl, e2⟩
        · rename_i dp x
          cases k' <;> simp [OK.kd] at this
          cases dp with
          | true => exact .inr ⟨_, _, _, _, rfl, h3, this⟩
          | false => obtain ⟨dp0, h⟩ := h3; exact .inr ⟨_, _, _, _, rfl, h, this⟩
        · exact h3.elim
  have alE : obTab 1 (finT lo') alien = ⟨0, 0, .ext⟩ := by
    rw [finT_at]
    have : loAt lo' alien = none := by
      have h1 := kds_at hkd alien
      rw [loAt_none (lo := lo) (by rw [hkeys]; exact hal)] at h1
      cases e : loAt lo' alien with
      | none => rfl
      | some k => rw [e] at h1; cases h1
    rw [this]; rfl
  have alOwn : ∀ b, own' alien b ↔ ownC alien b := (hzero alien (by rw [alE])).2
  let own'' : Nat → Nat → Prop := fun id => match rhoTo ρ id with
    | some q => own' q
    | none => own id
  let hdr'' : Nat → Value := fun id => match rhoTo ρ id with
    | some q => hdr' q
    | none => hdr id
  have free'' : ∀ b, Free w' own' b → Free w' own'' b := by
    intro b hb
    refine ⟨hb.1, fun id h => ?_⟩
    cases e : rhoTo ρ id with
    | some q => simp only [own'', e] at h; exact hb.2 _ h
    | none =>
      simp only [own'', e] at h
      exact hb.2 alien ((alOwn b).2 ((ownC_al b).2 ⟨id, e, h⟩))
  have aft : ∀ {q id}, rhoOf ρ q = some id → ∀ k', loAt lo' q = some k' → (s.afterO ρ lo').ob id = ⟨(s.ob id).ver + verO q k', (s.ob id).ev + 1, bkK s ρ k'⟩ := by
    intro q id h k' hk
    simp only [St.afterO, rhoTo_of hn2 (rhoOf_mem h), hk]
  have rcB : ∀ {c : AC} {u : Value}, RC P w' own' hdr' (obTab 1 (finT lo')) c u → RC P w' own'' hdr'' (s.afterO ρ lo').ob (bkC s ρ c) u := by
    intro c u hc
    have vq : ∀ q id, rhoOf ρ q = some id → ((s.afterO ρ lo').ob id).ver = (s.ob id).ver + (obTab 1 (finT lo') q).ver ∧ hdr'' id = hdr' q := by
      intro q id h
      obtain ⟨k', h1, _⟩ := loAt' h
      rw [aft h k' h1, finT_at, h1]
      exact ⟨rfl, by simp only [hdr'', rhoTo_of hn2 (rhoOf_mem h)]⟩
    cases c with
    | d x => exact Pers.mono' free'' hc
    | nil sz => exact hc
    | un => exact hc
    | arr q v =>
      simp only [bkC]
      split
      · rename_i id h
        obtain ⟨h1, h2⟩ := vq q id h
        refine ⟨by rw [h1]; exact Nat.add_le_add_left hc.1 _, fun e => ?_⟩
        rw [h1] at e
        rw [h2]; exact hc.2 (Nat.add_left_cancel e)
      · trivial
    | ptr q v off =>
      simp only [bkC]
      split
      · rename_i id h
        obtain ⟨h1, h2⟩ := vq q id h
        refine ⟨by rw [h1]; exact Nat.add_le_add_left hc.1 _, fun e => ?_⟩
        rw [h1] at e
        rw [h2]; exact hc.2 (Nat.add_left_cancel e)
      · trivial
    | _ => trivial
  have inU : ∀ {id}, (∃ q, rhoTo ρ id = some q) → ∃ q, rhoTo ρ id = some q ∧ rhoOf ρ q = some id := fun ⟨q, h⟩ => ⟨q, h, rhoOf_of hn1 (rhoTo_mem h)⟩
  have hu : Upd own hdr s.ob w own'' hdr'' (s.afterO ρ lo').ob w' (fun id => ∃ q, rhoTo ρ id = some q) := by
    refine ⟨fun h => ?_, fun id h => ?_, ?_, fun id h b hb => ?_, fun id id' b h h' hb hb' => ?_, fun id h => ?_⟩
    · obtain ⟨q, _, h2⟩ := inU h
      obtain ⟨k', _, h3⟩ := loAt' h2
      have := r.al
      rcases h3 with ⟨cs, _, _, h⟩ | ⟨_, dp0, _, x0, _, h, _⟩ <;> rw [h] at this <;> cases this
    · have : rhoTo ρ id = none := by
        cases e : rhoTo ρ id with
        | none => rfl
        | some q => exact absurd ⟨q, e⟩ h
      exact ⟨by simp only [own'', this], by simp only [hdr'', this], by simp only [St.afterO, this]⟩
    · refine ⟨hext.os, hext.tape, hext.output, hext.size, fun b hb hn => hext.same b hb ?_, hext.drawn⟩
      rintro ⟨q, hq, h⟩
      obtain ⟨id, h1, h2⟩ := (ownC_q q hq b).1 h
      exact hn ⟨id, ⟨q, rhoTo_of hn2 (rhoOf_mem h1)⟩, h2⟩
    · obtain ⟨q, h1, h2⟩ := inU h
      simp only [own'', h1] at hb
      refine ⟨hlt q b hb, (hnew q b (neAl h2) hb).imp (fun h => h) ?_⟩
      rintro ⟨q', hq', h'⟩
      obtain ⟨id', h3, h4⟩ := (ownC_q q' hq' b).1 h'
      exact ⟨id', ⟨q', rhoTo_of hn2 (rhoOf_mem h3)⟩, h4⟩
    · obtain ⟨q, h1, h2⟩ := inU h
      obtain ⟨q', h1', h2'⟩ := inU h'
      simp only [own'', h1] at hb
      simp only [own'', h1'] at hb'
      obtain rfl := hdis q q' b hb hb'
      rw [h2] at h2'; simpa using h2'
    · obtain ⟨q, h1, h2⟩ := inU h
      obtain ⟨k', h3, h4⟩ := loAt' h2
      rw [aft h2 k' h3]
      refine ⟨Nat.le_add_right _ _, fun e => ?_⟩
      have hk0 : verO q k' = 0 := by simp only at e; omega
      have hz := hzero q (by rw [finT_at, h3]; exact hk0)
      have ho : ∀ b, ownC q b ↔ own id b := fun b => by
        rw [ownC_q q (neAl h2)]
        exact ⟨fun ⟨i, h, h'⟩ => by rw [h2] at h; simp at h; rw [h]; exact h', fun h => ⟨id, h2, h⟩⟩
      have hesz : (bkK s ρ k').dv.esz = (s.ob id).k.dv.esz := by
        rcases h4 with ⟨cs, cs', rfl, hb⟩ | ⟨dp, dp0, x, x0, rfl, hb, he⟩
        · rw [hb]; rfl
        · rw [hb]; exact he
      refine ⟨?_, hesz, fun _ b => ?_, Nat.le_succ _, fun e => ?_⟩
      · simp only [hdr'', h1]; rw [hz.1]; simp only [hdrC, h2]
      · simp only [own'', h1]; exact (hz.2 b).trans (ho b)
      · simp only at e; omega
  have r' := r.upd hu (fun id h hm => by
      obtain ⟨q, h1, _⟩ := inU h
      exact hhold _ (rhoTo_mem h1) hm)
    (fun _ id h => by
      obtain ⟨q, h1, h2⟩ := inU h
      obtain ⟨k', h3, h4⟩ := loAt' h2
      have hro := hobj q
      unfold RO at hro ⊢
      rw [finT_at, h3] at hro
      rw [aft h2 k' h3]
      have ho : own'' id = own' q := by simp only [own'', h1]
      have hh : hdr'' id = hdr' q := by simp only [hdr'', h1]
      rcases h4 with ⟨cs, cs', rfl, _⟩ | ⟨dp, dp0, x, x0, rfl, _, _⟩
      · simp only [bkK] at hro ⊢
        obtain ⟨b, us, t, g1, g2, g3, g4, g5⟩ := hro
        refine ⟨b, us, t, hh.trans g1, fun x => by rw [ho]; exact g2 x, g3, by simpa using g4, fun k c u hc hu => ?_⟩
        simp only [List.getElem?_map, Option.map_eq_some_iff] at hc
        obtain ⟨d, hd, rfl⟩ := hc
        exact rcB (g5 k d u hd hu)
      · simp only [bkK] at hro ⊢
        rw [hh, ho]
        exact ⟨hro.1, hro.2.mono (fun h => h) (fun b hb => ⟨rfl, free'' b hb⟩) fun b hb => ⟨rfl, hb⟩⟩)
  have rvB : ∀ {x : RA} {u : Value}, RV1 P w' own' hdr' (obTab 1 (finT lo')) (raV x) u → RV1 P w' own'' hdr'' (s.afterO ρ lo').ob (raV x) u := by
    intro x u hx
    have one : ∀ {y : RV} {u : Value}, RC P w' own' hdr' (obTab 1 (finT lo')) (raC y) u → RC P w' own'' hdr'' (s.afterO ρ lo').ob (raC y) u := by
      intro y u hy
      cases y with
      | d z => exact Pers.mono' free'' hy
      | _ => trivial
    cases x with
    | one y => exact one hx
    | agg ys =>
      obtain ⟨us, e1, e2, e3⟩ := hx
      refine ⟨us, e1, e2, fun k c u hc hu => ?_⟩
      have := e3 k c u hc hu
      simp only [List.getElem?_map, Option.map_eq_some_iff] at hc
      obtain ⟨y, _, rfl⟩ := hc
      exact one this
  refine ⟨_, resO ra, s.afterO ρ lo', rfl, hK ra lo' hR hkd, own'', hdr'', r', ?_⟩
  by_cases h1 : rs.size = 1
  · rw [dif_pos h1]
    obtain ⟨x, rfl⟩ : ∃ x, ra = [x] := List.length_eq_one_iff.1 (hrl ▸ h1)
    have := rvB (hres 0 x rs[0] rfl (Array.getElem?_eq_getElem (by omega)))
    cases x with
    | one y => exact this
    | agg ys => exact this
  · rw [dif_neg h1]
    have hr : resO ra = .t (ra.map raV) := by
      match ra, hrl with
      | [], _ => rfl
      | [_], h => exact absurd h h1
      | _ :: _ :: _, _ => rfl
    rw [hr]
    refine ⟨rs, rfl, by simpa using hrl, fun k x u hx hu => ?_⟩
    simp only [List.getElem?_map, Option.map_eq_some_iff] at hx
    obtain ⟨y, hy, rfl⟩ := hx
    exact rvB (hres k y u hy hu)
end
end Hearth

/- The abstract machine: each operation does what the model's does. -/
namespace Hearth
open Go
section
variable {P : Program} {N : Nat} {w0 : World} {own0 : Nat → Nat → Prop} {hdr0 : Nat → Value} {Fr : List ((Nat → Prop) × World)} {own : Nat → Nat → Prop} {hdr : Nat → Value} {s : St} {a : Act} {w : World} {K : AV → St → Prop} {o : Oper}
theorem run_callFunc {f : FuncId} (he : Enters P f) (args : Array Value) : (callFunc f args).run P w = .ok (.enter f args) w := by
  obtain ⟨fn, h1, h2, h3⟩ := he
  have h4 : fn.body ≠ none := by cases hb : fn.body <;> simp_all
  have h5 : fn.name ≠ "runtime.NumGoroutine" := by simpa using h3
  simp [callFunc, program, Sem.run, h1, h5, h4]
theorem run_call_value {c : Operand} {args : Array Operand} {ts : Array TypeId} {f : FuncId} {first caps : Array Value} (he : Enters P f) (ho : o.op = .call { callee := .value c, args, argTypes := ts }) (hc : a.eval c = .func (.func f) first caps) :
    (execOp a.eval o).run P w = .ok (.enter f (first ++ args.map a.eval ++ caps)) w := by
  simp [execOp, ho, resolve, hc, Deferred.ofValue, invoke, run_callFunc he]
def O.quiet : O → Bool
  | .mov _ | .nck _ | .pick .. | .bin .. | .beq .. | .eqn .. | .un .. | .conv .. | .sts _ | .build .. | .fld .. | .fad .. | .iad .. | .aad .. | .flen _ | .fiad .. | .ix .. | .cut .. | .cut3 .. | .len _ | .slen _ | .clo .. | .ext .. | .mm .. | .load .. => true
  | _ => false
def O.isLoad : O → Bool
  | .load .. => true
  | _ => false
def St.still (s : St) : O → Prop
  | .load _ x => stillA s (s.ev x)
  | _ => True
def GoodO (P : Program) (N : Nat) (w0 : World) (own0 : Nat → Nat → Prop) (hdr0 : Nat → Value) (Fr : List ((Nat → Prop) × World)) (a : Act) (K : AV → St → Prop) (w : World) (r : Result Next) : Prop :=
  Good P N w0 own0 hdr0 Fr a K r ∨ ∃ f args, r = .ok (.enter f args) w ∧ GoodC P N w0 own0 hdr0 Fr a K f args w
theorem digXs_args {ts : List TypeId} {xs : Array Operand} {ys : List X} (r : RelX P N w0 own0 hdr0 Fr own hdr s a w) (h : digXs P ts xs.toList = some ys) :
    (xs.map a.eval).size = (ys.map s.ev).length ∧ ∀ (t : Nat) (x : AV) (v : Value), (ys.map s.ev)[t]? = some x → (xs.map a.eval)[t]? = some v → RS P w own hdr s.ob x v := by
  obtain ⟨h1, h2⟩ := digXs_sound r h
  refine ⟨by simp [h1], fun t x v h3 h4 => ?_⟩
  simp only [List.getElem?_map, Option.map_eq_some_iff, Array.getElem?_map] at h3 h4
  obtain ⟨y, h3, rfl⟩ := h3
  obtain ⟨z, h4, rfl⟩ := h4
  exact h2 t z y (by simpa using h4) h3
theorem frzL_sound : ∀ {ids : List Nat} {s s' : St} {own : Nat → Nat → Prop} {hdr : Nat → Value}, RelX P N w0 own0 hdr0 Fr own hdr s a w → frzL ids s = some s' → ∃ own' hdr', RelX P N w0 own0 hdr0 Fr own' hdr' s' a w
  | [], s, s', own, hdr, r, h => by simp only [frzL, Option.some.injEq] at h; subst h; exact ⟨own, hdr, r⟩
  | id :: l, s, s', own, hdr, r, h => by
    simp only [frzL] at h
    split at h
    · rename_i dp x hk
      split at h
      · cases h
      · rename_i hc
        simp only [Bool.or_eq_true, not_or, Bool.not_eq_true] at hc
        obtain ⟨own', hdr', r', _⟩ := r.freeze hk (by simpa using hc.1) (Nat.pos_of_ne_zero (Nat.ne_of_beq_eq_false hc.2))
        exact frzL_sound r' h
    · cases h
theorem snd_call {f d : Nat} {args : Array Operand} {ts : Array TypeId} {ys : List X} (r : RelX P N w0 own0 hdr0 Fr own hdr s a w) (ho : o.op = .call { callee := .value (.func f), args, argTypes := ts }) (hd : digXs P ts.toList args.toList = some ys)
    (h : stepO P s (.call d f ys) K) : GoodO P N w0 own0 hdr0 Fr a K w ((execOp a.eval o).run P w) := by
  obtain ⟨h1, h2⟩ := digXs_args r hd
  have hc : GoodC P N w0 own0 hdr0 Fr a K f (args.map a.eval) w := by
    rcases h with h | h | ⟨ids, s', hf, h⟩ | h
    · exact call_sound r h1 h2 h
    · exact callS_sound r h1 h2 h
    · obtain ⟨own', hdr', r'⟩ := frzL_sound r hf
      obtain ⟨g1, g2⟩ := digXs_args r' hd
      exact call_sound r' g1 g2 h
    · exact callO_sound r h1 h2 h
  refine .inr ⟨f, #[] ++ args.map a.eval ++ #[], run_call_value hc.1 ho rfl, ?_⟩
  simpa using hc
theorem snd_callv {d : Nat} {c : Operand} {x : X} {args : Array Operand} {ts : Array TypeId} {t : TypeId} {ys : List X} (r : RelX P N w0 own0 hdr0 Fr own hdr s a w) (ho : o.op = .call { callee := .value c, args, argTypes := ts }) (hx : digX P t c = some x) (hd : digXs P ts.toList args.toList = some ys)
    (h : stepO P s (.callv d x ys) K) : GoodO P N w0 own0 hdr0 Fr a K w ((execOp a.eval o).run P w) := by
  obtain ⟨h1, h2⟩ := digXs_args r hd
  have hv := ev_sound r hx
  simp only [stepO] at h
  split at h
  · rename_i p C hev
    rw [hev] at hv
    obtain ⟨as, R, hC, hm, hmode, hl, hra, hrange, hK⟩ := h
    obtain ⟨f, first, caps, he, hg⟩ := callv_sound r h1 h2 hv hC hm hmode hra hrange hK
    exact .inr ⟨f, _, run_call_value hg.1 ho he, hg⟩
  · rename_i f fs cs hev
    rw [hev] at hv
    have he := sc_of hv
    obtain ⟨rfl, rfl, h⟩ := h
    have hc := call_sound r h1 h2 h
    refine .inr ⟨f, #[] ++ args.map a.eval ++ #[], run_call_value hc.1 ho he, ?_⟩
    simpa using hc
  · rename_i f fs cs hev
    rw [hev] at hv
    obtain ⟨rfl, hbox, h⟩ := h
    obtain ⟨fv, cv, he, hf1, hc1, hc2⟩ := hv
    have hfv : fv = #[] := by
      have := hf1.1
      simp only [List.length_nil] at this
      exact Array.eq_empty_of_size_eq_zero this
    subst hfv
    have hc := callO_sound r (vs := args.map a.eval ++ cv) (by rw [Array.size_append, List.length_append, h1, List.length_map (as := cs), hc1]) (fun t x v g1 g2 => by
      rw [List.getElem?_append] at g1
      rw [Array.getElem?_append] at g2
      rw [h1] at g2
      split at g1
      · rename_i hlt
        rw [if_pos hlt] at g2
        exact h2 t x v g1 g2
      · rename_i hlt
        rw [if_neg hlt] at g2
        rw [List.getElem?_map, Option.map_eq_some_iff] at g1
        obtain ⟨⟨id, ver⟩, g3, rfl⟩ := g1
        obtain ⟨q1, q2⟩ := hc2 _ id ver v g3 g2
        obtain ⟨k, hk⟩ := hbox (id, ver) (List.mem_of_getElem? g3)
        refine ⟨q1, fun e => ?_⟩
        have ho := r.objs id
        unfold RO at ho
        rw [show (s.ob id).k = .box k from hk] at ho
        obtain ⟨b, us, tt, f1, _⟩ := ho
        exact ⟨b, f1, (q2 e).trans f1⟩) h
    refine .inr ⟨f, #[] ++ args.map a.eval ++ cv, run_call_value hc.1 ho he, ?_⟩
    simpa using hc
  · exact h.elim
theorem digX_t {t : TypeId} {x : Operand} {n : Nat} (h : digX P t x = some (.t n)) : x = .tmp n := by
  unfold digX at h
  split at h
  · simp at h; rw [h]
  · simp at h
  · simp at h
  · simp at h
  · split at h <;> simp at h
theorem digX_v {t : TypeId} {x : Operand} {v : Value} (h : digX P t x = some (.v v)) : x = .const v := by
  unfold digX at h
  split at h
  · simp at h
  · simp at h
  · simp at h
  · simp at h
  · split at h
    · simp at h; rw [h]
    · simp at h
theorem arr1 {args : Array Operand} {ts : Array TypeId} {x : Operand} {t : TypeId} (h1 : args.toList = [x]) (h2 : ts.toList = [t]) (ho : o.op = .call { callee := .builtin .len, args := args, argTypes := ts }) :
    o.op = .call { callee := .builtin .len, args := #[x], argTypes := #[t] } := by
  have h1' := congrArg List.toArray h1
  have h2' := congrArg List.toArray h2
  simp only [Array.toArray_toList] at h1' h2'
  rw [ho, h1', h2']
theorem op_sound {d : Nat} {o' : O} (r : RelX P N w0 own0 hdr0 Fr own hdr s a w) (hd : digOp P d o.type o.op = some o') (h : stepO P s o' K) :
    GoodO P N w0 own0 hdr0 Fr a K w ((execOp a.eval o).run P w) ∧ (o'.quiet = true → s.still o' → GoodQ P N w0 own0 hdr0 Fr (Now w own s.hold) a w K (execOp a.eval o)) ∧ (o'.quiet = true → o'.isLoad = false → GoodQ P N w0 own0 hdr0 Fr (fun _ => False) a w K (execOp a.eval o)) := by
  have Q : (∀ F, GoodQ P N w0 own0 hdr0 Fr F a w K (execOp a.eval o)) → GoodO P N w0 own0 hdr0 Fr a K w ((execOp a.eval o).run P w) ∧ (o'.quiet = true → s.still o' → GoodQ P N w0 own0 hdr0 Fr (Now w own s.hold) a w K (execOp a.eval o)) ∧ (o'.quiet = true → o'.isLoad = false → GoodQ P N w0 own0 hdr0 Fr (fun _ => False) a w K (execOp a.eval o)) :=
    fun h => ⟨.inl (h (fun _ => False)).good, fun _ _ => h _, fun _ _ => h _⟩
  have G : Good P N w0 own0 hdr0 Fr a K ((execOp a.eval o).run P w) → o'.quiet = false → GoodO P N w0 own0 hdr0 Fr a K w ((execOp a.eval o).run P w) ∧ (o'.quiet = true → s.still o' → GoodQ P N w0 own0 hdr0 Fr (Now w own s.hold) a w K (execOp a.eval o)) ∧ (o'.quiet = true → o'.isLoad = false → GoodQ P N w0 own0 hdr0 Fr (fun _ => False) a w K (execOp a.eval o)) :=
    fun h hq => ⟨.inl h, fun hq' => by (rw [hq] at hq'; cases hq'), fun hq' => by (rw [hq] at hq'; cases hq')⟩
  have C : GoodO P N w0 own0 hdr0 Fr a K w ((execOp a.eval o).run P w) → o'.quiet = false → GoodO P N w0 own0 hdr0 Fr a K w ((execOp a.eval o).run P w) ∧ (o'.quiet = true → s.still o' → GoodQ P N w0 own0 hdr0 Fr (Now w own s.hold) a w K (execOp a.eval o)) ∧ (o'.quiet = true → o'.isLoad = false → GoodQ P N w0 own0 hdr0 Fr (fun _ => False) a w K (execOp a.eval o)) :=
    fun h hq => ⟨h, fun hq' => by (rw [hq] at hq'; cases hq'), fun hq' => by (rw [hq] at hq'; cases hq')⟩
  generalize hty : o.type = ty at hd
  generalize hop : o.op = op at hd
  unfold digOp at hd
  split at hd
  · simp only [Option.map_eq_some_iff] at hd; obtain ⟨x, hx, rfl⟩ := hd
    exact Q (fun _ => snd_mov r (.inl hop) hx h)
  · simp only [Option.map_eq_some_iff] at hd; obtain ⟨x, hx, rfl⟩ := hd
    exact Q (fun _ => snd_mov r (.inr hop) hx h)
  · simp only [Option.map_eq_some_iff] at hd; obtain ⟨x, hx, rfl⟩ := hd
    exact Q (fun _ => snd_nck r hop hx h)
  · split at hd
    · rename_i hc hx hy
      simp at hd; subst hd
      exact Q (fun _ => snd_pick r hop hc hx hy h)
    · simp at hd
  · split at hd
    · split at hd
      · rename_i hx hy
        simp at hd; subst hd
        exact Q (fun _ => snd_beq (ne := false) r hop (by assumption) hx hy h)
      · simp at hd
    · split at hd
      · rename_i hx hy
        simp at hd; subst hd
        exact Q (fun _ => snd_beq (ne := true) r hop (by assumption) hx hy h)
      · simp at hd
    · split at hd
      · rename_i hx
        simp at hd; subst hd
        exact Q (fun _ => snd_eqn (ne := false) r hop (by assumption) hx h)
      · simp at hd
    · split at hd
      · rename_i hx
        simp at hd; subst hd
        exact Q (fun _ => snd_eqn (ne := true) r hop (by assumption) hx h)
      · simp at hd
    · split at hd
      · rename_i hx hy
        simp at hd; subst hd
        exact Q (fun _ => snd_bin r hop hx hy h)
      · simp at hd
  · simp only [Option.map_eq_some_iff] at hd; obtain ⟨x, hx, rfl⟩ := hd
    exact Q (fun _ => snd_un r hop hx h)
  · split at hd
    · rename_i hs ht hx
      simp at hd; subst hd
      exact Q (fun _ => snd_conv r hop hs ht hx h)
    · rename_i hs ht hx
      split at hd
      · rename_i he
        simp at hd; subst hd
        exact G (snd_b2s' r hop hs he ht hx h) rfl
      · simp at hd
    · rename_i hs ht hx
      split at hd
      · rename_i he
        split at hd
        · rename_i hst
          simp at hd; subst hd
          subst hst
          exact G (snd_s2s r hop hs he hx h) rfl
        · simp at hd
      · simp at hd
    · rename_i hs ht hx
      split at hd
      · rename_i he
        simp at hd; subst hd
        exact G (snd_s2b r hop hs ht he hx h) rfl
      · simp at hd
    · rename_i hs ht hx
      simp at hd; subst hd
      exact Q (fun _ => snd_sts r hop hs ht hx h)
    · simp at hd
  · simp only [Option.map_eq_some_iff] at hd; obtain ⟨x, hx, rfl⟩ := hd
    exact G (snd_box r hop hx h) rfl
  · simp only [Option.map_eq_some_iff] at hd; obtain ⟨x, hx, rfl⟩ := hd
    exact G (snd_alloc r hop hx h) rfl
  · split at hd
    · rename_i ht hz
      split at hd
      · rename_i hp
        simp only [Option.map_eq_some_iff] at hd; obtain ⟨x, hx, rfl⟩ := hd
        exact Q (fun _ => snd_build r hop ht hz hp hx h)
      · simp at hd
    · rename_i _ hz
      split at hd
      · rename_i ht
        simp only [Option.map_eq_some_iff] at hd; obtain ⟨x, hx, rfl⟩ := hd
        exact Q (fun _ => snd_buildA r hop ht hz hx h)
      · simp at hd
    · simp at hd
  · split at hd
    · rename_i ht
      split at hd
      · rename_i hz hp
        simp only [Option.some.injEq] at hd; subst hd
        split at h
        · rename_i hfn
          exact G (snd_flit r hop ht hz hp h) (by rw [if_pos hfn]; rfl)
        · rename_i hfn
          exact G (snd_lit' r hop ht hz hp h) (by rw [if_neg hfn]; rfl)
      · simp at hd
    · simp at hd
  · split at hd
    · rename_i ht
      split at hd
      · rename_i hf hx
        simp only [Option.map_eq_some_iff] at hd; obtain ⟨n, hn, rfl⟩ := hd
        exact Q (fun _ => snd_fld' r hop ht hf hn hx h)
      · simp at hd
    · simp at hd
  · split at hd
    · rename_i hn hx
      simp at hd; subst hd
      exact ⟨.inl (snd_load' r hop hn hx h), fun _ hst => sq_load r hop hn hx hst h, fun _ h => by cases h⟩
    · simp at hd
  · split at hd
    · rename_i hn hx hv hi
      split at hd
      · rename_i hsz
        simp at hd; subst hd
        exact G (snd_store' r hop hi hsz hx hv h) rfl
      · simp at hd
    · simp at hd
  · split at hd
    · rename_i ht
      split at hd
      · rename_i hf hx
        split at hd
        · rename_i hi
          split at hd
          · simp at hd
          · rename_i hs
            simp at hd; subst hd
            exact Q (fun _ => snd_fad' r hop ht hf hi hs hx h)
        · simp at hd
      · simp at hd
    · simp at hd
  · split at hd
    · rename_i ht hx hn
      simp only [Option.some.injEq] at hd; subst hd
      split at h
      · rename_i hfn
        exact Q (fun _ => snd_fiad r hop ht hx hn h)
      · rename_i hfn
        exact Q (fun _ => snd_iad' r hop ht hx hn h)
    · split at hd
      · rename_i ht hx hn
        simp at hd; subst hd
        exact Q (fun _ => snd_aad r hop ht hx hn h)
      · simp at hd
  · split at hd
    · rename_i ht hx hn
      simp at hd; subst hd
      exact Q (fun _ => snd_ix r hop ht hx hn h)
    · simp at hd
  · split at hd
    · rename_i ht hx hlo hhi
      simp at hd; subst hd
      exact Q (fun _ => snd_cut r hop ht hx hlo hhi h)
    · simp at hd
  · split at hd
    · rename_i ht hx hlo hhi hmx
      simp at hd; subst hd
      exact Q (fun _ => snd_cut3 r hop ht hx hlo hhi hmx h)
    · simp at hd
  · split at hd
    · rename_i ht hn hc
      split at hd
      · rename_i hnc
        simp only [Option.map_eq_some_iff] at hd; obtain ⟨zs, hz, rfl⟩ := hd
        refine G (snd_mk' r hop ht hz hn ?_ h) rfl
        rw [digX_t hn, digX_t hc, hnc]
      · simp at hd
    · rename_i ht hn hc
      split at hd
      · rename_i hnc
        simp only [Option.map_eq_some_iff] at hd; obtain ⟨zs, hz, rfl⟩ := hd
        refine G (snd_mk' r hop ht hz hn ?_ h) rfl
        rw [digX_v hn, digX_v hc, hnc.1, hnc.2]
      · simp at hd
    · simp at hd
  · simp only [Option.map_eq_some_iff] at hd; obtain ⟨x, hx, rfl⟩ := hd
    exact Q (fun _ => snd_ext r hop hx h)
  · split at hd
    · rename_i hf hc
      simp at hd; subst hd
      exact Q (fun _ => snd_clo r hop hf hc h)
    · simp at hd
  · split at hd
    · rename_i x t hxs hts
      have ho := arr1 hxs hts hop
      split at hd
      · rename_i ht
        simp only [Option.map_eq_some_iff] at hd; obtain ⟨x, hx, rfl⟩ := hd
        exact Q (fun _ => snd_slen r ho ht hx h)
      · rename_i ht
        simp only [Option.map_eq_some_iff] at hd; obtain ⟨x, hx, rfl⟩ := hd
        split at h
        · rename_i hfn
          exact Q (fun _ => snd_flen r ho ht hx h)
        · rename_i hfn
          exact Q (fun _ => snd_len r ho ht hx h)
      · simp at hd
    · simp at hd
  · split at hd
    · rename_i x y t u hxs hts
      split at hd
      · rename_i htu
        subst htu
        split at hd
        · rename_i ht hx hy
          split at hd
          · rename_i hz
            split at hd
            · rename_i hl
              simp at hd; subst hd
              have hxs' := congrArg List.toArray hxs
              have hts' := congrArg List.toArray hts
              simp only [Array.toArray_toList] at hxs' hts'
              subst hxs'; subst hts'
              exact G (snd_app' r hop ht hx hy hz hl h) rfl
            · simp at hd
          · simp at hd
        · simp at hd
      · split at hd
        · rename_i hu
          split at hd
          · rename_i ht hx hy
            split at hd
            · rename_i hz
              split at hd
              · rename_i hl
                simp at hd; subst hd
                have hxs' := congrArg List.toArray hxs
                have hts' := congrArg List.toArray hts
                simp only [Array.toArray_toList] at hxs' hts'
                subst hxs'; subst hts'
                exact G (snd_apps' r hop hu ht hx hy hz hl h) rfl
              · simp at hd
            · simp at hd
          · simp at hd
        · simp at hd
    · simp at hd
  · split at hd
    · rename_i hxs
      split at hd
      · rename_i hx hy
        simp at hd; subst hd
        have hxs' := congrArg List.toArray hxs
        simp only [Array.toArray_toList] at hxs'
        subst hxs'
        exact Q (fun _ => snd_mm (mx := true) r hop hx hy h)
      · simp at hd
    · simp at hd
  · split at hd
    · rename_i hxs
      split at hd
      · rename_i hx hy
        simp at hd; subst hd
        have hxs' := congrArg List.toArray hxs
        simp only [Array.toArray_toList] at hxs'
        subst hxs'
        exact Q (fun _ => snd_mm (mx := false) r hop hx hy h)
      · simp at hd
    · simp at hd
  · simp only [Option.map_eq_some_iff] at hd; obtain ⟨ys, hy, rfl⟩ := hd
    exact C (snd_call r hop hy h) rfl
  · split at hd
    · rename_i hx hy
      simp at hd; subst hd
      exact C (snd_callv r hop hx hy h) rfl
    · simp at hd
  · simp at hd
theorem op_sound' {d : Nat} {o' : O} (r : RelX P N w0 own0 hdr0 Fr own hdr s a w) (hd : digOp' P d o.type o.op = some o') (h : stepO P s o' K) :
    GoodO P N w0 own0 hdr0 Fr a K w ((execOp a.eval o).run P w) ∧ (o'.quiet = true → s.still o' → GoodQ P N w0 own0 hdr0 Fr (Now w own s.hold) a w K (execOp a.eval o)) ∧ (o'.quiet = true → o'.isLoad = false → GoodQ P N w0 own0 hdr0 Fr (fun _ => False) a w K (execOp a.eval o)) := by
  unfold digOp' at hd
  cases hg : digOp P d o.type o.op with
  | some o2 =>
    rw [hg] at hd
    simp at hd
    subst hd
    exact op_sound r hg h
  | none =>
    rw [hg] at hd
    simp at hd
    subst hd
    exact absurd h (by simp [stepO])
end
end Hearth
