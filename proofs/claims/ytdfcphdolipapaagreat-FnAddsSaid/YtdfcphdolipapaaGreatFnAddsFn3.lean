/- What the functions that FnAdds reaches compute, one contract each; each with the bounds that it states. -/
import Derived.Shelf.SlSortCmp.WholeK
import Derived.Test.YtdfcphdolipapaaGreatFnAddsFn2
import Derived.Test.YtdfcphdolipapaaGreatProg
import Derived.KernelRfl
set_option maxRecDepth 100000
set_option maxHeartbeats 8000000
set_option linter.unusedVariables false
set_option linter.unusedSimpArgs false
namespace Go.Proofs.YtdfcphdolipapaaGreat.FnAddsFn
open Go Hearth Go.Proofs

theorem ext_grown {w w' : World} {M : Nat → Prop} (h : Ext w w' M) (hM : ∀ b, ¬ M b) : ∃ q os, w' = Go.Sort.grow (w.drewN q) os := by
  obtain ⟨h1, h2, h3, h4, h5, h6⟩ := h
  refine ⟨w'.drawn - w.drawn, w'.heap.extract w.heap.size w'.heap.size, ?_⟩
  have e1 : w'.heap = w.heap ++ w'.heap.extract w.heap.size w'.heap.size := by
    apply Array.ext_getElem?
    intro i
    rw [Array.getElem?_append]
    split
    · rename_i hi
      exact h5 i hi (hM i)
    · rename_i hi
      rw [Array.getElem?_extract]
      by_cases hlt : i < w'.heap.size
      · rw [if_pos (by omega), show w.heap.size + (i - w.heap.size) = i by omega]
      · rw [if_neg (by omega), Array.getElem?_eq_none (by omega)]
  have e2 : w'.drawn = w.drawn + (w'.drawn - w.drawn) := by omega
  obtain ⟨heap, tape, drawn, os, output⟩ := w'
  obtain ⟨heap0, tape0, drawn0, os0, output0⟩ := w
  simp only at e1 e2 h1 h2 h3
  subst h1 h2 h3
  simp only [Go.Sort.grow, World.drewN]
  rw [← e1, ← e2]
section
variable {α : Type} [Inhabited α] {enc : α → List Value} {k : Nat} {w : World} {blk m : Nat} {dk : Array α} {os : Array Obj}
theorem sortWorldK_same {c : Nat} (hc : c < w.heap.size) (hne : c ≠ blk) : (Go.Proofs.sortWorldK enc k w blk 0 m dk os).heap[c]? = w.heap[c]? := by
  unfold Go.Proofs.sortWorldK
  have h : c < (Go.Sort.putRowK enc k (Go.Sort.ahead w m) blk 0 dk).heap.size := by rw [show (Go.Sort.putRowK enc k (Go.Sort.ahead w m) blk 0 dk).heap.size = w.heap.size from by simp [Go.Sort.putRowK]]; exact hc
  rw [Go.Sort.heap_grow_old _ _ h]
  simp only [Go.Sort.putRowK, Go.Sort.putRow, Go.Sort.mapBlock, Go.Sort.heap_ahead, Array.getElem?_modify]
  rw [if_neg (Ne.symm hne)]
theorem sortWorldK_size : w.heap.size ≤ (Go.Proofs.sortWorldK enc k w blk 0 m dk os).heap.size := by
  unfold Go.Proofs.sortWorldK
  rw [Go.Sort.size_grow, show (Go.Sort.putRowK enc k (Go.Sort.ahead w m) blk 0 dk).heap.size = w.heap.size from by simp [Go.Sort.putRowK]]
  exact Nat.le_add_right _ _
theorem sortWorldK_row {cur : Array Value} {e : TypeId} (hb : w.heap[blk]? = some (.cells cur e (0, 0))) : (Go.Proofs.sortWorldK enc k w blk 0 m dk os).heap[blk]? = some (.cells (Go.Sort.putCells id 0 (Go.Sort.flatK enc k dk) cur) e (0, 0)) := by
  unfold Go.Proofs.sortWorldK
  have hlt : blk < w.heap.size := (Array.getElem?_eq_some_iff.1 hb).1
  have h : blk < (Go.Sort.putRowK enc k (Go.Sort.ahead w m) blk 0 dk).heap.size := by rw [show (Go.Sort.putRowK enc k (Go.Sort.ahead w m) blk 0 dk).heap.size = w.heap.size from by simp [Go.Sort.putRowK]]; exact hlt
  rw [Go.Sort.heap_grow_old _ _ h]
  simp only [Go.Sort.putRowK, Go.Sort.putRow, Go.Sort.mapBlock, Go.Sort.heap_ahead, Array.getElem?_modify, if_true, hb, Option.map_some, Go.Sort.onCells]
end
theorem putCells_size {F cur : Array Value} : (Go.Sort.putCells id 0 F cur).size = cur.size := by simp [Go.Sort.putCells]
theorem putCells_at {F cur : Array Value} {t : Nat} (h : t < F.size) (h' : F.size ≤ cur.size) : (Go.Sort.putCells id 0 F cur)[t]? = some F[t]! := by
  simp only [Go.Sort.putCells, Array.getElem?_mapIdx]
  rw [Array.getElem?_eq_getElem (by omega)]
  simp only [Option.map_some]
  rw [if_pos ⟨Nat.zero_le _, by omega⟩]
  simp
theorem sortFunc_ok {P : Program} {ρ : Go.Shelf.Ren} (L : Go.Proofs.SlLaysF0.n6 P ρ) {g : Nat} (he : Hearth.Enters P (ρ.f 6)) (hg : Hearth.Enters P g) {α : Type} (sz : Nat) (enc : α → List DV) (l : List α) (cf : α → α → Int) (dp : Bool)
    (aE : ∀ w, (isAgg (ρ.t 24)).run P w = .ok true w) (zE : ∀ w, (Go.sizeOf (ρ.t 24)).run P w = .ok sz w) (hsz : 0 < sz ∧ sz ≤ 64) (hne : l ≠ []) (hlt : l.length < 4611686018427387904)
    (hO : Go.Sort.SWO (Go.Proofs.ltOf fun i j : Fin l.length => cf l[i] l[j]))
    (hcmp : ∀ x ∈ l, ∀ y ∈ l, FnOK P g [.agg ((enc x).map .d), .agg ((enc y).map .d)] (fun ra _ => ra = [.one (.d (.sc (.int .i64 (cf x y))))])) :
    FnOK P (ρ.f 6) [.one (.arr false dp (.sl sz (l.map enc))), .one (.d (.sc (.func (.func g) #[] #[])))]
      (fun ra os => ∃ l' : List α, (l'.Perm l ∧ ∀ i j (h : i < j) (hj : j < l'.length), ¬ cf l'[j] l'[i] < 0) ∧ ra = [] ∧ os.a 0 = .sl sz (l'.map enc)) := by
  have hpos : 0 < l.length := List.length_pos_iff.2 hne
  haveI : Inhabited (Fin l.length) := ⟨⟨0, hpos⟩⟩
  refine ⟨he, fun w S Fs vs hs hv hdis hFl hS hF => ?_⟩
  have hs2 : vs.size = 2 := hs
  obtain ⟨_, hp0⟩ := (hv 0 _ vs[0] rfl (Array.getElem?_eq_getElem (by omega)))
  have hp1 : vs[1] = .func (.func g) #[] #[] := Pers.scEq (hv 1 _ vs[1] rfl (Array.getElem?_eq_getElem (by omega)))
  have hvs : vs = #[vs[0], .func (.func g) #[] #[]] := by
    apply Array.ext
    · simpa using hs2
    · intro i h1' h2'
      match i with
      | 0 => rfl
      | 1 => exact hp1
      | i + 2 => omega
  rcases hp0 with ⟨h0, _⟩ | ⟨b, cap, cur, e, us, FsN, g1, g2, g3, g4, g5, g6, g7, g8, g9, g10, g11⟩
  · exact absurd (by simpa [DV.rows] using h0) hne
  simp only [DV.rows, DV.esz] at g1 g4 g6 g7 g8 g11
  simp only [List.length_map] at g1 g4
  have hrow : ∀ i (hi : i < l.length), (l.map enc)[i]? = some (enc l[i]) := fun i hi => by simp [hi]
  have hencl : ∀ i (hi : i < l.length), (enc l[i]).length = sz := fun i hi => g7 i _ (hrow i hi)
  have hbw : b < w.heap.size := (hFl _ b g3).1
  -- the elements' cells
  let encV : Fin l.length → List Value := fun i => (List.range sz).map (us i.1)
  have hk : ∀ x, (encV x).length = sz := fun x => by simp [encV]
  have hEnc : ∀ (x : Fin l.length) (j : Nat), j < sz → (encV x)[j]? = some (us x.1 j) := fun x j hj => by simp [encV, hj]
  let d0 : Array (Fin l.length) := Array.ofFn id
  have hd0 : d0.size = l.length := by simp [d0]
  have hd0g : ∀ i (hi : i < l.length), d0[i]! = ⟨i, hi⟩ := fun i hi => by
    rw [getElem!_pos d0 i (by rw [hd0]; exact hi)]; simp [d0]
  have hcellW : ∀ t, t < l.length * sz → t / sz < l.length ∧ cur[t]? = some (us (t / sz) (t % sz)) := by
    intro t ht
    have hi : t / sz < l.length := Nat.div_lt_of_lt_mul (by rw [Nat.mul_comm]; exact ht)
    have hj : t % sz < sz := Nat.mod_lt _ hsz.1
    have := g8 (t / sz) (t % sz) _ ((enc l[t / sz])[t % sz]'(by rw [hencl _ hi]; exact hj)) (hrow _ hi) (List.getElem?_eq_getElem _)
    rw [Nat.div_add_mod' t sz] at this
    exact ⟨hi, this⟩
  have hH : Go.Sort.HoldsK encV sz w b 0 d0 := by
    intro t ht
    rw [Go.Sort.size_flatK, hd0] at ht
    obtain ⟨hi, hc⟩ := hcellW t ht
    have hj : t % sz < sz := Nat.mod_lt _ hsz.1
    refine ⟨?_, ?_⟩
    · rw [Go.Sort.get_flatK _ _ _ _ (by rw [hd0]; exact ht), hd0g _ hi, List.getElem!_of_getElem? (hEnc ⟨t / sz, hi⟩ (t % sz) hj)]
      simp only [World.cell?, g2, Nat.zero_add]
      exact hc
    · simp [World.frozen?, g2]
  have h1 : ∀ x, ∀ v ∈ encV x, v.oneCell' = true := by
    intro x v hv
    simp only [encV, List.mem_map, List.mem_range] at hv
    obtain ⟨j, hj, rfl⟩ := hv
    exact (g11 x.1 j _ _ (hrow x.1 x.2) (List.getElem?_eq_getElem (by rw [hencl x.1 x.2]; exact hj))).one
  have hS' : ∀ c, S c → c < w.heap.size ∧ c ≠ b := fun c hc => ⟨hS c hc, fun e => (hFl _ b g3).2 (e ▸ hc)⟩
  have pers : ∀ (i j : Nat) (hi : i < l.length) (d : DV), (enc l[i])[j]? = some d → ∀ W : World, (∀ c, c < w.heap.size → c ≠ b → W.heap[c]? = w.heap[c]?) → Pers W (fun c => c < w.heap.size ∧ c ≠ b) d (us i j) := by
    intro i j hi d hd W hW
    have := (g11 i j _ d (hrow i hi) hd).toPers (S' := fun c => c < w.heap.size ∧ c ≠ b) hS' (fun c hc => ⟨(hFl _ c (g9 i j c hc).1).1, (g9 i j c hc).2⟩)
    exact this.mono fun c hc => ⟨hW c hc.1 hc.2, hc⟩
  have hC : Go.Proofs.CmpLays P g #[] encV sz (fun i j => cf l[i] l[j]) b 0 d0.size w := by
    intro m os dk hdk x y
    generalize hW : Go.Proofs.sortWorldK encV sz w b 0 m dk os = W
    have hWs : ∀ c, c < w.heap.size → c ≠ b → W.heap[c]? = w.heap[c]? := fun c h1 h2 => by rw [← hW]; exact sortWorldK_same h1 h2
    have hWz : w.heap.size ≤ W.heap.size := by rw [← hW]; exact sortWorldK_size
    have one : ∀ (x : Fin l.length) (Fs' : Nat → Nat → Prop) (t : Nat), GAr P W (fun c => c < w.heap.size ∧ c ≠ b) (fun b => b < W.heap.size ∧ ∀ q, ¬ (fun _ _ => False : Nat → Nat → Prop) q b) t Fs' (.agg ((enc l[x]).map .d)) (.agg (encV x).toArray) := by
      intro x Fs' t
      refine ⟨_, rfl, by simp [hk, hencl x.1 x.2], by simp [hencl x.1 x.2]; exact hsz.2, fun k p u hp hu => ?_⟩
      simp only [List.getElem?_map, Option.map_eq_some_iff] at hp
      obtain ⟨d, hd, rfl⟩ := hp
      have hks : k < sz := by rw [← hencl x.1 x.2]; exact (List.getElem?_eq_some_iff.1 hd).1
      have : u = us x.1 k := by
        have h2 := hEnc x k hks
        simp only [List.getElem?_toArray] at hu
        rw [h2] at hu; simpa using hu.symm
      rw [this]
      exact pers x.1 k x.2 d hd W hWs
    have key := (hcmp l[x] (List.getElem_mem x.2) l[y] (List.getElem_mem y.2)).2 W (fun c => c < w.heap.size ∧ c ≠ b) (fun _ _ => False) #[.agg (encV x).toArray, .agg (encV y).toArray] rfl (fun t ga v h1 h2 => by
        match t with
        | 0 => simp at h1 h2; subst h1; subst h2; exact one x _ _
        | 1 => simp at h1 h2; subst h1; subst h2; exact one y _ _
        | t + 2 => simp at h1) (fun _ _ _ h => h.elim) (fun _ _ h => h.elim) (fun c hc => Nat.lt_of_lt_of_le hc.1 hWz) (fun _ _ h => h.elim)
    rw [Array.append_empty]
    refine key.mono ?_
    rintro e w' ⟨v, ra, os', G, rfl, rfl, hx, hf, ⟨rs, rfl, hr1, hr2⟩, _⟩
    have hr1' : rs.size = 1 := hr1
    rw [dif_pos hr1']
    have := Pers.scEq (hr2 0 _ rs[0] rfl (Array.getElem?_eq_getElem (by omega)))
    exact ⟨by rw [this], ext_grown hx (by rintro c ⟨q, h⟩; exact h)⟩
  have eg : ∀ args w, (callFunc g args).run P w = .ok (.enter g args) w := fun args w => Hearth.run_callFunc hg args
  have main := Go.Proofs.AnyQ.slices_SortFunc L sz aE zE encV hk h1 (fun i j => cf l[i] l[j]) hO g #[] b 0 cap d0 w eg hC hH hbw (by rw [hd0]; exact hlt)
  have hvs' : vs = #[.slice (some ⟨b, 0, none⟩) d0.size cap, .func (.func g) #[] #[]] := hvs.trans (by rw [g1, hd0])
  have main2 : Calls P (ρ.f 6) vs w fun e w' => e = .returned (.tuple #[]) ∧ ∃ d' n os, Go.Sort.PermIn 0 d0.size d0 d' ∧ Go.Sort.SortedIn (Go.Proofs.ltOf fun i j : Fin l.length => cf l[i] l[j]) 0 d0.size d' ∧ w' = Go.Proofs.sortWorldK encV sz w b 0 n d' os := by
    rw [hvs']; exact main
  refine main2.mono ?_
  clear main main2 hC hH
  rintro e w' ⟨rfl, d', n, os, ⟨p1, _, p3⟩, hsorted, rfl⟩
  have hn : d'.size = l.length := p1.trans hd0
  have p4 : d'.toList.Perm d0.toList := by
    have a1 : d'.extract 0 d0.size = d' := by rw [← p1]; simp
    have a2 : d0.extract 0 d0.size = d0 := by simp
    rwa [a1, a2] at p3
  have hget : ∀ i (hi : i < l.length), d'[i]! = d'[i]'(by rw [hn]; exact hi) := fun i hi => getElem!_pos d' i (by rw [hn]; exact hi)
  have hnd : d'.toList.Nodup := by
    refine p4.nodup_iff.2 ?_
    rw [List.nodup_iff_pairwise_ne, List.pairwise_iff_getElem]
    intro i j hi hj hij e
    simp [d0] at e
    omega
  have hinj : ∀ i i', i < l.length → i' < l.length → (d'[i]!).1 = (d'[i']!).1 → i = i' := by
    intro i i' hi hi' e
    rw [hget i hi, hget i' hi'] at e
    have e2 : d'.toList[i]'(by simpa [hn] using hi) = d'.toList[i']'(by simpa [hn] using hi') := by
      simp only [Array.getElem_toList]
      exact Fin.ext e
    rcases Nat.lt_trichotomy i i' with h | h | h
    · exact absurd e2 (List.pairwise_iff_getElem.1 hnd i i' _ _ h)
    · exact h
    · exact absurd e2.symm (List.pairwise_iff_getElem.1 hnd i' i _ _ h)
  let l' : List α := d'.toList.map fun i => l[i]
  have hl' : l'.length = l.length := by simp [l', hn]
  have hl'g : ∀ i (hi : i < l.length), l'[i]'(by rw [hl']; exact hi) = l[(d'[i]!).1] := by
    intro i hi
    simp only [l', List.getElem_map, Array.getElem_toList, hget i hi]
    rfl
  have hperm : l'.Perm l := by
    have h2 : (d0.toList.map fun i => l[i]) = l := by
      apply List.ext_getElem
      · simp [hd0]
      · intro i h1 h2
        simp [d0]
    have h3 := p4.map fun i : Fin l.length => l[i]
    rwa [h2] at h3
  refine ⟨.tuple #[], [], ⟨fun _ => .sl sz (l'.map enc), fun _ => []⟩, fun _ _ => False, rfl, ⟨l', ⟨hperm, fun i j h hj => ?_⟩, rfl, rfl⟩, ⟨rfl, rfl, rfl, sortWorldK_size, fun c hc hM => sortWorldK_same hc fun e => hM ⟨_, e ▸ g3⟩, Nat.le_add_right _ _⟩,
    ⟨fun _ _ _ h => h.elim, fun _ _ h => h.elim, fun _ _ h => h.elim⟩, ⟨#[], rfl, rfl, fun t a u h => by simp at h⟩, fun t k ga v p u hga hvt hp hu => ?_⟩
  · have hj' : j < l.length := hl' ▸ hj
    have := hsorted i j (Nat.zero_le _) h (by rw [hd0]; exact hj')
    simp only [Go.Proofs.ltOf, decide_eq_false_iff_not] at this
    rw [hl'g j hj', hl'g i (by omega)]
    exact this
  · match t with
    | 1 =>
      simp at hga; subst hga
      simp only [GA.at] at hp
      split at hp
      · simp at hp; subst hp; trivial
      · simp at hp
    | t + 2 => simp at hga
    | 0 =>
      simp at hga; subst hga
      simp only [GA.at] at hp
      split at hp
      · rename_i hk0
        subst hk0
        simp at hp; subst hp
        simp only at hu ⊢
        rw [hu]
        have hv0 : v = .slice (some ⟨b, 0, none⟩) l.length cap := by
          rw [Array.getElem?_eq_getElem (by omega)] at hvt
          simp at hvt
          rw [← hvt, g1]
        have hrow' : ∀ (i : Nat) (cs : List DV), (l'.map enc)[i]? = some cs → ∃ hi : i < l.length, cs = enc l[(d'[i]!).1] := by
          intro i cs h
          have hi : i < l.length := by
            have := (List.getElem?_eq_some_iff.1 h).1
            simpa [hl'] using this
          refine ⟨hi, ?_⟩
          rw [List.getElem?_map, List.getElem?_eq_getElem (by rw [hl']; exact hi), hl'g i hi] at h
          simpa using h.symm
        refine ⟨rfl, rfl, .inr ⟨b, cap, Go.Sort.putCells id 0 (Go.Sort.flatK encV sz d') cur, e, fun i j => us (d'[i]!).1 j, fun i j c => i < l.length ∧ FsN (d'[i]!).1 j c, by rw [hv0]; simp [DV.rows, hl'], sortWorldK_row g2, g3, by simpa [DV.rows, hl'] using g4, g5, by rw [putCells_size]; exact g6, ?_, ?_, fun i j c hc => g9 _ j c hc.2, ?_, ?_⟩⟩
        · intro i cs hcs
          obtain ⟨hi, rfl⟩ := hrow' i cs hcs
          exact hencl _ _
        · intro i j cs d hcs hd
          obtain ⟨hi, rfl⟩ := hrow' i cs hcs
          have hj : j < sz := by rw [← hencl (d'[i]!).1 (d'[i]!).2]; exact (List.getElem?_eq_some_iff.1 hd).1
          have ht : i * sz + j < d'.size * sz := by
            rw [hn]
            have := Nat.mul_le_mul_right sz (show i + 1 ≤ l.length from hi)
            rw [Nat.add_mul, Nat.one_mul] at this
            omega
          have hsz2 : (Go.Sort.flatK encV sz d').size ≤ cur.size := by
            rw [Go.Sort.size_flatK, hn, g6]
            exact Nat.mul_le_mul_right _ g4
          show (Go.Sort.putCells id 0 (Go.Sort.flatK encV sz d') cur)[i * sz + j]? = some (us (d'[i]!).1 j)
          rw [putCells_at (by rw [Go.Sort.size_flatK]; exact ht) hsz2, Go.Sort.get_flatK _ _ _ _ ht]
          have e1 : (i * sz + j) / sz = i := by rw [Nat.mul_comm, Nat.mul_add_div hsz.1, Nat.div_eq_of_lt hj, Nat.add_zero]
          have e2 : (i * sz + j) % sz = j := by rw [Nat.mul_comm, Nat.mul_add_mod, Nat.mod_eq_of_lt hj]
          rw [e1, e2, List.getElem!_of_getElem? (hEnc (d'[i]!) j hj)]
        · intro i j i' j' c h1 h2
          obtain ⟨e1, e2⟩ := g10 _ _ _ _ c h1.2 h2.2
          exact ⟨hinj i i' h1.1 h2.1 e1, e2⟩
        · intro i j cs d hcs hd
          obtain ⟨hi, rfl⟩ := hrow' i cs hcs
          refine (g11 (d'[i]!).1 j _ d (hrow _ (d'[i]!).2) hd).mono (fun h => h) (fun c hc => ⟨sortWorldK_same (hS' c hc).1 (hS' c hc).2, Nat.lt_of_lt_of_le (hS' c hc).1 sortWorldK_size, .inl hc, fun _ h => h⟩) _ fun c hc => ⟨sortWorldK_same (hFl _ c (g9 _ j c hc).1).1 (g9 _ j c hc).2, hi, hc⟩
      · simp at hp

def lays_slices_SortFunc_Limpl_Rr_impl_Rr_ren : Go.Shelf.Ren := ⟨fun | 6 => 149 | 15 => 232 | 14 => 231 | 28 => 295 | 29 => 296 | 20 => 287 | 21 => 288 | 22 => 289 | 23 => 290 | 24 => 291 | 25 => 292 | 26 => 293 | 27 => 294 | 46 => 325 | 47 => 326 | 48 => 327 | 49 => 328 | 50 => 329 | 57 => 347 | n => n, fun | 22 => 35 | 24 => 42 | 25 => 111 | 3 => 3 | 39 => 180 | 0 => 0 | 53 => 267 | 55 => 269 | 4 => 4 | 46 => 260 | 45 => 259 | 50 => 264 | 5 => 5 | 9 => 9 | 66 => 288 | 70 => 292 | 76 => 306 | 77 => 124 | n => n, fun | n => n⟩
theorem lays_slices_SortFunc_Limpl_Rr_impl_Rr : Go.Proofs.SlLaysF0.n6 Tryz.prog lays_slices_SortFunc_Limpl_Rr_impl_Rr_ren := {
  mixed := by kernel_rfl
  f6 := ⟨Tryz.f149.name, by decide, Tryz.func149.trans (congrArg some (by kernel_rfl))⟩
  f14 := ⟨Tryz.f231.name, by decide, Tryz.func231.trans (congrArg some (by kernel_rfl))⟩
  f15 := Tryz.func232.trans (congrArg some (by kernel_rfl))
  f20 := ⟨Tryz.f287.name, by decide, Tryz.func287.trans (congrArg some (by kernel_rfl))⟩
  f21 := ⟨Tryz.f288.name, by decide, Tryz.func288.trans (congrArg some (by kernel_rfl))⟩
  f22 := ⟨Tryz.f289.name, by decide, Tryz.func289.trans (congrArg some (by kernel_rfl))⟩
  f23 := ⟨Tryz.f290.name, by decide, Tryz.func290.trans (congrArg some (by kernel_rfl))⟩
  f24 := ⟨Tryz.f291.name, by decide, Tryz.func291.trans (congrArg some (by kernel_rfl))⟩
  f25 := ⟨Tryz.f292.name, by decide, Tryz.func292.trans (congrArg some (by kernel_rfl))⟩
  f26 := ⟨Tryz.f293.name, by decide, Tryz.func293.trans (congrArg some (by kernel_rfl))⟩
  f27 := ⟨Tryz.f294.name, by decide, Tryz.func294.trans (congrArg some (by kernel_rfl))⟩
  f28 := Tryz.func295.trans (congrArg some (by kernel_rfl))
  f29 := Tryz.func296.trans (congrArg some (by kernel_rfl))
  f46 := ⟨Tryz.f325.name, by decide, Tryz.func325.trans (congrArg some (by kernel_rfl))⟩
  f47 := Tryz.func326.trans (congrArg some (by kernel_rfl))
  f48 := Tryz.func327.trans (congrArg some (by kernel_rfl))
  f49 := ⟨Tryz.f328.name, by decide, Tryz.func328.trans (congrArg some (by kernel_rfl))⟩
  f50 := ⟨Tryz.f329.name, by decide, Tryz.func329.trans (congrArg some (by kernel_rfl))⟩
  f57 := ⟨Tryz.f347.name, by decide, Tryz.func347.trans (congrArg some (by kernel_rfl))⟩
  t0 := Tryz.underlying0
  a0 := Tryz.isAgg0
  z0 := Tryz.sizeOf0
  v0 := Tryz.zeroValue0
  t3 := Tryz.underlying3
  a3 := Tryz.isAgg3
  z3 := Tryz.sizeOf3
  v3 := Tryz.zeroValue3
  t4 := Tryz.underlying4
  a4 := Tryz.isAgg4
  z4 := Tryz.sizeOf4
  v4 := Tryz.zeroValue4
  t5 := Tryz.underlying5
  a5 := Tryz.isAgg5
  z5 := Tryz.sizeOf5
  v5 := Tryz.zeroValue5
  t9 := Tryz.underlying9
  a9 := Tryz.isAgg9
  z9 := Tryz.sizeOf9
  v9 := Tryz.zeroValue9
  t22 := Tryz.underlying35
  a22 := Tryz.isAgg35
  z22 := Tryz.sizeOf35
  v22 := Tryz.zeroValue35
  t25 := Tryz.underlying111
  a25 := Tryz.isAgg111
  z25 := Tryz.sizeOf111
  v25 := Tryz.zeroValue111
  t39 := Tryz.underlying180
  a39 := Tryz.isAgg180
  z39 := Tryz.sizeOf180
  v39 := Tryz.zeroValue180
  t45 := Tryz.underlying259
  a45 := Tryz.isAgg259
  z45 := Tryz.sizeOf259
  v45 := Tryz.zeroValue259
  t46 := Tryz.underlying260
  a46 := Tryz.isAgg260
  z46 := Tryz.sizeOf260
  v46 := Tryz.zeroValue260
  t50 := Tryz.underlying264
  a50 := Tryz.isAgg264
  z50 := Tryz.sizeOf264
  v50 := Tryz.zeroValue264
  t53 := Tryz.underlying267
  a53 := Tryz.isAgg267
  z53 := Tryz.sizeOf267
  v53 := Tryz.zeroValue267
  t55 := Tryz.underlying269
  a55 := Tryz.isAgg269
  z55 := Tryz.sizeOf269
  v55 := Tryz.zeroValue269
  t66 := Tryz.underlying288
  a66 := Tryz.isAgg288
  z66 := Tryz.sizeOf288
  v66 := Tryz.zeroValue288
  t70 := Tryz.underlying292
  a70 := Tryz.isAgg292
  z70 := Tryz.sizeOf292
  v70 := Tryz.zeroValue292
  t76 := Tryz.underlying306
  a76 := Tryz.isAgg306
  z76 := Tryz.sizeOf306
  v76 := Tryz.zeroValue306
  t77 := Tryz.underlying124
  a77 := Tryz.isAgg124
  z77 := Tryz.sizeOf124
  v77 := Tryz.zeroValue124 }
theorem ok_slices_SortFunc_Limpl_Rr_impl_Rr (l : List Rr) (dp : Bool) (hl : ∀ r ∈ l, SmallR r) (hne : l ≠ []) (hlen : l.length ≤ 4194304) :
    FnOK Tryz.prog 149 [.one (.arr false dp (encR l)), .one (.d (.sc (.func (.func 94) #[] #[])))]
      (fun ra os => ∃ l' : List Rr, (l'.Perm l ∧ ∀ i j (h : i < j) (hj : j < l'.length), ¬ cmpR l'[j] l'[i] < 0) ∧ ra = [] ∧ os.a 0 = encR l') := by
  refine sortFunc_ok (ρ := lays_slices_SortFunc_Limpl_Rr_impl_Rr_ren) lays_slices_SortFunc_Limpl_Rr_impl_Rr ⟨_, Tryz.func149, rfl, by kernel_rfl⟩ ⟨_, Tryz.func94, rfl, by kernel_rfl⟩ 7 Rr.cells l cmpR dp Tryz.isAgg42 Tryz.sizeOf42 (by decide) hne (by omega) ?_ (fun x hx y hy => ok_impl_Rr_compare x y (hl x hx) (hl y hy))
  refine ⟨fun i => ?_, fun i j k h1 h2 => ?_, fun i j k h1 h2 => ?_⟩
  · simp [Go.Proofs.ltOf, cmpR_self]
  · simp only [Go.Proofs.ltOf, decide_eq_true_eq] at h1 h2 ⊢
    exact cmpR_cmp.lt h1 h2
  · simp only [Go.Proofs.ltOf, decide_eq_false_iff_not] at h1 h2 ⊢
    have e1 := cmpR_cmp.neg l[i] l[j]
    have e2 := cmpR_cmp.neg l[j] l[k]
    have e3 := cmpR_cmp.neg l[i] l[k]
    have := cmpR_cmp.tr l[k] l[j] l[i] (by omega) (by omega)
    omega

section
variable {P : Program} {k : List It} {Q : Ex → St → Prop} {s : St} {r : T} {d : Option Nat} {q : Bool} {oi : Nat} {tags : List Nat}
theorem kCallEA {α : Type} {C : α → Prop} {f : α → List RA} {g : α → DV} {e fn : Nat} {args : List X} {gas : List GA} {p id v ev : Nat} {dp : Bool} {y : DV}
    (hok : FnOK P fn gas (fun ra' os => ∃ x, C x ∧ ra' = f x ∧ os.a p = g x)) (hm : matchGs P s (args.map s.ev) gas) (hb : callB s e (args.map s.ev) gas false = true)
    (hbs : bindGs 0 (args.map s.ev) gas = [(p, id, false)]) (ho : s.ob id = ⟨v, ev, .arr dp y⟩) (hl : ∀ x, decide ((f x).length ≤ 64) = true)
    (h : ∀ x, C x → kont P (.t r tags :: k) Q .normal ((s.after e (f x) [(p, id, false)] ⟨fun _ => g x, fun _ => []⟩).put d (resV s e (f x)))) : kont P (.t (.op oi [] d none q (.call e fn args) r) tags :: k) Q .normal s :=
  kCall false hok hm hb nofun (fun ra' _ ⟨x, _, e1, _⟩ => by rw [e1]; simpa using hl x) (fun ra' os ⟨x, hC, e1, hy⟩ => by
    subst e1
    rw [hbs, after_congr (os' := ⟨fun _ => g x, fun _ => []⟩) ho hy]
    exact h x hC)
end
theorem rd_subR {α : Type} {f : α → List DV} {l : List α} {s : St} {id ver ev i j sz : Nat} {dp : Bool} {d : DV} (ho : s.ob id = ⟨ver, ev, .arr dp (.sl sz (l.map f))⟩) (hi : i < l.length) (hd : (f l[i])[j]? = some d) : s.rd (.sub id ver ev i j) = some d := by
  simp only [St.rd, St.obj, ho, if_true]
  have h1 : (DV.sl sz (l.map f)).rows[i]? = some (f l[i]) := by simp [DV.rows, hi]
  rw [DV.at_eq h1 hd]
def withL (l : List Rr) (r : Rr) : List Rr := ((l.filter fun o => !(cmpR o r == 0)) ++ [r]).map (ttlR r)
def c_impl_Zone_with : C := (.g (.o 0 2 (.box 2 (.t 0)) (.o 1 3 (.box 3 (.t 1)) (.o 2 4 (.alloc 4 [(.n 1), (.n 7)]) .done))) (.g (.o 0 8 (.load (some 2) (.t 2)) (.o 1 9 (.clo 147 [] [(.t 3)]) (.o 2 10 (.call 10 146 [(.t 8), (.t 9)]) (.o 3 5 (.alloc 5 [(.n 1), (.n 7)]) (.op 4 [] none none false (.store (some 2) (.t 5) (.t 10)) .done))))) (.g (.o 0 11 (.fad (.t 5) 1) (.o 1 12 (.load none (.t 11)) (.o 2 13 (.load (some 7) (.t 3)) (.o 3 14 (.lit 14 7 [(.n 1), (.i 0), (.i 0), (.i 0), (.n 1), (.n 1), (.n 1)] 1 [(0, 7, (.t 13))]) (.o 4 15 (.app 15 7 120 (.t 12) (.t 14)) (.o 5 16 (.fad (.t 5) 1) (.op 6 [] none none false (.store none (.t 16) (.t 15)) .done))))))) (.seq (.g (.o 0 17 (.fad (.t 5) 1) (.o 1 18 (.load none (.t 17)) (.o 2 19 (.len (.t 18)) (.o 3 20 (.mov (.i 0)) .done)))) (.block 0 (.loop (.g (.o 0 21 (.bin .lss (.t 20) (.t 19)) .done) (.seq (.cond (.t 21) .skip (.exit 0)) (.seq (.block 1 (.g (.o 0 22 (.mov (.t 20)) (.o 1 23 (.iad 7 (.t 18) (.t 20)) (.o 2 24 (.load (some 7) (.t 23)) (.o 3 7 (.alloc 7 [(.n 1), (.i 0), (.i 0), (.i 0), (.n 1), (.n 1), (.n 1)]) (.o 4 6 (.mov (.t 22)) (.op 5 [] none none false (.store (some 7) (.t 7) (.t 24)) .done)))))) (.g (.o 0 25 (.fad (.t 7) 0) (.o 1 26 (.load (some 1) (.t 25)) (.o 2 27 (.fad (.t 3) 0) (.o 3 28 (.load (some 1) (.t 27)) (.o 4 29 (.call 29 96 [(.t 26), (.t 28)]) (.o 5 30 (.mov (.t 29)) (.op 6 [] (some 31) (some (30, true)) false (.fad (.t 7) 1) (.op 7 [] (some 32) (some (30, true)) false (.load none (.t 31)) (.op 8 [] (some 33) (some (30, true)) false (.fad (.t 3) 1) (.op 9 [] (some 34) (some (30, true)) false (.load none (.t 33)) (.op 10 [] (some 35) (some (30, true)) false (.bin .eql (.t 32) (.t 34)) (.o 11 36 (.pick (.t 30) (.t 35) (.v (.bool false))) .done)))))))))))) (.cond (.t 36) (.reg false (.o 0 37 (.fad (.t 5) 1) (.o 1 38 (.load none (.t 37)) (.o 2 39 (.mov (.t 6)) (.o 3 40 (.fad (.t 3) 2) (.o 4 41 (.load none (.t 40)) (.o 5 42 (.iad 7 (.t 38) (.t 39)) (.o 6 43 (.fad (.t 42) 2) (.op 7 [] none none false (.store none (.t 43) (.t 41)) .done))))))))) .skip)))) (.reg false (.o 0 44 (.bin .add (.t 20) (.i 1)) (.o 1 20 (.mov (.t 44)) .done))))))))) (.g (.o 0 45 (.fad (.t 5) 1) (.o 1 46 (.load none (.t 45)) (.o 2 47 (.call 47 149 [(.t 46), (.fn 94)]) .done))) (.g (.o 0 48 (.load (some 2) (.t 5)) (.op 1 [] none none false (.store (some 2) (.t 4) (.t 48)) .done)) .ret))))))
theorem dg_impl_Zone_with : Tryz.f61.body.bind (digC Tryz.prog Tryz.f61.ntmps []) = some c_impl_Zone_with := by kernel_rfl
theorem rs_impl_Zone_with : resSlots Tryz.prog Tryz.f61 = some [.m 4 (some 2)] := by kernel_rfl
theorem ok_impl_Zone_with (z : Zone) (r : Rr) (hs : SmallZ z) (hr : SmallR r) (hzb : z.rrs.length ≤ 1000000) :
    FnOK Tryz.prog 61 [.agg (z.cells.map .d), .agg (r.cells.map .d)] (fun ra _ => ∃ l : List Rr, (l.Perm (withL z.rrs r) ∧ ∀ i j (h : i < j) (hj : j < l.length), ¬ cmpR l[j] l[i] < 0) ∧ ra = [.agg [.d (encBB z.origin), .own false (encR l)]]) := by
  refine FnOK.ofK Tryz.func61 (by kernel_rfl) dg_impl_Zone_with rs_impl_Zone_with rfl rfl ?_
  delta c_impl_Zone_with T.o X.i C.g
  have hzl := hs.r.len
  have hzm := hs.r.mem
  refine Kbc (kBox Y Y Y Y Y (kBox Y Y Y Y Y (kAlloc Y Y (Kdb (Kc (Ke Y Y Y (kClo Y Y ?_)))))))
  refine Ku false (ok_impl_Zone_kept_own z SmallR (fun o => !(cmpR o r == 0)) hs hs.r.mem) ⟨⟨⟨Y, Y, trivial⟩, leb⟩, ⟨rfl, ⟨_, Tryz.func147, rfl, by kernel_rfl⟩, _, rfl, ?_⟩, trivial⟩ rfl rfl rfl fun os => ?_
  · rintro _ R ⟨x, hx, rfl, rfl⟩
    exact ⟨by rintro _ rfl; rfl, ok_impl_Zone_with_1 x r hx hr⟩
  have hfl := List.length_filter_le (fun o => !(cmpR o r == 0)) z.rrs
  refine kAlloc Y Y (kMem [(24576, ⟨1, 0, .box [.nil 1, .nil 7]⟩), (45057, ⟨1, 0, .arr false _⟩)] [(5, .c (.ptr 24576 1 0)), (10, .g [.d _, .arr 45057 1])] [] ⟨Y, Y, trivial⟩ ⟨Y, Y, trivial⟩ Y (Ko Y Y Y Y (Kdb (Kc (Kf Y Y (Ke Y Y Y (Ke Y Y Y (kLitG Y Y Y Y (kAppRec Y Y Y Y Y Y Y prl (kMem [(24576, ⟨1, 0, .box [.d _, .arr 45057 1]⟩), (45057, ⟨2, 0, .arr false _⟩)] [(5, .c (.ptr 24576 1 0)), (16, .c (.un)), (15, .c (.arr 45057 2))] [] ⟨Y, Y, trivial⟩ ⟨Y, Y, Y, trivial⟩ Y (Kf Y Y (Ko Y Y Y Y (Kdb (Kbc (Kf Y Y (Ke Y Y Y (Kq Y Y (Ka Y (Kd (Kt ?_))))))))))))))))))))
  obtain ⟨L, hL⟩ : ∃ L, L = (z.rrs.filter fun o => !(cmpR o r == 0)) ++ [r] := ⟨_, rfl⟩
  have hLs : ∀ x ∈ L, SmallR x := by
    rw [hL]
    intro x hx
    rcases List.mem_append.1 hx with hx | hx
    · exact hzm x (List.mem_filter.1 hx).1
    · simp only [List.mem_singleton] at hx; rw [hx]; exact hr
  have hLl : L.length ≤ 4194304 := by rw [hL, List.length_append, List.length_singleton]; omega
  have hLn : L ≠ [] := by rw [hL]; simp
  have hw : withL z.rrs r = L.map (ttlR r) := by rw [hL]; rfl
  rw [hw]
  refine kLoop (α := { y : Nat × List Rr // y.1 ≤ L.length ∧ y.2 = (L.take y.1).map (ttlR r) ++ L.drop y.1 }) (fun y => ⟨tabSl [(3, .c (.ptr (rid 3 0) 1 0)), (4, .c (.ptr (rid 4 0) 1 0)), (5, .c (.ptr (rid 5 0) 1 0)), (18, .c (.arr (rid 10 1) 1)), (19, .i L.length), (20, .i y.1.1)], obTab 1 [(rid 3 0, ⟨1, 0, .box (r.cells.map .d)⟩), (rid 4 0, ⟨1, 0, .box [.nil 1, .nil 7]⟩), (rid 5 0, ⟨1, 0, .box [.d (encBB z.origin), .arr (rid 10 1) 1]⟩), (rid 10 1, ⟨1, 0, .arr false (encR y.1.2)⟩)], []⟩) (fun y => L.length - y.1.1) ⟨(0, L), Nat.zero_le _, by simp⟩ (by rw [hL]; exact .normA) ?_
  rintro ⟨⟨i, V⟩, hi, hV⟩
  simp only at hi hV ⊢
  have hVl : V.length = L.length := by rw [hV]; simp; omega
  have hVs : ∀ x ∈ V, SmallR x := by
    rw [hV]
    intro x hx
    rcases List.mem_append.1 hx with hx | hx
    · obtain ⟨y, hy, rfl⟩ := List.mem_map.1 hx
      exact ttlR_small (hLs y (List.mem_of_mem_take hy))
    · exact hLs x (List.mem_of_mem_drop hx)
  rcases Nat.lt_or_ge i L.length with hlt | hge
  · have hiV : i < V.length := by omega
    have hVi : V[i] = L[i] := by
      simp only [hV]
      rw [List.getElem_append_right (by simp; omega)]
      simp; congr 1; omega
    have hsm := hVs _ (List.getElem_mem hiV)
    have hstep : V.set i (ttlR r L[i]) = (L.take (i + 1)).map (ttlR r) ++ L.drop (i + 1) := by
      rw [hV, List.set_append_right _ _ (by simp; omega)]
      rw [show i - (List.map (ttlR r) (List.take i L)).length = 0 by simp; omega, List.drop_eq_getElem_cons hlt, List.set_cons_zero, ← List.take_append_getElem hlt, List.map_append]
      simp
    have hn1 := hsm.n.len
    have hn2 := hr.n.len
    refine Kbc (Kj Y Y Y (Kdb (Km Y (fun g0 => Kn (Kb (Kt (Kbc (Ka Y (kIadAR Y Y Y Y prl (kLoadER Y Y prl rfl (kAlloc Y Y (Ka Y (kMem [(32768, ⟨2, 0, .box [.nil 1, .d _, .d _, .d _, .nil 1, .nil 1, .nil 1]⟩)] [(7, .c (.ptr 32768 2 0))] [] ⟨Y, trivial⟩ ⟨Y, trivial⟩ Y (Ko Y Y Y Y (Kdb (Kc (Kf Y Y (Ke Y Y Y (Kf Y Y (Ke Y Y Y ?_))))))))))))))))) (fun g0 => om))))
    refine Kp (ok_impl_Name_is V[i].name r.name hn1 hn2) ⟨⟨⟨rd_subR rfl hiV rfl, trivial⟩, leb⟩, ⟨⟨Y, trivial⟩, leb⟩, trivial⟩ Y Y Y Y Y ?_
    refine Ka Y (kGP Y (fun g0 => Ki Y (Kf Y Y (kMem [(16384, ⟨1, 0, .box [.d _, .d _, .d _, .d _, .d _, .d _, .d _]⟩)] [(31, .c (.ptr 32768 2 1)), (3, .c (.ptr 16384 1 0)), (30, .c (.d _))] [] ⟨Y, trivial⟩ ⟨Y, Y, Y, trivial⟩ Y (Ki Y (Ke Y Y Y (Ki Y (Kf Y Y (Ki Y (Ke Y Y Y (Ki Y (Kj Y Y Y (Kk Y (Ka Y (Kd (Km Y (fun g1 => Kc (Kf Y Y (Ke Y Y Y (Ka Y (Kf Y Y (kMem [(16384, ⟨1, 0, .box [.d _, .d _, .d _, .d _, .d _, .d _, .d _]⟩), (45057, ⟨1, 0, .arr false _⟩)] [(40, .c (.ptr 16384 1 2)), (38, .c (.arr 45057 1)), (39, .c (.d _))] [] ⟨Y, Y, trivial⟩ ⟨Y, Y, Y, trivial⟩ Y (Ke Y Y Y (kIadAR Y Y Y Y prl (kFadE Y Y ?_))))))))) (fun g1 => Kn (Kv (Kc (kAdd Y Y om (Ka Y (Kd ?_))))))))))))))))))))) (fun g0 => Kg Y (kMem [(16384, ⟨1, 0, .box [.d _, .d _, .d _, .d _, .d _, .d _, .d _]⟩)] [(31, .c (.un)), (3, .c (.ptr 16384 1 0)), (30, .c (.d _))] [] ⟨Y, trivial⟩ ⟨Y, Y, Y, trivial⟩ Y (Kg Y (Kg Y (Kg Y (Kg Y (Kl Y (Ka Y (Kd (kCondF Y (Kn (Kv (Kc (kAdd Y Y om (Ka Y (Kd ?_)))))))))))))))))
    · refine kStoreER (f := Rr.cells) (l := V) (i := i) (z := { V[i] with ttl := r.ttl }) Y Y Y Y Y Y Y hiV rfl ?_
      have he : ttlR r L[i] = { V[i] with ttl := r.ttl } := by rw [← hVi]; unfold ttlR; rw [if_pos ⟨by assumption, by assumption⟩]
      refine Kd (Kv (Kc (kAdd Y Y om (Ka Y (Kd ?_)))))
      exact kInv ⟨⟨(i + 1, V.set i { V[i] with ttl := r.ttl }), by omega, by rw [← he]; exact hstep⟩, by simp only; omega, .normA⟩
    · have he : ttlR r L[i] = L[i] := by rw [← hVi]; unfold ttlR; rw [if_neg (fun h => absurd h.2 (by assumption))]
      exact kInv ⟨⟨(i + 1, V), by omega, by rw [← hstep, he, ← hVi, List.set_getElem_self]⟩, by simp only; omega, .normA⟩
    · have he : ttlR r L[i] = L[i] := by rw [← hVi]; unfold ttlR; rw [if_neg (fun h => absurd h.1 (by assumption))]
      exact kInv ⟨⟨(i + 1, V), by omega, by rw [← hstep, he, ← hVi, List.set_getElem_self]⟩, by simp only; omega, .normA⟩
  · have hiL : i = L.length := by omega
    have hVe : V = L.map (ttlR r) := by rw [hV, hiL]; simp
    refine Kbc (Kj Y Y Y (Kdb (Km Y (fun g0 => om) (fun g0 => kExit (kExC (kExI (kExB (Kbc (Kf Y Y (Ke Y Y Y ?_))))))))))
    refine kCallEA (ok_slices_SortFunc_Limpl_Rr_impl_Rr V false hVs (by rw [hVe]; simpa using hLn) om) ⟨⟨false, rfl, .inl rfl⟩, rfl, trivial⟩ Y Y Y (fun _ => rfl) (fun l' hl' => ?_)
    rw [hVe] at hl'
    refine Kdb (Kc (Ke Y Y Y (kMem [(20480, ⟨1, 0, .box [.nil 1, .nil 7]⟩), (45057, ⟨1, 1, .arr false _⟩)] [(4, .c (.ptr 20480 1 0)), (48, .g [.d _, .arr 45057 1])] [] ⟨Y, Y, trivial⟩ ⟨Y, Y, trivial⟩ Y (Ko Y Y Y Y (Kd (kMem [(20480, ⟨1, 0, .box [.d _, .arr 45057 1]⟩), (45057, ⟨1, 1, .arr false _⟩)] [(4, .c (.ptr 20480 1 0))] [] ⟨Y, Y, trivial⟩ ⟨Y, trivial⟩ Y (Kr (Er (ra := [.agg [(.d _), (.own false _)]]) rfl ?_))))))))
    exact ⟨l', hl', rfl⟩

theorem cmpR_ttl1 (r x y : Rr) : cmpR (ttlR r x) y = cmpR x y := by
  unfold ttlR; split <;> rfl
theorem cmpR_ttl2 (r x y : Rr) : cmpR y (ttlR r x) = cmpR y x := by
  unfold ttlR; split <;> rfl
theorem addAt_true (r : Rr) : ∀ (l acc : List Rr), l.foldl (addSt r) (acc, true) = (acc ++ (l.filter fun y => cmpR r y != 0).map (ttlR r), true)
  | [], acc => by simp
  | y :: l, acc => by
    rw [List.foldl_cons]
    by_cases h : cmpR r y = 0
    · rw [show addSt r (acc, true) y = (acc, true) by simp [addSt, h], addAt_true r l, List.filter_cons]
      simp [h]
    · rw [show addSt r (acc, true) y = (acc ++ [ttlR r y], true) by simp [addSt, h], addAt_true r l, List.filter_cons]
      simp [h]
theorem sorted_map_ttl {l : List Rr} (r : Rr) (h : Sorted l) : Sorted (l.map (ttlR r)) := by
  unfold Sorted at *
  rw [List.pairwise_map]
  exact h.imp fun hab => by rw [cmpR_ttl1, cmpR_ttl2]; exact hab
theorem addAt_sorted (r : Rr) : ∀ (l acc : List Rr), Sorted acc → Sorted l → (∀ a ∈ acc, cmpR a r < 0) → (∀ a ∈ acc, ∀ x ∈ l, cmpR a x < 0) →
    Sorted (if (l.foldl (addSt r) (acc, false)).2 then (l.foldl (addSt r) (acc, false)).1 else (l.foldl (addSt r) (acc, false)).1 ++ [r])
  | [], acc, h1, _, h3, _ => by
    simp only [List.foldl_nil, Bool.false_eq_true, if_false]
    unfold Sorted at *
    rw [List.pairwise_append]
    exact ⟨h1, List.pairwise_singleton _ _, fun a ha b hb => by simp only [List.mem_singleton] at hb; rw [hb]; exact h3 a ha⟩
  | y :: l, acc, h1, h2, h3, h4 => by
    rw [List.foldl_cons]
    unfold Sorted at h2
    rw [List.pairwise_cons] at h2
    have neg := cmpR_cmp.neg r y
    by_cases hle : cmpR r y ≤ 0
    · have e : addSt r (acc, false) y = (acc ++ [r] ++ ([y].filter fun y => cmpR r y != 0).map (ttlR r), true) := by
        by_cases h : cmpR r y = 0
        · simp [addSt, h]
        · simp [addSt, h, hle]
      rw [e, addAt_true]
      simp only [if_true]
      have e2 : acc ++ [r] ++ ([y].filter fun y => cmpR r y != 0).map (ttlR r) ++ (l.filter fun y => cmpR r y != 0).map (ttlR r) = acc ++ (r :: ((y :: l).filter fun y => cmpR r y != 0).map (ttlR r)) := by
        rw [show y :: l = [y] ++ l from rfl, List.filter_append, List.map_append]; simp
      rw [e2]
      have hs : Sorted ((y :: l).filter fun y => cmpR r y != 0) := List.Pairwise.filter _ (List.pairwise_cons.2 h2)
      have hr : ∀ x ∈ ((y :: l).filter fun y => cmpR r y != 0), cmpR r x < 0 := by
        intro x hx
        obtain ⟨hx, hne⟩ := List.mem_filter.1 hx
        have hne : cmpR r x ≠ 0 := by simpa using hne
        rcases List.mem_cons.1 hx with rfl | hx
        · omega
        · exact cmpR_cmp.le_lt hle (h2.1 x hx)
      have hms := sorted_map_ttl r hs
      unfold Sorted at hms h1 ⊢
      rw [List.pairwise_append, List.pairwise_cons]
      refine ⟨h1, ⟨fun x hx => ?_, hms⟩, fun a ha x hx => ?_⟩
      · obtain ⟨u, hu, rfl⟩ := List.mem_map.1 hx
        rw [cmpR_ttl2]; exact hr u hu
      · rcases List.mem_cons.1 hx with rfl | hx
        · exact h3 a ha
        · obtain ⟨u, hu, rfl⟩ := List.mem_map.1 hx
          rw [cmpR_ttl2]; exact h4 a ha u (List.mem_filter.1 hu).1
    · have e : addSt r (acc, false) y = (acc ++ [ttlR r y], false) := by
        simp [addSt, hle, show ¬ cmpR r y = 0 by omega]
      rw [e]
      refine addAt_sorted r l _ ?_ h2.2 ?_ ?_
      · unfold Sorted at h1 ⊢
        rw [List.pairwise_append]
        exact ⟨h1, List.pairwise_singleton _ _, fun a ha b hb => by simp only [List.mem_singleton] at hb; rw [hb, cmpR_ttl2]; exact h4 a ha y (List.mem_cons_self ..)⟩
      · intro a ha
        rcases List.mem_append.1 ha with ha | ha
        · exact h3 a ha
        · simp only [List.mem_singleton] at ha; rw [ha, cmpR_ttl1]; omega
      · intro a ha x hx
        rcases List.mem_append.1 ha with ha | ha
        · exact h4 a ha x (List.mem_cons_of_mem _ hx)
        · simp only [List.mem_singleton] at ha; rw [ha, cmpR_ttl1]; exact h2.1 x hx
theorem addL_sorted {l : List Rr} (r : Rr) (h : Sorted l) : Sorted (addL l r) := by
  have := addAt_sorted r l [] List.Pairwise.nil h nofun nofun
  exact this
theorem sorted_ext : ∀ {a b : List Rr}, Sorted a → Sorted b → (∀ x, x ∈ a ↔ x ∈ b) → a = b
  | [], [], _, _, _ => rfl
  | [], y :: b, _, _, h => absurd ((h y).2 (List.mem_cons_self ..)) (by simp)
  | x :: a, [], _, _, h => absurd ((h x).1 (List.mem_cons_self ..)) (by simp)
  | x :: a, y :: b, ha, hb, h => by
    unfold Sorted at ha hb
    rw [List.pairwise_cons] at ha hb
    have hxy : x = y := by
      rcases List.mem_cons.1 ((h x).1 (List.mem_cons_self ..)) with e | hx
      · exact e
      · rcases List.mem_cons.1 ((h y).2 (List.mem_cons_self ..)) with e | hy
        · exact e.symm
        · have h1 := hb.1 x hx
          have h2 := ha.1 y hy
          have := cmpR_cmp.neg x y
          omega
    subst hxy
    rw [sorted_ext ha.2 hb.2 fun u => ⟨fun hu => ?_, fun hu => ?_⟩]
    · rcases List.mem_cons.1 ((h u).1 (List.mem_cons_of_mem _ hu)) with e | hu'
      · have := ha.1 u hu; rw [e, cmpR_self] at this; omega
      · exact hu'
    · rcases List.mem_cons.1 ((h u).2 (List.mem_cons_of_mem _ hu)) with e | hu'
      · have := hb.1 u hu; rw [e, cmpR_self] at this; omega
      · exact hu'
theorem ttlR_self (r : Rr) : ttlR r r = r := by unfold ttlR; rw [if_pos ⟨rfl, rfl⟩]
theorem with_eq {l l' : List Rr} {r : Rr} (hs : Sorted l) (hp : l'.Perm (withL l r)) (hl : ∀ i j (h : i < j) (hj : j < l'.length), ¬ cmpR l'[j] l'[i] < 0) : l' = addL l r := by
  have hw : (withL l r).Pairwise fun a b => cmpR a b ≠ 0 := by
    unfold withL
    rw [List.pairwise_map, List.pairwise_append]
    refine ⟨?_, List.pairwise_singleton _ _, fun a ha b hb => ?_⟩
    · exact (List.Pairwise.filter _ hs).imp fun hab => by rw [cmpR_ttl1, cmpR_ttl2]; omega
    · simp only [List.mem_singleton] at hb
      rw [cmpR_ttl1, cmpR_ttl2, hb]
      simpa using (List.mem_filter.1 ha).2
  have hd : l'.Pairwise fun a b => cmpR a b ≠ 0 := (hp.pairwise_iff (fun {a b} h => by have := cmpR_cmp.neg a b; omega)).2 hw
  have hs' : Sorted l' := by
    unfold Sorted
    rw [List.pairwise_iff_getElem] at hd ⊢
    intro i j hi hj hij
    have h1 := hd i j hi hj hij
    have h2 := hl i j hij hj
    have := cmpR_cmp.neg l'[i] l'[j]
    omega
  refine sorted_ext hs' (addL_sorted r hs) fun x => ?_
  rw [hp.mem_iff, mem_addL]
  unfold withL
  simp only [List.mem_map, List.mem_append, List.mem_filter, List.mem_singleton]
  constructor
  · rintro ⟨y, ⟨hy, hne⟩ | rfl, rfl⟩
    · have := cmpR_cmp.neg r y
      exact .inr ⟨y, hy, by have : cmpR y r ≠ 0 := by simpa using hne
                            omega, rfl⟩
    · exact .inl (ttlR_self _)
  · rintro (rfl | ⟨y, hy, hne, rfl⟩)
    · exact ⟨x, .inr rfl, ttlR_self _⟩
    · have := cmpR_cmp.neg r y
      exact ⟨y, .inl ⟨hy, by simp; omega⟩, rfl⟩

def c_impl_Add : C := (.g (.o 0 2 (.box 2 (.t 0)) (.o 1 3 (.box 3 (.t 1)) (.o 2 4 (.alloc 4 [(.n 1), (.n 7)]) (.o 3 5 (.mov (.v (.bool false))) .done)))) (.seq (.g (.o 0 7 (.load (some 2) (.t 2)) (.o 1 8 (.call 8 27 [(.t 7)]) (.o 2 9 (.un .not (.t 8)) (.o 3 10 (.mov (.t 9)) (.op 4 [] (some 11) (some (10, false)) false (.load (some 7) (.t 3)) (.op 5 [] (some 12) (some (10, false)) false (.call 12 60 [(.t 11)]) (.op 6 [] (some 13) (some (10, false)) false (.un .not (.t 12)) (.o 7 14 (.pick (.t 10) (.v (.bool true)) (.t 13)) .done)))))))) (.cond (.t 14) (.g (.o 0 15 (.build [(.n 1), (.n 7)] []) (.op 1 [] none none false (.store (some 2) (.t 4) (.t 15)) (.o 2 5 (.mov (.v (.bool false))) .done))) .ret) .skip)) (.seq (.g (.o 0 16 (.load (some 2) (.t 2)) (.o 1 17 (.load (some 7) (.t 3)) (.o 2 18 (.call 18 61 [(.t 16), (.t 17)]) (.o 3 6 (.alloc 6 [(.n 1), (.n 7)]) (.op 4 [] none none false (.store (some 2) (.t 6) (.t 18)) .done))))) (.g (.o 0 19 (.load (some 2) (.t 6)) (.o 1 20 (.call 20 27 [(.t 19)]) .done)) (.cond (.t 20) (.g (.o 0 21 (.load (some 2) (.t 6)) (.o 1 22 (.call 22 62 [(.t 21)]) (.op 2 [] none none false (.store (some 2) (.t 4) (.t 22)) (.o 3 5 (.mov (.v (.bool true))) .done)))) .ret) .skip))) (.g (.o 0 23 (.load (some 2) (.t 2)) (.o 1 24 (.call 24 62 [(.t 23)]) (.op 2 [] none none false (.store (some 2) (.t 4) (.t 24)) (.o 3 5 (.mov (.v (.bool false))) .done)))) .ret))))
theorem dg_impl_Add : Tryz.f14.body.bind (digC Tryz.prog Tryz.f14.ntmps []) = some c_impl_Add := by kernel_rfl
theorem rs_impl_Add : resSlots Tryz.prog Tryz.f14 = some [.m 4 (some 2), .s 5] := by kernel_rfl
theorem ok_impl_Add (z : Zone) (r : Rr) (hs : SmallZ z) (hr : SmallR r) :
    FnOK Tryz.prog 14 [.agg (z.cells.map .d), .agg (r.cells.map .d)] (fun ra _ => ra = [.agg [.own true (encBB (addN z r).origin), .own true (encR (addN z r).rrs)], .one (.d (.sc (.bool (addOk z r))))]) := by
  refine FnOK.ofK Tryz.func14 (by kernel_rfl) dg_impl_Add rs_impl_Add rfl rfl ?_
  delta c_impl_Add T.o X.i C.g
  cases a1 : zoneOk z
  · rw [show addN z r = zeroZ by unfold addN; rw [a1]; rfl, show addOk z r = false by unfold addOk; rw [a1]; rfl]
    refine Kbc (kBox Y Y Y Y Y (kBox Y Y Y Y Y (kAlloc Y Y (Ka Y (Kdb (Kbc (Ke Y Y Y (Kp (ok_impl_ZoneOk _ prx) ⟨⟨⟨Y, Y, trivial⟩, leb⟩, trivial⟩ Y Y Y Y Y (Kw Y Y (Ka Y (kMem [(16384, ⟨1, 0, .box [.d _, .d _, .d _, .d _, .d _, .d _, .d _]⟩)] [(3, .c (.ptr 16384 1 0)), (11, .c (.un)), (12, .c (.un)), (10, .c (.d _)), (13, .c (.un))] [] ⟨Y, trivial⟩ ⟨Y, Y, Y, Y, Y, trivial⟩ Y (kGN Y (fun g0 => Kg Y (Kg Y (Kg Y (Kk Y (Ka Y (Kd (kCondT Y (Kbc (kMem [(20480, ⟨1, 0, .box [.nil 1, .nil 7]⟩)] [(4, .c (.ptr 20480 1 0)), (15, .c (.un))] [] ⟨Y, trivial⟩ ⟨Y, Y, trivial⟩ Y (kBuildG Y (kMem [(20480, ⟨1, 0, .box [.nil 1, .nil 7]⟩)] [(4, .c (.ptr 20480 1 0)), (15, .g [.nil 1, .nil 7])] [] ⟨Y, trivial⟩ ⟨Y, Y, trivial⟩ Y (Ko Y Y Y Y (Ka Y (Kd (kMem [(20480, ⟨1, 0, .box [.nil 1, .nil 7]⟩)] [(4, .c (.ptr 20480 1 0)), (5, .c (.d _))] [] ⟨Y, trivial⟩ ⟨Y, Y, trivial⟩ Y (Kr (Er (ra := [.agg [(.own true _), (.own true _)], .one (.d _)]) rfl rfl))))))))))))))))) (fun g0 => (by (simp [*] at g0)))))))))))))))
  cases a2 : rrOk r
  · rw [show addN z r = zeroZ by unfold addN; rw [a1, a2]; rfl, show addOk z r = false by unfold addOk; rw [a1, a2]; rfl]
    refine Kbc (kBox Y Y Y Y Y (kBox Y Y Y Y Y (kAlloc Y Y (Ka Y (Kdb (Kbc (Ke Y Y Y (Kp (ok_impl_ZoneOk _ prx) ⟨⟨⟨Y, Y, trivial⟩, leb⟩, trivial⟩ Y Y Y Y Y (Kw Y Y (Ka Y (kMem [(16384, ⟨1, 0, .box [.d _, .d _, .d _, .d _, .d _, .d _, .d _]⟩)] [(3, .c (.ptr 16384 1 0)), (11, .c (.un)), (12, .c (.un)), (10, .c (.d _)), (13, .c (.un))] [] ⟨Y, trivial⟩ ⟨Y, Y, Y, Y, Y, trivial⟩ Y (kGN Y (fun g0 => (by (simp [*] at g0))) (fun g0 => Ki Y (Ke Y Y Y (Ki Y (Kp (ok_impl_RrOk _ prx) ⟨⟨⟨Y, Y, Y, Y, Y, Y, Y, trivial⟩, leb⟩, trivial⟩ Y Y Y Y Y (Ki Y (Kw Y Y (Kl Y (Ka Y (Kd (kCondN Y (fun g1 => Kbc (kMem [(20480, ⟨1, 0, .box [.nil 1, .nil 7]⟩)] [(4, .c (.ptr 20480 1 0)), (15, .c (.un))] [] ⟨Y, trivial⟩ ⟨Y, Y, trivial⟩ Y (kBuildG Y (kMem [(20480, ⟨1, 0, .box [.nil 1, .nil 7]⟩)] [(4, .c (.ptr 20480 1 0)), (15, .g [.nil 1, .nil 7])] [] ⟨Y, trivial⟩ ⟨Y, Y, trivial⟩ Y (Ko Y Y Y Y (Ka Y (Kd (kMem [(20480, ⟨1, 0, .box [.nil 1, .nil 7]⟩)] [(4, .c (.ptr 20480 1 0)), (5, .c (.d _))] [] ⟨Y, trivial⟩ ⟨Y, Y, trivial⟩ Y (Kr (Er (ra := [.agg [(.own true _), (.own true _)], .one (.d _)]) rfl rfl)))))))))) (fun g1 => (by (simp [*] at g1)))))))))))))))))))))))))
  have hp := zoneP.1 a1
  have hl : z.rrs.length ≤ 1000000 := by have := hp.len; omega
  have hz2 := addZ_small a1 a2
  refine Kbc (kBox Y Y Y Y Y (kBox Y Y Y Y Y (kAlloc Y Y (Ka Y (Kdb (Kbc (Ke Y Y Y (Kp (ok_impl_ZoneOk _ prx) ⟨⟨⟨Y, Y, trivial⟩, leb⟩, trivial⟩ Y Y Y Y Y (Kw Y Y (Ka Y (kMem [(16384, ⟨1, 0, .box [.d _, .d _, .d _, .d _, .d _, .d _, .d _]⟩)] [(3, .c (.ptr 16384 1 0)), (11, .c (.un)), (12, .c (.un)), (10, .c (.d _)), (13, .c (.un))] [] ⟨Y, trivial⟩ ⟨Y, Y, Y, Y, Y, trivial⟩ Y (kGN Y (fun g0 => (by (simp [*] at g0))) (fun g0 => Ki Y (Ke Y Y Y (Ki Y (Kp (ok_impl_RrOk _ prx) ⟨⟨⟨Y, Y, Y, Y, Y, Y, Y, trivial⟩, leb⟩, trivial⟩ Y Y Y Y Y (Ki Y (Kw Y Y (Kl Y (Ka Y (Kd (kCondN Y (fun g1 => (by (simp [*] at g1))) (fun g1 => Kn (Kb (Kbc (Ke Y Y Y (Ke Y Y Y (kCallX false (ok_impl_Zone_with _ _ prx prx prx) ⟨⟨⟨Y, Y, trivial⟩, leb⟩, ⟨⟨Y, Y, Y, Y, Y, Y, Y, trivial⟩, leb⟩, trivial⟩ Y (fun _ => rfl) (fun _ => rfl) (fun x2 _ hx2 => (kMem [(77825, ⟨1, 0, .arr false _⟩)] [(6, .c (.un)), (18, .g [.d _, .arr 77825 1])] [] ⟨Y, trivial⟩ ⟨Y, Y, trivial⟩ Y (kAlloc Y Y (kMem [(28672, ⟨1, 0, .box [.nil 1, .nil 7]⟩), (77825, ⟨1, 0, .arr false _⟩)] [(6, .c (.ptr 28672 1 0)), (18, .g [.d _, .arr 77825 1])] [] ⟨Y, Y, trivial⟩ ⟨Y, Y, trivial⟩ Y (Ko Y Y Y Y (Kdb (Kc (Ke Y Y Y ?_))))))))))))))))))))))))))))))))))))
  have e2 := with_eq hp.sorted hx2.1 hx2.2
  subst e2
  refine Kp (ok_impl_ZoneOk (addZ z r) hz2) ⟨⟨⟨Y, Y, trivial⟩, leb⟩, trivial⟩ Y Y Y Y Y ?_
  cases a3 : zoneOk (addZ z r)
  · rw [show addN z r = z by unfold addN; rw [a1, a2, a3]; rfl, show addOk z r = false by unfold addOk; rw [a1, a2, a3]; rfl]
    refine Kd (kCondF Y (Kn (Kbc (Ke Y Y Y (Ku true (ok_impl_Zone_copied _ prx) ⟨⟨⟨Y, Y, trivial⟩, leb⟩, trivial⟩ Y Y Y (fun _ => (kMem [(20480, ⟨1, 0, .box [.nil 1, .nil 7]⟩), (102400, ⟨1, 0, .arr true _⟩), (102401, ⟨1, 0, .arr true _⟩)] [(4, .c (.ptr 20480 1 0)), (24, .g [.arr 102400 1, .arr 102401 1])] [] ⟨Y, Y, Y, trivial⟩ ⟨Y, Y, trivial⟩ Y (Ko Y Y Y Y (Ka Y (Kd (kMem [(20480, ⟨1, 0, .box [.arr 102400 1, .arr 102401 1]⟩), (102400, ⟨1, 0, .arr true _⟩), (102401, ⟨1, 0, .arr true _⟩)] [(4, .c (.ptr 20480 1 0)), (5, .c (.d _))] [] ⟨Y, Y, Y, trivial⟩ ⟨Y, Y, trivial⟩ Y (Kr (Er (ra := [.agg [(.own true _), (.own true _)], .one (.d _)]) rfl rfl)))))))))))))
  · rw [show addN z r = addZ z r by unfold addN; rw [a1, a2, a3]; rfl, show addOk z r = true by unfold addOk; rw [a1, a2, a3]; rfl]
    refine Kd (kCondT Y (Kbc (Ke Y Y Y ?_)))
    refine Ku true (ok_impl_Zone_copied (addZ z r) hz2) ⟨⟨⟨Y, Y, trivial⟩, leb⟩, trivial⟩ Y Y Y (fun _ => ?_)
    refine kMem [(20480, ⟨1, 0, .box [.nil 1, .nil 7]⟩), (94208, ⟨1, 0, .arr true _⟩), (94209, ⟨1, 0, .arr true _⟩)] [(4, .c (.ptr 20480 1 0)), (22, .g [.arr 94208 1, .arr 94209 1])] [] ⟨Y, Y, Y, trivial⟩ ⟨Y, Y, trivial⟩ Y (Ko Y Y Y Y (Ka Y (Kd (kMem [(20480, ⟨1, 0, .box [.arr 94208 1, .arr 94209 1]⟩), (94208, ⟨1, 0, .arr true _⟩), (94209, ⟨1, 0, .arr true _⟩)] [(4, .c (.ptr 20480 1 0)), (5, .c (.d _))] [] ⟨Y, Y, Y, trivial⟩ ⟨Y, Y, trivial⟩ Y (Kr (Er (ra := [.agg [(.own true _), (.own true _)], .one (.d _)]) rfl rfl))))))

theorem ok_ne255 {r : Rr} (h : rrOk r = true) : r.ty ≠ 255 := fun e => by
  unfold rrOk at h
  simp only [Bool.and_eq_true] at h
  have := h.1.1.2
  rw [e] at this
  exact absurd this (by decide)
theorem adds_ttl {z : Zone} {r x : Rr} (hr : rrOk r = true) (h : x ∈ setN (addZ z r) r.name r.ty) : x.ttl = r.ttl := by
  unfold setN at h
  split at h
  · obtain ⟨h1, h2, h3⟩ := mem_setOf h
    have h3 := h3.resolve_left (ok_ne255 hr)
    rcases mem_addL.1 h1 with rfl | ⟨y, _, _, rfl⟩
    · rfl
    · unfold ttlR at h2 h3 ⊢
      split
      · rfl
      · rename_i hn
        rw [if_neg hn] at h2 h3
        exact absurd ⟨h2, h3⟩ hn
  · simp at h
theorem same_iff {a b : Rr} (ha : rrOk a = true) (hb : rrOk b = true) : sameR a b = true ↔ cmpR a b = 0 := by
  unfold sameR; rw [ha, hb]; simp
theorem adds_place {z : Zone} {r y : Rr} (hz : zoneOk z = true) (hr : rrOk r = true) (hy : y ∈ z.rrs) : 0 ≤ idx (fun x => sameR x y) (addL z.rrs r) := by
  have hyo := zone_rrs hz y hy
  by_cases h : cmpR r y = 0
  · exact idx_mem (mem_addL.2 (.inl rfl)) ((same_iff hr hyo).2 h)
  · exact idx_mem (mem_addL.2 (.inr ⟨y, hy, h, rfl⟩)) ((same_iff (ttlR_ok hr hyo) hyo).2 (by rw [cmpR_ttl1, cmpR_self]))
theorem sorted_one {l : List Rr} {r : Rr} (h : Sorted l) : (l.filter fun y => cmpR r y == 0).length ≤ 1 := by
  have hs : Sorted (l.filter fun y => cmpR r y == 0) := List.Pairwise.filter _ h
  match hm : l.filter fun y => cmpR r y == 0 with
  | [] => simp
  | [_] => simp
  | a :: b :: t =>
    rw [hm] at hs
    have h1 : cmpR r a = 0 := by have : a ∈ l.filter fun y => cmpR r y == 0 := by rw [hm]; simp
                                 simpa using (List.mem_filter.1 this).2
    have h2 : cmpR r b = 0 := by have : b ∈ l.filter fun y => cmpR r y == 0 := by rw [hm]; simp
                                 simpa using (List.mem_filter.1 this).2
    unfold Sorted at hs
    rw [List.pairwise_cons] at hs
    have h3 := hs.1 b (by simp)
    have := cmpR_cmp.neg r a
    have := cmpR_cmp.le_lt (a := r) (b := a) (d := b) (by omega) h3
    omega
theorem adds_len {z : Zone} {r : Rr} (hz : zoneOk z = true) (hr : rrOk r = true) :
    (addL z.rrs r).length = z.rrs.length + (if 0 ≤ idx (fun x => sameR x r) z.rrs then 0 else 1) := by
  have hs := (zoneP.1 hz).sorted
  have h1 := filter_split (fun y => cmpR r y == 0) z.rrs
  have h2 := sorted_one (r := r) hs
  have e : (z.rrs.filter fun y => cmpR r y != 0) = z.rrs.filter fun y => !(cmpR r y == 0) := rfl
  rw [addL_length, e]
  have hany : (0 ≤ idx (fun x => sameR x r) z.rrs) ↔ 0 < (z.rrs.filter fun y => cmpR r y == 0).length := by
    constructor
    · intro h
      have h3 := idx_ge (fun x => sameR x r) z.rrs
      rw [decide_eq_true (show idx (fun x => sameR x r) z.rrs ≥ 0 from h)] at h3
      obtain ⟨x, hx, hsx⟩ := List.any_eq_true.1 h3.symm
      have hx0 := (same_iff (zone_rrs hz x hx) hr).1 hsx
      have hn := cmpR_cmp.neg r x
      exact List.length_pos_of_mem (List.mem_filter.2 ⟨hx, by simp; omega⟩)
    · intro h
      obtain ⟨x, hx⟩ := List.exists_mem_of_length_pos h
      obtain ⟨hx, h0⟩ := List.mem_filter.1 hx
      have h0 : cmpR r x = 0 := by simpa using h0
      have hn := cmpR_cmp.neg r x
      exact idx_mem hx ((same_iff (zone_rrs hz x hx) hr).2 (by omega))
  split
  · rename_i h; have := hany.1 h; omega
  · rename_i h; have : ¬ 0 < (z.rrs.filter fun y => cmpR r y == 0).length := fun h' => h (hany.2 h'); omega
theorem adds_drop {z : Zone} {r : Rr} (hz : zoneOk (addZ z r) = true) (hr : rrOk r = true) (h6 : r.ty ≠ 6) :
    dropK (addZ z r) r = true ∧ (dropZ (addZ z r) r).rrs.length + 1 = (addL z.rrs r).length ∧ idx (fun x => sameR x r) (dropZ (addZ z r) r).rrs = -1 ∧ zoneOk (dropZ (addZ z r) r) = true := by
  have hs := (zoneP.1 hz).sorted
  have hmem : r ∈ addL z.rrs r := mem_addL.2 (.inl rfl)
  have e1 : dropZ (addZ z r) r = keptR (addZ z r) (fun o => !goneOne o r) := by unfold dropZ; rw [hz, hr]; rfl
  have hsplit := filter_split (fun o => goneOne o r) (addL z.rrs r)
  have hle : ((addL z.rrs r).filter fun o => goneOne o r).length ≤ 1 := by
    have h1 := sorted_one (r := r) hs
    refine Nat.le_trans ?_ h1
    have : (addL z.rrs r).filter (fun o => goneOne o r) = ((addL z.rrs r).filter fun y => cmpR r y == 0).filter (fun o => goneOne o r) := by
      rw [List.filter_filter]
      refine List.filter_congr fun x _ => ?_
      have := cmpR_cmp.neg x r
      unfold goneOne
      rw [Bool.eq_iff_iff]
      simp
      omega
    rw [this]
    exact List.length_filter_le _ _
  have hpos : 0 < ((addL z.rrs r).filter fun o => goneOne o r).length := List.length_pos_of_mem (List.mem_filter.2 ⟨hmem, by unfold goneOne; simp [cmpR_self, h6]⟩)
  refine ⟨?_, ?_, ?_, ?_⟩
  · unfold dropK
    rw [hz, hr]
    exact decide_eq_true hpos
  · rw [e1]
    show ((addL z.rrs r).filter fun o => !goneOne o r).length + 1 = _
    omega
  · rw [e1]
    refine idx_none fun x hx => ?_
    obtain ⟨hx, hg⟩ := List.mem_filter.1 hx
    cases h : sameR x r with
    | false => rfl
    | true =>
      have h0 := (same_iff (zone_rrs hz x hx) hr).1 h
      have : x.ty = r.ty := (cmpR_zero h0).2
      unfold goneOne at hg
      simp [h0, this, h6] at hg
  · rw [e1]
    exact zone_kept hz fun x _ hx6 => by unfold goneOne; simp [hx6]
theorem adds_soa {z : Zone} {r : Rr} (h6 : r.ty = 6) : dropK z r = false := by
  unfold dropK
  have : (z.rrs.filter fun o => goneOne o r) = [] := by
    rw [List.filter_eq_nil_iff]
    intro x _ hg
    unfold goneOne at hg
    simp only [Bool.and_eq_true, decide_eq_true_eq, Bool.not_eq_true', beq_eq_false_iff_ne] at hg
    exact hg.2 (((cmpR_zero hg.1).2).trans h6)
  rw [this]; simp
def c_laws_FnAdds : C := (.g (.o 0 2 (.mov (.v (.bool false))) .done) (.g (.o 0 14 (.mov (.t 0)) (.o 1 15 (.call 15 20 [(.t 14)]) (.o 2 13 (.mov (.t 15)) (.o 3 16 (.ext (.t 13) 0) (.o 4 17 (.ext (.t 13) 1) (.o 5 3 (.alloc 3 [(.n 1), (.n 7)]) (.o 6 4 (.alloc 4 [(.n 1), (.i 0), (.i 0), (.i 0), (.n 1), (.n 1), (.n 1)]) (.op 7 [] none none false (.store (some 2) (.t 3) (.t 16)) (.op 8 [] none none false (.store (some 7) (.t 4) (.t 17)) .done))))))))) (.g (.o 0 19 (.load (some 2) (.t 3)) (.o 1 20 (.load (some 7) (.t 4)) (.o 2 21 (.call 21 14 [(.t 19), (.t 20)]) (.o 3 18 (.mov (.t 21)) (.o 4 22 (.ext (.t 18) 0) (.o 5 23 (.ext (.t 18) 1) (.o 6 5 (.alloc 5 [(.n 1), (.n 7)]) (.op 7 [] none none false (.store (some 2) (.t 5) (.t 22)) (.o 8 6 (.mov (.t 23)) .done))))))))) (.seq (.g (.o 0 24 (.load (some 2) (.t 3)) (.o 1 25 (.call 25 21 [(.t 24)]) (.o 2 26 (.un .not (.t 25)) (.o 3 27 (.mov (.t 26)) (.op 4 [] (some 28) (some (27, false)) false (.load (some 7) (.t 4)) (.op 5 [] (some 29) (some (27, false)) false (.call 29 22 [(.t 28)]) (.op 6 [] (some 30) (some (27, false)) false (.un .not (.t 29)) (.o 7 31 (.pick (.t 27) (.v (.bool true)) (.t 30)) .done)))))))) (.cond (.t 31) (.g (.o 0 32 (.mov (.t 6)) (.o 1 33 (.un .not (.t 32)) (.o 2 34 (.mov (.t 33)) (.op 3 [] (some 35) (some (34, true)) false (.fad (.t 5) 1) (.op 4 [] (some 36) (some (34, true)) false (.load none (.t 35)) (.op 5 [] (some 37) (some (34, true)) false (.len (.t 36)) (.op 6 [] (some 38) (some (34, true)) false (.bin .eql (.t 37) (.i 0)) (.o 7 39 (.pick (.t 34) (.t 38) (.v (.bool false))) (.o 8 40 (.mov (.t 39)) (.op 9 [] (some 41) (some (40, true)) false (.call 41 23 []) (.o 10 42 (.pick (.t 40) (.t 41) (.v (.bool false))) (.o 11 2 (.mov (.t 42)) .done)))))))))))) .ret) .skip)) (.seq (.g (.o 0 43 (.mov (.t 6)) (.o 1 44 (.un .not (.t 43)) .done)) (.cond (.t 44) (.g (.o 0 45 (.load (some 2) (.t 5)) (.o 1 46 (.load (some 2) (.t 3)) (.o 2 47 (.call 47 24 [(.t 45), (.t 46)]) (.o 3 2 (.mov (.t 47)) .done)))) .ret) .skip)) (.g (.o 0 48 (.fad (.t 3) 1) (.o 1 49 (.load none (.t 48)) (.o 2 50 (.load (some 7) (.t 4)) (.o 3 51 (.call 51 25 [(.t 49), (.t 50)]) (.o 4 52 (.bin .geq (.t 51) (.i 0)) (.o 5 7 (.mov (.t 52)) .done)))))) (.g (.o 0 53 (.load (some 2) (.t 5)) (.o 1 54 (.fad (.t 4) 0) (.o 2 55 (.load (some 1) (.t 54)) (.o 3 56 (.fad (.t 4) 1) (.o 4 57 (.load none (.t 56)) (.o 5 58 (.call 58 26 [(.t 53), (.t 55), (.t 57)]) (.o 6 8 (.mov (.t 58)) .done))))))) (.seq (.g (.o 0 9 (.mov (.i 0)) .done) (.block 0 (.loop (.seq (.g (.o 0 59 (.mov (.t 9)) (.o 1 60 (.mov (.t 8)) (.o 2 61 (.len (.t 60)) (.o 3 62 (.bin .lss (.t 59) (.t 61)) .done)))) (.cond (.t 62) .skip (.exit 0))) (.seq (.block 1 (.seq (.reg true (.op 0 [] (some 65) none true (.mov (.t 8)) (.op 1 [] (some 66) none true (.mov (.t 9)) (.op 2 [] (some 67) none true (.iad 7 (.t 65) (.t 66)) (.op 3 [] (some 68) none true (.fad (.t 67) 2) (.op 4 [] (some 69) none true (.load none (.t 68)) (.op 5 [] (some 70) none true (.fad (.t 4) 2) (.op 6 [] (some 71) none true (.load none (.t 70)) (.op 7 [] (some 72) none true (.bin .neq (.t 69) (.t 71)) .done))))))))) (.cond (.t 72) (.g (.o 0 2 (.mov (.v (.bool false))) .done) .ret) .skip))) (.reg false (.o 0 63 (.mov (.t 9)) (.o 1 64 (.bin .add (.t 63) (.i 1)) (.o 2 9 (.mov (.t 64)) .done))))))))) (.seq (.g (.o 0 10 (.mov (.i 0)) .done) (.block 2 (.loop (.seq (.g (.o 0 73 (.mov (.t 10)) (.o 1 74 (.fad (.t 3) 1) (.o 2 75 (.load none (.t 74)) (.o 3 76 (.len (.t 75)) (.o 4 77 (.bin .lss (.t 73) (.t 76)) .done))))) (.cond (.t 77) .skip (.exit 2))) (.seq (.block 3 (.seq (.reg true (.op 0 [] (some 80) none true (.fad (.t 5) 1) (.op 1 [] (some 81) none true (.load none (.t 80)) (.op 2 [] (some 82) none true (.fad (.t 3) 1) (.op 3 [] (some 83) none true (.load none (.t 82)) (.op 4 [] (some 84) none true (.mov (.t 10)) (.op 5 [] (some 85) none true (.iad 7 (.t 83) (.t 84)) (.op 6 [] (some 86) none true (.load (some 7) (.t 85)) (.op 7 [1, 6, 3] (some 87) none false (.call 87 25 [(.t 81), (.t 86)]) (.op 8 [] (some 88) none true (.bin .lss (.t 87) (.i 0)) .done)))))))))) (.cond (.t 88) (.g (.o 0 2 (.mov (.v (.bool false))) .done) .ret) .skip))) (.reg false (.o 0 78 (.mov (.t 10)) (.o 1 79 (.bin .add (.t 78) (.i 1)) (.o 2 10 (.mov (.t 79)) .done))))))))) (.seq (.g (.o 0 89 (.load (some 2) (.t 5)) (.o 1 90 (.call 90 27 [(.t 89)]) (.o 2 91 (.un .not (.t 90)) (.o 3 92 (.mov (.t 91)) (.op 4 [] (some 93) (some (92, false)) false (.mov (.t 8)) (.op 5 [] (some 94) (some (92, false)) false (.load (some 7) (.t 4)) (.op 6 [] (some 95) (some (92, false)) false (.call 95 25 [(.t 93), (.t 94)]) (.op 7 [] (some 96) (some (92, false)) false (.bin .lss (.t 95) (.i 0)) (.o 8 97 (.pick (.t 92) (.v (.bool true)) (.t 96)) (.o 9 98 (.mov (.t 97)) (.op 10 [] (some 99) (some (98, false)) false (.load (some 2) (.t 5)) (.op 11 [] (some 100) (some (98, false)) false (.fad (.t 4) 0) (.op 12 [] (some 101) (some (98, false)) false (.load (some 1) (.t 100)) (.op 13 [] (some 102) (some (98, false)) false (.call 102 28 [(.t 99), (.t 101)]) (.op 14 [] (some 103) (some (98, false)) false (.un .not (.t 102)) (.o 15 104 (.pick (.t 98) (.v (.bool true)) (.t 103)) (.o 16 105 (.mov (.t 104)) (.op 17 [] (some 106) (some (105, false)) false (.fad (.t 5) 1) (.op 18 [] (some 107) (some (105, false)) false (.load none (.t 106)) (.op 19 [] (some 108) (some (105, false)) false (.len (.t 107)) (.op 20 [] (some 109) (some (105, false)) false (.fad (.t 3) 1) (.op 21 [] (some 110) (some (105, false)) false (.load none (.t 109)) (.op 22 [] (some 111) (some (105, false)) false (.len (.t 110)) (.op 23 [] (some 112) (some (105, false)) false (.bin .neq (.t 108) (.t 111)) (.op 24 [] (some 113) (some (105, false)) false (.mov (.t 112)) (.op 25 [] (some 114) (some (113, true)) false (.mov (.t 7)) (.op 26 [] (some 115) (some (105, false)) false (.pick (.t 113) (.t 114) (.v (.bool false))) (.o 27 116 (.pick (.t 105) (.v (.bool true)) (.t 115)) (.o 28 117 (.mov (.t 116)) (.op 29 [] (some 118) (some (117, false)) false (.fad (.t 5) 1) (.op 30 [] (some 119) (some (117, false)) false (.load none (.t 118)) (.op 31 [] (some 120) (some (117, false)) false (.len (.t 119)) (.op 32 [] (some 121) (some (117, false)) false (.fad (.t 3) 1) (.op 33 [] (some 122) (some (117, false)) false (.load none (.t 121)) (.op 34 [] (some 123) (some (117, false)) false (.len (.t 122)) (.op 35 [] (some 124) (some (117, false)) false (.bin .add (.t 123) (.i 1)) (.op 36 [] (some 125) (some (117, false)) false (.bin .neq (.t 120) (.t 124)) (.op 37 [] (some 126) (some (117, false)) false (.mov (.t 125)) (.op 38 [] (some 127) (some (126, true)) false (.mov (.t 7)) (.op 39 [] (some 128) (some (126, true)) false (.un .not (.t 127)) (.op 40 [] (some 129) (some (117, false)) false (.pick (.t 126) (.t 128) (.v (.bool false))) (.o 41 130 (.pick (.t 117) (.v (.bool true)) (.t 129)) .done)))))))))))))))))))))))))))))))))))))))))) (.cond (.t 130) (.g (.o 0 2 (.mov (.v (.bool false))) .done) .ret) .skip)) (.g (.o 0 132 (.load (some 2) (.t 5)) (.o 1 133 (.load (some 7) (.t 4)) (.o 2 134 (.call 134 29 [(.t 132), (.t 133)]) (.o 3 131 (.mov (.t 134)) (.o 4 135 (.ext (.t 131) 0) (.o 5 136 (.ext (.t 131) 1) (.o 6 11 (.alloc 11 [(.n 1), (.n 7)]) (.op 7 [] none none false (.store (some 2) (.t 11) (.t 135)) (.o 8 12 (.mov (.t 136)) .done))))))))) (.g (.o 0 137 (.fad (.t 4) 1) (.o 1 138 (.load none (.t 137)) (.o 2 139 (.bin .eql (.t 138) (.i 6)) (.o 3 140 (.mov (.t 139)) (.op 4 [] (some 141) (some (140, true)) false (.mov (.t 12)) (.op 5 [] (some 142) (some (140, true)) false (.un .not (.t 141)) (.o 6 143 (.pick (.t 140) (.t 142) (.v (.bool false))) (.o 7 144 (.mov (.t 143)) (.op 8 [] (some 145) (some (144, false)) false (.mov (.t 12)) (.op 9 [] (some 146) (some (144, false)) false (.mov (.t 145)) (.op 10 [] (some 147) (some (146, true)) false (.fad (.t 11) 1) (.op 11 [] (some 148) (some (146, true)) false (.load none (.t 147)) (.op 12 [] (some 149) (some (146, true)) false (.len (.t 148)) (.op 13 [] (some 150) (some (146, true)) false (.fad (.t 5) 1) (.op 14 [] (some 151) (some (146, true)) false (.load none (.t 150)) (.op 15 [] (some 152) (some (146, true)) false (.len (.t 151)) (.op 16 [] (some 153) (some (146, true)) false (.bin .sub (.t 152) (.i 1)) (.op 17 [] (some 154) (some (146, true)) false (.bin .eql (.t 149) (.t 153)) (.op 18 [] (some 155) (some (144, false)) false (.pick (.t 146) (.t 154) (.v (.bool false))) (.op 19 [] (some 156) (some (144, false)) false (.mov (.t 155)) (.op 20 [] (some 157) (some (156, true)) false (.fad (.t 11) 1) (.op 21 [] (some 158) (some (156, true)) false (.load none (.t 157)) (.op 22 [] (some 159) (some (156, true)) false (.load (some 7) (.t 4)) (.op 23 [] (some 160) (some (156, true)) false (.call 160 25 [(.t 158), (.t 159)]) (.op 24 [] (some 161) (some (156, true)) false (.bin .lss (.t 160) (.i 0)) (.op 25 [] (some 162) (some (144, false)) false (.pick (.t 156) (.t 161) (.v (.bool false))) (.op 26 [] (some 163) (some (144, false)) false (.mov (.t 162)) (.op 27 [] (some 164) (some (163, true)) false (.load (some 2) (.t 11)) (.op 28 [] (some 165) (some (163, true)) false (.call 165 27 [(.t 164)]) (.op 29 [] (some 166) (some (144, false)) false (.pick (.t 163) (.t 165) (.v (.bool false))) (.o 30 167 (.pick (.t 144) (.v (.bool true)) (.t 166)) (.o 31 2 (.mov (.t 167)) .done)))))))))))))))))))))))))))))))) .ret))))))))))))
theorem dg_laws_FnAdds : Tryz.f4.body.bind (digC Tryz.prog Tryz.f4.ntmps []) = some c_laws_FnAdds := by kernel_rfl
theorem rs_laws_FnAdds : resSlots Tryz.prog Tryz.f4 = some [.s 2] := by kernel_rfl
theorem ok_laws_FnAdds (code : List UInt8) (hb : (code.length : Int) ≤ 9223372036854775807) :
    FnOK Tryz.prog 4 [.one (.d (encB code))] (fun ra _ => ra = [.one (.d (.sc (.bool true)))]) := by
  refine FnOK.ofK Tryz.func4 (by kernel_rfl) dg_laws_FnAdds rs_laws_FnAdds rfl rfl ?_
  delta c_laws_FnAdds T.o X.i C.g
  have hstopo21 := trivial
  refine Kbc (Ka Y (Kdb (Kc (Ka Y (kCallX false (ok_spec_DrawAdd _ prx) ⟨Y, trivial⟩ Y (fun _ => rfl) (fun _ => rfl) (fun x0 _ hx0 => (kMovT Y (kExtC Y Y (kExtC Y Y (kAlloc Y Y (kAlloc Y Y (kMem [(16384, ⟨1, 0, .box [.nil 1, .nil 7]⟩), (20480, ⟨1, 0, .box [.nil 1, .d _, .d _, .d _, .nil 1, .nil 1, .nil 1]⟩)] [(3, .c (.ptr 16384 1 0)), (16, .g [.d _, .d _]), (4, .c (.ptr 20480 1 0)), (17, .g [.d _, .d _, .d _, .d _, .d _, .d _, .d _])] [] ⟨Y, Y, trivial⟩ ⟨Y, Y, Y, Y, trivial⟩ Y (Ko Y Y Y Y (kMem [(20480, ⟨1, 0, .box [.nil 1, .d _, .d _, .d _, .nil 1, .nil 1, .nil 1]⟩)] [(4, .c (.ptr 20480 1 0)), (17, .g [.d _, .d _, .d _, .d _, .d _, .d _, .d _])] [] ⟨Y, trivial⟩ ⟨Y, Y, trivial⟩ Y (Ko Y Y Y Y (Kdb ?_))))))))))))))))
  clear hstopo21
  obtain ⟨h1, h2⟩ := hx0
  generalize x0.1 = z at *
  generalize x0.2 = r at *
  have hzl := h1.r.len
  have hzm := h1.r.mem
  have hds := addN_small (z := z) (r := r)
  have hxl := hds.r.len
  have hrn := h2.n
  by_cases hc : zoneOk z = true ∧ rrOk r = true
  · obtain ⟨a1, a2⟩ := hc
    cases a3 : zoneOk (addZ z r)
    · have e1 : addN z r = z := by unfold addN; rw [a1, a2, a3]; rfl
      have e2 : addOk z r = false := by unfold addOk; rw [a1, a2, a3]; rfl
      have e3 : sameRs z.rrs z.rrs = true := sameRs_refl (zone_rrs a1)
      refine Kc (Ke Y Y Y (Ke Y Y Y (Ku true (ok_impl_Add _ _ prx prx) ⟨⟨⟨Y, Y, trivial⟩, leb⟩, ⟨⟨Y, Y, Y, Y, Y, Y, Y, trivial⟩, leb⟩, trivial⟩ Y Y Y (fun _ => (kMovT Y (kExtC Y Y (kExtC Y Y (kAlloc Y Y (kMem [(24576, ⟨1, 0, .box [.nil 1, .nil 7]⟩), (90112, ⟨1, 0, .arr true _⟩), (90113, ⟨1, 0, .arr true _⟩)] [(5, .c (.ptr 24576 1 0)), (22, .g [.arr 90112 1, .arr 90113 1]), (23, .c (.d _))] [] ⟨Y, Y, Y, trivial⟩ ⟨Y, Y, Y, trivial⟩ Y (Ko Y Y Y Y (Ka Y (Kdb (Kbc (Ke Y Y Y (Kp (ok_spec_ZoneOk _ prx) ⟨⟨⟨Y, Y, trivial⟩, leb⟩, trivial⟩ Y Y Y Y Y (Kw Y Y (Ka Y (kGN Y (fun g0 => (by (simp [*] at g0))) (fun g0 => Ki Y (Ke Y Y Y (Ki Y (Kp (ok_spec_RrOk _ prx) ⟨⟨⟨Y, Y, Y, Y, Y, Y, Y, trivial⟩, leb⟩, trivial⟩ Y Y Y Y Y (Ki Y (Kw Y Y (Kl Y (Ka Y (Kd (kCondN Y (fun g1 => (by (simp [*] at g1))) (fun g1 => Kn (Kb (Kbc (Ka Y (Kw Y Y (Kd (kCondN Y (fun g2 => Kbc (kMem [(24576, ⟨1, 0, .box [.arr 90112 1, .arr 90113 1]⟩), (16384, ⟨1, 0, .box [.d _, .d _]⟩), (90112, ⟨1, 0, .arr true _⟩), (90113, ⟨1, 0, .arr true _⟩)] [(5, .c (.ptr 24576 1 0)), (3, .c (.ptr 16384 1 0)), (45, .c (.un)), (46, .c (.un)), (47, .c (.un))] [] ⟨Y, Y, Y, Y, trivial⟩ ⟨Y, Y, Y, Y, Y, trivial⟩ Y (Ke Y Y Y (Ke Y Y Y (Kp (ok_laws_sameZone _ _ prx prx) ⟨⟨⟨Y, Y, trivial⟩, leb⟩, ⟨⟨Y, Y, trivial⟩, leb⟩, trivial⟩ Y Y Y Y Y (Ka Y (Kd (Kr (Er (ra := [.one (.d _)]) rfl ?_))))))))) (fun g2 => (by (simp [*] at g2))))))))))))))))))))))))))))))))))))))
      rw [e1, e3]; simp
    · have e1 : addN z r = addZ z r := by unfold addN; rw [a1, a2, a3]; rfl
      have e2 : addOk z r = true := by unfold addOk; rw [a1, a2, a3]; rfl
      have hmem : r ∈ addL z.rrs r := mem_addL.2 (.inl rfl)
      have nok : nameOk r.name = true := rrOk_name a2
      have f1 : ∀ x ∈ setN (addN z r) r.name r.ty, x.ttl = r.ttl := fun x hx => adds_ttl a2 (e1 ▸ hx)
      have f2 : ∀ y ∈ z.rrs, 0 ≤ idx (fun x => sameR x y) (addN z r).rrs := fun y hy => by rw [e1]; exact adds_place a1 a2 hy
      have f3 : (addN z r).rrs.length = z.rrs.length + (if 0 ≤ idx (fun x => sameR x r) z.rrs then 0 else 1) := by rw [e1]; exact adds_len a1 a2
      have f4 : zoneOk (addN z r) = true := by rw [e1]; exact a3
      have f5 : 0 ≤ idx (fun x => sameR x r) (setN (addN z r) r.name r.ty) := by
        rw [e1]
        unfold setN
        rw [a3, nok]
        exact idx_mem (by unfold setOf; exact List.mem_filter.2 ⟨hmem, by simp⟩) (sameR_refl a2)
      have f6 : hasN (addN z r) r.name = true := by
        rw [e1]
        unfold hasN
        exact List.any_eq_true.2 ⟨r, hmem, by simp [underN]⟩
      have f7 : r.ty ≠ 6 → dropK (addN z r) r = true ∧ (dropZ (addN z r) r).rrs.length + 1 = (addN z r).rrs.length ∧ idx (fun x => sameR x r) (dropZ (addN z r) r).rrs = -1 ∧ zoneOk (dropZ (addN z r) r) = true := fun h6 => by
        rw [e1]; exact adds_drop a3 a2 h6
      have f8 : r.ty = 6 → dropK (addN z r) r = false := fun h6 => adds_soa h6
      have hdd : SmallZ (dropZ (addN z r) r) := by
        unfold dropZ
        split
        · exact hds.kept _
        · exact .zero
      have hddl := hdd.r.len
      have hln0 : (setN (addN z r) r.name r.ty).length ≤ (addN z r).rrs.length := by
        unfold setN
        split
        · exact List.length_filter_le _ _
        · simp
      have f9 : (zoneOk (addN z r) && nameOk r.name && hasN (addN z r) r.name) = true := by rw [f4, nok, f6]; rfl
      have f3' : (0 ≤ idx (fun x => sameR x r) z.rrs ∧ (addN z r).rrs.length = z.rrs.length) ∨ (idx (fun x => sameR x r) z.rrs < 0 ∧ (addN z r).rrs.length = z.rrs.length + 1) := by
        rw [f3]; split <;> omega
      have f7' : r.ty = 6 ∨ ((dropZ (addN z r) r).rrs.length + 1 = (addN z r).rrs.length ∧ idx (fun x => sameR x r) (dropZ (addN z r) r).rrs = -1) := by
        by_cases h6 : r.ty = 6
        · exact .inl h6
        · exact .inr ⟨(f7 h6).2.1, (f7 h6).2.2.1⟩
      have hddr := hdd.r
      clear hmem nok e1 a3 f3
      have hstopo51 := trivial
      refine Kc (Ke Y Y Y (Ke Y Y Y (Ku true (ok_impl_Add _ _ prx prx) ⟨⟨⟨Y, Y, trivial⟩, leb⟩, ⟨⟨Y, Y, Y, Y, Y, Y, Y, trivial⟩, leb⟩, trivial⟩ Y Y Y (fun _ => (kMovT Y (kExtC Y Y (kExtC Y Y (kAlloc Y Y (kMem [(24576, ⟨1, 0, .box [.nil 1, .nil 7]⟩), (90112, ⟨1, 0, .arr true _⟩), (90113, ⟨1, 0, .arr true _⟩)] [(5, .c (.ptr 24576 1 0)), (22, .g [.arr 90112 1, .arr 90113 1]), (23, .c (.d _))] [] ⟨Y, Y, Y, trivial⟩ ⟨Y, Y, Y, trivial⟩ Y (Ko Y Y Y Y (Ka Y (Kdb (Kbc (Ke Y Y Y (Kp (ok_spec_ZoneOk _ prx) ⟨⟨⟨Y, Y, trivial⟩, leb⟩, trivial⟩ Y Y Y Y Y (Kw Y Y (Ka Y (kGN Y (fun g0 => (by (simp [*] at g0))) (fun g0 => Ki Y (Ke Y Y Y (Ki Y (Kp (ok_spec_RrOk _ prx) ⟨⟨⟨Y, Y, Y, Y, Y, Y, Y, trivial⟩, leb⟩, trivial⟩ Y Y Y Y Y (Ki Y (Kw Y Y (Kl Y (Ka Y (Kd (kCondN Y (fun g1 => (by (simp [*] at g1))) (fun g1 => Kn (Kb (Kbc (Ka Y (Kw Y Y (Kd (kCondN Y (fun g2 => (by (simp [*] at g2))) (fun g2 => Kn (Kb ?_)))))))))))))))))))))))))))))))))))))
      clear hstopo51
      generalize addN z r = u at *
      have hsS : SmallRs (setN u r.name r.ty) := by
        unfold setN
        split
        · exact ⟨Nat.le_trans (List.length_filter_le _ _) hxl, fun x hx => hds.r.mem x (List.mem_filter.1 hx).1⟩
        · exact ⟨Nat.zero_le _, nofun⟩
      refine Kc (kMem [(16384, ⟨1, 0, .box [.d _, .d _]⟩), (20480, ⟨1, 0, .box [.d _, .d _, .d _, .d _, .d _, .d _, .d _]⟩)] [(3, .c (.ptr 16384 1 0)), (48, .c (.un)), (4, .c (.ptr 20480 1 0)), (49, .c (.un)), (50, .c (.un)), (51, .c (.un)), (52, .c (.un))] [] ⟨Y, Y, trivial⟩ ⟨Y, Y, Y, Y, Y, Y, Y, trivial⟩ Y (Kf Y Y (Ke Y Y Y (Ke Y Y Y (Kp (ok_laws_place _ _ prx prx) ⟨rfl, ⟨⟨Y, Y, Y, Y, Y, Y, Y, trivial⟩, leb⟩, trivial⟩ Y Y Y Y Y (Kj Y Y Y (Ka Y (Kdb (Kc (Ke Y Y Y (Kf Y Y (Ke Y Y Y (kMem [(20480, ⟨1, 0, .box [.d _, .d _, .d _, .d _, .d _, .d _, .d _]⟩), (90112, ⟨1, 0, .arr true _⟩), (90113, ⟨1, 0, .arr true _⟩)] [(4, .c (.ptr 20480 1 0)), (56, .c (.un)), (53, .g [.arr 90112 1, .arr 90113 1]), (55, .g [.d _]), (57, .c (.un)), (58, .c (.un))] [] ⟨Y, Y, Y, trivial⟩ ⟨Y, Y, Y, Y, Y, Y, trivial⟩ Y (Kf Y Y (Ke Y Y Y (Ku true (ok_impl_SetOf _ _ _ prx prx) ⟨⟨⟨Y, Y, trivial⟩, leb⟩, ⟨⟨Y, trivial⟩, leb⟩, rfl, trivial⟩ Y Y Y (fun _ => (Ka Y (Kdb (Kbc (Ka Y (Kd (Kt ?_)))))))))))))))))))))))
      refine kSub (Sub.frz (j := 8) rfl rfl (Nat.zero_lt_succ _)) ?_
      generalize setN u r.name r.ty = S at *
      have hsl := hsS.len
      refine kLoop (α := { i : Nat // i ≤ S.length }) (fun y => ⟨tabSl [(3, .c (.ptr (rid 3 0) 1 0)), (4, .c (.ptr (rid 4 0) 1 0)), (5, .c (.ptr (rid 5 0) 1 0)), (7, .b (decide (idx (fun x => sameR x r) z.rrs ≥ 0))), (8, .dv (encR S)), (9, .i y.1)], obTab 1 [(rid 3 0, ⟨1, 0, .box (z.cells.map .d)⟩), (rid 4 0, ⟨1, 0, .box (r.cells.map .d)⟩), (rid 5 0, ⟨1, 0, .box [.arr (rid 21 0) 1, .arr (rid 21 1) 1]⟩), (rid 21 0, ⟨1, 0, .arr true (encBB u.origin)⟩), (rid 21 1, ⟨1, 0, .arr true (encR u.rrs)⟩)], []⟩) (fun y => S.length - y.1) ⟨0, by simp⟩ .normA ?_
      rintro ⟨i, hi⟩
      simp only
      rcases Nat.lt_or_ge i S.length with hlt | hge
      · have hti := f1 _ (List.getElem_mem hlt)
        refine Kb (Kbc (Ka Y (Ka Y (Kq Y Y (Kj Y Y Y (Kd (Km Y (fun g0 => Kn (Kb (Kt (Kb (kRegD (Ka Y (Ka Y (kIadR Y Y Y prl (kFadD Y (Ky Y Y (Kf Y Y (Ke Y Y Y (Kj Y Y Y (Kd (kH (kCondIN Y (fun g1 => om) (fun g1 => Kn (Kv (Kc (Ka Y (kAdd Y Y om (Ka Y (Kd ?_))))))))))))))))))))))) (fun g0 => om))))))))
        exact kInv ⟨⟨i + 1, by omega⟩, by simp only; omega, .normA⟩
      · refine Kb (Kbc (Ka Y (Ka Y (Kq Y Y (Kj Y Y Y (Kd (Km Y (fun g0 => om) (fun g0 => kExit (kExC (kExI (kExB (Kb (Kbc (Ka Y (Kd (Kt ?_))))))))))))))))
        refine kLoop (α := { i : Nat // i ≤ z.rrs.length }) (fun y => ⟨tabSl [(3, .c (.ptr (rid 3 0) 1 0)), (4, .c (.ptr (rid 4 0) 1 0)), (5, .c (.ptr (rid 5 0) 1 0)), (7, .b (decide (idx (fun x => sameR x r) z.rrs ≥ 0))), (8, .dv (encR S)), (10, .i y.1)], obTab 1 [(rid 3 0, ⟨1, 0, .box (z.cells.map .d)⟩), (rid 4 0, ⟨1, 0, .box (r.cells.map .d)⟩), (rid 5 0, ⟨1, 0, .box [.arr (rid 21 0) 1, .arr (rid 21 1) 1]⟩), (rid 21 0, ⟨1, 0, .arr true (encBB u.origin)⟩), (rid 21 1, ⟨1, 0, .arr true (encR u.rrs)⟩)], []⟩) (fun y => z.rrs.length - y.1) ⟨0, by simp⟩ .normA ?_
        rintro ⟨j, hj⟩
        simp only
        rcases Nat.lt_or_ge j z.rrs.length with hjl | hjg
        · have hyj := f2 _ (List.getElem_mem hjl)
          have hyS := hzm _ (List.getElem_mem hjl)
          have hur := hds.r
          refine Kb (Kbc (Ka Y (Kf Y Y (Ke Y Y Y (Kq Y Y (Kj Y Y Y (Kd (Km Y (fun g0 => Kn (Kb (Kt (Kb (kRegD (Kf Y Y (Ke Y Y Y (Kf Y Y (Ke Y Y Y (kMem [(90113, ⟨1, 0, .arr true _⟩)] [(10, .c (.d _)), (83, .c (.d _)), (81, .c (.arr 90113 1))] [16384, 24576] ⟨Y, trivial⟩ ⟨Y, Y, Y, trivial⟩ Y (Ka Y (kIadR Y Y Y prl (Ky Y Y (Ks Y Y (Kp (ok_laws_place _ _ prx prx) ⟨rfl, ⟨⟨Y, Y, Y, Y, Y, Y, Y, trivial⟩, leb⟩, trivial⟩ Y Y Y Y Y (Kj Y Y Y (Kd (kH (Km Y (fun g1 => om) (fun g1 => Kn (Kv (Kc (Ka Y (kAdd Y Y om (Ka Y (Kd ?_)))))))))))))))))))))))))) (fun g0 => om)))))))))
          exact kInv ⟨⟨j + 1, by omega⟩, by simp only; omega, .normA⟩
        · refine Kb (Kbc (Ka Y (Kf Y Y (Ke Y Y Y (Kq Y Y (Kj Y Y Y (Kd (Km Y (fun g0 => om) (fun g0 => kExit (kExC (kExI (kExB (Kb (Kbc (Ke Y Y Y (Kp (ok_impl_ZoneOk _ prx) ⟨⟨⟨Y, Y, trivial⟩, leb⟩, trivial⟩ Y Y Y Y Y (Kw Y Y (Ka Y (kGN Y (fun g1 => (by (simp [*] at g1))) (fun g1 => kMem [(20480, ⟨1, 0, .box [.d _, .d _, .d _, .d _, .d _, .d _, .d _]⟩), (24576, ⟨1, 0, .box [.arr 90112 1, .arr 90113 1]⟩), (16384, ⟨1, 0, .box [.d _, .d _]⟩), (90112, ⟨1, 0, .arr true _⟩), (90113, ⟨1, 0, .arr true _⟩)] [(8, .c (.d _)), (4, .c (.ptr 20480 1 0)), (92, .c (.d _)), (5, .c (.ptr 24576 1 0)), (3, .c (.ptr 16384 1 0)), (7, .c (.d _))] [] ⟨Y, Y, Y, Y, Y, trivial⟩ ⟨Y, Y, Y, Y, Y, Y, trivial⟩ Y (Ki Y (Ka Y (Ki Y (Ke Y Y Y (Ki Y (Kp (ok_laws_place _ _ prx prx) ⟨rfl, ⟨⟨Y, Y, Y, Y, Y, Y, Y, trivial⟩, leb⟩, trivial⟩ Y Y Y Y Y (Ki Y (Kj Y Y Y (Kl Y (Ka Y (Ka Y (kGP Y (fun g2 => om) (fun g2 => Ki Y (Ke Y Y Y (Ki Y (Kf Y Y (Ki Y (Ke Y Y Y (kMem [(90112, ⟨1, 0, .arr true _⟩), (90113, ⟨1, 0, .arr true _⟩), (24576, ⟨1, 0, .box [.arr 90112 1, .arr 90113 1]⟩), (16384, ⟨1, 0, .box [.d _, .d _]⟩)] [(99, .g [.arr 90112 1, .arr 90113 1]), (101, .g [.d _]), (98, .c (.d _)), (5, .c (.ptr 24576 1 0)), (3, .c (.ptr 16384 1 0)), (7, .c (.d _))] [] ⟨Y, Y, Y, Y, trivial⟩ ⟨Y, Y, Y, Y, Y, Y, trivial⟩ Y (Ki Y (Kp (ok_impl_HasName _ _ prx prx) ⟨⟨⟨Y, Y, trivial⟩, leb⟩, ⟨⟨Y, trivial⟩, leb⟩, trivial⟩ Y Y Y Y Y (Ki Y (Kw Y Y (Kl Y (Ka Y (Ka Y (kGN Y (fun g3 => Kg Y (Kg Y (Kg Y (Kg Y (Kg Y (Kg Y (Kg Y (kMem [(24576, ⟨1, 0, .box [.arr 90112 1, .arr 90113 1]⟩), (16384, ⟨1, 0, .box [.d _, .d _]⟩), (90112, ⟨1, 0, .arr true _⟩), (90113, ⟨1, 0, .arr true _⟩)] [(112, .c (.un)), (7, .c (.d _)), (105, .c (.d _)), (5, .c (.ptr 24576 1 0)), (3, .c (.ptr 16384 1 0))] [] ⟨Y, Y, Y, Y, trivial⟩ ⟨Y, Y, Y, Y, Y, trivial⟩ Y (Kg Y (kGU Y (Kg Y (Kk Y (Ka Y (Ka Y (Kg Y (Kg Y (Kg Y (Kg Y (Kg Y (Kg Y (Kg Y (Kg Y (Kg Y (kGU Y (kGU Y (Kg Y (Kk Y (Ka Y (Kd (kCondT Y (Kbc (Ka Y (Kd (Kr (Er (ra := [.one (.d _)]) rfl ?_))))))))))))))))))))))))))))))))))) (fun g3 => Ki Y (Kf Y Y (Ki Y (Ke Y Y Y (Ki Y (Kq Y Y (Ki Y (Kf Y Y (Ki Y (Ke Y Y Y (kMem [(24576, ⟨1, 0, .box [.arr 90112 1, .arr 90113 1]⟩), (16384, ⟨1, 0, .box [.d _, .d _]⟩), (90112, ⟨1, 0, .arr true _⟩), (90113, ⟨1, 0, .arr true _⟩)] [(110, .c (.d _)), (108, .c (.d _)), (7, .c (.d _)), (105, .c (.d _)), (5, .c (.ptr 24576 1 0)), (3, .c (.ptr 16384 1 0))] [] ⟨Y, Y, Y, Y, trivial⟩ ⟨Y, Y, Y, Y, Y, Y, trivial⟩ Y (Ki Y (Kq Y Y (Ki Y (Kj Y Y Y (Ki Y (Ka Y (kGIN Y (fun g4 => Ki Y (Ka Y (Ki Y (Kk Y (Ka Y (Kl Y (Ka Y (Ka Y (kGP Y (fun g5 => om) (fun g5 => Ki Y (Kf Y Y (Ki Y (Ke Y Y Y (kMem [(90113, ⟨1, 0, .arr true _⟩), (16384, ⟨1, 0, .box [.d _, .d _]⟩)] [(119, .c (.arr 90113 1)), (3, .c (.ptr 16384 1 0)), (7, .c (.d _)), (117, .c (.d _))] [] ⟨Y, Y, trivial⟩ ⟨Y, Y, Y, Y, trivial⟩ Y (Ki Y (Kq Y Y (Ki Y (Kf Y Y (Ki Y (Ke Y Y Y (Ki Y (Kq Y Y (Ki Y (kAdd Y Y om (Ki Y (Kj Y Y Y (Ki Y (Ka Y (kGIN Y (fun g6 => om) (fun g6 => Kg Y (Kg Y (Ki Y (Kl Y (Ka Y (Kl Y (Ka Y (Kd (kCondF Y (Kn (Kbc (kMem [(24576, ⟨1, 0, .box [.arr 90112 1, .arr 90113 1]⟩), (20480, ⟨1, 0, .box [.d _, .d _, .d _, .d _, .d _, .d _, .d _]⟩), (90112, ⟨1, 0, .arr true _⟩), (90113, ⟨1, 0, .arr true _⟩)] [(5, .c (.ptr 24576 1 0)), (4, .c (.ptr 20480 1 0))] [] ⟨Y, Y, Y, Y, trivial⟩ ⟨Y, Y, trivial⟩ Y (Ke Y Y Y (Ke Y Y Y (Ku true (ok_impl_Drop _ _ prx prx) ⟨⟨⟨Y, Y, trivial⟩, leb⟩, ⟨⟨Y, Y, Y, Y, Y, Y, Y, trivial⟩, leb⟩, trivial⟩ Y Y Y (fun _ => (kMovT Y (kExtC Y Y (kExtC Y Y (kAlloc Y Y (kMem [(49152, ⟨2, 0, .box [.nil 1, .nil 7]⟩), (552960, ⟨2, 0, .arr true _⟩), (552961, ⟨2, 0, .arr true _⟩)] [(11, .c (.ptr 49152 2 0)), (135, .g [.arr 552960 2, .arr 552961 2]), (136, .c (.d _))] [] ⟨Y, Y, Y, trivial⟩ ⟨Y, Y, Y, trivial⟩ Y (Ko Y Y Y Y (Ka Y (Kdb (Kc (Kf Y Y (Ke Y Y Y (Kj Y Y Y (Ka Y (kGP Y (fun g7 => Ki Y (Ka Y (Ki Y (Kw Y Y (Kk Y (Ka Y (kMem [(49152, ⟨2, 0, .box [.arr 552960 2, .arr 552961 2]⟩), (24576, ⟨1, 0, .box [.arr 90112 1, .arr 90113 1]⟩), (20480, ⟨1, 0, .box [.d _, .d _, .d _, .d _, .d _, .d _, .d _]⟩), (552960, ⟨2, 0, .arr true _⟩), (552961, ⟨2, 0, .arr true _⟩), (90112, ⟨1, 0, .arr true _⟩), (90113, ⟨1, 0, .arr true _⟩)] [(143, .c (.d _)), (12, .c (.d _)), (11, .c (.ptr 49152 2 0)), (5, .c (.ptr 24576 1 0)), (4, .c (.ptr 20480 1 0))] [] ⟨Y, Y, Y, Y, Y, Y, Y, trivial⟩ ⟨Y, Y, Y, Y, Y, trivial⟩ Y (Ka Y (kGN Y (fun g8 => Kg Y (Kg Y (kGU Y (kGU Y (kGU Y (kGU Y (kGU Y (kGU Y (kGU Y (kGU Y (kMem [(49152, ⟨2, 0, .box [.arr 552960 2, .arr 552961 2]⟩), (20480, ⟨1, 0, .box [.d _, .d _, .d _, .d _, .d _, .d _, .d _]⟩), (552960, ⟨2, 0, .arr true _⟩), (552961, ⟨2, 0, .arr true _⟩)] [(146, .c (.un)), (154, .c (.un)), (11, .c (.ptr 49152 2 0)), (4, .c (.ptr 20480 1 0)), (144, .c (.d _))] [] ⟨Y, Y, Y, Y, trivial⟩ ⟨Y, Y, Y, Y, Y, trivial⟩ Y (Kg Y (Kg Y (kGU Y (kGU Y (kGU Y (kGU Y (kGU Y (Kg Y (Kg Y (kGU Y (kGU Y (Kg Y (Kk Y (Ka Y (Ka Y (Kd (Kr (Er (ra := [.one (.d _)]) rfl rfl))))))))))))))))))))))))))))) (fun g8 => (by (simp [*] at g8)))))))))))) (fun g7 => Kg Y (Kg Y (Kl Y (Ka Y (kMem [(49152, ⟨2, 0, .box [.arr 552960 2, .arr 552961 2]⟩), (24576, ⟨1, 0, .box [.arr 90112 1, .arr 90113 1]⟩), (20480, ⟨1, 0, .box [.d _, .d _, .d _, .d _, .d _, .d _, .d _]⟩), (552960, ⟨2, 0, .arr true _⟩), (552961, ⟨2, 0, .arr true _⟩), (90112, ⟨1, 0, .arr true _⟩), (90113, ⟨1, 0, .arr true _⟩)] [(143, .c (.d _)), (12, .c (.d _)), (11, .c (.ptr 49152 2 0)), (5, .c (.ptr 24576 1 0)), (4, .c (.ptr 20480 1 0))] [] ⟨Y, Y, Y, Y, Y, Y, Y, trivial⟩ ⟨Y, Y, Y, Y, Y, trivial⟩ Y (Ka Y (Ki Y (Ka Y (Ki Y (Ka Y (kGS Y (fun g9 => Ki Y (Kf Y Y (Ki Y (Ke Y Y Y (Ki Y (Kq Y Y (Ki Y (Kf Y Y (Ki Y (Ke Y Y Y (Ki Y (Kq Y Y (kMem [(49152, ⟨2, 0, .box [.arr 552960 2, .arr 552961 2]⟩), (20480, ⟨1, 0, .box [.d _, .d _, .d _, .d _, .d _, .d _, .d _]⟩), (552960, ⟨2, 0, .arr true _⟩), (552961, ⟨2, 0, .arr true _⟩)] [(152, .c (.d _)), (149, .c (.d _)), (146, .c (.d _)), (11, .c (.ptr 49152 2 0)), (4, .c (.ptr 20480 1 0)), (144, .c (.d _))] [] ⟨Y, Y, Y, Y, trivial⟩ ⟨Y, Y, Y, Y, Y, Y, trivial⟩ Y (Ki Y (kDif Y Y om (Ki Y (Kj Y Y Y (Ki Y (Kk Y (Ka Y (Ki Y (Ka Y (kGP Y (fun g10 => Ki Y (Kf Y Y (Ki Y (Ke Y Y Y (Ki Y (Ke Y Y Y (Ki Y (Kp (ok_laws_place _ _ prx prx) ⟨rfl, ⟨⟨Y, Y, Y, Y, Y, Y, Y, trivial⟩, leb⟩, trivial⟩ Y Y Y Y Y (Ki Y (Kj Y Y Y (kMem [(49152, ⟨2, 0, .box [.arr 552960 2, .arr 552961 2]⟩), (552960, ⟨2, 0, .arr true _⟩), (552961, ⟨2, 0, .arr true _⟩)] [(156, .c (.d _)), (161, .c (.d _)), (11, .c (.ptr 49152 2 0)), (144, .c (.d _))] [] ⟨Y, Y, Y, trivial⟩ ⟨Y, Y, Y, Y, trivial⟩ Y (Ki Y (Kk Y (Ka Y (Ki Y (Ka Y (kGP Y (fun g11 => Ki Y (Ke Y Y Y (Ki Y (Kp (ok_impl_ZoneOk _ prx) ⟨⟨⟨Y, Y, trivial⟩, leb⟩, trivial⟩ Y Y Y Y Y (Ki Y (Kk Y (Ka Y (Kl Y (Ka Y (Ka Y (Kd (Kr (Er (ra := [.one (.d _)]) rfl ?_))))))))))))) (fun g11 => om)))))))))))))))))) (fun g10 => om)))))))))))))))))))))))) (fun g9 => (by (simp [*] at g9))))))))))))))))))))))))))))))))))))))))))))))))))))))))))))))))))))))))) (fun g4 => Kg Y (Ki Y (Kl Y (Ka Y (Kl Y (Ka Y (Ka Y (Ki Y (Kf Y Y (Ki Y (Ke Y Y Y (Ki Y (Kq Y Y (kMem [(16384, ⟨1, 0, .box [.d _, .d _]⟩)] [(3, .c (.ptr 16384 1 0)), (120, .c (.d _)), (7, .c (.d _)), (117, .c (.d _))] [] ⟨Y, trivial⟩ ⟨Y, Y, Y, Y, trivial⟩ Y (Ki Y (Kf Y Y (Ki Y (Ke Y Y Y (Ki Y (Kq Y Y (Ki Y (kAdd Y Y om (Ki Y (Kj Y Y Y (Ki Y (Ka Y (kGIN Y (fun g12 => Ki Y (Ka Y (Ki Y (Kw Y Y (Ki Y (Kk Y (Ka Y (Kl Y (Ka Y (Kd (kCondN Y (fun g13 => Kbc (Ka Y (Kd (Kr (Er (ra := [.one (.d _)]) rfl ?_))))) (fun g13 => Kn (Kbc (kMem [(24576, ⟨1, 0, .box [.arr 90112 1, .arr 90113 1]⟩), (20480, ⟨1, 0, .box [.d _, .d _, .d _, .d _, .d _, .d _, .d _]⟩), (90112, ⟨1, 0, .arr true _⟩), (90113, ⟨1, 0, .arr true _⟩)] [(5, .c (.ptr 24576 1 0)), (4, .c (.ptr 20480 1 0))] [] ⟨Y, Y, Y, Y, trivial⟩ ⟨Y, Y, trivial⟩ Y (Ke Y Y Y (Ke Y Y Y (Ku true (ok_impl_Drop _ _ prx prx) ⟨⟨⟨Y, Y, trivial⟩, leb⟩, ⟨⟨Y, Y, Y, Y, Y, Y, Y, trivial⟩, leb⟩, trivial⟩ Y Y Y (fun _ => (kMovT Y (kExtC Y Y (kExtC Y Y (kAlloc Y Y (kMem [(49152, ⟨2, 0, .box [.nil 1, .nil 7]⟩), (552960, ⟨2, 0, .arr true _⟩), (552961, ⟨2, 0, .arr true _⟩)] [(11, .c (.ptr 49152 2 0)), (135, .g [.arr 552960 2, .arr 552961 2]), (136, .c (.d _))] [] ⟨Y, Y, Y, trivial⟩ ⟨Y, Y, Y, trivial⟩ Y (Ko Y Y Y Y (Ka Y (Kdb (Kc (Kf Y Y (Ke Y Y Y (Kj Y Y Y (Ka Y (kGP Y (fun g14 => Ki Y (Ka Y (Ki Y (Kw Y Y (Kk Y (Ka Y (kMem [(49152, ⟨2, 0, .box [.arr 552960 2, .arr 552961 2]⟩), (24576, ⟨1, 0, .box [.arr 90112 1, .arr 90113 1]⟩), (20480, ⟨1, 0, .box [.d _, .d _, .d _, .d _, .d _, .d _, .d _]⟩), (552960, ⟨2, 0, .arr true _⟩), (552961, ⟨2, 0, .arr true _⟩), (90112, ⟨1, 0, .arr true _⟩), (90113, ⟨1, 0, .arr true _⟩)] [(143, .c (.d _)), (12, .c (.d _)), (11, .c (.ptr 49152 2 0)), (5, .c (.ptr 24576 1 0)), (4, .c (.ptr 20480 1 0))] [] ⟨Y, Y, Y, Y, Y, Y, Y, trivial⟩ ⟨Y, Y, Y, Y, Y, trivial⟩ Y (Ka Y (kGN Y (fun g15 => Kg Y (Kg Y (kGU Y (kGU Y (kGU Y (kGU Y (kGU Y (kGU Y (kGU Y (kGU Y (kMem [(49152, ⟨2, 0, .box [.arr 552960 2, .arr 552961 2]⟩), (20480, ⟨1, 0, .box [.d _, .d _, .d _, .d _, .d _, .d _, .d _]⟩), (552960, ⟨2, 0, .arr true _⟩), (552961, ⟨2, 0, .arr true _⟩)] [(146, .c (.un)), (154, .c (.un)), (11, .c (.ptr 49152 2 0)), (4, .c (.ptr 20480 1 0)), (144, .c (.d _))] [] ⟨Y, Y, Y, Y, trivial⟩ ⟨Y, Y, Y, Y, Y, trivial⟩ Y (Kg Y (Kg Y (kGU Y (kGU Y (kGU Y (kGU Y (kGU Y (Kg Y (Kg Y (kGU Y (kGU Y (Kg Y (Kk Y (Ka Y (Ka Y (Kd (Kr (Er (ra := [.one (.d _)]) rfl rfl))))))))))))))))))))))))))))) (fun g15 => (by (simp [*] at g15)))))))))))) (fun g14 => Kg Y (Kg Y (Kl Y (Ka Y (kMem [(49152, ⟨2, 0, .box [.arr 552960 2, .arr 552961 2]⟩), (24576, ⟨1, 0, .box [.arr 90112 1, .arr 90113 1]⟩), (20480, ⟨1, 0, .box [.d _, .d _, .d _, .d _, .d _, .d _, .d _]⟩), (552960, ⟨2, 0, .arr true _⟩), (552961, ⟨2, 0, .arr true _⟩), (90112, ⟨1, 0, .arr true _⟩), (90113, ⟨1, 0, .arr true _⟩)] [(143, .c (.d _)), (12, .c (.d _)), (11, .c (.ptr 49152 2 0)), (5, .c (.ptr 24576 1 0)), (4, .c (.ptr 20480 1 0))] [] ⟨Y, Y, Y, Y, Y, Y, Y, trivial⟩ ⟨Y, Y, Y, Y, Y, trivial⟩ Y (Ka Y (Ki Y (Ka Y (Ki Y (Ka Y (kGS Y (fun g16 => Ki Y (Kf Y Y (Ki Y (Ke Y Y Y (Ki Y (Kq Y Y (Ki Y (Kf Y Y (Ki Y (Ke Y Y Y (Ki Y (Kq Y Y (kMem [(49152, ⟨2, 0, .box [.arr 552960 2, .arr 552961 2]⟩), (20480, ⟨1, 0, .box [.d _, .d _, .d _, .d _, .d _, .d _, .d _]⟩), (552960, ⟨2, 0, .arr true _⟩), (552961, ⟨2, 0, .arr true _⟩)] [(152, .c (.d _)), (149, .c (.d _)), (146, .c (.d _)), (11, .c (.ptr 49152 2 0)), (4, .c (.ptr 20480 1 0)), (144, .c (.d _))] [] ⟨Y, Y, Y, Y, trivial⟩ ⟨Y, Y, Y, Y, Y, Y, trivial⟩ Y (Ki Y (kDif Y Y om (Ki Y (Kj Y Y Y (Ki Y (Kk Y (Ka Y (Ki Y (Ka Y (kGP Y (fun g17 => Ki Y (Kf Y Y (Ki Y (Ke Y Y Y (Ki Y (Ke Y Y Y (Ki Y (Kp (ok_laws_place _ _ prx prx) ⟨rfl, ⟨⟨Y, Y, Y, Y, Y, Y, Y, trivial⟩, leb⟩, trivial⟩ Y Y Y Y Y (Ki Y (Kj Y Y Y (kMem [(49152, ⟨2, 0, .box [.arr 552960 2, .arr 552961 2]⟩), (552960, ⟨2, 0, .arr true _⟩), (552961, ⟨2, 0, .arr true _⟩)] [(156, .c (.d _)), (161, .c (.d _)), (11, .c (.ptr 49152 2 0)), (144, .c (.d _))] [] ⟨Y, Y, Y, trivial⟩ ⟨Y, Y, Y, Y, trivial⟩ Y (Ki Y (Kk Y (Ka Y (Ki Y (Ka Y (kGP Y (fun g18 => Ki Y (Ke Y Y Y (Ki Y (Kp (ok_impl_ZoneOk _ prx) ⟨⟨⟨Y, Y, trivial⟩, leb⟩, trivial⟩ Y Y Y Y Y (Ki Y (Kk Y (Ka Y (Kl Y (Ka Y (Ka Y (Kd (Kr (Er (ra := [.one (.d _)]) rfl ?_))))))))))))) (fun g18 => om)))))))))))))))))) (fun g17 => om)))))))))))))))))))))))) (fun g16 => (by (simp [*] at g16)))))))))))))))))))))))))))))))))))))))))))))) (fun g12 => om)))))))))))))))))))))))))))))))))))))))))))))))))))))))))))))))))))))))))))))))))))))))))))))
          · rw [f9] at g3; cases g3
          · rw [(f7 (by assumption)).2.2.2]
          · have g13 := of_decide_eq_false g13
            omega
          · rw [(f7 (by assumption)).2.2.2]
  · have e2 : addOk z r = false := by
      unfold addOk
      cases a1 : zoneOk z <;> cases a2 : rrOk r <;> simp_all
    have e1 : (addN z r).rrs.length = 0 := by
      unfold addN
      rw [if_neg (by simpa using hc)]; rfl
    refine Kc (Ke Y Y Y (Ke Y Y Y (Ku true (ok_impl_Add _ _ prx prx) ⟨⟨⟨Y, Y, trivial⟩, leb⟩, ⟨⟨Y, Y, Y, Y, Y, Y, Y, trivial⟩, leb⟩, trivial⟩ Y Y Y (fun _ => (kMovT Y (kExtC Y Y (kExtC Y Y (kAlloc Y Y (kMem [(24576, ⟨1, 0, .box [.nil 1, .nil 7]⟩), (90112, ⟨1, 0, .arr true _⟩), (90113, ⟨1, 0, .arr true _⟩)] [(5, .c (.ptr 24576 1 0)), (22, .g [.arr 90112 1, .arr 90113 1]), (23, .c (.d _))] [] ⟨Y, Y, Y, trivial⟩ ⟨Y, Y, Y, trivial⟩ Y (Ko Y Y Y Y (Ka Y (Kdb (Kbc (Ke Y Y Y (Kp (ok_spec_ZoneOk _ prx) ⟨⟨⟨Y, Y, trivial⟩, leb⟩, trivial⟩ Y Y Y Y Y (Kw Y Y (Ka Y (kGN Y (fun g0 => Kg Y (Kg Y (Kg Y (Kk Y (Ka Y (Kd (kCondT Y (Kbc (kMem [(24576, ⟨1, 0, .box [.arr 90112 1, .arr 90113 1]⟩), (90112, ⟨1, 0, .arr true _⟩), (90113, ⟨1, 0, .arr true _⟩)] [(6, .c (.d _)), (32, .c (.un)), (33, .c (.un)), (5, .c (.ptr 24576 1 0)), (35, .c (.un)), (36, .c (.un)), (37, .c (.un)), (34, .c (.un)), (38, .c (.un)), (39, .c (.un)), (40, .c (.un)), (41, .c (.un)), (42, .c (.un))] [] ⟨Y, Y, Y, trivial⟩ ⟨Y, Y, Y, Y, Y, Y, Y, Y, Y, Y, Y, Y, Y, trivial⟩ Y (Ka Y (Kw Y Y (Ka Y (kGN Y (fun g1 => Ki Y (Kf Y Y (Ki Y (Ke Y Y Y (Ki Y (Kq Y Y (Ki Y (Kj Y Y Y (Kk Y (Ka Y (Ka Y (kGP Y (fun g2 => Ki Y (Kp (ok_laws_zones) trivial rfl rfl rfl rfl rfl (Kk Y (Ka Y (Ka Y (Kd (Kr (Er (ra := [.one (.d _)]) rfl rfl)))))))) (fun g2 => om))))))))))))) (fun g1 => (by (simp [*] at g1)))))))))))))))) (fun g0 => Ki Y (Ke Y Y Y (Ki Y (Kp (ok_spec_RrOk _ prx) ⟨⟨⟨Y, Y, Y, Y, Y, Y, Y, trivial⟩, leb⟩, trivial⟩ Y Y Y Y Y (Ki Y (Kw Y Y (Kl Y (Ka Y (Kd (kCondN Y (fun g3 => Kbc (kMem [(24576, ⟨1, 0, .box [.arr 90112 1, .arr 90113 1]⟩), (90112, ⟨1, 0, .arr true _⟩), (90113, ⟨1, 0, .arr true _⟩)] [(6, .c (.d _)), (32, .c (.un)), (33, .c (.un)), (5, .c (.ptr 24576 1 0)), (35, .c (.un)), (36, .c (.un)), (37, .c (.un)), (34, .c (.un)), (38, .c (.un)), (39, .c (.un)), (40, .c (.un)), (41, .c (.un)), (42, .c (.un))] [] ⟨Y, Y, Y, trivial⟩ ⟨Y, Y, Y, Y, Y, Y, Y, Y, Y, Y, Y, Y, Y, trivial⟩ Y (Ka Y (Kw Y Y (Ka Y (kGN Y (fun g4 => Ki Y (Kf Y Y (Ki Y (Ke Y Y Y (Ki Y (Kq Y Y (Ki Y (Kj Y Y Y (Kk Y (Ka Y (Ka Y (kGP Y (fun g5 => Ki Y (Kp (ok_laws_zones) trivial rfl rfl rfl rfl rfl (Kk Y (Ka Y (Ka Y (Kd (Kr (Er (ra := [.one (.d _)]) rfl rfl)))))))) (fun g5 => om))))))))))))) (fun g4 => (by (simp [*] at g4))))))))) (fun g3 => Kn (Kb (Kbc (Ka Y (Kw Y Y (Kd (kCondN Y (fun g6 => Kbc (kMem [(24576, ⟨1, 0, .box [.arr 90112 1, .arr 90113 1]⟩), (16384, ⟨1, 0, .box [.d _, .d _]⟩), (90112, ⟨1, 0, .arr true _⟩), (90113, ⟨1, 0, .arr true _⟩)] [(5, .c (.ptr 24576 1 0)), (3, .c (.ptr 16384 1 0)), (45, .c (.un)), (46, .c (.un)), (47, .c (.un))] [] ⟨Y, Y, Y, Y, trivial⟩ ⟨Y, Y, Y, Y, Y, trivial⟩ Y (Ke Y Y Y (Ke Y Y Y (Kp (ok_laws_sameZone _ _ prx prx) ⟨⟨⟨Y, Y, trivial⟩, leb⟩, ⟨⟨Y, Y, trivial⟩, leb⟩, trivial⟩ Y Y Y Y Y (Ka Y (Kd (Kr (Er (ra := [.one (.d _)]) rfl ?_))))))))) (fun g6 => (by (simp [*] at g6))))))))))))))))))))))))))))))))))))))
    exact absurd ⟨by assumption, by assumption⟩ hc

end Go.Proofs.YtdfcphdolipapaaGreat.FnAddsFn
