/- What the functions that FnCaches reaches compute, one contract each; each with the bounds that it states. -/
import Derived.Test.YtmdmlncdjdphdaaGreatHearth4
import Derived.Test.YtmdmlncdjdphdaaGreatProg
import Derived.KernelRfl
set_option maxRecDepth 100000
set_option maxHeartbeats 8000000
set_option linter.unusedVariables false
set_option linter.unusedSimpArgs false
namespace Go.Proofs.YtmdmlncdjdphdaaGreat.FnCachesFn
open Go Hearth Go.Proofs

def findS (l : List Slot) (n : List (List UInt8)) (t : Int) : Int := idx (fun s => decide (s.name = n) && s.ty == t) l
def zeroS : Slot := ⟨[], 0, 0, [], 0, 0, 0⟩
def slotAt (c : Cache) (n : List (List UInt8)) (t : Int) : Slot := c.slots.getD (findS c.slots n t).toNat zeroS
def cutTtl (m : Int) (r : Rr) : Rr := if m < r.ttl then { r with ttl := m } else r
def getC (c : Cache) (n : List (List UInt8)) (t : Int) : Cache :=
  if findS c.slots n t < 0 then c else if c.turn < 1000000 then ⟨c.now, c.turn + 1, c.slots.set (findS c.slots n t).toNat { slotAt c n t with used := c.turn + 1 }⟩ else c
def getL (c : Cache) (n : List (List UInt8)) (t : Int) : List Rr := if findS c.slots n t < 0 then [] else (slotAt c n t).rrs.map (cutTtl ((slotAt c n t).til - c.now))
def getK (c : Cache) (n : List (List UInt8)) (t : Int) : Int := if findS c.slots n t < 0 then 0 else (slotAt c n t).kind
theorem findS_cases (l : List Slot) (n : List (List UInt8)) (t : Int) : findS l n t = -1 ∨ ∃ i : Nat, i < l.length ∧ findS l n t = i := by
  unfold findS idx
  split
  · rename_i i h
    exact .inr ⟨i, (List.findIdx?_eq_some_iff_getElem.1 h).1, rfl⟩
  · exact .inl rfl
theorem slotAt_eq {c : Cache} {n : List (List UInt8)} {t : Int} {i : Nat} (hi : i < c.slots.length) (h : findS c.slots n t = i) : slotAt c n t = c.slots[i] := by
  unfold slotAt
  rw [h, Int.toNat_natCast, List.getD_eq_getElem?_getD, List.getElem?_eq_getElem hi, Option.getD_some]

def mayC (c : Cache) (n : List (List UInt8)) (t rank : Int) : Bool := decide (c.turn < 1000000) && (decide (findS c.slots n t < 0) || decide ((slotAt c n t).rank ≤ rank))
def ttlC (n : Int) : Int := if 1000 < n then 1000 else n
theorem erase_eq (l : List Slot) (i : Nat) : l.eraseIdx i = l.take i ++ l.drop (i + 1) := List.eraseIdx_eq_take_drop_succ l i
def cacheLo (c : Cache) (v : Nat) : List (Nat × OK) := [(0, .box [.d (.sc (.int .i64 c.now)), .d (.sc (.int .i64 c.turn)), .arr 1 v]), (1, .arr false (encS c.slots))]
section
variable {P : Program} {k : List It} {Q : Ex → St → Prop}
theorem kJoin2 {α : Type} {x y y2 : C} {s0 : St} (F : α → St) (h : ∀ z, kont P (.c x :: k) Q .normal (F z)) (h2 : ∀ x' : C, (∀ s z, Sub s (F z) → kont P (.c x' :: k) Q .normal s) → kont P (.c y :: .c y2 :: .c x' :: k) Q .normal s0) : kont P (.c y :: .c y2 :: .c x :: k) Q .normal s0 :=
  h2 x (fun _ z hs => kSub hs (h z))
theorem kJoinB {α : Type} {x y : C} {n : Nat} {s0 : St} (F : α → St) (h : ∀ z, kont P (.c x :: k) Q .normal (F z)) (h2 : ∀ x' : C, (∀ s z, Sub s (F z) → kont P (.c x' :: k) Q .normal s) → kont P (.c y :: .b n :: .c x' :: k) Q .normal s0) : kont P (.c y :: .b n :: .c x :: k) Q .normal s0 :=
  h2 x (fun _ z hs => kSub hs (h z))
end

def usedAt (l : List Slot) (i : Nat) : Int := (l.getD i zeroS).used
def oldN (l : List Slot) : Nat → Nat
  | 0 => 0
  | k + 1 => if usedAt l k < usedAt l (oldN l k) then k else oldN l k
theorem oldN_lt (l : List Slot) : ∀ k, k ≤ l.length → 0 < l.length → oldN l k < l.length
  | 0, _, h => h
  | k + 1, hk, h => by
    unfold oldN
    split
    · omega
    · exact oldN_lt l k (by omega) h
theorem usedAt_eq {l : List Slot} {i : Nat} (h : i < l.length) : usedAt l i = l[i].used := by simp [usedAt, List.getD_eq_getElem?_getD, h]
def refuse (c : Cache) (s : Slot) (ttl : Int) : Bool := decide (ttl = 0) || decide (c.turn = 1000000) || (decide (0 ≤ findS c.slots s.name s.ty) && decide (s.rank < (slotAt c s.name s.ty).rank))
def baseC (c : Cache) (s : Slot) : List Slot := if 0 ≤ findS c.slots s.name s.ty then c.slots.eraseIdx (findS c.slots s.name s.ty).toNat else if c.slots.length = 8 then c.slots.eraseIdx (oldN c.slots 8) else c.slots
def newS (c : Cache) (s : Slot) (ttl : Int) : Slot := { s with til := c.now + (if ttl ≤ 1000 then ttl else 1000), used := c.turn + 1 }
structure KeptC (c : Cache) (s : Slot) (ttl : Int) (d : Cache) : Prop where
  n : d.now = c.now
  t : d.turn = c.turn + 1
  p : d.slots.Perm (baseC c s ++ [newS c s ttl])
  o : ∀ i j (h : i < j) (hj : j < d.slots.length), ¬ cmpS d.slots[j] d.slots[i] < 0
def KeepR (c : Cache) (s : Slot) (ttl : Int) (d : Cache) (ok : Bool) : Prop := if refuse c s ttl then d = c ∧ ok = false else ok = true ∧ KeptC c s ttl d
section
variable {P : Program} {k : List It} {Q : Ex → St → Prop} {s : St} {r : T} {d : Option Nat} {q : Bool} {oi : Nat} {tags : List Nat}
theorem kCallEA {α : Type} {C : α → Prop} {f : α → List RA} {g : α → DV} {e fn : Nat} {args : List X} {gas : List GA} {p id v ev : Nat} {dp : Bool} {y : DV}
    (hok : FnOK P fn gas (fun ra' os => ∃ x, C x ∧ ra' = f x ∧ os.a p = g x)) (hm : matchGs P s (args.map s.ev) gas) (hb : callB s e (args.map s.ev) gas false = true)
    (hbs : bindGs 0 (args.map s.ev) gas = [(p, id, false)]) (ho : s.ob id = ⟨v, ev, .arr dp y⟩) (hl : ∀ x, decide ((f x).length ≤ 64) = true)
    (h : ∀ x, C x → kont P (.t r tags :: k) Q .normal ((s.after e (f x) [(p, id, false)] ⟨fun _ => g x, fun _ => []⟩).put d (resV s e (f x)))) : kont P (.t (.op oi [] d none q (.call e fn args) r) tags :: k) Q .normal s :=
  kCall false hok hm hb nofun (fun ra' _ ⟨x, _, e1, _⟩ => by rw [e1]; simpa using hl x) (fun ra' os ⟨x, hC, e1, hy⟩ => by
    subst e1
    rw [hbs, after_congr (os' := ⟨fun _ => g x, fun _ => []⟩) ho hy]
    exact h x hC)
end

def zeroCg : Cache := ⟨0, 0, []⟩
def cgOk (c : Cache) (n : List (List UInt8)) (t : Int) : Bool := cacheOk c && nameOk n && tyOk t
def cgC (c : Cache) (n : List (List UInt8)) (t : Int) : Cache := if cgOk c n t then getC c n t else zeroCg
def cgL (c : Cache) (n : List (List UInt8)) (t : Int) : List Rr := if cgOk c n t then getL c n t else []
def cgK (c : Cache) (n : List (List UInt8)) (t : Int) : Int := if cgOk c n t then getK c n t else 0
theorem cache_bounds {c : Cache} (h : cacheOk c = true) : (0 ≤ c.now ∧ 0 ≤ c.turn ∧ c.turn ≤ 1000000) ∧ ∀ s ∈ c.slots, 0 ≤ s.til ∧ s.til ≤ 100000000 ∧ c.now ≤ 100000000 := by
  unfold cacheOk at h
  simp only [Bool.and_eq_true, decide_eq_true_eq, List.all_eq_true] at h
  obtain ⟨⟨⟨⟨h1, h2⟩, h3⟩, h4⟩, _⟩ := h
  refine ⟨⟨h1.1, h2.1, h2.2⟩, fun s hs => ?_⟩
  have := h4 s hs
  unfold slotOk at this
  simp only [Bool.and_eq_true, decide_eq_true_eq] at this
  omega
theorem cutTtl_small {m : Int} {r : Rr} (h : SmallR r) : SmallR (cutTtl m r) := by
  unfold cutTtl; split
  · exact ⟨h.n, h.t, h.x, h.m⟩
  · exact h
theorem getC_small {c : Cache} {n : List (List UInt8)} {t : Int} (h : SmallSs c.slots) : SmallSs (getC c n t).slots := by
  rcases findS_cases c.slots n t with e | ⟨i, hi, e⟩
  · unfold getC; rw [e]; exact h
  · unfold getC
    rw [slotAt_eq hi e, e, if_neg (show ¬ ((i : Int) < 0) by omega)]
    split
    · rw [Int.toNat_natCast]
      have hm := h.mem _ (List.getElem_mem hi)
      refine ⟨by simp only [List.length_set]; exact h.len, fun s hs => ?_⟩
      rcases List.mem_or_eq_of_mem_set hs with hs | rfl
      · exact h.mem s hs
      · exact ⟨hm.n, hm.r⟩
    · exact h
theorem getL_small {c : Cache} {n : List (List UInt8)} {t : Int} (h : SmallSs c.slots) : SmallRs (getL c n t) := by
  rcases findS_cases c.slots n t with e | ⟨i, hi, e⟩
  · unfold getL; rw [e]; exact ⟨Nat.zero_le _, nofun⟩
  · unfold getL
    rw [slotAt_eq hi e, e, if_neg (show ¬ ((i : Int) < 0) by omega)]
    have hm := (h.mem _ (List.getElem_mem hi)).r
    refine ⟨by rw [List.length_map]; exact hm.len, fun r hr => ?_⟩
    obtain ⟨x, hx, rfl⟩ := List.mem_map.1 hr
    exact cutTtl_small (hm.mem x hx)

theorem KeepR.small {c d : Cache} {s : Slot} {ttl : Int} {ok : Bool} (h : KeepR c s ttl d ok) (hs : SmallSs c.slots) (h8 : c.slots.length ≤ 8) (hsm : SmallS s) : SmallSs d.slots := by
  unfold KeepR at h
  split at h
  · rw [h.1]; exact hs
  · obtain ⟨_, h⟩ := h
    have hb : ∀ x ∈ baseC c s, x ∈ c.slots := by
      unfold baseC
      split
      · exact fun x hx => List.mem_of_mem_eraseIdx hx
      · split
        · exact fun x hx => List.mem_of_mem_eraseIdx hx
        · exact fun x hx => hx
    have hl : (baseC c s).length ≤ c.slots.length := by
      unfold baseC
      split
      · rw [List.length_eraseIdx]; split <;> omega
      · split
        · rw [List.length_eraseIdx]; split <;> omega
        · exact Nat.le_refl _
    refine ⟨?_, fun x hx => ?_⟩
    · have h1 := h.p.length_eq
      rw [List.length_append, List.length_singleton] at h1
      omega
    · have := h.p.mem_iff.1 hx
      rcases List.mem_append.1 this with h1 | h1
      · exact hs.mem x (hb x h1)
      · simp only [List.mem_singleton] at h1
        rw [h1]
        exact ⟨hsm.n, hsm.r⟩
theorem cache_len {c : Cache} (h : cacheOk c = true) : c.slots.length ≤ 8 ∧ c.now ≤ 1000000 := by
  unfold cacheOk at h
  simp only [Bool.and_eq_true, decide_eq_true_eq] at h
  exact ⟨h.1.1.2, h.1.1.1.1.2⟩
theorem set_pos {l : List Rr} (h : isSetR l = true) : 0 < l.length ∧ ∀ r ∈ l, rrOk r = true := by
  unfold isSetR at h
  simp only [Bool.and_eq_true, decide_eq_true_eq] at h
  refine ⟨h.1.1, fun r hr => ?_⟩
  have := h.1.2
  unfold rrsOk at this
  simp only [Bool.and_eq_true, List.all_eq_true] at this
  exact this.2 r hr
def putS (l : List Rr) (rank : Int) : Slot := ⟨(l.getD 0 ⟨[], 0, 0, 0, [], [], []⟩).name, (l.getD 0 ⟨[], 0, 0, 0, [], [], []⟩).ty, 1, l, rank, 0, 0⟩
def putOk (c : Cache) (l : List Rr) (rank : Int) : Bool := cacheOk c && isSetR l && decide (0 ≤ rank ∧ rank ≤ 3)
def PutR (c : Cache) (l : List Rr) (rank : Int) (d : Cache) (ok : Bool) : Prop := if putOk c l rank then KeepR c (putS l rank) (l.getD 0 ⟨[], 0, 0, 0, [], [], []⟩).ttl d ok else d = ⟨0, 0, []⟩ ∧ ok = false

theorem cmpS_ord : Cmp cmpS := (cmpN_cmp.comap Slot.name).lex (cmpI_cmp.comap Slot.ty)
theorem cmpS_zero {a b : Slot} : cmpS a b = 0 ↔ a.name = b.name ∧ a.ty = b.ty := by
  unfold cmpS
  rw [← cmpN_iff a.name b.name, ← cmpI_zero (a := a.ty) (b := b.ty)]
  split
  · rename_i h; exact ⟨fun h2 => ⟨h, h2⟩, fun h2 => h2.2⟩
  · rename_i h; exact ⟨fun h2 => absurd h2 h, fun h2 => absurd h2.1 h⟩
structure COk (c : Cache) : Prop where
  n : 0 ≤ c.now ∧ c.now ≤ 1000000
  t : 0 ≤ c.turn ∧ c.turn ≤ 1000000
  len : c.slots.length ≤ 8
  sl : ∀ s ∈ c.slots, slotOk c.now c.turn s = true
  so : c.slots.Pairwise fun a b => cmpS a b < 0
  us : c.slots.Pairwise fun a b => a.used ≠ b.used
theorem slots_sorted {l : List Slot} (h : ∀ i < l.length, prevS l i = true) : l.Pairwise fun a b => cmpS a b < 0 := by
  have step : ∀ i (hi : i + 1 < l.length), cmpS l[i] l[i + 1] < 0 := by
    intro i hi
    have := h (i + 1) hi
    unfold prevS at this
    rw [dif_pos ⟨by omega, hi⟩] at this
    simpa using this
  have far : ∀ (k i : Nat) (hk : i + k + 1 < l.length), cmpS l[i] l[i + k + 1] < 0 := by
    intro k
    induction k with
    | zero => intro i hk; exact step i hk
    | succ k ih =>
      intro i hk
      exact cmpS_ord.lt (ih i (by omega)) (step (i + k + 1) (by omega))
  rw [List.pairwise_iff_getElem]
  intro i j hi hj hij
  have := far (j - i - 1) i (by omega)
  have e : i + (j - i - 1) + 1 = j := by omega
  simp only [e] at this
  exact this
theorem cOk {c : Cache} : cacheOk c = true ↔ COk c := by
  constructor
  · intro h
    unfold cacheOk at h
    simp only [Bool.and_eq_true, decide_eq_true_eq, List.all_eq_true, List.mem_range] at h
    obtain ⟨⟨⟨⟨h1, h2⟩, h3⟩, h4⟩, h5⟩ := h
    have at_ : ∀ i (hi : i < c.slots.length), prevS c.slots i = true ∧ ((c.slots.take i).any fun o => o.used == c.slots[i].used) = false := by
      intro i hi
      have := h5 i hi
      rw [sAt_eq hi] at this
      simp only [Bool.and_eq_true, Bool.not_eq_true'] at this
      exact this
    refine ⟨h1, h2, h3, h4, slots_sorted fun i hi => (at_ i hi).1, ?_⟩
    rw [List.pairwise_iff_getElem]
    intro i j hi hj hij he
    have := (at_ j hj).2
    rw [List.any_eq_false] at this
    refine this c.slots[i] ?_ (by simp [he])
    rw [List.mem_iff_getElem]
    exact ⟨i, by simp; omega, by simp⟩
  · intro h
    unfold cacheOk
    simp only [Bool.and_eq_true, decide_eq_true_eq, List.all_eq_true, List.mem_range]
    refine ⟨⟨⟨⟨h.n, h.t⟩, h.len⟩, h.sl⟩, fun i hi => ?_⟩
    rw [sAt_eq hi]
    simp only [Bool.and_eq_true, Bool.not_eq_true']
    have h1 := h.so
    have h2 := h.us
    rw [List.pairwise_iff_getElem] at h1 h2
    refine ⟨?_, ?_⟩
    · unfold prevS
      split
      · rename_i hh
        exact decide_eq_true (h1 (i - 1) i (by omega) hi (by omega))
      · rfl
    · rw [List.any_eq_false]
      intro x hx
      obtain ⟨j, hj, rfl⟩ := List.mem_iff_getElem.1 hx
      simp only [List.length_take] at hj
      simp only [List.getElem_take, beq_iff_eq]
      exact h2 j i (by omega) hi (by omega)
theorem slot_parts {now turn : Int} {s : Slot} (h : slotOk now turn s = true) : nameOk s.name = true ∧ tyOk s.ty = true ∧ (1 ≤ s.kind ∧ s.kind ≤ 3) ∧ (0 ≤ s.rank ∧ s.rank ≤ 3) ∧ (now + 1 ≤ s.til ∧ s.til ≤ now + 1000) ∧ (1 ≤ s.used ∧ s.used ≤ turn) ∧ hitOk s = true := by
  unfold slotOk at h
  simp only [Bool.and_eq_true, decide_eq_true_eq] at h
  obtain ⟨⟨⟨⟨⟨⟨h1, h2⟩, h3⟩, h4⟩, h5⟩, h6⟩, h7⟩ := h
  exact ⟨h1, h2, h3, h4, h5, h6, h7⟩
theorem slot_of {now turn : Int} {s : Slot} (h : nameOk s.name = true ∧ tyOk s.ty = true ∧ (1 ≤ s.kind ∧ s.kind ≤ 3) ∧ (0 ≤ s.rank ∧ s.rank ≤ 3) ∧ (now + 1 ≤ s.til ∧ s.til ≤ now + 1000) ∧ (1 ≤ s.used ∧ s.used ≤ turn) ∧ hitOk s = true) : slotOk now turn s = true := by
  unfold slotOk
  simp only [Bool.and_eq_true, decide_eq_true_eq]
  obtain ⟨h1, h2, h3, h4, h5, h6, h7⟩ := h
  exact ⟨⟨⟨⟨⟨⟨h1, h2⟩, h3⟩, h4⟩, h5⟩, h6⟩, h7⟩
theorem hit_rrs {s : Slot} (h : hitOk s = true) : ∀ r ∈ s.rrs, rrOk r = true := by
  unfold hitOk at h
  split at h
  · simp only [Bool.and_eq_true] at h
    exact (set_pos h.1.1).2
  · have : s.rrs = [] := List.length_eq_zero_iff.1 (of_decide_eq_true h)
    rw [this]; exact nofun
theorem find_sorted {l : List Slot} (hp : l.Pairwise fun a b => cmpS a b < 0) {s : Slot} (hs : s ∈ l) : ∃ i, ∃ h : i < l.length, findS l s.name s.ty = (i : Int) ∧ l[i] = s := by
  obtain ⟨i, hi, rfl⟩ := List.mem_iff_getElem.1 hs
  refine ⟨i, hi, ?_, rfl⟩
  unfold findS
  refine idx_first hi (fun x hx => ?_) (by simp)
  obtain ⟨j, hj, rfl⟩ := List.mem_iff_getElem.1 hx
  rw [List.pairwise_iff_getElem] at hp
  simp only [List.length_take] at hj
  simp only [List.getElem_take]
  have h1 := hp j i (by omega) hi (by omega)
  rw [Bool.eq_false_iff]
  intro h2
  simp only [Bool.and_eq_true, decide_eq_true_eq, beq_iff_eq] at h2
  have := cmpS_zero.2 h2
  omega
theorem got {c : Cache} (h : COk c) {s : Slot} (hs : s ∈ c.slots) : cgL c s.name s.ty = s.rrs.map (cutTtl (s.til - c.now)) ∧ cgK c s.name s.ty = s.kind := by
  obtain ⟨i, hi, h1, h2⟩ := find_sorted h.so hs
  have h3 := slotAt_eq hi h1
  rw [h2] at h3
  obtain ⟨p1, p2, _⟩ := slot_parts (h.sl s hs)
  have hok : cgOk c s.name s.ty = true := by unfold cgOk; rw [cOk.2 h, p1, p2]; rfl
  unfold cgL cgK getL getK
  have hn : ¬ ((i : Int) < 0) := by omega
  rw [hok, h1, if_neg hn, if_neg hn, h3]
  exact ⟨rfl, rfl⟩
theorem cutTtl_le (m : Int) (r : Rr) : (cutTtl m r).ttl ≤ r.ttl ∧ (cutTtl m r).ttl ≤ m := by
  unfold cutTtl
  split
  · simp only; omega
  · omega
theorem COk.same {c : Cache} (h : COk c) : ∀ s ∈ c.slots, sameRs s.rrs s.rrs = true := fun s hs => sameRs_refl (hit_rrs (slot_parts (h.sl s hs)).2.2.2.2.2.2)
theorem base_sub (c : Cache) (s : Slot) : (baseC c s).Sublist c.slots := by
  unfold baseC
  split
  · exact List.eraseIdx_sublist _ _
  · split
    · exact List.eraseIdx_sublist _ _
    · exact List.Sublist.refl _
theorem base_len {c : Cache} (h : c.slots.length ≤ 8) (s : Slot) : (baseC c s).length ≤ 7 := by
  unfold baseC
  split
  · rename_i hf
    rcases findS_cases c.slots s.name s.ty with e | ⟨i, hi, e⟩
    · omega
    · rw [e, Int.toNat_natCast, List.length_eraseIdx_of_lt hi]; omega
  · split
    · rename_i h8
      rw [List.length_eraseIdx_of_lt (oldN_lt _ _ (by omega) (by omega))]; omega
    · omega
theorem base_ne {c : Cache} (h : c.slots.Pairwise fun a b => cmpS a b < 0) (s : Slot) : ∀ x ∈ baseC c s, cmpS x s ≠ 0 := by
  intro x hx he
  have he' := cmpS_zero.1 he
  by_cases hf : 0 ≤ findS c.slots s.name s.ty
  · unfold baseC at hx
    rw [if_pos hf] at hx
    rcases findS_cases c.slots s.name s.ty with e | ⟨i, hi, e⟩
    · omega
    · rw [e, Int.toNat_natCast] at hx
      obtain ⟨j, hji, hj, hh⟩ := List.mem_eraseIdx_iff_getElem.1 hx
      obtain ⟨j2, hj2, e1, e2⟩ := find_sorted h (List.getElem_mem hji)
      rw [hh, he'.1, he'.2, e] at e1
      have : i = j2 := by omega
      subst this
      rw [List.pairwise_iff_getElem] at h
      rcases Nat.lt_or_gt_of_ne hj with h3 | h3
      · have := h j i hji hi h3; rw [e2, cmpS_ord.self] at this; omega
      · have := h i j hi hji h3; rw [e2, cmpS_ord.self] at this; omega
  · have h1 := (base_sub c s).subset hx
    obtain ⟨j2, hj2, e1, e2⟩ := find_sorted h h1
    rw [he'.1, he'.2] at e1
    omega
theorem COk.kept {c d : Cache} {s : Slot} {ttl : Int} (h : COk c) (hk : KeptC c s ttl d) (hr : refuse c s ttl = false) (ht : 0 ≤ ttl) (h1 : nameOk s.name = true) (h2 : tyOk s.ty = true) (h3 : 1 ≤ s.kind ∧ s.kind ≤ 3) (h4 : 0 ≤ s.rank ∧ s.rank ≤ 3) (h5 : hitOk s = true) : COk d ∧ newS c s ttl ∈ d.slots ∧ 1 ≤ ttl := by
  unfold refuse at hr
  simp only [Bool.or_eq_false_iff, decide_eq_false_iff_not] at hr
  obtain ⟨⟨r1, r2⟩, _⟩ := hr
  have hn := h.n
  have htn := h.t
  have hkn := hk.n
  have hkt := hk.t
  have hin : newS c s ttl ∈ d.slots := hk.p.mem_iff.2 (List.mem_append.2 (.inr (List.mem_singleton.2 rfl)))
  refine ⟨⟨by omega, by omega, ?_, fun x hx => ?_, ?_, ?_⟩, hin, by omega⟩
  · rw [hk.p.length_eq, List.length_append, List.length_singleton]
    have := base_len h.len s
    omega
  · rcases List.mem_append.1 (hk.p.mem_iff.1 hx) with hx | hx
    · obtain ⟨p1, p2, p3, p4, p5, p6, p7⟩ := slot_parts (h.sl x ((base_sub c s).subset hx))
      exact slot_of ⟨p1, p2, p3, p4, by omega, by omega, p7⟩
    · rw [List.mem_singleton] at hx
      subst hx
      refine slot_of ⟨h1, h2, h3, h4, ?_, ?_, h5⟩
      · unfold newS; simp only; split <;> omega
      · unfold newS; simp only; omega
  · have hw : (baseC c s ++ [newS c s ttl]).Pairwise fun a b => cmpS a b ≠ 0 := by
      rw [List.pairwise_append]
      refine ⟨(h.so.sublist (base_sub c s)).imp fun hab => by omega, List.pairwise_singleton _ _, fun a ha b hb => ?_⟩
      rw [List.mem_singleton] at hb
      subst hb
      intro he
      refine base_ne h.so s a ha ?_
      exact cmpS_zero.2 (cmpS_zero.1 he)
    have hp := (hk.p.pairwise_iff (R := fun a b => cmpS a b ≠ 0) (fun {a b} hab => by have := cmpS_ord.neg a b; omega)).2 hw
    rw [List.pairwise_iff_getElem] at hp ⊢
    intro i j hi hj hij
    have e1 := hp i j hi hj hij
    have e2 := hk.o i j hij hj
    have := cmpS_ord.neg d.slots[i] d.slots[j]
    omega
  · refine (hk.p.pairwise_iff (R := fun a b => a.used ≠ b.used) (fun {a b} hab => fun e => hab e.symm)).2 ?_
    rw [List.pairwise_append]
    refine ⟨h.us.sublist (base_sub c s), List.pairwise_singleton _ _, fun a ha b hb => ?_⟩
    rw [List.mem_singleton] at hb
    subst hb
    obtain ⟨_, _, _, _, _, p6, _⟩ := slot_parts (h.sl a ((base_sub c s).subset ha))
    unfold newS
    simp only
    omega

theorem hit_put {l : List Rr} {rank : Int} (h : isSetR l = true) : hitOk (putS l rank) = true := by
  obtain ⟨h1, _⟩ := set_pos h
  have e0 : l.getD 0 emptyR = l[0] := by simp [List.getD_eq_getElem?_getD, h1]
  unfold hitOk putS
  simp only [if_true]
  rw [h]
  simp [emptyR]
theorem set_same {l : List Rr} (h : isSetR l = true) (i : Nat) (hi : i < l.length) : l[i].ttl = (l[0]'(by omega)).ttl := by
  unfold isSetR at h
  simp only [Bool.and_eq_true, List.all_eq_true, List.mem_range] at h
  have := h.2 i hi
  rw [setAt_eq hi (by omega)] at this
  simp only [Bool.and_eq_true, decide_eq_true_eq] at this
  exact this.1.2
theorem rrOk_ttl {r : Rr} (h : rrOk r = true) {m : Int} (h1 : 0 ≤ m) : rrOk (cutTtl m r) = true := by
  unfold cutTtl
  split
  · unfold rrOk at h ⊢
    simp only [Bool.and_eq_true, decide_eq_true_eq] at h ⊢
    exact ⟨⟨h.1.1, by omega⟩, h.2⟩
  · exact h
theorem cmpR_cut (m : Int) (r : Rr) : cmpR (cutTtl m r) r = 0 := by
  unfold cutTtl
  split
  · exact (cmpR_iff _ _).2 ⟨rfl, rfl, rfl⟩
  · exact (cmpR_iff _ _).2 ⟨rfl, rfl, rfl⟩
theorem caches_main {c d : Cache} {l : List Rr} {rank : Int} (h : PutR c l rank d true) (h0 : 0 < l.length) :
    COk d ∧ cgK d l[0].name l[0].ty = 1 ∧ (cgL d l[0].name l[0].ty).length = l.length ∧ (∀ i (hi : i < (cgL d l[0].name l[0].ty).length) (hj : i < l.length), sameR (cgL d l[0].name l[0].ty)[i] l[i] = true ∧ (cgL d l[0].name l[0].ty)[i].ttl ≤ l[i].ttl ∧ 1 ≤ (cgL d l[0].name l[0].ty)[i].ttl) ∧ 1 ≤ (namesN d).length ∧ (namesN d).length ≤ d.slots.length := by
  unfold PutR at h
  split at h
  case isFalse => exact absurd h.2 (by decide)
  rename_i hok
  unfold putOk at hok
  simp only [Bool.and_eq_true, decide_eq_true_eq] at hok
  obtain ⟨⟨hc, hl⟩, hr⟩ := hok
  obtain ⟨_, hrr⟩ := set_pos hl
  have e0 : l.getD 0 ⟨[], 0, 0, 0, [], [], []⟩ = l[0] := by simp [List.getD_eq_getElem?_getD, h0]
  have hr0 := hrr _ (List.getElem_mem h0)
  obtain ⟨t1, t2, t3, t4, t5⟩ := rrOk_ty hr0
  unfold KeepR at h
  split at h
  case isTrue => exact absurd h.2 (by decide)
  rename_i href
  have href : refuse c (putS l rank) (l.getD 0 ⟨[], 0, 0, 0, [], [], []⟩).ttl = false := by simpa using href
  rw [e0] at h href
  have hC := cOk.1 hc
  have hpn : (putS l rank).name = l[0].name := by unfold putS; rw [e0]
  have hpt : (putS l rank).ty = l[0].ty := by unfold putS; rw [e0]
  have htyok : tyOk l[0].ty = true := by
    unfold rrOk at hr0; simp only [Bool.and_eq_true] at hr0; exact hr0.1.1.2
  obtain ⟨hD, hin, h1⟩ := hC.kept h.2 href t3 (by rw [hpn]; exact t5) (by rw [hpt]; exact htyok) (by show 1 ≤ (1 : Int) ∧ (1 : Int) ≤ 3; omega) hr (hit_put hl)
  obtain ⟨g1, g2⟩ := got hD hin
  have hnn : (newS c (putS l rank) l[0].ttl).name = l[0].name := hpn
  have hnt : (newS c (putS l rank) l[0].ttl).ty = l[0].ty := hpt
  rw [hnn, hnt] at g1 g2
  have hdn := h.2.n
  have htil : (newS c (putS l rank) l[0].ttl).til - d.now = if l[0].ttl ≤ 1000 then l[0].ttl else 1000 := by
    unfold newS; simp only; omega
  have g1' : cgL d l[0].name l[0].ty = l.map (cutTtl (if l[0].ttl ≤ 1000 then l[0].ttl else 1000)) := by rw [g1, htil]; rfl
  refine ⟨hD, g2, by rw [g1', List.length_map], fun i hi hj => ?_, ?_, ?_⟩
  · simp only [g1', List.getElem_map]
    have hri := hrr _ (List.getElem_mem hj)
    have key : ∀ m : Int, 1 ≤ m → sameR (cutTtl m l[i]) l[i] = true ∧ (cutTtl m l[i]).ttl ≤ l[i].ttl ∧ 1 ≤ (cutTtl m l[i]).ttl := fun m hm => by
      refine ⟨?_, (cutTtl_le _ _).1, ?_⟩
      · unfold sameR
        rw [rrOk_ttl hri (by omega), hri, cmpR_cut]; rfl
      · have := set_same hl i hj
        unfold cutTtl
        split
        · exact hm
        · omega
    exact key _ (by split <;> omega)
  · have e : namesN d = namesS d.slots := by unfold namesN; rw [cOk.2 hD]; rfl
    rw [e]
    have hp := List.length_pos_of_mem hin
    match hm : d.slots with
    | [] => rw [hm] at hp; exact absurd hp (by decide)
    | s :: t =>
      unfold namesS
      have key : ∀ (t : List Slot) (out : List (List (List UInt8))), out.length ≤ (t.foldl nmStep out).length := by
        intro t
        induction t with
        | nil => intro out; exact Nat.le_refl _
        | cons s t ih =>
          intro out
          refine Nat.le_trans ?_ (ih _)
          unfold nmStep; split
          · exact Nat.le_refl _
          · simp
      rw [List.foldl_cons]
      exact key t (nmStep [] s)
  · have e : namesN d = namesS d.slots := by unfold namesN; rw [cOk.2 hD]; rfl
    rw [e]
    exact namesS_len _
theorem put_no {c d : Cache} {l : List Rr} {rank : Int} (h : PutR c l rank d false) : d.slots.length = 0 ∨ d = c ∧ COk c := by
  unfold PutR at h
  split at h
  · rename_i hok
    unfold putOk at hok
    simp only [Bool.and_eq_true] at hok
    unfold KeepR at h
    split at h
    · exact .inr ⟨h.1, cOk.1 hok.1.1⟩
    · exact absurd h.1 (by decide)
  · rw [h.1]; exact .inl rfl
theorem PutR.small {c d : Cache} {l : List Rr} {rank : Int} {ok : Bool} (h : PutR c l rank d ok) (hs : SmallSs c.slots) (h0 : 0 < l.length) (hl : SmallRs l) : SmallSs d.slots := by
  unfold PutR at h
  split at h
  · rename_i hok
    unfold putOk at hok
    simp only [Bool.and_eq_true] at hok
    have e0 : l.getD 0 ⟨[], 0, 0, 0, [], [], []⟩ = l[0] := by simp [List.getD_eq_getElem?_getD, h0]
    refine h.small hs (cOk.1 hok.1.1).len ⟨?_, hl⟩
    show SmallBB (l.getD 0 ⟨[], 0, 0, 0, [], [], []⟩).name
    rw [e0]
    exact (hl.mem _ (List.getElem_mem h0)).n
  · rw [h.1]; exact .nil

def c_spec_Lower : C := (.g (.o 0 2 (.mov (.n 1)) .done) (.g (.o 0 5 (.lit 5 1 [(.v (.int .u8 0))] 0 []) (.o 1 6 (.mov (.t 0)) (.o 2 7 (.app 7 1 1 (.t 5) (.t 6)) (.o 3 3 (.mov (.t 7)) .done)))) (.seq (.g (.o 0 4 (.mov (.i 0)) .done) (.block 0 (.loop (.seq (.g (.o 0 8 (.mov (.t 4)) (.o 1 9 (.mov (.t 3)) (.o 2 10 (.len (.t 9)) (.o 3 11 (.bin .lss (.t 8) (.t 10)) .done)))) (.cond (.t 11) .skip (.exit 0))) (.seq (.block 1 (.g (.o 0 14 (.mov (.t 3)) (.o 1 15 (.mov (.t 4)) (.o 2 16 (.iad 1 (.t 14) (.t 15)) (.o 3 17 (.load none (.t 16)) (.o 4 18 (.bin .geq (.t 17) (.v (.int .u8 65))) (.o 5 19 (.mov (.t 18)) (.op 6 [] (some 20) (some (19, true)) false (.mov (.t 3)) (.op 7 [] (some 21) (some (19, true)) false (.mov (.t 4)) (.op 8 [] (some 22) (some (19, true)) false (.iad 1 (.t 20) (.t 21)) (.op 9 [] (some 23) (some (19, true)) false (.load none (.t 22)) (.op 10 [] (some 24) (some (19, true)) false (.bin .leq (.t 23) (.v (.int .u8 90))) (.o 11 25 (.pick (.t 19) (.t 24) (.v (.bool false))) .done)))))))))))) (.cond (.t 25) (.reg false (.o 0 26 (.mov (.t 3)) (.o 1 27 (.mov (.t 4)) (.o 2 28 (.mov (.t 3)) (.o 3 29 (.mov (.t 4)) (.o 4 30 (.iad 1 (.t 28) (.t 29)) (.o 5 31 (.load none (.t 30)) (.o 6 32 (.bin .add (.t 31) (.v (.int .u8 32))) (.o 7 33 (.iad 1 (.t 26) (.t 27)) (.op 8 [] none none false (.store none (.t 33) (.t 32)) .done)))))))))) .skip))) (.reg false (.o 0 12 (.mov (.t 4)) (.o 1 13 (.bin .add (.t 12) (.i 1)) (.o 2 4 (.mov (.t 13)) .done))))))))) (.g (.o 0 34 (.mov (.t 3)) (.o 1 2 (.mov (.t 34)) .done)) .ret))))
theorem dg_spec_Lower : Tryz.f248.body.bind (digC Tryz.prog Tryz.f248.ntmps []) = some c_spec_Lower := by kernel_rfl
theorem rs_spec_Lower : resSlots Tryz.prog Tryz.f248 = some [.s 2] := by kernel_rfl
theorem ok_spec_Lower (b : List UInt8) (hb : b.length ≤ 4194304) :
    FnOK Tryz.prog 248 [.one (.d (encB b))] (fun ra _ => ra = [.one (.own true (encB (lowerB b)))]) := by
  refine FnOK.ofK Tryz.func248 (by kernel_rfl) dg_spec_Lower rs_spec_Lower rfl rfl ?_
  delta c_spec_Lower T.o X.i C.g
  refine Kbc (Ka Y (Kdb (Kc (kLit Y Y Y Y (Ka Y (kAppN Y Y Y (src_encB _ _) rfl rfl rfl rfl om (Ka Y (Kdb (Kbc (Ka Y (Kd (Kt ?_))))))))))))
  refine kLoop (α := { i : Nat // i ≤ b.length }) (fun y => ⟨tabSl [(3, .c (.arr (rid 5 0) 1)), (4, .i y.1)], obTab 1 [(rid 5 0, ⟨1, 0, .arr true (encB (lowerB (b.take y.1) ++ b.drop y.1))⟩)], []⟩) (fun y => b.length - y.1) ⟨0, by simp⟩ .normA ?_
  rintro ⟨i, hi⟩
  simp only
  have hlen : (lowerB (b.take i) ++ b.drop i).length = b.length := by simp [lowerB]; omega
  rcases Nat.lt_or_ge i b.length with hlt | hge
  · have hget : (lowerB (b.take i) ++ b.drop i)[i]? = some b[i] := by
      rw [List.getElem?_append_right (by simp [lowerB]; omega)]; simp [lowerB, Nat.min_eq_left hi]
    have hst : ∀ c, c = lowC b[i] → (lowerB (b.take i) ++ b.drop i).set i c = lowerB (b.take (i + 1)) ++ b.drop (i + 1) := by
      rintro c rfl
      rw [take_set_succ _ _ _ _ hlt (by simp [lowerB]; omega)]
      unfold lowerB
      rw [← List.take_append_getElem hlt, List.map_append]
      rfl
    revert hget hst hlen
    generalize lowerB (b.take i) ++ b.drop i = L
    intro hlen hget hst
    have hiL : i < L.length := by omega
    have hg : L[i] = b[i] := by rw [List.getElem?_eq_getElem hiL] at hget; simpa using hget
    have hw : IntKind.u8.wrap (((L[i]).toNat : Int) + 32) = ((L[i] + 32 : UInt8).toNat : Int) := by
      have := (L[i]).toNat_lt
      simp [IntKind.wrap, IntKind.bits, IntKind.signed, UInt8.toNat_add]
    have hno : (¬ ((L[i]).toNat : Int) ≥ 65 ∨ ¬ ((L[i]).toNat : Int) ≤ 90) → L = lowerB (b.take (i + 1)) ++ b.drop (i + 1) := by
      intro h
      rw [← hst L[i] (by
        rw [hg] at h ⊢
        unfold lowC
        rw [if_neg]
        rintro ⟨h1, h2⟩
        have h1 := UInt8.le_iff_toNat_le.1 h1
        have h2 := UInt8.le_iff_toNat_le.1 h2
        simp at h1 h2
        omega)]
      simp
    refine Kb (Kbc (Ka Y (Ka Y (Kq Y Y (Kj Y Y Y (Kd (Km Y (fun g0 => Kn (Kb (Kt (Kbc (Ka Y (Ka Y (kIadAR Y Y Y Y om (kLoadER Y Y om rfl (Kj Y Y Y (Ka Y (kGP Y (fun g1 => (Ki Y (Ka Y (Ki Y (Ka Y (Ki Y (kIadAR Y Y Y Y om (Ki Y (kLoadER Y Y om rfl (Ki Y (Kj Y Y Y (Kk Y (Ka Y (Kd (Km Y (fun g2 => Kc (Ka Y (Ka Y (Ka Y (Ka Y (kIadAR Y Y Y Y om (kLoadER Y Y om rfl (Kj Y Y Y (kIadAR Y Y Y Y om ?_))))))))) (fun g2 => Kn (Kv (Kc (Ka Y (kAdd Y Y om (Ka Y (Kd ?_)))))))))))))))))))))) (fun g1 => (Kg Y (Kg Y (Kg Y (Kg Y (Kg Y (Kl Y (Ka Y (Kd (kCondF Y (Kn (Kv (Kc (Ka Y (kAdd Y Y om (Ka Y (Kd ?_)))))))))))))))))))))))))))) (fun g0 => om))))))))
    · refine kStoreER (z := L[i] + 32) Y Y Y Y Y Y Y hiL (by rw [← hw]; rfl) ?_
      refine Kd (Kv (Kc (Ka Y (kAdd Y Y om (Ka Y (Kd ?_))))))
      refine kInv ⟨⟨i + 1, by omega⟩, by simp only; omega, ?_⟩
      simp only
      rw [← hst (L[i] + 32) (by
        rw [hg] at *
        unfold lowC
        rw [if_pos]
        simp only [UInt8.le_iff_toNat_le]
        exact ⟨by simp; omega, by simp; omega⟩)]
      exact .normA
    all_goals
      refine kInv ⟨⟨i + 1, by omega⟩, by simp only; omega, ?_⟩
      simp only
      rw [← hno (by omega)]
      exact .normA
  · refine Kb (Kbc (Ka Y (Ka Y (Kq Y Y (Kj Y Y Y (Kd (Km Y (fun g0 => om) (fun g0 => kExit (kExC (kExI (kExB (Kbc (Ka Y (Ka Y (Kd (Kr (Er (ra := [.one (.own true _)]) rfl ?_)))))))))))))))))
    rw [show i = b.length by omega]
    simp

def c_spec_LabelOk : C := (.g (.o 0 2 (.mov (.v (.bool false))) .done) (.seq (.g (.o 0 4 (.mov (.t 0)) (.o 1 5 (.len (.t 4)) (.o 2 6 (.bin .lss (.t 5) (.i 1)) (.o 3 7 (.mov (.t 6)) (.op 4 [] (some 8) (some (7, false)) false (.mov (.t 0)) (.op 5 [] (some 9) (some (7, false)) false (.len (.t 8)) (.op 6 [] (some 10) (some (7, false)) false (.bin .gtr (.t 9) (.i 15)) (.o 7 11 (.pick (.t 7) (.v (.bool true)) (.t 10)) .done)))))))) (.cond (.t 11) (.g (.o 0 2 (.mov (.v (.bool false))) .done) .ret) .skip)) (.seq (.g (.o 0 3 (.mov (.i 0)) .done) (.block 0 (.loop (.seq (.g (.o 0 12 (.mov (.t 3)) (.o 1 13 (.mov (.t 0)) (.o 2 14 (.len (.t 13)) (.o 3 15 (.bin .lss (.t 12) (.t 14)) .done)))) (.cond (.t 15) .skip (.exit 0))) (.seq (.block 1 (.g (.o 0 18 (.mov (.t 0)) (.o 1 19 (.mov (.t 3)) (.o 2 20 (.iad 1 (.t 18) (.t 19)) (.o 3 21 (.load none (.t 20)) (.o 4 22 (.bin .geq (.t 21) (.v (.int .u8 97))) (.o 5 23 (.mov (.t 22)) (.op 6 [] (some 24) (some (23, true)) false (.mov (.t 0)) (.op 7 [] (some 25) (some (23, true)) false (.mov (.t 3)) (.op 8 [] (some 26) (some (23, true)) false (.iad 1 (.t 24) (.t 25)) (.op 9 [] (some 27) (some (23, true)) false (.load none (.t 26)) (.op 10 [] (some 28) (some (23, true)) false (.bin .leq (.t 27) (.v (.int .u8 122))) (.o 11 29 (.pick (.t 23) (.t 28) (.v (.bool false))) (.o 12 30 (.un .not (.t 29)) (.o 13 31 (.mov (.t 30)) (.op 14 [] (some 32) (some (31, true)) false (.mov (.t 0)) (.op 15 [] (some 33) (some (31, true)) false (.mov (.t 3)) (.op 16 [] (some 34) (some (31, true)) false (.iad 1 (.t 32) (.t 33)) (.op 17 [] (some 35) (some (31, true)) false (.load none (.t 34)) (.op 18 [] (some 36) (some (31, true)) false (.bin .geq (.t 35) (.v (.int .u8 48))) (.op 19 [] (some 37) (some (31, true)) false (.mov (.t 36)) (.op 20 [] (some 38) (some (37, true)) false (.mov (.t 0)) (.op 21 [] (some 39) (some (37, true)) false (.mov (.t 3)) (.op 22 [] (some 40) (some (37, true)) false (.iad 1 (.t 38) (.t 39)) (.op 23 [] (some 41) (some (37, true)) false (.load none (.t 40)) (.op 24 [] (some 42) (some (37, true)) false (.bin .leq (.t 41) (.v (.int .u8 57))) (.op 25 [] (some 43) (some (31, true)) false (.pick (.t 37) (.t 42) (.v (.bool false))) (.op 26 [] (some 44) (some (31, true)) false (.un .not (.t 43)) (.o 27 45 (.pick (.t 31) (.t 44) (.v (.bool false))) (.o 28 46 (.mov (.t 45)) (.op 29 [] (some 47) (some (46, true)) false (.mov (.t 0)) (.op 30 [] (some 48) (some (46, true)) false (.mov (.t 3)) (.op 31 [] (some 49) (some (46, true)) false (.iad 1 (.t 47) (.t 48)) (.op 32 [] (some 50) (some (46, true)) false (.load none (.t 49)) (.op 33 [] (some 51) (some (46, true)) false (.bin .neq (.t 50) (.v (.int .u8 45))) (.o 34 52 (.pick (.t 46) (.t 51) (.v (.bool false))) .done))))))))))))))))))))))))))))))))))) (.cond (.t 52) (.g (.o 0 2 (.mov (.v (.bool false))) .done) .ret) .skip))) (.reg false (.o 0 16 (.mov (.t 3)) (.o 1 17 (.bin .add (.t 16) (.i 1)) (.o 2 3 (.mov (.t 17)) .done))))))))) (.g (.o 0 2 (.mov (.v (.bool true))) .done) .ret))))
theorem dg_spec_LabelOk : Tryz.f129.body.bind (digC Tryz.prog Tryz.f129.ntmps []) = some c_spec_LabelOk := by kernel_rfl
theorem rs_spec_LabelOk : resSlots Tryz.prog Tryz.f129 = some [.s 2] := by kernel_rfl
theorem ok_spec_LabelOk (b : List UInt8) (hb : b.length ≤ 4194304) :
    FnOK Tryz.prog 129 [.one (.d (encB b))] (fun ra _ => ra = [.one (.d (.sc (.bool (labelOk b))))]) := by
  refine FnOK.ofK Tryz.func129 (by kernel_rfl) dg_spec_LabelOk rs_spec_LabelOk rfl rfl ?_
  delta c_spec_LabelOk T.o X.i C.g
  refine Kbc (Ka Y (Kdb (Kbc (Ka Y (Kq Y Y (Kj Y Y Y (Ka Y (kGP Y (fun g0 => Kg Y (Kg Y (Kg Y (Kk Y (Ka Y (Kd (kCondT Y (Kbc (Ka Y (Kd (Kr (Er (ra := [.one (.d _)]) rfl ?_)))))))))))) (fun g0 => Ki Y (Ka Y (Ki Y (Kq Y Y (Ki Y (Kj Y Y Y (Kl Y (Ka Y (Kd (Km Y (fun g1 => Kbc (Ka Y (Kd (Kr (Er (ra := [.one (.d _)]) rfl ?_))))) (fun g1 => Kn (Kb (Kbc (Ka Y (Kd (Kt ?_))))))))))))))))))))))))
  · rw [show labelOk b = false by simp only [labelOk]; rw [decide_eq_false (by omega)]; rfl]
  · rw [show labelOk b = false by simp only [labelOk]; rw [decide_eq_false (p := b.length ≤ 15) (by omega)]; simp]
  refine kLoop (α := { i : Nat // i ≤ b.length ∧ (b.take i).all okLetter = true })
    (fun y => ⟨tabSl [(0, .dv (encB b)), (3, .i y.1)], (St.init [.one (.d (encB b))]).ob, []⟩) (fun y => b.length - y.1) ⟨0, by simp⟩
    (.tab rfl ⟨.refl _, .refl _, trivial⟩) ?_
  rintro ⟨i, hi, hl⟩
  simp only
  refine Kb (Kbc (Ka Y (Ka Y (Kq Y Y (Kj Y Y Y (Kd (Km Y (fun g0 => Kn (Kb (Kt (Kbc (Ka Y (Ka Y (kIadR Y Y Y om (Ky Y Y (Kj Y Y Y (Ka Y (kGP Y (fun g1 => Ki Y (Ka Y (Ki Y (Ka Y (Ki Y (kIadR Y Y Y om (Ki Y (Ky Y Y (Ki Y (Kj Y Y Y (Kk Y (Ka Y (Kw Y Y (Ka Y (kGN Y (fun g2 => Ki Y (Ka Y (Ki Y (Ka Y (Ki Y (kIadR Y Y Y om (Ki Y (Ky Y Y (Ki Y (Kj Y Y Y (Ki Y (Ka Y (kGP Y (fun g3 => Ki Y (Ka Y (Ki Y (Ka Y (Ki Y (kIadR Y Y Y om (Ki Y (Ky Y Y (Ki Y (Kj Y Y Y (Ki Y (Kk Y (Ka Y (Ki Y (Kw Y Y (Kk Y (Ka Y (Ka Y (kGN Y (fun g4 => Ki Y (Ka Y (Ki Y (Ka Y (Ki Y (kIadR Y Y Y om (Ki Y (Ky Y Y (Ki Y (Kj Y Y Y (Kk Y (Ka Y (Kd (kCondN Y (fun g5 => Kbc (Ka Y (Kd (Kr (Er (ra := [.one (.d _)]) rfl ?_))))) (fun g5 => Kn (Kv (Kc (Ka Y (kAdd Y Y om (Ka Y (Kd ?_))))))))))))))))))))) (fun g4 => Kg Y (Kg Y (Kg Y (Kg Y (Kg Y (Kl Y (Ka Y (Kd (kCondF Y (Kn (Kv (Kc (Ka Y (kAdd Y Y om (Ka Y (Kd ?_))))))))))))))))))))))))))))))))))) (fun g3 => om)))))))))))))) (fun g2 => Kg Y (Kg Y (Kg Y (Kg Y (Kg Y (Kg Y (kGU Y (kGU Y (kGU Y (kGU Y (kGU Y (Kg Y (Kg Y (Kl Y (Ka Y (Ka Y (Kg Y (Kg Y (Kg Y (Kg Y (Kg Y (Kl Y (Ka Y (Kd (kCondF Y (Kn (Kv (Kc (Ka Y (kAdd Y Y om (Ka Y (Kd ?_))))))))))))))))))))))))))))))))))))))))))))))) (fun g1 => Kg Y (Kg Y (Kg Y (Kg Y (Kg Y (Kl Y (Ka Y (Kw Y Y (Ka Y (Ki Y (Ka Y (Ki Y (Ka Y (Ki Y (kIadR Y Y Y om (Ki Y (Ky Y Y (Ki Y (Kj Y Y Y (Ki Y (Ka Y (kGP Y (fun g6 => Ki Y (Ka Y (Ki Y (Ka Y (Ki Y (kIadR Y Y Y om (Ki Y (Ky Y Y (Ki Y (Kj Y Y Y (Ki Y (Kk Y (Ka Y (Ki Y (Kw Y Y (Kk Y (Ka Y (Ka Y (kGN Y (fun g7 => Ki Y (Ka Y (Ki Y (Ka Y (Ki Y (kIadR Y Y Y om (Ki Y (Ky Y Y (Ki Y (Kj Y Y Y (Kk Y (Ka Y (Kd (kCondN Y (fun g8 => Kbc (Ka Y (Kd (Kr (Er (ra := [.one (.d _)]) rfl ?_))))) (fun g8 => Kn (Kv (Kc (Ka Y (kAdd Y Y om (Ka Y (Kd ?_))))))))))))))))))))) (fun g7 => Kg Y (Kg Y (Kg Y (Kg Y (Kg Y (Kl Y (Ka Y (Kd (kCondF Y (Kn (Kv (Kc (Ka Y (kAdd Y Y om (Ka Y (Kd ?_))))))))))))))))))))))))))))))))))) (fun g6 => Kg Y (Kg Y (Kg Y (Kg Y (Kg Y (Ki Y (Kl Y (Ka Y (Ki Y (Kw Y Y (Kk Y (Ka Y (Ka Y (Ki Y (Ka Y (Ki Y (Ka Y (Ki Y (kIadR Y Y Y om (Ki Y (Ky Y Y (Ki Y (Kj Y Y Y (Kk Y (Ka Y (Kd (kCondN Y (fun g9 => Kbc (Ka Y (Kd (Kr (Er (ra := [.one (.d _)]) rfl ?_))))) (fun g9 => Kn (Kv (Kc (Ka Y (kAdd Y Y om (Ka Y (Kd ?_))))))))))))))))))))))))))))))))))))))))))))))))))))))))))))))))))) (fun g0 => kExit (kExC (kExI (kExB (Kbc (Ka Y (Kd (Kr (Er (ra := [.one (.d _)]) rfl ?_))))))))))))))))
  all_goals try simp only [decide_eq_true_eq, decide_eq_false_iff_not, beq_iff_eq, beq_eq_false_iff_ne] at *
  all_goals first
    | exact kInv ⟨⟨i + 1, by omega, labelOk_step (by omega) hl (by rw [okLetter_iff]; omega)⟩, by simp only; omega, .tab rfl ⟨.refl _, .refl _, trivial⟩⟩
    | rw [labelOk_no (b := b) (i := i) (by omega) (by rw [okLetter_iff]; omega)]
    | skip
  have hge : i = b.length := by omega
  subst hge
  rw [List.take_length] at hl
  rw [show labelOk b = true by simp only [labelOk]; rw [decide_eq_true (by omega), decide_eq_true (by omega), hl]; rfl]

def c_spec_NameOk : C := (.g (.o 0 1 (.box 1 (.t 0)) (.o 1 2 (.mov (.v (.bool false))) .done)) (.seq (.g (.o 0 4 (.fad (.t 1) 0) (.o 1 5 (.load none (.t 4)) (.o 2 6 (.len (.t 5)) (.o 3 7 (.bin .gtr (.t 6) (.i 6)) .done)))) (.cond (.t 7) (.g (.o 0 2 (.mov (.v (.bool false))) .done) .ret) .skip)) (.seq (.g (.o 0 3 (.mov (.i 0)) .done) (.block 0 (.loop (.seq (.g (.o 0 8 (.mov (.t 3)) (.o 1 9 (.fad (.t 1) 0) (.o 2 10 (.load none (.t 9)) (.o 3 11 (.len (.t 10)) (.o 4 12 (.bin .lss (.t 8) (.t 11)) .done))))) (.cond (.t 12) .skip (.exit 0))) (.seq (.block 1 (.g (.o 0 15 (.fad (.t 1) 0) (.o 1 16 (.load none (.t 15)) (.o 2 17 (.mov (.t 3)) (.o 3 18 (.iad 1 (.t 16) (.t 17)) (.o 4 19 (.load none (.t 18)) (.o 5 20 (.call 20 129 [(.t 19)]) (.o 6 21 (.un .not (.t 20)) .done))))))) (.cond (.t 21) (.g (.o 0 2 (.mov (.v (.bool false))) .done) .ret) .skip))) (.reg false (.o 0 13 (.mov (.t 3)) (.o 1 14 (.bin .add (.t 13) (.i 1)) (.o 2 3 (.mov (.t 14)) .done))))))))) (.g (.o 0 2 (.mov (.v (.bool true))) .done) .ret))))
theorem dg_spec_NameOk : Tryz.f47.body.bind (digC Tryz.prog Tryz.f47.ntmps []) = some c_spec_NameOk := by kernel_rfl
theorem rs_spec_NameOk : resSlots Tryz.prog Tryz.f47 = some [.s 2] := by kernel_rfl
theorem ok_spec_NameOk (a : List (List UInt8)) (ha : a.length ≤ 4194304) (hb : ∀ b ∈ a, b.length ≤ 4194304) :
    FnOK Tryz.prog 47 [.agg [.d (encBB a)]] (fun ra _ => ra = [.one (.d (.sc (.bool (nameOk a))))]) := by
  refine FnOK.ofK Tryz.func47 (by kernel_rfl) dg_spec_NameOk rs_spec_NameOk rfl rfl ?_
  delta c_spec_NameOk T.o X.i C.g
  refine Kbc (kBox Y Y Y Y Y (Ka Y (Kdb (Kbc (Kf Y Y (Ke Y Y Y (Kq Y Y (Kj Y Y Y (Kd (Km Y (fun g0 => Kbc (Ka Y (Kd (Kr (Er (ra := [.one (.d _)]) rfl ?_))))) (fun g0 => Kn (Kb (Kbc (Ka Y (Kd (Kt ?_))))))))))))))))
  · rw [show nameOk a = false by simp only [nameOk]; rw [decide_eq_false (by omega)]; rfl]
  refine kLoop (α := { i : Nat // i ≤ a.length ∧ (a.take i).all labelOk = true })
    (fun y => ⟨tabSl [(1, .c (.ptr (rid 1 0) 1 0)), (3, .i y.1)], obTab 1 [(rid 1 0, ⟨1, 0, .box [.d (encBB a)]⟩)], []⟩) (fun y => a.length - y.1) ⟨0, by simp⟩
    .normA ?_
  rintro ⟨i, hi, hl⟩
  simp only
  refine Kb (Kbc (Ka Y (Kf Y Y (Ke Y Y Y (Kq Y Y (Kj Y Y Y (Kd (Km Y (fun g0 => Kn (Kb (Kt (Kbc (Kf Y Y (Ke Y Y Y (Ka Y (kIadR Y Y Y om (Ky Y Y (Kp (ok_spec_LabelOk _ (by first | assumption | omega | solve_by_elim [List.getElem_mem])) ⟨Y, trivial⟩ Y Y Y Y Y (Kw Y Y (Kd (kCondN Y (fun g1 => Kbc (Ka Y (Kd (Kr (Er (ra := [.one (.d _)]) rfl ?_))))) (fun g1 => Kn (Kv (Kc (Ka Y (kAdd Y Y om (Ka Y (Kd ?_)))))))))))))))))))) (fun g0 => kExit (kExC (kExI (kExB (Kbc (Ka Y (Kd (Kr (Er (ra := [.one (.d _)]) rfl ?_)))))))))))))))))
  · rename_i h
    rw [show nameOk a = false by simp only [nameOk]; rw [all_no (i := i) (by omega) (by assumption), Bool.and_false]]
  · exact kInv ⟨⟨i + 1, by omega, all_step om hl (by assumption)⟩, by simp only; omega, .normA⟩
  · have hge : i = a.length := by omega
    subst hge
    rw [List.take_length] at hl
    rw [show nameOk a = true by simp only [nameOk]; rw [decide_eq_true (by omega), hl]; rfl]

def c_spec_NameRead : C := (.g (.o 0 2 (.alloc 2 [(.n 1)]) (.o 1 3 (.mov (.v (.bool false))) .done)) (.seq (.g (.o 0 7 (.mov (.t 0)) (.o 1 8 (.b2s (.t 7)) (.o 2 9 (.bin .eql (.t 8) (.v (.string ⟨#[46]⟩))) .done))) (.cond (.t 9) (.g (.o 0 10 (.build [(.n 1)] []) (.op 1 [] none none false (.store (some 1) (.t 2) (.t 10)) (.o 2 3 (.mov (.v (.bool true))) .done))) .ret) .skip)) (.g (.o 0 4 (.alloc 4 [(.n 1)]) .done) (.g (.o 0 5 (.mov (.n 1)) .done) (.seq (.g (.o 0 6 (.mov (.i 0)) .done) (.block 0 (.loop (.seq (.g (.o 0 11 (.mov (.t 6)) (.o 1 12 (.mov (.t 0)) (.o 2 13 (.len (.t 12)) (.o 3 14 (.bin .leq (.t 11) (.t 13)) .done)))) (.cond (.t 14) .skip (.exit 0))) (.seq (.block 1 (.seq (.g (.o 0 17 (.mov (.t 6)) (.o 1 18 (.mov (.t 0)) (.o 2 19 (.len (.t 18)) (.o 3 20 (.bin .lss (.t 17) (.t 19)) (.o 4 21 (.mov (.t 20)) (.op 5 [] (some 22) (some (21, true)) false (.mov (.t 0)) (.op 6 [] (some 23) (some (21, true)) false (.mov (.t 6)) (.op 7 [] (some 24) (some (21, true)) false (.iad 1 (.t 22) (.t 23)) (.op 8 [] (some 25) (some (21, true)) false (.load none (.t 24)) (.op 9 [] (some 26) (some (21, true)) false (.bin .neq (.t 25) (.v (.int .u8 46))) (.o 10 27 (.pick (.t 21) (.t 26) (.v (.bool false))) .done))))))))))) (.cond (.t 27) (.g (.o 0 28 (.mov (.t 5)) (.o 1 29 (.mov (.t 0)) (.o 2 30 (.mov (.t 6)) (.o 3 31 (.iad 1 (.t 29) (.t 30)) (.o 4 32 (.load none (.t 31)) (.o 5 33 (.lit 33 1 [(.v (.int .u8 0))] 1 [(0, 1, (.t 32))]) (.o 6 34 (.app 34 1 1 (.t 28) (.t 33)) (.o 7 5 (.mov (.t 34)) .done)))))))) (.exit 1)) .skip)) (.seq (.g (.o 0 35 (.mov (.t 6)) (.o 1 36 (.mov (.t 0)) (.o 2 37 (.len (.t 36)) (.o 3 38 (.bin .eql (.t 35) (.t 37)) (.o 4 39 (.mov (.t 38)) (.op 5 [] (some 40) (some (39, true)) false (.mov (.t 5)) (.op 6 [] (some 41) (some (39, true)) false (.len (.t 40)) (.op 7 [] (some 42) (some (39, true)) false (.bin .eql (.t 41) (.i 0)) (.o 8 43 (.pick (.t 39) (.t 42) (.v (.bool false))) (.o 9 44 (.mov (.t 43)) (.op 10 [] (some 45) (some (44, true)) false (.mov (.t 6)) (.op 11 [] (some 46) (some (44, true)) false (.bin .gtr (.t 45) (.i 0)) (.o 12 47 (.pick (.t 44) (.t 46) (.v (.bool false))) .done))))))))))))) (.cond (.t 47) (.exit 0) .skip)) (.seq (.reg true (.op 0 [] (some 48) none true (.fad (.t 4) 0) (.op 1 [] (some 49) none true (.load none (.t 48)) (.op 2 [] (some 50) none true (.mov (.t 5)) (.o 3 51 (.call 51 248 [(.t 50)]) (.o 4 52 (.lit 52 1 [(.n 1)] 1 [(0, 1, (.t 51))]) (.op 5 [1] (some 53) none false (.app 53 1 24 (.t 49) (.t 52)) (.op 6 [] (some 54) none true (.fad (.t 4) 0) (.op 7 [1] none none false (.store none (.t 54) (.t 53)) .done))))))))) (.reg false (.o 0 5 (.mov (.n 1)) .done)))))) (.reg false (.o 0 15 (.mov (.t 6)) (.o 1 16 (.bin .add (.t 15) (.i 1)) (.o 2 6 (.mov (.t 16)) .done))))))))) (.seq (.g (.o 0 55 (.load (some 1) (.t 4)) (.o 1 56 (.call 56 47 [(.t 55)]) (.o 2 57 (.un .not (.t 56)) .done))) (.cond (.t 57) (.g (.o 0 58 (.build [(.n 1)] []) (.op 1 [] none none false (.store (some 1) (.t 2) (.t 58)) (.o 2 3 (.mov (.v (.bool false))) .done))) .ret) .skip)) (.g (.o 0 59 (.load (some 1) (.t 4)) (.op 1 [] none none false (.store (some 1) (.t 2) (.t 59)) (.o 2 3 (.mov (.v (.bool true))) .done))) .ret)))))))
theorem dg_spec_NameRead : Tryz.f170.body.bind (digC Tryz.prog Tryz.f170.ntmps []) = some c_spec_NameRead := by kernel_rfl
theorem rs_spec_NameRead : resSlots Tryz.prog Tryz.f170 = some [.m 2 (some 1), .s 3] := by kernel_rfl
theorem ok_spec_NameRead (b : List UInt8) (hb : b.length ≤ 4194303) :
    FnOK Tryz.prog 170 [.one (.d (encB b))] (fun ra _ => ra = [.agg [.own true (encBB (readN b))], .one (.d (.sc (.bool (readOk b))))]) := by
  refine FnOK.ofK Tryz.func170 (by kernel_rfl) dg_spec_NameRead rs_spec_NameRead rfl rfl ?_
  delta c_spec_NameRead T.o X.i C.g
  obtain ⟨rl1, rl2⟩ := readL_small hb
  refine Kbc (kAlloc Y Y (Ka Y (Kdb (Kbc (Ka Y (kB2s Y Y (Kj Y Y Y (Kd (kCond Y (fun g0 => Kbc (kBuildG Y (Ko Y Y Y Y (Ka Y (Kd (Kr (Er (ra := [.agg [(.own true _)], .one (.d _)]) rfl ?_))))))) (fun g0 => Kn (Kbc (kAlloc Y Y (Kdb (Kc (Ka Y (Kdb (Kbc (Ka Y (Kd (Kt ?_))))))))))))))))))))
  · rw [eq46] at g0
    have e : b = [46] := of_decide_eq_true g0
    subst e
    rfl
  rw [eq46] at g0
  have hne : b ≠ [46] := of_decide_eq_false g0
  have hrn : readN b = if nameOk (readL b) then readL b else [] := by unfold readN; rw [if_neg hne]
  have hro : readOk b = nameOk (readL b) := by unfold readOk; rw [decide_eq_false hne]; rfl
  rw [hrn, hro]
  refine kSub (Sub.nilBox (id := rid 4 0) (id2 := rid 5001 0) (j := 0) rfl rfl rfl (by decide) (by decide)) ?_
  refine kSub (Sub.nilArr (j := 5) (id := rid 5000 0) (sz := 1) rfl (by decide)) ?_
  refine kLoop (α := { i : Nat // i ≤ b.length + 1 }) (fun y => ⟨tabSl [(0, .dv (encB b)), (2, .c (.ptr (rid 2 0) 1 0)), (4, .c (.ptr (rid 4 0) 1 0)), (5, .c (.arr (rid 5000 0) 1)), (6, .i y.1)], obTab 1 [(rid 2 0, ⟨1, 0, .box [.nil 1]⟩), (rid 4 0, ⟨1, 0, .box [.arr (rid 5001 0) 1]⟩), (rid 5000 0, ⟨1, 0, .arr true (encB (rdW b y.1))⟩), (rid 5001 0, ⟨1, 0, .arr true (encBB (rdL b y.1))⟩)], []⟩) (fun y => b.length + 1 - y.1) ⟨0, by simp⟩ .normA ?_
  rintro ⟨i, hi⟩
  simp only
  have hmem := rdW_mem b i
  rcases Nat.lt_or_ge i b.length with hlt | hge
  · have hlens := rd_lens b i (by omega)
    by_cases hc : b[i] = 46
    · obtain ⟨s1, s2⟩ := rd_dot hlt hc
      have hcn : ((b[i]).toNat : Int) = 46 := by rw [hc]; rfl
      revert s1 s2
      generalize rdL b i = L at *
      generalize rdW b i = W at *
      intro s1 s2
      refine Kb (Kbc (Ka Y (Ka Y (Kq Y Y (Kj Y Y Y (Kd (Km Y (fun g0 => Kn (Kb (Kt (Kb (Kbc (Ka Y (Ka Y (Kq Y Y (Kj Y Y Y (Ka Y (kGP Y (fun g1 => Ki Y (Ka Y (Ki Y (Ka Y (Ki Y (kIadR Y Y Y om (Ki Y (Ky Y Y (Ki Y (Kj Y Y Y (Kk Y (Ka Y (Kd (kCondIN Y (fun g2 => om) (fun g2 => Kn (Kb (Kbc (Ka Y (Ka Y (Kq Y Y (Kj Y Y Y (Ka Y (kGP Y (fun g3 => om) (fun g3 => Kg Y (Kg Y (Kg Y (Kl Y (Ka Y (Ka Y (Kg Y (Kg Y (Kl Y (Ka Y (Kd (kCondF Y (Kn (Kb (kRegD (Kf Y Y (Ke Y Y Y (Ka Y (Ku true (ok_spec_Lower _ pry) ⟨Y, trivial⟩ Y Y Y (fun _ => (kLit Y Y Y Y (Ks Y Y (kAppR1 Y Y Y Y Y Y Y Y om (Kf Y Y (Ks Y Y (Ko Y Y Y Y (Kd (kH (Kc (Ka Y (Kd (Kv (Kc (Ka Y (kAdd Y Y om (Ka Y (Kd ?_)))))))))))))))))))))))))))))))))))))))))))))))))))))))))))) (fun g1 => om)))))))))))) (fun g0 => om))))))))
      refine kInv ⟨⟨i + 1, by omega⟩, by simp only; omega, ?_⟩
      simp only [s1, s2]
      exact (Sub.nilArr (j := 5) (id := rid 5000 0) (sz := 1) rfl (by decide)).trans .normA
    · obtain ⟨s1, s2⟩ := rd_char hlt hc
      have hcn : ((b[i]).toNat : Int) ≠ 46 := fun h => hc (UInt8.toNat_inj.1 (by have : b[i].toNat = 46 := by omega
                                                                                 rw [this]; rfl))
      revert s1 s2
      generalize rdL b i = L at *
      generalize rdW b i = W at *
      intro s1 s2
      refine Kb (Kbc (Ka Y (Ka Y (Kq Y Y (Kj Y Y Y (Kd (Km Y (fun g0 => Kn (Kb (Kt (Kb (Kbc (Ka Y (Ka Y (Kq Y Y (Kj Y Y Y (Ka Y (kGP Y (fun g1 => Ki Y (Ka Y (Ki Y (Ka Y (Ki Y (kIadR Y Y Y om (Ki Y (Ky Y Y (Ki Y (Kj Y Y Y (Kk Y (Ka Y (Kd (kCondIN Y (fun g2 => Kbc (Ka Y (Ka Y (Ka Y (kIadR Y Y Y om (Ky Y Y (kLit Y Y Y Y (kAppR1 Y Y Y Y Y Y Y Y om (Ka Y (Kd (kExit (kExC (kExB (Kc (Ka Y (kAdd Y Y om (Ka Y (Kd ?_)))))))))))))))))) (fun g2 => om))))))))))))))) (fun g1 => om)))))))))))) (fun g0 => om))))))))
      refine kInv ⟨⟨i + 1, by omega⟩, by simp only; omega, ?_⟩
      simp only [s1, s2]
      exact .normA
  · rcases Nat.lt_or_ge b.length i with hgt | hle
    · have e : i = b.length + 1 := by omega
      subst e
      rw [rd_last.1, rd_last.2]
      cases hno : nameOk (readL b)
      · refine Kb (Kbc (Ka Y (Ka Y (Kq Y Y (Kj Y Y Y (Kd (Km Y (fun g0 => om) (fun g0 => kExit (kExC (kExI (kExB (Kb (Kbc (Ke Y Y Y (Kp (ok_spec_NameOk _ pry pry) ⟨⟨⟨Y, trivial⟩, leb⟩, trivial⟩ Y Y Y Y Y (Kw Y Y (Kd (kCondN Y (fun g1 => Kbc (kBuildG Y (Ko Y Y Y Y (Ka Y (Kd (Kr (Er (ra := [.agg [(.own true _)], .one (.d _)]) rfl rfl))))))) (fun g1 => (by (simp [*] at g1)))))))))))))))))))))
      · refine Kb (Kbc (Ka Y (Ka Y (Kq Y Y (Kj Y Y Y (Kd (Km Y (fun g0 => om) (fun g0 => kExit (kExC (kExI (kExB (Kb (Kbc (Ke Y Y Y (Kp (ok_spec_NameOk _ pry pry) ⟨⟨⟨Y, trivial⟩, leb⟩, trivial⟩ Y Y Y Y Y (Kw Y Y (Kd (kCondN Y (fun g1 => (by (simp [*] at g1))) (fun g1 => Kn (Kbc (Ke Y Y Y (Ko Y Y Y Y (Ka Y (Kd (Kr (Er (ra := [.agg [(.own true _)], .one (.d _)]) rfl rfl))))))))))))))))))))))))))
    · have e : i = b.length := by omega
      subst e
      have hlens := rd_lens b b.length (Nat.le_refl _)
      have s1 := (rd_last (b := b)).1
      have s2 := (rd_last (b := b)).2
      by_cases hw : rdW b b.length = [] ∧ 0 < b.length
      · rw [rd_end, if_pos hw] at *
        rw [hw.1]
        obtain ⟨hw1, hw2⟩ := hw
        cases hno : nameOk (rdL b b.length)
        · refine Kb (Kbc (Ka Y (Ka Y (Kq Y Y (Kj Y Y Y (Kd (Km Y (fun g0 => Kn (Kb (Kt (Kb (Kbc (Ka Y (Ka Y (Kq Y Y (Kj Y Y Y (Ka Y (kGP Y (fun g1 => om) (fun g1 => Kg Y (Kg Y (Kg Y (Kg Y (Kg Y (Kl Y (Ka Y (Kd (kCondF Y (Kn (Kb (Kbc (Ka Y (Ka Y (Kq Y Y (Kj Y Y Y (Ka Y (kGP Y (fun g2 => Ki Y (Ka Y (Ki Y (Kq Y Y (Ki Y (Kj Y Y Y (Kk Y (Ka Y (Ka Y (Ki Y (Ka Y (Ki Y (Kj Y Y Y (Kk Y (Ka Y (Kd (Km Y (fun g3 => kExit (kExC (kExB' rfl (kExC (kExI (kExB (Kb (Kbc (Ke Y Y Y (Kp (ok_spec_NameOk _ pry pry) ⟨⟨⟨Y, trivial⟩, leb⟩, trivial⟩ Y Y Y Y Y (Kw Y Y (Kd (kCondN Y (fun g4 => Kbc (kBuildG Y (Ko Y Y Y Y (Ka Y (Kd (Kr (Er (ra := [.agg [(.own true _)], .one (.d _)]) rfl rfl))))))) (fun g4 => (by (simp [*] at g4)))))))))))))))) (fun g3 => om)))))))))))))))))) (fun g2 => om)))))))))))))))))))))))))))))) (fun g0 => om))))))))
        · refine Kb (Kbc (Ka Y (Ka Y (Kq Y Y (Kj Y Y Y (Kd (Km Y (fun g0 => Kn (Kb (Kt (Kb (Kbc (Ka Y (Ka Y (Kq Y Y (Kj Y Y Y (Ka Y (kGP Y (fun g1 => om) (fun g1 => Kg Y (Kg Y (Kg Y (Kg Y (Kg Y (Kl Y (Ka Y (Kd (kCondF Y (Kn (Kb (Kbc (Ka Y (Ka Y (Kq Y Y (Kj Y Y Y (Ka Y (kGP Y (fun g2 => Ki Y (Ka Y (Ki Y (Kq Y Y (Ki Y (Kj Y Y Y (Kk Y (Ka Y (Ka Y (Ki Y (Ka Y (Ki Y (Kj Y Y Y (Kk Y (Ka Y (Kd (Km Y (fun g3 => kExit (kExC (kExB' rfl (kExC (kExI (kExB (Kb (Kbc (Ke Y Y Y (Kp (ok_spec_NameOk _ pry pry) ⟨⟨⟨Y, trivial⟩, leb⟩, trivial⟩ Y Y Y Y Y (Kw Y Y (Kd (kCondN Y (fun g4 => (by (simp [*] at g4))) (fun g4 => Kn (Kbc (Ke Y Y Y (Ko Y Y Y Y (Ka Y (Kd (Kr (Er (ra := [.agg [(.own true _)], .one (.d _)]) rfl rfl))))))))))))))))))))) (fun g3 => om)))))))))))))))))) (fun g2 => om)))))))))))))))))))))))))))))) (fun g0 => om))))))))
      · rw [rd_end, if_neg hw] at *
        have hw' : (rdW b b.length).length ≠ 0 ∨ b.length = 0 := by
          rcases Nat.eq_zero_or_pos b.length with h | h
          · exact .inr h
          · exact .inl fun h0 => hw ⟨List.eq_nil_of_length_eq_zero h0, h⟩
        revert s1 s2
        generalize rdL b b.length = L at *
        generalize rdW b b.length = W at *
        intro s1 s2
        refine Kb (Kbc (Ka Y (Ka Y (Kq Y Y (Kj Y Y Y (Kd (Km Y (fun g0 => Kn (Kb (Kt (Kb (Kbc (Ka Y (Ka Y (Kq Y Y (Kj Y Y Y (Ka Y (kGP Y (fun g1 => om) (fun g1 => Kg Y (Kg Y (Kg Y (Kg Y (Kg Y (Kl Y (Ka Y (Kd (kCondF Y (Kn (Kb (Kbc (Ka Y (Ka Y (Kq Y Y (Kj Y Y Y (Ka Y (kGP Y (fun g2 => Ki Y (Ka Y (Ki Y (Kq Y Y (Ki Y (Kj Y Y Y (Kk Y (Ka Y (Ka Y (kGP Y (fun g3 => Ki Y (Ka Y (Ki Y (Kj Y Y Y (Kk Y (Ka Y (Kd (Km Y (fun g4 => om) (fun g4 => Kn (Kb (kRegD (Kf Y Y (Ke Y Y Y (Ka Y (Ku true (ok_spec_Lower _ pry) ⟨Y, trivial⟩ Y Y Y (fun _ => (kLit Y Y Y Y (Ks Y Y (kAppR1 Y Y Y Y Y Y Y Y om (Kf Y Y (Ks Y Y (Ko Y Y Y Y (Kd (kH (Kc (Ka Y (Kd (Kv (Kc (Ka Y (kAdd Y Y om (Ka Y (Kd ?_))))))))))))))))))))))))))))))))) (fun g3 => Kg Y (Kg Y (Kl Y (Ka Y (Kd (kCondF Y (Kn (Kb (kRegD (Kf Y Y (Ke Y Y Y (Ka Y (Ku true (ok_spec_Lower _ pry) ⟨Y, trivial⟩ Y Y Y (fun _ => (kLit Y Y Y Y (Ks Y Y (kAppR1 Y Y Y Y Y Y Y Y om (Kf Y Y (Ks Y Y (Ko Y Y Y Y (Kd (kH (Kc (Ka Y (Kd (Kv (Kc (Ka Y (kAdd Y Y om (Ka Y (Kd ?_))))))))))))))))))))))))))))))))))))))))) (fun g2 => om)))))))))))))))))))))))))))))) (fun g0 => om))))))))
        all_goals
          refine kInv ⟨⟨b.length + 1, by omega⟩, by simp only; omega, ?_⟩
          simp only [s1, s2]
          exact (Sub.nilArr (j := 5) (id := rid 5000 0) (sz := 1) rfl (by decide)).trans .normA

def c_spec_l2of : C := (.g (.o 0 2 (.alloc 2 [(.n 1)]) .done) (.g (.o 0 6 (.mov (.t 0)) (.o 1 7 (.s2b (.t 6)) (.o 2 8 (.call 8 170 [(.t 7)]) (.o 3 5 (.mov (.t 8)) (.o 4 9 (.ext (.t 5) 0) (.o 5 10 (.ext (.t 5) 1) (.o 6 3 (.alloc 3 [(.n 1)]) (.op 7 [] none none false (.store (some 1) (.t 3) (.t 9)) (.o 8 4 (.mov (.t 10)) .done))))))))) (.g (.o 0 11 (.load (some 1) (.t 3)) (.op 1 [] none none false (.store (some 1) (.t 2) (.t 11)) .done)) .ret)))
theorem dg_spec_l2of : Tryz.f153.body.bind (digC Tryz.prog Tryz.f153.ntmps []) = some c_spec_l2of := by kernel_rfl
theorem rs_spec_l2of : resSlots Tryz.prog Tryz.f153 = some [.m 2 (some 1)] := by kernel_rfl
theorem ok_spec_l2of (b : ByteArray) (hb : b.size ≤ 4194303) :
    FnOK Tryz.prog 153 [.one (.d (.sc (.string b)))] (fun ra _ => ra = [.agg [.own true (encBB (readN b.toList))]]) := by
  refine FnOK.ofK Tryz.func153 (by kernel_rfl) dg_spec_l2of rs_spec_l2of rfl rfl ?_
  delta c_spec_l2of T.o X.i C.g
  have h : b.toList.length ≤ 4194303 := by rw [bt_len]; exact hb
  refine Kbc (kAlloc Y Y (Kdb (Kc (Ka Y (kS2b Y om (Ku true (ok_spec_NameRead _ pry) ⟨Y, trivial⟩ Y Y Y (fun _ => (kMovT Y (kExtC Y Y (kExtC Y Y (kAlloc Y Y (Ko Y Y Y Y (Ka Y (Kdb (Kc (Ke Y Y Y (Ko Y Y Y Y (Kd (Kr (Er (ra := [.agg [(.own true _)]]) rfl rfl))))))))))))))))))))

def c_spec_l1Byte : C := (.g (.o 0 2 (.mov (.i 0)) .done) (.g (.o 0 4 (.mov (.t 0)) (.o 1 5 (.mov (.t 0)) (.o 2 6 (.nck (.t 5)) (.o 3 7 (.fad (.t 6) 2) (.o 4 8 (.load none (.t 7)) (.o 5 9 (.bin .mul (.t 8) (.i 6364136223846793005)) (.o 6 10 (.bin .add (.t 9) (.i 1442695040888963407)) (.o 7 11 (.nck (.t 4)) (.o 8 12 (.fad (.t 11) 2) (.op 9 [] none none false (.store none (.t 12) (.t 10)) .done)))))))))) (.seq (.reg true (.op 0 [] (some 13) none true (.mov (.t 0)) (.op 1 [] (some 14) none true (.nck (.t 13)) (.op 2 [] (some 15) none true (.fad (.t 14) 2) (.op 3 [] (some 16) none true (.load none (.t 15)) (.op 4 [] (some 17) none true (.bin .shr (.t 16) (.v (.int .u64 33))) (.op 5 [] (some 18) none true (.mov (.t 0)) (.op 6 [] (some 19) none true (.nck (.t 18)) (.op 7 [] (some 20) none true (.fad (.t 19) 2) (.op 8 [] (some 21) none true (.load none (.t 20)) (.op 9 [] (some 22) none true (.bin .shr (.t 21) (.v (.int .u64 45))) (.op 10 [] (some 23) none true (.bin .xor (.t 17) (.t 22)) (.op 11 [] (some 24) none true (.bin .and (.t 23) (.i 255)) (.op 12 [] (some 3) none true (.mov (.t 24)) .done)))))))))))))) (.seq (.seq (.reg true (.op 0 [] (some 25) none true (.mov (.t 0)) (.op 1 [] (some 26) none true (.nck (.t 25)) (.op 2 [] (some 27) none true (.fad (.t 26) 1) (.op 3 [] (some 28) none true (.load none (.t 27)) (.op 4 [] (some 29) none true (.mov (.t 0)) (.op 5 [] (some 30) none true (.nck (.t 29)) (.op 6 [] (some 31) none true (.fad (.t 30) 0) (.op 7 [] (some 32) none true (.load none (.t 31)) (.op 8 [] (some 33) none true (.len (.t 32)) (.op 9 [] (some 34) none true (.bin .lss (.t 28) (.t 33)) .done))))))))))) (.cond (.t 34) (.seq (.reg true (.op 0 [] (some 35) none true (.mov (.t 3)) (.op 1 [] (some 36) none true (.mov (.t 0)) (.op 2 [] (some 37) none true (.nck (.t 36)) (.op 3 [] (some 38) none true (.fad (.t 37) 0) (.op 4 [] (some 39) none true (.load none (.t 38)) (.op 5 [] (some 40) none true (.mov (.t 0)) (.op 6 [] (some 41) none true (.nck (.t 40)) (.op 7 [] (some 42) none true (.fad (.t 41) 1) (.op 8 [] (some 43) none true (.load none (.t 42)) (.op 9 [] (some 44) none true (.iad 1 (.t 39) (.t 43)) (.op 10 [] (some 45) none true (.load none (.t 44)) (.op 11 [] (some 46) none true (.conv .i64 (.t 45)) (.op 12 [] (some 47) none true (.bin .add (.t 35) (.t 46)) (.op 13 [] (some 48) none true (.bin .and (.t 47) (.i 255)) (.op 14 [] (some 3) none true (.mov (.t 48)) .done)))))))))))))))) (.reg false (.o 0 49 (.mov (.t 0)) (.o 1 50 (.mov (.t 0)) (.o 2 51 (.nck (.t 50)) (.o 3 52 (.fad (.t 51) 1) (.o 4 53 (.load none (.t 52)) (.o 5 54 (.bin .add (.t 53) (.i 1)) (.o 6 55 (.nck (.t 49)) (.o 7 56 (.fad (.t 55) 1) (.op 8 [] none none false (.store none (.t 56) (.t 54)) .done))))))))))) .skip)) (.g (.o 0 57 (.mov (.t 3)) (.o 1 2 (.mov (.t 57)) .done)) .ret)))))
theorem dg_spec_l1Byte : Tryz.f200.body.bind (digC Tryz.prog Tryz.f200.ntmps []) = some c_spec_l1Byte := by kernel_rfl
theorem rs_spec_l1Byte : resSlots Tryz.prog Tryz.f200 = some [.s 2] := by kernel_rfl
theorem ok_spec_l1Byte (c : Cu) :
    FnOK Tryz.prog 200 [.one (.box c.cells)] (fun ra os => ∃ x : Int × Cu, (0 ≤ x.1 ∧ x.1 ≤ 255) ∧ ra = [.one (.d (.sc (.int .i64 x.1)))] ∧ os.b 0 = x.2.cells) := by
  refine FnOK.ofK Tryz.func200 (by kernel_rfl) dg_spec_l1Byte rs_spec_l1Byte rfl rfl ?_
  delta c_spec_l1Byte T.o X.i C.g
  have c0 := c.i0
  have c1 := c.i1
  have c2 := c.b
  refine Kbc (Ka Y (Kdb (Kc (Ka Y (Ka Y (kNck Y Y (Kf Y Y (Ke Y Y Y (Kj Y Y Y (Kj Y Y Y (kNck Y Y (Kf Y Y (Ko Y Y Y Y (Kdb (kRegD (Ka Y (kNck Y Y (Kf Y Y (Ke Y Y Y (kShr (m := 33) Y Y Y (Ka Y (kNck Y Y (Kf Y Y (Ke Y Y Y (kShr (m := 45) Y Y Y (Kj Y Y Y (Kj Y Y Y (Ka Y (Kd (kH (Kb (Kb (kRegD (Ka Y (kNck Y Y (Kf Y Y (Ke Y Y Y (Ka Y (kNck Y Y (Kf Y Y (Ke Y Y Y (Kq Y Y (Kj Y Y Y (Kd (kH (Km Y (fun g0 => Kb (kRegD (Ka Y (Ka Y (kNck Y Y (Kf Y Y (Ke Y Y Y (Ka Y (kNck Y Y (Kf Y Y (Ke Y Y Y (kIadT Y Y om (Ky Y Y (kConv Y (Kj Y Y Y (Kj Y Y Y (Ka Y (Kd (kH (Kc (Ka Y (Ka Y (kNck Y Y (Kf Y Y (Ke Y Y Y (kAdd Y Y om (kNck Y Y (Kf Y Y (Ko Y Y Y Y (Kdb (Kc (Ka Y (Ka Y (Kd (Kr (Er (ra := [.one (.d _)]) rfl ?_)))))))))))))))))))))))))))))))))))) (fun g0 => Kn (Kbc (Ka Y (Ka Y (Kd (Kr (Er (ra := [.one (.d _)]) rfl ?_)))))))))))))))))))))))))))))))))))))))))))))))))))))
  · refine ⟨(IntKind.i64.wrap ((_ &&& BitVec.ofInt 64 255).toNat : Int), ⟨c.code, c.i + 1, IntKind.i64.wrap _, by omega, by omega, c.b⟩), and255 _, rfl, rfl⟩
  · refine ⟨(IntKind.i64.wrap ((_ &&& BitVec.ofInt 64 255).toNat : Int), ⟨c.code, c.i, IntKind.i64.wrap _, c.i0, c.i1, c.b⟩), and255 _, rfl, rfl⟩

def c_spec_l1Below : C := (.g (.o 0 4 (.mov (.i 0)) .done) (.seq (.g (.o 0 9 (.mov (.t 1)) (.o 1 10 (.bin .leq (.t 9) (.i 0)) .done)) (.cond (.t 10) (.g (.o 0 4 (.mov (.i 0)) .done) .ret) .skip)) (.seq (.g (.o 0 11 (.mov (.t 1)) (.o 1 12 (.bin .leq (.t 11) (.i 256)) .done)) (.cond (.t 12) (.g (.o 0 13 (.mov (.t 0)) (.o 1 14 (.call 14 200 [(.t 13)]) (.o 2 15 (.mov (.t 1)) (.o 3 16 (.bin .rem (.t 14) (.t 15)) (.o 4 4 (.mov (.t 16)) .done))))) .ret) .skip)) (.g (.o 0 17 (.mov (.t 0)) (.o 1 18 (.call 18 200 [(.t 17)]) (.o 2 5 (.mov (.t 18)) .done))) (.g (.o 0 19 (.mov (.t 0)) (.o 1 20 (.call 20 200 [(.t 19)]) (.o 2 6 (.mov (.t 20)) .done))) (.g (.o 0 21 (.mov (.t 0)) (.o 1 22 (.call 22 200 [(.t 21)]) (.o 2 7 (.mov (.t 22)) .done))) (.g (.o 0 23 (.mov (.t 0)) (.o 1 24 (.call 24 200 [(.t 23)]) (.o 2 8 (.mov (.t 24)) .done))) (.g (.o 0 25 (.mov (.t 5)) (.o 1 26 (.bin .mul (.t 25) (.i 16777216)) (.o 2 27 (.mov (.t 6)) (.o 3 28 (.bin .mul (.t 27) (.i 65536)) (.o 4 29 (.bin .add (.t 26) (.t 28)) (.o 5 30 (.mov (.t 7)) (.o 6 31 (.bin .mul (.t 30) (.i 256)) (.o 7 32 (.bin .add (.t 29) (.t 31)) (.o 8 33 (.mov (.t 8)) (.o 9 34 (.bin .add (.t 32) (.t 33)) (.o 10 35 (.mov (.t 1)) (.o 11 36 (.bin .rem (.t 34) (.t 35)) (.o 12 4 (.mov (.t 36)) .done))))))))))))) .ret))))))))
theorem dg_spec_l1Below : Tryz.f117.body.bind (digC Tryz.prog Tryz.f117.ntmps []) = some c_spec_l1Below := by kernel_rfl
theorem rs_spec_l1Below : resSlots Tryz.prog Tryz.f117 = some [.s 4] := by kernel_rfl
theorem ok_spec_l1Below (c : Cu) (n : Int) :
    FnOK Tryz.prog 117 [.one (.box c.cells), .one (.d (.sc (.int .i64 n)))] (fun ra os => ∃ x : Int × Cu, (0 ≤ x.1 ∧ (x.1 < n ∨ x.1 = 0)) ∧ ra = [.one (.d (.sc (.int .i64 x.1)))] ∧ os.b 0 = x.2.cells) := by
  refine FnOK.ofK Tryz.func117 (by kernel_rfl) dg_spec_l1Below rs_spec_l1Below rfl rfl ?_
  delta c_spec_l1Below T.o X.i C.g
  refine Kbc (Ka Y (Kdb (Kbc (Ka Y (Kj Y Y Y (Kd (Km Y (fun g0 => Kbc (Ka Y (Kd (Kr (Er (ra := [.one (.d _)]) rfl ?_))))) (fun g0 => Kn (Kb (Kbc (Ka Y (Kj Y Y Y (Kd (Km Y (fun g1 => Kbc (Ka Y (Kz (ok_spec_l1Byte _) ⟨⟨rfl, _, rfl, rfl⟩, trivial⟩ Y Y Y (fun _ => rfl) (fun x2 hx2 => (Ka Y (kRem Y Y om (Ka Y (Kd (Kr (Er (ra := [.one (.d _)]) rfl ?_)))))))))) (fun g1 => Kn (Kbc (Ka Y (Kz (ok_spec_l1Byte _) ⟨⟨rfl, _, rfl, rfl⟩, trivial⟩ Y Y Y (fun _ => rfl) (fun x3 hx3 => (Ka Y (Kdb (Kc (Ka Y (Kz (ok_spec_l1Byte _) ⟨⟨rfl, _, rfl, rfl⟩, trivial⟩ Y Y Y (fun _ => rfl) (fun x4 hx4 => (Ka Y (Kdb (Kc (Ka Y (Kz (ok_spec_l1Byte _) ⟨⟨rfl, _, rfl, rfl⟩, trivial⟩ Y Y Y (fun _ => rfl) (fun x5 hx5 => (Ka Y (Kdb (Kc (Ka Y (Kz (ok_spec_l1Byte _) ⟨⟨rfl, _, rfl, rfl⟩, trivial⟩ Y Y Y (fun _ => rfl) (fun x6 hx6 => (Ka Y (Kdb (Kc (Ka Y (kMul Y Y om (Ka Y (kMul Y Y om (kAdd Y Y om (Ka Y (kMul Y Y om (kAdd Y Y om (Ka Y (kAdd Y Y om (Ka Y (kRem Y Y om (Ka Y (Kd (Kr (Er (ra := [.one (.d _)]) rfl ?_))))))))))))))))))))))))))))))))))))))))))))))))))))))))
  · exact ⟨(0, c), ⟨Int.le_refl _, .inr rfl⟩, rfl, rfl⟩
  · have := tmod_in (a := x2.1) (n := n) hx2.1 (by omega)
    exact ⟨(x2.1.tmod n, x2.2), ⟨this.1, .inl this.2⟩, rfl, rfl⟩
  · have := tmod_in (a := x3.1 * 16777216 + x4.1 * 65536 + x5.1 * 256 + x6.1) (n := n) (by omega) (by omega)
    exact ⟨(_, x6.2), ⟨this.1, .inl this.2⟩, rfl, rfl⟩

def c_spec_l2draw : C := (.g (.o 0 2 (.alloc 2 [(.n 1)]) .done) (.g (.o 0 3 (.lit 3 1 [(.v (.string ⟨#[]⟩))] 12 [(0, 1, (.v (.string ⟨#[46]⟩))), (1, 1, (.v (.string ⟨#[104, 111, 109, 101, 46]⟩))), (2, 1, (.v (.string ⟨#[112, 99, 46, 104, 111, 109, 101, 46]⟩))), (3, 1, (.v (.string ⟨#[116, 118, 46, 104, 111, 109, 101, 46]⟩))), (4, 1, (.v (.string ⟨#[97, 46, 112, 99, 46, 104, 111, 109, 101, 46]⟩))), (5, 1, (.v (.string ⟨#[99, 111, 109, 46]⟩))), (6, 1, (.v (.string ⟨#[120, 46, 99, 111, 109, 46]⟩))), (7, 1, (.v (.string ⟨#[119, 119, 119, 46, 120, 46, 99, 111, 109, 46]⟩))), (8, 1, (.v (.string ⟨#[110, 115, 46, 99, 111, 109, 46]⟩))), (9, 1, (.v (.string ⟨#[51, 46, 48, 46, 48, 46, 49, 48, 46, 105, 110, 45, 97, 100, 100, 114, 46, 97, 114, 112, 97, 46]⟩))), (10, 1, (.v (.string ⟨#[115, 117, 98, 46, 104, 111, 109, 101, 46]⟩))), (11, 1, (.v (.string ⟨#[121, 46, 115, 117, 98, 46, 104, 111, 109, 101, 46]⟩)))]) (.o 1 4 (.mov (.t 0)) (.o 2 5 (.call 5 117 [(.t 4), (.i 12)]) (.o 3 6 (.iad 1 (.t 3) (.t 5)) (.o 4 7 (.load none (.t 6)) (.o 5 8 (.call 8 153 [(.t 7)]) (.op 6 [] none none false (.store (some 1) (.t 2) (.t 8)) .done))))))) .ret))
theorem dg_spec_l2draw : Tryz.f217.body.bind (digC Tryz.prog Tryz.f217.ntmps []) = some c_spec_l2draw := by kernel_rfl
theorem rs_spec_l2draw : resSlots Tryz.prog Tryz.f217 = some [.m 2 (some 1)] := by kernel_rfl
theorem ok_spec_l2draw (c : Cu) :
    FnOK Tryz.prog 217 [.one (.box c.cells)] (fun ra os => ∃ x : List (List UInt8) × Cu, (nameOk x.1 = true) ∧ ra = [.agg [.own true (encBB x.1)]] ∧ os.b 0 = x.2.cells) := by
  refine FnOK.ofK Tryz.func217 (by kernel_rfl) dg_spec_l2draw rs_spec_l2draw rfl rfl ?_
  delta c_spec_l2draw T.o X.i C.g
  refine Kbc (kAlloc Y Y (Kdb (Kc (kLitG Y Y Y Y (Ka Y (Kz (ok_spec_l1Below _ _) ⟨⟨rfl, _, rfl, rfl⟩, rfl, trivial⟩ Y Y Y (fun _ => rfl) (fun x0 hx0 => (kIadStr Y Y Y Y (by simp only [List.length_cons, List.length_nil]; omega) (kLoadStr Y Y Y (by simp only [List.length_cons, List.length_nil]; omega) rfl (fun b1 hb1 => (Ku true (ok_spec_l2of _ pry) ⟨Y, trivial⟩ Y Y Y (fun _ => (Ko Y Y Y Y (Kd (Kr (Er (ra := [.agg [(.own true _)]]) rfl ?_))))))))))))))))
  exact ⟨(readN b1.toList, x0.2), readN_ok _, rfl, rfl⟩

def c_spec_l1PickInt : C := (.g (.o 0 4 (.mov (.i 0)) .done) (.g (.o 0 5 (.mov (.t 1)) (.o 1 6 (.mov (.t 0)) (.o 2 7 (.mov (.t 1)) (.o 3 8 (.len (.t 7)) (.o 4 9 (.call 9 117 [(.t 6), (.t 8)]) (.o 5 10 (.iad 1 (.t 5) (.t 9)) (.o 6 11 (.load none (.t 10)) (.o 7 4 (.mov (.t 11)) .done)))))))) .ret))
theorem dg_spec_l1PickInt : Tryz.f118.body.bind (digC Tryz.prog Tryz.f118.ntmps []) = some c_spec_l1PickInt := by kernel_rfl
theorem rs_spec_l1PickInt : resSlots Tryz.prog Tryz.f118 = some [.s 4] := by kernel_rfl
theorem ok_spec_l1PickInt (c : Cu) (xs : List (List DV)) {l : List Int} (hx : intsOf xs = some l) (h0 : 0 < l.length) (h1 : l.length ≤ 1000000) :
    FnOK Tryz.prog 118 [.one (.box c.cells), .one (.d (.sl 1 xs))] (fun ra os => ∃ x : Int × Cu, (x.1 ∈ l) ∧ ra = [.one (.d (.sc (.int .i64 x.1)))] ∧ os.b 0 = x.2.cells) := by
  rw [intsOf_eq hx]
  refine FnOK.ofK Tryz.func118 (by kernel_rfl) dg_spec_l1PickInt rs_spec_l1PickInt rfl rfl ?_
  delta c_spec_l1PickInt T.o X.i C.g
  refine Kbc (Ka Y (Kdb (Kc (Ka Y (Ka Y (Ka Y (Kq Y Y (Kz (ok_spec_l1Below _ _) ⟨⟨rfl, _, rfl, rfl⟩, rfl, trivial⟩ Y Y Y (fun _ => rfl) (fun x0 hx0 => (kIadT Y Y om (Ky Y Y (Ka Y (Kd (Kr (Er (ra := [.one (.d _)]) rfl ?_)))))))))))))))
  exact ⟨(_, x0.2), List.getElem_mem _, rfl, rfl⟩

def c_spec_l3named : C := (.g (.o 0 2 (.mov (.v (.bool false))) .done) (.g (.o 0 3 (.mov (.t 0)) (.o 1 4 (.bin .eql (.t 3) (.i 2)) (.o 2 5 (.mov (.t 4)) (.op 3 [] (some 6) (some (5, false)) false (.mov (.t 0)) (.op 4 [] (some 7) (some (5, false)) false (.bin .eql (.t 6) (.i 5)) (.o 5 8 (.pick (.t 5) (.v (.bool true)) (.t 7)) (.o 6 9 (.mov (.t 8)) (.op 7 [] (some 10) (some (9, false)) false (.mov (.t 0)) (.op 8 [] (some 11) (some (9, false)) false (.bin .eql (.t 10) (.i 6)) (.o 9 12 (.pick (.t 9) (.v (.bool true)) (.t 11)) (.o 10 13 (.mov (.t 12)) (.op 11 [] (some 14) (some (13, false)) false (.mov (.t 0)) (.op 12 [] (some 15) (some (13, false)) false (.bin .eql (.t 14) (.i 12)) (.o 13 16 (.pick (.t 13) (.v (.bool true)) (.t 15)) (.o 14 2 (.mov (.t 16)) .done))))))))))))))) .ret))
theorem dg_spec_l3named : Tryz.f245.body.bind (digC Tryz.prog Tryz.f245.ntmps []) = some c_spec_l3named := by kernel_rfl
theorem rs_spec_l3named : resSlots Tryz.prog Tryz.f245 = some [.s 2] := by kernel_rfl
theorem ok_spec_l3named (n : Int) : FnOK Tryz.prog 245 [.one (.d (.sc (.int .i64 n)))] (fun ra _ => ra = [.one (.d (.sc (.bool (hasTo n))))]) := by
  refine FnOK.ofK Tryz.func245 (by kernel_rfl) dg_spec_l3named rs_spec_l3named rfl rfl ?_
  delta c_spec_l3named T.o X.i C.g
  refine Kbc (Ka Y (Kdb (Kc (Ka Y (Kj Y Y Y (Ka Y (kGP Y (fun g0 => Kg Y (Kg Y (Kk Y (Ka Y (Ka Y (Kg Y (Kg Y (Kk Y (Ka Y (Ka Y (Kg Y (Kg Y (Kk Y (Ka Y (Ka Y (Kd (Kr (Er (ra := [.one (.d _)]) rfl ?_)))))))))))))))))) (fun g0 => Ki Y (Ka Y (Ki Y (Kj Y Y Y (Kl Y (Ka Y (Ka Y (kGP Y (fun g1 => Kg Y (Kg Y (Kk Y (Ka Y (Ka Y (Kg Y (Kg Y (Kk Y (Ka Y (Ka Y (Kd (Kr (Er (ra := [.one (.d _)]) rfl ?_))))))))))))) (fun g1 => Ki Y (Ka Y (Ki Y (Kj Y Y Y (Kl Y (Ka Y (Ka Y (kGP Y (fun g2 => Kg Y (Kg Y (Kk Y (Ka Y (Ka Y (Kd (Kr (Er (ra := [.one (.d _)]) rfl ?_)))))))) (fun g2 => Ki Y (Ka Y (Ki Y (Kj Y Y Y (Kl Y (Ka Y (Ka Y (Kd (Kr (Er (ra := [.one (.d _)]) rfl ?_)))))))))))))))))))))))))))))))))
  all_goals simp_all [hasTo]

def c_spec_l1some : C := (.g (.o 0 4 (.mov (.n 1)) .done) (.g (.o 0 5 (.mov (.n 1)) .done) (.g (.o 0 8 (.mov (.t 0)) (.o 1 9 (.mov (.t 1)) (.o 2 10 (.call 10 117 [(.t 8), (.t 9)]) (.o 3 6 (.mov (.t 10)) .done)))) (.seq (.g (.o 0 7 (.mov (.i 0)) .done) (.block 0 (.loop (.seq (.g (.o 0 11 (.mov (.t 7)) (.o 1 12 (.mov (.t 6)) (.o 2 13 (.bin .lss (.t 11) (.t 12)) .done))) (.cond (.t 13) .skip (.exit 0))) (.seq (.block 1 (.reg false (.o 0 16 (.mov (.t 5)) (.o 1 17 (.mov (.t 0)) (.o 2 18 (.call 18 200 [(.t 17)]) (.o 3 19 (.conv .u8 (.t 18)) (.o 4 20 (.lit 20 1 [(.v (.int .u8 0))] 1 [(0, 1, (.t 19))]) (.o 5 21 (.app 21 1 1 (.t 16) (.t 20)) (.o 6 5 (.mov (.t 21)) .done))))))))) (.reg false (.o 0 14 (.mov (.t 7)) (.o 1 15 (.bin .add (.t 14) (.i 1)) (.o 2 7 (.mov (.t 15)) .done))))))))) (.g (.o 0 22 (.mov (.t 5)) (.o 1 4 (.mov (.t 22)) .done)) .ret)))))
theorem dg_spec_l1some : Tryz.f272.body.bind (digC Tryz.prog Tryz.f272.ntmps []) = some c_spec_l1some := by kernel_rfl
theorem rs_spec_l1some : resSlots Tryz.prog Tryz.f272 = some [.s 4] := by kernel_rfl
theorem ok_spec_l1some (c : Cu) (n : Int) (hn : n ≤ 4194304) :
    FnOK Tryz.prog 272 [.one (.box c.cells), .one (.d (.sc (.int .i64 n)))] (fun ra os => ∃ x : List UInt8 × Cu, ((x.1.length : Int) < n ∨ x.1 = []) ∧ ra = [.one (.own true (encB x.1))] ∧ os.b 0 = x.2.cells) := by
  refine FnOK.ofK Tryz.func272 (by kernel_rfl) dg_spec_l1some rs_spec_l1some rfl rfl ?_
  delta c_spec_l1some T.o X.i C.g
  refine Kbc (Ka Y (Kdb (Kc (Ka Y (Kdb (Kc (Ka Y (Ka Y (Kz (ok_spec_l1Below _ _) ⟨⟨rfl, _, rfl, rfl⟩, rfl, trivial⟩ Y Y Y (fun _ => rfl) (fun x0 hx0 => (Ka Y (Kdb (Kbc (Ka Y (Kd (Kt ?_))))))))))))))))
  refine kSub (Sub.nilArr (j := 5) (id := rid 5000 0) (sz := 1) rfl (by decide)) ?_
  refine kLoop (α := { l : List UInt8 // (l.length : Int) ≤ x0.1 } × Cu) (fun y => ⟨tabSl [(0, .c (.ptr 0 0 0)), (5, .c (.arr (rid 5000 0) 1)), (6, .i x0.1), (7, .i y.1.1.length)], obTab 1 [(0, ⟨0, 0, .box (y.2.cells.map .d)⟩), (rid 5000 0, ⟨1, 0, .arr true (encB y.1.1)⟩)], []⟩) (fun y => x0.1.toNat - y.1.1.length) (⟨[], by simp; omega⟩, x0.2) .normA ?_
  rintro ⟨⟨l, hl⟩, c'⟩
  simp only
  rcases Int.lt_or_le (l.length : Int) x0.1 with hlt | hge
  · refine Kb (Kbc (Ka Y (Ka Y (Kj Y Y Y (Kd (Km Y (fun g0 => Kn (Kb (Kt (Kc (Ka Y (Ka Y (Kz (ok_spec_l1Byte _) ⟨⟨rfl, _, rfl, rfl⟩, trivial⟩ Y Y Y (fun _ => rfl) (fun x1 hx1 => (kConvU8 Y (kLit Y Y Y Y (kAppR1 Y Y Y Y Y Y Y Y om (Ka Y (Kd (Kv (Kc (Ka Y (kAdd Y Y om (Ka Y (Kd ?_))))))))))))))))))) (fun g0 => om)))))))
    refine kInv ⟨(⟨l ++ [u8 x1.1], by simp; omega⟩, x1.2), by simp; omega, .norm ?_ ?_⟩
    · refine ⟨⟨_, rfl, rfl, rfl, rfl⟩, ⟨_, rfl, rfl, rfl, rfl⟩, ⟨_, rfl, .inl rfl⟩, ⟨_, rfl, .inl ?_⟩, trivial⟩
      simp
    · repeat' first | exact trivial | exact rfl | exact .inl rfl | refine ⟨_, rfl, ?_⟩ | refine ⟨?_, ?_⟩ | fail
  · refine Kb (Kbc (Ka Y (Ka Y (Kj Y Y Y (Kd (Km Y (fun g0 => om) (fun g0 => kExit (kExC (kExI (kExB (Kbc (Ka Y (Ka Y (Kd (Kr (Er (ra := [.one (.own true _)]) rfl ?_))))))))))))))))
    exact ⟨(l, c'), by rcases hx0.2 with h | h; exact .inl (by simp only; omega); exact .inr (show l = [] from List.eq_nil_of_length_eq_zero (by omega)), rfl, rfl⟩

def c_spec_l3draw : C := (.g (.o 0 2 (.alloc 2 [(.n 1), (.i 0), (.i 0), (.i 0), (.n 1), (.n 1), (.n 1)]) .done) (.g (.o 0 4 (.mov (.t 0)) (.o 1 5 (.call 5 217 [(.t 4)]) (.o 2 6 (.mov (.t 0)) (.o 3 7 (.lit 7 1 [(.i 0)] 8 [(0, 1, (.i 1)), (1, 1, (.i 1)), (2, 1, (.i 2)), (3, 1, (.i 5)), (4, 1, (.i 6)), (5, 1, (.i 12)), (6, 1, (.i 16)), (7, 1, (.i 49))]) (.o 4 8 (.call 8 118 [(.t 6), (.t 7)]) (.o 5 9 (.mov (.t 0)) (.o 6 10 (.lit 10 1 [(.i 0)] 5 [(0, 1, (.i 0)), (1, 1, (.i 5)), (2, 1, (.i 60)), (3, 1, (.i 300)), (4, 1, (.i 100000))]) (.o 7 11 (.call 11 118 [(.t 9), (.t 10)]) (.o 8 12 (.build [(.n 1), (.i 0), (.i 0), (.i 0), (.n 1), (.n 1), (.n 1)] [(0, 1, (.t 5)), (1, 1, (.t 8)), (2, 1, (.t 11))]) (.o 9 3 (.alloc 3 [(.n 1), (.i 0), (.i 0), (.i 0), (.n 1), (.n 1), (.n 1)]) (.op 10 [] none none false (.store (some 7) (.t 3) (.t 12)) .done))))))))))) (.seq (.block 0 (.g (.o 0 17 (.fad (.t 3) 1) (.o 1 18 (.load none (.t 17)) (.o 2 19 (.bin .eql (.t 18) (.i 1)) (.o 3 16 (.mov (.t 19)) .done)))) (.cond (.t 16) (.reg false (.o 0 20 (.mov (.t 0)) (.o 1 21 (.lit 21 1 [(.i 0)] 4 [(0, 1, (.i 1)), (1, 1, (.i 167772163)), (2, 1, (.i 167772164)), (3, 1, (.i 4294967295))]) (.o 2 22 (.call 22 118 [(.t 20), (.t 21)]) (.o 3 23 (.fad (.t 3) 3) (.op 4 [] none none false (.store none (.t 23) (.t 22)) .done)))))) (.g (.o 0 25 (.fad (.t 3) 1) (.o 1 26 (.load none (.t 25)) (.o 2 27 (.call 27 245 [(.t 26)]) (.o 3 24 (.mov (.t 27)) .done)))) (.cond (.t 24) (.g (.o 0 28 (.mov (.t 0)) (.o 1 29 (.call 29 217 [(.t 28)]) (.o 2 30 (.fad (.t 3) 4) (.op 3 [] none none false (.store (some 1) (.t 30) (.t 29)) .done)))) (.g (.o 0 31 (.fad (.t 3) 1) (.o 1 32 (.load none (.t 31)) (.o 2 33 (.bin .eql (.t 32) (.i 6)) .done))) (.cond (.t 33) (.reg false (.o 0 34 (.mov (.t 0)) (.o 1 35 (.call 35 117 [(.t 34), (.i 9)]) (.o 2 36 (.mov (.t 0)) (.o 3 37 (.lit 37 1 [(.i 0)] 3 [(0, 1, (.i 0)), (1, 1, (.i 30)), (2, 1, (.i 100000))]) (.o 4 38 (.call 38 118 [(.t 36), (.t 37)]) (.o 5 39 (.lit 39 1 [(.i 0)] 2 [(0, 1, (.t 35)), (1, 1, (.t 38))]) (.o 6 40 (.fad (.t 3) 6) (.op 7 [] none none false (.store none (.t 40) (.t 39)) .done))))))))) .skip))) (.reg false (.o 0 13 (.mov (.t 0)) (.o 1 14 (.call 14 272 [(.t 13), (.i 5)]) (.o 2 15 (.fad (.t 3) 5) (.op 3 [] none none false (.store none (.t 15) (.t 14)) .done)))))))))) (.g (.o 0 41 (.load (some 7) (.t 3)) (.op 1 [] none none false (.store (some 7) (.t 2) (.t 41)) .done)) .ret))))
theorem dg_spec_l3draw : Tryz.f199.body.bind (digC Tryz.prog Tryz.f199.ntmps []) = some c_spec_l3draw := by kernel_rfl
theorem rs_spec_l3draw : resSlots Tryz.prog Tryz.f199 = some [.m 2 (some 7)] := by kernel_rfl
theorem ok_spec_l3draw (c : Cu) :
    FnOK Tryz.prog 199 [.one (.box c.cells)] (fun ra os => ∃ x : Rr × Cu, (rrOk x.1 = true) ∧ ra = [.agg [.own true (encBB x.1.name), .d (.sc (.int .i64 x.1.ty)), .d (.sc (.int .i64 x.1.ttl)), .d (.sc (.int .i64 x.1.addr)), .own true (encBB x.1.to), .own true (encB x.1.text), .own true (Hearth.encI x.1.nums)]] ∧ os.b 0 = x.2.cells) := by
  refine FnOK.ofK Tryz.func199 (by kernel_rfl) dg_spec_l3draw rs_spec_l3draw rfl rfl ?_
  delta c_spec_l3draw T.o X.i C.g
  refine Kbc (kAlloc Y Y (Kdb (Kc (Ka Y (Kz (ok_spec_l2draw _) ⟨⟨rfl, _, rfl, rfl⟩, trivial⟩ Y Y Y (fun _ => rfl) (fun x0 hx0 => (Ka Y (kLitD Y Y Y Y (Kz (ok_spec_l1PickInt _ _ pry pry pry) ⟨⟨rfl, _, rfl, rfl⟩, rfl, trivial⟩ Y Y Y (fun _ => rfl) (fun x1 hx1 => (Ka Y (kLitD Y Y Y Y (Kz (ok_spec_l1PickInt _ _ pry pry pry) ⟨⟨rfl, _, rfl, rfl⟩, rfl, trivial⟩ Y Y Y (fun _ => rfl) (fun x2 hx2 => (kBuildG Y (kAlloc Y Y (Ko Y Y Y Y (Kdb (Kt (Kbc (Kf Y Y (Ke Y Y Y (Kj Y Y Y (Ka Y (Kd (Km Y (fun g3 => Kc (Ka Y (kLitD Y Y Y Y (Kz (ok_spec_l1PickInt _ _ pry pry pry) ⟨⟨rfl, _, rfl, rfl⟩, rfl, trivial⟩ Y Y Y (fun _ => rfl) (fun x4 hx4 => (Kf Y Y (Ko Y Y Y Y (Kd (Kv (Kbc (Ke Y Y Y (Ko Y Y Y Y (Kd (kMem [(12288, ⟨1, 0, .box [.arr 24576 1, .d _, .d _, .d _, .nil 1, .nil 1, .nil 1]⟩), (24576, ⟨1, 0, .arr true _⟩)] [(2, .c (.ptr 12288 1 0))] [] ⟨Y, Y, trivial⟩ ⟨Y, trivial⟩ Y (Kr (Er (ra := [.agg [(.own true _), (.d _), (.d _), (.d _), (.own true _), (.own true _), (.own true _)]]) rfl ?_)))))))))))))))) (fun g3 => Kbc (Kf Y Y (Ke Y Y Y (Kp (ok_spec_l3named _) ⟨Y, trivial⟩ Y Y Y Y Y (Ka Y (Kd (kCond Y (fun g5 => Kbc (Ka Y (Kz (ok_spec_l2draw _) ⟨⟨rfl, _, rfl, rfl⟩, trivial⟩ Y Y Y (fun _ => rfl) (fun x6 hx6 => (Kf Y Y (Ko Y Y Y Y (Kdb (Kc (Kf Y Y (Ke Y Y Y (Kj Y Y Y (Kd (Km Y (fun g7 => Kc (Ka Y (Kz (ok_spec_l1Below _ _) ⟨⟨rfl, _, rfl, rfl⟩, rfl, trivial⟩ Y Y Y (fun _ => rfl) (fun x8 hx8 => (Ka Y (kLitD Y Y Y Y (Kz (ok_spec_l1PickInt _ _ pry pry pry) ⟨⟨rfl, _, rfl, rfl⟩, rfl, trivial⟩ Y Y Y (fun _ => rfl) (fun x9 hx9 => (kLitG Y Y Y Y (Kf Y Y (Ko Y Y Y Y (Kd (Kv (Kbc (kMem [(16384, ⟨1, 0, .box [.arr 24576 1, .d _, .d _, .d _, .arr 122880 1, .nil 1, .arr 163840 1]⟩), (12288, ⟨1, 0, .box [.nil 1, .d _, .d _, .d _, .nil 1, .nil 1, .nil 1]⟩), (24576, ⟨1, 0, .arr true _⟩), (122880, ⟨1, 0, .arr true _⟩), (163840, ⟨1, 0, .arr true _⟩)] [(3, .c (.ptr 16384 1 0)), (2, .c (.ptr 12288 1 0)), (41, .c (.un))] [] ⟨Y, Y, Y, Y, Y, trivial⟩ ⟨Y, Y, Y, trivial⟩ Y (Ke Y Y Y (kMem [(12288, ⟨1, 0, .box [.nil 1, .d _, .d _, .d _, .nil 1, .nil 1, .nil 1]⟩), (24576, ⟨1, 0, .arr true _⟩), (122880, ⟨1, 0, .arr true _⟩), (163840, ⟨1, 0, .arr true _⟩)] [(2, .c (.ptr 12288 1 0)), (41, .g [.arr 24576 1, .d _, .d _, .d _, .arr 122880 1, .nil 1, .arr 163840 1])] [] ⟨Y, Y, Y, Y, trivial⟩ ⟨Y, Y, trivial⟩ Y (Ko Y Y Y Y (Kd (kMem [(12288, ⟨1, 0, .box [.arr 24576 1, .d _, .d _, .d _, .arr 122880 1, .nil 1, .arr 163840 1]⟩), (24576, ⟨1, 0, .arr true _⟩), (122880, ⟨1, 0, .arr true _⟩), (163840, ⟨1, 0, .arr true _⟩)] [(2, .c (.ptr 12288 1 0))] [] ⟨Y, Y, Y, Y, trivial⟩ ⟨Y, trivial⟩ Y (Kr (Er (ra := [.agg [(.own true _), (.d _), (.d _), (.d _), (.own true _), (.own true _), (.own true _)]]) rfl ?_)))))))))))))))))))))) (fun g7 => Kn (Kv (Kbc (Ke Y Y Y (kMem [(12288, ⟨1, 0, .box [.nil 1, .d _, .d _, .d _, .nil 1, .nil 1, .nil 1]⟩), (24576, ⟨1, 0, .arr true _⟩), (122880, ⟨1, 0, .arr true _⟩)] [(2, .c (.ptr 12288 1 0)), (41, .g [.arr 24576 1, .d _, .d _, .d _, .arr 122880 1, .nil 1, .nil 1])] [] ⟨Y, Y, Y, trivial⟩ ⟨Y, Y, trivial⟩ Y (Ko Y Y Y Y (Kd (kMem [(12288, ⟨1, 0, .box [.arr 24576 1, .d _, .d _, .d _, .arr 122880 1, .nil 1, .nil 1]⟩), (24576, ⟨1, 0, .arr true _⟩), (122880, ⟨1, 0, .arr true _⟩)] [(2, .c (.ptr 12288 1 0))] [] ⟨Y, Y, Y, trivial⟩ ⟨Y, trivial⟩ Y (Kr (Er (ra := [.agg [(.own true _), (.d _), (.d _), (.d _), (.own true _), (.own true _), (.own true _)]]) rfl ?_))))))))))))))))))))))) (fun g5 => Kc (kMem [(0, ⟨0, 3, .box [.d _, .d _, .d _]⟩), (16384, ⟨1, 0, .box [.arr 24576 1, .d _, .d _, .d _, .nil 1, .nil 1, .nil 1]⟩), (24576, ⟨1, 0, .arr true _⟩)] [(0, .c (.ptr 0 0 0)), (13, .c (.un)), (3, .c (.ptr 16384 1 0)), (15, .c (.un)), (14, .c (.un))] [] ⟨Y, Y, Y, trivial⟩ ⟨Y, Y, Y, Y, Y, trivial⟩ Y (Ka Y (Kz (ok_spec_l1some _ _ pry) ⟨⟨rfl, _, rfl, rfl⟩, rfl, trivial⟩ Y Y Y (fun _ => rfl) (fun x10 hx10 => (Kf Y Y (Ko Y Y Y Y (Kd (Kv (Kbc (Ke Y Y Y (kMem [(12288, ⟨1, 0, .box [.nil 1, .d _, .d _, .d _, .nil 1, .nil 1, .nil 1]⟩), (24576, ⟨1, 0, .arr true _⟩), (61440, ⟨1, 0, .arr true _⟩)] [(2, .c (.ptr 12288 1 0)), (41, .g [.arr 24576 1, .d _, .d _, .d _, .nil 1, .arr 61440 1, .nil 1])] [] ⟨Y, Y, Y, trivial⟩ ⟨Y, Y, trivial⟩ Y (Ko Y Y Y Y (Kd (kMem [(12288, ⟨1, 0, .box [.arr 24576 1, .d _, .d _, .d _, .nil 1, .arr 61440 1, .nil 1]⟩), (24576, ⟨1, 0, .arr true _⟩), (61440, ⟨1, 0, .arr true _⟩)] [(2, .c (.ptr 12288 1 0))] [] ⟨Y, Y, Y, trivial⟩ ⟨Y, trivial⟩ Y (Kr (Er (ra := [.agg [(.own true _), (.d _), (.d _), (.d _), (.own true _), (.own true _), (.own true _)]]) rfl ?_))))))))))))))))))))))))))))))))))))))))))))))))))
  · refine ⟨(⟨x0.1, x1.1, x2.1, x4.1, [], [], []⟩, x4.2), ?_, rfl, rfl⟩
    show rrOk ⟨x0.1, x1.1, x2.1, x4.1, [], [], []⟩ = true
    rw [show x1.1 = 1 by assumption]
    exact drawn_A hx0 hx2 hx4
  · refine ⟨(⟨x0.1, x1.1, x2.1, 0, x6.1, [], [x8.1, x9.1]⟩, x9.2), ?_, rfl, rfl⟩
    show rrOk ⟨x0.1, x1.1, x2.1, 0, x6.1, [], [x8.1, x9.1]⟩ = true
    rw [show x1.1 = 6 by assumption]
    exact drawn_soa hx0 hx6 hx2 hx8 hx9
  · exact ⟨(⟨x0.1, x1.1, x2.1, 0, x6.1, [], []⟩, x6.2), drawn_to hx0 hx6 hx1 (by assumption) (by assumption) hx2, rfl, rfl⟩
  · exact ⟨(⟨x0.1, x1.1, x2.1, 0, [], x10.1, []⟩, x10.2), drawn_text hx0 hx1 (by assumption) (by assumption) hx2 (by rcases hx10 with h | h; omega; rw [h]; simp), rfl, rfl⟩

def c_spec_l1Once : C := (.g (.o 0 4 (.mov (.v (.bool false))) .done) (.g (.o 0 5 (.mov (.t 0)) (.o 1 6 (.mov (.t 1)) (.o 2 7 (.call 7 117 [(.t 5), (.t 6)]) (.o 3 8 (.bin .eql (.t 7) (.i 0)) (.o 4 4 (.mov (.t 8)) .done))))) .ret))
theorem dg_spec_l1Once : Tryz.f68.body.bind (digC Tryz.prog Tryz.f68.ntmps []) = some c_spec_l1Once := by kernel_rfl
theorem rs_spec_l1Once : resSlots Tryz.prog Tryz.f68 = some [.s 4] := by kernel_rfl
theorem ok_spec_l1Once (c : Cu) (n : Int) :
    FnOK Tryz.prog 68 [.one (.box c.cells), .one (.d (.sc (.int .i64 n)))] (fun ra os => ∃ x : Bool × Cu, True ∧ ra = [.one (.d (.sc (.bool x.1)))] ∧ os.b 0 = x.2.cells) := by
  refine FnOK.ofK Tryz.func68 (by kernel_rfl) dg_spec_l1Once rs_spec_l1Once rfl rfl ?_
  delta c_spec_l1Once T.o X.i C.g
  refine Kbc (Ka Y (Kdb (Kc (Ka Y (Ka Y (Kz (ok_spec_l1Below _ _) ⟨⟨rfl, _, rfl, rfl⟩, rfl, trivial⟩ Y Y Y (fun _ => rfl) (fun x0 hx0 => (Kj Y Y Y (Ka Y (Kd (Kr (Er (ra := [.one (.d _)]) rfl ?_))))))))))))
  exact ⟨(_, x0.2), trivial, rfl, rfl⟩

def c_spec_l2own : C := (.g (.o 0 1 (.box 1 (.t 0)) (.o 1 2 (.alloc 2 [(.n 1)]) .done)) (.g (.o 0 3 (.alloc 3 [(.n 1)]) .done) (.seq (.g (.o 0 4 (.mov (.i 0)) .done) (.block 0 (.loop (.seq (.g (.o 0 5 (.mov (.t 4)) (.o 1 6 (.fad (.t 1) 0) (.o 2 7 (.load none (.t 6)) (.o 3 8 (.len (.t 7)) (.o 4 9 (.bin .lss (.t 5) (.t 8)) .done))))) (.cond (.t 9) .skip (.exit 0))) (.seq (.block 1 (.reg true (.op 0 [] (some 12) none true (.fad (.t 3) 0) (.op 1 [] (some 13) none true (.load none (.t 12)) (.op 3 [] (some 15) none true (.fad (.t 1) 0) (.op 4 [] (some 16) none true (.load none (.t 15)) (.op 5 [] (some 17) none true (.mov (.t 4)) (.op 6 [] (some 18) none true (.iad 1 (.t 16) (.t 17)) (.op 7 [] (some 19) none true (.load none (.t 18)) (.o 2 14 (.lit 14 1 [(.v (.int .u8 0))] 0 []) (.op 8 [7, 4] (some 20) none false (.app 20 1 1 (.t 14) (.t 19)) (.op 9 [7, 4] (some 21) none false (.lit 21 1 [(.n 1)] 1 [(0, 1, (.t 20))]) (.op 10 [1, 7, 4] (some 22) none false (.app 22 1 24 (.t 13) (.t 21)) (.op 11 [] (some 23) none true (.fad (.t 3) 0) (.op 12 [1, 4, 7] none none false (.store none (.t 23) (.t 22)) .done))))))))))))))) (.reg false (.o 0 10 (.mov (.t 4)) (.o 1 11 (.bin .add (.t 10) (.i 1)) (.o 2 4 (.mov (.t 11)) .done))))))))) (.g (.o 0 24 (.load (some 1) (.t 3)) (.op 1 [] none none false (.store (some 1) (.t 2) (.t 24)) .done)) .ret))))
theorem dg_spec_l2own : Tryz.f175.body.bind (digC Tryz.prog Tryz.f175.ntmps []) = some c_spec_l2own := by kernel_rfl
theorem rs_spec_l2own : resSlots Tryz.prog Tryz.f175 = some [.m 2 (some 1)] := by kernel_rfl
theorem ok_spec_l2own (a : List (List UInt8)) (ha : a.length ≤ 4194304) (hb : ∀ b ∈ a, b.length ≤ 4194304) :
    FnOK Tryz.prog 175 [.agg [.d (encBB a)]] (fun ra _ => ra = [.agg [.own true (encBB a)]]) := by
  refine FnOK.ofK Tryz.func175 (by kernel_rfl) dg_spec_l2own rs_spec_l2own rfl rfl ?_
  delta c_spec_l2own T.o X.i C.g
  refine Kbc (kBox Y Y Y Y Y (kAlloc Y Y (Kdb (Kc (kAlloc Y Y (Kdb (Kbc (Ka Y (Kd (Kt ?_))))))))))
  refine kSub (Sub.nilBox (id := rid 3 0) (id2 := rid 5000 0) (j := 0) rfl rfl rfl (by decide) (by decide)) ?_
  refine kLoop (α := { i : Nat // i ≤ a.length })
    (fun y => ⟨tabSl [(1, .c (.ptr (rid 1 0) 1 0)), (2, .c (.ptr (rid 2 0) 1 0)), (3, .c (.ptr (rid 3 0) 1 0)), (4, .i y.1)],
      obTab 1 [(rid 1 0, ⟨1, 0, .box [.d (encBB a)]⟩), (rid 2 0, ⟨1, 0, .box [.nil 1]⟩), (rid 3 0, ⟨1, 0, .box [.arr (rid 5000 0) 1]⟩), (rid 5000 0, ⟨1, 0, .arr true (encBB (a.take y.1))⟩)], []⟩) (fun y => a.length - y.1) ⟨0, by simp⟩
    .normA ?_
  rintro ⟨i, hi⟩
  simp only
  have hlen : (a.take i).length = i := by simp; omega
  rcases Nat.lt_or_ge i a.length with hlt | hge
  · have hbi := hb _ (List.getElem_mem hlt)
    refine Kb (Kbc (Ka Y (Kf Y Y (Ke Y Y Y (Kq Y Y (Kj Y Y Y (Kd (Km Y (fun g0 => Kn (Kb (Kt (kRegD (Kf Y Y (Ke Y Y Y (Kf Y Y (Ke Y Y Y (Ka Y (kIadR Y Y Y om (Ky Y Y (kLit Y Y Y Y (Kx Y Y (kAppN Y Y Y (src_encB _ _) rfl rfl rfl rfl om (Kx Y Y (kLit Y Y Y Y (Ks Y Y (kAppR1 Y Y Y Y Y Y Y Y om (Kf Y Y (Ks Y Y (Ko Y Y Y Y (Kd (kH (Kv (Kc (Ka Y (kAdd Y Y om (Ka Y (Kd ?_))))))))))))))))))))))))))))) (fun g0 => om)))))))))
    exact kInv ⟨⟨i + 1, by omega⟩, by simp only; omega, .normA⟩
  · refine Kb (Kbc (Ka Y (Kf Y Y (Ke Y Y Y (Kq Y Y (Kj Y Y Y (Kd (Km Y (fun g0 => om) (fun g0 => kExit (kExC (kExI (kExB (Kbc (Ke Y Y Y (Ko Y Y Y Y (Kd (Kr (Er (ra := [.agg [(.own true _)]]) rfl ?_))))))))))))))))))
    rw [show i = a.length by omega, List.take_length]

def c_spec_l3own : C := (.g (.o 0 1 (.box 1 (.t 0)) (.o 1 2 (.alloc 2 [(.n 1), (.i 0), (.i 0), (.i 0), (.n 1), (.n 1), (.n 1)]) .done)) (.seq (.reg true (.op 0 [] (some 3) none true (.fad (.t 1) 0) (.op 1 [] (some 4) none true (.load (some 1) (.t 3)) (.op 3 [] (some 6) none true (.fad (.t 1) 1) (.op 4 [] (some 7) none true (.load none (.t 6)) (.op 5 [] (some 8) none true (.fad (.t 1) 2) (.op 6 [] (some 9) none true (.load none (.t 8)) (.op 7 [] (some 10) none true (.fad (.t 1) 3) (.op 8 [] (some 11) none true (.load none (.t 10)) (.op 9 [] (some 12) none true (.fad (.t 1) 4) (.op 10 [] (some 13) none true (.load (some 1) (.t 12)) (.op 13 [] (some 16) none true (.fad (.t 1) 5) (.op 14 [] (some 17) none true (.load none (.t 16)) (.op 17 [] (some 20) none true (.fad (.t 1) 6) (.op 18 [] (some 21) none true (.load none (.t 20)) (.alt (.op 2 [1] (some 5) none false (.call 5 175 [(.t 4)]) (.alt (.op 11 [10, 1] (some 14) none false (.call 14 175 [(.t 13)]) (.alt (.o 12 15 (.lit 15 1 [(.v (.int .u8 0))] 0 []) (.alt (.op 15 [14, 10, 1] (some 18) none false (.app 18 1 1 (.t 15) (.t 17)) (.o 16 19 (.lit 19 1 [(.i 0)] 0 []) (.op 19 [18, 14, 10, 1] (some 22) none false (.app 22 1 8 (.t 19) (.t 21)) (.op 20 [] (some 23) none true (.build [(.n 1), (.i 0), (.i 0), (.i 0), (.n 1), (.n 1), (.n 1)] [(0, 1, (.t 5)), (1, 1, (.t 7)), (2, 1, (.t 9)), (3, 1, (.t 11)), (4, 1, (.t 14)), (5, 1, (.t 18)), (6, 1, (.t 22))]) (.op 21 [1, 4, 6, 8, 10, 14, 18] none none false (.store (some 7) (.t 2) (.t 23)) .done))))) (.o 16 19 (.lit 19 1 [(.i 0)] 0 []) (.op 15 [14, 10, 1] (some 18) none false (.app 18 1 1 (.t 15) (.t 17)) (.op 19 [18, 14, 10, 1] (some 22) none false (.app 22 1 8 (.t 19) (.t 21)) (.op 20 [] (some 23) none true (.build [(.n 1), (.i 0), (.i 0), (.i 0), (.n 1), (.n 1), (.n 1)] [(0, 1, (.t 5)), (1, 1, (.t 7)), (2, 1, (.t 9)), (3, 1, (.t 11)), (4, 1, (.t 14)), (5, 1, (.t 18)), (6, 1, (.t 22))]) (.op 21 [1, 4, 6, 8, 10, 14, 18] none none false (.store (some 7) (.t 2) (.t 23)) .done))))))) (.o 16 19 (.lit 19 1 [(.i 0)] 0 []) (.o 12 15 (.lit 15 1 [(.v (.int .u8 0))] 0 []) (.op 15 [14, 10, 1] (some 18) none false (.app 18 1 1 (.t 15) (.t 17)) (.op 19 [18, 14, 10, 1] (some 22) none false (.app 22 1 8 (.t 19) (.t 21)) (.op 20 [] (some 23) none true (.build [(.n 1), (.i 0), (.i 0), (.i 0), (.n 1), (.n 1), (.n 1)] [(0, 1, (.t 5)), (1, 1, (.t 7)), (2, 1, (.t 9)), (3, 1, (.t 11)), (4, 1, (.t 14)), (5, 1, (.t 18)), (6, 1, (.t 22))]) (.op 21 [1, 4, 6, 8, 10, 14, 18] none none false (.store (some 7) (.t 2) (.t 23)) .done)))))))) (.alt (.o 12 15 (.lit 15 1 [(.v (.int .u8 0))] 0 []) (.alt (.op 11 [10, 1] (some 14) none false (.call 14 175 [(.t 13)]) (.alt (.op 15 [14, 10, 1] (some 18) none false (.app 18 1 1 (.t 15) (.t 17)) (.o 16 19 (.lit 19 1 [(.i 0)] 0 []) (.op 19 [18, 14, 10, 1] (some 22) none false (.app 22 1 8 (.t 19) (.t 21)) (.op 20 [] (some 23) none true (.build [(.n 1), (.i 0), (.i 0), (.i 0), (.n 1), (.n 1), (.n 1)] [(0, 1, (.t 5)), (1, 1, (.t 7)), (2, 1, (.t 9)), (3, 1, (.t 11)), (4, 1, (.t 14)), (5, 1, (.t 18)), (6, 1, (.t 22))]) (.op 21 [1, 4, 6, 8, 10, 14, 18] none none false (.store (some 7) (.t 2) (.t 23)) .done))))) (.o 16 19 (.lit 19 1 [(.i 0)] 0 []) (.op 15 [14, 10, 1] (some 18) none false (.app 18 1 1 (.t 15) (.t 17)) (.op 19 [18, 14, 10, 1] (some 22) none false (.app 22 1 8 (.t 19) (.t 21)) (.op 20 [] (some 23) none true (.build [(.n 1), (.i 0), (.i 0), (.i 0), (.n 1), (.n 1), (.n 1)] [(0, 1, (.t 5)), (1, 1, (.t 7)), (2, 1, (.t 9)), (3, 1, (.t 11)), (4, 1, (.t 14)), (5, 1, (.t 18)), (6, 1, (.t 22))]) (.op 21 [1, 4, 6, 8, 10, 14, 18] none none false (.store (some 7) (.t 2) (.t 23)) .done))))))) (.o 16 19 (.lit 19 1 [(.i 0)] 0 []) (.op 11 [10, 1] (some 14) none false (.call 14 175 [(.t 13)]) (.op 15 [14, 10, 1] (some 18) none false (.app 18 1 1 (.t 15) (.t 17)) (.op 19 [18, 14, 10, 1] (some 22) none false (.app 22 1 8 (.t 19) (.t 21)) (.op 20 [] (some 23) none true (.build [(.n 1), (.i 0), (.i 0), (.i 0), (.n 1), (.n 1), (.n 1)] [(0, 1, (.t 5)), (1, 1, (.t 7)), (2, 1, (.t 9)), (3, 1, (.t 11)), (4, 1, (.t 14)), (5, 1, (.t 18)), (6, 1, (.t 22))]) (.op 21 [1, 4, 6, 8, 10, 14, 18] none none false (.store (some 7) (.t 2) (.t 23)) .done)))))))) (.o 16 19 (.lit 19 1 [(.i 0)] 0 []) (.alt (.op 11 [10, 1] (some 14) none false (.call 14 175 [(.t 13)]) (.o 12 15 (.lit 15 1 [(.v (.int .u8 0))] 0 []) (.op 15 [14, 10, 1] (some 18) none false (.app 18 1 1 (.t 15) (.t 17)) (.op 19 [18, 14, 10, 1] (some 22) none false (.app 22 1 8 (.t 19) (.t 21)) (.op 20 [] (some 23) none true (.build [(.n 1), (.i 0), (.i 0), (.i 0), (.n 1), (.n 1), (.n 1)] [(0, 1, (.t 5)), (1, 1, (.t 7)), (2, 1, (.t 9)), (3, 1, (.t 11)), (4, 1, (.t 14)), (5, 1, (.t 18)), (6, 1, (.t 22))]) (.op 21 [1, 4, 6, 8, 10, 14, 18] none none false (.store (some 7) (.t 2) (.t 23)) .done)))))) (.o 12 15 (.lit 15 1 [(.v (.int .u8 0))] 0 []) (.op 11 [10, 1] (some 14) none false (.call 14 175 [(.t 13)]) (.op 15 [14, 10, 1] (some 18) none false (.app 18 1 1 (.t 15) (.t 17)) (.op 19 [18, 14, 10, 1] (some 22) none false (.app 22 1 8 (.t 19) (.t 21)) (.op 20 [] (some 23) none true (.build [(.n 1), (.i 0), (.i 0), (.i 0), (.n 1), (.n 1), (.n 1)] [(0, 1, (.t 5)), (1, 1, (.t 7)), (2, 1, (.t 9)), (3, 1, (.t 11)), (4, 1, (.t 14)), (5, 1, (.t 18)), (6, 1, (.t 22))]) (.op 21 [1, 4, 6, 8, 10, 14, 18] none none false (.store (some 7) (.t 2) (.t 23)) .done))))))))))) (.alt (.o 12 15 (.lit 15 1 [(.v (.int .u8 0))] 0 []) (.alt (.op 2 [1] (some 5) none false (.call 5 175 [(.t 4)]) (.alt (.op 11 [10, 1] (some 14) none false (.call 14 175 [(.t 13)]) (.alt (.op 15 [14, 10, 1] (some 18) none false (.app 18 1 1 (.t 15) (.t 17)) (.o 16 19 (.lit 19 1 [(.i 0)] 0 []) (.op 19 [18, 14, 10, 1] (some 22) none false (.app 22 1 8 (.t 19) (.t 21)) (.op 20 [] (some 23) none true (.build [(.n 1), (.i 0), (.i 0), (.i 0), (.n 1), (.n 1), (.n 1)] [(0, 1, (.t 5)), (1, 1, (.t 7)), (2, 1, (.t 9)), (3, 1, (.t 11)), (4, 1, (.t 14)), (5, 1, (.t 18)), (6, 1, (.t 22))]) (.op 21 [1, 4, 6, 8, 10, 14, 18] none none false (.store (some 7) (.t 2) (.t 23)) .done))))) (.o 16 19 (.lit 19 1 [(.i 0)] 0 []) (.op 15 [14, 10, 1] (some 18) none false (.app 18 1 1 (.t 15) (.t 17)) (.op 19 [18, 14, 10, 1] (some 22) none false (.app 22 1 8 (.t 19) (.t 21)) (.op 20 [] (some 23) none true (.build [(.n 1), (.i 0), (.i 0), (.i 0), (.n 1), (.n 1), (.n 1)] [(0, 1, (.t 5)), (1, 1, (.t 7)), (2, 1, (.t 9)), (3, 1, (.t 11)), (4, 1, (.t 14)), (5, 1, (.t 18)), (6, 1, (.t 22))]) (.op 21 [1, 4, 6, 8, 10, 14, 18] none none false (.store (some 7) (.t 2) (.t 23)) .done))))))) (.o 16 19 (.lit 19 1 [(.i 0)] 0 []) (.op 11 [10, 1] (some 14) none false (.call 14 175 [(.t 13)]) (.op 15 [14, 10, 1] (some 18) none false (.app 18 1 1 (.t 15) (.t 17)) (.op 19 [18, 14, 10, 1] (some 22) none false (.app 22 1 8 (.t 19) (.t 21)) (.op 20 [] (some 23) none true (.build [(.n 1), (.i 0), (.i 0), (.i 0), (.n 1), (.n 1), (.n 1)] [(0, 1, (.t 5)), (1, 1, (.t 7)), (2, 1, (.t 9)), (3, 1, (.t 11)), (4, 1, (.t 14)), (5, 1, (.t 18)), (6, 1, (.t 22))]) (.op 21 [1, 4, 6, 8, 10, 14, 18] none none false (.store (some 7) (.t 2) (.t 23)) .done)))))))) (.o 16 19 (.lit 19 1 [(.i 0)] 0 []) (.op 2 [1] (some 5) none false (.call 5 175 [(.t 4)]) (.op 11 [10, 1] (some 14) none false (.call 14 175 [(.t 13)]) (.op 15 [14, 10, 1] (some 18) none false (.app 18 1 1 (.t 15) (.t 17)) (.op 19 [18, 14, 10, 1] (some 22) none false (.app 22 1 8 (.t 19) (.t 21)) (.op 20 [] (some 23) none true (.build [(.n 1), (.i 0), (.i 0), (.i 0), (.n 1), (.n 1), (.n 1)] [(0, 1, (.t 5)), (1, 1, (.t 7)), (2, 1, (.t 9)), (3, 1, (.t 11)), (4, 1, (.t 14)), (5, 1, (.t 18)), (6, 1, (.t 22))]) (.op 21 [1, 4, 6, 8, 10, 14, 18] none none false (.store (some 7) (.t 2) (.t 23)) .done))))))))) (.o 16 19 (.lit 19 1 [(.i 0)] 0 []) (.alt (.op 2 [1] (some 5) none false (.call 5 175 [(.t 4)]) (.alt (.op 11 [10, 1] (some 14) none false (.call 14 175 [(.t 13)]) (.o 12 15 (.lit 15 1 [(.v (.int .u8 0))] 0 []) (.op 15 [14, 10, 1] (some 18) none false (.app 18 1 1 (.t 15) (.t 17)) (.op 19 [18, 14, 10, 1] (some 22) none false (.app 22 1 8 (.t 19) (.t 21)) (.op 20 [] (some 23) none true (.build [(.n 1), (.i 0), (.i 0), (.i 0), (.n 1), (.n 1), (.n 1)] [(0, 1, (.t 5)), (1, 1, (.t 7)), (2, 1, (.t 9)), (3, 1, (.t 11)), (4, 1, (.t 14)), (5, 1, (.t 18)), (6, 1, (.t 22))]) (.op 21 [1, 4, 6, 8, 10, 14, 18] none none false (.store (some 7) (.t 2) (.t 23)) .done)))))) (.o 12 15 (.lit 15 1 [(.v (.int .u8 0))] 0 []) (.op 11 [10, 1] (some 14) none false (.call 14 175 [(.t 13)]) (.op 15 [14, 10, 1] (some 18) none false (.app 18 1 1 (.t 15) (.t 17)) (.op 19 [18, 14, 10, 1] (some 22) none false (.app 22 1 8 (.t 19) (.t 21)) (.op 20 [] (some 23) none true (.build [(.n 1), (.i 0), (.i 0), (.i 0), (.n 1), (.n 1), (.n 1)] [(0, 1, (.t 5)), (1, 1, (.t 7)), (2, 1, (.t 9)), (3, 1, (.t 11)), (4, 1, (.t 14)), (5, 1, (.t 18)), (6, 1, (.t 22))]) (.op 21 [1, 4, 6, 8, 10, 14, 18] none none false (.store (some 7) (.t 2) (.t 23)) .done)))))))) (.o 12 15 (.lit 15 1 [(.v (.int .u8 0))] 0 []) (.op 2 [1] (some 5) none false (.call 5 175 [(.t 4)]) (.op 11 [10, 1] (some 14) none false (.call 14 175 [(.t 13)]) (.op 15 [14, 10, 1] (some 18) none false (.app 18 1 1 (.t 15) (.t 17)) (.op 19 [18, 14, 10, 1] (some 22) none false (.app 22 1 8 (.t 19) (.t 21)) (.op 20 [] (some 23) none true (.build [(.n 1), (.i 0), (.i 0), (.i 0), (.n 1), (.n 1), (.n 1)] [(0, 1, (.t 5)), (1, 1, (.t 7)), (2, 1, (.t 9)), (3, 1, (.t 11)), (4, 1, (.t 14)), (5, 1, (.t 18)), (6, 1, (.t 22))]) (.op 21 [1, 4, 6, 8, 10, 14, 18] none none false (.store (some 7) (.t 2) (.t 23)) .done)))))))))))))))))))))))))) .ret))
theorem dg_spec_l3own : Tryz.f232.body.bind (digC Tryz.prog Tryz.f232.ntmps []) = some c_spec_l3own := by kernel_rfl
theorem rs_spec_l3own : resSlots Tryz.prog Tryz.f232 = some [.m 2 (some 7)] := by kernel_rfl
theorem ok_spec_l3own (r : Rr) (hs : SmallR r) :
    FnOK Tryz.prog 232 [.agg (r.cells.map .d)] (fun ra _ => ra = [.agg [.own true (encBB r.name), .d (.sc (.int .i64 r.ty)), .d (.sc (.int .i64 r.ttl)), .d (.sc (.int .i64 r.addr)), .own true (encBB r.to), .own true (encB r.text), .own true (Hearth.encI r.nums)]]) := by
  refine FnOK.ofK Tryz.func232 (by kernel_rfl) dg_spec_l3own rs_spec_l3own rfl rfl ?_
  delta c_spec_l3own T.o X.i C.g
  have n1 := hs.n.len
  have n2 := hs.n.mem
  have t1 := hs.t.len
  have t2 := hs.t.mem
  have x1 := hs.x
  have m1 := hs.m
  refine Kb (kCut ⟨tabSl [(1, .c (.ptr (rid 1 0) 1 0)), (2, .c (.ptr (rid 2 0) 1 0))], obTab 1 [(rid 1 0, ⟨1, 0, .box (r.cells.map .d)⟩), (rid 2 0, ⟨1, 0, .box [.nil 1, .d (.sc (.int .i64 0)), .d (.sc (.int .i64 0)), .d (.sc (.int .i64 0)), .nil 1, .nil 1, .nil 1]⟩)], []⟩ ?_ (fun x hc => ?_))
  case refine_2 => refine kReg (kBox rfl rfl rfl rfl rfl (kAlloc rfl rfl (kDone (hc _ .normA))))
  refine Kb (kCut ⟨tabSl [(2, .c (.ptr (rid 2 0) 1 0))], obTab 1 [(rid 2 0, ⟨1, 0, .box [.arr (rid 5 0) 1, .d (.sc (.int .i64 r.ty)), .d (.sc (.int .i64 r.ttl)), .d (.sc (.int .i64 r.addr)), .arr (rid 14 0) 1, .arr (rid 15 0) 1, .arr (rid 19 0) 1]⟩), (rid 5 0, ⟨1, 0, .arr true (encBB r.name)⟩), (rid 14 0, ⟨1, 0, .arr true (encBB r.to)⟩), (rid 15 0, ⟨1, 0, .arr true (encB r.text)⟩), (rid 19 0, ⟨1, 0, .arr true (Hearth.encI r.nums)⟩)], []⟩ ?_ (fun x hc => ?_))
  case refine_2 => refine kRegD (kFadP rfl rfl (kLoadP rfl rfl rfl (kFadP rfl rfl (kLoadP rfl rfl rfl (kFadP rfl rfl (kLoadP rfl rfl rfl (kFadP rfl rfl (kLoadP rfl rfl rfl (kFadP rfl rfl (kLoadP rfl rfl rfl (kFadP rfl rfl (kLoadP rfl rfl rfl (kFadP rfl rfl (kLoadP rfl rfl rfl (kAlt (kRelK rfl rfl (kCall1 true (ok_spec_l2own _ pr pr) ⟨⟨⟨rfl, trivial⟩, leb⟩, trivial⟩ rfl rfl rfl (fun _ => (kAlt (kRelK rfl rfl (kCall1 true (ok_spec_l2own _ pr pr) ⟨⟨⟨rfl, trivial⟩, leb⟩, trivial⟩ rfl rfl rfl (fun _ => (kAlt (kLit rfl rfl rfl rfl (kAlt (kRelK rfl rfl (kAppN rfl rfl rfl (src_encB _ _) rfl rfl rfl rfl (by omega) (kLit rfl rfl rfl rfl (kRelK rfl rfl (kAppN rfl rfl rfl (src_encI _ _) rfl rfl rfl rfl (by omega) (kBuildG rfl (kRelF rfl rfl (kStoreP rfl rfl rfl rfl (kDone (kH (hc _ .normA))))))))))) (kLit rfl rfl rfl rfl (kRelK rfl rfl (kAppN rfl rfl rfl (src_encB _ _) rfl rfl rfl rfl (by omega) (kRelK rfl rfl (kAppN rfl rfl rfl (src_encI _ _) rfl rfl rfl rfl (by omega) (kBuildG rfl (kRelF rfl rfl (kStoreP rfl rfl rfl rfl (kDone (kH (hc _ .normA))))))))))))) (kLit rfl rfl rfl rfl (kLit rfl rfl rfl rfl (kRelK rfl rfl (kAppN rfl rfl rfl (src_encB _ _) rfl rfl rfl rfl (by omega) (kRelK rfl rfl (kAppN rfl rfl rfl (src_encI _ _) rfl rfl rfl rfl (by omega) (kBuildG rfl (kRelF rfl rfl (kStoreP rfl rfl rfl rfl (kDone (kH (hc _ .normA)))))))))))))))) (kAlt (kLit rfl rfl rfl rfl (kAlt (kRelK rfl rfl (kCall1 true (ok_spec_l2own _ pr pr) ⟨⟨⟨rfl, trivial⟩, leb⟩, trivial⟩ rfl rfl rfl (fun _ => (kAlt (kRelK rfl rfl (kAppN rfl rfl rfl (src_encB _ _) rfl rfl rfl rfl (by omega) (kLit rfl rfl rfl rfl (kRelK rfl rfl (kAppN rfl rfl rfl (src_encI _ _) rfl rfl rfl rfl (by omega) (kBuildG rfl (kRelF rfl rfl (kStoreP rfl rfl rfl rfl (kDone (kH (hc _ .normA))))))))))) (kLit rfl rfl rfl rfl (kRelK rfl rfl (kAppN rfl rfl rfl (src_encB _ _) rfl rfl rfl rfl (by omega) (kRelK rfl rfl (kAppN rfl rfl rfl (src_encI _ _) rfl rfl rfl rfl (by omega) (kBuildG rfl (kRelF rfl rfl (kStoreP rfl rfl rfl rfl (kDone (kH (hc _ .normA))))))))))))))) (kLit rfl rfl rfl rfl (kRelK rfl rfl (kCall1 true (ok_spec_l2own _ pr pr) ⟨⟨⟨rfl, trivial⟩, leb⟩, trivial⟩ rfl rfl rfl (fun _ => (kRelK rfl rfl (kAppN rfl rfl rfl (src_encB _ _) rfl rfl rfl rfl (by omega) (kRelK rfl rfl (kAppN rfl rfl rfl (src_encI _ _) rfl rfl rfl rfl (by omega) (kBuildG rfl (kRelF rfl rfl (kStoreP rfl rfl rfl rfl (kDone (kH (hc _ .normA)))))))))))))))) (kLit rfl rfl rfl rfl (kAlt (kRelK rfl rfl (kCall1 true (ok_spec_l2own _ pr pr) ⟨⟨⟨rfl, trivial⟩, leb⟩, trivial⟩ rfl rfl rfl (fun _ => (kLit rfl rfl rfl rfl (kRelK rfl rfl (kAppN rfl rfl rfl (src_encB _ _) rfl rfl rfl rfl (by omega) (kRelK rfl rfl (kAppN rfl rfl rfl (src_encI _ _) rfl rfl rfl rfl (by omega) (kBuildG rfl (kRelF rfl rfl (kStoreP rfl rfl rfl rfl (kDone (kH (hc _ .normA)))))))))))))) (kLit rfl rfl rfl rfl (kRelK rfl rfl (kCall1 true (ok_spec_l2own _ pr pr) ⟨⟨⟨rfl, trivial⟩, leb⟩, trivial⟩ rfl rfl rfl (fun _ => (kRelK rfl rfl (kAppN rfl rfl rfl (src_encB _ _) rfl rfl rfl rfl (by omega) (kRelK rfl rfl (kAppN rfl rfl rfl (src_encI _ _) rfl rfl rfl rfl (by omega) (kMem [(24576, ⟨2, 0, .arr true _⟩), (61440, ⟨2, 0, .arr true _⟩), (65536, ⟨3, 0, .arr true _⟩), (81920, ⟨3, 0, .arr true _⟩), (12288, ⟨1, 0, .box [.nil 1, .d _, .d _, .d _, .nil 1, .nil 1, .nil 1]⟩)] [(5, .g [.arr 24576 2]), (7, .c (.d _)), (9, .c (.d _)), (11, .c (.d _)), (14, .g [.arr 61440 2]), (18, .c (.arr 65536 3)), (22, .c (.arr 81920 3)), (2, .c (.ptr 12288 1 0))] [8192, 8192, 8192, 8192, 8192, 8192, 8192] ⟨rfl, rfl, rfl, rfl, rfl, trivial⟩ ⟨rfl, rfl, rfl, rfl, rfl, rfl, rfl, rfl, trivial⟩ rfl (kBuildG rfl (kMem [(12288, ⟨1, 0, .box [.nil 1, .d _, .d _, .d _, .nil 1, .nil 1, .nil 1]⟩), (24576, ⟨2, 0, .arr true _⟩), (61440, ⟨2, 0, .arr true _⟩), (65536, ⟨3, 0, .arr true _⟩), (81920, ⟨3, 0, .arr true _⟩)] [(2, .c (.ptr 12288 1 0)), (23, .g [.arr 24576 2, .d _, .d _, .d _, .arr 61440 2, .arr 65536 3, .arr 81920 3])] [8192, 8192, 8192, 8192, 8192, 8192, 8192] ⟨rfl, rfl, rfl, rfl, rfl, trivial⟩ ⟨rfl, rfl, trivial⟩ rfl (kRelF rfl rfl (kStoreP rfl rfl rfl rfl (kDone (kH (kMem [(12288, ⟨1, 0, .box [.arr 24576 2, .d _, .d _, .d _, .arr 61440 2, .arr 65536 3, .arr 81920 3]⟩), (24576, ⟨2, 0, .arr true _⟩), (61440, ⟨2, 0, .arr true _⟩), (65536, ⟨3, 0, .arr true _⟩), (81920, ⟨3, 0, .arr true _⟩)] [(2, .c (.ptr 12288 1 0))] [] ⟨rfl, rfl, rfl, rfl, rfl, trivial⟩ ⟨rfl, trivial⟩ rfl (hc _ .normA)))))))))))))))))))))))) (kAlt (kLit rfl rfl rfl rfl (kMem [(65536, ⟨2, 0, .arr true _⟩), (12288, ⟨1, 0, .box [.nil 1, .d _, .d _, .d _, .nil 1, .nil 1, .nil 1]⟩)] [(4, .g [.d _]), (13, .g [.d _]), (15, .c (.arr 65536 2)), (17, .c (.d _)), (21, .c (.d _)), (7, .c (.d _)), (9, .c (.d _)), (11, .c (.d _)), (2, .c (.ptr 12288 1 0))] [8192, 8192, 8192, 8192, 8192, 8192, 8192] ⟨rfl, rfl, trivial⟩ ⟨rfl, rfl, rfl, rfl, rfl, rfl, rfl, rfl, rfl, trivial⟩ rfl (kAlt (kRelK rfl rfl (kCall1 true (ok_spec_l2own _ pr pr) ⟨⟨⟨rfl, trivial⟩, leb⟩, trivial⟩ rfl rfl rfl (fun _ => (kAlt (kRelK rfl rfl (kCall1 true (ok_spec_l2own _ pr pr) ⟨⟨⟨rfl, trivial⟩, leb⟩, trivial⟩ rfl rfl rfl (fun _ => (kAlt (kRelK rfl rfl (kAppN rfl rfl rfl (src_encB _ _) rfl rfl rfl rfl (by omega) (kLit rfl rfl rfl rfl (kRelK rfl rfl (kAppN rfl rfl rfl (src_encI _ _) rfl rfl rfl rfl (by omega) (kBuildG rfl (kRelF rfl rfl (kStoreP rfl rfl rfl rfl (kDone (kH (hc _ .normA))))))))))) (kLit rfl rfl rfl rfl (kRelK rfl rfl (kAppN rfl rfl rfl (src_encB _ _) rfl rfl rfl rfl (by omega) (kRelK rfl rfl (kAppN rfl rfl rfl (src_encI _ _) rfl rfl rfl rfl (by omega) (kBuildG rfl (kRelF rfl rfl (kStoreP rfl rfl rfl rfl (kDone (kH (hc _ .normA))))))))))))))) (kLit rfl rfl rfl rfl (kRelK rfl rfl (kCall1 true (ok_spec_l2own _ pr pr) ⟨⟨⟨rfl, trivial⟩, leb⟩, trivial⟩ rfl rfl rfl (fun _ => (kRelK rfl rfl (kAppN rfl rfl rfl (src_encB _ _) rfl rfl rfl rfl (by omega) (kRelK rfl rfl (kAppN rfl rfl rfl (src_encI _ _) rfl rfl rfl rfl (by omega) (kBuildG rfl (kRelF rfl rfl (kStoreP rfl rfl rfl rfl (kDone (kH (hc _ .normA)))))))))))))))))) (kLit rfl rfl rfl rfl (kRelK rfl rfl (kCall1 true (ok_spec_l2own _ pr pr) ⟨⟨⟨rfl, trivial⟩, leb⟩, trivial⟩ rfl rfl rfl (fun _ => (kRelK rfl rfl (kCall1 true (ok_spec_l2own _ pr pr) ⟨⟨⟨rfl, trivial⟩, leb⟩, trivial⟩ rfl rfl rfl (fun _ => (kRelK rfl rfl (kAppN rfl rfl rfl (src_encB _ _) rfl rfl rfl rfl (by omega) (kRelK rfl rfl (kAppN rfl rfl rfl (src_encI _ _) rfl rfl rfl rfl (by omega) (kBuildG rfl (kRelF rfl rfl (kStoreP rfl rfl rfl rfl (kDone (kH (hc _ .normA)))))))))))))))))))) (kLit rfl rfl rfl rfl (kAlt (kRelK rfl rfl (kCall1 true (ok_spec_l2own _ pr pr) ⟨⟨⟨rfl, trivial⟩, leb⟩, trivial⟩ rfl rfl rfl (fun _ => (kAlt (kRelK rfl rfl (kCall1 true (ok_spec_l2own _ pr pr) ⟨⟨⟨rfl, trivial⟩, leb⟩, trivial⟩ rfl rfl rfl (fun _ => (kLit rfl rfl rfl rfl (kRelK rfl rfl (kAppN rfl rfl rfl (src_encB _ _) rfl rfl rfl rfl (by omega) (kRelK rfl rfl (kAppN rfl rfl rfl (src_encI _ _) rfl rfl rfl rfl (by omega) (kBuildG rfl (kRelF rfl rfl (kStoreP rfl rfl rfl rfl (kDone (kH (hc _ .normA)))))))))))))) (kLit rfl rfl rfl rfl (kRelK rfl rfl (kCall1 true (ok_spec_l2own _ pr pr) ⟨⟨⟨rfl, trivial⟩, leb⟩, trivial⟩ rfl rfl rfl (fun _ => (kRelK rfl rfl (kAppN rfl rfl rfl (src_encB _ _) rfl rfl rfl rfl (by omega) (kRelK rfl rfl (kAppN rfl rfl rfl (src_encI _ _) rfl rfl rfl rfl (by omega) (kBuildG rfl (kRelF rfl rfl (kStoreP rfl rfl rfl rfl (kDone (kH (hc _ .normA)))))))))))))))))) (kLit rfl rfl rfl rfl (kRelK rfl rfl (kCall1 true (ok_spec_l2own _ pr pr) ⟨⟨⟨rfl, trivial⟩, leb⟩, trivial⟩ rfl rfl rfl (fun _ => (kRelK rfl rfl (kCall1 true (ok_spec_l2own _ pr pr) ⟨⟨⟨rfl, trivial⟩, leb⟩, trivial⟩ rfl rfl rfl (fun _ => (kRelK rfl rfl (kAppN rfl rfl rfl (src_encB _ _) rfl rfl rfl rfl (by omega) (kRelK rfl rfl (kAppN rfl rfl rfl (src_encI _ _) rfl rfl rfl rfl (by omega) (kBuildG rfl (kRelF rfl rfl (kStoreP rfl rfl rfl rfl (kDone (kH (hc _ .normA)))))))))))))))))))))))))))))))))))
  refine (Kr (Er (ra := [.agg [(.own true _), (.d _), (.d _), (.d _), (.own true _), (.own true _), (.own true _)]]) rfl rfl))

def DrawnS (l : List Rr) : Prop := (0 < l.length ∧ l.length ≤ 2) ∧ ∀ r ∈ l, SmallR r ∧ 0 ≤ r.ttl ∧ r.ttl ≤ 10000000000
theorem rrOk_addr {r : Rr} (h : rrOk r = true) : r.ty = 1 → 0 ≤ r.addr ∧ r.addr ≤ 4294967295 := by
  intro ht
  simp only [rrOk, dataOk, Bool.and_eq_true] at h
  have h2 := h.2.1.1.2
  rw [ht, if_pos (by rfl)] at h2
  simp only [isW, Bool.and_eq_true, decide_eq_true_eq] at h2
  omega
def c_spec_l10rrs : C := (.g (.o 0 2 (.mov (.n 7)) .done) (.g (.o 0 6 (.mov (.t 0)) (.o 1 7 (.call 7 199 [(.t 6)]) (.o 2 3 (.alloc 3 [(.n 1), (.i 0), (.i 0), (.i 0), (.n 1), (.n 1), (.n 1)]) (.op 3 [] none none false (.store (some 7) (.t 3) (.t 7)) .done)))) (.g (.o 0 8 (.load (some 7) (.t 3)) (.o 1 9 (.lit 9 7 [(.n 1), (.i 0), (.i 0), (.i 0), (.n 1), (.n 1), (.n 1)] 1 [(0, 7, (.t 8))]) (.o 2 4 (.mov (.t 9)) .done))) (.seq (.g (.o 0 10 (.fad (.t 3) 1) (.o 1 11 (.load none (.t 10)) (.o 2 12 (.bin .eql (.t 11) (.i 1)) (.o 3 13 (.mov (.t 12)) (.op 4 [] (some 14) (some (13, true)) false (.mov (.t 0)) (.op 5 [] (some 15) (some (13, true)) false (.call 15 68 [(.t 14), (.i 2)]) (.o 6 16 (.pick (.t 13) (.t 15) (.v (.bool false))) .done))))))) (.cond (.t 16) (.g (.o 0 17 (.load (some 7) (.t 3)) (.o 1 18 (.call 18 232 [(.t 17)]) (.o 2 5 (.alloc 5 [(.n 1), (.i 0), (.i 0), (.i 0), (.n 1), (.n 1), (.n 1)]) (.op 3 [] none none false (.store (some 7) (.t 5) (.t 18)) .done)))) (.g (.o 0 19 (.fad (.t 3) 3) (.o 1 20 (.load none (.t 19)) (.o 2 21 (.bin .add (.t 20) (.i 1)) (.o 3 22 (.fad (.t 5) 3) (.op 4 [] none none false (.store none (.t 22) (.t 21)) .done))))) (.g (.o 0 23 (.fad (.t 5) 3) (.o 1 24 (.load none (.t 23)) (.o 2 25 (.bin .lss (.t 24) (.i 4294967296)) .done))) (.cond (.t 25) (.reg false (.o 0 26 (.mov (.t 4)) (.o 1 27 (.load (some 7) (.t 5)) (.o 2 28 (.lit 28 7 [(.n 1), (.i 0), (.i 0), (.i 0), (.n 1), (.n 1), (.n 1)] 1 [(0, 7, (.t 27))]) (.o 3 29 (.app 29 7 120 (.t 26) (.t 28)) (.o 4 4 (.mov (.t 29)) .done)))))) .skip)))) .skip)) (.g (.o 0 30 (.mov (.t 4)) (.o 1 2 (.mov (.t 30)) .done)) .ret)))))
theorem dg_spec_l10rrs : Tryz.f147.body.bind (digC Tryz.prog Tryz.f147.ntmps []) = some c_spec_l10rrs := by kernel_rfl
theorem rs_spec_l10rrs : resSlots Tryz.prog Tryz.f147 = some [.s 2] := by kernel_rfl
theorem ok_spec_l10rrs (c : Cu) :
    FnOK Tryz.prog 147 [.one (.box c.cells)] (fun ra os => ∃ x : List Rr × Cu, DrawnS x.1 ∧ ra = [.one (.d (encR x.1))] ∧ os.b 0 = x.2.cells) := by
  refine FnOK.ofK Tryz.func147 (by kernel_rfl) dg_spec_l10rrs rs_spec_l10rrs rfl rfl ?_
  delta c_spec_l10rrs T.o X.i C.g
  have hstopo9 := trivial
  refine Kbc (Ka Y (Kdb (Kc (Ka Y (Kz (ok_spec_l3draw _) ⟨⟨rfl, _, rfl, rfl⟩, trivial⟩ Y Y Y (fun _ => rfl) (fun x0 hx0 => (kAlloc Y Y (kMem [(16384, ⟨1, 0, .box [.nil 1, .d _, .d _, .d _, .nil 1, .nil 1, .nil 1]⟩), (32768, ⟨1, 0, .arr true _⟩), (32772, ⟨1, 0, .arr true _⟩), (32773, ⟨1, 0, .arr true _⟩), (32774, ⟨1, 0, .arr true _⟩)] [(3, .c (.ptr 16384 1 0)), (7, .g [.arr 32768 1, .d _, .d _, .d _, .arr 32772 1, .arr 32773 1, .arr 32774 1])] [] ⟨Y, Y, Y, Y, Y, trivial⟩ ⟨Y, Y, trivial⟩ Y (Ko Y Y Y Y (Kdb ?_))))))))))
  clear hstopo9
  refine kSub (Sub.frzBox (rid 3 0) (rid 7 0) 0 rfl rfl rfl rfl rfl) ?_
  refine kSub (Sub.frzBox (rid 3 0) (rid 7 4) 4 rfl rfl rfl rfl rfl) ?_
  refine kSub (Sub.frzBox (rid 3 0) (rid 7 5) 5 rfl rfl rfl rfl rfl) ?_
  refine kSub (Sub.frzBox (rid 3 0) (rid 7 6) 6 rfl rfl rfl rfl rfl) ?_
  have hsm := rrOk_small hx0
  obtain ⟨hq1, hq2, hq3, hq4, hq5⟩ := rrOk_ty hx0
  have hq6 := rrOk_addr hx0
  refine Kc (Ke Y Y Y (kLitG Y Y Y Y (Ka Y (Kdb (Kbc (Kf Y Y (Ke Y Y Y (Kj Y Y Y (Ka Y (kGP Y (fun g1 => kMem [(0, ⟨0, 1, .box [.d _, .d _, .d _]⟩)] [(0, .c (.ptr 0 0 0)), (14, .c (.un)), (13, .c (.d _)), (15, .c (.un))] [] ⟨Y, trivial⟩ ⟨Y, Y, Y, Y, trivial⟩ Y (Ki Y (Ka Y (Ki Y (Kz (ok_spec_l1Once _ _) ⟨⟨rfl, _, rfl, rfl⟩, rfl, trivial⟩ Y Y Y (fun _ => rfl) (fun x2 hx2 => (Kk Y (Ka Y (Kd (kCond Y (fun g3 => Kbc (Ke Y Y Y (Ku true (ok_spec_l3own _ prx) ⟨⟨⟨Y, Y, Y, Y, Y, Y, Y, trivial⟩, leb⟩, trivial⟩ Y Y Y (fun _ => (kAlloc Y Y (kMem [(24576, ⟨1, 0, .box [.nil 1, .d _, .d _, .d _, .nil 1, .nil 1, .nil 1]⟩), (77824, ⟨1, 0, .arr true _⟩), (77828, ⟨1, 0, .arr true _⟩), (77829, ⟨1, 0, .arr true _⟩), (77830, ⟨1, 0, .arr true _⟩)] [(5, .c (.ptr 24576 1 0)), (18, .g [.arr 77824 1, .d _, .d _, .d _, .arr 77828 1, .arr 77829 1, .arr 77830 1])] [] ⟨Y, Y, Y, Y, Y, trivial⟩ ⟨Y, Y, trivial⟩ Y (Ko Y Y Y Y (Kdb (Kc (Kf Y Y (Ke Y Y Y (kAdd Y Y om (Kf Y Y (Ko Y Y Y Y (Kdb (Kc (Kf Y Y (Ke Y Y Y (Kj Y Y Y (Kd (Km Y (fun g4 => Kc (kMem [(40960, ⟨1, 0, .arr false _⟩), (24576, ⟨1, 0, .box [.arr 77824 1, .d _, .d _, .d _, .arr 77828 1, .arr 77829 1, .arr 77830 1]⟩), (77824, ⟨1, 0, .arr true _⟩), (77828, ⟨1, 0, .arr true _⟩), (77829, ⟨1, 0, .arr true _⟩), (77830, ⟨1, 0, .arr true _⟩)] [(4, .c (.arr 40960 1)), (5, .c (.ptr 24576 1 0)), (27, .c (.un)), (26, .c (.un)), (28, .c (.un)), (29, .c (.un))] [] ⟨Y, Y, Y, Y, Y, Y, trivial⟩ ⟨Y, Y, Y, Y, Y, Y, trivial⟩ Y (Ka Y (Ke Y Y Y (kLitG Y Y Y Y ?_))))) (fun g4 => Kn (Kbc (kMem [(40960, ⟨1, 0, .arr false _⟩)] [(4, .c (.arr 40960 1)), (30, .c (.un))] [] ⟨Y, trivial⟩ ⟨Y, Y, trivial⟩ Y (Ka Y (Ka Y (Kd (kMem [(40960, ⟨1, 0, .arr false _⟩)] [(2, .c (.arr 40960 1))] [] ⟨Y, trivial⟩ ⟨Y, trivial⟩ Y (Kr (Er (ra := [.one (.d _)]) rfl ?_)))))))))))))))))))))))))))))) (fun g3 => Kn (Kbc (Ka Y (Ka Y (Kd (kMem [(40960, ⟨1, 0, .arr false _⟩)] [(2, .c (.arr 40960 1))] [] ⟨Y, trivial⟩ ⟨Y, trivial⟩ Y (Kr (Er (ra := [.one (.d _)]) rfl ?_)))))))))))))))))) (fun g1 => kMem [(0, ⟨0, 1, .box [.d _, .d _, .d _]⟩)] [(0, .c (.ptr 0 0 0)), (14, .c (.un)), (13, .c (.d _)), (15, .c (.un))] [] ⟨Y, trivial⟩ ⟨Y, Y, Y, Y, trivial⟩ Y (Kg Y (Kg Y (Kl Y (Ka Y (Kd (kCondF Y (Kn (Kbc (Ka Y (Ka Y (Kd (kMem [(40960, ⟨1, 0, .arr false _⟩)] [(2, .c (.arr 40960 1))] [] ⟨Y, trivial⟩ ⟨Y, trivial⟩ Y (Kr (Er (ra := [.one (.d _)]) rfl ?_)))))))))))))))))))))))))
  · refine kAppRec (l := [x0.1]) Y Y Y Y Y Y Y (by simp) ?_
    refine Ka Y (Kdb (Kc (Ka Y (Ka Y (Kd (kMem [(40960, ⟨2, 0, .arr false _⟩)] [(2, .c (.arr 40960 2))] [] ⟨Y, trivial⟩ ⟨Y, trivial⟩ Y (Kr (Er (ra := [.one (.d _)]) rfl ?_))))))))
    exact ⟨([x0.1, { x0.1 with addr := x0.1.addr + 1 }], x2.2), ⟨⟨by simp, by simp⟩, fun r hr => by
      simp only [List.mem_cons, List.not_mem_nil, or_false] at hr
      rcases hr with rfl | rfl
      · exact ⟨hsm, by omega, by omega⟩
      · exact ⟨⟨hsm.n, hsm.t, hsm.x, hsm.m⟩, by simp only; omega, by simp only; omega⟩⟩, rfl, rfl⟩
  all_goals (
    have hone : DrawnS [x0.1] := ⟨⟨by simp, by simp⟩, fun r hr => by
      simp only [List.mem_cons, List.not_mem_nil, or_false] at hr
      rw [hr]
      exact ⟨hsm, by omega, by omega⟩⟩
    first | exact ⟨([x0.1], x2.2), hone, rfl, rfl⟩ | exact ⟨([x0.1], x0.2), hone, rfl, rfl⟩)

def c_spec_l2bytes : C := (.g (.o 0 4 (.mov (.i 0)) .done) (.seq (.g (.o 0 5 (.mov (.t 0)) (.o 1 6 (.b2s (.t 5)) (.o 2 7 (.mov (.t 1)) (.o 3 8 (.b2s (.t 7)) (.o 4 9 (.bin .lss (.t 6) (.t 8)) .done))))) (.cond (.t 9) (.g (.o 0 4 (.mov (.i (-1))) .done) .ret) .skip)) (.seq (.g (.o 0 10 (.mov (.t 0)) (.o 1 11 (.b2s (.t 10)) (.o 2 12 (.mov (.t 1)) (.o 3 13 (.b2s (.t 12)) (.o 4 14 (.bin .gtr (.t 11) (.t 13)) .done))))) (.cond (.t 14) (.g (.o 0 4 (.mov (.i 1)) .done) .ret) .skip)) (.g (.o 0 4 (.mov (.i 0)) .done) .ret))))
theorem dg_spec_l2bytes : Tryz.f166.body.bind (digC Tryz.prog Tryz.f166.ntmps []) = some c_spec_l2bytes := by kernel_rfl
theorem rs_spec_l2bytes : resSlots Tryz.prog Tryz.f166 = some [.s 4] := by kernel_rfl
theorem ok_spec_l2bytes (a b : List UInt8) :
    FnOK Tryz.prog 166 [.one (.d (encB a)), .one (.d (encB b))] (fun ra _ => ra = [.one (.d (.sc (.int .i64 (cmpB a b))))]) := by
  refine FnOK.ofK Tryz.func166 (by kernel_rfl) dg_spec_l2bytes rs_spec_l2bytes rfl rfl ?_
  delta c_spec_l2bytes T.o X.i C.g
  refine Kbc (Ka Y (Kdb (Kbc (Ka Y (kB2s Y Y (Ka Y (kB2s Y Y (Kj Y Y Y (Kd (kCond Y (fun g0 => Kbc (Ka Y (Kd (Kr (Er (ra := [.one (.d _)]) rfl ?_))))) (fun g0 => Kn (Kb (Kbc (Ka Y (kB2s Y Y (Ka Y (kB2s Y Y (Kj Y Y Y (Kd (kCondN Y (fun g1 => Kbc (Ka Y (Kd (Kr (Er (ra := [.one (.d _)]) rfl ?_))))) (fun g1 => Kn (Kbc (Ka Y (Kd (Kr (Er (ra := [.one (.d _)]) rfl ?_))))))))))))))))))))))))))
  all_goals simp_all [cmpB]

def c_spec_l2cmp : C := (.g (.o 0 2 (.box 2 (.t 0)) (.o 1 3 (.box 3 (.t 1)) (.o 2 4 (.mov (.i 0)) .done))) (.seq (.g (.o 0 5 (.mov (.i 1)) .done) (.block 0 (.loop (.seq (.g (.o 0 7 (.mov (.t 5)) (.o 1 8 (.fad (.t 2) 0) (.o 2 9 (.load none (.t 8)) (.o 3 10 (.len (.t 9)) (.o 4 11 (.bin .leq (.t 7) (.t 10)) (.o 5 12 (.mov (.t 11)) (.op 6 [] (some 13) (some (12, true)) false (.mov (.t 5)) (.op 7 [] (some 14) (some (12, true)) false (.fad (.t 3) 0) (.op 8 [] (some 15) (some (12, true)) false (.load none (.t 14)) (.op 9 [] (some 16) (some (12, true)) false (.len (.t 15)) (.op 10 [] (some 17) (some (12, true)) false (.bin .leq (.t 13) (.t 16)) (.o 11 18 (.pick (.t 12) (.t 17) (.v (.bool false))) .done)))))))))))) (.cond (.t 18) .skip (.exit 0))) (.seq (.block 1 (.seq (.reg true (.op 0 [] (some 21) none true (.fad (.t 2) 0) (.op 1 [] (some 22) none true (.load none (.t 21)) (.op 2 [] (some 23) none true (.fad (.t 2) 0) (.op 3 [] (some 24) none true (.load none (.t 23)) (.op 4 [] (some 25) none true (.len (.t 24)) (.op 5 [] (some 26) none true (.mov (.t 5)) (.op 6 [] (some 27) none true (.bin .sub (.t 25) (.t 26)) (.op 7 [] (some 28) none true (.iad 1 (.t 22) (.t 27)) (.op 8 [] (some 29) none true (.load none (.t 28)) (.op 9 [] (some 30) none true (.fad (.t 3) 0) (.op 10 [] (some 31) none true (.load none (.t 30)) (.op 11 [] (some 32) none true (.fad (.t 3) 0) (.op 12 [] (some 33) none true (.load none (.t 32)) (.op 13 [] (some 34) none true (.len (.t 33)) (.op 14 [] (some 35) none true (.mov (.t 5)) (.op 15 [] (some 36) none true (.bin .sub (.t 34) (.t 35)) (.op 16 [] (some 37) none true (.iad 1 (.t 31) (.t 36)) (.op 17 [] (some 38) none true (.load none (.t 37)) (.op 18 [8, 1, 3, 17, 10, 12] (some 39) none false (.call 39 166 [(.t 29), (.t 38)]) (.op 19 [] (some 6) none true (.mov (.t 39)) .done))))))))))))))))))))) (.g (.o 0 40 (.mov (.t 6)) (.o 1 41 (.bin .neq (.t 40) (.i 0)) .done)) (.cond (.t 41) (.g (.o 0 42 (.mov (.t 6)) (.o 1 4 (.mov (.t 42)) .done)) .ret) .skip)))) (.reg false (.o 0 19 (.mov (.t 5)) (.o 1 20 (.bin .add (.t 19) (.i 1)) (.o 2 5 (.mov (.t 20)) .done))))))))) (.seq (.g (.o 0 43 (.fad (.t 2) 0) (.o 1 44 (.load none (.t 43)) (.o 2 45 (.len (.t 44)) (.o 3 46 (.fad (.t 3) 0) (.o 4 47 (.load none (.t 46)) (.o 5 48 (.len (.t 47)) (.o 6 49 (.bin .neq (.t 45) (.t 48)) .done))))))) (.cond (.t 49) (.seq (.g (.o 0 50 (.fad (.t 2) 0) (.o 1 51 (.load none (.t 50)) (.o 2 52 (.len (.t 51)) (.o 3 53 (.fad (.t 3) 0) (.o 4 54 (.load none (.t 53)) (.o 5 55 (.len (.t 54)) (.o 6 56 (.bin .lss (.t 52) (.t 55)) .done))))))) (.cond (.t 56) (.g (.o 0 4 (.mov (.i (-1))) .done) .ret) .skip)) (.g (.o 0 4 (.mov (.i 1)) .done) .ret)) .skip)) (.g (.o 0 4 (.mov (.i 0)) .done) .ret))))
theorem dg_spec_l2cmp : Tryz.f77.body.bind (digC Tryz.prog Tryz.f77.ntmps []) = some c_spec_l2cmp := by kernel_rfl
theorem rs_spec_l2cmp : resSlots Tryz.prog Tryz.f77 = some [.s 4] := by kernel_rfl
theorem ok_spec_l2cmp (a b : List (List UInt8)) (ha : a.length ≤ 4194304) (hb : b.length ≤ 4194304) :
    FnOK Tryz.prog 77 [.agg [.d (encBB a)], .agg [.d (encBB b)]] (fun ra _ => ra = [.one (.d (.sc (.int .i64 (cmpN a b))))]) := by
  refine FnOK.ofK Tryz.func77 (by kernel_rfl) dg_spec_l2cmp rs_spec_l2cmp rfl rfl ?_
  delta c_spec_l2cmp T.o X.i C.g
  refine Kbc (kBox Y Y Y Y Y (kBox Y Y Y Y Y (Ka Y (Kdb (Kbc (Ka Y (Kd (Kt ?_))))))))
  refine kLoop (α := { k : Nat // k ≤ a.length ∧ k ≤ b.length ∧ cmpN a b = cmpL (a.reverse.drop k) (b.reverse.drop k) })
    (fun y => ⟨tabSl [(2, .c (.ptr (rid 2 0) 1 0)), (3, .c (.ptr (rid 3 0) 1 0)), (5, .i (y.1 + 1))], obTab 1 [(rid 2 0, ⟨1, 0, .box [.d (encBB a)]⟩), (rid 3 0, ⟨1, 0, .box [.d (encBB b)]⟩)], []⟩) (fun y => a.length - y.1) ⟨0, by simp [cmpN]⟩
    .normA ?_
  rintro ⟨k, h1, h2, h3⟩
  simp only
  rcases Nat.lt_or_ge k a.length with hla | hga
  · rcases Nat.lt_or_ge k b.length with hlb | hgb
    · have hst := cmpL_step a b k hla hlb (a.length - (k + 1) : Int).toNat (b.length - (k + 1) : Int).toNat (by omega) (by omega)
      refine Kb (Kbc (Ka Y (Kf Y Y (Ke Y Y Y (Kq Y Y (Kj Y Y Y (Ka Y (kGP Y (fun g0 => Ki Y (Ka Y (Ki Y (Kf Y Y (Ki Y (Ke Y Y Y (Ki Y (Kq Y Y (Ki Y (Kj Y Y Y (Kk Y (Ka Y (Kd (Km Y (fun g1 => Kn (Kb (Kt (Kb (kRegD (Kf Y Y (Ke Y Y Y (Kf Y Y (Ke Y Y Y (Kq Y Y (Ka Y (kDif Y Y om (kIadT Y Y om (Ky Y Y (Kf Y Y (Ke Y Y Y (Kf Y Y (Ke Y Y Y (Kq Y Y (Ka Y (kDif Y Y om (kIadT Y Y om (Ky Y Y (Ks Y Y (Kp (ok_spec_l2bytes _ _) ⟨Y, Y, trivial⟩ Y Y Y Y Y (Ka Y (Kd (kH (Kbc (Ka Y (Kj Y Y Y (Kd (kCondIN Y (fun g2 => Kbc (Ka Y (Ka Y (Kd (Kr (Er (ra := [.one (.d _)]) rfl ?_)))))) (fun g2 => Kn (Kv (Kc (Ka Y (kAdd Y Y om (Ka Y (Kd ?_)))))))))))))))))))))))))))))))))))))))) (fun g1 => om))))))))))))))) (fun g0 => om)))))))))
      · rw [h3, hst, if_neg (by assumption)]
      · refine kInv ⟨⟨k + 1, hla, hlb, ?_⟩, by simp only; omega, .normA⟩
        rw [h3, hst, if_pos (by assumption)]
    · rw [cmpL_end a b k h1 h2 (by omega)] at h3
      refine Kb (Kbc (Ka Y (Kf Y Y (Ke Y Y Y (Kq Y Y (Kj Y Y Y (Ka Y (kGP Y (fun g0 => Ki Y (Ka Y (Ki Y (Kf Y Y (Ki Y (Ke Y Y Y (Ki Y (Kq Y Y (Ki Y (Kj Y Y Y (Kk Y (Ka Y (Kd (Km Y (fun g1 => om) (fun g1 => kExit (kExC (kExI (kExB (Kb (Kbc (Kf Y Y (Ke Y Y Y (Kq Y Y (Kf Y Y (Ke Y Y Y (Kq Y Y (Kj Y Y Y (Kd (kCondIN Y (fun g2 => Kb (Kbc (Kf Y Y (Ke Y Y Y (Kq Y Y (Kf Y Y (Ke Y Y Y (Kq Y Y (Kj Y Y Y (Kd (Km Y (fun g3 => om) (fun g3 => Kn (Kbc (Ka Y (Kd (Kr (Er (ra := [.one (.d _)]) rfl ?_))))))))))))))))) (fun g2 => om)))))))))))))))))))))))))))))) (fun g0 => om)))))))))
      all_goals (rw [h3]; first | (rw [if_pos (by omega)]; done) | (rw [if_neg (by omega), if_pos (by omega)]; done) | rw [if_neg (by omega), if_neg (by omega)])
  · rw [cmpL_end a b k h1 h2 (by omega)] at h3
    refine Kb (Kbc (Ka Y (Kf Y Y (Ke Y Y Y (Kq Y Y (Kj Y Y Y (Ka Y (kGP Y (fun g0 => om) (fun g0 => Kg Y (Kg Y (Kg Y (Kg Y (Kg Y (Kl Y (Ka Y (Kd (kCondF Y (kExit (kExC (kExI (kExB (Kb (Kbc (Kf Y Y (Ke Y Y Y (Kq Y Y (Kf Y Y (Ke Y Y Y (Kq Y Y (Kj Y Y Y (Kd (kCondIN Y (fun g1 => Kb (Kbc (Kf Y Y (Ke Y Y Y (Kq Y Y (Kf Y Y (Ke Y Y Y (Kq Y Y (Kj Y Y Y (Kd (Km Y (fun g2 => Kbc (Ka Y (Kd (Kr (Er (ra := [.one (.d _)]) rfl ?_))))) (fun g2 => om)))))))))))) (fun g1 => Kn (Kbc (Ka Y (Kd (Kr (Er (ra := [.one (.d _)]) rfl ?_))))))))))))))))))))))))))))))))))))))
    all_goals (rw [h3]; first | (rw [if_pos (by omega)]; done) | (rw [if_neg (by omega), if_pos (by omega)]; done) | rw [if_neg (by omega), if_neg (by omega)])

def c_spec_l10find : C := (.g (.o 0 3 (.box 3 (.t 0)) (.o 1 4 (.box 4 (.t 1)) (.o 2 6 (.mov (.i 0)) .done))) (.seq (.g (.o 0 7 (.mov (.i 0)) .done) (.block 0 (.loop (.seq (.g (.o 0 8 (.mov (.t 7)) (.o 1 9 (.fad (.t 3) 2) (.o 2 10 (.load none (.t 9)) (.o 3 11 (.len (.t 10)) (.o 4 12 (.bin .lss (.t 8) (.t 11)) .done))))) (.cond (.t 12) .skip (.exit 0))) (.seq (.block 1 (.seq (.reg true (.op 0 [] (some 15) none true (.fad (.t 3) 2) (.op 1 [] (some 16) none true (.load none (.t 15)) (.op 2 [] (some 17) none true (.mov (.t 7)) (.op 3 [] (some 18) none true (.iad 7 (.t 16) (.t 17)) (.op 4 [] (some 19) none true (.fad (.t 18) 0) (.op 5 [] (some 20) none true (.load (some 1) (.t 19)) (.op 6 [] (some 21) none true (.load (some 1) (.t 4)) (.op 7 [5, 1, 6] (some 22) none false (.call 22 77 [(.t 20), (.t 21)]) (.op 8 [] (some 23) none true (.bin .eql (.t 22) (.i 0)) (.op 9 [] (some 24) none true (.mov (.t 23)) (.op 10 [] (some 25) (some (24, true)) true (.fad (.t 3) 2) (.op 11 [] (some 26) (some (24, true)) true (.load none (.t 25)) (.op 12 [] (some 27) (some (24, true)) true (.mov (.t 7)) (.op 13 [] (some 28) (some (24, true)) true (.iad 7 (.t 26) (.t 27)) (.op 14 [] (some 29) (some (24, true)) true (.fad (.t 28) 1) (.op 15 [] (some 30) (some (24, true)) true (.load none (.t 29)) (.op 16 [] (some 31) (some (24, true)) true (.mov (.t 2)) (.op 17 [] (some 32) (some (24, true)) true (.bin .eql (.t 30) (.t 31)) (.op 18 [] (some 33) none true (.pick (.t 24) (.t 32) (.v (.bool false))) .done)))))))))))))))))))) (.cond (.t 33) (.g (.o 0 34 (.mov (.t 7)) (.o 1 6 (.mov (.t 34)) .done)) .ret) .skip))) (.reg false (.o 0 13 (.mov (.t 7)) (.o 1 14 (.bin .add (.t 13) (.i 1)) (.o 2 7 (.mov (.t 14)) .done))))))))) (.g (.o 0 6 (.mov (.i (-1))) .done) .ret)))
theorem dg_spec_l10find : Tryz.f177.body.bind (digC Tryz.prog Tryz.f177.ntmps []) = some c_spec_l10find := by kernel_rfl
theorem rs_spec_l10find : resSlots Tryz.prog Tryz.f177 = some [.s 6] := by kernel_rfl
theorem ok_spec_l10find (c : Cache) (n : List (List UInt8)) (t : Int) (hs : SmallSs c.slots) (hn : n.length ≤ 4194304) :
    FnOK Tryz.prog 177 [.agg (c.cells.map .d), .agg [.d (encBB n)], .one (.d (.sc (.int .i64 t)))] (fun ra _ => ra = [.one (.d (.sc (.int .i64 (findS c.slots n t))))]) := by
  refine FnOK.ofK Tryz.func177 (by kernel_rfl) dg_spec_l10find rs_spec_l10find rfl rfl ?_
  delta c_spec_l10find T.o X.i C.g
  have hl := hs.len
  refine Kbc (kBox Y Y Y Y Y (kBox Y Y Y Y Y (Ka Y (Kdb (Kbc (Ka Y (Kd (Kt ?_))))))))
  refine kLoop (α := { i : Nat // i ≤ c.slots.length ∧ ∀ x ∈ c.slots.take i, (decide (x.name = n) && x.ty == t) = false }) (fun y => ⟨tabSl [(2, .i t), (3, .c (.ptr (rid 3 0) 1 0)), (4, .c (.ptr (rid 4 0) 1 0)), (7, .i y.1)], obTab 1 [(rid 3 0, ⟨1, 0, .box (c.cells.map .d)⟩), (rid 4 0, ⟨1, 0, .box [.d (encBB n)]⟩)], []⟩) (fun y => c.slots.length - y.1) ⟨0, by simp⟩ .normA ?_
  rintro ⟨i, hi, hno⟩
  simp only
  rcases Nat.lt_or_ge i c.slots.length with hlt | hge
  · have hm := hs.mem _ (List.getElem_mem hlt)
    have hml := hm.n.len
    have step : (decide (c.slots[i].name = n) && c.slots[i].ty == t) = false → ∀ x ∈ c.slots.take (i + 1), (decide (x.name = n) && x.ty == t) = false := fun h x hx => by
      rw [← List.take_append_getElem hlt, List.mem_append] at hx
      rcases hx with hx | hx
      · exact hno x hx
      · simp only [List.mem_singleton] at hx; rw [hx]; exact h
    refine Kb (Kbc (Ka Y (Kf Y Y (Ke Y Y Y (Kq Y Y (Kj Y Y Y (Kd (Km Y (fun g0 => Kn (Kb (Kt (Kb (kRegD (Kf Y Y (Ke Y Y Y (Ka Y (kIadR Y Y Y prl (kFadD Y (kMem [(20480, ⟨1, 0, .box [.d _]⟩), (16384, ⟨1, 0, .box [.d _, .d _, .d _]⟩)] [(4, .c (.ptr 20480 1 0)), (3, .c (.ptr 16384 1 0)), (7, .c (.d _)), (2, .c (.d _))] [16384] ⟨Y, Y, trivial⟩ ⟨Y, Y, Y, Y, trivial⟩ Y (Ky Y Y (Ke Y Y Y (Ks Y Y (Kp (ok_spec_l2cmp _ _ prx prx) ⟨⟨⟨Y, trivial⟩, leb⟩, ⟨⟨Y, trivial⟩, leb⟩, trivial⟩ Y Y Y Y Y (Kj Y Y Y (Ka Y (kGP Y (fun g1 => Ki Y (Kf Y Y (Ki Y (Ke Y Y Y (Ki Y (Ka Y (Ki Y (kIadR Y Y Y prl (Ki Y (kFadD Y (Ki Y (Ky Y Y (Ki Y (Ka Y (Ki Y (Kj Y Y Y (Kk Y (Ka Y (Kd (kH (Km Y (fun g2 => Kbc (Ka Y (Ka Y (Kd (Kr (Er (ra := [.one (.d _)]) rfl ?_)))))) (fun g2 => Kn (Kv (Kc (Ka Y (kAdd Y Y om (Ka Y (Kd ?_)))))))))))))))))))))))))))) (fun g1 => Kg Y (Kg Y (Kg Y (Kg Y (Kg Y (Kg Y (Kg Y (Kg Y (Kl Y (Ka Y (Kd (kH (kCondF Y (Kn (Kv (Kc (Ka Y (kAdd Y Y om (Ka Y (Kd ?_)))))))))))))))))))))))))))))))))))))) (fun g0 => om)))))))))
    · have hnm : c.slots[i].name = n := cmpN_z.1 (by assumption)
      have e : findS c.slots n t = i := idx_first hlt hno (by simp [*])
      rw [e]
    · exact kInv ⟨⟨i + 1, by omega, step (by simp [*])⟩, by simp only; omega, .normA⟩
    · exact kInv ⟨⟨i + 1, by omega, step (by rw [decide_eq_false (fun h : c.slots[i].name = n => absurd (cmpN_z.2 h) (by assumption))]; rfl)⟩, by simp only; omega, .normA⟩
  · have e : findS c.slots n t = -1 := idx_none fun x hx => hno x (by rw [List.take_of_length_le hge]; exact hx)
    refine Kb (Kbc (Ka Y (Kf Y Y (Ke Y Y Y (Kq Y Y (Kj Y Y Y (Kd (Km Y (fun g0 => om) (fun g0 => kExit (kExC (kExI (kExB (Kbc (Ka Y (Kd (Kr (Er (ra := [.one (.d _)]) rfl ?_)))))))))))))))))
    rw [e]

def c_spec_l10ahead : C := (.g (.o 0 2 (.box 2 (.t 0)) (.o 1 3 (.box 3 (.t 1)) (.o 2 4 (.mov (.v (.bool false))) .done))) (.g (.o 0 6 (.fad (.t 2) 0) (.o 1 7 (.load (some 1) (.t 6)) (.o 2 8 (.fad (.t 3) 0) (.o 3 9 (.load (some 1) (.t 8)) (.o 4 10 (.call 10 77 [(.t 7), (.t 9)]) (.o 5 5 (.mov (.t 10)) .done)))))) (.g (.o 0 11 (.mov (.t 5)) (.o 1 12 (.bin .lss (.t 11) (.i 0)) (.o 2 13 (.mov (.t 12)) (.op 3 [] (some 14) (some (13, false)) false (.mov (.t 5)) (.op 4 [] (some 15) (some (13, false)) false (.bin .eql (.t 14) (.i 0)) (.op 5 [] (some 16) (some (13, false)) false (.mov (.t 15)) (.op 6 [] (some 17) (some (16, true)) false (.fad (.t 2) 1) (.op 7 [] (some 18) (some (16, true)) false (.load none (.t 17)) (.op 8 [] (some 19) (some (16, true)) false (.fad (.t 3) 1) (.op 9 [] (some 20) (some (16, true)) false (.load none (.t 19)) (.op 10 [] (some 21) (some (16, true)) false (.bin .lss (.t 18) (.t 20)) (.op 11 [] (some 22) (some (13, false)) false (.pick (.t 16) (.t 21) (.v (.bool false))) (.o 12 23 (.pick (.t 13) (.v (.bool true)) (.t 22)) (.o 13 4 (.mov (.t 23)) .done)))))))))))))) .ret)))
theorem dg_spec_l10ahead : Tryz.f145.body.bind (digC Tryz.prog Tryz.f145.ntmps []) = some c_spec_l10ahead := by kernel_rfl
theorem rs_spec_l10ahead : resSlots Tryz.prog Tryz.f145 = some [.s 4] := by kernel_rfl
theorem ok_spec_l10ahead (a b : Slot) (ha : SmallS a) (hb : SmallS b) :
    FnOK Tryz.prog 145 [.agg (a.cells.map .d), .agg (b.cells.map .d)] (fun ra _ => ra = [.one (.d (.sc (.bool (decide (cmpS a b < 0)))))]) := by
  refine FnOK.ofK Tryz.func145 (by kernel_rfl) dg_spec_l10ahead rs_spec_l10ahead rfl rfl ?_
  delta c_spec_l10ahead T.o X.i C.g
  have n1 := ha.n.len
  have n2 := ha.n.mem
  have m1 := hb.n.len
  have m2 := hb.n.mem
  refine Kbc (kBox Y Y Y Y Y (kBox Y Y Y Y Y (Ka Y (Kdb (Kc (Kf Y Y (Ke Y Y Y (Kf Y Y (Ke Y Y Y (Kp (ok_spec_l2cmp _ _ prx prx) ⟨⟨⟨Y, trivial⟩, leb⟩, ⟨⟨Y, trivial⟩, leb⟩, trivial⟩ Y Y Y Y Y (Ka Y (Kdb (Kc (kMem [(12288, ⟨1, 0, .box [.d _, .d _, .d _, .d _, .d _, .d _, .d _]⟩), (16384, ⟨1, 0, .box [.d _, .d _, .d _, .d _, .d _, .d _, .d _]⟩)] [(5, .c (.d _)), (11, .c (.un)), (12, .c (.un)), (14, .c (.un)), (15, .c (.un)), (2, .c (.ptr 12288 1 0)), (17, .c (.un)), (3, .c (.ptr 16384 1 0)), (19, .c (.un)), (18, .c (.un)), (20, .c (.un)), (16, .c (.un)), (21, .c (.un)), (13, .c (.un)), (22, .c (.un)), (23, .c (.un))] [] ⟨Y, Y, trivial⟩ ⟨Y, Y, Y, Y, Y, Y, Y, Y, Y, Y, Y, Y, Y, Y, Y, Y, trivial⟩ Y (Ka Y (Kj Y Y Y (Ka Y (kGP Y (fun g0 => Kg Y (Kg Y (Kg Y (kGU Y (kGU Y (kGU Y (kGU Y (kGU Y (Kg Y (Kk Y (Ka Y (Ka Y (Kd (Kr (Er (ra := [.one (.d _)]) rfl ?_))))))))))))))) (fun g0 => Ki Y (Ka Y (Ki Y (Kj Y Y Y (Ki Y (Ka Y (kGP Y (fun g1 => Ki Y (Kf Y Y (Ki Y (Ke Y Y Y (Ki Y (Kf Y Y (kMem [(16384, ⟨1, 0, .box [.d _, .d _, .d _, .d _, .d _, .d _, .d _]⟩)] [(19, .c (.ptr 16384 1 1)), (18, .c (.d _)), (20, .c (.un)), (16, .c (.d _)), (21, .c (.un)), (13, .c (.d _)), (22, .c (.un)), (23, .c (.un))] [] ⟨Y, trivial⟩ ⟨Y, Y, Y, Y, Y, Y, Y, Y, trivial⟩ Y (Ki Y (Ke Y Y Y (Ki Y (Kj Y Y Y (Ki Y (Kk Y (Ka Y (Kl Y (Ka Y (Ka Y (Kd (Kr (Er (ra := [.one (.d _)]) rfl ?_)))))))))))))))))))) (fun g1 => Kg Y (Kg Y (Kg Y (Kg Y (Kg Y (Ki Y (Kl Y (Ka Y (Kl Y (Ka Y (Ka Y (Kd (Kr (Er (ra := [.one (.d _)]) rfl ?_)))))))))))))))))))))))))))))))))))))))
  all_goals (refine congrArg (fun z : Bool => [RA.one (RV.d (DV.sc (Value.bool z)))]) ?_; clear n1 n2 m1 m2 ha hb; unfold cmpS cmpI; first | (simp [*]; done) | (simp [*]; omega) | (split <;> simp_all <;> omega))

def c_spec_l10without : C := (.g (.o 0 4 (.mov (.n 7)) .done) (.seq (.reg true (.op 1 [] (some 6) none true (.mov (.t 0)) (.op 2 [] (some 7) none true (.mov (.t 1)) (.op 3 [] (some 8) none true (.cut 7 (.t 6) none (some (.t 7))) (.op 5 [] (some 10) none true (.mov (.t 0)) (.op 6 [] (some 11) none true (.mov (.t 1)) (.op 7 [] (some 12) none true (.bin .add (.t 11) (.i 1)) (.op 8 [] (some 13) none true (.cut 7 (.t 10) (some (.t 12)) none) (.o 0 5 (.lit 5 7 [(.n 1), (.i 0), (.i 0), (.n 7), (.i 0), (.i 0), (.i 0)] 0 []) (.o 4 9 (.app 9 7 88 (.t 5) (.t 8)) (.o 9 14 (.app 14 7 88 (.t 9) (.t 13)) (.op 10 [] (some 4) none true (.mov (.t 14)) .done)))))))))))) .ret))
theorem dg_spec_l10without : Tryz.f347.body.bind (digC Tryz.prog Tryz.f347.ntmps []) = some c_spec_l10without := by kernel_rfl
theorem rs_spec_l10without : resSlots Tryz.prog Tryz.f347 = some [.s 4] := by kernel_rfl
theorem ok_spec_l10without (l : List Slot) (i : Nat) (hi : i < l.length) (hl : l.length ≤ 100000) :
    FnOK Tryz.prog 347 [.one (.d (encS l)), .one (.d (.sc (.int .i64 i)))] (fun ra _ => ra = [.one (.own false (encS (l.eraseIdx i)))]) := by
  refine FnOK.ofK Tryz.func347 (by kernel_rfl) dg_spec_l10without rs_spec_l10without rfl rfl ?_
  delta c_spec_l10without T.o X.i C.g
  rw [erase_eq]
  have hl1 : (l.take i).length = i := by simp; omega
  have hl2 : (l.drop (i + 1)).length = l.length - (i + 1) := by simp
  refine Kbc (Ka Y (Kdb (kRegD (Ka Y (Ka Y (kCutH Y Y Y om (Ka Y (Ka Y (kAdd Y Y om (kCutL Y Y Y om (kLitG Y Y Y Y (kAppN Y Y Y Y Y Y Y Y prl (kMem [(24576, ⟨2, 0, .arr _ _⟩)] [(9, .c (.arr 24576 2)), (13, .c (.d _)), (14, .c (.un))] [] ⟨Y, trivial⟩ ⟨Y, Y, Y, trivial⟩ Y ?_)))))))))))))
  refine kAppR (f := Slot.cells) (l := l.take i) (l' := l.drop (i + 1)) rfl rfl rfl rfl rfl rfl rfl rfl (by rw [hl1, hl2]; omega) ?_
  refine Ka Y (Kd (Kr ?_))
  exact endRet (ra := [.one (.own false _)]) rfl ⟨⟨⟨⟨_, rfl, fun h => absurd h (by decide)⟩, .inl (Nat.zero_lt_succ _)⟩, trivial⟩, nodupB_sound rfl, trivial, trivial, trivial⟩ rfl

theorem mem_erase {l : List Slot} {i : Nat} {x : Slot} (h : x ∈ l.eraseIdx i) : x ∈ l := List.mem_of_mem_eraseIdx h
def usedS (s : Slot) (n : Int) : Slot := { s with used := n }
def c_spec_l10keep : C := (.g (.o 0 3 (.box 3 (.t 1)) .done) (.seq (.reg true (.op 0 [] (some 9) none true (.mov (.t 0)) (.op 1 [] (some 10) none true (.nck (.t 9)) (.op 2 [] (some 11) none true (.load (some 3) (.t 10)) (.op 3 [] (some 12) none true (.fad (.t 3) 0) (.op 4 [] (some 13) none true (.load (some 1) (.t 12)) (.op 5 [] (some 14) none true (.fad (.t 3) 1) (.op 6 [] (some 15) none true (.load none (.t 14)) (.op 7 [2, 4, 6] (some 16) none false (.call 16 177 [(.t 11), (.t 13), (.t 15)]) (.op 8 [] (some 4) none true (.mov (.t 16)) .done)))))))))) (.seq (.g (.o 0 17 (.mov (.t 4)) (.o 1 18 (.bin .geq (.t 17) (.i 0)) .done)) (.cond (.t 18) (.reg false (.o 0 19 (.mov (.t 0)) (.o 1 20 (.mov (.t 0)) (.o 2 21 (.nck (.t 20)) (.o 3 22 (.fad (.t 21) 2) (.o 4 23 (.load none (.t 22)) (.o 5 24 (.mov (.t 4)) (.o 6 25 (.call 25 347 [(.t 23), (.t 24)]) (.o 7 26 (.nck (.t 19)) (.o 8 27 (.fad (.t 26) 2) (.op 9 [] none none false (.store none (.t 27) (.t 25)) .done))))))))))) .skip)) (.seq (.g (.o 0 28 (.mov (.t 0)) (.o 1 29 (.nck (.t 28)) (.o 2 30 (.fad (.t 29) 2) (.o 3 31 (.load none (.t 30)) (.o 4 32 (.len (.t 31)) (.o 5 33 (.bin .geq (.t 32) (.i 8)) .done)))))) (.cond (.t 33) (.g (.o 0 5 (.mov (.i 0)) .done) (.seq (.g (.o 0 6 (.mov (.i 1)) .done) (.block 0 (.loop (.seq (.g (.o 0 34 (.mov (.t 6)) (.o 1 35 (.mov (.t 0)) (.o 2 36 (.nck (.t 35)) (.o 3 37 (.fad (.t 36) 2) (.o 4 38 (.load none (.t 37)) (.o 5 39 (.len (.t 38)) (.o 6 40 (.bin .lss (.t 34) (.t 39)) .done))))))) (.cond (.t 40) .skip (.exit 0))) (.seq (.block 1 (.seq (.reg true (.op 0 [] (some 43) none true (.mov (.t 0)) (.op 1 [] (some 44) none true (.nck (.t 43)) (.op 2 [] (some 45) none true (.fad (.t 44) 2) (.op 3 [] (some 46) none true (.load none (.t 45)) (.op 4 [] (some 47) none true (.mov (.t 6)) (.op 5 [] (some 48) none true (.iad 7 (.t 46) (.t 47)) (.op 6 [] (some 49) none true (.fad (.t 48) 6) (.op 7 [] (some 50) none true (.load none (.t 49)) (.op 8 [] (some 51) none true (.mov (.t 0)) (.op 9 [] (some 52) none true (.nck (.t 51)) (.op 10 [] (some 53) none true (.fad (.t 52) 2) (.op 11 [] (some 54) none true (.load none (.t 53)) (.op 12 [] (some 55) none true (.mov (.t 5)) (.op 13 [] (some 56) none true (.iad 7 (.t 54) (.t 55)) (.op 14 [] (some 57) none true (.fad (.t 56) 6) (.op 15 [] (some 58) none true (.load none (.t 57)) (.op 16 [] (some 59) none true (.bin .lss (.t 50) (.t 58)) .done)))))))))))))))))) (.cond (.t 59) (.reg false (.o 0 60 (.mov (.t 6)) (.o 1 5 (.mov (.t 60)) .done))) .skip))) (.reg false (.o 0 41 (.mov (.t 6)) (.o 1 42 (.bin .add (.t 41) (.i 1)) (.o 2 6 (.mov (.t 42)) .done))))))))) (.reg false (.o 0 61 (.mov (.t 0)) (.o 1 62 (.mov (.t 0)) (.o 2 63 (.nck (.t 62)) (.o 3 64 (.fad (.t 63) 2) (.o 4 65 (.load none (.t 64)) (.o 5 66 (.mov (.t 5)) (.o 6 67 (.call 67 347 [(.t 65), (.t 66)]) (.o 7 68 (.nck (.t 61)) (.o 8 69 (.fad (.t 68) 2) (.op 9 [] none none false (.store none (.t 69) (.t 67)) .done))))))))))))) .skip)) (.g (.o 0 70 (.mov (.t 0)) (.o 1 71 (.nck (.t 70)) (.o 2 72 (.fad (.t 71) 1) (.o 3 73 (.load none (.t 72)) (.o 4 74 (.bin .add (.t 73) (.i 1)) (.o 5 75 (.nck (.t 70)) (.o 6 76 (.fad (.t 75) 1) (.op 7 [] none none false (.store none (.t 76) (.t 74)) .done)))))))) (.g (.o 0 77 (.mov (.t 0)) (.o 1 78 (.nck (.t 77)) (.o 2 79 (.fad (.t 78) 1) (.o 3 80 (.load none (.t 79)) (.o 4 81 (.fad (.t 3) 6) (.op 5 [] none none false (.store none (.t 81) (.t 80)) .done)))))) (.g (.o 0 7 (.mov (.i 0)) .done) (.seq (.block 2 (.loop (.seq (.seq (.reg true (.op 0 [] (some 82) none true (.mov (.t 7)) (.op 1 [] (some 83) none true (.mov (.t 0)) (.op 2 [] (some 84) none true (.nck (.t 83)) (.op 3 [] (some 85) none true (.fad (.t 84) 2) (.op 4 [] (some 86) none true (.load none (.t 85)) (.op 5 [] (some 87) none true (.len (.t 86)) (.op 6 [] (some 88) none true (.bin .lss (.t 82) (.t 87)) (.op 7 [] (some 89) none true (.mov (.t 88)) (.op 8 [] (some 90) (some (89, true)) true (.mov (.t 0)) (.op 9 [] (some 91) (some (89, true)) true (.nck (.t 90)) (.op 10 [] (some 92) (some (89, true)) true (.fad (.t 91) 2) (.op 11 [] (some 93) (some (89, true)) true (.load none (.t 92)) (.op 12 [] (some 94) (some (89, true)) true (.mov (.t 7)) (.op 13 [] (some 95) (some (89, true)) true (.iad 7 (.t 93) (.t 94)) (.op 14 [] (some 96) (some (89, true)) true (.load (some 7) (.t 95)) (.op 15 [] (some 97) (some (89, true)) true (.load (some 7) (.t 3)) (.op 16 [14, 11, 4, 15] (some 98) (some (89, true)) false (.call 98 145 [(.t 96), (.t 97)]) (.op 17 [] (some 99) none true (.pick (.t 89) (.t 98) (.v (.bool false))) .done))))))))))))))))))) (.cond (.t 99) .skip (.exit 2))) (.block 3 (.reg false (.o 0 100 (.mov (.t 7)) (.o 1 101 (.bin .add (.t 100) (.i 1)) (.o 2 7 (.mov (.t 101)) .done)))))))) (.g (.o 0 8 (.mov (.n 7)) .done) (.g (.o 0 102 (.mov (.t 8)) (.o 1 103 (.mov (.t 0)) (.o 2 104 (.nck (.t 103)) (.o 3 105 (.fad (.t 104) 2) (.o 4 106 (.load none (.t 105)) (.o 5 107 (.mov (.t 7)) (.o 6 108 (.cut 7 (.t 106) none (some (.t 107))) (.o 7 109 (.app 109 7 88 (.t 102) (.t 108)) (.o 8 8 (.mov (.t 109)) .done))))))))) (.g (.o 0 110 (.mov (.t 8)) (.o 1 111 (.load (some 7) (.t 3)) (.o 2 112 (.lit 112 7 [(.n 1), (.i 0), (.i 0), (.n 7), (.i 0), (.i 0), (.i 0)] 1 [(0, 7, (.t 111))]) (.o 3 113 (.app 113 7 88 (.t 110) (.t 112)) (.o 4 8 (.mov (.t 113)) .done))))) (.reg false (.o 0 114 (.mov (.t 0)) (.o 1 115 (.mov (.t 8)) (.o 2 116 (.mov (.t 0)) (.o 3 117 (.nck (.t 116)) (.o 4 118 (.fad (.t 117) 2) (.o 5 119 (.load none (.t 118)) (.o 6 120 (.mov (.t 7)) (.o 7 121 (.cut 7 (.t 119) (some (.t 120)) none) (.o 8 122 (.app 122 7 88 (.t 115) (.t 121)) (.o 9 123 (.nck (.t 114)) (.o 10 124 (.fad (.t 123) 2) (.op 11 [] none none false (.store none (.t 124) (.t 122)) .done))))))))))))))))))))))))
theorem dg_spec_l10keep : Tryz.f334.body.bind (digC Tryz.prog Tryz.f334.ntmps []) = some c_spec_l10keep := by kernel_rfl
theorem rs_spec_l10keep : resSlots Tryz.prog Tryz.f334 = some [] := by kernel_rfl
theorem os_spec_l10keep (c : Cache) (s : Slot) (hs : SmallSs c.slots) (h8 : c.slots.length ≤ 8) (hsm : SmallS s) (hc : 0 ≤ c.turn ∧ c.turn ≤ 1000000) :
    FnOS Tryz.prog 334 [.c (.ptr 0 0 0), .g (s.cells.map .d)] (cacheLo c 0) (fun ra lo => ∃ l : List Slot, (l.length ≤ 8 ∧ ∀ x ∈ l, x ∈ c.slots ∨ x = usedS s (c.turn + 1)) ∧ ra = [] ∧ lo = cacheLo ⟨c.now, c.turn + 1, l⟩ 1) := by
  refine FnOS.ofK Tryz.func334 (by kernel_rfl) dg_spec_l10keep rs_spec_l10keep rfl rfl ?_
  delta c_spec_l10keep T.o X.i C.g
  have hl := hs.len
  have hnl := hsm.n.len
  refine kSub (t := ⟨tabSl [(0, .c (.ptr 0 0 0)), (1, .g (s.cells.map .d))], obTab 1 [(0, ⟨0, 0, .box [.d (.sc (.int .i64 c.now)), .d (.sc (.int .i64 c.turn)), .arr 1 1]⟩), (1, ⟨1, 0, .arr false (encS c.slots)⟩)], []⟩) .normA ?_
  refine kSub (Sub.frzBox 0 1 2 rfl rfl rfl rfl rfl) ?_
  have hstopo18 := trivial
  refine Kbc (kBox Y Y Y Y Y (Kdb (kRegD (Ka Y (kNck Y Y (Ke Y Y Y (Kf Y Y (Ke Y Y Y (Kf Y Y (Ke Y Y Y (Ks Y Y (Kp (ok_spec_l10find _ _ _ prx prx) ⟨⟨⟨Y, Y, Y, trivial⟩, leb⟩, ⟨⟨Y, trivial⟩, leb⟩, rfl, trivial⟩ Y Y Y Y Y (Ka Y (Kd (kH (Kb (Kb ?_)))))))))))))))))
  clear hstopo18
  refine kJoin2 (α := { l : List Slot // l.length ≤ 8 ∧ ∀ x ∈ l, x ∈ c.slots }) (fun y => ⟨tabSl [(0, .c (.ptr 0 0 0)), (3, .c (.ptr (rid 3 0) 1 0))], obTab 1 [(0, ⟨0, 0, .box [.d (.sc (.int .i64 c.now)), .d (.sc (.int .i64 c.turn)), .d (encS y.1)]⟩), (rid 3 0, ⟨1, 0, .box (s.cells.map .d)⟩)], []⟩) ?_ (fun x' hc2 => ?_)
  case refine_2 =>
    rcases findS_cases c.slots s.name s.ty with e | ⟨i, hi, e⟩
    · rw [e]
      refine Kc (Ka Y (Kj Y Y Y (Kd (kCondF Y (Kn ?_)))))
      exact hc2 _ ⟨c.slots, h8, fun x hx => hx⟩ .normA
    · rw [e]
      refine Kc (Ka Y (Kj Y Y Y (Kd (kCondT Y (Kc (Ka Y (Ka Y (kNck Y Y (Kf Y Y (Ke Y Y Y (Ka Y (Ku false (ok_spec_l10without _ _ prx prx) ⟨Y, Y, trivial⟩ Y Y Y (fun _ => (kNck Y Y (kMem [(0, ⟨0, 0, .box [.d _, .d _, .d _]⟩), (106496, ⟨2, 0, .arr false _⟩)] [(26, .c (.ptr 0 0 0)), (25, .c (.arr 106496 2))] [] ⟨Y, Y, trivial⟩ ⟨Y, Y, trivial⟩ Y (Kf Y Y (Ko Y Y Y Y (Kd ?_))))))))))))))))))
      exact hc2 _ ⟨c.slots.eraseIdx i, by rw [List.length_eraseIdx]; split <;> omega, fun x hx => mem_erase hx⟩ ((Sub.frzBox 0 (rid 25 0) 2 rfl rfl rfl rfl rfl).trans .normA)
  rintro ⟨l1, h1, hin⟩
  simp only
  have hstopo33 := trivial
  refine Kb (Kb ?_)
  clear hstopo33
  refine kJoin2 (α := { l : List Slot // l.length ≤ 7 ∧ ∀ x ∈ l, x ∈ c.slots }) (fun y => ⟨tabSl [(0, .c (.ptr 0 0 0)), (3, .c (.ptr (rid 3 0) 1 0))], obTab 1 [(0, ⟨0, 0, .box [.d (.sc (.int .i64 c.now)), .d (.sc (.int .i64 c.turn)), .d (encS y.1)]⟩), (rid 3 0, ⟨1, 0, .box (s.cells.map .d)⟩)], []⟩) ?_ (fun x' hc2 => ?_)
  case refine_2 =>
    refine Kc (Ka Y (kNck Y Y (Kf Y Y (Ke Y Y Y (Kq Y Y (Kj Y Y Y (Kd (Km Y (fun g0 => Kbc (Ka Y (Kdb (Kbc (Ka Y (Kd (Kt ?_))))))) (fun g0 => Kn ?_)))))))))
    · have h8' : l1.length = 8 := by omega
      refine kLoop (α := { y : Nat × Nat // 1 ≤ y.1 ∧ y.1 ≤ 8 ∧ y.2 < 8 }) (fun y => ⟨tabSl [(0, .c (.ptr 0 0 0)), (3, .c (.ptr (rid 3 0) 1 0)), (5, .i y.1.2), (6, .i y.1.1)], obTab 1 [(0, ⟨0, 0, .box [.d (.sc (.int .i64 c.now)), .d (.sc (.int .i64 c.turn)), .d (encS l1)]⟩), (rid 3 0, ⟨1, 0, .box (s.cells.map .d)⟩)], []⟩) (fun y => 8 - y.1.1) ⟨(1, 0), by decide⟩ .normA ?_
      rintro ⟨⟨k, o⟩, hk1, hk2, ho⟩
      simp only at hk1 hk2 ho ⊢
      rcases Nat.lt_or_ge k 8 with hlt | hge
      · have hk3 : k < l1.length := by omega
        have ho3 : o < l1.length := by omega
        refine Kb (Kbc (Ka Y (Ka Y (kNck Y Y (Kf Y Y (Ke Y Y Y (Kq Y Y (Kj Y Y Y (Kd (Km Y (fun g0 => Kn (Kb (Kt (Kb (kRegD (Ka Y (kNck Y Y (Kf Y Y (Ke Y Y Y (kMem [(0, ⟨0, 0, .box [.d _, .d _, .d _]⟩)] [(6, .c (.d _)), (46, .c (.d _)), (0, .c (.ptr 0 0 0)), (5, .c (.d _))] [0] ⟨Y, trivial⟩ ⟨Y, Y, Y, Y, trivial⟩ Y (Ka Y (kIadR Y Y Y prl (kFadD Y (Ky Y Y (Ka Y (kNck Y Y (Kf Y Y (Ke Y Y Y (Ka Y (kIadR Y Y Y prl (kFadD Y (Ky Y Y (Kj Y Y Y (Kd (kH (Km Y (fun g1 => Kc (Ka Y (Ka Y (Kd (Kv (Kc (Ka Y (kAdd Y Y om (Ka Y (Kd ?_)))))))))) (fun g1 => Kn (Kv (Kc (Ka Y (kAdd Y Y om (Ka Y (Kd ?_))))))))))))))))))))))))))))))))) (fun g0 => om)))))))))))
        · exact kInv ⟨⟨(k + 1, k), by simp only; omega⟩, by simp only; omega, .normA⟩
        · exact kInv ⟨⟨(k + 1, o), by simp only; omega⟩, by simp only; omega, .normA⟩
      · have ho3 : o < l1.length := by omega
        refine Kb (Kbc (Ka Y (Ka Y (kNck Y Y (Kf Y Y (Ke Y Y Y (Kq Y Y (Kj Y Y Y (Kd (Km Y (fun g0 => om) (fun g0 => kExit (kExC (kExI (kExB (Kc (Ka Y (Ka Y (kNck Y Y (Kf Y Y (kMem [(0, ⟨0, 0, .box [.d _, .d _, .d _]⟩)] [(64, .c (.ptr 0 0 2)), (5, .c (.d _)), (61, .c (.ptr 0 0 0))] [] ⟨Y, trivial⟩ ⟨Y, Y, Y, trivial⟩ Y (Ke Y Y Y (Ka Y (Ku false (ok_spec_l10without _ _ prx prx) ⟨Y, Y, trivial⟩ Y Y Y (fun _ => (kNck Y Y (Kf Y Y (Ko Y Y Y Y (Kd ?_))))))))))))))))))))))))))))
        exact hc2 _ ⟨l1.eraseIdx o, by rw [List.length_eraseIdx]; split <;> omega, fun x hx => hin _ (mem_erase hx)⟩ ((Sub.frzBox 0 (rid 67 0) 2 rfl rfl rfl rfl rfl).trans .normA)
    · exact hc2 _ ⟨l1, by omega, hin⟩ .normA
  rintro ⟨l2, h2, hin2⟩
  simp only
  clear hin h1 l1
  have hsm2 : SmallS (usedS s (c.turn + 1)) := ⟨hsm.n, hsm.r⟩
  refine Kbc (Ka Y (kNck Y Y (Kf Y Y (Ke Y Y Y (kAdd Y Y om (kNck Y Y (Kf Y Y (Ko Y Y Y Y (Kdb (Kc (Ka Y (kNck Y Y (kMem [(0, ⟨0, 0, .box [.d _, .d _, .d _]⟩), (16384, ⟨1, 0, .box [.d _, .d _, .d _, .d _, .d _, .d _, .d _]⟩)] [(78, .c (.ptr 0 0 0)), (3, .c (.ptr 16384 1 0))] [] ⟨Y, Y, trivial⟩ ⟨Y, Y, trivial⟩ Y (Kf Y Y (Ke Y Y Y (Kf Y Y (Ko Y Y Y Y (Kdb (Kc (Ka Y (Kdb (Kt ?_))))))))))))))))))))))
  refine kJoinB (α := { k : Nat // k ≤ l2.length }) (fun y => ⟨tabSl [(0, .c (.ptr 0 0 0)), (3, .c (.ptr (rid 3 0) 1 0)), (7, .i y.1)], obTab 1 [(0, ⟨0, 0, .box [.d (.sc (.int .i64 c.now)), .d (.sc (.int .i64 (c.turn + 1))), .d (encS l2)]⟩), (rid 3 0, ⟨1, 0, .box ((usedS s (c.turn + 1)).cells.map .d)⟩)], []⟩) ?_ (fun x' hc2 => ?_)
  case refine_2 =>
    refine kLoop (α := { k : Nat // k ≤ l2.length }) (fun y => ⟨tabSl [(0, .c (.ptr 0 0 0)), (3, .c (.ptr (rid 3 0) 1 0)), (7, .i y.1)], obTab 1 [(0, ⟨0, 0, .box [.d (.sc (.int .i64 c.now)), .d (.sc (.int .i64 (c.turn + 1))), .d (encS l2)]⟩), (rid 3 0, ⟨1, 0, .box ((usedS s (c.turn + 1)).cells.map .d)⟩)], []⟩) (fun y => l2.length - y.1) ⟨0, Nat.zero_le _⟩ .normA ?_
    rintro ⟨k, hk⟩
    simp only
    rcases Nat.lt_or_ge k l2.length with hlt | hge
    · have hm := hs.mem _ (hin2 _ (List.getElem_mem hlt))
      refine Kb (Kb (kRegD (Ka Y (Ka Y (kNck Y Y (Kf Y Y (Ke Y Y Y (Kq Y Y (Kj Y Y Y (Ka Y (kGP Y (fun g0 => Ki Y (Ka Y (Ki Y (kNck Y Y (kMem [(0, ⟨0, 0, .box [.d _, .d _, .d _]⟩), (16384, ⟨1, 0, .box [.d _, .d _, .d _, .d _, .d _, .d _, .d _]⟩)] [(91, .c (.ptr 0 0 0)), (7, .c (.d _)), (3, .c (.ptr 16384 1 0)), (89, .c (.d _))] [0] ⟨Y, Y, trivial⟩ ⟨Y, Y, Y, Y, trivial⟩ Y (Ki Y (Kf Y Y (Ki Y (Ke Y Y Y (Ki Y (Ka Y (Ki Y (kIadR Y Y Y prl (Ki Y (Ky Y Y (Ki Y (Ke Y Y Y (Ks Y Y (Ki Y (Kp (ok_spec_l10ahead _ _ prx prx) ⟨⟨⟨Y, Y, Y, Y, Y, Y, Y, trivial⟩, leb⟩, ⟨⟨Y, Y, Y, Y, Y, Y, Y, trivial⟩, leb⟩, trivial⟩ Y Y Y Y Y (Kk Y (Ka Y (Kd (kH (Km Y (fun g1 => Kn (Kt (Kc (Ka Y (kAdd Y Y om (Ka Y (Kd (Kv ?_)))))))) (fun g1 => kExit (kExC (kExI (kExB ?_))))))))))))))))))))))))))))) (fun g0 => om))))))))))))
      · exact kInv ⟨⟨k + 1, by omega⟩, by simp only; omega, .normA⟩
      · exact hc2 _ ⟨k, hk⟩ .normA
    · refine Kb (Kb (kRegD (Ka Y (Ka Y (kNck Y Y (Kf Y Y (Ke Y Y Y (Kq Y Y (Kj Y Y Y (Ka Y (kGP Y (fun g0 => om) (fun g0 => Kg Y (Kg Y (kMem [(16384, ⟨1, 0, .box [.d _, .d _, .d _, .d _, .d _, .d _, .d _]⟩)] [(91, .c (.un)), (7, .c (.d _)), (3, .c (.ptr 16384 1 0)), (89, .c (.d _))] [0] ⟨Y, trivial⟩ ⟨Y, Y, Y, Y, trivial⟩ Y (Kg Y (Kg Y (Kg Y (Kg Y (Kg Y (Kg Y (Ks Y Y (Kg Y (Kl Y (Ka Y (Kd (kH (kCondF Y (kExit (kExC (kExI (kExB ?_)))))))))))))))))))))))))))))))
      exact hc2 _ ⟨k, hk⟩ .normA
  rintro ⟨k, hk⟩
  simp only
  have hl1 : (l2.take k).length = k := by simp; omega
  have hl2 : (l2.drop k).length = l2.length - k := by simp
  refine Kbc (Ka Y (Kdb (Kc (Ka Y (Ka Y (kNck Y Y (Kf Y Y (Ke Y Y Y (Ka Y (kCutH Y Y Y om (kAppN Y Y Y Y Y Y Y Y prl (kMem [(450560, ⟨2, 0, .arr _ _⟩)] [(109, .c (.arr 450560 2))] [] ⟨Y, trivial⟩ ⟨Y, trivial⟩ Y (Ka Y (Kdb (Kc (Ka Y (Ke Y Y Y (kLitG Y Y Y Y (kAppSlot Y Y Y Y Y Y Y prl (Ka Y (Kd (Kc (Ka Y (kMem [(450560, ⟨3, 0, .arr _ _⟩), (0, ⟨0, 0, .box [.d _, .d _, .d _]⟩)] [(8, .c (.arr 450560 3)), (0, .c (.ptr 0 0 0)), (7, .c (.d _)), (114, .c (.ptr 0 0 0))] [] ⟨Y, Y, trivial⟩ ⟨Y, Y, Y, Y, trivial⟩ Y (Ka Y (Ka Y (kNck Y Y (Kf Y Y (Ke Y Y Y (Ka Y (kCutL Y Y Y om ?_)))))))))))))))))))))))))))))))
  refine kAppR (f := Slot.cells) (l := l2.take k ++ [usedS s (c.turn + 1)]) (l' := l2.drop k) rfl rfl rfl rfl rfl rfl rfl rfl (by simp; omega) ?_
  refine kNck Y Y (kMem [(0, ⟨0, 0, .box [.d _, .d _, .d _]⟩), (450560, ⟨4, 0, .arr _ _⟩)] [(123, .c (.ptr 0 0 0)), (122, .c (.arr 450560 4))] [] ⟨Y, Y, trivial⟩ ⟨Y, Y, trivial⟩ Y (Kf Y Y (Ko Y Y Y Y (Kd ?_))))
  refine kEnd (endSN [] (cacheLo ⟨c.now, c.turn + 1, l2.take k ++ [usedS s (c.turn + 1)] ++ l2.drop k⟩ 1) [] ((Sub.renBox 0 (rid 109 0) 1 2 rfl rfl rfl rfl rfl rfl).trans .normA) ⟨_, ⟨?_, fun x hx => ?_⟩, rfl, rfl⟩)
  · simp; omega
  · simp only [List.mem_append, List.mem_singleton] at hx
    rcases hx with (h | h) | h
    · exact .inl (hin2 _ (List.mem_of_mem_take h))
    · exact .inr h
    · exact .inl (hin2 _ (List.mem_of_mem_drop h))

def c_spec_l10may : C := (.g (.o 0 4 (.box 4 (.t 0)) (.o 1 5 (.box 5 (.t 1)) (.o 2 8 (.mov (.v (.bool false))) .done))) (.g (.o 0 10 (.load (some 3) (.t 4)) (.o 1 11 (.load (some 1) (.t 5)) (.o 2 12 (.mov (.t 2)) (.o 3 13 (.call 13 177 [(.t 10), (.t 11), (.t 12)]) (.o 4 9 (.mov (.t 13)) .done))))) (.g (.o 0 14 (.fad (.t 4) 1) (.o 1 15 (.load none (.t 14)) (.o 2 16 (.bin .lss (.t 15) (.i 1000000)) (.o 3 17 (.mov (.t 16)) (.op 4 [] (some 18) (some (17, true)) false (.mov (.t 9)) (.op 5 [] (some 19) (some (17, true)) false (.bin .lss (.t 18) (.i 0)) (.op 6 [] (some 20) (some (17, true)) false (.mov (.t 19)) (.op 7 [] (some 21) (some (20, false)) false (.fad (.t 4) 2) (.op 8 [] (some 22) (some (20, false)) false (.load none (.t 21)) (.op 9 [] (some 23) (some (20, false)) false (.mov (.t 9)) (.op 10 [] (some 24) (some (20, false)) false (.iad 7 (.t 22) (.t 23)) (.op 11 [] (some 25) (some (20, false)) false (.fad (.t 24) 4) (.op 12 [] (some 26) (some (20, false)) false (.load none (.t 25)) (.op 13 [] (some 27) (some (20, false)) false (.mov (.t 3)) (.op 14 [] (some 28) (some (20, false)) false (.bin .leq (.t 26) (.t 27)) (.op 15 [] (some 29) (some (17, true)) false (.pick (.t 20) (.v (.bool true)) (.t 28)) (.o 16 30 (.pick (.t 17) (.t 29) (.v (.bool false))) (.o 17 8 (.mov (.t 30)) .done)))))))))))))))))) .ret)))
theorem dg_spec_l10may : Tryz.f333.body.bind (digC Tryz.prog Tryz.f333.ntmps []) = some c_spec_l10may := by kernel_rfl
theorem rs_spec_l10may : resSlots Tryz.prog Tryz.f333 = some [.s 8] := by kernel_rfl
theorem ok_spec_l10may (c : Cache) (n : List (List UInt8)) (t rank : Int) (hs : SmallSs c.slots) (hn : n.length ≤ 4194304) :
    FnOK Tryz.prog 333 [.agg (c.cells.map .d), .agg [.d (encBB n)], .one (.d (.sc (.int .i64 t))), .one (.d (.sc (.int .i64 rank)))] (fun ra _ => ra = [.one (.d (.sc (.bool (mayC c n t rank))))]) := by
  refine FnOK.ofK Tryz.func333 (by kernel_rfl) dg_spec_l10may rs_spec_l10may rfl rfl ?_
  delta c_spec_l10may T.o X.i C.g
  have hl := hs.len
  unfold mayC
  have hstopo14 := trivial
  refine Kbc (kBox Y Y Y Y Y (kBox Y Y Y Y Y (Ka Y (Kdb (Kc (Ke Y Y Y (Ke Y Y Y (Ka Y (Kp (ok_spec_l10find _ _ _ prx prx) ⟨⟨⟨Y, Y, Y, trivial⟩, leb⟩, ⟨⟨Y, trivial⟩, leb⟩, rfl, trivial⟩ Y Y Y Y Y (Ka Y (Kdb ?_)))))))))))
  clear hstopo14
  rcases findS_cases c.slots n t with e | ⟨i, hi, e⟩
  · rw [e]
    refine Kc (kMem [(20480, ⟨1, 0, .box [.d _, .d _, .d _]⟩)] ((4, .c (.ptr 20480 1 0)) :: (14, .c (.un)) :: (15, .c (.un)) :: (16, .c (.un)) :: (9, .c (.d _)) :: (18, .c (.un)) :: (19, .c (.un)) :: (21, .c (.un)) :: (22, .c (.un)) :: (23, .c (.un)) :: (24, .c (.un)) :: (25, .c (.un)) :: (3, .c (.d _)) :: (26, .c (.un)) :: (27, .c (.un)) :: (20, .c (.un)) :: (28, .c (.un)) :: (17, .c (.un)) :: (29, .c (.un)) :: (30, .c (.un)) :: []) [] ⟨Y, trivial⟩ ⟨Y, Y, Y, Y, Y, Y, Y, Y, Y, Y, Y, Y, Y, Y, Y, Y, Y, Y, Y, Y, trivial⟩ Y (Kf Y Y (Ke Y Y Y (Kj Y Y Y (Ka Y (kGP Y (fun g0 => Ki Y (Ka Y (Ki Y (Kj Y Y Y (Ki Y (Ka Y (Kg Y (Kg Y (Kg Y (Kg Y (Kg Y (Kg Y (Kg Y (Kg Y (Ki Y (Kk Y (Ka Y (Kk Y (Ka Y (Ka Y (Kd (Kr (Er (ra := [.one (.d _)]) rfl ?_))))))))))))))))))))))) (fun g0 => Kg Y (Kg Y (Kg Y (kGU Y (kGU Y (kGU Y (kGU Y (kGU Y (kGU Y (kGU Y (kGU Y (Kg Y (Kl Y (Ka Y (Ka Y (Kd (Kr (Er (ra := [.one (.d _)]) rfl ?_))))))))))))))))))))))))
    · simp [*]
    · simp [*]
  · have hsi := slotAt_eq hi e
    rw [hsi]
    rw [e]
    refine Kc (kMem [(20480, ⟨1, 0, .box [.d _, .d _, .d _]⟩)] ((4, .c (.ptr 20480 1 0)) :: (14, .c (.un)) :: (15, .c (.un)) :: (16, .c (.un)) :: (9, .c (.d _)) :: (18, .c (.un)) :: (19, .c (.un)) :: (21, .c (.un)) :: (22, .c (.un)) :: (23, .c (.un)) :: (24, .c (.un)) :: (25, .c (.un)) :: (3, .c (.d _)) :: (26, .c (.un)) :: (27, .c (.un)) :: (20, .c (.un)) :: (28, .c (.un)) :: (17, .c (.un)) :: (29, .c (.un)) :: (30, .c (.un)) :: []) [] ⟨Y, trivial⟩ ⟨Y, Y, Y, Y, Y, Y, Y, Y, Y, Y, Y, Y, Y, Y, Y, Y, Y, Y, Y, Y, trivial⟩ Y (Kf Y Y (Ke Y Y Y (Kj Y Y Y (Ka Y (kGP Y (fun g0 => Ki Y (Ka Y (Ki Y (Kj Y Y Y (Ki Y (Ka Y (Ki Y (Kf Y Y (Ki Y (Ke Y Y Y (Ki Y (Ka Y (Ki Y (kIadR Y Y Y prl (Ki Y (kFadD Y (Ki Y (Ky Y Y (Ki Y (Ka Y (Ki Y (Kj Y Y Y (Ki Y (Kl Y (Ka Y (Kk Y (Ka Y (Ka Y (Kd (Kr (Er (ra := [.one (.d _)]) rfl ?_))))))))))))))))))))))))))))))) (fun g0 => Kg Y (Kg Y (Kg Y (kGU Y (kGU Y (kGU Y (kGU Y (kGU Y (kGU Y (kGU Y (kGU Y (Kg Y (Kl Y (Ka Y (Ka Y (Kd (Kr (Er (ra := [.one (.d _)]) rfl ?_))))))))))))))))))))))))
    · simp [*]
      intro h
      omega
    · simp [*]

def c_spec_l10ttl : C := (.g (.o 0 2 (.mov (.i 0)) .done) (.seq (.g (.o 0 3 (.mov (.t 0)) (.o 1 4 (.bin .gtr (.t 3) (.i 1000)) .done)) (.cond (.t 4) (.g (.o 0 2 (.mov (.i 1000)) .done) .ret) .skip)) (.g (.o 0 5 (.mov (.t 0)) (.o 1 2 (.mov (.t 5)) .done)) .ret)))
theorem dg_spec_l10ttl : Tryz.f335.body.bind (digC Tryz.prog Tryz.f335.ntmps []) = some c_spec_l10ttl := by kernel_rfl
theorem rs_spec_l10ttl : resSlots Tryz.prog Tryz.f335 = some [.s 2] := by kernel_rfl
theorem ok_spec_l10ttl (n : Int) (hn : -1000000000000 ≤ n ∧ n ≤ 1000000000000) :
    FnOK Tryz.prog 335 [.one (.d (.sc (.int .i64 n)))] (fun ra _ => ra = [.one (.d (.sc (.int .i64 (ttlC n))))]) := by
  refine FnOK.ofK Tryz.func335 (by kernel_rfl) dg_spec_l10ttl rs_spec_l10ttl rfl rfl ?_
  delta c_spec_l10ttl T.o X.i C.g
  unfold ttlC
  refine Kbc (Ka Y (Kdb (Kbc (Ka Y (Kj Y Y Y (Kd (Km Y (fun g0 => Kbc (Ka Y (Kd (Kr (Er (ra := [.one (.d _)]) rfl ?_))))) (fun g0 => Kn (Kbc (Ka Y (Ka Y (Kd (Kr (Er (ra := [.one (.d _)]) rfl ?_))))))))))))))
  · rw [if_pos (by omega)]
  · rw [if_neg (by omega)]

structure CI (k : Int) (c : Cache) : Prop where
  n0 : 0 ≤ c.now
  n1 : c.now ≤ 20 * k
  t0 : 0 ≤ c.turn
  t1 : c.turn ≤ k
  len : c.slots.length ≤ 8
  sm : ∀ s ∈ c.slots, SmallS s
  ti : ∀ s ∈ c.slots, 0 ≤ s.til ∧ s.til ≤ 20 * k + 1000
theorem CI.ss {k : Int} {c : Cache} (h : CI k c) : SmallSs c.slots := ⟨by have := h.len; omega, h.sm⟩
theorem CI.mono {k k' : Int} {c : Cache} (h : CI k c) (hk : k ≤ k') : CI k' c := by
  obtain ⟨h1, h2, h3, h4, h5, h6, h7⟩ := h
  exact ⟨h1, by omega, h3, by omega, h5, h6, fun s hs => by have := h7 s hs; omega⟩
def c_spec_l10put : C := (.g (.o 0 6 (.mov (.v (.bool false))) .done) (.seq (.seq (.reg true (.op 0 [] (some 7) none true (.mov (.t 1)) (.op 1 [] (some 8) none true (.iad 7 (.t 7) (.i 0)) (.op 2 [] (some 9) none true (.fad (.t 8) 2) (.op 3 [] (some 10) none true (.load none (.t 9)) (.op 4 [] (some 11) none true (.bin .eql (.t 10) (.i 0)) (.op 5 [] (some 12) none true (.mov (.t 11)) (.op 6 [] (some 13) (some (12, false)) true (.mov (.t 0)) (.op 7 [] (some 14) (some (12, false)) true (.nck (.t 13)) (.op 8 [] (some 15) (some (12, false)) true (.load (some 3) (.t 14)) (.op 9 [] (some 16) (some (12, false)) true (.mov (.t 1)) (.op 10 [] (some 17) (some (12, false)) true (.iad 7 (.t 16) (.i 0)) (.op 11 [] (some 18) (some (12, false)) true (.fad (.t 17) 0) (.op 12 [] (some 19) (some (12, false)) true (.load (some 1) (.t 18)) (.op 13 [] (some 20) (some (12, false)) true (.mov (.t 1)) (.op 14 [] (some 21) (some (12, false)) true (.iad 7 (.t 20) (.i 0)) (.op 15 [] (some 22) (some (12, false)) true (.fad (.t 21) 1) (.op 16 [] (some 23) (some (12, false)) true (.load none (.t 22)) (.op 17 [] (some 24) (some (12, false)) true (.mov (.t 2)) (.op 18 [8, 3, 12, 16] (some 25) (some (12, false)) false (.call 25 333 [(.t 15), (.t 19), (.t 23), (.t 24)]) (.op 19 [] (some 26) (some (12, false)) true (.un .not (.t 25)) (.op 20 [] (some 27) none true (.pick (.t 12) (.v (.bool true)) (.t 26)) .done)))))))))))))))))))))) (.cond (.t 27) (.g (.o 0 6 (.mov (.v (.bool false))) .done) .ret) .skip)) (.seq (.reg true (.op 0 [] (some 28) none true (.mov (.t 0)) (.op 1 [] (some 29) none true (.mov (.t 1)) (.op 2 [] (some 30) none true (.iad 7 (.t 29) (.i 0)) (.op 3 [] (some 31) none true (.fad (.t 30) 0) (.op 4 [] (some 32) none true (.load (some 1) (.t 31)) (.op 5 [] (some 33) none true (.mov (.t 1)) (.op 6 [] (some 34) none true (.iad 7 (.t 33) (.i 0)) (.op 7 [] (some 35) none true (.fad (.t 34) 1) (.op 8 [] (some 36) none true (.load none (.t 35)) (.op 9 [] (some 37) none true (.mov (.t 1)) (.op 10 [] (some 38) none true (.mov (.t 2)) (.op 11 [] (some 39) none true (.mov (.t 0)) (.op 12 [] (some 40) none true (.nck (.t 39)) (.op 13 [] (some 41) none true (.fad (.t 40) 0) (.op 14 [] (some 42) none true (.load none (.t 41)) (.op 15 [] (some 43) none true (.mov (.t 1)) (.op 16 [] (some 44) none true (.iad 7 (.t 43) (.i 0)) (.op 17 [] (some 45) none true (.fad (.t 44) 2) (.op 18 [] (some 46) none true (.load none (.t 45)) (.op 19 [18] (some 47) none false (.call 47 335 [(.t 46)]) (.op 20 [] (some 48) none true (.bin .add (.t 42) (.t 47)) (.op 21 [] (some 49) none true (.build [(.n 1), (.i 0), (.i 0), (.n 7), (.i 0), (.i 0), (.i 0)] [(0, 1, (.t 32)), (1, 1, (.t 36)), (2, 1, (.i 1)), (3, 1, (.t 37)), (4, 1, (.t 38)), (5, 1, (.t 48))]) (.op 22 [4, 8, 14, 18] (some 50) none false (.call 50 334 [(.t 28), (.t 49)]) .done)))))))))))))))))))))))) (.g (.o 0 6 (.mov (.v (.bool true))) .done) .ret))))
theorem dg_spec_l10put : Tryz.f293.body.bind (digC Tryz.prog Tryz.f293.ntmps []) = some c_spec_l10put := by kernel_rfl
theorem rs_spec_l10put : resSlots Tryz.prog Tryz.f293 = some [.s 6] := by kernel_rfl
theorem os_spec_l10put (c : Cache) (l : List Rr) (rank k : Int) (hc : CI k c) (hk : k ≤ 20) (hl : SmallRs l) (h1 : 0 < l.length) (ht : 0 ≤ l[0].ttl ∧ l[0].ttl ≤ 10000000000) :
    FnOS Tryz.prog 293 [.c (.ptr 0 0 0), .c (.d (encR l)), .c (.d (.sc (.int .i64 rank)))] (cacheLo c 0) (fun ra lo => ∃ z : Cache × Bool, CI (k + 1) z.1 ∧ ra = [.one (.d (.sc (.bool z.2)))] ∧ lo = cacheLo z.1 1) := by
  refine FnOS.ofK Tryz.func293 (by kernel_rfl) dg_spec_l10put rs_spec_l10put rfl rfl ?_
  delta c_spec_l10put T.o X.i C.g
  have hss := hc.ss
  have hll := hl.len
  obtain ⟨c1, c2, c3, c4, c5, c6, c7⟩ := id hc
  have hr := hl.mem _ (List.getElem_mem h1)
  have hrn := hr.n.len
  have hsm : SmallS ⟨l[0].name, l[0].ty, 1, l, rank, c.now + ttlC l[0].ttl, 0⟩ := ⟨hr.n, hl⟩
  have htt : 0 ≤ ttlC l[0].ttl ∧ ttlC l[0].ttl ≤ 1000 := by unfold ttlC; split <;> omega
  refine Kbc (Ka Y (Kdb (Kb (kRegD (Ka Y (kIadR (m := 0) Y Y Y prl (kFadD Y (Ky Y Y (Kj Y Y Y (Ka Y (kGP Y (fun g0 => Kg Y (Kg Y (Kg Y (Kg Y (Kg Y (Kg Y (Kg Y (Kg Y (Kg Y (Kg Y (Kg Y (Kg Y (Ks Y Y (Kg Y (Kg Y (Kk Y (Ka Y (Kd (kH (kCondT Y (Kbc (Ka Y (Kd ?_))))))))))))))))))))))) (fun g0 => Ki Y (Ka Y (Ki Y (kNck Y Y (Ki Y (Ke Y Y Y (kMem [(1, ⟨0, 0, .arr false _⟩)] ((1, .c (.d _)) :: (16, .c (.un)) :: (17, .c (.un)) :: (18, .c (.un)) :: (20, .c (.un)) :: (21, .c (.un)) :: (22, .c (.un)) :: (2, .c (.d _)) :: (15, .g [.d _, .d _, .arr 1 0]) :: (19, .c (.un)) :: (23, .c (.un)) :: (24, .c (.un)) :: (25, .c (.un)) :: (12, .c (.d _)) :: (26, .c (.un)) :: []) [0] ⟨Y, trivial⟩ ⟨Y, Y, Y, Y, Y, Y, Y, Y, Y, Y, Y, Y, Y, Y, Y, trivial⟩ Y (Ki Y (Ka Y (Ki Y (kIadR (m := 0) Y Y Y prl (Ki Y (kFadD Y (Ki Y (Ky Y Y (Ki Y (Ka Y (Ki Y (kIadR (m := 0) Y Y Y prl (Ki Y (kFadD Y (Ki Y (Ky Y Y (Ki Y (Ka Y (Ks Y Y (Ki Y (Kp (ok_spec_l10may _ _ _ _ prx prx) ⟨⟨⟨Y, Y, Y, trivial⟩, leb⟩, ⟨⟨Y, trivial⟩, leb⟩, rfl, rfl, trivial⟩ Y Y Y Y Y (Ki Y (Kw Y Y (Kl Y (Ka Y (Kd (kH (kCondN Y (fun g1 => Kbc (Ka Y (Kd ?_))) (fun g1 => Kn (Kb (kRegD (Ka Y (Ka Y (kIadR (m := 0) Y Y Y prl (kFadD Y (Ky Y Y (Ka Y (kIadR (m := 0) Y Y Y prl (kFadD Y (Ky Y Y (Ka Y (Ka Y (Ka Y (kMem [(0, ⟨0, 0, .box [.d _, .d _, .arr 1 0]⟩), (1, ⟨0, 0, .arr false _⟩)] ((39, .c (.ptr 0 0 0)) :: (40, .c (.un)) :: (41, .c (.un)) :: (1, .c (.d _)) :: (43, .c (.un)) :: (44, .c (.un)) :: (45, .c (.un)) :: (46, .c (.un)) :: (42, .c (.un)) :: (47, .c (.un)) :: (32, .g [.d _]) :: (36, .c (.d _)) :: (37, .c (.d _)) :: (38, .c (.d _)) :: (48, .c (.un)) :: (28, .c (.ptr 0 0 0)) :: (49, .c (.un)) :: []) [] ⟨Y, Y, trivial⟩ ⟨Y, Y, Y, Y, Y, Y, Y, Y, Y, Y, Y, Y, Y, Y, Y, Y, Y, trivial⟩ Y (kNck Y Y (Kf Y Y (Ke Y Y Y (Ka Y (kIadR (m := 0) Y Y Y prl (kFadD Y (Ky Y Y (Kx Y Y (Kp (ok_spec_l10ttl _ prx) ⟨Y, trivial⟩ Y Y Y Y Y (kAdd Y Y om (kMem [(0, ⟨0, 0, .box [.d _, .d _, .arr 1 0]⟩), (1, ⟨0, 0, .arr false _⟩)] [(32, .g [.d _]), (36, .c (.d _)), (37, .c (.d _)), (38, .c (.d _)), (48, .c (.d _)), (28, .c (.ptr 0 0 0)), (49, .c (.un))] [0] ⟨Y, Y, trivial⟩ ⟨Y, Y, Y, Y, Y, Y, Y, trivial⟩ Y (kBuildG Y (Ks Y Y (kCallO [(0, 0), (1, 1)] (os_spec_l10keep _ _ (by first | assumption | omega | solve_by_elim [List.getElem_mem] | exact rfl | exact leb | exact rrOk_small (by assumption) | exact zoneOk_small (by assumption) | exact SmallBB.ok (by assumption)) (by first | assumption | omega | solve_by_elim [List.getElem_mem] | exact rfl | exact leb | exact rrOk_small (by assumption) | exact zoneOk_small (by assumption) | exact SmallBB.ok (by assumption)) (by first | assumption | omega | solve_by_elim [List.getElem_mem] | exact rfl | exact leb | exact rrOk_small (by assumption) | exact zoneOk_small (by assumption) | exact SmallBB.ok (by assumption)) (by first | assumption | omega | solve_by_elim [List.getElem_mem] | exact rfl | exact leb | exact rrOk_small (by assumption) | exact zoneOk_small (by assumption) | exact SmallBB.ok (by assumption))) (fun x2 hx2 => (Kd (kH (Kbc (Ka Y (Kd ?_))))))))))))))))))))))))))))))))))))))))))))))))))))))))))))))))))))))))))))))))))
  · exact Kr (endSR [(6, .b false)] (cacheLo c 1) [.one (.d (.sc (.bool false)))] .normA ⟨(c, false), hc.mono om, rfl, rfl⟩)
  · exact Kr (endSR [(6, .b false)] (cacheLo c 1) [.one (.d (.sc (.bool false)))] .normA ⟨(c, false), hc.mono om, rfl, rfl⟩)
  · obtain ⟨k1, k2⟩ := hx2
    refine Kr (endSR [(6, .b true)] (cacheLo ⟨c.now, c.turn + 1, x2⟩ 1) [.one (.d (.sc (.bool true)))] .normA ⟨(⟨c.now, c.turn + 1, x2⟩, true), ⟨c1, by simp only; omega, by simp only; omega, by simp only; omega, k1, fun x hx => ?_, fun x hx => ?_⟩, rfl, rfl⟩)
    · rcases k2 x hx with h | rfl
      · exact c6 x h
      · exact ⟨hsm.n, hsm.r⟩
    · rcases k2 x hx with h | rfl
      · have := c7 x h
        omega
      · simp only [usedS]
        omega

def c_spec_l10tick : C := (.g (.o 0 4 (.mov (.i 0)) .done) (.g (.o 0 8 (.mov (.t 0)) (.o 1 9 (.mov (.t 1)) (.o 2 10 (.nck (.t 8)) (.o 3 11 (.fad (.t 10) 0) (.op 4 [] none none false (.store none (.t 11) (.t 9)) .done))))) (.g (.o 0 5 (.mov (.i 0)) .done) (.g (.o 0 6 (.mov (.n 7)) .done) (.seq (.g (.o 0 7 (.mov (.i 0)) .done) (.block 0 (.loop (.seq (.g (.o 0 12 (.mov (.t 7)) (.o 1 13 (.mov (.t 0)) (.o 2 14 (.nck (.t 13)) (.o 3 15 (.fad (.t 14) 2) (.o 4 16 (.load none (.t 15)) (.o 5 17 (.len (.t 16)) (.o 6 18 (.bin .lss (.t 12) (.t 17)) .done))))))) (.cond (.t 18) .skip (.exit 0))) (.seq (.block 1 (.seq (.g (.o 0 21 (.mov (.t 0)) (.o 1 22 (.nck (.t 21)) (.o 2 23 (.fad (.t 22) 2) (.o 3 24 (.load none (.t 23)) (.o 4 25 (.mov (.t 7)) (.o 5 26 (.iad 7 (.t 24) (.t 25)) (.o 6 27 (.fad (.t 26) 5) (.o 7 28 (.load none (.t 27)) (.o 8 29 (.mov (.t 1)) (.o 9 30 (.bin .leq (.t 28) (.t 29)) .done)))))))))) (.cond (.t 30) (.g (.o 0 31 (.mov (.t 5)) (.o 1 32 (.bin .add (.t 31) (.i 1)) (.o 2 5 (.mov (.t 32)) .done))) (.exit 1)) .skip)) (.reg false (.o 0 33 (.mov (.t 6)) (.o 1 34 (.mov (.t 0)) (.o 2 35 (.nck (.t 34)) (.o 3 36 (.fad (.t 35) 2) (.o 4 37 (.load none (.t 36)) (.o 5 38 (.mov (.t 7)) (.o 6 39 (.iad 7 (.t 37) (.t 38)) (.o 7 40 (.load (some 7) (.t 39)) (.o 8 41 (.lit 41 7 [(.n 1), (.i 0), (.i 0), (.n 7), (.i 0), (.i 0), (.i 0)] 1 [(0, 7, (.t 40))]) (.o 9 42 (.app 42 7 88 (.t 33) (.t 41)) (.o 10 6 (.mov (.t 42)) .done)))))))))))))) (.reg false (.o 0 19 (.mov (.t 7)) (.o 1 20 (.bin .add (.t 19) (.i 1)) (.o 2 7 (.mov (.t 20)) .done))))))))) (.g (.o 0 43 (.mov (.t 0)) (.o 1 44 (.mov (.t 6)) (.o 2 45 (.nck (.t 43)) (.o 3 46 (.fad (.t 45) 2) (.op 4 [] none none false (.store none (.t 46) (.t 44)) .done))))) (.g (.o 0 47 (.mov (.t 5)) (.o 1 4 (.mov (.t 47)) .done)) .ret)))))))
theorem dg_spec_l10tick : Tryz.f294.body.bind (digC Tryz.prog Tryz.f294.ntmps []) = some c_spec_l10tick := by kernel_rfl
theorem rs_spec_l10tick : resSlots Tryz.prog Tryz.f294 = some [.s 4] := by kernel_rfl
theorem os_spec_l10tick (c : Cache) (now k : Int) (hc : CI k c) (hn : c.now ≤ now ∧ now ≤ c.now + 20) :
    FnOS Tryz.prog 294 [.c (.ptr 0 0 0), .c (.d (.sc (.int .i64 now)))] (cacheLo c 0) (fun ra lo => ∃ z : Cache × Int, CI (k + 1) z.1 ∧ ra = [.one (.d (.sc (.int .i64 z.2)))] ∧ lo = cacheLo z.1 1) := by
  refine FnOS.ofK Tryz.func294 (by kernel_rfl) dg_spec_l10tick rs_spec_l10tick rfl rfl ?_
  delta c_spec_l10tick T.o X.i C.g
  have hs := hc.ss
  have h1 := hs.len
  have hm := hs.mem
  refine kSub (t := ⟨tabSl [(0, .c (.ptr 0 0 0)), (1, .i now)], obTab 1 [(0, ⟨0, 0, .box [.d (.sc (.int .i64 c.now)), .d (.sc (.int .i64 c.turn)), .arr 1 1]⟩), (1, ⟨1, 0, .arr false (encS c.slots)⟩)], []⟩) .normA ?_
  refine kSub (Sub.frzBox 0 1 2 rfl rfl rfl rfl rfl) ?_
  refine Kbc (Ka Y (Kdb (Kc (Ka Y (Ka Y (kNck Y Y (Kf Y Y (Ko Y Y Y Y (Kdb (Kc (Ka Y (Kdb (Kc (Ka Y (Kdb (Kbc (Ka Y (Kd (Kt ?_)))))))))))))))))))
  refine kSub (Sub.nilArr (j := 6) (id := rid 5000 0) (sz := 7) rfl (by decide)) ?_
  refine kLoop (α := { i : Nat // i ≤ c.slots.length }) (fun y => ⟨tabSl [(0, .c (.ptr 0 0 0)), (1, .i now), (5, .i ((y.1 : Int) - (tickS (c.slots.take y.1) now).length)), (6, .c (.arr (rid 5000 0) 1)), (7, .i y.1)], obTab 1 [(0, ⟨0, 0, .box [.d (.sc (.int .i64 now)), .d (.sc (.int .i64 c.turn)), .d (encS c.slots)]⟩), (rid 5000 0, ⟨1, 0, .arr false (encS (tickS (c.slots.take y.1) now))⟩)], []⟩) (fun y => c.slots.length - y.1) ⟨0, by simp⟩ .normA ?_
  rintro ⟨i, hi⟩
  simp only
  have hle := tickS_len c.slots now i
  rcases Nat.lt_or_ge i c.slots.length with hlt | hge
  · by_cases hy : now < c.slots[i].til
    · have hst := tickS_take_yes hlt hy
      have e : ((i : Int) - (tickS (c.slots.take i) now).length) = ((i + 1 : Nat) : Int) - (tickS (c.slots.take (i + 1)) now).length := by rw [hst, List.length_append]; simp; omega
      refine Kb (Kbc (Ka Y (Ka Y (kNck Y Y (Kf Y Y (Ke Y Y Y (Kq Y Y (Kj Y Y Y (Kd (Km Y (fun g0 => Kn (Kb (Kt (Kb (Kbc (Ka Y (kNck Y Y (Kf Y Y (Ke Y Y Y (Ka Y (kIadR Y Y Y prl (kFadD Y (Ky Y Y (Ka Y (Kj Y Y Y (Kd (Km Y (fun g1 => om) (fun g1 => Kn (Kc (kMem [(20484096, ⟨1, 0, .arr false _⟩), (0, ⟨0, 0, .box [.d _, .d _, .d _]⟩)] [(6, .c (.arr 20484096 1)), (0, .c (.ptr 0 0 0)), (7, .c (.d _))] [] ⟨Y, Y, trivial⟩ ⟨Y, Y, Y, trivial⟩ Y (Ka Y (Ka Y (kNck Y Y (Kf Y Y (Ke Y Y Y (Ka Y (kIadR Y Y Y prl (Ky Y Y (kLitG Y Y Y Y (kMem [(20484096, ⟨1, 0, .arr false _⟩), (172032, ⟨2, 0, .arr false _⟩)] [(33, .c (.arr 20484096 1)), (41, .c (.arr 172032 2))] [] ⟨Y, Y, trivial⟩ ⟨Y, Y, trivial⟩ Y (kAppSlot Y Y Y Y Y Y Y prl (Ka Y (Kd (Kv (Kc (Ka Y (kAdd Y Y om (Ka Y (Kd ?_))))))))))))))))))))))))))))))))))))))) (fun g0 => om)))))))))))
      refine kInv ⟨⟨i + 1, by omega⟩, by simp only; omega, ?_⟩
      simp only [← e]
      simp only [hst]
      exact .normA
    · have hst := tickS_take_no hlt hy
      have e : ((i : Int) - (tickS (c.slots.take i) now).length) + 1 = ((i + 1 : Nat) : Int) - (tickS (c.slots.take (i + 1)) now).length := by rw [hst]; omega
      refine Kb (Kbc (Ka Y (Ka Y (kNck Y Y (Kf Y Y (Ke Y Y Y (Kq Y Y (Kj Y Y Y (Kd (Km Y (fun g0 => Kn (Kb (Kt (Kb (Kbc (Ka Y (kNck Y Y (Kf Y Y (Ke Y Y Y (Ka Y (kIadR Y Y Y prl (kFadD Y (Ky Y Y (Ka Y (Kj Y Y Y (Kd (Km Y (fun g1 => Kbc (Ka Y (kAdd Y Y om (Ka Y (Kd (kExit (kExC (kExB (Kc (Ka Y (kAdd Y Y om (Ka Y (Kd ?_))))))))))))) (fun g1 => om)))))))))))))))))) (fun g0 => om)))))))))))
      refine kInv ⟨⟨i + 1, by omega⟩, by simp only; omega, ?_⟩
      simp only [← e]
      simp only [hst]
      exact .normA
  · obtain rfl : i = c.slots.length := by omega
    simp only [List.take_length]
    refine Kb (Kbc (Ka Y (Ka Y (kNck Y Y (Kf Y Y (Ke Y Y Y (Kq Y Y (Kj Y Y Y (Kd (Km Y (fun g0 => om) (fun g0 => kExit (kExC (kExI (kExB (Kbc (Ka Y (Ka Y (kNck Y Y (Kf Y Y (kMem [(0, ⟨0, 0, .box [.d _, .d _, .d _]⟩), (20484096, ⟨1, 0, .arr false _⟩)] [(46, .c (.ptr 0 0 2)), (44, .c (.arr 20484096 1))] [] ⟨Y, Y, trivial⟩ ⟨Y, Y, trivial⟩ Y (Ko Y Y Y Y (Kdb (Kc (Ka Y (Ka Y (Kd ?_))))))))))))))))))))))))))
    obtain ⟨c1, c2, c3, c4, c5, c6, c7⟩ := hc
    have hsub : ∀ x ∈ tickS c.slots now, x ∈ c.slots := fun x hx => (List.mem_filter.1 hx).1
    refine Kr (endSR [(4, .i ((c.slots.length : Int) - (tickS c.slots now).length))] (cacheLo ⟨now, c.turn, tickS c.slots now⟩ 1) [.one (.d (.sc (.int .i64 ((c.slots.length : Int) - (tickS c.slots now).length))))] ((Sub.renBox 0 (rid 5000 0) 1 2 rfl rfl rfl rfl rfl rfl).trans .normA) ⟨(⟨now, c.turn, tickS c.slots now⟩, _), ⟨by simp only; omega, by simp only; omega, c3, by simp only; omega, ?_, fun x hx => c6 x (hsub x hx), fun x hx => ?_⟩, rfl, rfl⟩)
    · exact Nat.le_trans (List.length_filter_le _ _) c5
    · have := c7 x (hsub x hx)
      omega

def c_spec_l3ownAll : C := (.g (.o 0 2 (.mov (.n 7)) .done) (.g (.o 0 3 (.mov (.n 7)) .done) (.seq (.g (.o 0 4 (.mov (.i 0)) .done) (.block 0 (.loop (.seq (.g (.o 0 5 (.mov (.t 4)) (.o 1 6 (.mov (.t 0)) (.o 2 7 (.len (.t 6)) (.o 3 8 (.bin .lss (.t 5) (.t 7)) .done)))) (.cond (.t 8) .skip (.exit 0))) (.seq (.block 1 (.reg false (.o 0 11 (.mov (.t 3)) (.o 1 12 (.mov (.t 0)) (.o 2 13 (.mov (.t 4)) (.o 3 14 (.iad 7 (.t 12) (.t 13)) (.o 4 15 (.load (some 7) (.t 14)) (.o 5 16 (.call 16 232 [(.t 15)]) (.o 6 17 (.lit 17 7 [(.n 1), (.i 0), (.i 0), (.i 0), (.n 1), (.n 1), (.n 1)] 1 [(0, 7, (.t 16))]) (.o 7 18 (.app 18 7 120 (.t 11) (.t 17)) (.o 8 3 (.mov (.t 18)) .done))))))))))) (.reg false (.o 0 9 (.mov (.t 4)) (.o 1 10 (.bin .add (.t 9) (.i 1)) (.o 2 4 (.mov (.t 10)) .done))))))))) (.g (.o 0 19 (.mov (.t 3)) (.o 1 2 (.mov (.t 19)) .done)) .ret))))
theorem dg_spec_l3ownAll : Tryz.f176.body.bind (digC Tryz.prog Tryz.f176.ntmps []) = some c_spec_l3ownAll := by kernel_rfl
theorem rs_spec_l3ownAll : resSlots Tryz.prog Tryz.f176 = some [.s 2] := by kernel_rfl
theorem ok_spec_l3ownAll (l : List Rr) (hs : SmallRs l) :
    FnOK Tryz.prog 176 [.one (.d (encR l))] (fun ra _ => ra = [.one (.own true (encR l))]) := by
  refine FnOK.ofK Tryz.func176 (by kernel_rfl) dg_spec_l3ownAll rs_spec_l3ownAll rfl rfl ?_
  delta c_spec_l3ownAll T.o X.i C.g
  have h1 := hs.len
  refine Kbc (Ka Y (Kdb (Kc (Ka Y (Kdb (Kbc (Ka Y (Kd (Kt ?_)))))))))
  refine kSub (Sub.nilArr (j := 3) (id := rid 5000 0) (sz := 7) rfl (by decide)) ?_
  refine kLoop (α := { i : Nat // i ≤ l.length }) (fun y => ⟨tabSl [(0, .dv (encR l)), (3, .c (.arr (rid 5000 0) 1)), (4, .i y.1)], obTab 1 [(rid 5000 0, ⟨1, 0, .arr true (encR (l.take y.1))⟩)], []⟩) (fun y => l.length - y.1) ⟨0, by simp⟩ .normA ?_
  rintro ⟨i, hi⟩
  simp only
  have hlen : (l.take i).length = i := by simp; omega
  rcases Nat.lt_or_ge i l.length with hlt | hge
  · have hbi := hs.mem _ (List.getElem_mem hlt)
    refine Kb (Kbc (Ka Y (Ka Y (Kq Y Y (Kj Y Y Y (Kd (Km Y (fun g0 => Kn (Kb (Kt (Kc (Ka Y (Ka Y (Ka Y (kIadR Y Y Y om (Ky Y Y (Ku true (ok_spec_l3own _ pr) ⟨⟨⟨Y, Y, Y, Y, Y, Y, Y, trivial⟩, leb⟩, trivial⟩ Y Y Y (fun _ => (kLit Y Y Y Y (kAppRec Y Y Y Y Y Y Y om (Ka Y (Kd (Kv (Kc (Ka Y (kAdd Y Y om (Ka Y (Kd ?_))))))))))))))))))))) (fun g0 => om))))))))
    exact kInv ⟨⟨i + 1, by omega⟩, by simp only; omega, .normA⟩
  · refine Kb (Kbc (Ka Y (Ka Y (Kq Y Y (Kj Y Y Y (Kd (Km Y (fun g0 => om) (fun g0 => kExit (kExC (kExI (kExB (Kbc (Ka Y (Ka Y (Kd (Kr (Er (ra := [.one (.own true _)]) rfl ?_)))))))))))))))))
    rw [show i = l.length by omega, List.take_length]

theorem rd_subS {α : Type} {f : α → List DV} {l : List α} {s : St} {id ver ev i j sz : Nat} {dp : Bool} {d : DV} (ho : s.ob id = ⟨ver, ev, .arr dp (.sl sz (l.map f))⟩) (hi : i < l.length) (hd : (f l[i])[j]? = some d) : s.rd (.sub id ver ev i j) = some d := by
  simp only [St.rd, St.obj, ho, if_true]
  have h1 : (DV.sl sz (l.map f)).rows[i]? = some (f l[i]) := by simp [DV.rows, hi]
  rw [DV.at_eq h1 hd]
section
variable {P : Program} {k : List It} {Q : Ex → St → Prop}
theorem kCut2 {x y y2 : C} {s0 : St} (t : St) (h : kont P (.c x :: k) Q .normal t) (h2 : ∀ x' : C, (∀ s, Sub s t → kont P (.c x' :: k) Q .normal s) → kont P (.c y :: .c y2 :: .c x' :: k) Q .normal s0) : kont P (.c y :: .c y2 :: .c x :: k) Q .normal s0 :=
  h2 x (fun _ hs => kSub hs h)
end
def c_spec_l10get : C := (.g (.o 0 4 (.box 4 (.t 1)) (.o 1 6 (.mov (.n 7)) (.o 2 7 (.mov (.i 0)) .done))) (.seq (.reg true (.op 0 [] (some 12) none true (.mov (.t 0)) (.op 1 [] (some 13) none true (.nck (.t 12)) (.op 2 [] (some 14) none true (.load (some 3) (.t 13)) (.op 3 [] (some 15) none true (.load (some 1) (.t 4)) (.op 4 [] (some 16) none true (.mov (.t 2)) (.op 5 [2, 3] (some 17) none false (.call 17 177 [(.t 14), (.t 15), (.t 16)]) (.op 6 [] (some 8) none true (.mov (.t 17)) .done)))))))) (.seq (.g (.o 0 18 (.mov (.t 8)) (.o 1 19 (.bin .lss (.t 18) (.i 0)) .done)) (.cond (.t 19) (.g (.o 0 6 (.mov (.n 7)) (.o 1 7 (.mov (.i 0)) .done)) .ret) .skip)) (.seq (.g (.o 0 20 (.mov (.t 0)) (.o 1 21 (.nck (.t 20)) (.o 2 22 (.fad (.t 21) 1) (.o 3 23 (.load none (.t 22)) (.o 4 24 (.bin .lss (.t 23) (.i 1000000)) .done))))) (.cond (.t 24) (.g (.o 0 25 (.mov (.t 0)) (.o 1 26 (.nck (.t 25)) (.o 2 27 (.fad (.t 26) 1) (.o 3 28 (.load none (.t 27)) (.o 4 29 (.bin .add (.t 28) (.i 1)) (.o 5 30 (.nck (.t 25)) (.o 6 31 (.fad (.t 30) 1) (.op 7 [] none none false (.store none (.t 31) (.t 29)) .done)))))))) (.reg true (.op 0 [] (some 32) none true (.mov (.t 0)) (.op 1 [] (some 33) none true (.nck (.t 32)) (.op 2 [] (some 34) none true (.fad (.t 33) 2) (.op 3 [] (some 35) none true (.load none (.t 34)) (.op 4 [] (some 36) none true (.mov (.t 8)) (.op 5 [] (some 37) none true (.mov (.t 0)) (.op 6 [] (some 38) none true (.nck (.t 37)) (.op 7 [] (some 39) none true (.fad (.t 38) 1) (.op 8 [] (some 40) none true (.load none (.t 39)) (.op 9 [] (some 41) none true (.iad 7 (.t 35) (.t 36)) (.op 10 [] (some 42) none true (.fad (.t 41) 6) (.op 11 [3, 8] none none false (.store none (.t 42) (.t 40)) .done)))))))))))))) .skip)) (.g (.o 0 43 (.mov (.t 0)) (.o 1 44 (.nck (.t 43)) (.o 2 45 (.fad (.t 44) 2) (.o 3 46 (.load none (.t 45)) (.o 4 47 (.mov (.t 8)) (.o 5 48 (.iad 7 (.t 46) (.t 47)) (.o 6 49 (.load (some 7) (.t 48)) (.o 7 9 (.alloc 9 [(.n 1), (.i 0), (.i 0), (.n 7), (.i 0), (.i 0), (.i 0)]) (.op 8 [] none none false (.store (some 7) (.t 9) (.t 49)) .done))))))))) (.g (.o 0 50 (.fad (.t 9) 3) (.o 1 51 (.load none (.t 50)) (.o 2 52 (.call 52 176 [(.t 51)]) (.o 3 10 (.mov (.t 52)) .done)))) (.seq (.g (.o 0 11 (.mov (.i 0)) .done) (.block 0 (.loop (.seq (.g (.o 0 53 (.mov (.t 11)) (.o 1 54 (.mov (.t 10)) (.o 2 55 (.len (.t 54)) (.o 3 56 (.bin .lss (.t 53) (.t 55)) .done)))) (.cond (.t 56) .skip (.exit 0))) (.seq (.block 1 (.seq (.reg true (.op 0 [] (some 59) none true (.fad (.t 9) 5) (.op 1 [] (some 60) none true (.load none (.t 59)) (.op 2 [] (some 61) none true (.mov (.t 0)) (.op 3 [] (some 62) none true (.nck (.t 61)) (.op 4 [] (some 63) none true (.fad (.t 62) 0) (.op 5 [] (some 64) none true (.load none (.t 63)) (.op 6 [] (some 65) none true (.bin .sub (.t 60) (.t 64)) (.op 7 [] (some 66) none true (.mov (.t 10)) (.op 8 [] (some 67) none true (.mov (.t 11)) (.op 9 [] (some 68) none true (.iad 7 (.t 66) (.t 67)) (.op 10 [] (some 69) none true (.fad (.t 68) 2) (.op 11 [] (some 70) none true (.load none (.t 69)) (.op 12 [] (some 71) none true (.bin .lss (.t 65) (.t 70)) .done)))))))))))))) (.cond (.t 71) (.reg true (.op 0 [] (some 72) none true (.mov (.t 10)) (.op 1 [] (some 73) none true (.mov (.t 11)) (.op 2 [] (some 74) none true (.fad (.t 9) 5) (.op 3 [] (some 75) none true (.load none (.t 74)) (.op 4 [] (some 76) none true (.mov (.t 0)) (.op 5 [] (some 77) none true (.nck (.t 76)) (.op 6 [] (some 78) none true (.fad (.t 77) 0) (.op 7 [] (some 79) none true (.load none (.t 78)) (.op 8 [] (some 80) none true (.bin .sub (.t 75) (.t 79)) (.op 9 [] (some 81) none true (.iad 7 (.t 72) (.t 73)) (.op 10 [] (some 82) none true (.fad (.t 81) 2) (.op 11 [3, 7] none none false (.store none (.t 82) (.t 80)) .done))))))))))))) .skip))) (.reg false (.o 0 57 (.mov (.t 11)) (.o 1 58 (.bin .add (.t 57) (.i 1)) (.o 2 11 (.mov (.t 58)) .done))))))))) (.seq (.reg true (.op 0 [] (some 83) none true (.mov (.t 10)) (.op 1 [] (some 84) none true (.fad (.t 9) 2) (.op 2 [] (some 85) none true (.load none (.t 84)) (.op 3 [] (some 6) none true (.mov (.t 83)) (.op 4 [] (some 7) none true (.mov (.t 85)) .done)))))) .ret))))))))
theorem dg_spec_l10get : Tryz.f86.body.bind (digC Tryz.prog Tryz.f86.ntmps []) = some c_spec_l10get := by kernel_rfl
theorem rs_spec_l10get : resSlots Tryz.prog Tryz.f86 = some [.s 6, .s 7] := by kernel_rfl
theorem os_spec_l10get (c : Cache) (n : List (List UInt8)) (t : Int) (hs : SmallSs c.slots) (hn : n.length ≤ 4194304) (hc : 0 ≤ c.now ∧ 0 ≤ c.turn ∧ c.turn ≤ 1000000) (hu : ∀ s ∈ c.slots, 0 ≤ s.til ∧ s.til ≤ 100000000 ∧ c.now ≤ 100000000) :
    FnOS Tryz.prog 86 [.c (.ptr 0 0 0), .g [.d (encBB n)], .c (.d (.sc (.int .i64 t)))] (cacheLo c 0) (fun ra lo => ∃ _ : Unit, True ∧ ra = [.one (.d (encR (getL c n t))), .one (.d (.sc (.int .i64 (getK c n t))))] ∧ lo = cacheLo (getC c n t) 1) := by
  refine FnOS.ofK Tryz.func86 (by kernel_rfl) dg_spec_l10get rs_spec_l10get rfl rfl ?_
  delta c_spec_l10get T.o X.i C.g
  have hl := hs.len
  have hstopo18 := trivial
  refine Kbc (kBox Y Y Y Y Y (Ka Y (Ka Y (Kdb (kRegD (Ka Y (kNck Y Y (Ke Y Y Y (Ke Y Y Y (Ka Y (Ks Y Y (Kp (ok_spec_l10find _ _ _ prx prx) ⟨⟨⟨Y, Y, Y, trivial⟩, leb⟩, ⟨⟨Y, trivial⟩, leb⟩, rfl, trivial⟩ Y Y Y Y Y (Ka Y (Kd (kH (Kb (Kb ?_)))))))))))))))))
  clear hstopo18
  rcases findS_cases c.slots n t with e | ⟨i, hi, e⟩
  · rw [e]
    have e1 : getC c n t = c := by unfold getC; rw [e]; rfl
    have e2 : getL c n t = [] := by unfold getL; rw [e]; rfl
    have e3 : getK c n t = 0 := by unfold getK; rw [e]; rfl
    rw [e1, e2, e3]
    refine Kc (Ka Y (Kj Y Y Y (Kd (kCondT Y (Kbc (Ka Y (Ka Y (Kd ?_))))))))
    exact Kr (endSR [(6, .dv (encR [])), (7, .i 0)] (cacheLo c 1) [.one (.d (encR [])), .one (.d (.sc (.int .i64 0)))] .normA ⟨(), trivial, rfl, rfl⟩)
  · rw [e]
    have hsi := slotAt_eq hi e
    have hu1 := hu _ (List.getElem_mem hi)
    have hsm := hs.mem _ (List.getElem_mem hi)
    have hsr := hsm.r
    have hsrl := hsr.len
    have e2 : getL c n t = c.slots[i].rrs.map (cutTtl (c.slots[i].til - c.now)) := by unfold getL; rw [e, if_neg (by omega), hsi]
    have e3 : getK c n t = c.slots[i].kind := by unfold getK; rw [e, if_neg (by omega), hsi]
    rw [e2, e3]
    have hg : getC c n t = (if c.turn < 1000000 then (⟨c.now, c.turn + 1, c.slots.set i { c.slots[i] with used := c.turn + 1 }⟩ : Cache) else c) := by
      unfold getC; rw [hsi, e, if_neg (show ¬ ((i : Int) < 0) by omega), Int.toNat_natCast]
    have c1 : (getC c n t).now = c.now := by rw [hg]; split <;> rfl
    have c2 : (getC c n t).slots.length = c.slots.length := by rw [hg]; split <;> simp
    have c3 : ∀ h : i < (getC c n t).slots.length, (getC c n t).slots[i].rrs = c.slots[i].rrs ∧ (getC c n t).slots[i].til = c.slots[i].til ∧ (getC c n t).slots[i].kind = c.slots[i].kind := by
      rw [hg]; intro h; split <;> simp
    have hstopo20 := trivial
    refine Kc (Ka Y (Kj Y Y Y (Kd (kCondF Y (Kn (Kb (Kb ?_)))))))
    clear hstopo20
    refine kCut2 ⟨tabSl [(0, .c (.ptr 0 0 0)), (8, .i i)], obTab 1 [(0, ⟨0, 0, .box [.d (.sc (.int .i64 c.now)), .d (.sc (.int .i64 (getC c n t).turn)), .arr 1 1]⟩), (1, ⟨1, 0, .arr false (encS (getC c n t).slots)⟩)], []⟩ ?_ (fun x hc => ?_)
    case refine_2 =>
      refine Kc (Ka Y (kNck Y Y (Kf Y Y (Ke Y Y Y (Kj Y Y Y (Kd (Km Y (fun g0 => Kbc (Ka Y (kNck Y Y (Kf Y Y (Ke Y Y Y (kMem [(0, ⟨0, 0, .box [.d _, .d _, .arr 1 0]⟩), (1, ⟨0, 0, .arr false _⟩)] [(28, .c (.d _)), (25, .c (.ptr 0 0 0)), (30, .c (.un)), (31, .c (.un)), (29, .c (.un))] [] ⟨Y, Y, trivial⟩ ⟨Y, Y, Y, Y, Y, trivial⟩ Y (kAdd Y Y om (kNck Y Y (Kf Y Y (Ko Y Y Y Y (Kd (kRegD (Ka Y (kNck Y Y (Kf Y Y (Ke Y Y Y (Ka Y (Ka Y (kMem [(0, ⟨0, 0, .box [.d _, .d _, .arr 1 0]⟩), (1, ⟨0, 0, .arr false _⟩)] [(37, .c (.ptr 0 0 0)), (38, .c (.un)), (39, .c (.un)), (35, .c (.arr 1 0)), (36, .c (.d _)), (41, .c (.un)), (42, .c (.un)), (40, .c (.un))] [0] ⟨Y, Y, trivial⟩ ⟨Y, Y, Y, Y, Y, Y, Y, Y, trivial⟩ Y (kNck Y Y (Kf Y Y (Ke Y Y Y (kIadAR Y Y Y Y prl (kFadE Y Y (Ks Y Y ?_))))))))))))))))))))))))) (fun g0 => Kn ?_))))))))
      · refine kStoreER (f := Slot.cells) (l := c.slots) (i := i) (z := { c.slots[i] with used := c.turn + 1 }) Y Y Y Y Y Y Y hi rfl ?_
        refine Kd (kH ?_)
        exact hc _ (by rw [hg, if_pos (by assumption)]; exact .normA)
      · exact hc _ (by rw [hg, if_neg (by assumption)]; exact .normA)
    clear hg e2 e3
    generalize getC c n t = D at *
    have hiD : i < D.slots.length := by omega
    obtain ⟨d1, d2, d3⟩ := c3 hiD
    have hDr : SmallRs D.slots[i].rrs := by rw [d1]; exact hsr
    have hsplit1 : (c.slots[i].til - c.now) ≤ 100000000 := by omega
    have hdt : 0 ≤ D.slots[i].til ∧ D.slots[i].til ≤ 100000000 := by rw [d2]; omega
    rw [← d1, ← d2, ← d3]
    refine Kbc (Ka Y (kNck Y Y (Kf Y Y (Ke Y Y Y (Ka Y (kIadAR Y Y Y Y prl (kLoadER Y Y prl rfl (kAlloc Y Y (kMem [(40960, ⟨2, 0, .box [.nil 1, .d _, .d _, .nil 7, .d _, .d _, .d _]⟩)] [(9, .c (.ptr 40960 2 0))] [] ⟨Y, trivial⟩ ⟨Y, trivial⟩ Y (Ko Y Y Y Y (Kdb (Kc (Kf Y Y (Ke Y Y Y ?_))))))))))))))
    refine Ku true (ok_spec_l3ownAll D.slots[i].rrs hDr) ⟨rd_subS rfl hiD rfl, trivial⟩ Y Y Y (fun _ => ?_)
    refine Ka Y (Kdb (Kbc (Ka Y (Kd (Kt ?_)))))
    obtain ⟨m, em⟩ : ∃ m, m = D.slots[i].til - c.now := ⟨_, rfl⟩
    rw [← em]
    refine kLoop (α := { y : Nat × List Rr // y.1 ≤ D.slots[i].rrs.length ∧ y.2 = (D.slots[i].rrs.take y.1).map (cutTtl m) ++ D.slots[i].rrs.drop y.1 }) (fun y => ⟨tabSl [(0, .c (.ptr 0 0 0)), (9, .c (.ptr (rid 9 0) 1 0)), (10, .c (.arr (rid 52 0) 1)), (11, .i y.1.1)], obTab 1 [(0, ⟨0, 0, .box [.d (.sc (.int .i64 c.now)), .d (.sc (.int .i64 D.turn)), .arr 1 1]⟩), (1, ⟨1, 0, .arr false (encS D.slots)⟩), (rid 9 0, ⟨1, 0, .box [.any, .any, .d (.sc (.int .i64 D.slots[i].kind)), .any, .any, .d (.sc (.int .i64 D.slots[i].til)), .any]⟩), (rid 52 0, ⟨1, 0, .arr true (encR y.1.2)⟩)], []⟩) (fun y => D.slots[i].rrs.length - y.1.1) ⟨(0, D.slots[i].rrs), Nat.zero_le _, by simp⟩ .normA ?_
    rintro ⟨⟨j, V⟩, hj, hV⟩
    simp only at hj hV ⊢
    have hVl : V.length = D.slots[i].rrs.length := by rw [hV]; simp; omega
    have hrl := hDr.len
    rcases Nat.lt_or_ge j D.slots[i].rrs.length with hlt | hge
    · have hjV : j < V.length := by omega
      have hVj : V[j] = D.slots[i].rrs[j] := by
        simp only [hV]
        rw [List.getElem_append_right (by simp; omega)]
        simp; congr 1; omega
      have hstep : V.set j (cutTtl m D.slots[i].rrs[j]) = (D.slots[i].rrs.take (j + 1)).map (cutTtl m) ++ D.slots[i].rrs.drop (j + 1) := by
        rw [hV, List.set_append_right _ _ (by simp; omega)]
        rw [show j - (List.map (cutTtl m) (List.take j D.slots[i].rrs)).length = 0 by simp; omega, List.drop_eq_getElem_cons hlt, List.set_cons_zero, ← List.take_append_getElem hlt, List.map_append]
        simp
      refine Kb (Kbc (Ka Y (Ka Y (Kq Y Y (Kj Y Y Y (Kd (Km Y (fun g0 => Kn (Kb (Kt (Kb (kRegD (Kf Y Y (Ke Y Y Y (Ka Y (kNck Y Y (Kf Y Y (Ke Y Y Y (kMem [(217088, ⟨1, 0, .arr true _⟩)] [(60, .c (.d _)), (64, .c (.d _)), (10, .c (.arr 217088 1)), (11, .c (.d _))] [0, 40960] ⟨Y, trivial⟩ ⟨Y, Y, Y, Y, trivial⟩ Y (kDif Y Y om (Ka Y (Ka Y (kIadAR Y Y Y Y prl (kFadE Y Y (kLoadER Y Y prl rfl (Kj Y Y Y (Kd (kH (Km Y (fun g1 => kRegD (Ka Y (Ka Y (Kf Y Y (Ke Y Y Y (Ka Y (kNck Y Y (Kf Y Y (Ke Y Y Y (kDif Y Y om (kIadAR Y Y Y Y prl (kFadE Y Y (Ks Y Y ?_))))))))))))) (fun g1 => Kn (Kv (Kc (Ka Y (kAdd Y Y om (Ka Y (Kd ?_))))))))))))))))))))))))))))) (fun g0 => om))))))))
      · refine kStoreER (f := Rr.cells) (l := V) (i := j) (z := { V[j] with ttl := D.slots[i].til - c.now }) Y Y Y Y Y Y Y hjV rfl ?_
        have he : cutTtl m D.slots[i].rrs[j] = { V[j] with ttl := D.slots[i].til - c.now } := by rw [← hVj, em]; unfold cutTtl; rw [if_pos (by assumption)]
        refine Kd (kH (Kv (Kc (Ka Y (kAdd Y Y om (Ka Y (Kd ?_)))))))
        exact kInv ⟨⟨(j + 1, V.set j { V[j] with ttl := D.slots[i].til - c.now }), by omega, by rw [← he]; exact hstep⟩, by simp only; omega, .normA⟩
      · have he : cutTtl m D.slots[i].rrs[j] = V[j] := by rw [← hVj, em]; unfold cutTtl; rw [if_neg (by assumption)]
        exact kInv ⟨⟨(j + 1, V), by omega, by rw [← hstep, he, List.set_getElem_self]⟩, by simp only; omega, .normA⟩
    · have hjL : j = D.slots[i].rrs.length := by omega
      have hVe : V = D.slots[i].rrs.map (cutTtl m) := by rw [hV, hjL]; simp
      refine Kb (Kbc (Ka Y (Ka Y (Kq Y Y (Kj Y Y Y (Kd (Km Y (fun g0 => om) (fun g0 => kExit (kExC (kExI (kExB (Kb (kRegD (Ka Y (Kf Y Y (Ke Y Y Y (Ka Y (Ka Y (Kd (kH ?_))))))))))))))))))))
      refine kSub (Sub.frz (j := 6) rfl rfl (leb)) ?_
      exact Kr (endSR [(6, .dv (encR V)), (7, .i D.slots[i].kind)] [(0, .box [.d (.sc (.int .i64 c.now)), .d (.sc (.int .i64 D.turn)), .arr 1 1]), (1, .arr false (encS D.slots))] [.one (.d (encR V)), .one (.d (.sc (.int .i64 D.slots[i].kind)))] .normA ⟨(), trivial, by rw [hVe], by unfold cacheLo; rw [c1]⟩)

def c_spec_l10own : C := (.g (.o 0 1 (.box 1 (.t 0)) (.o 1 2 (.alloc 2 [(.i 0), (.i 0), (.n 7)]) .done)) (.g (.o 0 6 (.fad (.t 1) 0) (.o 1 7 (.load none (.t 6)) (.o 2 8 (.fad (.t 1) 1) (.o 3 9 (.load none (.t 8)) (.o 4 10 (.build [(.i 0), (.i 0), (.n 7)] [(0, 1, (.t 7)), (1, 1, (.t 9))]) (.o 5 3 (.alloc 3 [(.i 0), (.i 0), (.n 7)]) (.op 6 [] none none false (.store (some 3) (.t 3) (.t 10)) .done))))))) (.seq (.g (.o 0 4 (.mov (.i 0)) .done) (.block 0 (.loop (.seq (.g (.o 0 11 (.mov (.t 4)) (.o 1 12 (.fad (.t 1) 2) (.o 2 13 (.load none (.t 12)) (.o 3 14 (.len (.t 13)) (.o 4 15 (.bin .lss (.t 11) (.t 14)) .done))))) (.cond (.t 15) .skip (.exit 0))) (.seq (.block 1 (.g (.o 0 18 (.fad (.t 1) 2) (.o 1 19 (.load none (.t 18)) (.o 2 20 (.mov (.t 4)) (.o 3 21 (.iad 7 (.t 19) (.t 20)) (.o 4 22 (.load (some 7) (.t 21)) (.o 5 5 (.alloc 5 [(.n 1), (.i 0), (.i 0), (.n 7), (.i 0), (.i 0), (.i 0)]) (.op 6 [] none none false (.store (some 7) (.t 5) (.t 22)) .done))))))) (.g (.o 0 23 (.fad (.t 5) 0) (.o 1 24 (.load (some 1) (.t 23)) (.o 2 25 (.call 25 175 [(.t 24)]) (.o 3 26 (.fad (.t 5) 0) (.op 4 [] none none false (.store (some 1) (.t 26) (.t 25)) .done))))) (.g (.o 0 27 (.fad (.t 5) 3) (.o 1 28 (.load none (.t 27)) (.o 2 29 (.call 29 176 [(.t 28)]) (.o 3 30 (.fad (.t 5) 3) (.op 4 [] none none false (.store none (.t 30) (.t 29)) .done))))) (.reg false (.o 0 31 (.fad (.t 3) 2) (.o 1 32 (.load none (.t 31)) (.o 2 33 (.load (some 7) (.t 5)) (.o 3 34 (.lit 34 7 [(.n 1), (.i 0), (.i 0), (.n 7), (.i 0), (.i 0), (.i 0)] 1 [(0, 7, (.t 33))]) (.o 4 35 (.app 35 7 88 (.t 32) (.t 34)) (.o 5 36 (.fad (.t 3) 2) (.op 6 [] none none false (.store none (.t 36) (.t 35)) .done)))))))))))) (.reg false (.o 0 16 (.mov (.t 4)) (.o 1 17 (.bin .add (.t 16) (.i 1)) (.o 2 4 (.mov (.t 17)) .done))))))))) (.g (.o 0 37 (.load (some 3) (.t 3)) (.op 1 [] none none false (.store (some 3) (.t 2) (.t 37)) .done)) .ret))))
theorem dg_spec_l10own : Tryz.f85.body.bind (digC Tryz.prog Tryz.f85.ntmps []) = some c_spec_l10own := by kernel_rfl
theorem rs_spec_l10own : resSlots Tryz.prog Tryz.f85 = some [.m 2 (some 3)] := by kernel_rfl
theorem ok_spec_l10own (c : Cache) (hs : SmallSs c.slots) :
    FnOK Tryz.prog 85 [.agg (c.cells.map .d)] (fun ra _ => ra = [.agg [.d (.sc (.int .i64 c.now)), .d (.sc (.int .i64 c.turn)), .own true (encS c.slots)]]) := by
  refine FnOK.ofK Tryz.func85 (by kernel_rfl) dg_spec_l10own rs_spec_l10own rfl rfl ?_
  delta c_spec_l10own T.o X.i C.g
  have h1 := hs.len
  have hm := hs.mem
  refine Kbc (kBox Y Y Y Y Y (kAlloc Y Y (Kdb (Kc (Kf Y Y (Ke Y Y Y (Kf Y Y (Ke Y Y Y (kBuildG Y (kAlloc Y Y (kMem [(16384, ⟨1, 0, .box [.d _, .d _, .nil 7]⟩)] [(3, .c (.ptr 16384 1 0)), (10, .g [.d _, .d _, .nil 7])] [] ⟨Y, trivial⟩ ⟨Y, Y, trivial⟩ Y (Ko Y Y Y Y (Kdb (Kbc (Ka Y (Kd (Kt ?_)))))))))))))))))
  refine kSub (Sub.nilBox (id := rid 3 0) (id2 := rid 5000 0) (j := 2) rfl rfl rfl (by decide) (by decide)) ?_
  refine kLoop (α := { i : Nat // i ≤ c.slots.length }) (fun y => ⟨tabSl [(1, .c (.ptr (rid 1 0) 1 0)), (2, .c (.ptr (rid 2 0) 1 0)), (3, .c (.ptr (rid 3 0) 1 0)), (4, .i y.1)], obTab 1 [(rid 1 0, ⟨1, 0, .box (c.cells.map .d)⟩), (rid 2 0, ⟨1, 0, .box [.d (.sc (.int .i64 0)), .d (.sc (.int .i64 0)), .nil 7]⟩), (rid 3 0, ⟨1, 0, .box [.d (.sc (.int .i64 c.now)), .d (.sc (.int .i64 c.turn)), .arr (rid 5000 0) 1]⟩), (rid 5000 0, ⟨1, 0, .arr true (encS (c.slots.take y.1))⟩)], []⟩) (fun y => c.slots.length - y.1) ⟨0, by simp⟩ .normA ?_
  rintro ⟨i, hi⟩
  simp only
  have hlen : (c.slots.take i).length = i := by simp; omega
  rcases Nat.lt_or_ge i c.slots.length with hlt | hge
  · have hbi := hm _ (List.getElem_mem hlt)
    have n1 := hbi.n.len
    have n2 := hbi.n.mem
    have r1 := hbi.r
    refine Kb (Kbc (Ka Y (Kf Y Y (Ke Y Y Y (Kq Y Y (Kj Y Y Y (Kd (Km Y (fun g0 => Kn (Kb (Kt (Kbc (Kf Y Y (Ke Y Y Y (Ka Y (kIadR Y Y Y prl (Ky Y Y (kAlloc Y Y (kMem [(24576, ⟨2, 0, .box [.nil 1, .d _, .d _, .nil 7, .d _, .d _, .d _]⟩)] [(5, .c (.ptr 24576 2 0)), (22, .g [.d _, .d _, .d _, .d _, .d _, .d _, .d _])] [] ⟨Y, trivial⟩ ⟨Y, Y, trivial⟩ Y (Ko Y Y Y Y (Kdb (Kc (Kf Y Y (Ke Y Y Y (Ku true (ok_spec_l2own _ prx prx) ⟨⟨⟨Y, trivial⟩, leb⟩, trivial⟩ Y Y Y (fun _ => (Kf Y Y (Ko Y Y Y Y (Kdb (Kc (Kf Y Y (Ke Y Y Y (kMem [(24576, ⟨2, 0, .box [.arr 106496 2, .d _, .d _, .d _, .d _, .d _, .d _]⟩), (106496, ⟨2, 0, .arr true _⟩)] [(28, .c (.d _)), (5, .c (.ptr 24576 2 0))] [] ⟨Y, Y, trivial⟩ ⟨Y, Y, trivial⟩ Y (Ku true (ok_spec_l3ownAll _ prx) ⟨Y, trivial⟩ Y Y Y (fun _ => (Kf Y Y (Ko Y Y Y Y (Kd (Kc (Kf Y Y (Ke Y Y Y (Ke Y Y Y (kLitG Y Y Y Y (kMem [(20484096, ⟨1, 0, .arr true _⟩), (143360, ⟨2, 0, .arr true _⟩), (16384, ⟨1, 0, .box [.d _, .d _, .arr 20484096 1]⟩)] [(32, .c (.arr 20484096 1)), (34, .c (.arr 143360 2)), (3, .c (.ptr 16384 1 0))] [] ⟨Y, Y, Y, trivial⟩ ⟨Y, Y, Y, trivial⟩ Y (kAppSlot Y Y Y Y Y Y Y prl (Kf Y Y (Ko Y Y Y Y (Kd (Kv (Kc (Ka Y (kAdd Y Y om (Ka Y (Kd ?_)))))))))))))))))))))))))))))))))))))))))))))) (fun g0 => om)))))))))
    exact kInv ⟨⟨i + 1, by omega⟩, by simp only; omega, .normA⟩
  · refine Kb (Kbc (Ka Y (Kf Y Y (Ke Y Y Y (Kq Y Y (Kj Y Y Y (Kd (Km Y (fun g0 => om) (fun g0 => kExit (kExC (kExI (kExB (Kbc (Ke Y Y Y (kMem [(12288, ⟨1, 0, .box [.d _, .d _, .nil 7]⟩), (20484096, ⟨1, 0, .arr true _⟩)] [(2, .c (.ptr 12288 1 0)), (37, .g [.d _, .d _, .arr 20484096 1])] [] ⟨Y, Y, trivial⟩ ⟨Y, Y, trivial⟩ Y (Ko Y Y Y Y (Kd (kMem [(12288, ⟨1, 0, .box [.d _, .d _, .arr 20484096 1]⟩), (20484096, ⟨1, 0, .arr true _⟩)] [(2, .c (.ptr 12288 1 0))] [] ⟨Y, Y, trivial⟩ ⟨Y, trivial⟩ Y (Kr (Er (ra := [.agg [(.d _), (.d _), (.own true _)]]) rfl ?_))))))))))))))))))))
    rw [show i = c.slots.length by omega, List.take_length]

theorem getC_CI {c : Cache} {n : List (List UInt8)} {t k : Int} (h : CI k c) : CI (k + 1) (getC c n t) := by
  unfold getC
  split
  · exact h.mono (by omega)
  · rename_i hf
    split
    · rcases findS_cases c.slots n t with e | ⟨i, hi, e⟩
      · exact absurd (by rw [e]; decide) hf
      · rw [slotAt_eq hi e, e, Int.toNat_natCast]
        obtain ⟨h1, h2, h3, h4, h5, h6, h7⟩ := h
        have hm := List.getElem_mem hi
        refine ⟨h1, by simp only; omega, by simp only; omega, by simp only; omega, by simp only [List.length_set]; exact h5, fun s hs => ?_, fun s hs => ?_⟩
        · rcases List.mem_or_eq_of_mem_set hs with h | rfl
          · exact h6 s h
          · exact ⟨(h6 _ hm).n, (h6 _ hm).r⟩
        · rcases List.mem_or_eq_of_mem_set hs with h | rfl
          · have := h7 s h
            omega
          · have := h7 _ hm
            simp only
            omega
    · exact h.mono (by omega)
theorem okd_spec_l2draw (c : Cu) :
    FnOK Tryz.prog 217 [.one (.box c.cells)] (fun ra os => ∃ x : List (List UInt8) × Cu, (nameOk x.1 = true) ∧ ra = [.agg [.d (encBB x.1)]] ∧ os.b 0 = x.2.cells) := by
  refine FnOK.ofK Tryz.func217 (by kernel_rfl) dg_spec_l2draw rs_spec_l2draw rfl rfl ?_
  delta c_spec_l2draw T.o X.i C.g
  refine Kbc (kAlloc Y Y (Kdb (Kc (kLitG Y Y Y Y (Ka Y (Kz (ok_spec_l1Below _ _) ⟨⟨rfl, _, rfl, rfl⟩, rfl, trivial⟩ Y Y Y (fun _ => rfl) (fun x0 hx0 => (kIadStr Y Y Y Y (by simp only [List.length_cons, List.length_nil]; omega) (kLoadStr Y Y Y (by simp only [List.length_cons, List.length_nil]; omega) rfl (fun b1 hb1 => (Ku true (ok_spec_l2of _ pry) ⟨Y, trivial⟩ Y Y Y (fun _ => (Ko Y Y Y Y (Kd (kSub (Sub.frzBox (rid 2 0) (rid 8 0) 0 rfl rfl rfl rfl rfl) (Kr (Er (ra := [.agg [(.d _)]]) rfl ?_)))))))))))))))))
  exact ⟨(readN b1.toList, x0.2), readN_ok _, rfl, rfl⟩
def c_spec_l10draw : C := (.g (.o 0 2 (.alloc 2 [(.i 0), (.i 0), (.n 7)]) .done) (.g (.o 0 3 (.alloc 3 [(.i 0), (.i 0), (.n 7)]) .done) (.g (.o 0 6 (.mov (.t 0)) (.o 1 7 (.call 7 117 [(.t 6), (.i 14)]) (.o 2 4 (.mov (.t 7)) .done))) (.seq (.g (.o 0 5 (.mov (.i 0)) .done) (.block 0 (.loop (.seq (.g (.o 0 8 (.mov (.t 5)) (.o 1 9 (.mov (.t 4)) (.o 2 10 (.bin .lss (.t 8) (.t 9)) .done))) (.cond (.t 10) .skip (.exit 0))) (.seq (.block 1 (.g (.o 0 13 (.mov (.t 0)) (.o 1 14 (.call 14 117 [(.t 13), (.i 5)]) .done)) (.block 2 (.seq (.g (.o 0 22 (.bin .eql (.t 14) (.i 0)) (.o 1 21 (.mov (.t 22)) .done)) (.cond (.t 21) .skip (.g (.o 0 23 (.bin .eql (.t 14) (.i 1)) (.o 1 21 (.mov (.t 23)) .done)) (.cond (.t 21) .skip (.reg false (.o 0 24 (.bin .eql (.t 14) (.i 2)) (.o 1 21 (.mov (.t 24)) .done))))))) (.cond (.t 21) (.reg false (.o 0 25 (.mov (.t 0)) (.o 1 26 (.call 26 147 [(.t 25)]) (.o 2 27 (.mov (.t 0)) (.o 3 28 (.call 28 117 [(.t 27), (.i 4)]) (.o 4 29 (.call 29 293 [(.t 3), (.t 26), (.t 28)]) .done)))))) (.g (.o 0 31 (.bin .eql (.t 14) (.i 3)) (.o 1 30 (.mov (.t 31)) .done)) (.cond (.t 30) (.reg false (.o 0 32 (.mov (.t 0)) (.o 1 33 (.call 33 217 [(.t 32)]) (.o 2 34 (.call 34 86 [(.t 3), (.t 33), (.i 1)]) .done)))) (.reg true (.op 0 [] (some 15) none true (.fad (.t 3) 0) (.op 1 [] (some 16) none true (.load none (.t 15)) (.op 2 [] (some 17) none true (.mov (.t 0)) (.o 3 18 (.call 18 117 [(.t 17), (.i 20)]) (.op 4 [] (some 19) none true (.bin .add (.t 16) (.t 18)) (.op 5 [1] (some 20) none false (.call 20 294 [(.t 3), (.t 19)]) .done)))))))))))))) (.reg false (.o 0 11 (.mov (.t 5)) (.o 1 12 (.bin .add (.t 11) (.i 1)) (.o 2 5 (.mov (.t 12)) .done))))))))) (.g (.o 0 35 (.load (some 3) (.t 3)) (.o 1 36 (.call 36 85 [(.t 35)]) (.op 2 [] none none false (.store (some 3) (.t 2) (.t 36)) .done))) .ret)))))
theorem dg_spec_l10draw : Tryz.f228.body.bind (digC Tryz.prog Tryz.f228.ntmps []) = some c_spec_l10draw := by kernel_rfl
theorem rs_spec_l10draw : resSlots Tryz.prog Tryz.f228 = some [.m 2 (some 3)] := by kernel_rfl
theorem ok_spec_l10draw (c : Cu) :
    FnOK Tryz.prog 228 [.one (.box c.cells)] (fun ra os => ∃ x : Cache × Cu, CI 14 x.1 ∧ ra = [.agg [.d (.sc (.int .i64 x.1.now)), .d (.sc (.int .i64 x.1.turn)), .own true (encS x.1.slots)]] ∧ os.b 0 = x.2.cells) := by
  refine FnOK.ofK Tryz.func228 (by kernel_rfl) dg_spec_l10draw rs_spec_l10draw rfl rfl ?_
  delta c_spec_l10draw T.o X.i C.g
  refine Kbc (kAlloc Y Y (Kdb (Kc (kAlloc Y Y (Kdb (Kc (Ka Y (Kz (ok_spec_l1Below _ _) ⟨⟨rfl, _, rfl, rfl⟩, rfl, trivial⟩ Y Y Y (fun _ => rfl) (fun x0 hx0 => (Ka Y (Kdb (Kbc (Ka Y (Kd (Kt ?_)))))))))))))))
  refine kSub (Sub.nilBox (id := rid 3 0) (id2 := rid 5000 0) (j := 2) (sz := 7) rfl rfl rfl (by decide) (by decide)) ?_
  refine kLoop (α := { y : (Nat × Cache) × Cu // (y.1.1 : Int) ≤ x0.1 ∧ CI y.1.1 y.1.2 }) (fun y => ⟨tabSl [(0, .c (.ptr 0 0 0)), (2, .c (.ptr (rid 2 0) 1 0)), (3, .c (.ptr (rid 3 0) 1 0)), (4, .i x0.1), (5, .i y.1.1.1)], obTab 1 [(0, ⟨0, 0, .box (y.1.2.cells.map .d)⟩), (rid 2 0, ⟨1, 0, .box [.d (.sc (.int .i64 0)), .d (.sc (.int .i64 0)), .nil 7]⟩), (rid 3 0, ⟨1, 0, .box [.d (.sc (.int .i64 y.1.1.2.now)), .d (.sc (.int .i64 y.1.1.2.turn)), .arr (rid 5000 0) 1]⟩), (rid 5000 0, ⟨1, 0, .arr false (encS y.1.1.2.slots)⟩)], []⟩) (fun y => (x0.1 - y.1.1.1).toNat) ⟨((0, ⟨0, 0, []⟩), x0.2), by simp only; omega, ⟨Int.le_refl 0, Int.le_refl 0, Int.le_refl 0, Int.le_refl 0, Nat.zero_le 8, nofun, nofun⟩⟩ .normA ?_
  rintro ⟨⟨⟨i, z⟩, cu⟩, hi, hz⟩
  simp only at hi hz ⊢
  rcases Int.lt_or_le (i : Int) x0.1 with hlt | hge
  · have hss := hz.ss
    have hll := hss.len
    obtain ⟨c1, c2, c3, c4, c5, c6, c7⟩ := id hz
    have hstopo33 := trivial
    refine Kb (Kbc (Ka Y (Ka Y (Kj Y Y Y (Kd (Km Y (fun g1 => Kn (Kb (Kt (Kbc (Ka Y (Kz (ok_spec_l1Below _ _) ⟨⟨rfl, _, rfl, rfl⟩, rfl, trivial⟩ Y Y Y (fun _ => rfl) (fun x2 hx2 => (Kd (Kt (Kb (Kbc (Kj Y Y Y (Ka Y (Kd (Km Y (fun g3 => Kn (Km Y (fun g4 => Kc (Ka Y (Kz (ok_spec_l10rrs _) ⟨⟨rfl, _, rfl, rfl⟩, trivial⟩ Y Y Y (fun _ => rfl) (fun x5 hx5 => (Ka Y (kMem [(0, ⟨0, 2, .box [.d _, .d _, .d _]⟩), (16384, ⟨1, 0, .box [.d _, .d _, .arr 20484096 1]⟩), (20484096, ⟨1, 0, .arr false _⟩)] [(27, .c (.ptr 0 0 0)), (3, .c (.ptr 16384 1 0)), (26, .c (.d _))] [] ⟨Y, Y, Y, trivial⟩ ⟨Y, Y, Y, trivial⟩ Y (Kz (ok_spec_l1Below _ _) ⟨⟨rfl, _, rfl, rfl⟩, rfl, trivial⟩ Y Y Y (fun _ => rfl) (fun x6 hx6 => ?_)))))))) (fun g4 => om))) (fun g3 => Kbc (Kj Y Y Y (Ka Y (Kd (Km Y (fun g7 => Kn (Km Y (fun g8 => Kc (Ka Y (Kz (ok_spec_l10rrs _) ⟨⟨rfl, _, rfl, rfl⟩, trivial⟩ Y Y Y (fun _ => rfl) (fun x9 hx9 => (kMem [(0, ⟨0, 2, .box [.d _, .d _, .d _]⟩), (16384, ⟨1, 0, .box [.d _, .d _, .arr 20484096 1]⟩), (20484096, ⟨1, 0, .arr false _⟩)] [(0, .c (.ptr 0 0 0)), (3, .c (.ptr 16384 1 0)), (26, .c (.d _))] [] ⟨Y, Y, Y, trivial⟩ ⟨Y, Y, Y, trivial⟩ Y (Ka Y (Kz (ok_spec_l1Below _ _) ⟨⟨rfl, _, rfl, rfl⟩, rfl, trivial⟩ Y Y Y (fun _ => rfl) (fun x10 hx10 => ?_)))))))) (fun g8 => om))) (fun g7 => Kc (Kj Y Y Y (Ka Y (Kd (Km Y (fun g11 => Kc (kMem [(0, ⟨0, 1, .box [.d _, .d _, .d _]⟩), (16384, ⟨1, 0, .box [.d _, .d _, .arr 20484096 1]⟩), (20484096, ⟨1, 0, .arr false _⟩)] [(0, .c (.ptr 0 0 0)), (3, .c (.ptr 16384 1 0))] [] ⟨Y, Y, Y, trivial⟩ ⟨Y, Y, trivial⟩ Y (Ka Y (Kz (ok_spec_l10rrs _) ⟨⟨rfl, _, rfl, rfl⟩, trivial⟩ Y Y Y (fun _ => rfl) (fun x12 hx12 => (Ka Y (Kz (ok_spec_l1Below _ _) ⟨⟨rfl, _, rfl, rfl⟩, rfl, trivial⟩ Y Y Y (fun _ => rfl) (fun x13 hx13 => ?_)))))))) (fun g11 => Kbc (Kj Y Y Y (Ka Y (Kd (Km Y (fun g14 => ?_) (fun g14 => kRegD (kMem [(16384, ⟨1, 0, .box [.d _, .d _, .arr 20484096 1]⟩), (0, ⟨0, 1, .box [.d _, .d _, .d _]⟩), (20484096, ⟨1, 0, .arr false _⟩)] [(3, .c (.ptr 16384 1 0)), (0, .c (.ptr 0 0 0))] [] ⟨Y, Y, Y, trivial⟩ ⟨Y, Y, trivial⟩ Y (Kf Y Y (Ke Y Y Y (Ka Y (Kz (ok_spec_l1Below _ _) ⟨⟨rfl, _, rfl, rfl⟩, rfl, trivial⟩ Y Y Y (fun _ => rfl) (fun x15 hx15 => (kAdd Y Y om (Ks Y Y ?_))))))))))))))))))))))))))))))))))))))) (fun g1 => om)))))))
    · obtain ⟨⟨e1, e2⟩, e3⟩ := id hx5
      have e4 := e3 _ (List.getElem_mem e1)
      refine kCallO [(0, rid 3 0), (1, rid 5000 0)] (os_spec_l10put z x5.1 x6.1 i hz om ⟨by omega, fun r hr => (e3 r hr).1⟩ e1 e4.2) (fun x hx => ?_)
      refine Kd (Kv (Kv (Kc (Ka Y (kAdd Y Y om (Ka Y (Kd ?_)))))))
      exact kInv ⟨⟨((i + 1, x.1), x6.2), by simp only; omega, by simpa using hx⟩, by simp only; omega, .normA⟩
    · obtain ⟨⟨e1, e2⟩, e3⟩ := id hx9
      have e4 := e3 _ (List.getElem_mem e1)
      refine kCallO [(0, rid 3 0), (1, rid 5000 0)] (os_spec_l10put z x9.1 x10.1 i hz om ⟨by omega, fun r hr => (e3 r hr).1⟩ e1 e4.2) (fun x hx => ?_)
      refine Kd (Kv (Kv (Kc (Ka Y (kAdd Y Y om (Ka Y (Kd ?_)))))))
      exact kInv ⟨⟨((i + 1, x.1), x10.2), by simp only; omega, by simpa using hx⟩, by simp only; omega, .normA⟩
    · obtain ⟨⟨e1, e2⟩, e3⟩ := id hx12
      have e4 := e3 _ (List.getElem_mem e1)
      refine kCallO [(0, rid 3 0), (1, rid 5000 0)] (os_spec_l10put z x12.1 x13.1 i hz om ⟨by omega, fun r hr => (e3 r hr).1⟩ e1 e4.2) (fun x hx => ?_)
      refine Kd (Kv (Kv (Kc (Ka Y (kAdd Y Y om (Ka Y (Kd ?_)))))))
      exact kInv ⟨⟨((i + 1, x.1), x13.2), by simp only; omega, by simpa using hx⟩, by simp only; omega, .normA⟩
    · clear hstopo33
      refine Kc (Ka Y (Kz (okd_spec_l2draw _) ⟨⟨rfl, _, rfl, rfl⟩, trivial⟩ Y Y Y (fun _ => rfl) (fun x15 hx15 => ?_)))
      have hnl := nameOk_len hx15
      refine kMem [(16384, ⟨1, 0, .box [.d _, .d _, .arr 20484096 1]⟩), (20484096, ⟨1, 0, .arr false _⟩)] [(3, .c (.ptr 16384 1 0)), (33, .g [.d _])] [] ⟨Y, Y, trivial⟩ ⟨Y, Y, trivial⟩ Y ?_
      refine kCallO [(0, rid 3 0), (1, rid 5000 0)] (os_spec_l10get z x15.1 1 hss om ⟨c1, c3, by omega⟩ (fun s hs => by have := c7 s hs; omega)) (fun _ _ => ?_)
      refine Kd (Kv (Kv (Kc (Ka Y (kAdd Y Y om (Ka Y (Kd ?_)))))))
      exact kInv ⟨⟨((i + 1, getC z x15.1 1), x15.2), by simp only; omega, by simpa using getC_CI hz⟩, by simp only; omega, .normA⟩
    · refine kCallO [(0, rid 3 0), (1, rid 5000 0)] (os_spec_l10tick z (z.now + x15.1) i hz om) (fun x hx => ?_)
      refine Kd (kH (Kv (Kv (Kc (Ka Y (kAdd Y Y om (Ka Y (Kd ?_))))))))
      exact kInv ⟨⟨((i + 1, x.1), x15.2), by simp only; omega, by simpa using hx⟩, by simp only; omega, .normA⟩
  · have hss := hz.ss
    refine Kb (Kbc (Ka Y (Ka Y (Kj Y Y Y (Kd (Km Y (fun g1 => om) (fun g1 => kExit (kExC (kExI (kExB (Kbc (Ke Y Y Y (Ku true (ok_spec_l10own _ prx) ⟨⟨⟨Y, Y, Y, trivial⟩, leb⟩, trivial⟩ Y Y Y (fun _ => (kMem [(12288, ⟨1, 0, .box [.d _, .d _, .nil 7]⟩), (151554, ⟨2, 0, .arr true _⟩)] [(2, .c (.ptr 12288 1 0)), (36, .g [.d _, .d _, .arr 151554 2])] [] ⟨Y, Y, trivial⟩ ⟨Y, Y, trivial⟩ Y (Ko Y Y Y Y (Kd (kMem [(12288, ⟨1, 0, .box [.d _, .d _, .arr 151554 2]⟩), (151554, ⟨2, 0, .arr true _⟩)] [(2, .c (.ptr 12288 1 0))] [] ⟨Y, Y, trivial⟩ ⟨Y, trivial⟩ Y (Kr (Er (ra := [.agg [(.d _), (.d _), (.own true _)]]) rfl ?_))))))))))))))))))))
    exact ⟨(z, cu), hz.mono (by omega), rfl, rfl⟩

structure BentC (c : Cache) : Prop where
  n : -1 ≤ c.now ∧ c.now ≤ 1000001
  t : -1 ≤ c.turn ∧ c.turn ≤ 1000000
  len : c.slots.length ≤ 9
  sm : ∀ s ∈ c.slots, SmallS s
theorem BentC.ss {c : Cache} (h : BentC c) : SmallSs c.slots := ⟨by have := h.len; omega, h.sm⟩
theorem CI.bent {c : Cache} (h : CI 14 c) : BentC c := ⟨by have := h.n0; have := h.n1; omega, by have := h.t0; have := h.t1; omega, by have := h.len; omega, h.sm⟩
theorem BentC.set {c : Cache} (h : BentC c) {i : Nat} {s : Slot} (hs : SmallS s) : BentC ⟨c.now, c.turn, c.slots.set i s⟩ := ⟨h.n, h.t, by simp only [List.length_set]; exact h.len, fun x hx => by
  rcases List.mem_or_eq_of_mem_set hx with h' | rfl
  · exact h.sm x h'
  · exact hs⟩
def c_spec_l10bent : C := (.g (.o 0 2 (.alloc 2 [(.i 0), (.i 0), (.n 7)]) .done) (.g (.o 0 4 (.mov (.t 0)) (.o 1 5 (.call 5 228 [(.t 4)]) (.o 2 3 (.alloc 3 [(.i 0), (.i 0), (.n 7)]) (.op 3 [] none none false (.store (some 3) (.t 3) (.t 5)) .done)))) (.seq (.g (.o 0 6 (.mov (.t 0)) (.o 1 7 (.call 7 68 [(.t 6), (.i 8)]) .done)) (.cond (.t 7) (.g (.o 0 8 (.mov (.t 0)) (.o 1 9 (.call 9 117 [(.t 8), (.i 5)]) .done)) (.block 0 (.g (.o 0 21 (.bin .eql (.t 9) (.i 0)) (.o 1 20 (.mov (.t 21)) .done)) (.cond (.t 20) (.reg false (.o 0 22 (.mov (.t 0)) (.o 1 23 (.lit 23 1 [(.i 0)] 3 [(0, 1, (.i (-1))), (1, 1, (.i 1000000)), (2, 1, (.i 1000001))]) (.o 2 24 (.call 24 118 [(.t 22), (.t 23)]) (.o 3 25 (.fad (.t 3) 0) (.op 4 [] none none false (.store none (.t 25) (.t 24)) .done)))))) (.g (.o 0 27 (.bin .eql (.t 9) (.i 1)) (.o 1 26 (.mov (.t 27)) .done)) (.cond (.t 26) (.reg false (.o 0 28 (.mov (.t 0)) (.o 1 29 (.lit 29 1 [(.i 0)] 3 [(0, 1, (.i (-1))), (1, 1, (.i 0)), (2, 1, (.i 1000000))]) (.o 2 30 (.call 30 118 [(.t 28), (.t 29)]) (.o 3 31 (.fad (.t 3) 1) (.op 4 [] none none false (.store none (.t 31) (.t 30)) .done)))))) (.g (.o 0 33 (.bin .eql (.t 9) (.i 2)) (.o 1 32 (.mov (.t 33)) .done)) (.cond (.t 32) (.g (.o 0 34 (.fad (.t 3) 2) (.o 1 35 (.load none (.t 34)) (.o 2 36 (.len (.t 35)) (.o 3 37 (.bin .gtr (.t 36) (.i 0)) .done)))) (.cond (.t 37) (.reg true (.op 0 [] (some 38) none true (.fad (.t 3) 2) (.op 1 [] (some 39) none true (.load none (.t 38)) (.op 2 [] (some 40) none true (.fad (.t 3) 2) (.op 3 [] (some 41) none true (.load none (.t 40)) (.op 4 [] (some 42) none true (.iad 7 (.t 41) (.i 0)) (.op 5 [] (some 43) none true (.load (some 7) (.t 42)) (.op 6 [5, 3] (some 44) none false (.lit 44 7 [(.n 1), (.i 0), (.i 0), (.n 7), (.i 0), (.i 0), (.i 0)] 1 [(0, 7, (.t 43))]) (.op 7 [1, 5, 3] (some 45) none false (.app 45 7 88 (.t 39) (.t 44)) (.op 8 [] (some 46) none true (.fad (.t 3) 2) (.op 9 [1, 3, 5] none none false (.store none (.t 46) (.t 45)) .done))))))))))) .skip)) (.g (.o 0 48 (.bin .eql (.t 9) (.i 3)) (.o 1 47 (.mov (.t 48)) .done)) (.cond (.t 47) (.g (.o 0 49 (.fad (.t 3) 2) (.o 1 50 (.load none (.t 49)) (.o 2 51 (.len (.t 50)) (.o 3 52 (.bin .gtr (.t 51) (.i 0)) .done)))) (.cond (.t 52) (.reg true (.op 0 [] (some 53) none true (.fad (.t 3) 2) (.op 1 [] (some 54) none true (.load none (.t 53)) (.op 2 [] (some 55) none true (.mov (.t 0)) (.op 3 [] (some 56) none true (.fad (.t 3) 0) (.op 4 [] (some 57) none true (.load none (.t 56)) (.op 5 [] (some 58) none true (.bin .add (.t 57) (.i 1000)) (.op 6 [] (some 59) none true (.bin .add (.t 58) (.i 1)) (.op 7 [4] (some 60) none false (.lit 60 1 [(.i 0)] 2 [(0, 1, (.i 0)), (1, 1, (.t 59))]) (.op 8 [4] (some 61) none false (.call 61 118 [(.t 55), (.t 60)]) (.op 9 [] (some 62) none true (.iad 7 (.t 54) (.i 0)) (.op 10 [] (some 63) none true (.fad (.t 62) 5) (.op 11 [1, 4] none none false (.store none (.t 63) (.t 61)) .done))))))))))))) .skip)) (.g (.o 0 10 (.fad (.t 3) 2) (.o 1 11 (.load none (.t 10)) (.o 2 12 (.len (.t 11)) (.o 3 13 (.bin .gtr (.t 12) (.i 0)) .done)))) (.cond (.t 13) (.reg true (.op 0 [] (some 14) none true (.fad (.t 3) 2) (.op 1 [] (some 15) none true (.load none (.t 14)) (.op 2 [] (some 16) none true (.mov (.t 0)) (.o 3 17 (.call 17 117 [(.t 16), (.i 5)]) (.op 4 [] (some 18) none true (.iad 7 (.t 15) (.i 0)) (.op 5 [] (some 19) none true (.fad (.t 18) 2) (.op 6 [1] none none false (.store none (.t 19) (.t 17)) .done)))))))) .skip)))))))))))) .skip)) (.g (.o 0 64 (.load (some 3) (.t 3)) (.op 1 [] none none false (.store (some 3) (.t 2) (.t 64)) .done)) .ret))))
theorem dg_spec_l10bent : Tryz.f137.body.bind (digC Tryz.prog Tryz.f137.ntmps []) = some c_spec_l10bent := by kernel_rfl
theorem rs_spec_l10bent : resSlots Tryz.prog Tryz.f137 = some [.m 2 (some 3)] := by kernel_rfl
theorem ok_spec_l10bent (c : Cu) :
    FnOK Tryz.prog 137 [.one (.box c.cells)] (fun ra os => ∃ x : Cache × Cu, BentC x.1 ∧ ra = [.agg [.d (.sc (.int .i64 x.1.now)), .d (.sc (.int .i64 x.1.turn)), .d (encS x.1.slots)]] ∧ os.b 0 = x.2.cells) := by
  refine FnOK.ofK Tryz.func137 (by kernel_rfl) dg_spec_l10bent rs_spec_l10bent rfl rfl ?_
  delta c_spec_l10bent T.o X.i C.g
  have hstopo7 := trivial
  have hstopo45 := trivial
  have hstopo63 := trivial
  have hstopo19 := trivial
  refine Kbc (kAlloc Y Y (Kdb (Kc (Ka Y (Kz (ok_spec_l10draw _) ⟨⟨rfl, _, rfl, rfl⟩, trivial⟩ Y Y Y (fun _ => rfl) (fun x0 hx0 => (kAlloc Y Y (kMem [(16384, ⟨1, 0, .box [.d _, .d _, .nil 7]⟩), (24578, ⟨1, 0, .arr true _⟩)] [(3, .c (.ptr 16384 1 0)), (5, .g [.d _, .d _, .arr 24578 1])] [] ⟨Y, Y, trivial⟩ ⟨Y, Y, trivial⟩ Y (Ko Y Y Y Y (Kdb (Kb ?_)))))))))))
  clear hstopo7
  have hb := hx0.bent
  have hss := hb.ss
  have hll := hb.len
  obtain ⟨hn1, hn2⟩ := hb.n
  obtain ⟨ht1, ht2⟩ := hb.t
  refine Kc (Ka Y (Kz (ok_spec_l1Once _ _) ⟨⟨rfl, _, rfl, rfl⟩, rfl, trivial⟩ Y Y Y (fun _ => rfl) (fun x1 hx1 => (Kd (kCond Y (fun g2 => Kbc (Ka Y (Kz (ok_spec_l1Below _ _) ⟨⟨rfl, _, rfl, rfl⟩, rfl, trivial⟩ Y Y Y (fun _ => rfl) (fun x3 hx3 => (Kd (Kt (Kbc (Kj Y Y Y (Ka Y (Kd (Km Y (fun g4 => Kc (Ka Y (kLitD Y Y Y Y (kMem [(0, ⟨0, 3, .box [.d _, .d _, .d _]⟩), (16384, ⟨1, 0, .box [.d _, .d _, .arr 24578 1]⟩), (24578, ⟨1, 0, .arr true _⟩)] [(22, .c (.ptr 0 0 0)), (23, .c (.d _)), (3, .c (.ptr 16384 1 0)), (25, .c (.un)), (24, .c (.un))] [] ⟨Y, Y, Y, trivial⟩ ⟨Y, Y, Y, Y, Y, trivial⟩ Y (Kz (ok_spec_l1PickInt _ _ prx prx prx) ⟨⟨rfl, _, rfl, rfl⟩, rfl, trivial⟩ Y Y Y (fun _ => rfl) (fun x5 hx5 => (Kf Y Y (Ko Y Y Y Y (Kd (Kv (Kbc (Ke Y Y Y (kMem [(12288, ⟨1, 0, .box [.d _, .d _, .nil 7]⟩), (24578, ⟨1, 0, .arr true _⟩)] [(2, .c (.ptr 12288 1 0)), (64, .g [.d _, .d _, .arr 24578 1])] [] ⟨Y, Y, trivial⟩ ⟨Y, Y, trivial⟩ Y (Ko Y Y Y Y (Kd (kMem [(12288, ⟨1, 0, .box [.d _, .d _, .arr 24578 1]⟩), (24578, ⟨1, 0, .arr true _⟩)] [(2, .c (.ptr 12288 1 0))] [] ⟨Y, Y, trivial⟩ ⟨Y, trivial⟩ Y (Kr (Er (ra := [.agg [(.d _), (.d _), (.d _)]]) rfl ?_)))))))))))))))))) (fun g4 => Kbc (Kj Y Y Y (Ka Y (Kd (Km Y (fun g6 => Kc (kMem [(0, ⟨0, 3, .box [.d _, .d _, .d _]⟩), (16384, ⟨1, 0, .box [.d _, .d _, .arr 24578 1]⟩), (24578, ⟨1, 0, .arr true _⟩)] [(0, .c (.ptr 0 0 0)), (28, .c (.un)), (29, .c (.un)), (3, .c (.ptr 16384 1 0)), (31, .c (.un)), (30, .c (.un))] [] ⟨Y, Y, Y, trivial⟩ ⟨Y, Y, Y, Y, Y, Y, trivial⟩ Y (Ka Y (kLitD Y Y Y Y (Kz (ok_spec_l1PickInt _ _ prx prx prx) ⟨⟨rfl, _, rfl, rfl⟩, rfl, trivial⟩ Y Y Y (fun _ => rfl) (fun x7 hx7 => (Kf Y Y (Ko Y Y Y Y (Kd (Kv (Kbc (Ke Y Y Y (kMem [(12288, ⟨1, 0, .box [.d _, .d _, .nil 7]⟩), (24578, ⟨1, 0, .arr true _⟩)] [(2, .c (.ptr 12288 1 0)), (64, .g [.d _, .d _, .arr 24578 1])] [] ⟨Y, Y, trivial⟩ ⟨Y, Y, trivial⟩ Y (Ko Y Y Y Y (Kd (kMem [(12288, ⟨1, 0, .box [.d _, .d _, .arr 24578 1]⟩), (24578, ⟨1, 0, .arr true _⟩)] [(2, .c (.ptr 12288 1 0))] [] ⟨Y, Y, trivial⟩ ⟨Y, trivial⟩ Y (Kr (Er (ra := [.agg [(.d _), (.d _), (.d _)]]) rfl ?_)))))))))))))))))) (fun g6 => Kbc (Kj Y Y Y (Ka Y (Kd (Km Y (fun g8 => Kbc (kMem [(16384, ⟨1, 0, .box [.d _, .d _, .arr 24578 1]⟩), (24578, ⟨1, 0, .arr true _⟩)] [(3, .c (.ptr 16384 1 0)), (34, .c (.un)), (35, .c (.un)), (36, .c (.un))] [] ⟨Y, Y, trivial⟩ ⟨Y, Y, Y, Y, trivial⟩ Y (Kf Y Y (Ke Y Y Y (Kq Y Y (Kj Y Y Y (Kd (Km Y (fun g9 => ?_) (fun g9 => Kn (Kv (Kbc (Ke Y Y Y (kMem [(12288, ⟨1, 0, .box [.d _, .d _, .nil 7]⟩), (24578, ⟨1, 0, .arr true _⟩)] [(2, .c (.ptr 12288 1 0)), (64, .g [.d _, .d _, .arr 24578 1])] [] ⟨Y, Y, trivial⟩ ⟨Y, Y, trivial⟩ Y (Ko Y Y Y Y (Kd (kMem [(12288, ⟨1, 0, .box [.d _, .d _, .arr 24578 1]⟩), (24578, ⟨1, 0, .arr true _⟩)] [(2, .c (.ptr 12288 1 0))] [] ⟨Y, Y, trivial⟩ ⟨Y, trivial⟩ Y (Kr (Er (ra := [.agg [(.d _), (.d _), (.d _)]]) rfl ?_)))))))))))))))))) (fun g8 => Kbc (Kj Y Y Y (Ka Y (Kd (Km Y (fun g10 => Kbc (kMem [(16384, ⟨1, 0, .box [.d _, .d _, .arr 24578 1]⟩), (24578, ⟨1, 0, .arr true _⟩)] [(3, .c (.ptr 16384 1 0)), (49, .c (.un)), (50, .c (.un)), (51, .c (.un))] [] ⟨Y, Y, trivial⟩ ⟨Y, Y, Y, Y, trivial⟩ Y (Kf Y Y (Ke Y Y Y (Kq Y Y (Kj Y Y Y (Kd (Km Y (fun g11 => ?_) (fun g11 => Kn (Kv (Kbc (Ke Y Y Y (kMem [(12288, ⟨1, 0, .box [.d _, .d _, .nil 7]⟩), (24578, ⟨1, 0, .arr true _⟩)] [(2, .c (.ptr 12288 1 0)), (64, .g [.d _, .d _, .arr 24578 1])] [] ⟨Y, Y, trivial⟩ ⟨Y, Y, trivial⟩ Y (Ko Y Y Y Y (Kd (kMem [(12288, ⟨1, 0, .box [.d _, .d _, .arr 24578 1]⟩), (24578, ⟨1, 0, .arr true _⟩)] [(2, .c (.ptr 12288 1 0))] [] ⟨Y, Y, trivial⟩ ⟨Y, trivial⟩ Y (Kr (Er (ra := [.agg [(.d _), (.d _), (.d _)]]) rfl ?_)))))))))))))))))) (fun g10 => Kbc (kMem [(16384, ⟨1, 0, .box [.d _, .d _, .arr 24578 1]⟩), (24578, ⟨1, 0, .arr true _⟩)] [(3, .c (.ptr 16384 1 0)), (10, .c (.un)), (11, .c (.un)), (12, .c (.un))] [] ⟨Y, Y, trivial⟩ ⟨Y, Y, Y, Y, trivial⟩ Y (Kf Y Y (Ke Y Y Y (Kq Y Y (Kj Y Y Y (Kd (Km Y (fun g12 => ?_) (fun g12 => Kn (Kv (Kbc (Ke Y Y Y (kMem [(12288, ⟨1, 0, .box [.d _, .d _, .nil 7]⟩), (24578, ⟨1, 0, .arr true _⟩)] [(2, .c (.ptr 12288 1 0)), (64, .g [.d _, .d _, .arr 24578 1])] [] ⟨Y, Y, trivial⟩ ⟨Y, Y, trivial⟩ Y (Ko Y Y Y Y (Kd (kMem [(12288, ⟨1, 0, .box [.d _, .d _, .arr 24578 1]⟩), (24578, ⟨1, 0, .arr true _⟩)] [(2, .c (.ptr 12288 1 0))] [] ⟨Y, Y, trivial⟩ ⟨Y, trivial⟩ Y (Kr (Er (ra := [.agg [(.d _), (.d _), (.d _)]]) rfl ?_)))))))))))))))))))))))))))))))))))))))))))) (fun g2 => Kn (Kbc (Ke Y Y Y (kMem [(12288, ⟨1, 0, .box [.d _, .d _, .nil 7]⟩), (24578, ⟨1, 0, .arr true _⟩)] [(2, .c (.ptr 12288 1 0)), (64, .g [.d _, .d _, .arr 24578 1])] [] ⟨Y, Y, trivial⟩ ⟨Y, Y, trivial⟩ Y (Ko Y Y Y Y (Kd (kMem [(12288, ⟨1, 0, .box [.d _, .d _, .arr 24578 1]⟩), (24578, ⟨1, 0, .arr true _⟩)] [(2, .c (.ptr 12288 1 0))] [] ⟨Y, Y, trivial⟩ ⟨Y, trivial⟩ Y (Kr (Er (ra := [.agg [(.d _), (.d _), (.d _)]]) rfl ?_))))))))))))))
  · have hp : -1 ≤ x5.1 ∧ x5.1 ≤ 1000001 := by simp at hx5; omega
    exact ⟨(⟨x5.1, x0.1.turn, x0.1.slots⟩, x5.2), ⟨hp, hb.t, hb.len, hb.sm⟩, rfl, rfl⟩
  · have hp : -1 ≤ x7.1 ∧ x7.1 ≤ 1000000 := by simp at hx7; omega
    exact ⟨(⟨x0.1.now, x7.1, x0.1.slots⟩, x7.2), ⟨hb.n, hp, hb.len, hb.sm⟩, rfl, rfl⟩
  · have h0 : 0 < x0.1.slots.length := by omega
    have h8 := hx0.len
    refine kSub (Sub.flat (rid 5 2) rfl rfl) ?_
    clear hstopo45
    refine kRegD (Kf Y Y (Ke Y Y Y (Kf Y Y (Ke Y Y Y (kIadAF (m := 0) Y Y Y Y prl (kLoadEF Y Y prl rfl (Kx Y Y (kLitG Y Y Y Y (kMem [(184320, ⟨1, 0, .arr false _⟩), (16384, ⟨1, 0, .box [.d _, .d _, .arr 24578 1]⟩)] [(39, .c (.arr 24578 1)), (44, .c (.arr 184320 1)), (3, .c (.ptr 16384 1 0)), (46, .c (.un)), (45, .c (.un))] [24578, 16384, 16384] ⟨Y, Y, trivial⟩ ⟨Y, Y, Y, Y, Y, trivial⟩ Y (Ks Y Y (kAppSlot Y Y Y Y Y Y Y prl (Kf Y Y (Ks Y Y (Ko Y Y Y Y (Kd (kH (Kv (Kbc (Ke Y Y Y (kMem [(12288, ⟨1, 0, .box [.d _, .d _, .nil 7]⟩), (24578, ⟨2, 0, .arr false _⟩)] [(2, .c (.ptr 12288 1 0)), (64, .g [.d _, .d _, .arr 24578 2])] [] ⟨Y, Y, trivial⟩ ⟨Y, Y, trivial⟩ Y (Ko Y Y Y Y (Kd (kMem [(12288, ⟨1, 0, .box [.d _, .d _, .arr 24578 2]⟩), (24578, ⟨2, 0, .arr false _⟩)] [(2, .c (.ptr 12288 1 0))] [] ⟨Y, Y, trivial⟩ ⟨Y, trivial⟩ Y (Kr (Er (ra := [.agg [(.d _), (.d _), (.d _)]]) rfl ?_)))))))))))))))))))))))))
    exact ⟨(⟨x0.1.now, x0.1.turn, x0.1.slots ++ [x0.1.slots[0]]⟩, x3.2), ⟨hb.n, hb.t, by simp; omega, fun s hs => by
      rcases List.mem_append.1 hs with h | h
      · exact hb.sm s h
      · simp only [List.mem_singleton] at h; rw [h]; exact hb.sm _ (List.getElem_mem h0)⟩, rfl, rfl⟩
  · exact ⟨(x0.1, x3.2), hb, rfl, rfl⟩
  · have h0 : 0 < x0.1.slots.length := by omega
    have hm0 := hb.sm _ (List.getElem_mem h0)
    clear hstopo63
    refine kRegD (Kf Y Y (Ke Y Y Y (Ka Y (Kf Y Y (Ke Y Y Y (kMem [(0, ⟨0, 3, .box [.d _, .d _, .d _]⟩), (24578, ⟨1, 0, .arr true _⟩)] [(57, .c (.d _)), (58, .c (.un)), (59, .c (.un)), (55, .c (.ptr 0 0 0)), (60, .c (.un)), (54, .c (.arr 24578 1)), (62, .c (.un)), (63, .c (.un)), (61, .c (.un))] [16384, 16384] ⟨Y, Y, trivial⟩ ⟨Y, Y, Y, Y, Y, Y, Y, Y, Y, trivial⟩ Y (kAdd Y Y om (kAdd Y Y om (Kx Y Y (kLitD Y Y Y Y (Kx Y Y (Kz (ok_spec_l1PickInt _ _ prx prx prx) ⟨⟨rfl, _, rfl, rfl⟩, rfl, trivial⟩ Y Y Y (fun _ => rfl) (fun x4 hx4 => (kIadAR (m := 0) Y Y Y Y prl (kFadE Y Y (Ks Y Y ?_))))))))))))))))
    refine kStoreER (f := Slot.cells) (l := x0.1.slots) (i := 0) (z := { x0.1.slots[0] with til := x4.1 }) Y Y Y Y Y Y Y h0 rfl ?_
    refine Kd (kH (Kv (Kbc (Ke Y Y Y (kMem [(12288, ⟨1, 0, .box [.d _, .d _, .nil 7]⟩), (24578, ⟨1, 1, .arr true _⟩)] [(2, .c (.ptr 12288 1 0)), (64, .g [.d _, .d _, .arr 24578 1])] [] ⟨Y, Y, trivial⟩ ⟨Y, Y, trivial⟩ Y (Ko Y Y Y Y (Kd (kMem [(12288, ⟨1, 0, .box [.d _, .d _, .arr 24578 1]⟩), (24578, ⟨1, 1, .arr true _⟩)] [(2, .c (.ptr 12288 1 0))] [] ⟨Y, Y, trivial⟩ ⟨Y, trivial⟩ Y (Kr (Er (ra := [.agg [(.d _), (.d _), (.d _)]]) rfl ?_))))))))))
    exact ⟨(⟨x0.1.now, x0.1.turn, x0.1.slots.set 0 { x0.1.slots[0] with til := x4.1 }⟩, x4.2), hb.set ⟨hm0.n, hm0.r⟩, rfl, rfl⟩
  · exact ⟨(x0.1, x3.2), hb, rfl, rfl⟩
  · have h0 : 0 < x0.1.slots.length := by omega
    have hm0 := hb.sm _ (List.getElem_mem h0)
    clear hstopo19
    refine kRegD (Kf Y Y (Ke Y Y Y (Ka Y (Kz (ok_spec_l1Below _ _) ⟨⟨rfl, _, rfl, rfl⟩, rfl, trivial⟩ Y Y Y (fun _ => rfl) (fun x4 hx4 => (kIadAR (m := 0) Y Y Y Y prl (kFadE Y Y (Ks Y Y ?_))))))))
    refine kStoreER (f := Slot.cells) (l := x0.1.slots) (i := 0) (z := { x0.1.slots[0] with kind := x4.1 }) Y Y Y Y Y Y Y h0 rfl ?_
    refine Kd (kH (Kv (Kbc (Ke Y Y Y (kMem [(12288, ⟨1, 0, .box [.d _, .d _, .nil 7]⟩), (24578, ⟨1, 1, .arr true _⟩)] [(2, .c (.ptr 12288 1 0)), (64, .g [.d _, .d _, .arr 24578 1])] [] ⟨Y, Y, trivial⟩ ⟨Y, Y, trivial⟩ Y (Ko Y Y Y Y (Kd (kMem [(12288, ⟨1, 0, .box [.d _, .d _, .arr 24578 1]⟩), (24578, ⟨1, 1, .arr true _⟩)] [(2, .c (.ptr 12288 1 0))] [] ⟨Y, Y, trivial⟩ ⟨Y, trivial⟩ Y (Kr (Er (ra := [.agg [(.d _), (.d _), (.d _)]]) rfl ?_))))))))))
    exact ⟨(⟨x0.1.now, x0.1.turn, x0.1.slots.set 0 { x0.1.slots[0] with kind := x4.1 }⟩, x4.2), hb.set ⟨hm0.n, hm0.r⟩, rfl, rfl⟩
  · exact ⟨(x0.1, x3.2), hb, rfl, rfl⟩
  · exact ⟨(x0.1, x1.2), hb, rfl, rfl⟩

def c_spec_l1New : C := (.g (.o 0 2 (.mov (.v (.pointer none))) .done) (.g (.o 0 5 (.mov (.t 0)) (.o 1 6 (.len (.t 5)) (.o 2 7 (.bin .add (.i 42222) (.t 6)) (.o 3 3 (.mov (.t 7)) .done)))) (.seq (.g (.o 0 4 (.mov (.i 0)) .done) (.block 0 (.loop (.seq (.g (.o 0 8 (.mov (.t 4)) (.o 1 9 (.mov (.t 0)) (.o 2 10 (.len (.t 9)) (.o 3 11 (.bin .lss (.t 8) (.t 10)) (.o 4 12 (.mov (.t 11)) (.op 5 [] (some 13) (some (12, true)) false (.mov (.t 4)) (.op 6 [] (some 14) (some (12, true)) false (.bin .lss (.t 13) (.i 4000)) (.o 7 15 (.pick (.t 12) (.t 14) (.v (.bool false))) .done)))))))) (.cond (.t 15) .skip (.exit 0))) (.seq (.block 1 (.reg false (.o 0 18 (.mov (.t 3)) (.o 1 19 (.bin .mul (.t 18) (.i 131)) (.o 2 20 (.mov (.t 0)) (.o 3 21 (.mov (.t 4)) (.o 4 22 (.iad 1 (.t 20) (.t 21)) (.o 5 23 (.load none (.t 22)) (.o 6 24 (.conv .i64 (.t 23)) (.o 7 25 (.bin .add (.t 19) (.t 24)) (.o 8 26 (.bin .add (.t 25) (.i 7)) (.o 9 27 (.bin .and (.t 26) (.i 1073741823)) (.o 10 3 (.mov (.t 27)) .done))))))))))))) (.reg false (.o 0 16 (.mov (.t 4)) (.o 1 17 (.bin .add (.t 16) (.i 1)) (.o 2 4 (.mov (.t 17)) .done))))))))) (.g (.o 0 28 (.mov (.t 0)) (.o 1 29 (.mov (.t 3)) (.o 2 30 (.build [(.n 1), (.i 0), (.i 0)] [(0, 1, (.t 28)), (2, 1, (.t 29))]) (.o 3 31 (.box 31 (.t 30)) (.o 4 2 (.mov (.t 31)) .done))))) .ret))))
theorem dg_spec_l1New : Tryz.f63.body.bind (digC Tryz.prog Tryz.f63.ntmps []) = some c_spec_l1New := by kernel_rfl
theorem rs_spec_l1New : resSlots Tryz.prog Tryz.f63 = some [.s 2] := by kernel_rfl
theorem ok_spec_l1New (code : List UInt8) (hb : (code.length : Int) ≤ 9223372036854775807) :
    FnOK Tryz.prog 63 [.one (.d (encB code))] (fun ra _ => ∃ c : Cu, True ∧ ra = [.one (.box c.cells)]) := by
  refine FnOK.ofK Tryz.func63 (by kernel_rfl) dg_spec_l1New rs_spec_l1New rfl rfl ?_
  delta c_spec_l1New T.o X.i C.g
  refine Kbc (Ka Y (Kdb (Kc (Ka Y (Kq Y Y (Kj Y Y Y (Ka Y (Kdb (Kbc (Ka Y (Kd (Kt ?_))))))))))))
  refine kLoop (α := { i : Nat // i ≤ code.length } × Int) (fun y => ⟨tabSl [(0, .dv (encB code)), (3, .i y.2), (4, .i y.1.1)], obTab 1 [], []⟩) (fun y => code.length - y.1.1) (⟨0, by simp⟩, _) .normA ?_
  rintro ⟨⟨i, hi⟩, h⟩
  simp only
  rcases Nat.lt_or_ge i code.length with hlt | hge
  · refine Kb (Kbc (Ka Y (Ka Y (Kq Y Y (Kj Y Y Y (Ka Y (kGP Y (fun g0 => Ki Y (Ka Y (Ki Y (Kj Y Y Y (Kk Y (Ka Y (Kd (Km Y (fun g1 => Kn (Kb (Kt (Kc (Ka Y (Kj Y Y Y (Ka Y (Ka Y (kIadR Y Y Y om (Ky Y Y (kConv Y (Kj Y Y Y (Kj Y Y Y (Kj Y Y Y (Ka Y (Kd (Kv (Kc (Ka Y (kAdd Y Y om (Ka Y (Kd ?_)))))))))))))))))))))) (fun g1 => kExit (kExC (kExI (kExB (Kbc (Ka Y (Ka Y (kBuildG Y (kBox Y Y Y Y Y (Ka Y (Kd (Kr (Er (ra := [.one (.box [_, _, _])]) rfl ?_))))))))))))))))))))) (fun g0 => om))))))))
    · exact kInv ⟨(⟨i + 1, by omega⟩, _), by simp only; omega, .normA⟩
    · exact ⟨⟨code, 0, h, by omega, by omega, hb⟩, trivial, rfl⟩
  · refine Kb (Kbc (Ka Y (Ka Y (Kq Y Y (Kj Y Y Y (Ka Y (kGP Y (fun g0 => om) (fun g0 => Kg Y (Kg Y (Kl Y (Ka Y (Kd (kCondF Y (kExit (kExC (kExI (kExB (Kbc (Ka Y (Ka Y (kBuildG Y (kBox Y Y Y Y Y (Ka Y (Kd (Kr (Er (ra := [.one (.box [_, _, _])]) rfl ?_))))))))))))))))))))))))))
    exact ⟨⟨code, 0, h, by omega, by omega, hb⟩, trivial, rfl⟩

def c_spec_l2bent : C := (.g (.o 0 2 (.alloc 2 [(.n 1)]) .done) (.g (.o 0 4 (.mov (.t 0)) (.o 1 5 (.call 5 217 [(.t 4)]) (.o 2 3 (.alloc 3 [(.n 1)]) (.op 3 [] none none false (.store (some 1) (.t 3) (.t 5)) .done)))) (.seq (.g (.o 0 6 (.mov (.t 0)) (.o 1 7 (.call 7 68 [(.t 6), (.i 9)]) .done)) (.cond (.t 7) (.g (.o 0 8 (.mov (.t 0)) (.o 1 9 (.call 9 117 [(.t 8), (.i 4)]) .done)) (.block 0 (.g (.o 0 22 (.bin .eql (.t 9) (.i 0)) (.o 1 21 (.mov (.t 22)) .done)) (.cond (.t 21) (.reg false (.o 0 23 (.fad (.t 3) 0) (.o 1 24 (.load none (.t 23)) (.o 2 25 (.lit 25 1 [(.n 1)] 1 [(0, 1, (.n 1))]) (.o 3 26 (.app 26 1 24 (.t 24) (.t 25)) (.o 4 27 (.fad (.t 3) 0) (.op 5 [] none none false (.store none (.t 27) (.t 26)) .done))))))) (.g (.o 0 29 (.bin .eql (.t 9) (.i 1)) (.o 1 28 (.mov (.t 29)) .done)) (.cond (.t 28) (.reg false (.o 0 30 (.fad (.t 3) 0) (.o 1 31 (.load none (.t 30)) (.o 2 32 (.lit 32 1 [(.v (.int .u8 0))] 1 [(0, 1, (.v (.int .u8 81)))]) (.o 3 33 (.s2s (.t 32)) (.o 4 34 (.lit 34 1 [(.n 1)] 1 [(0, 1, (.t 33))]) (.o 5 35 (.app 35 1 24 (.t 31) (.t 34)) (.o 6 36 (.fad (.t 3) 0) (.op 7 [] none none false (.store none (.t 36) (.t 35)) .done))))))))) (.g (.o 0 38 (.bin .eql (.t 9) (.i 2)) (.o 1 37 (.mov (.t 38)) .done)) (.cond (.t 37) (.reg true (.op 0 [] (some 39) none true (.fad (.t 3) 0) (.op 1 [] (some 40) none true (.load none (.t 39)) (.op 3 [] (some 42) none true (.mov (.t 0)) (.alt (.o 2 41 (.lit 41 1 [(.v (.string ⟨#[]⟩))] 2 [(0, 1, (.v (.string ⟨#[97, 98, 99, 100, 101, 102, 103, 104, 105, 106, 107, 108, 109, 110, 111]⟩))), (1, 1, (.v (.string ⟨#[97, 98, 99, 100, 101, 102, 103, 104, 105, 106, 107, 108, 109, 110, 111, 112]⟩)))]) (.o 4 43 (.call 43 117 [(.t 42), (.i 2)]) (.op 5 [] (some 44) none true (.iad 1 (.t 41) (.t 43)) (.op 6 [] (some 45) none true (.load none (.t 44)) (.op 7 [6] (some 46) none false (.s2b (.t 45)) (.op 8 [6] (some 47) none false (.lit 47 1 [(.n 1)] 1 [(0, 1, (.t 46))]) (.op 9 [1, 6] (some 48) none false (.app 48 1 24 (.t 40) (.t 47)) (.op 10 [] (some 49) none true (.fad (.t 3) 0) (.op 11 [1, 6] none none false (.store none (.t 49) (.t 48)) .done))))))))) (.o 4 43 (.call 43 117 [(.t 42), (.i 2)]) (.o 2 41 (.lit 41 1 [(.v (.string ⟨#[]⟩))] 2 [(0, 1, (.v (.string ⟨#[97, 98, 99, 100, 101, 102, 103, 104, 105, 106, 107, 108, 109, 110, 111]⟩))), (1, 1, (.v (.string ⟨#[97, 98, 99, 100, 101, 102, 103, 104, 105, 106, 107, 108, 109, 110, 111, 112]⟩)))]) (.op 5 [] (some 44) none true (.iad 1 (.t 41) (.t 43)) (.op 6 [] (some 45) none true (.load none (.t 44)) (.op 7 [6] (some 46) none false (.s2b (.t 45)) (.op 8 [6] (some 47) none false (.lit 47 1 [(.n 1)] 1 [(0, 1, (.t 46))]) (.op 9 [1, 6] (some 48) none false (.app 48 1 24 (.t 40) (.t 47)) (.op 10 [] (some 49) none true (.fad (.t 3) 0) (.op 11 [1, 6] none none false (.store none (.t 49) (.t 48)) .done)))))))))))))) (.block 1 (.loop (.seq (.g (.o 0 10 (.fad (.t 3) 0) (.o 1 11 (.load none (.t 10)) (.o 2 12 (.len (.t 11)) (.o 3 13 (.bin .leq (.t 12) (.i 6)) .done)))) (.cond (.t 13) .skip (.exit 1))) (.block 2 (.reg false (.o 0 14 (.fad (.t 3) 0) (.o 1 15 (.load none (.t 14)) (.o 2 16 (.lit 16 1 [(.v (.int .u8 0))] 1 [(0, 1, (.v (.int .u8 122)))]) (.o 3 17 (.s2s (.t 16)) (.o 4 18 (.lit 18 1 [(.n 1)] 1 [(0, 1, (.t 17))]) (.o 5 19 (.app 19 1 24 (.t 15) (.t 18)) (.o 6 20 (.fad (.t 3) 0) (.op 7 [] none none false (.store none (.t 20) (.t 19)) .done))))))))))))))))))))) .skip)) (.g (.o 0 50 (.load (some 1) (.t 3)) (.op 1 [] none none false (.store (some 1) (.t 2) (.t 50)) .done)) .ret))))
theorem dg_spec_l2bent : Tryz.f126.body.bind (digC Tryz.prog Tryz.f126.ntmps []) = some c_spec_l2bent := by kernel_rfl
theorem rs_spec_l2bent : resSlots Tryz.prog Tryz.f126 = some [.m 2 (some 1)] := by kernel_rfl
theorem ok_spec_l2bent (c : Cu) :
    FnOK Tryz.prog 126 [.one (.box c.cells)] (fun ra os => ∃ x : List (List UInt8) × Cu, (x.1.length ≤ 7 ∧ ∀ b ∈ x.1, b.length ≤ 64) ∧ ra = [.agg [.d (encBB x.1)]] ∧ os.b 0 = x.2.cells) := by
  refine FnOK.ofK Tryz.func126 (by kernel_rfl) dg_spec_l2bent rs_spec_l2bent rfl rfl ?_
  delta c_spec_l2bent T.o X.i C.g
  refine Kbc (kAlloc Y Y (Kdb (Kc (Ka Y (Kz (ok_spec_l2draw _) ⟨⟨rfl, _, rfl, rfl⟩, trivial⟩ Y Y Y (fun _ => rfl) (fun x0 hx0 => (kAlloc Y Y (Ko Y Y Y Y (Kdb (Kbc (Ka Y (Kz (ok_spec_l1Once _ _) ⟨⟨rfl, _, rfl, rfl⟩, rfl, trivial⟩ Y Y Y (fun _ => rfl) (fun x1 hx1 => (Kd (kCond Y (fun g2 => Kbc (Ka Y (Kz (ok_spec_l1Below _ _) ⟨⟨rfl, _, rfl, rfl⟩, rfl, trivial⟩ Y Y Y (fun _ => rfl) (fun x3 hx3 => (Kd (Kt (Kbc (Kj Y Y Y (Ka Y (Kd (Km Y (fun g4 => Kc (Kf Y Y (Ke Y Y Y (kLitG Y Y Y Y ?_)))) (fun g4 => Kbc (Kj Y Y Y (Ka Y (Kd (Km Y (fun g5 => Kc (Kf Y Y (Ke Y Y Y (kLitG Y Y Y Y (kS2sB (y := 81) (ys := []) Y Y Y (kLitG Y Y Y Y ?_)))))) (fun g5 => Kbc (Kj Y Y Y (Ka Y (Kd (Km Y (fun g6 => kRegD (Kf Y Y (Ke Y Y Y (Ka Y (kAlt (kLitG Y Y Y Y (Kz (ok_spec_l1Below _ _) ⟨⟨rfl, _, rfl, rfl⟩, rfl, trivial⟩ Y Y Y (fun _ => rfl) (fun x8 hx8 => (kIadStr Y Y Y Y (by simp only [List.length_cons, List.length_nil]; omega) (kLoadStr Y Y Y (by simp only [List.length_cons, List.length_nil]; omega) rfl (fun b9 hb9 => (Kx Y Y (kS2b Y om (Kx Y Y (kLitG Y Y Y Y (Ks Y Y ?_))))))))))) (Kz (ok_spec_l1Below _ _) ⟨⟨rfl, _, rfl, rfl⟩, rfl, trivial⟩ Y Y Y (fun _ => rfl) (fun x10 hx10 => (kLitG Y Y Y Y (kIadStr Y Y Y Y (by simp only [List.length_cons, List.length_nil]; omega) (kLoadStr Y Y Y (by simp only [List.length_cons, List.length_nil]; omega) rfl (fun b11 hb11 => (Kx Y Y (kS2b Y om (Kx Y Y (kLitG Y Y Y Y (Ks Y Y ?_)))))))))))))))) (fun g6 => Kt ?_)))))))))))))))))))))) (fun g2 => Kn (Kbc (Ke Y Y Y (Ko Y Y Y Y (Kd (Kr (Er (ra := [.agg [(.d _)]]) rfl ?_))))))))))))))))))))))
  · have h6 := nameOk_len hx0
    refine kAppR1 (z := ([] : List UInt8)) rfl rfl rfl rfl rfl rfl rfl rfl om ?_
    refine (Kf Y Y (Ko Y Y Y Y (Kd (Kv (Kbc (Ke Y Y Y (Ko Y Y Y Y (Kd (Kr (Er (ra := [.agg [(.d _)]]) rfl ?_))))))))))
    exact ⟨(_, x3.2), bent_app hx0 (by decide), rfl, rfl⟩
  · have h6 := nameOk_len hx0
    refine kAppR1 (z := ([81] : List UInt8)) rfl rfl rfl rfl rfl rfl rfl rfl om ?_
    refine Kf Y Y (Ko Y Y Y Y (Kd (Kv (Kbc (Ke Y Y Y (Ko Y Y Y Y (Kd (Kr (Er (ra := [.agg [(.d _)]]) rfl ?_)))))))))
    exact ⟨(_, x3.2), bent_app hx0 (by decide), rfl, rfl⟩
  · have h6 := nameOk_len hx0
    refine kAppR1 (z := b9.toList) Y Y Y Y Y Y Y Y om ?_
    refine Kf Y Y (Ks Y Y (Ko Y Y Y Y (Kd (kH (Kv (Kbc (Ke Y Y Y (Ko Y Y Y Y (Kd (Kr (Er (ra := [.agg [(.d _)]]) rfl ?_)))))))))))
    exact ⟨(_, x8.2), bent_app hx0 (by rw [bt_len]; exact hb9), rfl, rfl⟩
  · have h6 := nameOk_len hx0
    refine kAppR1 (z := b11.toList) Y Y Y Y Y Y Y Y om ?_
    refine Kf Y Y (Ks Y Y (Ko Y Y Y Y (Kd (kH (Kv (Kbc (Ke Y Y Y (Ko Y Y Y Y (Kd (Kr (Er (ra := [.agg [(.d _)]]) rfl ?_)))))))))))
    exact ⟨(_, x10.2), bent_app hx0 (by rw [bt_len]; exact hb11), rfl, rfl⟩
  · refine kLoop (α := { L : List (List UInt8) // L.length ≤ 7 ∧ ∀ b ∈ L, b.length ≤ 64 }) (fun y => ⟨tabSl [(2, .c (.ptr (rid 2 0) 1 0)), (3, .c (.ptr (rid 3 0) 1 0))], obTab 1 [(0, ⟨0, 0, .box (x3.2.cells.map .d)⟩), (rid 2 0, ⟨1, 0, .box [.nil 1]⟩), (rid 3 0, ⟨1, 0, .box [.arr (rid 5 0) 1]⟩), (rid 5 0, ⟨1, 0, .arr false (encBB y.1)⟩)], []⟩) (fun y => 7 - y.1.length) ⟨x0.1, bent_ok hx0⟩ .normA ?_
    rintro ⟨L, h7, hL⟩
    simp only
    rcases Nat.lt_or_ge L.length 7 with hlt | hge
    · refine Kb (Kbc (Kf Y Y (Ke Y Y Y (Kq Y Y (Kj Y Y Y (Kd (Km Y (fun g0 => Kn (Kt (Kc (Kf Y Y (Ke Y Y Y (kLitG Y Y Y Y (kS2sB (y := 122) (ys := []) Y Y Y (kLitG Y Y Y Y (kAppR1 Y Y Y Y Y Y Y Y prl (Kf Y Y (Ko Y Y Y Y (Kd (Kv ?_))))))))))))) (fun g0 => om))))))))
      refine kInv ⟨⟨L ++ [[122]], by simp; omega, fun b hb => ?_⟩, by simp; omega, .normA⟩
      rcases List.mem_append.1 hb with hb | hb
      · exact hL b hb
      · simp only [List.mem_singleton] at hb; subst hb; decide
    · refine Kb (Kbc (Kf Y Y (Ke Y Y Y (Kq Y Y (Kj Y Y Y (Kd (Km Y (fun g0 => om) (fun g0 => kExit (kExC (kExI (kExB (Kv (Kbc (Ke Y Y Y (Ko Y Y Y Y (Kd (Kr (Er (ra := [.agg [(.d _)]]) rfl ?_))))))))))))))))))
      exact ⟨(L, x3.2), ⟨h7, hL⟩, rfl, rfl⟩
  · exact ⟨(x0.1, x1.2), bent_ok hx0, rfl, rfl⟩

end Go.Proofs.YtmdmlncdjdphdaaGreat.FnCachesFn
