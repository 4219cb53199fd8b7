/- An abstract machine for Go programs, and its soundness: the framework of this proof; no condition. -/
import Derived.OrdersHeld
import Derived.ChangeSlices
import Derived.Below
import Derived.Carry
import Derived.Maps.Own
import Derived.WalkKit
import Derived.ProofKit
import Derived.Test.YtmdmlncdjdphdaaGreatHearth2
set_option linter.unusedVariables false
set_option linter.unusedSimpArgs false
/- The abstract machine: regions, in whatever order. -/
namespace Hearth
open Go
inductive T where
  | done
  | op (i : Nat) (ws : List Nat) (d : Option Nat) (g : Option (Nat × Bool)) (q : Bool) (o : O) (rest : T)
  | alt (x y : T)
def guardA (s : St) (g : Option (Nat × Bool)) (A B : St → Prop) : Prop :=
  match g with
  | none => A s
  | some (g, want) => match s.sl g with
    | .c (.d (.sc (.bool b))) => (b = want → A (s.put (some g) (.b want))) ∧ (b = !want → B (s.put (some g) (.b !want)))
    | .c .un => B s
    | _ => False
section
variable (P : Program)
def relT (ws tags : List Nat) : List Nat := tags.filter fun i => !ws.contains i
def relS (ws tags : List Nat) (s : St) : St := if (!ws.isEmpty && (relT ws tags).isEmpty) = true then { s with hold := [] } else s
def St.holdOf (s : St) : O → List Nat
  | .load _ x => match s.ev x with
    | .c (.ptr id _ _) | .c (.ept id _ _ _) | .c (.spt id _ _ _ _ _ _) => [id]
    | _ => []
  | _ => []
def St.holds (s : St) (q : Bool) (o : O) : St := if (q && o.isLoad) = true then { s with hold := s.holdOf o ++ s.hold } else s
def wpT : T → List Nat → St → (St → Prop) → Prop
  | .done, _, s, K => K s
  | .op i ws d g q o rest, tags, s, K => guardA s g
      (fun s => (q = true → ((relS ws tags s).holds q o).still o) ∧ stepO P ((relS ws tags s).holds q o) o fun v s' => wpT rest (if (q && o.isLoad) = true then i :: relT ws tags else relT ws tags) (s'.put d v) K)
      (fun s => wpT rest (relT ws tags) ((relS ws tags s).put d (.c .un)) K)
  | .alt x y, tags, s, K => wpT x tags s K ∧ wpT y tags s K
section
variable (N : Nat) (ops : Array Oper)
def dstOk : Option Nat → Bool
  | some d => decide (d < N)
  | none => true
def digN (i : Nat) : Option (Option Nat × Option (Nat × Bool) × O) :=
  match ops[i]? with
  | some o =>
    match digOp' P (o.dst.getD (N + i)) o.type o.op with
    | some o' =>
      if dstOk N o.dst = true then
        match o.guard with
        | none => some (o.dst, none, o')
        | some (j, want) => match (ops[j]?).bind (·.dst) with
          | some g => if g < N then some (o.dst, some (g, want), o') else none
          | none => none
      else none
    | none => none
  | none => none
def digS : List Nat → Option T
  | [] => some .done
  | i :: r => match digN P N ops i, digS r with
    | some (d, g, o), some t => some (.op i [] d g false o t)
    | _, _ => none
def T.alts : List T → T
  | [] => .done
  | [t] => t
  | t :: r => .alt t (alts r)
def okQ (ld : Bool) : O → Bool
  | .load .. => ld
  | o => o.quiet
def behindL (ops : Array Oper) : Nat → Nat → List Nat
  | 0, _ => []
  | n + 1, j => match ops[j]? with
    | some o => ((o.after.toList.filter (Region.binds .any)).flatMap fun e => e.on :: behindL ops n e.on).eraseDups
    | none => []
def waitsL (j : Nat) : List Nat := (behindL ops 6 j).filter fun i => match ops[i]? with
  | some o => (match o.op with | .load .. => true | _ => false)
  | none => false
def digD (ld : Bool) : Nat → Array Bool → Option T
  | 0, listed => if (Region.ready .any ops listed).isEmpty then some .done else none
  | fuel + 1, listed =>
    if (Region.ready .any ops listed).isEmpty then some .done
    else
      match (Region.ready .any ops listed).find? fun i => (match digN P N ops i with | some (_, _, o) => okQ ld o | none => false) && Region.free .any ops listed i with
      | some i => match digN P N ops i, digD ld fuel (listed.setIfInBounds i true) with
        | some (d, g, o), some t => some (.op i [] d g true o t)
        | _, _ => none
      | none => ((Region.ready .any ops listed).mapM fun i => match digN P N ops i, digD ld fuel (listed.setIfInBounds i true) with
        | some (d, g, o), some t => some (T.op i (waitsL ops i) d g false o t)
        | _, _ => none).map T.alts
end
end
section
variable {P : Program} {N : Nat} {w0 : World} {own0 : Nat → Nat → Prop} {hdr0 : Nat → Value} {Fr : List ((Nat → Prop) × World)} {own : Nat → Nat → Prop} {hdr : Nat → Value} {s : St} {a : Act} {w : World} {ops : Array Oper} {Q : Exit → Act → World → Prop}
theorem RelX.put (r : RelX P N w0 own0 hdr0 Fr own hdr s a w) {d : Option Nat} {x : AV} {v : Value} (hd : ∀ n, d = some n → n < N) (hv : RS P w own hdr s.ob x v) : RelX P N w0 own0 hdr0 Fr own hdr (s.put d x) (a.put d v) w := by
  cases d with
  | none => exact r
  | some d =>
    refine ⟨by simp [Act.put, r.n], r.defers, fun t => ?_, r.objs, r.al, r.alv, r.dis, r.lt, r.ext, r.zero, r.new, r.frs⟩
    have hd' := hd d rfl
    simp only [St.put, Act.put, Hearth.upd]
    by_cases ht : t = d
    · subst ht
      rw [if_pos rfl]
      have : (a.tmps.setIfInBounds t v).getD t undef = v := by
        have : t < a.tmps.size := by rw [r.n]; exact hd'
        simp [Array.getD_eq_getD_getElem?, Array.getElem?_setIfInBounds, this]
      rw [this]; exact hv
    · rw [if_neg ht]
      have : (a.tmps.setIfInBounds d v).getD t undef = a.tmps.getD t undef := by
        simp [Array.getD_eq_getD_getElem?, Array.getElem?_setIfInBounds, Ne.symm ht]
      rw [this]; exact r.tmps t
theorem RelX.same (r : RelX P N w0 own0 hdr0 Fr own hdr s a w) {d : Nat} {x : AV} (hv : RS P w own hdr s.ob x (a.tmps.getD d undef)) : RelX P N w0 own0 hdr0 Fr own hdr (s.put (some d) x) a w := by
  refine ⟨r.n, r.defers, fun t => ?_, r.objs, r.al, r.alv, r.dis, r.lt, r.ext, r.zero, r.new, r.frs⟩
  simp only [St.put, Hearth.upd]
  by_cases ht : t = d
  · subst ht; rw [if_pos rfl]; exact hv
  · rw [if_neg ht]; exact r.tmps t
theorem RelX.held (r : RelX P N w0 own0 hdr0 Fr own hdr s a w) : RelX P N w0 own0 hdr0 ((Now w own s.hold, w) :: Fr) own hdr s a w :=
  ⟨r.n, r.defers, r.tmps, r.objs, r.al, r.alv, r.dis, r.lt, r.ext, r.zero, r.new, fun p hp b hb => by
    rcases List.mem_cons.1 hp with rfl | hp
    · exact ⟨hb.1, rfl, hb.2⟩
    · exact r.frs p hp b hb⟩
theorem RelX.unheld {p : (Nat → Prop) × World} (r : RelX P N w0 own0 hdr0 (p :: Fr) own hdr s a w) : RelX P N w0 own0 hdr0 Fr own hdr s a w ∧ ∀ b, p.1 b → Now w own s.hold b ∧ w.heap[b]? = p.2.heap[b]? :=
  ⟨⟨r.n, r.defers, r.tmps, r.objs, r.al, r.alv, r.dis, r.lt, r.ext, r.zero, r.new, fun q hq b hb => r.frs q (List.mem_cons_of_mem _ hq) b hb⟩,
    fun b hb => by
      obtain ⟨h1, h2, h3⟩ := r.frs p (List.mem_cons_self ..) b hb
      exact ⟨⟨h1, h3⟩, h2⟩⟩
theorem upon_of {o : Oper} {K : AV → St → Prop} {res : Result Next} {next : Act → World → Prop} (h : GoodO P N w0 own0 hdr0 Fr a K w res)
    (hn : ∀ v w' x s', K x s' → RelV P N w0 own0 hdr0 Fr s' a w' x v → next (a.put o.dst v) w') : o.upon P a next Q res := by
  rcases h with ⟨v, w', x, s', h1, h2, h3⟩ | ⟨f, args, rfl, _, hc⟩
  · rcases h1 with rfl | ⟨rfl, rfl⟩
    · exact hn v w' x s' h2 h3
    · exact hn undef w' x s' h2 h3
  · rw [Oper.upon_enter]
    refine hc.mono ?_
    rintro e w' ⟨v, x, s', rfl, h2, h3⟩
    exact hn v w' x s' h2 h3
def guardIs (N : Nat) (ops : Array Oper) (o : Oper) : Option (Nat × Bool) → Prop
  | none => o.guard = none
  | some (g, want) => ∃ j, o.guard = some (j, want) ∧ (ops[j]?).bind (·.dst) = some g ∧ g < N
theorem digN_spec {i : Nat} {d : Option Nat} {g : Option (Nat × Bool)} {o' : O} (h : digN P N ops i = some (d, g, o')) : ∃ o, ops[i]? = some o ∧ o.dst = d ∧ (∀ n, d = some n → n < N) ∧ (∃ e, digOp' P e o.type o.op = some o') ∧
    guardIs N ops o g := by
  unfold digN at h
  split at h
  · rename_i o ho
    split at h
    · rename_i o2 ho2
      split at h
      · rename_i hd
        have hlt : ∀ n, o.dst = some n → n < N := by
          intro n hn; rw [hn] at hd; simpa [dstOk] using hd
        split at h
        · rename_i hg
          simp at h
          obtain ⟨rfl, rfl, rfl⟩ := h
          exact ⟨o, ho, rfl, hlt, ⟨_, ho2⟩, hg⟩
        · rename_i j want hg
          split at h
          · rename_i g' hg'
            split at h
            · rename_i hN
              simp at h
              obtain ⟨rfl, rfl, rfl⟩ := h
              exact ⟨o, ho, rfl, hlt, ⟨_, ho2⟩, j, hg, hg', hN⟩
            · simp at h
          · simp at h
      · simp at h
    · simp at h
  · simp at h
theorem guard_sound (r : RelX P N w0 own0 hdr0 Fr own hdr s a w) {o : Oper} {g : Option (Nat × Bool)} {A B : St → Prop} (hg : guardIs N ops o g)
    (h : guardA s g A B) : ∃ s', RelX P N w0 own0 hdr0 Fr own hdr s' a w ∧ s'.hold = s.hold ∧ ((Region.wanted o (yielded ops a.tmps) = true ∧ A s') ∨ (Region.wanted o (yielded ops a.tmps) = false ∧ B s')) := by
  cases g with
  | none => exact ⟨s, r, rfl, .inl ⟨by simp [Region.wanted, show o.guard = none from hg], h⟩⟩
  | some gw =>
    obtain ⟨g, want⟩ := gw
    obtain ⟨j, h1, h2, h3⟩ := hg
    have hlt : g < a.tmps.size := by rw [r.n]; exact h3
    have hget : a.tmps[g]? = some (a.tmps.getD g undef) := by simp [hlt, Array.getD_eq_getD_getElem?]
    have ht := r.tmps g
    simp only [guardA] at h
    split at h
    · rename_i b hb
      rw [hb] at ht
      have hv := sc_of ht
      have hy : yielded ops a.tmps j = some b := by simp [yielded, h2, hget, hv]
      by_cases hbw : b = want
      · subst hbw
        exact ⟨_, r.same (d := g) (x := .b b) (by rw [hv]; exact rsB b), rfl, .inl ⟨by simp [Region.wanted, h1, hy], h.1 rfl⟩⟩
      · have hb' : b = !want := by cases b <;> cases want <;> simp_all
        subst hb'
        exact ⟨_, r.same (d := g) (x := .b (!want)) (by rw [hv]; exact rsB _), rfl, .inr ⟨by simp [Region.wanted, h1, hy], h.2 rfl⟩⟩
    · rename_i hb
      rw [hb] at ht
      have hv : a.tmps.getD g undef = undef := ht
      have hy : yielded ops a.tmps j = none := by
        unfold yielded
        rw [h2, Option.bind_some, hget, hv]
        rfl
      exact ⟨s, r, rfl, .inr ⟨by simp [Region.wanted, h1, hy], h⟩⟩
    · exact h.elim
theorem wpOp_wanted {i : Nat} {o : Oper} {K : Act → World → Prop} (hi : ops[i]? = some o) (h : (Region.wanted o (yielded ops a.tmps) = true ∧ o.upon P a K Q ((execOp a.eval o).run P w)) ∨ (Region.wanted o (yielded ops a.tmps) = false ∧ K (a.put o.dst undef) w)) :
    wpOp P ops Q i K a w := by
  unfold wpOp
  rw [hi]
  rcases h with ⟨h1, h2⟩ | ⟨h1, h2⟩
  · simp only [h1, if_true]; exact .inl h2
  · simp only [h1]; exact h2
theorem relS_nil (s : St) (tags : List Nat) : relS [] tags s = s := rfl
theorem relT_nil (tags : List Nat) : relT [] tags = tags := by
  unfold relT; rw [List.filter_eq_self]; simp
theorem holds_f (s : St) (o : O) : s.holds false o = s := rfl
theorem RelX.drops (r : RelX P N w0 own0 hdr0 [] own hdr s a w) (h : List Nat) : RelX P N w0 own0 hdr0 [] own hdr { s with hold := h } a w :=
  ⟨r.n, r.defers, r.tmps, r.objs, r.al, r.alv, r.dis, r.lt, r.ext, r.zero, r.new, by simp⟩
theorem relS_rel (r : RelX P N w0 own0 hdr0 [] own hdr s a w) (ws tags : List Nat) : RelX P N w0 own0 hdr0 [] own hdr (relS ws tags s) a w := by
  unfold relS
  split
  · exact r.drops _
  · exact r
theorem holds_rel (r : RelX P N w0 own0 hdr0 [] own hdr s a w) (q : Bool) (o : O) : RelX P N w0 own0 hdr0 [] own hdr (s.holds q o) a w := by
  unfold St.holds
  split
  · exact r.drops _
  · exact r
theorem node_sound (r : RelX P N w0 own0 hdr0 [] own hdr s a w) {i j : Nat} {ws tags : List Nat} {d : Option Nat} {g : Option (Nat × Bool)} {o' : O} {t : T} {K : St → Prop} {next : Act → World → Prop} (hi : digN P N ops i = some (d, g, o'))
    (h : wpT P (.op j ws d g false o' t) tags s K)
    (hn : ∀ s' a' w' own' hdr', wpT P t (relT ws tags) s' K → RelX P N w0 own0 hdr0 [] own' hdr' s' a' w' → (∀ b, Now w own (relS ws tags s).hold b → Now w' own' s'.hold b ∧ w'.heap[b]? = w.heap[b]?) → next a' w') : wpOp P ops Q i next a w := by
  obtain ⟨o, h1, h2, h3, ⟨e, h4⟩, h5⟩ := digN_spec hi
  obtain ⟨s', r', hh, hw⟩ := guard_sound (ops := ops) r h5 h
  have hhold : (relS ws tags s').hold = (relS ws tags s).hold := by
    unfold relS
    split
    · rfl
    · exact hh
  refine wpOp_wanted h1 ?_
  rcases hw with ⟨h6, _, h7⟩ | ⟨h6, h7⟩
  · simp only [Bool.false_and] at h7
    rw [holds_f] at h7
    have r1 := (relS_rel r' ws tags).held
    refine .inl ⟨h6, upon_of (op_sound' r1 h4 h7).1 fun v w' x s'' hK hr => ?_⟩
    obtain ⟨own', hdr', r'', hv⟩ := hr
    rw [h2]
    have r3 := (r''.put h3 hv).unheld
    rw [hhold] at r3
    exact hn _ _ _ own' hdr' hK r3.1 r3.2
  · refine .inr ⟨h6, ?_⟩
    rw [h2]
    refine hn _ _ _ own hdr h7 ((relS_rel r' ws tags).put h3 (x := .c .un) rfl) fun b hb => ⟨?_, rfl⟩
    have : ((relS ws tags s').put d (.c .un)).hold = (relS ws tags s').hold := by cases d <;> rfl
    rw [this, hhold]; exact hb
theorem digS_sound : ∀ {l : List Nat} {t : T} {s : St} {a : Act} {w : World} {K : St → Prop}, digS P N ops l = some t → wpT P t [] s K → Rel P N w0 own0 hdr0 [] s a w →
    (∀ s' a' w', K s' → Rel P N w0 own0 hdr0 [] s' a' w' → Q .normal a' w') → wpOps P ops Q l a w
  | [], t, s, a, w, K, h, hw, hr, hQ => by
    simp [digS] at h; subst h
    exact hQ s a w hw hr
  | i :: l, t, s, a, w, K, h, hw, ⟨own, hdr, r⟩, hQ => by
    simp only [digS] at h
    split at h
    · rename_i d g o t' h1 h2
      simp at h; subst h
      rw [wpOps_cons]
      exact node_sound r h1 hw fun s' a' w' own' hdr' hK hr _ => digS_sound h2 hK ⟨own', hdr', hr⟩ hQ
    · simp at h
inductive Behind (ops : Array Oper) : Nat → Nat → Prop where
  | one {j : Nat} {o : Oper} {e : Edge} (ho : ops[j]? = some o) (he : e ∈ o.after) (hb : Region.binds .any e = true) : Behind ops j e.on
  | step {j i : Nat} {o : Oper} {e : Edge} (ho : ops[j]? = some o) (he : e ∈ o.after) (hb : Region.binds .any e = true) (h : Behind ops e.on i) : Behind ops j i
theorem behindL_sound : ∀ {n j i : Nat}, i ∈ behindL ops n j → Behind ops j i
  | 0, _, _, h => by simp [behindL] at h
  | n + 1, j, i, h => by
    simp only [behindL] at h
    split at h
    · rename_i o ho
      rw [List.mem_eraseDups, List.mem_flatMap] at h
      obtain ⟨e, h1, h2⟩ := h
      rw [List.mem_filter] at h1
      have he : e ∈ o.after := Array.mem_toList_iff.1 h1.1
      rcases List.mem_cons.1 h2 with rfl | h2
      · exact .one ho he h1.2
      · exact .step ho he h1.2 (behindL_sound h2)
    · cases h
theorem waitsL_sound {j i : Nat} (h : i ∈ waitsL ops j) : Behind ops j i := by
  unfold waitsL at h
  exact behindL_sound (List.mem_filter.1 h).1
def Down (ops : Array Oper) (listed : Array Bool) : Prop := ∀ (j : Nat) (o : Oper) (e : Edge), ops[j]? = some o → listed.getD j false = true → e ∈ o.after → Region.binds .any e = true → listed.getD e.on false = true
theorem Down.behind {listed : Array Bool} (hd : Down ops listed) {j i : Nat} (h : Behind ops j i) : listed.getD j false = true → listed.getD i false = true := by
  induction h with
  | one ho he hb => exact fun hl => hd _ _ _ ho hl he hb
  | step ho he hb _ ih => exact fun hl => ih (hd _ _ _ ho hl he hb)
theorem Down.not {listed : Array Bool} (hd : Down ops listed) {j i : Nat} (hj : j ∈ Region.ready .any ops listed) (hi : listed.getD i false = false) : ¬ Behind ops j i := by
  intro h
  obtain ⟨_, o, ho, hall⟩ := mem_ready.1 hj
  cases h with
  | one ho' he hb =>
    rw [ho] at ho'; simp at ho'; subst ho'
    rw [hall _ he hb] at hi; cases hi
  | step ho' he hb h =>
    rw [ho] at ho'; simp at ho'; subst ho'
    rw [hd.behind h (hall _ he hb)] at hi; cases hi
theorem Down.set {listed : Array Bool} (hd : Down ops listed) {j : Nat} (hj : j ∈ Region.ready .any ops listed) : Down ops (listed.setIfInBounds j true) := by
  intro k o e ho hk he hb
  by_cases hkj : k = j
  · subst hkj
    obtain ⟨_, o', ho', hall⟩ := mem_ready.1 hj
    rw [ho] at ho'; simp at ho'; subst ho'
    exact getD_set_true (hall e he hb)
  · rw [getD_set_ne false (Ne.symm hkj)] at hk
    exact getD_set_true (hd k o e ho hk he hb)
def wpAnyF (P : Program) (ops : Array Oper) (Q : Exit → Act → World → Prop) : Nat → Array Bool → (Nat → Nat → Prop) → Act → World → Prop
  | 0, listed, _, a, w => Region.ready .any ops listed = [] ∧ Q .normal a w
  | fuel + 1, listed, F, a, w =>
    (Region.ready .any ops listed = [] → Q .normal a w) ∧
    ∀ j ∈ Region.ready .any ops listed, wpOp P ops Q j (fun a' w' => ∃ F' : Nat → Nat → Prop, (∀ i b, ¬ Behind ops j i → F i b → F' i b ∧ w'.heap[b]? = w.heap[b]?) ∧ wpAnyF P ops Q fuel (listed.setIfInBounds j true) F' a' w') a w
theorem wpAny_of_F : ∀ (fuel : Nat) (listed : Array Bool) (F : Nat → Nat → Prop) (a : Act) (w : World), wpAnyF P ops Q fuel listed F a w → wpAny P .any ops Q fuel listed a w
  | 0, _, _, _, _, h => h
  | fuel + 1, _, _, _, _, h => ⟨h.1, fun i hi => wpOp_mono (fun a' w' ⟨F', _, h'⟩ => wpAny_of_F fuel _ F' a' w' h') (h.2 i hi)⟩
theorem wpAnyF_mono {fuel : Nat} {listed : Array Bool} {F F' : Nat → Nat → Prop} (hF : ∀ i b, F' i b → F i b) (h : wpAnyF P ops Q fuel listed F a w) : wpAnyF P ops Q fuel listed F' a w := by
  cases fuel with
  | zero => exact h
  | succ fuel => exact ⟨h.1, fun j hj => wpOp_mono (fun a' w' ⟨F2, k1, k2⟩ => ⟨F2, fun i b hb hf => k1 i b hb (hF i b hf), k2⟩) (h.2 j hj)⟩
theorem wpAnyF_first {i : Nat} {oi : Oper} {v : Value} {F0 : Nat → Prop} {wd : World} (hi : ops[i]? = some oi) (hsel : ∀ (j : Nat) (o : Oper) cs b, ops[j]? = some o → o.op ≠ .select cs b)
    (hQ : ∀ c a w, Q (.panic c) (a.put oi.dst v) w → Q (.panic c) a w) :
    ∀ (fuel : Nat) (listed : Array Bool) (F : Nat → Nat → Prop) (a : Act) (w : World), Down ops listed → (∀ b, F0 b → F i b) → (∀ b, F0 b → w.heap[b]? = wd.heap[b]?) →
      (∀ j oj, ops[j]? = some oj → j ≠ i → listed.getD j true = false → (∀ e ∈ oj.after, Region.binds .any e = true → e.on ≠ i) → oi.apart ops oj = true) →
      i ∈ Region.ready .any ops listed → YieldsIf P ops (fun w' => ∀ b, F0 b → w'.heap[b]? = wd.heap[b]?) oi v a →
      wpAnyF P ops Q fuel (listed.setIfInBounds i true) F (a.put oi.dst v) w → wpAnyF P ops Q (fuel + 1) listed F a w := by
  intro fuel
  induction fuel with
  | zero =>
    intro listed F a w hd hF hS _ hr hy H
    refine ⟨fun h => (by rw [h] at hr; cases hr), fun j hj => ?_⟩
    by_cases hji : j = i
    · subst hji; exact hy.wpOp hi hS ⟨F, fun i b _ hb => ⟨hb, rfl⟩, H⟩
    · have := ready_mono hj hji
      rw [H.1] at this
      cases this
  | succ fuel ih =>
    intro listed F a w hd hF hS hfree hr hy H
    refine ⟨fun h => (by rw [h] at hr; cases hr), fun j hj => ?_⟩
    by_cases hji : j = i
    · subst hji; exact hy.wpOp hi hS ⟨F, fun i b _ hb => ⟨hb, rfl⟩, H⟩
    · have h1 := H.2 j (ready_mono hj hji)
      obtain ⟨hjun, oj, hoj, hall⟩ := mem_ready.1 hj
      have hiun : listed.getD i false = false := by
        have h0 := (mem_ready.1 hr).1
        rcases Nat.lt_or_ge i listed.size with h' | h'
        · simp [h'] at h0 ⊢; exact h0
        · simp [Array.getElem?_eq_none h']
      have hnb := hd.not hj hiun
      have hnot : ∀ e ∈ oj.after, Region.binds .any e = true → e.on ≠ i := fun e he hb heq => by
        have h1 := hall e he hb
        rw [heq, hiun] at h1; cases h1
      have h2 := wpOp_putIf hoj (hfree j oj hoj hji hjun hnot) (fun cs b => hsel i oi cs b hi) (fun cs b => hsel j oj cs b hoj) hQ hy h1
      have hfree' : ∀ k ok, ops[k]? = some ok → k ≠ i → (listed.setIfInBounds j true).getD k true = false →
          (∀ e ∈ ok.after, Region.binds .any e = true → e.on ≠ i) → oi.apart ops ok = true := fun k ok hk hki hun hno => by
        refine hfree k ok hk hki ?_ hno
        by_cases hjk : j = k
        · subst hjk; exact hjun
        · rw [getD_set_ne true hjk] at hun; exact hun
      refine wpOp_mono (fun a' w' h3 => ?_) h2
      obtain ⟨h3, F', h4, h5⟩ := h3
      refine ⟨F', h4, ih (listed.setIfInBounds j true) F' a' w' (hd.set hj) (fun b hb => (h4 i b hnb (hF b hb)).1) (fun b hb => (h4 i b hnb (hF b hb)).2.trans (hS b hb)) hfree' (ready_mono hr (Ne.symm hji)) h3 ?_⟩
      rw [Array.setIfInBounds_comm _ _ hji]
      exact h5
theorem alts_all {K : St → Prop} {tags : List Nat} : ∀ {l : List T} {t : T}, t ∈ l → wpT P (T.alts l) tags s K → wpT P t tags s K
  | [_], t, ht, h => by simp at ht; subst ht; exact h
  | x :: y :: r, t, ht, h => by
    rcases List.mem_cons.1 ht with rfl | ht
    · exact h.1
    · exact alts_all ht h.2
theorem mapM_mem {α β : Type} {f : α → Option β} : ∀ {l : List α} {l' : List β}, l.mapM f = some l' → ∀ x ∈ l, ∃ y ∈ l', f x = some y
  | [], _, _, x, hx => by cases hx
  | z :: l, l', h, x, hx => by
    simp only [List.mapM_cons, Option.bind_eq_bind, Option.bind_eq_some_iff, Option.pure_def, Option.some.injEq] at h
    obtain ⟨y, h1, ys, h2, rfl⟩ := h
    rcases List.mem_cons.1 hx with rfl | hx
    · exact ⟨y, List.mem_cons_self .., h1⟩
    · obtain ⟨y', h3, h4⟩ := mapM_mem h2 x hx
      exact ⟨y', List.mem_cons_of_mem _ h3, h4⟩
theorem okQ_quiet {ld : Bool} {o : O} (h : okQ ld o = true) : o.quiet = true := by
  cases o <;> first | rfl | exact h
theorem digD_sound {ld : Bool} (hsel : Region.noSelect ops = true) (hpan : ∀ c a w, ¬ Q (.panic c) a w) : ∀ {fuel : Nat} {listed : Array Bool} {t : T} {tags : List Nat} {own : Nat → Nat → Prop} {hdr : Nat → Value} {s : St} {a : Act} {w : World} {K : St → Prop} {F : Nat → Nat → Prop},
    digD P N ops ld fuel listed = some t → wpT P t tags s K → RelX P N w0 own0 hdr0 [] own hdr s a w → (∀ s' a' w', K s' → Rel P N w0 own0 hdr0 [] s' a' w' → Q .normal a' w') → Down ops listed →
    (∀ i b, F i b → i ∈ tags ∧ Now w own s.hold b) → wpAnyF P ops Q fuel listed F a w
  | 0, listed, t, tags, own, hdr, s, a, w, K, F, h, hw, r, hQ, _, _ => by
    simp only [digD] at h
    split at h
    · rename_i he
      simp at h; subst h
      exact ⟨by simpa using he, hQ s a w hw ⟨own, hdr, r⟩⟩
    · simp at h
  | fuel + 1, listed, t, tags, own, hdr, s, a, w, K, F, h, hw, r, hQ, hd, hF => by
    simp only [digD] at h
    split at h
    · rename_i he
      simp at h; subst h
      have he' : Region.ready .any ops listed = [] := by simpa using he
      exact ⟨fun _ => hQ s a w hw ⟨own, hdr, r⟩, by rw [he']; simp⟩
    · rename_i he
      split at h
      · rename_i i hf
        split at h
        · rename_i d g o' t' h1 h2
          simp at h; subst h
          have hfi := List.find?_some hf
          have hri := List.mem_of_find?_eq_some hf
          rw [h1] at hfi
          simp only [Bool.and_eq_true] at hfi
          obtain ⟨o, g1, g2, g3, ⟨e, g4⟩, g5⟩ := digN_spec h1
          obtain ⟨s1, r1, hh, hwt⟩ := guard_sound (ops := ops) r g5 hw
          simp only [relS_nil, relT_nil] at hwt
          have fin : ∀ v own' hdr' s2 tags' (F0 : Nat → Prop), RelX P N w0 own0 hdr0 [] own' hdr' s2 (a.put o.dst v) w → (∀ b, Now w own s.hold b → Now w own' s2.hold b) → (∀ b, F0 b → i ∈ tags' ∧ Now w own' s2.hold b) → (∀ j ∈ tags, j ∈ tags') → wpT P t' tags' s2 K →
              YieldsIf P ops (fun w' => ∀ b, F0 b → w'.heap[b]? = w.heap[b]?) o v a → wpAnyF P ops Q (fuel + 1) listed F a w := by
            intro v own' hdr' s2 tags' F0 r2 hsub hF0 htags hw2 hy
            have ih := digD_sound (F := fun j b => (j = i ∧ F0 b) ∨ F j b) hsel hpan h2 hw2 r2 hQ (hd.set hri) (fun j b hb => by
              rcases hb with ⟨rfl, hb⟩ | hb
              · exact hF0 b hb
              · exact ⟨htags j (hF j b hb).1, hsub b (hF j b hb).2⟩)
            have := wpAnyF_first (F0 := F0) (wd := w) g1 (Region.noSelect_spec hsel) (fun c a w hq => absurd hq (hpan _ _ _)) fuel listed _ a w hd (fun b hb => .inl ⟨rfl, hb⟩) (fun b hb => rfl) (Region.free_spec g1 hfi.2) hri hy ih
            exact wpAnyF_mono (fun j b hb => .inr hb) this
          rcases hwt with ⟨k1, k2, k3⟩ | ⟨k1, k2⟩
          · have r1' := (holds_rel r1 true o').held
            have hsub : ∀ b, Now w own s.hold b → Now w own (s1.holds true o').hold b := by
              intro b hb
              refine ⟨hb.1, fun id hid => ?_⟩
              have := hb.2 id hid
              rw [← hh] at this
              unfold St.holds
              split
              · exact List.mem_append_right _ this
              · exact this
            by_cases hld : o'.isLoad = true
            · obtain ⟨v, x, s2, m1, m2, own', hdr', m3, m4⟩ := (op_sound' r1' g4 k3).2.1 (okQ_quiet hfi.1) (k2 trivial)
              have m5 := (m3.put (d := o.dst) (by rw [g2]; exact g3) m4).unheld
              rw [g2] at m5
              simp only [hld, Bool.and_self, if_true] at m2
              refine fin v own' hdr' _ (i :: tags) (Now w own (s1.holds true o').hold) (by rw [g2]; exact m5.1) (fun b hb => (m5.2 b (hsub b hb)).1) (fun b hb => ⟨List.mem_cons_self .., (m5.2 b hb).1⟩) (fun j hj => List.mem_cons_of_mem _ hj) m2 (.inl ⟨k1, m1⟩)
            · have hld' : o'.isLoad = false := by simpa using hld
              obtain ⟨v, x, s2, m1, m2, own', hdr', m3, m4⟩ := (op_sound' r1' g4 k3).2.2 (okQ_quiet hfi.1) hld'
              have m5 := (m3.put (d := o.dst) (by rw [g2]; exact g3) m4).unheld
              rw [g2] at m5
              simp only [hld', Bool.and_false] at m2
              exact fin v own' hdr' _ tags (fun _ => False) (by rw [g2]; exact m5.1) (fun b hb => (m5.2 b (hsub b hb)).1) (fun b hb => hb.elim) (fun j hj => hj) m2 (.inl ⟨k1, m1⟩)
          · have m5 := (r1.put (d := o.dst) (x := .c .un) (v := undef) (by rw [g2]; exact g3) rfl)
            rw [g2] at m5
            refine fin undef own hdr _ tags (fun _ => False) (by rw [g2]; exact m5) (fun b hb => ?_) (fun b hb => hb.elim) (fun j hj => hj) k2 (.inr ⟨k1, rfl⟩)
            have : (s1.put d (.c .un)).hold = s.hold := by
              cases d <;> exact hh
            rw [this]; exact hb
        · simp at h
      · simp only [Option.map_eq_some_iff] at h
        obtain ⟨l, hl, rfl⟩ := h
        refine ⟨fun h0 => absurd h0 (by simpa using he), fun j hj => ?_⟩
        obtain ⟨t', ht', hfi⟩ := mapM_mem hl j hj
        have hw' := alts_all ht' hw
        split at hfi
        · rename_i d g o' t2 h1 h2
          simp at hfi; subst hfi
          refine node_sound r h1 hw' fun s' a' w' own' hdr' hK r' hkeep => ?_
          have key : ∀ i b, ¬ Behind ops j i → F i b → i ∈ relT (waitsL ops j) tags ∧ Now w own (relS (waitsL ops j) tags s).hold b := by
            intro i b hb hf
            obtain ⟨e1, e2⟩ := hF i b hf
            have hi : i ∈ relT (waitsL ops j) tags := by
              unfold relT
              rw [List.mem_filter]
              refine ⟨e1, ?_⟩
              simp only [Bool.not_eq_true', List.contains_eq_mem, decide_eq_false_iff_not]
              exact fun h => hb (waitsL_sound h)
            refine ⟨hi, ?_⟩
            unfold relS
            have hne : (relT (waitsL ops j) tags).isEmpty = false := by
              cases h : relT (waitsL ops j) tags with
              | nil => rw [h] at hi; cases hi
              | cons => rfl
            rw [hne, Bool.and_false]
            exact e2
          refine ⟨fun i b => ¬ Behind ops j i ∧ F i b, fun i b hb hf => ⟨⟨hb, hf⟩, (hkeep b (key i b hb hf).2).2⟩, digD_sound hsel hpan h2 hK r' hQ (hd.set hj) fun i b hb => ?_⟩
          exact ⟨(key i b hb.1 hb.2).1, (hkeep b (key i b hb.1 hb.2).2).1⟩
        · simp at hfi
end
end Hearth

/- The abstract machine: code. -/
namespace Hearth
open Go
inductive C where
  | skip
  | seq (x y : C)
  | cond (c : X) (x y : C)
  | block (id : Nat) (x : C)
  | loop (x : C)
  | exit (id : Nat)
  | ret
  | reg (draw : Bool) (t : T)
inductive Ex where
  | normal
  | exit (id : Nat)
  | ret
section
variable (P : Program)
def digC (N : Nat) (loud : List Nat) : Code → Option C
  | .skip => some .skip
  | .region id ops draw =>
    if draw = true then
      if P.follows .mixedOrders = true ∧ Region.noSelect ops = true then (digD P N ops (!loud.contains id) ops.size (Array.replicate ops.size false)).map (.reg true)
      else none
    else (digS P N ops (List.range ops.size)).map (.reg false)
  | .seq x y => match digC N loud x, digC N loud y with
    | some x, some y => some (.seq x y)
    | _, _ => none
  | .cond c x y => match digX P 0 c, digC N loud x, digC N loud y with
    | some c, some x, some y => some (.cond c x y)
    | _, _, _ => none
  | .block id x => (digC N loud x).map (.block id)
  | .loop x => (digC N loud x).map .loop
  | .exit id => some (.exit id)
  | .ret => some .ret
  | _ => none
def Sub (s t : St) : Prop := ∀ (P : Program) (N : Nat) (w0 : World) (own0 : Nat → Nat → Prop) (hdr0 : Nat → Value) (a : Act) (w : World), Rel P N w0 own0 hdr0 [] s a w → Rel P N w0 own0 hdr0 [] t a w
theorem Sub.refl (s : St) : Sub s s := fun _ _ _ _ _ _ _ h => h
theorem Sub.trans {s t u : St} (h : Sub s t) (h' : Sub t u) : Sub s u := fun _ _ _ _ _ _ _ r => h' _ _ _ _ _ _ _ (h _ _ _ _ _ _ _ r)
def Ex.then (Q : Ex → St → Prop) (K : St → Prop) : Ex → St → Prop
  | .normal, s => K s
  | .exit id, s => Q (.exit id) s
  | .ret, s => Q .ret s
def Ex.blk (id : Nat) (Q : Ex → St → Prop) : Ex → St → Prop
  | .normal, s => Q .normal s
  | .exit id', s => if id' = id then Q .normal s else Q (.exit id') s
  | .ret, s => Q .ret s
def wpC : C → St → (Ex → St → Prop) → Prop
  | .skip, s, Q => Q .normal s
  | .seq x y, s, Q => wpC x s (Ex.then Q fun s' => ∃ t, Sub s' t ∧ wpC y t Q)
  | .cond c x y, s, Q => match s.ev c with
    | .c (.d (.sc (.bool b))) => (b = true → ∃ t, Sub s t ∧ wpC x t Q) ∧ (b = false → ∃ t, Sub s t ∧ wpC y t Q)
    | _ => False
  | .block id x, s, Q => wpC x s (Ex.blk id Q)
  | .loop x, s, Q => ∃ (α : Type) (F : α → St) (μ : α → Nat), (∃ y, Sub s (F y)) ∧ ∀ y, ∃ t, Sub (F y) t ∧ wpC x t (Ex.then Q fun s'' => ∃ z, μ z < μ y ∧ Sub s'' (F z))
  | .exit id, s, Q => Q (.exit id) s
  | .ret, s, Q => Q .ret s
  | .reg false t, s, Q => wpT P t [] s (Q .normal)
  | .reg true t, s, Q => wpT P t [] s fun s' => Q .normal { s' with hold := [] }
end
section
variable {P : Program} {N : Nat} {w0 : World} {own0 : Nat → Nat → Prop} {hdr0 : Nat → Value} {own : Nat → Nat → Prop} {hdr : Nat → Value} {s : St} {a : Act} {w : World}
theorem wp_loop_rel {Q : Exit → Act → World → Prop} {c : Code} (I : Nat → Act → World → Prop) {n : Nat} (h₀ : I n a w)
    (round : ∀ n a w, I n a w → c.wp P (Exit.then (fun a' w' => ∃ m, m < n ∧ I m a' w') Q) a w) : (Code.loop c).wp P Q a w := by
  intro b k cs
  have key : ∀ n a w, I n a w → ∃ e a' w', Q e a' w' ∧ Arrives P (lone (b.at a (.code c :: .inLoop c :: k)) cs w) b k cs e a' w' := by
    intro n
    induction n using Nat.strongRecOn with
    | _ n ih =>
      intro a w hI
      obtain ⟨e, a₁, w₁, hq, harr⟩ := round n a w hI b (.inLoop c :: k) cs
      cases e with
      | normal =>
        obtain ⟨m, hlt, hI₁⟩ := hq
        obtain ⟨e₂, a₂, w₂, hq₂, harr₂⟩ := ih m hlt a₁ w₁ hI₁
        exact ⟨e₂, a₂, w₂, hq₂, .of_steps (Steps.trans harr (.one step_inLoop)) harr₂⟩
      | exit id => exact ⟨_, a₁, w₁, hq, .pass (x := .inLoop c) rfl (fun _ _ => .inl (by simp)) harr⟩
      | goto l => exact ⟨_, a₁, w₁, hq, .pass (x := .inLoop c) rfl (fun _ _ => .inl (by simp)) harr⟩
      | ret => exact ⟨_, a₁, w₁, hq, .pass (x := .inLoop c) rfl (fun _ _ => .inl (by simp)) harr⟩
      | panic ch => exact ⟨_, a₁, w₁, hq, .pass (x := .inLoop c) rfl (fun _ _ => .inl (by simp)) harr⟩
      | outgrown => exact ⟨_, a₁, w₁, hq, .pass (x := .inLoop c) rfl (fun _ _ => .inl (by simp)) harr⟩
  obtain ⟨e, a', w', hq, harr⟩ := key n a w h₀
  exact ⟨e, a', w', hq, .of_steps (.one step_loop) harr⟩
def QX (P : Program) (N : Nat) (w0 : World) (own0 : Nat → Nat → Prop) (hdr0 : Nat → Value) (Q : Ex → St → Prop) : Exit → Act → World → Prop
  | .normal, a, w => ∃ s, Q .normal s ∧ Rel P N w0 own0 hdr0 [] s a w
  | .exit id, a, w => ∃ s, Q (.exit id) s ∧ Rel P N w0 own0 hdr0 [] s a w
  | .ret, a, w => ∃ s, Q .ret s ∧ Rel P N w0 own0 hdr0 [] s a w
  | _, _, _ => False
theorem RelX.hold (r : RelX P N w0 own0 hdr0 [] own hdr s a w) (h : List Nat) : RelX P N w0 own0 hdr0 [] own hdr { s with hold := h } a w :=
  ⟨r.n, r.defers, r.tmps, r.objs, r.al, r.alv, r.dis, r.lt, r.ext, r.zero, r.new, by simp⟩
theorem RelX.drawn (r : RelX P N w0 own0 hdr0 [] own hdr s a w) : ∃ own hdr, RelX P N w0 own0 hdr0 [] own hdr s a { w with drawn := w.drawn + 1 } :=
  ⟨own, hdr, (r.more (w' := { w with drawn := w.drawn + 1 }) ⟨rfl, rfl, rfl, Nat.le_refl _, fun _ _ _ => rfl, Nat.le_succ _⟩).1⟩
theorem digC_sound {loud : List Nat} : ∀ {c : Code} {c' : C} {s : St} {a : Act} {w : World} {Q : Ex → St → Prop}, digC P N loud c = some c' → wpC P c' s Q → Rel P N w0 own0 hdr0 [] s a w →
    c.wp P (QX P N w0 own0 hdr0 Q) a w := by
  intro c
  induction c with
  | skip =>
    intro c' s a w Q h hw hr
    simp [digC] at h; subst h
    exact wp_skip ⟨s, hw, hr⟩
  | region id ops draw =>
    intro c' s a w Q h hw hr
    simp only [digC] at h
    split at h
    · rename_i hd
      subst hd
      split at h
      · rename_i hm
        simp only [Option.map_eq_some_iff] at h
        obtain ⟨t, ht, rfl⟩ := h
        obtain ⟨own, hdr, r⟩ := hr
        obtain ⟨own, hdr, r⟩ := r.drawn
        refine wp_mono (Q := fun e a w => e = .normal ∧ ∃ s, Q .normal s ∧ Rel P N w0 own0 hdr0 [] s a w) ?_ ?_
        · exact wp_region_any hm.1 (wpAny_of_F _ _ (fun _ _ => False) _ _ (digD_sound hm.2 (fun c a w h => by simp at h) ht hw r (fun s' a' w' hK ⟨o, h, r⟩ => ⟨rfl, _, hK, o, h, r.hold []⟩) (fun j o e _ h => by
          rw [Array.getD_eq_getD_getElem?, Array.getElem?_replicate] at h
          split at h <;> simp at h) (fun _ _ h => h.elim)))
        · rintro e a w ⟨rfl, h⟩; exact h
      · simp at h
    · rename_i hd
      simp only [Option.map_eq_some_iff] at h
      obtain ⟨t, ht, rfl⟩ := h
      have : draw = false := by simpa using hd
      subst this
      exact wp_region (digS_sound ht hw hr fun s' a' w' hK hr => ⟨s', hK, hr⟩)
  | seq x y ihx ihy =>
    intro c' s a w Q h hw hr
    simp only [digC] at h
    split at h
    · rename_i x' y' hx hy
      simp at h; subst h
      refine wp_seq (wp_mono (ihx hx hw hr) ?_)
      rintro (_ | id | l | _ | ch | _) a w hq
      · obtain ⟨s', ⟨t, h0, h1⟩, h2⟩ := hq; exact ihy hy h1 (h0 _ _ _ _ _ _ _ h2)
      · exact hq
      · exact hq
      · exact hq
      · exact hq
      · exact hq
    · simp at h
  | cond c x y ihx ihy =>
    intro c' s a w Q h hw hr
    simp only [digC] at h
    split at h
    · rename_i z x' y' hz hx hy
      simp at h; subst h
      obtain ⟨own, hdr, r⟩ := hr
      have hv := ev_sound r hz
      simp only [wpC] at hw
      split at hw
      · rename_i b hb
        rw [hb] at hv
        exact wp_cond_split (sc_of hv) (fun h => let ⟨t, h1, h2⟩ := hw.1 h; ihx hx h2 (h1 _ _ _ _ _ _ _ ⟨own, hdr, r⟩)) (fun h => let ⟨t, h1, h2⟩ := hw.2 h; ihy hy h2 (h1 _ _ _ _ _ _ _ ⟨own, hdr, r⟩))
      · exact hw.elim
    · simp at h
  | block id x ih =>
    intro c' s a w Q h hw hr
    simp only [digC, Option.map_eq_some_iff] at h
    obtain ⟨x', hx, rfl⟩ := h
    refine wp_block (wp_mono (ih hx hw hr) ?_)
    rintro (_ | id' | l | _ | ch | _) a w hq
    · exact hq
    · obtain ⟨s', h1, h2⟩ := hq
      simp only [Ex.blk] at h1
      simp only [Exit.inBlock]
      by_cases hid : id' = id
      · rw [if_pos hid] at h1 ⊢; exact ⟨s', h1, h2⟩
      · rw [if_neg hid] at h1 ⊢; exact ⟨s', h1, h2⟩
    · exact hq
    · exact hq
    · exact hq
    · exact hq
  | loop x ih =>
    intro c' s a w Q h hw hr
    simp only [digC, Option.map_eq_some_iff] at h
    obtain ⟨x', hx, rfl⟩ := h
    obtain ⟨α, F, μ, ⟨y0, h0⟩, hround⟩ := hw
    refine wp_loop_rel (fun n a w => ∃ y, μ y = n ∧ Rel P N w0 own0 hdr0 [] (F y) a w) (n := μ y0) ⟨y0, rfl, h0 _ _ _ _ _ _ _ hr⟩ ?_
    rintro n a w ⟨y, rfl, hr'⟩
    obtain ⟨t, ht, hround⟩ := hround y
    refine wp_mono (ih hx hround (ht _ _ _ _ _ _ _ hr')) ?_
    rintro (_ | id | l | _ | ch | _) a w hq
    · obtain ⟨s'', ⟨z, h1, h2⟩, h3⟩ := hq; exact ⟨_, h1, z, rfl, h2 _ _ _ _ _ _ _ h3⟩
    · exact hq
    · exact hq
    · exact hq
    · exact hq
    · exact hq
  | exit id =>
    intro c' s a w Q h hw hr
    simp [digC] at h; subst h
    exact wp_exit ⟨s, hw, hr⟩
  | ret =>
    intro c' s a w Q h hw hr
    simp [digC] at h; subst h
    exact wp_ret ⟨s, hw, hr⟩
  | _ => intro c' s a w Q h; simp [digC] at h
end
end Hearth

/- The abstract machine: functions. -/
namespace Hearth
open Go
def initC (q : Nat) : PA → AC
  | .d x => .d x
  | .arr _ _ _ => .arr q 0
  | .box _ => .ptr q 0 0
  | .ptr cs => .cpt cs
  | .fv p C => .fv p C
def initL (t : Nat) : Nat → List PA → List AC
  | _, [] => []
  | k, p :: ps => initC (aid t k) p :: initL t (k + 1) ps
def initA (t : Nat) : GA → AV
  | .one p => .c (initC (aid t 0) p)
  | .agg ps => .g (initL t 0 ps)
def initK : Option PA → OK
  | some (.arr _ dp x) => .arr dp x
  | some (.box cs) => .box (cs.map .d)
  | _ => .dead
def St.init (gas : List GA) : St where
  sl := fun t => match gas[t]? with
    | some g => initA t g
    | none => .c .un
  ob := fun id => ⟨0, 0, if id = alien then .ext else initK (gaAt gas id)⟩
  hold := []
def St.outs (s : St) : Outs :=
  ⟨fun q => match (s.ob q).k with
    | .arr _ y => y
    | _ => .sl 0 [],
   fun q => match (s.ob q).k with
    | .box cs => cs.map fun c => (s.rd c).getD (.sl 0 [])
    | _ => []⟩
section
variable (s : St) (own : List Nat)
def endD (c : AC) (x : DV) : Prop := s.rd c = some x ∧ (stabR s c = true ∨ match c with | .arr id _ => 0 < (s.ob id).ver ∧ id ∉ own | _ => False)
def endDs : List AC → List DV → Prop
  | [], [] => True
  | c :: cs, x :: xs => endD s own c x ∧ endDs cs xs
  | _, _ => False
def endC (gas : List GA) : AC → RV → Prop
  | c, .d x => endD s own c x
  | .arr id ver, .own dp x => (∃ dp', s.obj id ver = .arr dp' x ∧ (dp = true → dp' = true)) ∧ (0 < (s.ob id).ver ∨ ∃ dp x, gaAt gas id = some (.arr true dp x))
  | .nil sz, .own _ x => x = .sl sz []
  | .ptr id ver off, .box ds => off = 0 ∧ (∃ cs, s.obj id ver = .box cs ∧ endDs s own cs ds) ∧ 0 < (s.ob id).ver
  | _, _ => False
def endL (gas : List GA) : List AC → List RV → Prop
  | [], [] => True
  | c :: cs, x :: xs => endC s own gas c x ∧ endL gas cs xs
  | _, _ => False
def endA (gas : List GA) : AV → RA → Prop
  | .c c, .one x => endC s own gas c x
  | .g cs, .agg xs => endL s own gas cs xs ∧ xs.length ≤ 64
  | _, _ => False
def endAs (gas : List GA) : List AV → List RA → Prop
  | [], [] => True
  | c :: cs, x :: xs => endA s own gas c x ∧ endAs gas cs xs
  | _, _ => False
def endP (q : Nat) : PA → Prop
  | .arr false dp x => match s.ob q with
    | ⟨v, _, .arr dp' y⟩ => v = 0 ∧ (dp = true → dp' = true) ∧ y.esz = x.esz
    | _ => False
  | .box cs => match s.ob q with
    | ⟨v, _, .box cs'⟩ => v = 0 ∧ endDs s own cs' (cs'.map fun c => (s.rd c).getD (.sl 0 [])) ∧ cs'.length = cs.length
    | _ => False
  | _ => True
def endPs (t : Nat) : Nat → List PA → Prop
  | _, [] => True
  | k, p :: ps => endP s own (aid t k) p ∧ endPs t (k + 1) ps
def endGs : Nat → List GA → Prop
  | _, [] => True
  | t, .one p :: gs => endP s own (aid t 0) p ∧ endGs (t + 1) gs
  | t, .agg ps :: gs => endPs s own t 0 ps ∧ endGs (t + 1) gs
end
def ownIdsC : AC → RV → List Nat
  | .arr id _, .own _ _ => [id]
  | .ptr id _ _, .box _ => [id]
  | _, _ => []
def ownIdsL : List AC → List RV → List Nat
  | c :: cs, x :: xs => ownIdsC c x ++ ownIdsL cs xs
  | _, _ => []
def ownIdsA : AV → RA → List Nat
  | .c c, .one x => ownIdsC c x
  | .g cs, .agg xs => ownIdsL cs xs
  | _, _ => []
def ownIds : List AV → List RA → List Nat
  | c :: cs, x :: xs => ownIdsA c x ++ ownIds cs xs
  | _, _ => []
def EndOK (gas : List GA) (avs : List AV) (ra : List RA) (s : St) : Prop :=
  endAs s (ownIds avs ra) gas avs ra ∧ (ownIds avs ra).Nodup ∧ endGs s (ownIds avs ra) 0 gas
inductive RSl where
  | s (t : Nat)
  | m (t : Nat) (n : Option Nat)
def slotOf (P : Program) : ResultVar → Option RSl
  | .tmp t => some (.s t)
  | .cell a t => (numOf P t).map (.m a)
def resSlots (P : Program) (fn : Func) : Option (List RSl) := fn.results.toList.mapM (slotOf P)
def St.resAt (s : St) : RSl → Option AV
  | .s t => some (s.sl t)
  | .m t n => match s.sl t with
    | .c (.ptr id ver off) => match s.obj id ver with
      | .box cs => pickCells n (cs.drop off)
      | _ => none
    | _ => none
def St.resAts (s : St) : List RSl → Option (List AV)
  | [] => some []
  | r :: rs => match s.resAt r, s.resAts rs with
    | some v, some vs => some (v :: vs)
    | _, _ => none
end Hearth

/- The abstract machine: a function that the abstract machine runs well keeps its contract. -/
namespace Hearth
open Go
def argCell (gas : List GA) (vs : Array Value) (q : Nat) : Value :=
  match gas[q / 64]? with
  | some (.one _) => vs.getD (q / 64) undef
  | some (.agg _) => match vs.getD (q / 64) undef with
    | .agg us => us.getD (q % 64) undef
    | _ => undef
  | none => undef
def own00 (w : World) (S : Nat → Prop) (Fs : Nat → Nat → Prop) (id b : Nat) : Prop := if id = alien then b < w.heap.size ∧ ¬ S b ∧ ∀ q, ¬ Fs q b else Fs id b
def hdr00 (gas : List GA) (vs : Array Value) (id : Nat) : Value :=
  match gaAt gas id with
  | some (.arr _ _ _) | some (.box _) => argCell gas vs id
  | _ => undef
theorem GA.at_lt {g : GA} {k : Nat} {p : PA} (h : g.at k = some p) : k < 64 := by
  cases g with
  | one x => simp only [GA.at] at h; split at h <;> simp_all
  | agg xs => simp only [GA.at] at h; split at h <;> simp_all
theorem gaAt_aid {gas : List GA} {t k : Nat} {g : GA} {p : PA} (h : gas[t]? = some g) (hk : g.at k = some p) : gaAt gas (aid t k) = some p := by
  have hlt := GA.at_lt hk
  have h1 : aid t k / 64 = t := by unfold aid; omega
  have h2 : aid t k % 64 = k := by unfold aid; omega
  unfold gaAt
  rw [h1, h2, h]; exact hk
theorem gaAt_inv {gas : List GA} {q : Nat} {p : PA} (h : gaAt gas q = some p) : ∃ g, gas[q / 64]? = some g ∧ g.at (q % 64) = some p := by
  unfold gaAt at h
  simpa [Option.bind_eq_some_iff] using h
section
variable {P : Program} {gas : List GA} {w : World} {S : Nat → Prop} {Fs : Nat → Nat → Prop} {vs : Array Value}
theorem arg_at (hl : vs.size = gas.length) (hg : ∀ (t : Nat) (g : GA) (v : Value), gas[t]? = some g → vs[t]? = some v → GAr P w S (fun b => b < w.heap.size ∧ ∀ q, ¬ Fs q b) t Fs g v)
    {q : Nat} {p : PA} (h : gaAt gas q = some p) : PAr P w S (fun b => b < w.heap.size ∧ ∀ q, ¬ Fs q b) p (argCell gas vs q) (Fs q) := by
  obtain ⟨g, h1, h2⟩ := gaAt_inv h
  have hlt : q / 64 < vs.size := by rw [hl]; exact (List.getElem?_eq_some_iff.1 h1).1
  have hv := Array.getElem?_eq_getElem hlt
  have hga := hg _ g _ h1 hv
  have hq : q = aid (q / 64) (q % 64) := by unfold aid; omega
  unfold argCell
  rw [h1]
  cases g with
  | one x =>
    simp only [GA.at] at h2
    split at h2
    · rename_i h0
      simp at h2; subst h2
      rw [h0] at hq
      simp only [Array.getD_eq_getD_getElem?, hv, Option.getD_some]
      have hga' : PAr P w S (fun b => b < w.heap.size ∧ ∀ q, ¬ Fs q b) x vs[q / 64] (Fs (aid (q / 64) 0)) := hga
      rw [← hq] at hga'
      exact hga'
    · simp at h2
  | agg xs =>
    simp only [GA.at] at h2
    split at h2
    · obtain ⟨us, e1, e2, e3, e4⟩ := hga
      have hk : q % 64 < us.size := by rw [e2]; exact (List.getElem?_eq_some_iff.1 h2).1
      simp only [Array.getD_eq_getD_getElem?, hv, Option.getD_some, e1]
      have := e4 _ p _ h2 (Array.getElem?_eq_getElem hk)
      rw [← hq] at this
      simpa [Array.getElem?_eq_getElem hk] using this
    · simp at h2
theorem argCell_eq (hl : vs.size = gas.length) {t k : Nat} {g : GA} {v u : Value} {p : PA} (h1 : gas[t]? = some g) (h2 : vs[t]? = some v) (h3 : g.at k = some p) (h4 : match (generalizing := false) g with | .one _ => u = v | .agg _ => ∃ us : Array Value, v = .agg us ∧ us[k]? = some u) :
    argCell gas vs (aid t k) = u := by
  have hlt := GA.at_lt h3
  have e1 : aid t k / 64 = t := by unfold aid; omega
  have e2 : aid t k % 64 = k := by unfold aid; omega
  unfold argCell
  rw [e1, e2, h1]
  cases g with
  | one x => simp only at h4; simp [h2, h4]
  | agg xs =>
    simp only at h4
    obtain ⟨us, rfl, h5⟩ := h4
    simp [h2, h5]
theorem initL_get {t : Nat} : ∀ {k0 : Nat} {ps : List PA}, (initL t k0 ps).length = ps.length ∧ ∀ (k : Nat) (c : AC), (initL t k0 ps)[k]? = some c → ∃ p, ps[k]? = some p ∧ c = initC (aid t (k0 + k)) p
  | k0, [] => by simp [initL]
  | k0, p :: ps => by
    obtain ⟨i1, i2⟩ := initL_get (t := t) (k0 := k0 + 1) (ps := ps)
    refine ⟨by simp [initL, i1], fun k c h => ?_⟩
    cases k with
    | zero => simp [initL] at h; exact ⟨p, rfl, h.symm⟩
    | succ k =>
      simp [initL] at h
      obtain ⟨y, h3, h4⟩ := i2 k c h
      exact ⟨y, by simpa using h3, by rw [h4, show k0 + 1 + k = k0 + (k + 1) by omega]⟩
theorem init_rel {N : Nat} (hN : gas.length ≤ N) (h63 : gas.length ≤ 63) (hl : vs.size = gas.length)
    (hg : ∀ (t : Nat) (g : GA) (v : Value), gas[t]? = some g → vs[t]? = some v → GAr P w S (fun b => b < w.heap.size ∧ ∀ q, ¬ Fs q b) t Fs g v)
    (hdis : ∀ q q' b, Fs q b → Fs q' b → q = q') (hF : ∀ q b, Fs q b → b < w.heap.size ∧ ¬ S b) (hS : ∀ b, S b → b < w.heap.size)
    (hFk : ∀ q b, Fs q b → ∃ g dp x, gaAt gas q = some (.arr g dp x) ∨ ∃ cs, gaAt gas q = some (.box cs)) :
    RelX P N w (own00 w S Fs) (hdr00 gas vs) [] (own00 w S Fs) (hdr00 gas vs) (.init gas) { tmps := vs ++ Array.replicate (N - vs.size) undef, defers := [] } w := by
  have noAl : gaAt gas alien = none := by
    cases h : gaAt gas alien with
    | none => rfl
    | some p =>
      obtain ⟨g, h1, _⟩ := gaAt_inv h
      have := (List.getElem?_eq_some_iff.1 h1).1
      unfold alien at this
      omega
  have free : ∀ b, S b → Free w (own00 w S Fs) b := by
    intro b hb
    refine ⟨hS b hb, fun id ho => ?_⟩
    unfold own00 at ho
    split at ho
    · exact ho.2.1 hb
    · exact (hF id b ho).2 hb
  have freeF : ∀ b, (b < w.heap.size ∧ ∀ q, ¬ Fs q b) → FreeF w (own00 w S Fs) b := by
    intro b hb
    refine ⟨hb.1, fun id ho => ?_⟩
    unfold own00 at ho
    split at ho
    · assumption
    · exact absurd ho (hb.2 id)
  have cell : ∀ q p, gaAt gas q = some p → RC P w (own00 w S Fs) (hdr00 gas vs) (St.init gas).ob (initC q p) (argCell gas vs q) := by
    intro q p hq
    have hp := arg_at hl hg hq
    cases p with
    | d x => exact hp.mono' free
    | arr g dp x => exact ⟨Nat.le_refl _, fun _ => by simp [hdr00, hq]⟩
    | box cs =>
      obtain ⟨b, us, t, h1, _⟩ := hp
      exact ⟨Nat.le_refl _, fun _ => ⟨b, by simp [hdr00, hq, h1], by rw [h1]⟩⟩
    | ptr cs =>
      obtain ⟨b, off, h1, h2, h3⟩ := hp
      refine ⟨b, off, h1, free b h2, fun j d hj => ?_⟩
      obtain ⟨u, h4, h5⟩ := h3 j d hj
      exact ⟨u, h4, h5.mono free freeF⟩
    | fv p C =>
      refine FVal.mono (fun b hb => ⟨rfl, ?_⟩) (Nat.le_refl _) hp
      cases p with
      | true => exact hb
      | false => exact freeF b hb
  refine ⟨by simp; omega, rfl, fun t => ?_, fun id => ?_, by simp [St.init], rfl, fun id id' b h1 h2 => ?_, fun id b h => ?_, Ext.refl _ _, fun id _ => ⟨rfl, fun b => Iff.rfl⟩, fun id b hne h => .inr ⟨id, hne, h⟩, by simp⟩
  · simp only [St.init]
    split
    · rename_i g hgt
      have hlt : t < vs.size := by rw [hl]; exact (List.getElem?_eq_some_iff.1 hgt).1
      have hv := Array.getElem?_eq_getElem hlt
      have hget : (vs ++ Array.replicate (N - vs.size) undef).getD t undef = vs[t] := by
        simp [Array.getElem?_append, hlt]
      rw [hget]
      have hga := hg t g _ hgt hv
      cases g with
      | one p =>
        have h0 : (GA.one p).at 0 = some p := rfl
        have := cell _ p (gaAt_aid hgt h0)
        rw [argCell_eq hl hgt hv h0 (u := vs[t]) rfl] at this
        exact this
      | agg ps =>
        obtain ⟨us, e1, e2, e3, e4⟩ := hga
        rw [e1]
        obtain ⟨i1, i2⟩ := initL_get (t := t) (k0 := 0) (ps := ps)
        refine ⟨us, rfl, by rw [i1, e2], fun k c u h1 h2 => ?_⟩
        obtain ⟨p, h3, rfl⟩ := i2 k c h1
        rw [Nat.zero_add]
        have hk : k < 64 := Nat.lt_of_lt_of_le (List.getElem?_eq_some_iff.1 h3).1 e3
        have h0 : (GA.agg ps).at k = some p := by simp [GA.at, hk, h3]
        have := cell _ p (gaAt_aid hgt h0)
        rw [argCell_eq hl hgt hv h0 (u := u) ⟨us, e1, h2⟩] at this
        exact this
    · rename_i hgt
      have hge : vs.size ≤ t := by rw [hl]; simpa using hgt
      have : (vs ++ Array.replicate (N - vs.size) undef).getD t undef = undef := by
        simp only [Array.getD_eq_getD_getElem?, Array.getElem?_append]
        rw [if_neg (by omega), Array.getElem?_replicate]
        split <;> rfl
      rw [this]
      exact rfl
  · unfold RO
    simp only [St.init]
    by_cases hal : id = alien
    · subst hal
      simp [hdr00, noAl]
    · rw [if_neg hal]
      have ho : ∀ b, own00 w S Fs id b ↔ Fs id b := fun b => by simp [own00, hal]
      cases hq : gaAt gas id with
      | none =>
        simp only [initK, hdr00, hq]
        refine ⟨trivial, fun b hb => ?_⟩
        obtain ⟨_, _, _, h | ⟨_, h⟩⟩ := hFk id b ((ho b).1 hb) <;> rw [hq] at h <;> cases h
      | some p =>
        have hp := arg_at hl hg hq
        cases p with
        | arr g dp x =>
          simp only [initK, hdr00, hq]
          exact ⟨hp.1, hp.2.mono (fun h => h) (fun b hb => ⟨rfl, free b hb⟩) fun b hb => ⟨rfl, (ho b).2 hb⟩⟩
        | box cs =>
          simp only [initK, hdr00, hq]
          obtain ⟨b, us, t, h1, h2, h3, h4, h5⟩ := hp
          refine ⟨b, us, t, h1, fun x => (ho x).trans (h2 x), h3, by simpa using h4, fun k c u h6 h7 => ?_⟩
          simp only [List.getElem?_map, Option.map_eq_some_iff] at h6
          obtain ⟨d, h6, rfl⟩ := h6
          exact (h5 k d u h6 h7).mono' free
        | _ =>
          simp only [initK, hdr00, hq]
          refine ⟨trivial, fun b hb => ?_⟩
          obtain ⟨_, _, _, h | ⟨_, h⟩⟩ := hFk id b ((ho b).1 hb) <;> rw [hq] at h <;> cases h
  · unfold own00 at h1 h2
    split at h1 <;> split at h2
    · simp_all
    · exact absurd h2 (h1.2.2 _)
    · exact absurd h1 (h2.2.2 _)
    · exact hdis _ _ b h1 h2
  · unfold own00 at h
    split at h
    · exact h.1
    · exact (hF _ _ h).1
end
end Hearth

/- The abstract machine: functions' ends. -/
namespace Hearth
open Go
inductive AtR : AV → RA → Nat → AC → RV → Prop where
  | one (c : AC) (x : RV) : AtR (.c c) (.one x) 0 c x
  | agg (cs : List AC) (xs : List RV) (k : Nat) (c : AC) (x : RV) (h : xs.length ≤ 64) (h1 : cs[k]? = some c) (h2 : xs[k]? = some x) : AtR (.g cs) (.agg xs) k c x
theorem AtR.lt {v : AV} {r : RA} {k : Nat} {c : AC} {x : RV} (h : AtR v r k c x) : k < 64 := by
  cases h with
  | one => omega
  | agg cs xs k c x h h1 h2 => exact Nat.lt_of_lt_of_le (List.getElem?_eq_some_iff.1 h2).1 h
theorem ownIdsL_mem {id : Nat} : ∀ {cs : List AC} {xs : List RV} {k : Nat} {c : AC} {x : RV}, cs[k]? = some c → xs[k]? = some x → id ∈ ownIdsC c x → id ∈ ownIdsL cs xs
  | [], _, _, _, _, h, _, _ => by simp at h
  | _ :: _, [], _, _, _, _, h, _ => by simp at h
  | c :: cs, x :: xs, k, c', x', h1, h2, h3 => by
    simp only [ownIdsL, List.mem_append]
    cases k with
    | zero => simp at h1 h2; subst h1; subst h2; exact .inl h3
    | succ k => simp at h1 h2; exact .inr (ownIdsL_mem h1 h2 h3)
theorem ownIdsL_inj {id : Nat} : ∀ {cs : List AC} {xs : List RV} {k k' : Nat} {c c' : AC} {x x' : RV}, (ownIdsL cs xs).Nodup → cs[k]? = some c → xs[k]? = some x → id ∈ ownIdsC c x → cs[k']? = some c' → xs[k']? = some x' → id ∈ ownIdsC c' x' → k = k'
  | [], _, _, _, _, _, _, _, _, h, _, _, _, _, _ => by simp at h
  | _ :: _, [], _, _, _, _, _, _, _, _, h, _, _, _, _ => by simp at h
  | c :: cs, x :: xs, k, k', c1, c2, x1, x2, hn, h1, h2, h3, h4, h5, h6 => by
    simp only [ownIdsL, List.nodup_append] at hn
    cases k <;> cases k' <;> simp at h1 h2 h4 h5
    · rfl
    · subst h1; subst h2; exact absurd rfl (hn.2.2 id h3 id (ownIdsL_mem h4 h5 h6))
    · subst h4; subst h5; exact absurd rfl (hn.2.2 id h6 id (ownIdsL_mem h1 h2 h3))
    · rw [ownIdsL_inj hn.2.1 h1 h2 h3 h4 h5 h6]
theorem ownIdsA_mem {id : Nat} {v : AV} {r : RA} {k : Nat} {c : AC} {x : RV} (h : AtR v r k c x) (hi : id ∈ ownIdsC c x) : id ∈ ownIdsA v r := by
  cases h with
  | one => exact hi
  | agg cs xs k c x h h1 h2 => exact ownIdsL_mem h1 h2 hi
theorem ownIdsA_inj {id : Nat} {v : AV} {r : RA} {k k' : Nat} {c c' : AC} {x x' : RV} (hn : (ownIdsA v r).Nodup) (h : AtR v r k c x) (hi : id ∈ ownIdsC c x) (h' : AtR v r k' c' x') (hi' : id ∈ ownIdsC c' x') : k = k' := by
  cases h with
  | one => cases h'; rfl
  | agg cs xs k c x h h1 h2 => cases h' with | agg _ _ _ _ _ _ h3 h4 => exact ownIdsL_inj hn h1 h2 hi h3 h4 hi'
theorem AtR.uniq {v : AV} {r : RA} {k : Nat} {c c' : AC} {x x' : RV} (h : AtR v r k c x) (h' : AtR v r k c' x') : c = c' ∧ x = x' := by
  cases h with
  | one => cases h'; exact ⟨rfl, rfl⟩
  | agg cs xs k c x h h1 h2 => cases h' with | agg _ _ _ _ _ _ h3 h4 => rw [h1] at h3; rw [h2] at h4; simp at h3 h4; exact ⟨h3, h4⟩
theorem ownIdsC_uniq {id id' : Nat} {v : AV} {r : RA} {k : Nat} {c c' : AC} {x x' : RV} (h : AtR v r k c x) (hi : id ∈ ownIdsC c x) (h' : AtR v r k c' x') (hi' : id' ∈ ownIdsC c' x') : id' = id := by
  obtain ⟨rfl, rfl⟩ := h.uniq h'
  cases c <;> cases x <;> simp [ownIdsC] at hi hi'
  · rw [hi, hi']
  · rw [hi, hi']
theorem ownIds_mem {id : Nat} : ∀ {vs : List AV} {ra : List RA} {t k : Nat} {v : AV} {r : RA} {c : AC} {x : RV}, vs[t]? = some v → ra[t]? = some r → AtR v r k c x → id ∈ ownIdsC c x → id ∈ ownIds vs ra
  | [], _, _, _, _, _, _, _, h, _, _, _ => by simp at h
  | _ :: _, [], _, _, _, _, _, _, _, h, _, _ => by simp at h
  | v :: vs, r :: ra, t, k, v', r', c, x, h1, h2, h3, h4 => by
    simp only [ownIds, List.mem_append]
    cases t with
    | zero => simp at h1 h2; subst h1; subst h2; exact .inl (ownIdsA_mem h3 h4)
    | succ t => simp at h1 h2; exact .inr (ownIds_mem h1 h2 h3 h4)
theorem ownIds_inj {id : Nat} : ∀ {vs : List AV} {ra : List RA} {t k t' k' : Nat} {v v' : AV} {r r' : RA} {c c' : AC} {x x' : RV}, (ownIds vs ra).Nodup → vs[t]? = some v → ra[t]? = some r → AtR v r k c x → id ∈ ownIdsC c x →
    vs[t']? = some v' → ra[t']? = some r' → AtR v' r' k' c' x' → id ∈ ownIdsC c' x' → t = t' ∧ k = k'
  | [], _, _, _, _, _, _, _, _, _, _, _, _, _, _, h, _, _, _, _, _, _, _ => by simp at h
  | _ :: _, [], _, _, _, _, _, _, _, _, _, _, _, _, _, _, h, _, _, _, _, _, _ => by simp at h
  | v :: vs, r :: ra, t, k, t', k', v1, v2, r1, r2, c1, c2, x1, x2, hn, h1, h2, h3, h4, h5, h6, h7, h8 => by
    simp only [ownIds, List.nodup_append] at hn
    cases t <;> cases t' <;> simp at h1 h2 h5 h6
    · subst h1; subst h2; subst h5; subst h6
      exact ⟨rfl, ownIdsA_inj hn.1 h3 h4 h7 h8⟩
    · subst h1; subst h2; exact absurd rfl (hn.2.2 id (ownIdsA_mem h3 h4) id (ownIds_mem h5 h6 h7 h8))
    · subst h5; subst h6; exact absurd rfl (hn.2.2 id (ownIdsA_mem h7 h8) id (ownIds_mem h1 h2 h3 h4))
    · obtain ⟨e1, e2⟩ := ownIds_inj hn.2.1 h1 h2 h3 h4 h5 h6 h7 h8
      exact ⟨by rw [e1], e2⟩
section
variable {P : Program} {N : Nat} {gas : List GA} {w : World} {S : Nat → Prop} {Fs : Nat → Nat → Prop} {vs : Array Value} {s : St}
theorem endL_get {ow : List Nat} : ∀ {cs : List AC} {xs : List RV}, endL s ow gas cs xs → cs.length = xs.length ∧ ∀ (k : Nat) (c : AC) (x : RV), cs[k]? = some c → xs[k]? = some x → endC s ow gas c x
  | [], [], _ => by simp
  | v :: vs, g :: gs, h => by
    obtain ⟨h1, h2⟩ := endL_get h.2
    refine ⟨by simp [h1], fun t v' g' h3 h4 => ?_⟩
    cases t with
    | zero => simp at h3 h4; subst h3; subst h4; exact h.1
    | succ t => simp at h3 h4; exact h2 t v' g' h3 h4
  | [], _ :: _, h => h.elim
  | _ :: _, [], h => h.elim
theorem endAs_get {ow : List Nat} : ∀ {cs : List AV} {xs : List RA}, endAs s ow gas cs xs → cs.length = xs.length ∧ ∀ (k : Nat) (c : AV) (x : RA), cs[k]? = some c → xs[k]? = some x → endA s ow gas c x
  | [], [], _ => by simp
  | v :: vs, g :: gs, h => by
    obtain ⟨h1, h2⟩ := endAs_get h.2
    refine ⟨by simp [h1], fun t v' g' h3 h4 => ?_⟩
    cases t with
    | zero => simp at h3 h4; subst h3; subst h4; exact h.1
    | succ t => simp at h3 h4; exact h2 t v' g' h3 h4
  | [], _ :: _, h => h.elim
  | _ :: _, [], h => h.elim
theorem endDs_get {ow : List Nat} : ∀ {cs : List AC} {xs : List DV}, endDs s ow cs xs → cs.length = xs.length ∧ ∀ (k : Nat) (c : AC) (x : DV), cs[k]? = some c → xs[k]? = some x → endD s ow c x
  | [], [], _ => by simp
  | v :: vs, g :: gs, h => by
    obtain ⟨h1, h2⟩ := endDs_get h.2
    refine ⟨by simp [h1], fun t v' g' h3 h4 => ?_⟩
    cases t with
    | zero => simp at h3 h4; subst h3; subst h4; exact h.1
    | succ t => simp at h3 h4; exact h2 t v' g' h3 h4
  | [], _ :: _, h => h.elim
  | _ :: _, [], h => h.elim
theorem endA_at {ow : List Nat} {v : AV} {r : RA} (h : endA s ow gas v r) {k : Nat} {c : AC} {x : RV} (hat : AtR v r k c x) : endC s ow gas c x := by
  cases hat with
  | one => exact h
  | agg cs xs k c x h0 h1 h2 => exact (endL_get h.1).2 k c x h1 h2
theorem endPs_get {ow : List Nat} {t : Nat} : ∀ {k0 : Nat} {ps : List PA}, endPs s ow t k0 ps → ∀ (k : Nat) (p : PA), ps[k]? = some p → endP s ow (aid t (k0 + k)) p
  | k0, [], _, k, p, h => by simp at h
  | k0, p :: ps, h, k, p', hk => by
    cases k with
    | zero => simp at hk; subst hk; exact h.1
    | succ k => simp at hk; rw [show k0 + (k + 1) = k0 + 1 + k by omega]; exact endPs_get h.2 k p' hk
theorem endGs_get {ow : List Nat} : ∀ {t0 : Nat} {gs : List GA}, endGs s ow t0 gs → ∀ (t k : Nat) (g : GA) (p : PA), gs[t]? = some g → g.at k = some p → endP s ow (aid (t0 + t) k) p
  | t0, [], _, t, k, g, p, h, _ => by simp at h
  | t0, g :: gs, h, t, k, g', p, h1, h2 => by
    cases t with
    | zero =>
      simp at h1; subst h1
      cases g with
      | one x =>
        simp only [GA.at] at h2
        split at h2
        · rename_i h0; simp at h2; subst h2; subst h0; exact h.1
        · simp at h2
      | agg xs =>
        simp only [GA.at] at h2
        split at h2
        · have := endPs_get h.1 k p h2
          rwa [Nat.zero_add] at this
        · simp at h2
    | succ t =>
      simp at h1
      rw [show t0 + (t + 1) = t0 + 1 + t by omega]
      refine endGs_get ?_ t k g' p h1 h2
      cases g with
      | one x => exact h.2
      | agg xs => exact h.2
theorem end_sound {a : Act} {w' : World} {own : Nat → Nat → Prop} {hdr : Nat → Value} {avs : List AV} {ra : List RA} {rs : Array Value}
    (r : RelX P N w (own00 w S Fs) (hdr00 gas vs) [] own hdr s a w') (hl : vs.size = gas.length)
    (hFk : ∀ q b, Fs q b → ∃ g dp x, gaAt gas q = some (.arr g dp x) ∨ ∃ cs, gaAt gas q = some (.box cs)) (hal : gaAt gas alien = none)
    (hrl : rs.size = avs.length) (hr : ∀ (t : Nat) (v : AV) (u : Value), avs[t]? = some v → rs[t]? = some u → RS P w' own hdr s.ob v u) (he : EndOK gas avs ra s) :
    ∃ G, Ext w w' (fun b => ∃ q, Fs q b) ∧ Fresh w w' G (GivenTo gas Fs) ∧
      RAs w' (fun b => b < w'.heap.size ∧ (S b ∨ w.heap.size ≤ b ∨ GivenTo gas Fs b) ∧ ∀ i, ¬ G i b) ra (if h : rs.size = 1 then rs[0] else .tuple rs) G ∧
      ∀ (t k : Nat) (g : GA) (v : Value) (p : PA) (u : Value), gas[t]? = some g → vs[t]? = some v → g.at k = some p → (match g with | .one _ => u = v | .agg _ => ∃ us : Array Value, v = .agg us ∧ us[k]? = some u) →
        match p with
        | .arr false dp x => (s.outs.a (aid t k)).isSl = true ∧ (s.outs.a (aid t k)).esz = x.esz ∧ Top w' (fun b => b < w'.heap.size ∧ (S b ∨ w.heap.size ≤ b ∨ GivenTo gas Fs b) ∧ ∀ i, ¬ G i b) dp x.esz (s.outs.a (aid t k)).rows u (Fs (aid t k))
        | .box cs => PAr P w' (fun b => b < w'.heap.size ∧ (S b ∨ w.heap.size ≤ b ∨ GivenTo gas Fs b) ∧ ∀ i, ¬ G i b) (fun _ => False) (.box (s.outs.b (aid t k))) u (Fs (aid t k)) ∧ (s.outs.b (aid t k)).length = cs.length
        | _ => True := by
  obtain ⟨hends, hnd, hgs⟩ := he
  obtain ⟨hlen, hend⟩ := endAs_get hends
  generalize how : ownIds avs ra = ow at *
  have hargs : ∀ q p, gaAt gas q = some p → endP s ow q p := by
    intro q p hq
    obtain ⟨g, h1, h2⟩ := gaAt_inv hq
    have := endGs_get hgs _ _ g p h1 h2
    rw [Nat.zero_add] at this
    rwa [show aid (q / 64) (q % 64) = q by unfold aid; omega] at this
  have own0q : ∀ q, q ≠ alien → ∀ b, own00 w S Fs q b ↔ Fs q b := fun q hq b => by simp [own00, hq]
  have neAl : ∀ q p, gaAt gas q = some p → q ≠ alien := fun q p h e => by rw [e, hal] at h; cases h
  -- arguments that are no gifts are as they were
  have keep : ∀ q b, Fs q b → GivenTo gas Fs b ∨ ((s.ob q).ver = 0 ∧ own q b ∧ q ≠ alien ∧ ∀ dp x, gaAt gas q ≠ some (.arr true dp x)) := by
    intro q b hb
    obtain ⟨g, dp, x, h⟩ := hFk q b hb
    have fin : ∀ p, gaAt gas q = some p → (s.ob q).ver = 0 → (∀ dp x, p ≠ .arr true dp x) → GivenTo gas Fs b ∨ ((s.ob q).ver = 0 ∧ own q b ∧ q ≠ alien ∧ ∀ dp x, gaAt gas q ≠ some (.arr true dp x)) := by
      intro p hp hv hne
      refine .inr ⟨hv, ((r.zero q hv).2 b).2 ((own0q q (neAl q p hp) b).2 hb), neAl q p hp, fun dp x h => ?_⟩
      rw [hp] at h; simp at h; exact hne dp x h
    rcases h with h | ⟨cs, h⟩
    · cases g with
      | true => exact .inl ⟨q, dp, x, h, hb⟩
      | false =>
        have := hargs q _ h
        refine fin _ h ?_ (by simp)
        simp only [endP] at this
        split at this
        · rename_i heq; rw [heq]; exact this.1
        · exact this.elim
    · have := hargs q _ h
      refine fin _ h ?_ (by simp)
      simp only [endP] at this
      split at this
      · rename_i heq; rw [heq]; exact this.1
      · exact this.elim
  have hown : ∀ id b, own id b → id ≠ alien → ∃ q, q = id ∧ (w.heap.size ≤ b ∨ ∃ q, Fs q b) := by
    intro id b h hne
    refine ⟨id, rfl, (r.new id b hne h).imp (fun h => h) fun ⟨q, h1, h2⟩ => ⟨q, (own0q q h1 b).1 h2⟩⟩
  -- what each result owns
  let G : Nat → Nat → Prop := fun i b => ∃ t k v x c y id, avs[t]? = some v ∧ ra[t]? = some x ∧ AtR v x k c y ∧ i = oid t k ∧ id ∈ ownIdsC c y ∧ own id b
  have hG : ∀ i b, G i b → ∃ id, id ∈ ow ∧ own id b ∧ id ≠ alien ∧ (0 < (s.ob id).ver ∨ ∃ dp x, gaAt gas id = some (.arr true dp x)) := by
    rintro i b ⟨t, k, v, x, c, y, id, h1, h2, h3, _, h4, h5⟩
    refine ⟨id, how ▸ ownIds_mem h1 h2 h3 h4, h5, ?_⟩
    have hc := endA_at (hend t v x h1 h2) h3
    cases c <;> cases y <;> simp [ownIdsC] at h4
    · subst h4
      obtain ⟨⟨dp', hk, _⟩, h6⟩ := hc
      exact ⟨r.ne_al (by rw [(St.obj_ok hk (by simp)).2]; simp), h6⟩
    · subst h4
      obtain ⟨_, ⟨cs, hk, _⟩, h6⟩ := hc
      exact ⟨r.ne_al (by rw [(St.obj_ok hk (by simp)).2]; simp), .inl h6⟩
  have inS : ∀ b, (Free w' own b ∨ ∃ id, own id b ∧ 0 < (s.ob id).ver ∧ id ∉ ow ∧ id ≠ alien) → b < w'.heap.size ∧ (S b ∨ w.heap.size ≤ b ∨ GivenTo gas Fs b) ∧ ∀ i, ¬ G i b := by
    intro b h
    have hlt : b < w'.heap.size := by
      rcases h with h | ⟨id, h, _⟩
      · exact h.1
      · exact r.lt id b h
    refine ⟨hlt, ?_, fun i hi => ?_⟩
    · have viaF : (∃ q, Fs q b) → S b ∨ w.heap.size ≤ b ∨ GivenTo gas Fs b := by
        rintro ⟨q, hq⟩
        rcases keep q b hq with h1 | ⟨h1, h2, _, _⟩
        · exact .inr (.inr h1)
        · rcases h with h | ⟨id, h3, h4, _, _⟩
          · exact absurd h2 (h.2 q)
          · have := r.dis id q b h3 h2
            subst this; omega
      rcases h with h | ⟨id, h3, h4, h5, h6⟩
      · by_cases hb : b < w.heap.size
        · have h1 : ¬ own00 w S Fs alien b := fun ho => h.2 alien (((r.zero alien r.alv).2 b).2 ho)
          simp only [own00, if_pos] at h1
          by_cases hS : S b
          · exact .inl hS
          · by_cases hq : ∃ q, Fs q b
            · exact viaF hq
            · exact absurd ⟨hb, hS, fun q hq' => hq ⟨q, hq'⟩⟩ h1
        · exact .inr (.inl (by omega))
      · obtain ⟨_, _, h7⟩ := hown id b h3 h6
        rcases h7 with h7 | h7
        · exact .inr (.inl h7)
        · exact viaF h7
    · obtain ⟨id2, h1, h2, _⟩ := hG i b hi
      rcases h with h | ⟨id, h3, _, h5, _⟩
      · exact h.2 id2 h2
      · exact h5 (r.dis id id2 b h3 h2 ▸ h1)
  have hD : ∀ c x u, endD s ow c x → RC P w' own hdr s.ob c u → Pers w' (fun b => b < w'.heap.size ∧ (S b ∨ w.heap.size ≤ b ∨ GivenTo gas Fs b) ∧ ∀ i, ¬ G i b) x u := by
    rintro c x u ⟨h1, h2⟩ hc
    rcases h2 with h2 | h2
    · exact (stabR_pers r hc h1 h2).mono' fun b hb => inS b (.inl hb)
    · cases c with
      | arr id ver =>
        obtain ⟨h3, h4⟩ := h2
        obtain ⟨v1, v2⟩ := rd_cur rfl h1
        rcases v2 with ⟨dp, hk⟩ | hk
        · obtain ⟨g1, g2⟩ := r.arrAt hk
          rw [hc.2 v1.symm]
          have := g2.pers (S' := fun b => b < w'.heap.size ∧ (S b ∨ w.heap.size ≤ b ∨ GivenTo gas Fs b) ∧ ∀ i, ¬ G i b) (fun b hb => inS b (.inl hb)) (fun b hb => inS b (.inr ⟨id, hb, h3, h4, r.ne_al (by rw [hk]; simp)⟩))
          rw [← DV.sl_eta g1] at this
          exact this
        · rw [hc.2 v1.symm]
          exact (r.frzAt hk).2.2.mono' fun b hb => inS b (.inl hb)
      | _ => exact h2.elim
  have hCell : ∀ t k v x c y u, avs[t]? = some v → ra[t]? = some x → AtR v x k c y → RC P w' own hdr s.ob c u → RVr w' (fun b => b < w'.heap.size ∧ (S b ∨ w.heap.size ≤ b ∨ GivenTo gas Fs b) ∧ ∀ i, ¬ G i b) y u (G (oid t k)) := by
    intro t k v xx c y u h1 h2 h3 hc
    have hce := endA_at (hend t v xx h1 h2) h3
    cases y with
    | d y =>
      have : endD s ow c y := by cases c <;> exact hce
      exact hD c y u this hc
    | own dp y =>
      cases c with
      | arr id ver =>
        obtain ⟨⟨dp', hk, hdp⟩, _⟩ := hce
        obtain ⟨o1, o2⟩ := St.obj_ok hk (by simp)
        obtain ⟨g1, g2⟩ := r.arrAt o2
        refine ⟨g1, ?_⟩
        rw [hc.2 o1.symm]
        exact g2.mono hdp (fun b hb => ⟨rfl, inS b (.inl hb)⟩) fun b hb => ⟨rfl, t, k, v, xx, _, _, id, h1, h2, h3, rfl, by simp [ownIdsC], hb⟩
      | nil sz =>
        have hy : y = .sl sz [] := hce
        subst hy
        exact ⟨rfl, .inl ⟨rfl, hc⟩⟩
      | _ => exact hce.elim
    | box ds =>
      cases c with
      | ptr id ver off =>
        obtain ⟨rfl, ⟨cs, hk, hds⟩, hv⟩ := hce
        obtain ⟨o1, o2⟩ := St.obj_ok hk (by simp)
        obtain ⟨b, us, tt, g1, g2, g3, g4, g5⟩ := r.boxAt o2
        obtain ⟨b', e4, e5⟩ := hc.2 o1.symm
        obtain ⟨e1, e3⟩ := endDs_get hds
        have hb' : b' = b := by rw [e4] at g1; simpa using g1
        subst hb'
        refine ⟨b', us, tt, e5, fun x => ⟨?_, ?_⟩, g3, by rw [g4, e1], fun k' d u' h5 h6 => ?_⟩
        · rintro ⟨t', k'', v', x', c', y', id', h1', h2', h3', h4', h5', h6'⟩
          have e6 : t' = t ∧ k'' = k := by
            have := h3.lt; have := h3'.lt
            unfold oid at h4'; omega
          obtain ⟨rfl, rfl⟩ := e6
          rw [h1] at h1'; rw [h2] at h2'
          simp only [Option.some.injEq] at h1' h2'
          subst h1'; subst h2'
          have : id' = id := ownIdsC_uniq h3 (by simp [ownIdsC]) h3' h5'
          subst this
          exact (g2 x).1 h6'
        · intro hx
          exact ⟨t, k, v, xx, _, _, id, h1, h2, h3, rfl, by simp [ownIdsC], (g2 x).2 hx⟩
        · have hk' : k' < cs.length := by rw [e1]; exact (List.getElem?_eq_some_iff.1 h5).1
          have hck := List.getElem?_eq_getElem hk'
          exact hD _ d u' (e3 k' _ d hck h5) (g5 k' _ u' hck h6)
      | _ => exact hce.elim
  refine ⟨G, ⟨r.ext.os, r.ext.tape, r.ext.output, r.ext.size, fun b hb hn => r.ext.same b hb fun ⟨id, h1, h2⟩ => hn ⟨id, (own0q id h1 b).1 h2⟩, r.ext.drawn⟩, ⟨?_, ?_, ?_⟩, ⟨rs, rfl, by rw [hrl, hlen], fun t x u h1 h2 => ?_⟩, ?_⟩
  · rintro i j b ⟨t, k, v, x, c, y, id, h1, h2, h3, h4, h5, h6⟩ ⟨t', k', v', x', c', y', id', h1', h2', h3', h4', h5', h6'⟩
    have := r.dis id id' b h6 h6'
    subst this
    obtain ⟨e1, e2⟩ := ownIds_inj (by rw [how]; exact hnd) h1 h2 h3 h5 h1' h2' h3' h5'
    rw [h4, h4', e1, e2]
  · intro i b hi
    obtain ⟨id, _, h2, _⟩ := hG i b hi
    exact r.lt id b h2
  · intro i b hi
    obtain ⟨id, h1, h2, h3, h4⟩ := hG i b hi
    obtain ⟨_, _, h5⟩ := hown id b h2 h3
    rcases h5 with h5 | ⟨q, h5⟩
    · exact .inl h5
    · rcases keep q b h5 with h6 | ⟨h6, h7, h8, h9⟩
      · exact .inr h6
      · have := r.dis id q b h2 h7
        subst this
        rcases h4 with h4 | ⟨dp, x, h4⟩
        · omega
        · exact absurd h4 (h9 dp x)
  · have hlt : t < avs.length := by rw [← hrl]; exact (Array.getElem?_eq_some_iff.1 h2).1
    have hv := List.getElem?_eq_getElem hlt
    have hru := hr t _ u hv h2
    have hea := hend t _ x hv h1
    have hcell := fun k c y u' => hCell t k _ x c y u' hv h1
    generalize avs[t] = v at *
    cases v with
    | c c =>
      cases x with
      | one y => exact hcell 0 c y u (.one c y) hru
      | agg ys => exact hea.elim
    | g cs =>
      cases x with
      | one y => exact hea.elim
      | agg ys =>
        obtain ⟨us, e1, e2, e3⟩ := hru
        obtain ⟨l1, _⟩ := endL_get hea.1
        refine ⟨us, e1, by rw [e2, l1], hea.2, fun k y u' h3 h4 => ?_⟩
        have hk : k < cs.length := by rw [l1]; exact (List.getElem?_eq_some_iff.1 h3).1
        have hck := List.getElem?_eq_getElem hk
        exact hcell k _ y u' (.agg cs ys k _ y hea.2 hck h3) (e3 k _ u' hck h4)
    | t xs => cases x <;> exact hea.elim
  · intro t k g v p u h1 h2 h3 h4
    have hq := gaAt_aid h1 h3
    have hep := hargs _ p hq
    have hu := argCell_eq hl h1 h2 h3 h4
    have hne := neAl _ _ hq
    generalize aid t k = q at *
    split
    · rename_i dp x
      simp only [endP] at hep
      split at hep
      · rename_i ver ev dp' y heq
        obtain ⟨rfl, e1, e2⟩ := hep
        have hk : (s.ob q).k = .arr dp' y := by rw [heq]
        have hz := r.zero q (by rw [heq])
        obtain ⟨g1, g2⟩ := r.arrAt hk
        have hh : hdr q = u := by rw [hz.1]; simp [hdr00, hq, hu]
        simp only [St.outs, hk]
        refine ⟨g1, e2, ?_⟩
        rw [← e2, ← hh]
        exact g2.mono e1 (fun b hb => ⟨rfl, inS b (.inl hb)⟩) fun b hb => ⟨rfl, (own0q q hne b).1 ((hz.2 b).1 hb)⟩
      · exact hep.elim
    · rename_i cs
      simp only [endP] at hep
      split at hep
      · rename_i ver ev cs' heq
        obtain ⟨rfl, e1, e2⟩ := hep
        have hk : (s.ob q).k = .box cs' := by rw [heq]
        have hz := r.zero q (by rw [heq])
        obtain ⟨b, us, tt, g1, g2, g3, g4, g5⟩ := r.boxAt hk
        have hh : hdr q = u := by rw [hz.1]; simp [hdr00, hq, hu]
        simp only [St.outs, hk]
        refine ⟨⟨b, us, tt, by rw [← hh]; exact g1, fun x => ?_, g3, by simpa using g4, fun k' d u' h5 h6 => ?_⟩, by simpa using e2⟩
        · rw [← own0q q hne x, ← hz.2 x]; exact g2 x
        · obtain ⟨_, e3⟩ := endDs_get e1
          have h7 := h5
          simp only [List.getElem?_map, Option.map_eq_some_iff] at h7
          obtain ⟨c, h7, _⟩ := h7
          exact hD c d u' (e3 k' c d h7 h5) (g5 k' c u' h7 h6)
      · exact hep.elim
    · trivial
theorem RC.ptrOf {P : Program} {w : World} {own : Nat → Nat → Prop} {hdr : Nat → Value} {ob : Nat → Ob} {id ver off : Nat} {v : Value} (h : RS P w own hdr ob (.c (.ptr id ver off)) v) (hv : (ob id).ver = ver) : ∃ b, hdr id = .pointer (some ⟨b, 0, none⟩) ∧ v = .pointer (some ⟨b, off, none⟩) :=
  h.2 hv.symm
theorem mapM_res {N : Nat} {w0 : World} {own0 : Nat → Nat → Prop} {hdr0 : Nat → Value} {own : Nat → Nat → Prop} {hdr : Nat → Value} {a : Act} (r : RelX P N w0 own0 hdr0 [] own hdr s a w) (g : ResultVar → Sem Value) (hg : ∀ t, g (.tmp t) = pure (a.tmps.getD t undef))
    (hg2 : ∀ c t, g (.cell c t) = (do loadVar t (← asAddr (a.tmps.getD c undef)))) : ∀ {l : List ResultVar} {sl : List RSl} {avs : List AV}, l.mapM (slotOf P) = some sl → s.resAts sl = some avs →
      ∃ us, (l.mapM g).run P w = .ok us w ∧ us.length = avs.length ∧ ∀ (t : Nat) (v : AV) (u : Value), avs[t]? = some v → us[t]? = some u → RS P w own hdr s.ob v u
  | [], sl, avs, h, h' => by
    simp at h; subst h
    simp [St.resAts] at h'; subst h'
    exact ⟨[], rfl, rfl, by simp⟩
  | x :: l, sl, avs, h, h' => by
    simp only [List.mapM_cons, Option.bind_eq_bind, Option.bind_eq_some_iff, Option.pure_def, Option.some.injEq] at h
    obtain ⟨t, h1, ts, h2, rfl⟩ := h
    simp only [St.resAts] at h'
    split at h'
    · rename_i v vs hv hvs
      simp at h'; subst h'
      obtain ⟨us, i1, i2, i3⟩ := mapM_res r g hg hg2 h2 hvs
      have one : ∃ u, (g x).run P w = .ok u w ∧ RS P w own hdr s.ob v u := by
        cases x with
        | tmp t' =>
          simp [slotOf] at h1; subst h1
          simp [St.resAt] at hv; subst hv
          exact ⟨_, by rw [hg]; rfl, r.tmps t'⟩
        | cell c ty =>
          simp only [slotOf, Option.map_eq_some_iff] at h1
          obtain ⟨n, hn, rfl⟩ := h1
          simp only [St.resAt] at hv
          split at hv
          · rename_i id ver off hp
            split at hv
            · rename_i cs hk
              have hc := r.tmps c
              rw [hp] at hc
              have hl : loadA s n (.c (.ptr id ver off)) (fun y s' => y = v) := by
                simp only [loadA, hk, hv]
              obtain ⟨u, y, b, e1, e2, e3, _⟩ := snd_load r hn hc hl
              subst e2
              refine ⟨u, ?_, e3⟩
              obtain ⟨o1, o2⟩ := St.obj_ok hk (by simp)
              obtain ⟨b', e4, e5⟩ := RC.ptrOf hc o1
              have := e1 w rfl
              rw [hg2]
              rw [e5] at this ⊢
              simpa [Instr.loadAt, Instr.sureAddr, asAddr] using this
            · simp at hv
          · simp at hv
      obtain ⟨u, o1, o2⟩ := one
      refine ⟨u :: us, by simp [List.mapM_cons, o1, i1], by simp [i2], fun t v' u' h3 h4 => ?_⟩
      cases t with
      | zero => simp at h3 h4; subst h3; subst h4; exact o2
      | succ t => simp at h3 h4; exact i3 t v' u' h3 h4
    · simp at h'
theorem FnOK.of {f : FuncId} {fn : Func} {c' : C} {loud : List Nat} {slots : List RSl} {gas : List GA} {R : List RA → Outs → Prop} (hf : P.funcs[f]? = some fn) (hname : (fn.name == "runtime.NumGoroutine") = false)
    (hd : fn.body.bind (digC P fn.ntmps loud) = some c') (hr : resSlots P fn = some slots) (hN' : Nat.ble gas.length fn.ntmps = true) (h63' : Nat.ble gas.length 63 = true)
    (h : ∃ t, Sub (.init gas) t ∧ wpC P c' t fun e s => (∀ id, e ≠ .exit id) ∧ ∃ ra avs, R ra s.outs ∧ s.resAts slots = some avs ∧ EndOK gas avs ra s) : FnOK P f gas R := by
  obtain ⟨c, hb, hd⟩ := Option.bind_eq_some_iff.1 hd
  have hN := Nat.le_of_ble_eq_true hN'
  have h63 := Nat.le_of_ble_eq_true h63'
  refine ⟨⟨fn, hf, by rw [hb]; rfl, hname⟩, fun w S Fs vs hl hg hdis hF hS hFk => ?_⟩
  have noAl : gaAt gas alien = none := by
    cases h : gaAt gas alien with
    | none => rfl
    | some p =>
      obtain ⟨g, h1, _⟩ := gaAt_inv h
      have := (List.getElem?_eq_some_iff.1 h1).1
      unfold alien at this
      omega
  have r := init_rel (P := P) (N := fn.ntmps) hN h63 hl hg hdis hF hS hFk
  obtain ⟨t, ht, h⟩ := h
  refine calls_of_wp hf hb (wp_mono (digC_sound hd h (ht _ _ _ _ _ _ _ ⟨_, _, r⟩)) ?_)
  have fin : ∀ (a : Act) (w' : World) (s' : St), (∃ ra avs, R ra s'.outs ∧ s'.resAts slots = some avs ∧ EndOK gas avs ra s') → Rel P fn.ntmps w (own00 w S Fs) (hdr00 gas vs) [] s' a w' → a.defers = [] ∧ ∃ v, (results fn a.tmps).run P w' = .ok v w' ∧
      ∃ v' ra os G, Ending.returned v = .returned v' ∧ R ra os ∧ Ext w w' (fun b => ∃ q, Fs q b) ∧ Fresh w w' G (GivenTo gas Fs) ∧
      RAs w' (fun b => b < w'.heap.size ∧ (S b ∨ w.heap.size ≤ b ∨ GivenTo gas Fs b) ∧ ∀ i, ¬ G i b) ra v' G ∧
      ∀ (t k : Nat) (g : GA) (v : Value) (p : PA) (u : Value), gas[t]? = some g → vs[t]? = some v → g.at k = some p → (match g with | .one _ => u = v | .agg _ => ∃ us : Array Value, v = .agg us ∧ us[k]? = some u) →
        match p with
        | .arr false dp x => (os.a (aid t k)).isSl = true ∧ (os.a (aid t k)).esz = x.esz ∧ Top w' (fun b => b < w'.heap.size ∧ (S b ∨ w.heap.size ≤ b ∨ GivenTo gas Fs b) ∧ ∀ i, ¬ G i b) dp x.esz (os.a (aid t k)).rows u (Fs (aid t k))
        | .box cs => PAr P w' (fun b => b < w'.heap.size ∧ (S b ∨ w.heap.size ≤ b ∨ GivenTo gas Fs b) ∧ ∀ i, ¬ G i b) (fun _ => False) (.box (os.b (aid t k))) u (Fs (aid t k)) ∧ (os.b (aid t k)).length = cs.length
        | _ => True := by
    rintro a w' s' ⟨ra, avs, hR, ha, he⟩ ⟨own, hdr, r'⟩
    have hmain : ∃ us : List Value, (results fn a.tmps).run P w' = .ok (if h : us.toArray.size = 1 then us.toArray[0] else .tuple us.toArray) w' ∧ us.length = avs.length ∧ ∀ (t : Nat) (v : AV) (u : Value), avs[t]? = some v → us[t]? = some u → RS P w' own hdr s'.ob v u := by
      unfold results
      rw [Array.mapM_eq_mapM_toList, Sem.run_bind]
      generalize hg : (fun x : ResultVar => (match x with
        | .tmp t => pure (a.tmps.getD t undef)
        | .cell c t => do loadVar t (← asAddr (a.tmps.getD c undef)) : Sem Value)) = g
      obtain ⟨us, h1, h2, h3⟩ := mapM_res r' g (fun t => by rw [← hg]) (fun c t => by rw [← hg]) hr ha
      refine ⟨us, ?_, h2, h3⟩
      simp only [Sem.run_map, h1, Result.andThen_ok]
      rfl
    obtain ⟨us, hrun, hul, hus⟩ := hmain
    refine ⟨r'.defers, _, hrun, ?_⟩
    obtain ⟨G, h1, h2, h3, h4⟩ := end_sound (rs := us.toArray) r' hl hFk noAl (by simp [hul]) (fun t v u h1 h2 => hus t v u h1 (by simpa using h2)) he
    exact ⟨_, ra, s'.outs, G, rfl, hR, h1, h2, h3, h4⟩
  rintro (_ | id | l | _ | ch | _) a w' hq
  · obtain ⟨s', ⟨_, h1⟩, h2⟩ := hq; exact fin a w' s' h1 h2
  · obtain ⟨s', ⟨h1, _⟩, _⟩ := hq; exact absurd rfl (h1 id)
  · exact hq.elim
  · obtain ⟨s', ⟨_, h1⟩, h2⟩ := hq; exact fin a w' s' h1 h2
  · exact hq.elim
  · exact hq.elim
end
end Hearth

/- The abstract machine: rules, one a step. -/
namespace Hearth
open Go
inductive It where
  | c (x : C)
  | t (x : T) (tags : List Nat)
  | b (id : Nat)
  | h
  | inv (J : St → Prop)
def kont (P : Program) : List It → (Ex → St → Prop) → Ex → St → Prop
  | [], Q, e, s => Q e s
  | .c x :: k, Q, .normal, s => ∃ t, Sub s t ∧ wpC P x t (kont P k Q)
  | .c _ :: k, Q, e, s => kont P k Q e s
  | .t x tags :: k, Q, .normal, s => wpT P x tags s (kont P k Q .normal)
  | .t _ _ :: k, Q, e, s => kont P k Q e s
  | .h :: k, Q, .normal, s => kont P k Q .normal { s with hold := [] }
  | .h :: k, Q, e, s => kont P k Q e s
  | .b id :: k, Q, .exit id', s => if id' = id then kont P k Q .normal s else kont P k Q (.exit id') s
  | .b _ :: k, Q, e, s => kont P k Q e s
  | .inv J :: _, _, .normal, s => J s
  | .inv _ :: k, Q, e, s => kont P k Q e s
section
variable {P : Program} {k : List It} {Q : Ex → St → Prop} {s : St}
theorem kont_ret : kont P k Q .ret s = Q .ret s := by
  induction k with
  | nil => rfl
  | cons i k ih => cases i <;> exact ih
theorem wpC_congr {x : C} {Q Q' : Ex → St → Prop} (h : ∀ e s, Q e s = Q' e s) : wpC P x s Q = wpC P x s Q' := by
  have : Q = Q' := funext fun e => funext fun s => h e s
  rw [this]
theorem kSub {x : C} {t : St} (hs : Sub s t) (h : kont P (.c x :: k) Q .normal t) : kont P (.c x :: k) Q .normal s :=
  let ⟨u, h1, h2⟩ := h; ⟨u, hs.trans h1, h2⟩
theorem kNow {x : C} (h : wpC P x s (kont P k Q)) : kont P (.c x :: k) Q .normal s := ⟨s, .refl s, h⟩
theorem kSkip (h : kont P k Q .normal s) : kont P (.c .skip :: k) Q .normal s := kNow h
theorem kSeq {x y : C} (h : kont P (.c x :: .c y :: k) Q .normal s) : kont P (.c (.seq x y) :: k) Q .normal s := by
  obtain ⟨t, h1, h2⟩ := h
  refine ⟨t, h1, ?_⟩
  show wpC P x t _
  refine (wpC_congr fun e s => ?_).mp h2
  cases e <;> rfl
theorem kBlock {id : Nat} {x : C} (h : kont P (.c x :: .b id :: k) Q .normal s) : kont P (.c (.block id x) :: k) Q .normal s := by
  obtain ⟨t, h1, h2⟩ := h
  refine ⟨t, h1, ?_⟩
  show wpC P x t _
  refine (wpC_congr fun e s => ?_).mp h2
  cases e <;> rfl
theorem kBk {id : Nat} (h : kont P k Q .normal s) : kont P (.b id :: k) Q .normal s := h
theorem kH (h : kont P k Q .normal { s with hold := [] }) : kont P (.h :: k) Q .normal s := h
theorem kExit {id : Nat} (h : kont P k Q (.exit id) s) : kont P (.c (.exit id) :: k) Q .normal s := kNow h
theorem kExC {id : Nat} {x : C} (h : kont P k Q (.exit id) s) : kont P (.c x :: k) Q (.exit id) s := h
theorem kExI {id : Nat} {J : St → Prop} (h : kont P k Q (.exit id) s) : kont P (.inv J :: k) Q (.exit id) s := h
theorem kExB {id : Nat} (h : kont P k Q .normal s) : kont P (.b id :: k) Q (.exit id) s := by
  show ite _ _ _
  rw [if_pos rfl]; exact h
theorem kExB' {id id' : Nat} (hne : (id' == id) = false) (h : kont P k Q (.exit id') s) : kont P (.b id :: k) Q (.exit id') s := by
  show ite _ _ _
  rw [if_neg (by simpa using hne)]; exact h
theorem kRet (h : Q .ret s) : kont P (.c .ret :: k) Q .normal s := by
  refine kNow ?_
  show kont P k Q .ret s
  rw [kont_ret]; exact h
theorem kInv {J : St → Prop} (h : J s) : kont P (.inv J :: k) Q .normal s := h
theorem kCond {c : X} {x y : C} {b : Bool} (hc : s.ev c = .c (.d (.sc (.bool b)))) (h1 : b = true → kont P (.c x :: k) Q .normal s) (h2 : b = false → kont P (.c y :: k) Q .normal s) : kont P (.c (.cond c x y) :: k) Q .normal s := by
  refine kNow ?_
  simp only [wpC, hc]
  exact ⟨h1, h2⟩
theorem kCondT {c : X} {x y : C} (hc : s.ev c = .c (.d (.sc (.bool true)))) (h1 : kont P (.c x :: k) Q .normal s) : kont P (.c (.cond c x y) :: k) Q .normal s :=
  kCond hc (fun _ => h1) (fun h => by cases h)
theorem kCondF {c : X} {x y : C} (hc : s.ev c = .c (.d (.sc (.bool false)))) (h1 : kont P (.c y :: k) Q .normal s) : kont P (.c (.cond c x y) :: k) Q .normal s :=
  kCond hc (fun h => by cases h) (fun _ => h1)
theorem kReg {t : T} (h : kont P (.t t [] :: k) Q .normal s) : kont P (.c (.reg false t) :: k) Q .normal s := kNow h
theorem kRegD {t : T} (h : kont P (.t t [] :: .h :: k) Q .normal s) : kont P (.c (.reg true t) :: k) Q .normal s := kNow h
theorem kDone {tags : List Nat} (h : kont P k Q .normal s) : kont P (.t .done tags :: k) Q .normal s := h
theorem kAlt {x y : T} {tags : List Nat} (h1 : kont P (.t x tags :: k) Q .normal s) (h2 : kont P (.t y tags :: k) Q .normal s) : kont P (.t (.alt x y) tags :: k) Q .normal s := ⟨h1, h2⟩
theorem kLoop {x : C} {α : Type} (F : α → St) (μ : α → Nat) (y : α) (h0 : Sub s (F y)) (hr : ∀ y, kont P (.c x :: .inv (fun s'' => ∃ z, μ z < μ y ∧ Sub s'' (F z)) :: k) Q .normal (F y)) : kont P (.c (.loop x) :: k) Q .normal s := by
  refine kNow ⟨α, F, μ, ⟨y, h0⟩, fun y => ?_⟩
  obtain ⟨t, h1, h2⟩ := hr y
  refine ⟨t, h1, (wpC_congr fun e s => ?_).mp h2⟩
  cases e <;> rfl
end
end Hearth

/- The abstract machine: rules for operations. -/
namespace Hearth
open Go
section
variable {P : Program} {k : List It} {Q : Ex → St → Prop} {s : St} {d : Option Nat} {q : Bool} {r : T} {oi : Nat} {tags : List Nat}
theorem kOp {o : O} (hs : q = true → s.still o) (h : stepO P s o fun v s' => kont P (.t r tags :: k) Q .normal (s'.put d v)) (hnl : (q && o.isLoad) = false := by simp [O.isLoad]) : kont P (.t (.op oi [] d none q o r) tags :: k) Q .normal s := by
  refine ⟨fun e => ?_, ?_⟩
  · simp only [relS_nil, St.holds, hnl]; exact hs e
  · simp only [relS_nil, relT_nil, St.holds, hnl]; exact h
def _root_.Hearth.St.heldIf (s : St) (q : Bool) (ids : List Nat) : St := { s with hold := if q then ids ++ s.hold else s.hold }
theorem kOpL {n : Option Nat} {x : X} {ids : List Nat} (hi : s.holdOf (.load n x) = ids) (hs : q = true → (s.heldIf q ids).still (.load n x)) (h : stepO P (s.heldIf q ids) (.load n x) fun v s' => kont P (.t r (if q then oi :: tags else tags) :: k) Q .normal (s'.put d v)) :
    kont P (.t (.op oi [] d none q (.load n x) r) tags :: k) Q .normal s := by
  cases q with
  | false => exact kOp nofun h rfl
  | true =>
    have e : ((relS [] tags s).holds true (.load n x)) = s.heldIf true ids := by
      simp only [relS_nil, St.holds, O.isLoad, Bool.and_self, if_true, hi, St.heldIf]
    refine ⟨fun e' => ?_, ?_⟩
    · rw [e]; exact hs rfl
    · rw [e]; simp only [relT_nil, O.isLoad, Bool.and_self, if_true]; exact h
theorem kRelK {i : Nat} {ws : List Nat} {g : Option (Nat × Bool)} {o : O} (h0 : ws.isEmpty = false) (h1 : (relT ws tags).isEmpty = false) (h : kont P (.t (.op i [] d g false o r) (relT ws tags) :: k) Q .normal s) : kont P (.t (.op i ws d g false o r) tags :: k) Q .normal s := by
  have e : ∀ s, relS ws tags s = s := fun s => by simp only [relS, h0, h1, Bool.not_false, Bool.and_false]; rfl
  show wpT P (.op i ws d g false o r) tags s _
  have h' : wpT P (.op i [] d g false o r) (relT ws tags) s (kont P k Q .normal) := h
  simp only [wpT, e, relS_nil, relT_nil] at h' ⊢
  exact h'
theorem kRelF {i : Nat} {ws : List Nat} {g : Option (Nat × Bool)} {o : O} (h0 : ws.isEmpty = false) (h1 : (relT ws tags).isEmpty = true) (h : kont P (.t (.op i [] d g false o r) [] :: k) Q .normal { s with hold := [] }) : kont P (.t (.op i ws d g false o r) tags :: k) Q .normal s := by
  have e : ∀ s : St, relS ws tags s = { s with hold := [] } := fun s => by simp only [relS, h0, h1, Bool.not_false, Bool.and_self]; rfl
  have e2 : relT ws tags = [] := by simpa using h1
  simp only [kont, wpT, e, e2, relS_nil, relT_nil] at h ⊢
  cases g with
  | none => exact h
  | some gw =>
    obtain ⟨g, want⟩ := gw
    simp only [guardA] at h ⊢
    split
    · rename_i b hb
      rw [show ({ s with hold := [] } : St).sl g = s.sl g from rfl, hb] at h
      exact h
    · rename_i hb
      rw [show ({ s with hold := [] } : St).sl g = s.sl g from rfl, hb] at h
      exact h
    · rename_i h1 h2
      split at h
      · rename_i b hb; exact (h1 _ hb).elim
      · rename_i hb; exact (h2 hb).elim
      · exact h
theorem kG {g : Nat} {want b : Bool} {o : O} (hg : s.sl g = .c (.d (.sc (.bool b)))) (h1 : b = want → kont P (.t (.op oi [] d none q o r) tags :: k) Q .normal (s.put (some g) (.b want)))
    (h2 : b = !want → kont P (.t r tags :: k) Q .normal ((s.put (some g) (.b !want)).put d (.c .un))) : kont P (.t (.op oi [] d (some (g, want)) q o r) tags :: k) Q .normal s := by
  simp only [kont, wpT, guardA, hg, relS_nil, relT_nil] at h1 h2 ⊢
  exact ⟨h1, h2⟩
theorem put_id {g : Nat} {v : AV} (h : s.sl g = v) : s.put (some g) v = s := by
  have : upd s.sl g v = s.sl := by
    funext j
    unfold upd
    split
    · rename_i e; rw [e]; exact h.symm
    · rfl
  show { s with sl := upd s.sl g v } = s
  rw [this]
theorem kGT {g : Nat} {want : Bool} {o : O} (hg : s.sl g = .c (.d (.sc (.bool want)))) (h1 : kont P (.t (.op oi [] d none q o r) tags :: k) Q .normal s) : kont P (.t (.op oi [] d (some (g, want)) q o r) tags :: k) Q .normal s := by
  have : s.put (some g) (.b want) = s := put_id hg
  refine kG hg (fun _ => by rw [this]; exact h1) (fun h => by cases want <;> cases h)
theorem kGF {g : Nat} {want : Bool} {o : O} (hg : s.sl g = .c (.d (.sc (.bool (!want))))) (h1 : kont P (.t r tags :: k) Q .normal (s.put d (.c .un))) : kont P (.t (.op oi [] d (some (g, want)) q o r) tags :: k) Q .normal s := by
  have : s.put (some g) (.b !want) = s := put_id hg
  refine kG hg (fun h => by cases want <;> cases h) (fun _ => by rw [this]; exact h1)
theorem kGU {g : Nat} {want : Bool} {o : O} (hg : s.sl g = .c .un) (h1 : kont P (.t r tags :: k) Q .normal (s.put d (.c .un))) : kont P (.t (.op oi [] d (some (g, want)) q o r) tags :: k) Q .normal s := by
  simp only [kont, wpT, guardA, hg, relS_nil, relT_nil] at h1 ⊢
  exact h1
theorem kMovC {x : X} {c : AC} (hx : s.ev x = .c c) (h : kont P (.t r tags :: k) Q .normal (s.put d (.c c))) : kont P (.t (.op oi [] d none q (.mov x) r) tags :: k) Q .normal s :=
  kOp (fun _ => trivial) (by simp only [stepO, hx]; exact h)
theorem kMov_inv {x : X} (h : kont P (.t (.op oi [] d none q (.mov x) r) tags :: k) Q .normal s) : kont P (.t r tags :: k) Q .normal (s.put d (s.ev x)) := by
  have := h.2
  simp only [relS_nil, relT_nil, St.holds, O.isLoad, Bool.and_false] at this
  exact this
theorem kPick {c x y : X} {b : Bool} (hc : s.ev c = .c (.d (.sc (.bool b)))) (h1 : b = true → kont P (.t (.op oi [] d none q (.mov x) r) tags :: k) Q .normal s) (h2 : b = false → kont P (.t (.op oi [] d none q (.mov y) r) tags :: k) Q .normal s) :
    kont P (.t (.op oi [] d none q (.pick c x y) r) tags :: k) Q .normal s :=
  kOp (fun _ => trivial) (by simp only [stepO, hc]; exact ⟨fun e => kMov_inv (h1 e), fun e => kMov_inv (h2 e)⟩)
theorem kPickT {c x y : X} (hc : s.ev c = .c (.d (.sc (.bool true)))) (h1 : kont P (.t (.op oi [] d none q (.mov x) r) tags :: k) Q .normal s) :
    kont P (.t (.op oi [] d none q (.pick c x y) r) tags :: k) Q .normal s := kPick hc (fun _ => h1) (fun h => by cases h)
theorem kPickF {c x y : X} (hc : s.ev c = .c (.d (.sc (.bool false)))) (h1 : kont P (.t (.op oi [] d none q (.mov y) r) tags :: k) Q .normal s) :
    kont P (.t (.op oi [] d none q (.pick c x y) r) tags :: k) Q .normal s := kPick hc (fun h => by cases h) (fun _ => h1)
theorem kBin {op : BinOp} {x y : X} {a b v : Value} (hx : s.ev x = .c (.d (.sc a))) (hy : s.ev y = .c (.d (.sc b))) (hv : evBin op a b = some v) (h : kont P (.t r tags :: k) Q .normal (s.put d (.vv v))) :
    kont P (.t (.op oi [] d none q (.bin op x y) r) tags :: k) Q .normal s :=
  kOp (fun _ => trivial) (by simp only [stepO, hx, hy, hv]; exact h)
theorem wrap64 {n : Int} (h : -9223372036854775808 ≤ n ∧ n ≤ 9223372036854775807) : IntKind.i64.wrap n = n := by
  simp [IntKind.wrap, IntKind.bits, IntKind.signed]
  split <;> omega
theorem kAdd {x y : X} {a b : Int} (hx : s.ev x = .i a) (hy : s.ev y = .i b) (hr : -9223372036854775808 ≤ a + b ∧ a + b ≤ 9223372036854775807) (h : kont P (.t r tags :: k) Q .normal (s.put d (.i (a + b)))) :
    kont P (.t (.op oi [] d none q (.bin .add x y) r) tags :: k) Q .normal s :=
  kBin hx hy (by simp only [evBin, if_true]; rw [wrap64 hr]) h
theorem kDif {x y : X} {a b : Int} (hx : s.ev x = .i a) (hy : s.ev y = .i b) (hr : -9223372036854775808 ≤ a - b ∧ a - b ≤ 9223372036854775807) (h : kont P (.t r tags :: k) Q .normal (s.put d (.i (a - b)))) :
    kont P (.t (.op oi [] d none q (.bin .sub x y) r) tags :: k) Q .normal s :=
  kBin hx hy (by simp only [evBin, if_true]; rw [wrap64 hr]) h
theorem kMul {x y : X} {a b : Int} (hx : s.ev x = .i a) (hy : s.ev y = .i b) (hr : -9223372036854775808 ≤ a * b ∧ a * b ≤ 9223372036854775807) (h : kont P (.t r tags :: k) Q .normal (s.put d (.i (a * b)))) :
    kont P (.t (.op oi [] d none q (.bin .mul x y) r) tags :: k) Q .normal s :=
  kBin hx hy (by simp only [evBin, if_true]; rw [wrap64 hr]) h
theorem kBeq {ne : Bool} {x y : X} {a b : Bool} (hx : s.ev x = .b a) (hy : s.ev y = .b b) (h : kont P (.t r tags :: k) Q .normal (s.put d (.b (if ne then a != b else a == b)))) : kont P (.t (.op oi [] d none q (.beq ne x y) r) tags :: k) Q .normal s :=
  kOp (fun _ => trivial) (by simp only [stepO, hx, hy]; exact h)
theorem kUn {op : UnOp} {x : X} {a v : Value} (hx : s.ev x = .c (.d (.sc a))) (hv : evUn op a = some v) (h : kont P (.t r tags :: k) Q .normal (s.put d (.vv v))) : kont P (.t (.op oi [] d none q (.un op x) r) tags :: k) Q .normal s :=
  kOp (fun _ => trivial) (by simp only [stepO, hx, hv]; exact h)
theorem kConv {i j : IntKind} {x : X} {n : Int} (hx : s.ev x = .vv (.int j n)) (h : kont P (.t r tags :: k) Q .normal (s.put d (.vv (.int i (i.wrap n))))) : kont P (.t (.op oi [] d none q (.conv i x) r) tags :: k) Q .normal s :=
  kOp (fun _ => trivial) (by simp only [stepO, hx]; exact h)
theorem kLen {x : X} {c : AC} {y : DV} (hx : s.ev x = .c c) (hy : s.rd c = some y) (hsl : y.isSl = true) (h : kont P (.t r tags :: k) Q .normal (s.put d (.i y.len))) : kont P (.t (.op oi [] d none q (.len x) r) tags :: k) Q .normal s :=
  kOp (fun _ => trivial) (by simp only [stepO, hx, hy]; exact ⟨hsl, h⟩)
theorem kIadD {sz : Nat} {x i : X} {y : DV} {j : IntKind} {n : Int} (hx : s.ev x = .c (.d y)) (hi : s.ev i = .vv (.int j n)) (hsl : y.isSl = true) (hsz : y.esz = sz) (hn : 0 ≤ n ∧ n.toNat < y.len) (h : kont P (.t r tags :: k) Q .normal (s.put d (.c (.dpt (y.row n.toNat))))) :
    kont P (.t (.op oi [] d none q (.iad sz x i) r) tags :: k) Q .normal s :=
  kOp (fun _ => trivial) (by simp only [stepO, hx, hi, iadA]; exact ⟨hsl, hsz, hn, h⟩)
theorem kIadA {sz : Nat} {x i : X} {y : DV} {j : IntKind} {n : Int} {id ver ev : Nat} {dp : Bool} (hx : s.ev x = .c (.arr id ver)) (hi : s.ev i = .vv (.int j n)) (ho : s.ob id = ⟨ver, ev, .arr dp y⟩) (hsz : y.esz = sz) (hn : 0 ≤ n ∧ n.toNat < y.len) (h : kont P (.t r tags :: k) Q .normal (s.put d (.c (.ept id ver n.toNat 0)))) :
    kont P (.t (.op oi [] d none q (.iad sz x i) r) tags :: k) Q .normal s :=
  kOp (fun _ => trivial) (by simp only [stepO, hx, hi, iadA, St.obj, ho, if_true]; exact ⟨hsz, hn, h⟩)
theorem kLoadD {n : Option Nat} {x : X} {ds : List DV} {v : AV} (hx : s.ev x = .c (.dpt ds)) (hv : pickCells n (ds.map .d) = some v) (h : kont P (.t r (if q then oi :: tags else tags) :: k) Q .normal (s.put d v)) : kont P (.t (.op oi [] d none q (.load n x) r) tags :: k) Q .normal s := by
  have e : s.heldIf q [] = s := by cases q <;> rfl
  exact kOpL (ids := []) (by simp only [St.holdOf, hx]) (fun _ => by rw [e]; simp only [St.still, hx, stillA]) (by rw [e]; simp only [stepO, hx, loadA, hv]; exact h)
theorem kLoadC {n : Option Nat} {x : X} {ds : List CD} {v : AV} (hx : s.ev x = .c (.cpt ds)) (hv : pickCells n (ds.map CD.ac) = some v) (h : kont P (.t r (if q then oi :: tags else tags) :: k) Q .normal (s.put d v)) : kont P (.t (.op oi [] d none q (.load n x) r) tags :: k) Q .normal s := by
  have e : s.heldIf q [] = s := by cases q <;> rfl
  exact kOpL (ids := []) (by simp only [St.holdOf, hx]) (fun _ => by rw [e]; simp only [St.still, hx, stillA]) (by rw [e]; simp only [stepO, hx, loadA, hv]; exact h)
theorem heldIf_ev (x : X) (ids : List Nat) : (s.heldIf q ids).ev x = s.ev x := by cases x <;> rfl
theorem kLoadP {n : Option Nat} {x : X} {id ver ev off : Nat} {cs : List AC} {v : AV} (hx : s.ev x = .c (.ptr id ver off)) (ho : s.ob id = ⟨ver, ev, .box cs⟩) (hv : pickCells n (cs.drop off) = some v)
    (h : kont P (.t r (if q then oi :: tags else tags) :: k) Q .normal ((s.heldIf q [id]).put d v)) : kont P (.t (.op oi [] d none q (.load n x) r) tags :: k) Q .normal s := by
  have ho' : (s.heldIf q [id]).ob id = ⟨ver, ev, .box cs⟩ := ho
  refine kOpL (ids := [id]) (by simp only [St.holdOf, hx]) (fun e => ?_) ?_
  · subst e; simp only [St.still, heldIf_ev, hx, stillA]; simp [St.heldIf]
  · simp only [stepO, heldIf_ev, hx, loadA, St.obj, ho', if_true, hv]; exact h
theorem kLoadE {n : Option Nat} {x : X} {id ver ev i off : Nat} {dp : Bool} {y : DV} {v : AV} (hx : s.ev x = .c (.ept id ver i off)) (ho : s.ob id = ⟨ver, ev, .arr dp y⟩) (hv : pickCells n (AC.ofCells id ver ev i off ((y.row i).drop off)) = some v)
    (h : kont P (.t r (if q then oi :: tags else tags) :: k) Q .normal ((s.heldIf q [id]).put d v)) : kont P (.t (.op oi [] d none q (.load n x) r) tags :: k) Q .normal s := by
  have ho' : (s.heldIf q [id]).ob id = ⟨ver, ev, .arr dp y⟩ := ho
  refine kOpL (ids := [id]) (by simp only [St.holdOf, hx]) (fun e => ?_) ?_
  · subst e; simp only [St.still, heldIf_ev, hx, stillA]; simp [St.heldIf]
  · simp only [stepO, heldIf_ev, hx, loadA, St.obj, ho', if_true, hv]; exact h
theorem kBox {e : Nat} {x : X} {v : AV} (hx : s.ev x = v) (hv : (match v with | .t _ => false | _ => true) = true) (hl : v.cells.all s.live = true) (hh : (s.hold.contains (rid e 0)) = false) {vv ve : Nat} {vk : OK} (hob : s.ob (rid e 0) = ⟨vv, ve, vk⟩)
    (h : kont P (.t r tags :: k) Q .normal ((s.setOb (rid e 0) ⟨vv + 1, 0, .box v.cells⟩).put d (.c (.ptr (rid e 0) (vv + 1) 0)))) : kont P (.t (.op oi [] d none q (.box e x) r) tags :: k) Q .normal s :=
  kOp (fun _ => trivial) (by
    have hvv : (s.ob (rid e 0)).ver = vv := by rw [hob]
    subst hvv
    simp only [stepO, hx]
    cases v with
    | t _ => simp at hv
    | _ => exact ⟨by simpa using hh, hl, h⟩)
theorem kAlloc {e : Nat} {zs : List X} (hh : (s.hold.contains (rid e 0)) = false) {vv ve : Nat} {vk : OK} (hob : s.ob (rid e 0) = ⟨vv, ve, vk⟩) (h : kont P (.t r tags :: k) Q .normal ((s.setOb (rid e 0) ⟨vv + 1, 0, .box (zs.map X.ac)⟩).put d (.c (.ptr (rid e 0) (vv + 1) 0)))) :
    kont P (.t (.op oi [] d none q (.alloc e zs) r) tags :: k) Q .normal s :=
  kOp (fun _ => trivial) (by
    have hvv : (s.ob (rid e 0)).ver = vv := by rw [hob]
    subst hvv
    simp only [stepO]; exact ⟨by simpa using hh, h⟩)
theorem kBuild {zs : List X} {ps : List (Nat × Nat × X)} {cs : List AC} (hf : s.fill (zs.map X.ac) ps = some cs) (h : kont P (.t r tags :: k) Q .normal (s.put d (.g cs))) : kont P (.t (.op oi [] d none q (.build zs ps) r) tags :: k) Q .normal s :=
  kOp (fun _ => trivial) (by simp only [stepO, hf]; exact h)
theorem kFadP {x : X} {off o id ver ev : Nat} {cs : List AC} (hx : s.ev x = .c (.ptr id ver o)) (ho : s.ob id = ⟨ver, ev, .box cs⟩) (h : kont P (.t r tags :: k) Q .normal (s.put d (.c (.ptr id ver (o + off))))) : kont P (.t (.op oi [] d none q (.fad x off) r) tags :: k) Q .normal s :=
  kOp (fun _ => trivial) (by simp only [stepO, hx, St.obj, ho, if_true]; exact ⟨h, trivial⟩)
theorem kFadE {x : X} {off o id ver i : Nat} (hx : s.ev x = .c (.ept id ver i o)) (ho : (s.ob id).ver = ver) (h : kont P (.t r tags :: k) Q .normal (s.put d (.c (.ept id ver i (o + off))))) : kont P (.t (.op oi [] d none q (.fad x off) r) tags :: k) Q .normal s :=
  kOp (fun _ => trivial) (by simp only [stepO, hx]; exact ⟨h, ho⟩)
theorem kFadD {x : X} {off : Nat} {ds : List DV} (hx : s.ev x = .c (.dpt ds)) (h : kont P (.t r tags :: k) Q .normal (s.put d (.c (.dpt (ds.drop off))))) : kont P (.t (.op oi [] d none q (.fad x off) r) tags :: k) Q .normal s :=
  kOp (fun _ => trivial) (by simp only [stepO, hx]; exact h)
theorem kStoreP {n : Option Nat} {x v : X} {id ver ev off : Nat} {cs : List AC} {y : AV} (hx : s.ev x = .c (.ptr id ver off)) (hv : s.ev v = y) (ho : s.ob id = ⟨ver, ev, .box cs⟩)
    (hb : (!s.hold.contains id && y.cells.all s.live && decide (y.shape = n) && decide (0 < y.cells.length) && decide (off + y.cells.length ≤ cs.length)) = true)
    (h : kont P (.t r tags :: k) Q .normal ((s.setOb id ⟨ver, ev, .box (patch cs off y.cells)⟩).put d (.c .any))) : kont P (.t (.op oi [] d none q (.store n x v) r) tags :: k) Q .normal s :=
  kOp (fun _ => trivial) (by
    simp only [Bool.and_eq_true, decide_eq_true_eq, Bool.not_eq_true'] at hb
    obtain ⟨⟨⟨⟨h1, h2⟩, h3⟩, h4⟩, h5⟩ := hb
    simp only [stepO, storeA, hx, hv, St.obj, ho, if_true]
    exact ⟨by simpa using h1, h2, h3, h4, h5, h⟩)
theorem kExtC {x : X} {i : Nat} {l : List AV} {v : AV} (hx : s.ev x = .t l) (hv : l[i]? = some v) (h : kont P (.t r tags :: k) Q .normal (s.put d v)) : kont P (.t (.op oi [] d none q (.ext x i) r) tags :: k) Q .normal s :=
  kOp (fun _ => trivial) (by simp only [stepO, hx, hv]; exact h)
theorem kCutD {sz : Nat} {x : X} {lo hi : Option X} {y : DV} {a b : Nat} (hx : s.ev x = .c (.d y)) (hsl : y.isSl = true) (hsz : y.esz = sz)
    (hlo : lo.map s.ev = none ∧ a = 0 ∨ ∃ k, lo.map s.ev = some (.vv (.int k a))) (hhi : hi.map s.ev = none ∧ b = y.len ∨ ∃ k, hi.map s.ev = some (.vv (.int k b))) (hab : a ≤ b ∧ b ≤ y.len) (h : kont P (.t r tags :: k) Q .normal (s.put d (.dv (y.cut a b)))) :
    kont P (.t (.op oi [] d none q (.cut sz x lo hi) r) tags :: k) Q .normal s :=
  kOp (fun _ => trivial) (.inl (by simp only [cutA, hx, St.rd]; exact ⟨hsl, hsz, a, b, hlo, hhi, hab.1, hab.2, h⟩))
def nodupB : List Nat → Bool
  | [] => true
  | x :: xs => !xs.contains x && nodupB xs
theorem nodupB_sound : ∀ {l : List Nat}, nodupB l = true → l.Nodup
  | [], _ => List.nodup_nil
  | x :: xs, h => by
    simp only [nodupB, Bool.and_eq_true, Bool.not_eq_true'] at h
    exact List.nodup_cons.2 ⟨by simpa using h.1, nodupB_sound h.2⟩
def callB (s : St) (e : Nat) (avs : List AV) (gas : List GA) (clean : Bool) : Bool :=
  nodupB ((bindGs 0 avs gas).map (·.2.1)) && (bindGs 0 avs gas).all (fun b => !s.hold.contains b.2.1) &&
  ((stabGs s avs gas && (!looksGs avs gas || (bindGs 0 avs gas).isEmpty)) || (clean && (bindGs 0 avs gas).isEmpty)) && decide (gas.length ≤ 60) && s.hold.all (fun q => !(decide (rid e 0 ≤ q) && decide (q < rid e 4096)))
theorem kCall {e f : Nat} {args : List X} {gas : List GA} {R : List RA → Outs → Prop} (clean : Bool) (hok : FnOK P f gas R) (hm : matchGs P s (args.map s.ev) gas) (hb : callB s e (args.map s.ev) gas clean = true)
    (hc : clean = true → ∀ ra os, R ra os → ra.all RA.clean = true) (hl : ∀ ra os, R ra os → ra.length ≤ 64)
    (h : ∀ ra os, R ra os → kont P (.t r tags :: k) Q .normal ((s.after e ra (bindGs 0 (args.map s.ev) gas) os).put d (resV s e ra))) : kont P (.t (.op oi [] d none q (.call e f args) r) tags :: k) Q .normal s :=
  kOp (fun _ => trivial) (by
    simp only [callB, Bool.and_eq_true, Bool.or_eq_true, decide_eq_true_eq] at hb
    obtain ⟨⟨⟨⟨h1, h2⟩, h3⟩, h4⟩, h5⟩ := hb
    refine .inl ⟨gas, R, hok, hm, nodupB_sound h1, fun b hb' => by simpa using List.all_eq_true.1 h2 b hb', ?_, h4, hl, fun q h6 h7 h8 => ?_, h⟩
    · rcases h3 with ⟨g1, g2⟩ | ⟨g1, g2⟩
      · refine .inl ⟨g1, fun hk => ?_⟩
        rcases g2 with g2 | g2
        · rw [hk] at g2; simp at g2
        · simpa using g2
      · exact .inr ⟨hc g1, by simpa using g2⟩
    · have := List.all_eq_true.1 h5 q h8
      simp only [Bool.not_eq_true', Bool.and_eq_false_iff, decide_eq_false_iff_not] at this
      rcases this with h | h <;> omega)
theorem kCall1 {e f : Nat} {args : List X} {gas : List GA} {ra : List RA} (clean : Bool) (hok : FnOK P f gas (fun ra' _ => ra' = ra)) (hm : matchGs P s (args.map s.ev) gas) (hb : callB s e (args.map s.ev) gas clean = true)
    (hc : (!clean || ra.all RA.clean) = true) (hl : decide (ra.length ≤ 64) = true)
    (h : ∀ os, kont P (.t r tags :: k) Q .normal ((s.after e ra (bindGs 0 (args.map s.ev) gas) os).put d (resV s e ra))) : kont P (.t (.op oi [] d none q (.call e f args) r) tags :: k) Q .normal s :=
  kCall clean hok hm hb (fun hcl ra' _ e => by subst e; rw [hcl] at hc; simpa using hc) (fun ra' _ e => by subst e; simpa using hl) (fun ra' os e => by subst e; exact h os)
end
end Hearth

/- The abstract machine: states that say less. -/
namespace Hearth
open Go
def WkV (v v' : AV) : Prop := ∀ (P : Program) (w : World) (own : Nat → Nat → Prop) (hdr : Nat → Value) (ob : Nat → Ob) (u : Value), RS P w own hdr ob v u → RS P w own hdr ob v' u
theorem WkV.refl (v : AV) : WkV v v := fun _ _ _ _ _ _ h => h
theorem WkV.any (v : AV) : WkV v (.c .any) := fun _ _ _ _ _ _ _ => trivial
theorem WkV.nil (sz : Nat) : WkV (.c (.nil sz)) (.dv (.sl sz [])) := fun _ _ _ _ _ u h => by
  show Pers _ _ _ u
  rw [show u = .slice none 0 0 from h]
  exact .emp _ _ _
def tabSl : List (Nat × AV) → Nat → AV
  | [], _ => .c .any
  | (i, v) :: l, j => if j = i then v else tabSl l j
def chk (s : St) : List (Nat × AV) → Prop
  | [] => True
  | (i, v) :: l => WkV (s.sl i) v ∧ chk s l
theorem tab_wk {s : St} : ∀ {l : List (Nat × AV)}, chk s l → ∀ j, WkV (s.sl j) (tabSl l j)
  | [], _, j => .any _
  | (i, v) :: l, h, j => by
    simp only [tabSl]
    split
    · rename_i e; rw [e]; exact h.1
    · exact tab_wk h.2 j
theorem Sub.sl {s t : St} (ho : t.ob = s.ob) (h : ∀ j, WkV (s.sl j) (t.sl j)) : Sub s t := by
  rintro P N w0 own0 hdr0 a w ⟨own, hdr, r⟩
  refine ⟨own, hdr, r.n, r.defers, fun j => ?_, ?_, ?_, ?_, r.dis, r.lt, r.ext, ?_, r.new, by simp⟩
  · rw [ho]; exact h j _ _ _ _ _ _ (r.tmps j)
  · rw [ho]; exact r.objs
  · rw [ho]; exact r.al
  · rw [ho]; exact r.alv
  · rw [ho]; exact r.zero
theorem Sub.tab {s : St} {l : List (Nat × AV)} {ob : Nat → Ob} {h : List Nat} (ho : ob = s.ob) (hc : chk s l) : Sub s ⟨tabSl l, ob, h⟩ := Sub.sl ho (tab_wk hc)
open Classical in
/-- Objects are forgotten. -/
theorem Sub.drop {s t : St} (hs : t.sl = s.sl) (h : ∀ id, t.ob id = s.ob id ∨ (id ≠ alien ∧ (t.ob id).k = .dead ∧ (s.ob id).ver < (t.ob id).ver)) : Sub s t := by
  rintro P N w0 own0 hdr0 a w ⟨own, hdr, r⟩
  let own' : Nat → Nat → Prop := fun id => if t.ob id = s.ob id then own id else fun _ => False
  let hdr' : Nat → Value := fun id => if t.ob id = s.ob id then hdr id else undef
  have hu : Upd own hdr s.ob w own' hdr' t.ob w (fun id => t.ob id ≠ s.ob id) := by
    refine ⟨fun hne => ?_, fun id hU => ?_, Ext.refl _ _, fun id hU b hb => ?_, fun i j b hi _ hb _ => ?_, fun id hU => ?_⟩
    · rcases h alien with h | h
      · exact hne h
      · exact h.1 rfl
    · have : t.ob id = s.ob id := Classical.not_not.1 hU
      simp only [own', hdr', if_pos this]
      exact ⟨trivial, trivial, this⟩
    · simp only [own', if_neg hU] at hb
    · simp only [own', if_neg hi] at hb
    · rcases h id with h | ⟨_, _, h⟩
      · exact absurd h hU
      · exact ⟨Nat.le_of_lt h, fun e => by omega⟩
  have r' := (r.hold []).upd hu (by simp) (fun _ id hU => by
    rcases h id with h | ⟨_, hk, _⟩
    · exact absurd h hU
    · unfold RO
      rw [hk]
      simp [own', hdr', hU])
  refine ⟨own', hdr', r'.n, r'.defers, fun j => ?_, r'.objs, r'.al, r'.alv, r'.dis, r'.lt, r'.ext, r'.zero, r'.new, by simp⟩
  rw [hs]; exact r'.tmps j
theorem Sub.nilArr {s : St} {j id sz : Nat} (hj : s.sl j = .c (.nil sz)) (hid : id ≠ alien) : Sub s ⟨upd s.sl j (.c (.arr id ((s.ob id).ver + 1))), (s.newOb id (.arr true (.sl sz []))).ob, []⟩ := by
  rintro P N w0 own0 hdr0 a w ⟨own, hdr, r⟩
  have h := (r.hold []).make (id := id) (ids := []) (k := .arr true (.sl sz [])) (F := fun _ => False) (v := .slice none 0 0) (w' := w) ⟨hid, by simp⟩ (by simp) (by simp) (by simp) (Ext.refl _ _) (fun _ h => h.elim) (fun rc => by
    unfold RO
    rw [ob_new (by simp)]
    exact ⟨rfl, .inl ⟨rfl, by simp [hdrTo]⟩⟩)
  rw [St.kill_nil] at h
  refine ⟨_, _, (h.1.same (d := j) (x := .c (.arr id ((s.ob id).ver + 1))) ?_).hold []⟩
  have ht := r.tmps j
  rw [hj] at ht
  rw [show a.tmps.getD j undef = .slice none 0 0 from ht]
  simp only [RS, RV1, RC, St.newOb, St.setOb, upd_same]
  exact ⟨Nat.le_refl _, fun _ => by simp [hdrTo]⟩
theorem Sub.frz {s : St} {j id ver ev : Nat} {dp : Bool} {x : DV} (hj : s.sl j = .c (.arr id ver)) (ho : s.ob id = ⟨ver, ev, .arr dp x⟩) (hv : 0 < ver) : Sub s ⟨upd s.sl j (.dv x), upd s.ob id ⟨ver, ev + 1, .frz x⟩, []⟩ := by
  rintro P N w0 own0 hdr0 a w ⟨own, hdr, r⟩
  have ht := r.tmps j
  rw [hj] at ht
  have hv' := ht.2 (by rw [ho])
  obtain ⟨own', hdr', r', hp⟩ := (r.hold []).freeze (id := id) (dp := dp) (x := x) (by show (s.ob id).k = _; rw [ho]) (by simp) (by show 0 < (s.ob id).ver; rw [ho]; exact hv)
  have h2 := (r'.same (d := j) (x := .dv x) (by rw [hv']; exact hp)).hold []
  refine ⟨own', hdr', ?_⟩
  have : (s.ob id).ver = ver ∧ (s.ob id).ev = ev := by rw [ho]; exact ⟨rfl, rfl⟩
  have e : ({ s with hold := [] } : St).ob id = s.ob id := rfl
  simp only [St.put, St.setOb, e, this.1, this.2] at h2
  exact h2
def EndQ (gas : List GA) (slots : List RSl) (R : List RA → Outs → Prop) (e : Ex) (s : St) : Prop :=
  (∀ id, e ≠ .exit id) ∧ ∃ ra avs, R ra s.outs ∧ s.resAts slots = some avs ∧ EndOK gas avs ra s
theorem endRet {gas : List GA} {slots : List RSl} {R : List RA → Outs → Prop} {s : St} {ra : List RA} {avs : List AV} (h : s.resAts slots = some avs) (he : EndOK gas avs ra s) (hR : R ra s.outs) : EndQ gas slots R .ret s :=
  ⟨nofun, ra, avs, hR, h, he⟩
theorem FnOK.ofK {P : Program} {f : FuncId} {fn : Func} {c' : C} {loud : List Nat} {slots : List RSl} {gas : List GA} {R : List RA → Outs → Prop} (hf : P.funcs[f]? = some fn) (hname : (fn.name == "runtime.NumGoroutine") = false)
    (hd : fn.body.bind (digC P fn.ntmps loud) = some c') (hr : resSlots P fn = some slots) (hN : Nat.ble gas.length fn.ntmps = true) (h63 : Nat.ble gas.length 63 = true)
    (h : kont P [.c c'] (EndQ gas slots R) .normal (.init gas)) : FnOK P f gas R := by
  refine FnOK.of hf hname hd hr hN h63 ?_
  obtain ⟨t, h1, h2⟩ := h
  exact ⟨t, h1, (wpC_congr fun e s => by cases e <;> rfl).mp h2⟩
end Hearth

/- The abstract machine: more rules for operations. -/
namespace Hearth
open Go
section
variable {P : Program} {k : List It} {Q : Ex → St → Prop} {s : St} {d : Option Nat} {q : Bool} {r : T} {oi : Nat} {tags : List Nat}
theorem kMk {e sz bytes : Nat} {zs : List X} {n : X} {j : IntKind} {m : Int} {ds : List DV} {dp : Bool} (hn : s.ev n = .vv (.int j m)) (hm : 0 ≤ m ∧ m * bytes ≤ 140737488355328 ∧ m ≤ 9223372036854775807) (hz : zs.length = sz) (h0 : Nat.ble 1 sz = true) (hh : s.hold.contains (rid e 0) = false)
    (hp : s.parts (zs.map X.ac) = some (ds, dp, [])) {vv ve : Nat} {vk : OK} (hob : s.ob (rid e 0) = ⟨vv, ve, vk⟩)
    (h : kont P (.t r tags :: k) Q .normal ((s.setOb (rid e 0) ⟨vv + 1, 0, .arr dp (.sl sz (List.replicate m.toNat ds))⟩).put d (.c (.arr (rid e 0) (vv + 1))))) : kont P (.t (.op oi [] d none q (.mk e sz zs bytes n) r) tags :: k) Q .normal s :=
  kOp (fun _ => trivial) (by
    have hvv : (s.ob (rid e 0)).ver = vv := by rw [hob]
    subst hvv
    simp only [stepO, hn]
    refine ⟨hm, hz, Nat.le_of_ble_eq_true h0, by simpa using hh, ?_⟩
    rw [hp]; exact h)
theorem kStoreE {n : Option Nat} {x v : X} {id ver ev i off : Nat} {y : DV} {dp dp2 : Bool} {u : AV} {ds : List DV} {ids : List Nat} (hx : s.ev x = .c (.ept id ver i off)) (hv : s.ev v = u) (ho : s.ob id = ⟨ver, ev, .arr dp y⟩) (hp : s.parts u.cells = some (ds, dp2, ids))
    (hh : (!s.hold.contains id && ids.all (fun j => !s.hold.contains j) && !ids.contains id && nodupB ids && decide (u.shape = n) && decide (0 < ds.length)) = true) (hver : ids = [] ∨ 0 < ver) (hoff : off + ds.length ≤ y.esz)
    (h : kont P (.t r tags :: k) Q .normal (((s.kill ids).setOb id ⟨ver, ev + 1, .arr (dp && dp2) (setRow y i off ds)⟩).put d (.c .any))) : kont P (.t (.op oi [] d none q (.store n x v) r) tags :: k) Q .normal s :=
  kOp (fun _ => trivial) (by
    simp only [Bool.and_eq_true, decide_eq_true_eq, Bool.not_eq_true'] at hh
    obtain ⟨⟨⟨⟨⟨h1, h2⟩, h3⟩, h4⟩, h5⟩, h6⟩ := hh
    simp only [stepO, storeA, hx, hv, St.obj, ho, if_true, hp]
    exact ⟨by simpa using h1, h5, by simpa using h3, nodupB_sound h4, fun j hj => by simpa using List.all_eq_true.1 h2 j hj, hoff, h6, hver, h⟩)
theorem kApp {e sz bytes : Nat} {x y : X} {cx cy : AC} {dp dp' : Bool} {xs ys : DV} {ids : List Nat} {id v ve : Nat} {vk : OK} (hx : s.ev x = .c cx) (hy : s.ev y = .c cy) (hb : s.base cx = some (dp, xs)) (hs : s.src cy = some (dp', ys, ids)) (hid : cx.ownId e = id) (hob : s.ob id = ⟨v, ve, vk⟩)
    (hsz : xs.esz = sz ∧ ys.esz = sz ∧ 0 < sz) (hh : (!s.hold.contains id && ids.all (fun j => !s.hold.contains j) && !ids.contains id && (match cy with | .arr j _ => !(j == id) | _ => true)) = true)
    (hlen : (xs.len + ys.len) * bytes ≤ 140737488355328 ∧ xs.len + ys.len ≤ 9223372036854775807)
    (h : kont P (.t r tags :: k) Q .normal (((s.kill ids).setOb id ⟨v + 1, 0, .arr (dp && dp') (xs.app ys)⟩).put d (.c (.arr id (v + 1))))) : kont P (.t (.op oi [] d none q (.app e sz bytes x y) r) tags :: k) Q .normal s :=
  kOp (fun _ => trivial) (by
    subst hid
    simp only [Bool.and_eq_true, Bool.not_eq_true'] at hh
    obtain ⟨⟨⟨h1, h2⟩, h3⟩, h4⟩ := hh
    have h3' : cx.ownId e ∉ ids := by simpa using h3
    have hvv : (s.ob (cx.ownId e)).ver = v := by rw [hob]
    have hkv : ((s.kill ids).ob (cx.ownId e)).ver = v := by simp [St.kill, h3', hvv]
    simp only [stepO, hx, hy]
    refine .inl ?_
    simp only [appA, hb, hs]
    refine ⟨hsz.1, hsz.2.1, hsz.2.2, by simpa using h1, fun j hj => by simpa using List.all_eq_true.1 h2 j hj, h3', hlen.1, hlen.2, ?_, ?_⟩
    · cases cy <;> simp_all
    · rw [St.newOb, hkv, hvv]; exact h)
theorem kLit {e sz n : Nat} {zs : List X} {ps : List (Nat × Nat × X)} {cs : List AC} {ds : List DV} {dp : Bool} {ids : List Nat} (hf : s.fill ((List.replicate n (zs.map X.ac)).flatten) ps = some cs) (hp : s.parts cs = some (ds, dp, ids))
    (hb : (Nat.beq cs.length (n * sz) && Nat.beq zs.length sz && Nat.ble (n * sz) 16777216 && Nat.ble n 9223372036854775807 && !s.hold.contains (rid e 0) && nodupB ids && ids.all (fun j => !s.hold.contains j) && !ids.contains (rid e 0)) = true) {vv ve : Nat} {vk : OK} (hob : s.ob (rid e 0) = ⟨vv, ve, vk⟩)
    (h : kont P (.t r tags :: k) Q .normal (((s.kill ids).setOb (rid e 0) ⟨vv + 1, 0, .arr dp (.sl sz (chunk sz n ds))⟩).put d (.c (.arr (rid e 0) (vv + 1))))) : kont P (.t (.op oi [] d none q (.lit e sz zs n ps) r) tags :: k) Q .normal s :=
  kOp (fun _ => trivial) (by
    simp only [Bool.and_eq_true, Bool.not_eq_true', Nat.beq_eq, Nat.ble_eq] at hb
    obtain ⟨⟨⟨⟨⟨⟨⟨h1, h2⟩, h3⟩, h4⟩, h5⟩, h6⟩, h7⟩, h8⟩ := hb
    have h8' : rid e 0 ∉ ids := by simpa using h8
    have hvv : (s.ob (rid e 0)).ver = vv := by rw [hob]
    have hkv : ((s.kill ids).ob (rid e 0)).ver = vv := by simp [St.kill, h8', hvv]
    simp only [stepO, litA, hf, hp]
    refine .inl ⟨h1, h2, h3, h4, by simpa using h5, nodupB_sound h6, fun j hj => by simpa using List.all_eq_true.1 h7 j hj, h8', ?_⟩
    rw [St.newOb, hkv, hvv]; exact h)
theorem newOb_ob (s : St) (id : Nat) (k : OK) : (s.newOb id k).ob id = ⟨(s.ob id).ver + 1, 0, k⟩ := upd_same _ _ _
theorem newOb_two (s : St) (id : Nat) (k k' : OK) : (s.newOb id k).newOb id k' = s.setOb id ⟨(s.ob id).ver + 1 + 1, 0, k'⟩ := by
  unfold St.newOb
  have e : (s.setOb id ⟨(s.ob id).ver + 1, 0, k⟩).ob id = ⟨(s.ob id).ver + 1, 0, k⟩ := upd_same _ _ _
  rw [e]
  unfold St.setOb
  refine congrArg (fun o => (⟨s.sl, o, s.hold⟩ : St)) (funext fun j => ?_)
  by_cases hj : j = id
  · rw [hj, upd_same, upd_same]
  · rw [upd_ne _ _ _ _ hj, upd_ne _ _ _ _ hj]
    exact upd_ne _ _ _ _ hj
theorem frzK_arr {K : AV → St → Prop} {s : St} {id ver ev sz : Nat} {dp : Bool} {xs : List (List DV)} (ho : s.ob id = ⟨ver, ev, .arr dp (.sl sz xs)⟩) (hh : id ∉ s.hold) (hK : K (.dv (.sl sz xs)) (s.newOb id .dead)) : frzK K (.c (.arr id ver)) s := by
  simp only [frzK, St.obj, ho, if_true]
  exact ⟨hh, hK⟩
theorem kLitD0 {e sz n : Nat} {zs : List X} {ps : List (Nat × Nat × X)} {cs : List AC} {ds : List DV} {dp : Bool} {ids : List Nat} (hf : s.fill ((List.replicate n (zs.map X.ac)).flatten) ps = some cs) (hp : s.parts cs = some (ds, dp, ids))
    (hb : (Nat.beq cs.length (n * sz) && Nat.beq zs.length sz && Nat.ble (n * sz) 16777216 && Nat.ble n 9223372036854775807 && !s.hold.contains (rid e 0) && nodupB ids && ids.all (fun j => !s.hold.contains j) && !ids.contains (rid e 0)) = true) {vv ve : Nat} {vk : OK} (hob : s.ob (rid e 0) = ⟨vv, ve, vk⟩)
    (h : kont P (.t r tags :: k) Q .normal (((s.kill ids).setOb (rid e 0) ⟨vv + 1 + 1, 0, .dead⟩).put d (.dv (.sl sz (chunk sz n ds))))) : kont P (.t (.op oi [] d none q (.lit e sz zs n ps) r) tags :: k) Q .normal s := by
  generalize hid : rid e 0 = id at *
  simp only [Bool.and_eq_true, Bool.not_eq_true', Nat.beq_eq, Nat.ble_eq] at hb
  obtain ⟨⟨⟨⟨⟨⟨⟨h1, h2⟩, h3⟩, h4⟩, h5⟩, h6⟩, h7⟩, h8⟩ := hb
  have h8' : id ∉ ids := by simpa using h8
  have h5' : id ∉ s.hold := by simpa using h5
  have h7' : ∀ j ∈ ids, j ∉ s.hold := fun j hj => by simpa using List.all_eq_true.1 h7 j hj
  have hvv : (s.ob id).ver = vv := by rw [hob]
  have hkv : ((s.kill ids).ob id).ver = vv := by simp [St.kill, h8', hvv]
  refine kOp (fun _ => trivial) (.inr ?_)
  simp only [litA, hf, hp, hid]
  refine ⟨h1, h2, h3, h4, h5', nodupB_sound h6, h7', h8', ?_⟩
  refine frzK_arr (ev := 0) (dp := dp) (sz := sz) (xs := chunk sz n ds) ?_ h5' ?_
  · rw [newOb_ob, hkv, hvv]
  · rw [newOb_two, hkv]
    exact h
theorem kB2s {x : X} {c : AC} {l : List UInt8} (hx : s.ev x = .c c) (hr : s.rd c = some (encB l)) (h : kont P (.t r tags :: k) Q .normal (s.put d (.vv (.string ⟨l.toArray⟩)))) : kont P (.t (.op oi [] d none false (.b2s x) r) tags :: k) Q .normal s :=
  kOp nofun (by simp only [stepO, hx, hr]; exact ⟨l, rfl, h⟩)
theorem kS2b {x : X} {b : ByteArray} (hx : s.ev x = .vv (.string b)) (hb : b.size ≤ 9223372036854775807) (h : kont P (.t r tags :: k) Q .normal (s.put d (.dv (encB b.toList)))) : kont P (.t (.op oi [] d none q (.s2b x) r) tags :: k) Q .normal s :=
  kOp (fun _ => trivial) (by simp only [stepO, hx]; exact ⟨hb, h⟩)
theorem kMm {mx : Bool} {x y : X} {t : IntKind} {m n : Int} (hx : s.ev x = .vv (.int t m)) (hy : s.ev y = .vv (.int t n)) (h : kont P (.t r tags :: k) Q .normal (s.put d (.vv (.int t (if mx then (if n > m then n else m) else (if n < m then n else m)))))) : kont P (.t (.op oi [] d none q (.mm mx x y) r) tags :: k) Q .normal s :=
  kOp (fun _ => trivial) (by simp only [stepO, hx, hy]; exact ⟨trivial, h⟩)
theorem kEqn {ne : Bool} {x : X} {c : AC} {y : DV} (hx : s.ev x = .c c) (hr : s.rd c = some y) (hsl : y.isSl = true) (h : ∀ b : Bool, (0 < y.len → b = false) → kont P (.t r tags :: k) Q .normal (s.put d (.b (if ne then !b else b)))) : kont P (.t (.op oi [] d none q (.eqn ne x) r) tags :: k) Q .normal s :=
  kOp (fun _ => trivial) (by
    simp only [stepO, hx]
    split
    · rename_i sz he
      cases he
      simp only [St.rd, Option.some.injEq] at hr
      subst hr
      have := h true (by simp [DV.len])
      cases ne <;> exact this
    · rename_i c' _ he
      cases he
      simp only [hr]
      exact ⟨hsl, h⟩
    · rename_i h1 h2
      exact absurd rfl (h2 c))
theorem kNck {x : X} {c : AC} (hx : s.ev x = .c c) (hc : (match c with | .dpt _ | .ptr _ _ _ | .ept _ _ _ _ | .spt _ _ _ _ _ _ _ => s.live c | _ => false) = true) (h : kont P (.t r tags :: k) Q .normal (s.put d (.c c))) : kont P (.t (.op oi [] d none q (.nck x) r) tags :: k) Q .normal s :=
  kOp (fun _ => trivial) (by
    simp only [stepO, hx]
    refine ⟨?_, h⟩
    cases c <;> simp_all)
theorem kCutA {sz : Nat} {x : X} {lo hi : Option X} {y : DV} {a b : Nat} {id ver ev : Nat} {dp : Bool} (hx : s.ev x = .c (.arr id ver)) (ho : s.ob id = ⟨ver, ev, .arr dp y⟩) (hh : s.hold.contains id = false) (hv : 0 < ver) (hsl : y.isSl = true) (hsz : y.esz = sz)
    (hlo : lo.map s.ev = none ∧ a = 0 ∨ ∃ k, lo.map s.ev = some (.vv (.int k a))) (hhi : hi.map s.ev = none ∧ b = y.len ∨ ∃ k, hi.map s.ev = some (.vv (.int k b))) (hab : a ≤ b ∧ b ≤ y.len) (h : kont P (.t r tags :: k) Q .normal ((s.setOb id ⟨ver, ev + 1, .frz y⟩).put d (.dv (y.cut a b)))) :
    kont P (.t (.op oi [] d none q (.cut sz x lo hi) r) tags :: k) Q .normal s :=
  kOp (fun _ => trivial) (.inl (by simp only [cutA, hx, St.rd, St.obj, ho, if_true]; exact ⟨hsl, hsz, a, b, hlo, hhi, hab.1, hab.2, by simpa using hh, hv, h⟩))
theorem kClo {f : Nat} {first caps : List X} {fs : List DA} {vs : List (Nat × Nat)} (hf : (first.map s.ev).mapM daOf = some fs) (hc : (caps.map s.ev).mapM capOf = some vs) (h : kont P (.t r tags :: k) Q .normal (s.put d (.c (.fn f fs vs)))) :
    kont P (.t (.op oi [] d none q (.clo f first caps) r) tags :: k) Q .normal s :=
  kOp (fun _ => trivial) ⟨fs, vs, hf, hc, h⟩
theorem kCallv {e : Nat} {x : X} {args : List X} {p : Bool} {C : FC} {as : List DA} {R : List RA → Prop} (hx : s.ev x = .c (.fv p C)) (hC : C as R) (hm : matchGs P s (args.map s.ev) (as.map DA.ga))
    (hb : (p && stabGs s (args.map s.ev) (as.map DA.ga)) = true ∨ ∀ ra, R ra → ra.all RA.clean = true) (hl : Nat.ble as.length 64 = true) (hra : ∀ ra, R ra → ra.length ≤ 64) (hh : s.hold.all (fun q => !(decide (rid e 0 ≤ q) && decide (q < rid e 4096))) = true)
    (h : ∀ ra, R ra → kont P (.t r tags :: k) Q .normal ((s.after e ra [] ⟨fun _ => .sl 0 [], fun _ => []⟩).put d (resV s e ra))) : kont P (.t (.op oi [] d none q (.callv e x args) r) tags :: k) Q .normal s :=
  kOp (fun _ => trivial) (by
    simp only [stepO, hx]
    refine ⟨as, R, hC, hm, hb.imp (fun h => by simpa using h) id, Nat.le_of_ble_eq_true hl, hra, fun q h1 h2 h3 => ?_, h⟩
    have := List.all_eq_true.1 hh q h3
    simp only [Bool.not_eq_true', Bool.and_eq_false_iff, decide_eq_false_iff_not] at this
    rcases this with h | h <;> omega)
end
end Hearth

/- Data of Go's as data of the abstract machine. -/
namespace Hearth
open Go
theorem len_encB (b : List UInt8) : (encB b).len = b.length := by simp [encB, DV.len]
def u8 (k : Int) : UInt8 := UInt8.ofNat (k % 256).toNat
theorem u8_toNat (k : Int) : ((u8 k).toNat : Int) = IntKind.u8.wrap k := by
  have : (k % 256).toNat < 256 := by omega
  simp [u8, IntKind.wrap, IntKind.bits, IntKind.signed]
  omega
def encBB (l : List (List UInt8)) : DV := .sl 1 (l.map fun b => [encB b])
theorem len_encBB (b : List (List UInt8)) : (encBB b).len = b.length := by simp [encBB, DV.len]
theorem row_encBB (b : List (List UInt8)) (i : Nat) (h : i < b.length) : (encBB b).row i = [encB b[i]] := by
  unfold DV.row encBB DV.rows
  rw [List.getD_eq_getElem?_getD, List.getElem?_map, List.getElem?_eq_getElem h]
  rfl
theorem take_set_succ {α : Type} (l m : List α) (i : Nat) (v : α) (hi : i < m.length) (hl : l.length = i) : (l ++ m.drop i).set i v = (l ++ [v]) ++ m.drop (i + 1) := by
  rw [List.drop_eq_getElem_cons hi, List.set_append_right _ _ (by omega), hl, Nat.sub_self, List.set_cons_zero, List.append_assoc]
  rfl
end Hearth
namespace Hearth
open Go
def lst (l : List DV) : DV := .sl 1 (l.map fun x => [x])
theorem len_lst (l : List DV) : (lst l).len = l.length := by simp [lst, DV.len]
theorem row_lst (l : List DV) (i : Nat) (h : i < l.length) : (lst l).row i = [l[i]] := by
  unfold DV.row lst DV.rows
  rw [List.getD_eq_getElem?_getD, List.getElem?_map, List.getElem?_eq_getElem h]
  rfl
theorem encB_lst (l : List UInt8) : encB l = lst (l.map fun b => .sc (.int .u8 b.toNat)) := by simp [encB, lst]
theorem encBB_lst (l : List (List UInt8)) : encBB l = lst (l.map encB) := by simp [encBB, lst]
theorem noNest_encB (b : List UInt8) : noNest (encB b) = true := by
  simp [noNest, encB, DV.rows, DV.isSc]
theorem src_encB (s : St) (b : List UInt8) : s.src (.d (encB b)) = some (true, encB b, []) := by
  show some (noNest (encB b), encB b, []) = _
  rw [noNest_encB]
def fcPred (D : DV → Prop) (g : DV → Bool) : FC := fun as R => ∃ x, D x ∧ as = [DA.one x] ∧ R = fun ra => ra = [.one (.d (.sc (.bool (g x))))]
end Hearth

/- Arguments of a law, as data of the abstract machine. -/
namespace Hearth
open Go
inductive Sh where
  | int (k : IntKind)
  | bool
  | str
  | sl (l : List Sh)
def shOk : Nat → Sh → DV → Prop
  | _ + 1, .int k, .sc (.int k' m) => k' = k ∧ (Lit.int k m).wf = true
  | _ + 1, .bool, .sc (.bool _) => True
  | _ + 1, .str, .sc (.string b) => b.size ≤ maxLen
  | n + 1, .sl l, .sl sz rows => sz = l.length ∧ 0 < sz ∧ rows.length ≤ maxLen ∧ ∀ row ∈ rows, row.length = l.length ∧ ∀ (j : Nat) (sh : Sh) (y : DV), l[j]? = some sh → row[j]? = some y → shOk n sh y
  | _, _, _ => False
theorem shOk_mono : ∀ {n : Nat} {sh : Sh} {y : DV}, shOk n sh y → shOk (n + 1) sh y
  | 0, _, _, h => by simp [shOk] at h
  | n + 1, .int k, .sc (.int k' m), h => h
  | n + 1, .bool, .sc (.bool _), _ => trivial
  | n + 1, .str, .sc (.string b), h => h
  | n + 1, .sl l, .sl sz rows, ⟨h1, h2, h3, h4⟩ => ⟨h1, h2, h3, fun row hr => ⟨(h4 row hr).1, fun j sh y a b => shOk_mono ((h4 row hr).2 j sh y a b)⟩⟩
def structSh (P : Program) (go : TypeId → Option (List Sh)) : Nat → List Field → Option (List Sh)
  | _, [] => some []
  | off, f :: fs => if f.offset = off then match go f.type with
      | some l => if l.length = P.cellsOf f.type then (structSh P go (off + l.length) fs).map (l ++ ·) else none
      | none => none
    else none
def cellsSh (P : Program) : Nat → TypeId → Option (List Sh)
  | 0, _ => none
  | n + 1, t => match P.underlying t with
    | some (.int k) => some [.int k]
    | some .bool => some [.bool]
    | some .string => some [.str]
    | some (.slice e) => match cellsSh P n e with
      | some l => if l.length = P.cellsOf e ∧ 0 < l.length then some [.sl l] else none
      | none => none
    | some (.struct fs) => match structSh P (cellsSh P n) 0 fs.toList with
      | some l => if l.length = P.cellsOf t then some l else none
      | none => none
    | _ => none
section
variable {H : Type} {enc : TypeId × Value → H} {P : Program} {w : World} {base : Nat} {spare : Nat → Bool} {held : Bool}
theorem add_spot {a : Addr} {n : Nat} (h : a.spot = none) : a.add n = ⟨a.block, a.off + n, none⟩ := by
  unfold Addr.add
  split
  · rename_i h0; subst h0; cases a; simp_all
  · rfl
theorem structSh_get {go : TypeId → Option (List Sh)} : ∀ {fs : List Field} {off : Nat} {l : List Sh}, structSh P go off fs = some l → ∀ (j : Nat) (sh : Sh), l[j]? = some sh →
    ∃ (i : Nat) (f : Field) (lf : List Sh) (j' : Nat), fs[i]? = some f ∧ go f.type = some lf ∧ lf.length = P.cellsOf f.type ∧ lf[j']? = some sh ∧ off + j = f.offset + j'
  | [], off, l, h, j, sh, hj => by simp [structSh] at h; subst h; simp at hj
  | f :: fs, off, l, h, j, sh, hj => by
    simp only [structSh] at h
    split at h
    · rename_i hoff
      split at h
      · rename_i lf hlf
        split at h
        · rename_i hlen
          simp only [Option.map_eq_some_iff] at h
          obtain ⟨l', hl', rfl⟩ := h
          by_cases hjl : j < lf.length
          · rw [List.getElem?_append_left hjl] at hj
            exact ⟨0, f, lf, j, rfl, hlf, hlen, hj, by rw [hoff]⟩
          · rw [List.getElem?_append_right (by omega)] at hj
            obtain ⟨i, f', lf', j', e1, e2, e3, e4, e5⟩ := structSh_get hl' _ sh hj
            exact ⟨i + 1, f', lf', j', by simpa using e1, e2, e3, e4, by omega⟩
        · simp at h
      · simp at h
    · simp at h
theorem trod_sh : ∀ {n : Nat} {t : TypeId} {fuel : Nat} {cs : List Value} {x : DataW H × List MemPlace} {l : List Sh}, cellsSh P n t = some l → DataW.trod enc P w base spare held fuel t cs = some x →
    cs.length = l.length ∧ ∀ (j : Nat) (u : Value) (sh : Sh), cs[j]? = some u → l[j]? = some sh → ∃ y, Pers w (All w) y u ∧ shOk n sh y
  | 0, _, _, _, _, _, h, _ => by simp [cellsSh] at h
  | n + 1, t, fuel, cs, x, l, h, hx => by
    simp only [cellsSh] at h
    split at h
    · rename_i k ht
      simp at h; subst h
      obtain ⟨m, rfl, _, hw⟩ := DataW.trod_int ht hx
      refine ⟨rfl, fun j u sh h1 h2 => ?_⟩
      cases j with
      | zero => simp at h1 h2; subst h1; subst h2; exact ⟨.sc (.int k m), .sc _ rfl, rfl, hw⟩
      | succ j => simp at h1
    · rename_i ht
      simp at h; subst h
      obtain ⟨b, rfl, _⟩ := DataW.trod_bool ht hx
      refine ⟨rfl, fun j u sh h1 h2 => ?_⟩
      cases j with
      | zero => simp at h1 h2; subst h1; subst h2; exact ⟨.sc (.bool b), .sc _ rfl, trivial⟩
      | succ j => simp at h1
    · rename_i ht
      simp at h; subst h
      obtain ⟨b, rfl, _, hb⟩ := DataW.trod_string ht hx
      refine ⟨rfl, fun j u sh h1 h2 => ?_⟩
      cases j with
      | zero => simp at h1 h2; subst h1; subst h2; exact ⟨.sc (.string b), .sc _ rfl, hb⟩
      | succ j => simp at h1
    · rename_i e ht
      split at h
      · rename_i le hle
        split at h
        · rename_i hlen
          simp at h; subst h
          rcases DataW.trod_slice ht hx with ⟨rfl, _⟩ | ⟨a, len, cap, elems, rest, m, _, rfl, _, hb, hlc, hmax, hel, hget, _, _⟩
          · refine ⟨rfl, fun j u sh h1 h2 => ?_⟩
            cases j with
            | zero => simp at h1 h2; subst h1; subst h2; exact ⟨.sl le.length [], .emp _ _ _, rfl, hlen.2, by simp, by simp⟩
            | succ j => simp at h1
          · refine ⟨rfl, fun j u sh h1 h2 => ?_⟩
            cases j with
            | succ j => simp at h1
            | zero =>
              simp at h1 h2; subst h1; subst h2
              by_cases h0 : len = 0
              · subst h0
                exact ⟨.sl le.length [], .emp _ _ _, rfl, hlen.2, by simp, by simp⟩
              have each : ∀ i, i < len → ∀ j, j < le.length → ∃ v y, w.cell? ((a.add (i * P.cellsOf e)).add j) = some v ∧ Pers w (All w) y v ∧ ∀ sh, le[j]? = some sh → shOk n sh y := by
                intro i hi j hj
                have h1 := hget i hi
                rw [List.getElem?_eq_getElem (by omega), Option.bind_eq_some_iff] at h1
                obtain ⟨cs', hcs, hy⟩ := h1
                obtain ⟨g1, g2⟩ := trod_sh hle hy
                have hjc : j < cs'.length := by omega
                have hc := (World.cells?_some hcs).2.2 j (by rw [← hlen.1]; exact hj)
                obtain ⟨y, g3, g4⟩ := g2 j _ _ (List.getElem?_eq_getElem hjc) (List.getElem?_eq_getElem hj)
                refine ⟨cs'[j], y, ?_, g3, fun sh hsh => ?_⟩
                · rw [hc]; exact List.getElem?_eq_getElem hjc
                · rw [List.getElem?_eq_getElem hj] at hsh; simp at hsh; subst hsh; exact g4
              have hspot : a.spot = none := by
                obtain ⟨v, _, hc, _⟩ := each 0 (by omega) 0 hlen.2
                simp [Addr.add] at hc
                unfold World.cell? at hc
                split at hc
                · split at hc
                  · simp at hc
                  · rename_i hs; simpa using hs
                · simp at hc
              have ch : ∀ p : Nat × Nat, ∃ q : Value × DV, p.1 < len → p.2 < le.length → w.cell? ((a.add (p.1 * P.cellsOf e)).add p.2) = some q.1 ∧ Pers w (All w) q.2 q.1 ∧ ∀ sh, le[p.2]? = some sh → shOk n sh q.2 := by
                intro p
                by_cases h1 : p.1 < len
                · by_cases h2 : p.2 < le.length
                  · obtain ⟨v, y, h3⟩ := each p.1 h1 p.2 h2
                    exact ⟨(v, y), fun _ _ => h3⟩
                  · exact ⟨(undef, .sl 0 []), fun _ h => absurd h h2⟩
                · exact ⟨(undef, .sl 0 []), fun h => absurd h h1⟩
              have ⟨f, hf⟩ := Classical.axiomOfChoice ch
              let rows : List (List DV) := (List.range len).map fun i => (List.range le.length).map fun j => (f (i, j)).2
              have hrl : rows.length = len := by simp [rows]
              have hrow : ∀ (i : Nat) (cs : List DV), rows[i]? = some cs → i < len ∧ cs = (List.range le.length).map fun j => (f (i, j)).2 := by
                intro i cs hcs
                simp only [rows, List.getElem?_map, Option.map_eq_some_iff] at hcs
                obtain ⟨i', h1, rfl⟩ := hcs
                have hi : i < len := by
                  have := (List.getElem?_eq_some_iff.1 h1).1
                  simpa using this
                rw [List.getElem?_range hi] at h1
                simp at h1; subst h1
                exact ⟨hi, rfl⟩
              have hcell : ∀ (i j : Nat) (cs : List DV) (d : DV), rows[i]? = some cs → cs[j]? = some d → i < len ∧ j < le.length ∧ d = (f (i, j)).2 := by
                intro i j cs d hcs hd
                obtain ⟨hi, rfl⟩ := hrow i cs hcs
                simp only [List.getElem?_map, Option.map_eq_some_iff] at hd
                obtain ⟨j', h1, rfl⟩ := hd
                have hj : j < le.length := by
                  have := (List.getElem?_eq_some_iff.1 h1).1
                  simpa using this
                rw [List.getElem?_range hj] at h1
                simp at h1; subst h1
                exact ⟨hi, hj, rfl⟩
              have hadd : ∀ i j, (a.add (i * P.cellsOf e)).add j = ⟨a.block, a.off + i * le.length + j, none⟩ := by
                intro i j
                rw [add_spot hspot, add_spot rfl, hlen.1]
              refine ⟨.sl le.length rows, ?_, rfl, hlen.2, by rw [hrl]; omega, fun row hr => ?_⟩
              · have hA : a = ⟨a.block, a.off, none⟩ := by cases a; simp_all
                have hall : All w a.block := by
                  obtain ⟨hc, _⟩ := hf (0, 0) (by show 0 < len; omega) hlen.2
                  rw [hadd] at hc
                  exact World.block_lt_of_cell? w ⟨a.block, _, none⟩ hc
                rw [hA, ← hrl]
                refine .sl le.length rows a.block a.off cap (fun i j => (f (i, j)).1) (by omega) hmax hall (fun i cs hcs => ?_) (fun i j cs d hcs hd => ?_) (fun i j cs d hcs hd => ?_)
                · obtain ⟨_, rfl⟩ := hrow i cs hcs; simp
                · obtain ⟨hi, hj, rfl⟩ := hcell i j cs d hcs hd
                  have := (hf (i, j) hi hj).1
                  rw [hadd] at this
                  exact this
                · obtain ⟨hi, hj, rfl⟩ := hcell i j cs d hcs hd
                  exact (hf (i, j) hi hj).2.1
              · obtain ⟨i, hi⟩ := List.getElem?_of_mem hr
                obtain ⟨hlt, rfl⟩ := hrow i row hi
                refine ⟨by simp, fun j sh y h1 h2 => ?_⟩
                obtain ⟨_, hj, rfl⟩ := hcell i j _ y hi h2
                exact (hf (i, j) hlt hj).2.2 sh h1
        · simp at h
      · simp at h
    · rename_i fs ht
      split at h
      · rename_i l' hl'
        split at h
        · rename_i hlen
          simp at h; subst h
          obtain ⟨xs, m, _, _, hcl, _, hget⟩ := DataW.trod_struct ht hx
          refine ⟨by rw [hcl, hlen], fun j u sh h1 h2 => ?_⟩
          obtain ⟨i, f, lf, j', e1, e2, e3, e4, e5⟩ := structSh_get hl' j sh h2
          have hf := hget i f (by simpa using e1)
          have hxs : i < xs.length := by
            cases hxi : xs[i]? with
            | none =>
              have := (List.getElem?_eq_some_iff.1 e1).1
              rw [List.getElem?_eq_none_iff] at hxi
              have h3 : xs.length = fs.size := by assumption
              simp at this
              omega
            | some _ => exact (List.getElem?_eq_some_iff.1 hxi).1
          rw [List.getElem?_eq_getElem hxs] at hf
          obtain ⟨g1, g2⟩ := trod_sh e2 hf
          obtain ⟨y, g3, g4⟩ := g2 j' u sh (by
            rw [List.getElem?_take]
            have := (List.getElem?_eq_some_iff.1 e4).1
            rw [if_pos (by omega), List.getElem?_drop]
            rw [show f.offset + j' = j by omega]; exact h1) e4
          refine ⟨y, g3, ?_⟩
          cases n with
          | zero => simp [cellsSh] at e2
          | succ n => exact shOk_mono g4
        · simp at h
      · simp at h
    · simp at h
end
end Hearth

/- The abstract machine: states that say less (2): objects. -/
namespace Hearth
open Go
def VB (f : Nat → Ob) (V : Nat) : Prop := ∀ id, (f id).ver ≤ V
theorem VB.mono {f : Nat → Ob} {V V' : Nat} (h : VB f V) (h' : V ≤ V') : VB f V' := fun id => Nat.le_trans (h id) h'
theorem VB.upd {f : Nat → Ob} {V i : Nat} {o : Ob} (h : VB f V) (ho : o.ver ≤ V) : VB (Hearth.upd f i o) V := by
  intro id
  unfold Hearth.upd
  split
  · exact ho
  · exact h id
theorem VB.set {s : St} {V i : Nat} {o : Ob} (h : VB s.ob V) (ho : o.ver ≤ V) : VB (s.setOb i o).ob V := VB.upd h ho
theorem VB.kill {s : St} {V : Nat} {ids : List Nat} (h : VB s.ob V) : VB (s.kill ids).ob (V + 1) := by
  intro id
  show (if id ∈ ids then _ else _ : Ob).ver ≤ _
  split
  · exact Nat.succ_le_succ (h id)
  · exact Nat.le_succ_of_le (h id)
theorem VB.after {s : St} {V d : Nat} {ra : List RA} {bs : List (Nat × Nat × Bool)} {os : Outs} (h : VB s.ob V) : VB (s.after d ra bs os).ob (V + 1) := by
  intro id
  unfold St.after
  split
  · exact Nat.le_succ_of_le (h id)
  · have := h id
    simp only
    split
    · simp only; omega
    · split
      · simp only; omega
      · split <;> (simp only; omega)
      · omega
theorem VB.tab {V : Nat} : ∀ {l : List (Nat × Ob)}, (∀ e ∈ l, e.2.ver ≤ V) → VB (obTab V l) V
  | [], _, id => by
    simp only [obTab]
    split
    · exact Nat.zero_le _
    · exact Nat.le_refl _
  | (i, o) :: l, h, id => by
    simp only [obTab]
    split
    · exact h (i, o) (List.mem_cons_self ..)
    · exact VB.tab (fun e he => h e (List.mem_cons_of_mem _ he)) id
theorem VB.init (gas : List GA) : VB (St.init gas).ob 0 := fun _ => Nat.le_refl _
theorem Sub.nilBox {s : St} {id id2 j sz ver ev v2 e2 : Nat} {k2 : OK} {cs : List AC} (hb : s.ob id = ⟨ver, ev, .box cs⟩) (h2 : s.ob id2 = ⟨v2, e2, k2⟩) (hj : cs[j]? = some (.nil sz)) (hne : id2 ≠ id) (hal : id2 ≠ alien) :
    Sub s ⟨s.sl, upd (upd s.ob id2 ⟨v2 + 1, 0, .arr true (.sl sz [])⟩) id ⟨ver, ev, .box (cs.set j (.arr id2 (v2 + 1)))⟩, []⟩ := by
  rintro P N w0 own0 hdr0 a w ⟨own, hdr, r⟩
  have h := (r.hold []).make (id := id2) (ids := []) (k := .arr true (.sl sz [])) (F := fun _ => False) (v := .slice none 0 0) (w' := w) ⟨hal, by simp⟩ (by simp) (by simp) (by simp) (Ext.refl _ _) (fun _ h => h.elim) (fun rc => by
    unfold RO
    rw [ob_new (by simp)]
    exact ⟨rfl, .inl ⟨rfl, by simp [hdrTo]⟩⟩)
  rw [St.kill_nil] at h
  obtain ⟨r1, rc1⟩ := h
  have hv2 : (s.ob id2).ver = v2 := by rw [h2]
  simp only [St.newOb, St.setOb, hv2] at r1 rc1
  generalize ownTo own id2 [] (fun _ => False) = own1 at *
  have hh : hdrTo hdr id2 [] (.slice none 0 0) id2 = .slice none 0 0 := by simp [hdrTo]
  generalize hdrTo hdr id2 [] (.slice none 0 0) = hdr1 at *
  have hob : (upd s.ob id2 ⟨v2 + 1, 0, .arr true (.sl sz [])⟩) id = ⟨ver, ev, .box cs⟩ := by rw [upd_ne _ _ _ _ (Ne.symm hne)]; exact hb
  have hob2 : (upd s.ob id2 ⟨v2 + 1, 0, OK.arr true (.sl sz [])⟩) id2 = ⟨v2 + 1, 0, .arr true (.sl sz [])⟩ := upd_same _ _ _
  generalize (upd s.ob id2 ⟨v2 + 1, 0, OK.arr true (.sl sz [])⟩) = ob1 at *
  -- the variable's cells are named anew
  have rc2 : ∀ c u, RC P w own1 hdr1 ob1 c u → RC P w own1 hdr1 (upd ob1 id ⟨ver, ev, .box (cs.set j (.arr id2 (v2 + 1)))⟩) c u := by
    have key : ∀ i, ((upd ob1 id ⟨ver, ev, .box (cs.set j (.arr id2 (v2 + 1)))⟩) i).ver = (ob1 i).ver ∧ ((upd ob1 id ⟨ver, ev, .box (cs.set j (.arr id2 (v2 + 1)))⟩) i).ev = (ob1 i).ev ∧ ((upd ob1 id ⟨ver, ev, .box (cs.set j (.arr id2 (v2 + 1)))⟩) i).k.dv = (ob1 i).k.dv := by
      intro i
      unfold upd
      split
      · rename_i e; subst e; rw [hob]; exact ⟨rfl, rfl, rfl⟩
      · exact ⟨rfl, rfl, rfl⟩
    intro c u hc
    cases c <;> first
      | exact hc
      | (simp only [RC, (key _).1, (key _).2.1, (key _).2.2] at hc ⊢; exact hc)
  refine ⟨own1, hdr1, r1.n, r1.defers, fun t => ?_, fun i => ?_, ?_, ?_, r1.dis, r1.lt, r1.ext, fun i hi => r1.zero i ?_, r1.new, by simp⟩
  · have := r1.tmps t
    have hs : ∀ {x : AV} {u : Value}, RS P w own1 hdr1 ob1 x u → RS P w own1 hdr1 (upd ob1 id ⟨ver, ev, .box (cs.set j (.arr id2 (v2 + 1)))⟩) x u := by
      intro x u hx
      cases x with
      | c c => exact rc2 c u hx
      | g xs => obtain ⟨vs, e1, e2, e3⟩ := hx; exact ⟨vs, e1, e2, fun k x u a b => rc2 x u (e3 k x u a b)⟩
      | t xs =>
        obtain ⟨vs, e1, e2, e3⟩ := hx
        refine ⟨vs, e1, e2, fun k x u a b => ?_⟩
        have := e3 k x u a b
        cases x with
        | c c => exact rc2 c u this
        | g xs => obtain ⟨vs, f1, f2, f3⟩ := this; exact ⟨vs, f1, f2, fun k x u a b => rc2 x u (f3 k x u a b)⟩
        | t xs => exact this
    exact hs this
  · have ho := r1.objs i
    by_cases hi : i = id
    · subst hi
      obtain ⟨b, vs, t, g1, g2, g3, g4, g5⟩ := r1.boxAt (id := i) (cs := cs) (by show (ob1 i).k = _; rw [hob])
      unfold RO
      simp only [upd_same]
      refine ⟨b, vs, t, g1, g2, g3, by simpa using g4, fun k c u h3 h4 => ?_⟩
      rw [List.getElem?_set] at h3
      split at h3
      · rename_i e
        subst e
        split at h3
        · simp at h3; subst h3
          refine rc2 _ _ ?_
          have := g5 j _ u hj h4
          rw [show u = .slice none 0 0 from this]
          show _ ≤ (ob1 id2).ver ∧ (_ = (ob1 id2).ver → _)
          rw [hob2]
          exact ⟨Nat.le_refl _, fun _ => hh.symm⟩
        · simp at h3
      · exact rc2 _ _ (g5 k c u h3 h4)
    · unfold RO at ho ⊢
      simp only [upd_ne _ _ _ _ hi]
      split at ho
      · rename_i hk; simp only [show (ob1 i).k = _ from hk]; exact ho
      · rename_i hk; simp only [show (ob1 i).k = _ from hk]; exact ho
      · rename_i cs' hk
        simp only [show (ob1 i).k = _ from hk]
        obtain ⟨b, vs, t, g1, g2, g3, g4, g5⟩ := ho
        exact ⟨b, vs, t, g1, g2, g3, g4, fun k c u a b => rc2 c u (g5 k c u a b)⟩
      · rename_i hk; simp only [show (ob1 i).k = _ from hk]; exact ho
      · rename_i hk; simp only [show (ob1 i).k = _ from hk]; exact ho
      · rename_i hk; simp only [show (ob1 i).k = _ from hk]; exact ho
  · have hne' : alien ≠ id := fun e => by
      have := r1.al
      rw [e] at this
      have h3 : (ob1 id).k = .ext := this
      rw [hob] at h3; cases h3
    show (upd ob1 id _ alien).k = .ext
    rw [upd_ne _ _ _ _ hne']; exact r1.al
  · have hne' : alien ≠ id := fun e => by
      have := r1.al
      rw [e] at this
      have h3 : (ob1 id).k = .ext := this
      rw [hob] at h3; cases h3
    show (upd ob1 id _ alien).ver = 0
    rw [upd_ne _ _ _ _ hne']; exact r1.alv
  · have : (upd ob1 id ⟨ver, ev, .box (cs.set j (.arr id2 (v2 + 1)))⟩ i).ver = 0 := hi
    unfold upd at this
    split at this
    · rename_i e; rw [e]; show (ob1 id).ver = 0; rw [hob]; exact this
    · exact this
end Hearth

/- The abstract machine: a state named anew (versions as at a loop's first round). -/
namespace Hearth
open Go
def kept (ob : Nat → Ob) (id : Nat) : Bool :=
  match (ob id).k with
  | .dead => false
  | _ => true
section
variable (ob ob' : Nat → Ob)
def cw (c : AC) : AC → Prop
  | .any => True
  | .un => c = .un
  | .d x => c = .d x ∨ ∃ sz, c = .nil sz ∧ x = .sl sz []
  | .nil sz => c = .nil sz
  | .arr id ver => c = .arr id (ob id).ver ∧ (ob' id).ver = ver ∧ kept ob' id = true
  | .ptr id ver off => c = .ptr id (ob id).ver off ∧ (ob' id).ver = ver ∧ kept ob' id = true
  | .ept id ver i off => c = .ept id (ob id).ver i off ∧ (ob' id).ver = ver ∧ kept ob' id = true ∧ (ob' id).k.dv.esz = (ob id).k.dv.esz
  | .win id ver lo hi => c = .win id (ob id).ver lo hi ∧ (ob' id).ver = ver ∧ kept ob' id = true ∧ (ob' id).k.dv.esz = (ob id).k.dv.esz
  | .dpt ds => c = .dpt ds
  | .cpt ds => c = .cpt ds
  | .sub _ _ _ _ _ => False
  | .spt _ _ _ _ _ _ _ => False
  | .fn f first caps => c = .fn f first (caps.map fun e => (e.1, (ob e.1).ver)) ∧ (caps.all fun e => (Nat.beq (ob' e.1).ver e.2 && kept ob' e.1)) = true
  | .fv p C => c = .fv p C
  | .fsl id ver n => c = .fsl id (ob id).ver n ∧ (ob' id).ver = ver ∧ kept ob' id = true
def cwL : List AC → List AC → Prop
  | [], [] => True
  | c :: cs, d :: ds => cw ob ob' c d ∧ cwL cs ds
  | _, _ => False
def cwV (v : AV) : AV → Prop
  | .c d => ∃ c, v = .c c ∧ cw ob ob' c d
  | .g ds => ∃ cs, v = .g cs ∧ cwL ob ob' cs ds
  | .t _ => False
theorem arrW_spec : ∀ {dp : Bool} {k : OK} {x : DV}, arrW dp k x → ∃ dp0, k = .arr dp0 x ∧ (dp = true → dp0 = true)
  | true, _, _, h => ⟨true, h, fun h => h⟩
  | false, _, _, ⟨dp, h⟩ => ⟨dp, h, nofun⟩
def okW (o o' : Ob) : Prop :=
  (!(Nat.beq o'.ver 0) || Nat.beq o.ver 0) = true ∧
  match o'.k with
  | .dead => False
  | .ext => False
  | .box cs => ∃ cs0, o.k = .box cs0 ∧ cwL ob ob' cs0 cs
  | .arr dp x => arrW dp o.k x
  | .frz x => o.k = .frz x
  | .flat x => o.k = .flat x
end
def chkV (s : St) (ob' : Nat → Ob) : List (Nat × AV) → Prop
  | [] => True
  | (i, v) :: l => cwV s.ob ob' (s.sl i) v ∧ chkV s ob' l
def chkW (s : St) (ob' : Nat → Ob) : List (Nat × Ob) → Prop
  | [] => True
  | (i, o) :: l => (Nat.beq i alien = false ∧ okW s.ob ob' (s.ob i) o) ∧ chkW s ob' l
theorem cwL_get {ob ob' : Nat → Ob} : ∀ {cs ds : List AC}, cwL ob ob' cs ds → cs.length = ds.length ∧ ∀ (k : Nat) (d : AC), ds[k]? = some d → ∃ c, cs[k]? = some c ∧ cw ob ob' c d
  | [], [], _ => by simp
  | c :: cs, d :: ds, h => by
    obtain ⟨h1, h2⟩ := cwL_get h.2
    refine ⟨by simp [h1], fun k e hk => ?_⟩
    cases k with
    | zero => simp at hk; subst hk; exact ⟨c, rfl, h.1⟩
    | succ k => simp at hk; simpa using h2 k e hk
  | [], _ :: _, h => h.elim
  | _ :: _, [], h => h.elim
section
variable {P : Program} {w : World} {own : Nat → Nat → Prop} {hdr : Nat → Value} {ob ob' : Nat → Ob}
def ownK (own : Nat → Nat → Prop) (ob' : Nat → Ob) : Nat → Nat → Prop := fun id b => kept ob' id = true ∧ own id b
def hdrK (hdr : Nat → Value) (ob' : Nat → Ob) : Nat → Value := fun id => if kept ob' id = true then hdr id else undef
theorem Free.keep {b : Nat} (h : Free w own b) : Free w (ownK own ob') b := ⟨h.1, fun id ho => h.2 id ho.2⟩
theorem FreeF.keep {b : Nat} (h : FreeF w own b) : FreeF w (ownK own ob') b := ⟨h.1, fun id ho => h.2 id ho.2⟩
theorem DAr.keep {a : DA} {v : Value} (h : DAr w (Free w own) a v) : DAr w (Free w (ownK own ob')) a v := by
  cases a with
  | one x => exact Pers.mono' (fun _ hb => hb.keep) h
  | agg xs =>
    obtain ⟨vs, h1, h2, h3⟩ := h
    exact ⟨vs, h1, h2, fun k x u a b => Pers.mono' (fun _ hb => hb.keep) (h3 k x u a b)⟩
theorem RC.keep {c d : AC} {u : Value} (hw : cw ob ob' c d) (h : RC P w own hdr ob c u) : RC P w (ownK own ob') (hdrK hdr ob') ob' d u := by
  cases d with
  | any => trivial
  | un => rw [show c = .un from hw] at h; exact h
  | d x =>
    rcases hw with rfl | ⟨sz, rfl, rfl⟩
    · exact Pers.mono' (fun _ hb => hb.keep) h
    · rw [show u = .slice none 0 0 from h]
      exact .emp _ _ _
  | nil sz => rw [show c = .nil sz from hw] at h; exact h
  | arr id ver =>
    obtain ⟨rfl, rfl, hk⟩ := hw
    refine ⟨Nat.le_refl _, fun _ => ?_⟩
    rw [hdrK, if_pos hk]
    exact h.2 rfl
  | ptr id ver off =>
    obtain ⟨rfl, rfl, hk⟩ := hw
    refine ⟨Nat.le_refl _, fun _ => ?_⟩
    rw [hdrK, if_pos hk]
    exact h.2 rfl
  | ept id ver i off =>
    obtain ⟨rfl, rfl, hk, he⟩ := hw
    refine ⟨Nat.le_refl _, fun _ => ?_⟩
    rw [hdrK, if_pos hk, he]
    exact h.2 rfl
  | win id ver lo hi =>
    obtain ⟨rfl, rfl, hk, he⟩ := hw
    refine ⟨Nat.le_refl _, fun _ => ?_⟩
    rw [hdrK, if_pos hk, he]
    exact h.2 rfl
  | dpt ds =>
    rw [show c = .dpt ds from hw] at h
    obtain ⟨b, off, h1, h2, h3⟩ := h
    refine ⟨b, off, h1, h2.keep, fun j d hd => ?_⟩
    obtain ⟨u, h4, h5⟩ := h3 j d hd
    exact ⟨u, h4, Pers.mono' (fun _ hb => hb.keep) h5⟩
  | cpt ds =>
    rw [show c = .cpt ds from hw] at h
    obtain ⟨b, off, h1, h2, h3⟩ := h
    refine ⟨b, off, h1, h2.keep, fun j d hd => ?_⟩
    obtain ⟨u, h4, h5⟩ := h3 j d hd
    refine ⟨u, h4, ?_⟩
    cases d with
    | d x => exact Pers.mono' (fun _ hb => hb.keep) h5
    | fv p C =>
      refine FVal.mono (fun b hb => ⟨rfl, ?_⟩) (Nat.le_refl _) h5
      split at hb
      · rename_i e; rw [if_pos e]; exact hb.elim
      · rename_i e; rw [if_neg e]; exact hb.keep
  | sub _ _ _ _ _ => exact hw.elim
  | spt _ _ _ _ _ _ _ => exact hw.elim
  | fsl id ver n =>
    obtain ⟨rfl, rfl, hk⟩ := hw
    refine ⟨Nat.le_refl _, fun _ => ?_⟩
    rw [hdrK, if_pos hk]
    exact h.2 rfl
  | fn f first caps =>
    obtain ⟨rfl, hc⟩ := hw
    obtain ⟨fs, vs, h1, h2, h3, h4⟩ := h
    refine ⟨fs, vs, h1, ⟨h2.1, fun t a v x y => (h2.2 t a v x y).keep⟩, by simpa using h3, fun k id ver u hk hu => ?_⟩
    have := List.all_eq_true.1 hc _ (List.mem_of_getElem? hk)
    simp only [Bool.and_eq_true, Nat.beq_eq] at this
    refine ⟨Nat.le_of_eq this.1.symm, fun _ => ?_⟩
    rw [hdrK, if_pos this.2]
    exact (h4 k id (ob id).ver u (by simp [hk]) hu).2 rfl
  | fv p C =>
    rw [show c = .fv p C from hw] at h
    refine FVal.mono (fun b hb => ⟨rfl, ?_⟩) (Nat.le_refl _) h
    split at hb
    · rename_i e; rw [if_pos e]; exact hb.elim
    · rename_i e; rw [if_neg e]; exact hb.keep
theorem RS.keep {v d : AV} {u : Value} (hw : cwV ob ob' v d) (h : RS P w own hdr ob v u) : RS P w (ownK own ob') (hdrK hdr ob') ob' d u := by
  cases d with
  | c d => obtain ⟨c, rfl, hw⟩ := hw; exact RC.keep hw h
  | g ds =>
    obtain ⟨cs, rfl, hw⟩ := hw
    obtain ⟨vs, h1, h2, h3⟩ := h
    have hl := cwL_get hw
    refine ⟨vs, h1, h2.trans hl.1, fun k d u hk hu => ?_⟩
    obtain ⟨c, hc, hcd⟩ := hl.2 k d hk
    exact RC.keep hcd (h3 k c u hc hu)
  | t _ => exact hw.elim
end
theorem tabSl_keep {s : St} {ob' : Nat → Ob} : ∀ {l : List (Nat × AV)}, chkV s ob' l → ∀ j, tabSl l j = .c .any ∨ cwV s.ob ob' (s.sl j) (tabSl l j)
  | [], _, j => .inl rfl
  | (i, v) :: l, h, j => by
    simp only [tabSl]
    split
    · rename_i e; rw [e]; exact .inr h.1
    · exact tabSl_keep h.2 j
theorem obTab_keep {s : St} {ob' : Nat → Ob} {V : Nat} {id : Nat} : ∀ {lo : List (Nat × Ob)}, chkW s ob' lo →
    (id = alien ∧ obTab V lo id = ⟨0, 0, .ext⟩) ∨ (id ≠ alien ∧ obTab V lo id = ⟨V, 0, .dead⟩) ∨ (id ≠ alien ∧ okW s.ob ob' (s.ob id) (obTab V lo id))
  | [], _ => by
    simp only [obTab]
    split
    · rename_i h; exact .inl ⟨h, rfl⟩
    · rename_i h; exact .inr (.inl ⟨h, rfl⟩)
  | (i, o) :: l, h => by
    simp only [obTab]
    split
    · rename_i e; subst e; exact .inr (.inr ⟨Nat.ne_of_beq_eq_false h.1.1, h.1.2⟩)
    · exact obTab_keep h.2
theorem Sub.norm {s : St} {l : List (Nat × AV)} {lo : List (Nat × Ob)} (hc : chkV s (obTab 1 lo) l) (ho : chkW s (obTab 1 lo) lo) : Sub s ⟨tabSl l, obTab 1 lo, []⟩ := by
  rintro P N w0 own0 hdr0 a w ⟨own, hdr, r⟩
  refine ⟨ownK own (obTab 1 lo), hdrK hdr (obTab 1 lo), r.n, r.defers, fun j => ?_, fun id => ?_, ?_, ?_, fun i j b hi hj => r.dis i j b hi.2 hj.2, fun i b hb => r.lt i b hb.2, r.ext, fun id hz => ?_, fun i b hi hb => r.new i b hi hb.2, by simp⟩
  · rcases tabSl_keep hc j with h | h
    · simp only [h]; trivial
    · exact RS.keep h (r.tmps j)
  · have ht := obTab_keep (V := 1) (id := id) ho
    have hk : ∀ {k : OK}, (obTab 1 lo id).k = k → kept (obTab 1 lo) id = (match k with | .dead => false | _ => true) := fun {k} e => by unfold kept; rw [e]
    rcases ht with ⟨rfl, h⟩ | ⟨_, h⟩ | ⟨hne, h1, h2⟩
    · have := r.objs alien
      have hal := r.al
      unfold RO at this ⊢
      simp only [h, hal] at this ⊢
      have hkk : kept (obTab 1 lo) alien = true := by unfold kept; rw [h]
      rw [hdrK, if_pos hkk]
      exact this
    · unfold RO
      simp only [h]
      have : kept (obTab 1 lo) id = false := by unfold kept; rw [h]
      exact ⟨by rw [hdrK, if_neg (by simp [this])], fun b hb => by simp [ownK, this] at hb⟩
    · have hro := r.objs id
      split at h2
      · exact h2.elim
      · exact h2.elim
      · rename_i cs e
        have hkk : kept (obTab 1 lo) id = true := hk e
        obtain ⟨cs0, h3, h4⟩ := h2
        unfold RO at hro ⊢
        simp only [h3, e] at hro ⊢
        obtain ⟨b, vs, t, a1, a2, a3, a4, a5⟩ := hro
        have hl := cwL_get h4
        refine ⟨b, vs, t, by rw [hdrK, if_pos hkk]; exact a1, fun x => ?_, a3, a4.trans hl.1, fun k d u hd hu => ?_⟩
        · simp only [ownK, hkk, true_and]; exact a2 x
        · obtain ⟨c, hc1, hc2⟩ := hl.2 k d hd
          exact RC.keep hc2 (a5 k c u hc1 hu)
      · rename_i dp x e
        have hkk : kept (obTab 1 lo) id = true := hk e
        unfold RO at hro ⊢
        obtain ⟨dp0, h3, hd⟩ := arrW_spec h2
        simp only [h3, e] at hro ⊢
        rw [hdrK, if_pos hkk]
        exact ⟨hro.1, hro.2.mono hd (fun _ hb => ⟨rfl, hb.keep⟩) fun b hb => ⟨rfl, hkk, hb⟩⟩
      · rename_i x e
        have hkk : kept (obTab 1 lo) id = true := hk e
        unfold RO at hro ⊢
        simp only [h2, e] at hro ⊢
        rw [hdrK, if_pos hkk]
        exact ⟨hro.1, fun b hb => hro.2.1 b hb.2, Pers.mono' (fun _ hb => hb.keep) hro.2.2⟩
      · rename_i x e
        have hkk : kept (obTab 1 lo) id = true := hk e
        unfold RO at hro ⊢
        simp only [h2, e] at hro ⊢
        rw [hdrK, if_pos hkk]
        refine ⟨⟨hro.1.1, hro.1.2.mono (fun h => h) (fun _ hb => ⟨rfl, hb.keep⟩) fun b hb => ⟨rfl, hkk, hb⟩⟩, fun i j cs d h3 h4 => ?_⟩
        obtain ⟨u, h5, h6⟩ := hro.2 i j cs d h3 h4
        exact ⟨u, h5, Pers.mono' (fun _ hb => hb.keep) h6⟩
  · rcases obTab_keep (V := 1) (id := alien) ho with ⟨_, h⟩ | ⟨h, _⟩ | ⟨h, _⟩
    · show (obTab 1 lo alien).k = _; rw [h]
    · exact absurd rfl h
    · exact absurd rfl h
  · rcases obTab_keep (V := 1) (id := alien) ho with ⟨_, h⟩ | ⟨h, _⟩ | ⟨h, _⟩
    · show (obTab 1 lo alien).ver = _; rw [h]
    · exact absurd rfl h
    · exact absurd rfl h
  · have hz' : (obTab 1 lo id).ver = 0 := hz
    have key : (s.ob id).ver = 0 ∧ kept (obTab 1 lo) id = true := by
      rcases obTab_keep (V := 1) (id := id) ho with ⟨rfl, h⟩ | ⟨_, h⟩ | ⟨_, h1, h2⟩
      · exact ⟨r.alv, by unfold kept; rw [h]⟩
      · rw [h] at hz'; exact absurd hz' (by simp)
      · rw [hz'] at h1
        refine ⟨by simpa using h1, ?_⟩
        unfold kept
        split
        · rename_i e; rw [e] at h2; exact h2.elim
        · rfl
    have := r.zero id key.1
    exact ⟨by rw [hdrK, if_pos key.2]; exact this.1, fun b => by simp only [ownK, key.2, true_and]; exact this.2 b⟩
end Hearth

/- Bytes and lists of bytes: what is said of them besides. -/
namespace Hearth
open Go
def idxF (g : DV → Bool) (l : List DV) : Int := match l.findIdx? g with | some i => i | none => -1
def okLetter (b : UInt8) : Bool := (97 ≤ b.toNat && b.toNat ≤ 122) || (48 ≤ b.toNat && b.toNat ≤ 57) || b.toNat == 45
def szOut (left : Int) (cost : Nat) : Int := if left - cost < 0 then -1 else left - cost
theorem flat_le {α : Type} (a : List (List α)) (i : Nat) : (a.take i).flatten.length ≤ a.flatten.length := by
  have := congrArg (fun l => (List.flatten l).length) (List.take_append_drop i a)
  simp only [List.flatten_append, List.length_append] at this
  omega
theorem app_nil_encB (b : List UInt8) : (DV.sl 1 []).app (encB b) = encB b := by simp [DV.app, encB, DV.rows, DV.esz]
theorem app_encBB (l m : List (List UInt8)) : (encBB l).app (encBB m) = encBB (l ++ m) := by simp [DV.app, encBB, DV.rows, DV.esz]
def labelOk (b : List UInt8) : Bool := decide (1 ≤ b.length) && decide (b.length ≤ 15) && b.all okLetter
theorem okLetter_iff (b : UInt8) : okLetter b = true ↔ (97 ≤ b.toNat ∧ b.toNat ≤ 122) ∨ (48 ≤ b.toNat ∧ b.toNat ≤ 57) ∨ b.toNat = 45 := by
  simp [okLetter, or_assoc]
theorem labelOk_no {b : List UInt8} {i : Nat} (hi : i < b.length) (h : ¬ okLetter b[i] = true) : labelOk b = false := by
  have : ¬ (b.all okLetter = true) := fun e => h (List.all_eq_true.1 e _ (List.getElem_mem hi))
  simp [labelOk, this]
theorem labelOk_step {b : List UInt8} {i : Nat} (hi : i < b.length) (h : (b.take i).all okLetter = true) (h2 : okLetter b[i] = true) : (b.take (i + 1)).all okLetter = true := by
  rw [← List.take_append_getElem hi, List.all_append, h]
  simp [h2]
def nameOk (a : List (List UInt8)) : Bool := decide (a.length ≤ 6) && a.all labelOk
theorem all_no {α : Type} {f : α → Bool} {l : List α} {i : Nat} (hi : i < l.length) (h : f l[i] = false) : l.all f = false := by
  cases e : l.all f with
  | false => rfl
  | true => rw [List.all_eq_true.1 e _ (List.getElem_mem hi)] at h; cases h
theorem all_step {α : Type} {f : α → Bool} {l : List α} {i : Nat} (hi : i < l.length) (h : (l.take i).all f = true) (h2 : f l[i] = true) : (l.take (i + 1)).all f = true := by
  rw [← List.take_append_getElem hi, List.all_append, h]
  simp [h2]
def dec8 : DV → UInt8
  | .sc (.int _ n) => UInt8.ofNat n.toNat
  | _ => 0
theorem dec8_enc (b : UInt8) : dec8 (.sc (.int .u8 b.toNat)) = b := by simp [dec8]
def decB (x : DV) : List UInt8 := x.rows.map fun r => dec8 (r.getD 0 (.sl 0 []))
theorem decB_enc (b : List UInt8) : decB (encB b) = b := by
  unfold decB encB DV.rows
  rw [List.map_map]
  refine Eq.trans (List.map_congr_left fun x _ => ?_) (List.map_id b)
  exact dec8_enc x
def is8 (x : DV) : Prop := ∃ b : UInt8, x = .sc (.int .u8 b.toNat)
theorem all_dec8 (f : UInt8 → Bool) (l : List UInt8) : (l.map fun b : UInt8 => DV.sc (.int .u8 b.toNat)).all (fun x => f (dec8 x)) = l.all f := by
  rw [List.all_map]
  congr 1
  funext b
  simp [dec8_enc]
theorem all_decB (f : List UInt8 → Bool) (l : List (List UInt8)) : (l.map encB).all (fun x => f (decB x)) = l.all f := by
  rw [List.all_map]
  congr 1
  funext b
  simp [decB_enc]
theorem mem_flat_le {α : Type} {l : List (List α)} {b : List α} (h : b ∈ l) : b.length ≤ l.flatten.length := by
  induction l with
  | nil => cases h
  | cons c l ih =>
    simp only [List.flatten_cons, List.length_append]
    rcases List.mem_cons.1 h with rfl | h
    · omega
    · have := ih h; omega
theorem drop_flat_le {α : Type} (l : List (List α)) (n : Nat) : (l.drop n).flatten.length ≤ l.flatten.length := by
  have := congrArg (fun l => (List.flatten l).length) (List.take_append_drop n l)
  simp only [List.flatten_append, List.length_append] at this
  omega
structure SmallBB (a : List (List UInt8)) : Prop where
  len : a.length ≤ 4194304
  mem : ∀ b ∈ a, b.length ≤ 4194304
  flat : a.flatten.length ≤ 4194304
theorem SmallBB.of {a : List (List UInt8)} (h : a.length + a.flatten.length ≤ 1048576) : SmallBB a :=
  ⟨by omega, fun b hb => by have := mem_flat_le hb; omega, by omega⟩
theorem SmallBB.drop {a : List (List UInt8)} (h : SmallBB a) (n : Nat) : SmallBB (a.drop n) :=
  ⟨by have := h.len; simp; omega, fun b hb => h.mem b (List.mem_of_mem_drop hb), Nat.le_trans (drop_flat_le a n) h.flat⟩
theorem SmallBB.cons {a : List (List UInt8)} {l : List UInt8} (h1 : a.length + 1 ≤ 4194304) (h2 : l.length ≤ 4194304) (h3 : l.length + a.flatten.length ≤ 4194304) (h : SmallBB a) : SmallBB (l :: a) :=
  ⟨by simpa using h1, fun b hb => (List.mem_cons.1 hb).elim (fun e => e ▸ h2) (h.mem b), by simpa using h3⟩
theorem SmallBB.nil : SmallBB [] := ⟨by simp, by simp, by simp⟩
end Hearth

/- The abstract machine: rules for lists that are told by their elements. -/
namespace Hearth
open Go
def notMe (id : Nat) : AC → Bool
  | .arr j _ => !(j == id)
  | _ => true
section
variable {P : Program} {k : List It} {Q : Ex → St → Prop} {s : St} {r : T} {d : Option Nat} {q : Bool} {oi : Nat} {tags : List Nat}
theorem kCallD {e f : Nat} {args : List X} {gas : List GA} {ra : List RA} {v : AV} (hok : FnOK P f gas (fun ra' _ => ra' = ra)) (hm : matchGs P s (args.map s.ev) gas) (hb : callB s e (args.map s.ev) gas true = true)
    (hc : (ra.all RA.isD && (bindGs 0 (args.map s.ev) gas).isEmpty) = true) (hc2 : ra.all RA.clean = true) (hl : decide (ra.length ≤ 64) = true) (hv : resV s e ra = v)
    (h : kont P (.t r tags :: k) Q .normal (s.put d v)) : kont P (.t (.op oi [] d none q (.call e f args) r) tags :: k) Q .normal s :=
  kCall1 true hok hm hb (by simpa using hc2) hl (fun os => by rw [St.after, if_pos hc, hv]; exact h)
theorem kCallD2 {e f : Nat} {args : List X} {gas : List GA} {ra : List RA} {v : AV} (hok : FnOK P f gas (fun ra' _ => ra' = ra)) (hm : matchGs P s (args.map s.ev) gas) (hb : callB s e (args.map s.ev) gas false = true)
    (hc : (ra.all RA.isD && (bindGs 0 (args.map s.ev) gas).isEmpty) = true) (hl : decide (ra.length ≤ 64) = true) (hv : resV s e ra = v)
    (h : kont P (.t r tags :: k) Q .normal (s.put d v)) : kont P (.t (.op oi [] d none q (.call e f args) r) tags :: k) Q .normal s :=
  kCall1 false hok hm hb rfl hl (fun os => by rw [St.after, if_pos hc, hv]; exact h)
theorem nmB {x : Nat} {l : List Nat} (h : (!l.contains x) = true) : x ∉ l := by simpa using h
theorem kMovT {x : X} {l : List AV} (hx : s.ev x = .t l) (h : kont P (.t r tags :: k) Q .normal (s.put d (.t l))) : kont P (.t (.op oi [] d none q (.mov x) r) tags :: k) Q .normal s :=
  kOp (fun _ => trivial) (by simp only [stepO, hx]; exact h)
theorem kCondP {c : X} {x y : C} {p : Prop} [dp : Decidable p] (hc : s.ev c = .c (.d (.sc (.bool (decide p))))) (h1 : p → kont P (.c x :: k) Q .normal s) (h2 : ¬ p → kont P (.c y :: k) Q .normal s) : kont P (.c (.cond c x y) :: k) Q .normal s :=
  kCond hc (fun h => h1 (of_decide_eq_true h)) (fun h => h2 (of_decide_eq_false h))
theorem kCondN {c : X} {x y : C} {b : Bool} (hc : s.ev c = .c (.d (.sc (.bool (!b))))) (h1 : b = false → kont P (.c x :: k) Q .normal s) (h2 : b = true → kont P (.c y :: k) Q .normal s) : kont P (.c (.cond c x y) :: k) Q .normal s :=
  kCond hc (fun h => h1 (by simpa using h)) (fun h => h2 (by simpa using h))
theorem kGS {g : Nat} {want b : Bool} {o : O} (hg : s.sl g = .c (.d (.sc (.bool b)))) (ht : b = true → kont P (.t (.op oi [] d (some (g, want)) q o r) tags :: k) Q .normal (s.put (some g) (.b true)))
    (hf : b = false → kont P (.t (.op oi [] d (some (g, want)) q o r) tags :: k) Q .normal (s.put (some g) (.b false))) : kont P (.t (.op oi [] d (some (g, want)) q o r) tags :: k) Q .normal s := by
  cases b with
  | true => have := ht rfl; rwa [put_id hg] at this
  | false => have := hf rfl; rwa [put_id hg] at this
theorem kGP {g : Nat} {want : Bool} {o : O} {p : Prop} [dp : Decidable p] (hg : s.sl g = .c (.d (.sc (.bool (decide p))))) (ht : p → kont P (.t (.op oi [] d (some (g, want)) q o r) tags :: k) Q .normal (s.put (some g) (.b true)))
    (hf : ¬ p → kont P (.t (.op oi [] d (some (g, want)) q o r) tags :: k) Q .normal (s.put (some g) (.b false))) : kont P (.t (.op oi [] d (some (g, want)) q o r) tags :: k) Q .normal s :=
  kGS hg (fun h => ht (of_decide_eq_true h)) (fun h => hf (of_decide_eq_false h))
theorem kGN {g : Nat} {want b : Bool} {o : O} (hg : s.sl g = .c (.d (.sc (.bool (!b))))) (ht : b = false → kont P (.t (.op oi [] d (some (g, want)) q o r) tags :: k) Q .normal (s.put (some g) (.b true)))
    (hf : b = true → kont P (.t (.op oi [] d (some (g, want)) q o r) tags :: k) Q .normal (s.put (some g) (.b false))) : kont P (.t (.op oi [] d (some (g, want)) q o r) tags :: k) Q .normal s :=
  kGS hg (fun h => ht (by simpa using h)) (fun h => hf (by simpa using h))
section
variable {α : Type} {f : α → List DV} {l l' : List α} {sz : Nat}
theorem row_map (sz : Nat) (f : α → List DV) (l : List α) (m : Nat) (h : m < l.length) : (DV.sl sz (l.map f)).row m = f l[m] := by
  unfold DV.row DV.rows
  rw [List.getD_eq_getElem?_getD, List.getElem?_map, List.getElem?_eq_getElem h]
  rfl
theorem len_map (sz : Nat) (f : α → List DV) (l : List α) : (DV.sl sz (l.map f)).len = l.length := by simp [DV.len]
theorem lt_of {n : Int} {m k : Nat} (hn : n = Int.ofNat m) (h : n < (k : Int)) : m < k := by subst hn; exact Int.ofNat_lt.1 h
theorem le_of {n : Int} {m k : Nat} (hn : n = Int.ofNat m) (h : n ≤ (k : Int)) : m ≤ k := by subst hn; exact Int.ofNat_le.1 h
theorem kLenR {x : X} {c : AC} (hx : s.ev x = .c c) (hy : s.rd c = some (.sl sz (l.map f))) (h : kont P (.t r tags :: k) Q .normal (s.put d (.i l.length))) : kont P (.t (.op oi [] d none q (.len x) r) tags :: k) Q .normal s :=
  kLen hx hy rfl (by rw [len_map]; exact h)
theorem kIadR {x i : X} {j : IntKind} {n : Int} {m : Nat} (hx : s.ev x = .c (.d (.sl sz (l.map f)))) (hi : s.ev i = .vv (.int j n)) (hn : n = Int.ofNat m) (hm : n < (l.length : Int)) (h : kont P (.t r tags :: k) Q .normal (s.put d (.c (.dpt (f (l[m]'(lt_of hn hm))))))) :
    kont P (.t (.op oi [] d none q (.iad sz x i) r) tags :: k) Q .normal s :=
  kIadD hx (hn ▸ hi) rfl rfl ⟨Int.natCast_nonneg m, by rw [len_map]; exact lt_of hn hm⟩ (by rw [show ((m : Nat) : Int).toNat = m from rfl, row_map _ _ _ _ (lt_of hn hm)]; exact h)
theorem kIadAR {x i : X} {j : IntKind} {n : Int} {m : Nat} {id ver ev : Nat} {dp : Bool} (hx : s.ev x = .c (.arr id ver)) (ho : s.ob id = ⟨ver, ev, .arr dp (.sl sz (l.map f))⟩) (hi : s.ev i = .vv (.int j n)) (hn : n = Int.ofNat m) (hm : n < (l.length : Int)) (h : kont P (.t r tags :: k) Q .normal (s.put d (.c (.ept id ver m 0)))) :
    kont P (.t (.op oi [] d none q (.iad sz x i) r) tags :: k) Q .normal s :=
  kIadA hx (hn ▸ hi) ho rfl ⟨Int.natCast_nonneg m, by rw [len_map]; exact lt_of hn hm⟩ h
theorem kLoadER {n : Option Nat} {x : X} {id ver ev i off : Nat} {dp : Bool} {v : AV} (hx : s.ev x = .c (.ept id ver i off)) (ho : s.ob id = ⟨ver, ev, .arr dp (.sl sz (l.map f))⟩) (hi : i < l.length) (hv : pickCells n (AC.ofCells id ver ev i off ((f l[i]).drop off)) = some v)
    (h : kont P (.t r (if q then oi :: tags else tags) :: k) Q .normal ((s.heldIf q [id]).put d v)) : kont P (.t (.op oi [] d none q (.load n x) r) tags :: k) Q .normal s :=
  kLoadE hx ho (by rw [row_map _ _ _ _ hi]; exact hv) h
theorem cut_map (sz : Nat) (f : α → List DV) (l : List α) (a b : Nat) : (DV.sl sz (l.map f)).cut a b = .sl sz (((l.drop a).take (b - a)).map f) := by
  simp [DV.cut, DV.esz, DV.rows, List.map_drop, List.map_take]
theorem take_all {β : Type} (l : List β) (a : Nat) : (l.drop a).take (l.length - a) = l.drop a := by
  rw [List.take_of_length_le (by simp)]
theorem kCutL {x lo : X} {j : IntKind} {n : Int} {a : Nat} (hx : s.ev x = .c (.d (.sl sz (l.map f)))) (hlo : s.ev lo = .vv (.int j n)) (hn : n = Int.ofNat a) (ha : n ≤ (l.length : Int)) (h : kont P (.t r tags :: k) Q .normal (s.put d (.dv (.sl sz ((l.drop a).map f))))) :
    kont P (.t (.op oi [] d none q (.cut sz x (some lo) none) r) tags :: k) Q .normal s :=
  kCutD (a := a) (b := l.length) hx rfl rfl (.inr ⟨j, congrArg some (by subst hn; exact hlo)⟩) (.inl ⟨rfl, (len_map _ _ _).symm⟩) ⟨le_of hn ha, by rw [len_map]; exact Nat.le_refl _⟩ (by rw [cut_map, take_all]; exact h)
theorem kCutB {x lo hi : X} {j j' : IntKind} {n n' : Int} {a b : Nat} (hx : s.ev x = .c (.d (.sl sz (l.map f)))) (hlo : s.ev lo = .vv (.int j n)) (hhi : s.ev hi = .vv (.int j' n')) (hn : n = Int.ofNat a) (hn' : n' = Int.ofNat b) (hb : n ≤ n' ∧ n' ≤ (l.length : Int)) (h : kont P (.t r tags :: k) Q .normal (s.put d (.dv (.sl sz (((l.drop a).take (b - a)).map f))))) :
    kont P (.t (.op oi [] d none q (.cut sz x (some lo) (some hi)) r) tags :: k) Q .normal s :=
  kCutD (a := a) (b := b) hx rfl rfl (.inr ⟨j, congrArg some (by subst hn; exact hlo)⟩) (.inr ⟨j', congrArg some (by subst hn'; exact hhi)⟩) ⟨by subst hn; subst hn'; exact Int.ofNat_le.1 hb.1, by rw [len_map]; exact le_of hn' hb.2⟩ (by rw [cut_map]; exact h)
section
variable {e bytes : Nat} {x y : X} {cx cy : AC} {dp dp' : Bool} {ids : List Nat} {id v ve : Nat} {vk : OK}
theorem kAppR (hx : s.ev x = .c cx) (hy : s.ev y = .c cy) (hb : s.base cx = some (dp, .sl sz (l.map f))) (hs : s.src cy = some (dp', .sl sz (l'.map f), ids)) (hid : cx.ownId e = id) (hob : s.ob id = ⟨v, ve, vk⟩)
    (h0 : Nat.ble 1 sz = true) (hh : (!s.hold.contains id && ids.all (fun j => !s.hold.contains j) && !ids.contains id && notMe id cy) = true)
    (hlen : (l.length + l'.length) * bytes ≤ 140737488355328 ∧ l.length + l'.length ≤ 9223372036854775807)
    (h : kont P (.t r tags :: k) Q .normal (((s.kill ids).setOb id ⟨v + 1, 0, .arr (dp && dp') (.sl sz ((l ++ l').map f))⟩).put d (.c (.arr id (v + 1))))) : kont P (.t (.op oi [] d none q (.app e sz bytes x y) r) tags :: k) Q .normal s :=
  kApp hx hy hb hs hid hob ⟨rfl, rfl, Nat.le_of_ble_eq_true h0⟩ (by cases cy <;> exact hh) (by rw [len_map, len_map]; exact hlen) (by
    rw [show (DV.sl sz (l.map f)).app (.sl sz (l'.map f)) = .sl sz ((l ++ l').map f) by simp [DV.app, DV.rows, DV.esz]]; exact h)
theorem kAppR1 {z : α} (hx : s.ev x = .c cx) (hy : s.ev y = .c cy) (hb : s.base cx = some (dp, .sl sz (l.map f))) (hs : s.src cy = some (dp', .sl sz [f z], ids)) (hid : cx.ownId e = id) (hob : s.ob id = ⟨v, ve, vk⟩)
    (h0 : Nat.ble 1 sz = true) (hh : (!s.hold.contains id && ids.all (fun j => !s.hold.contains j) && !ids.contains id && notMe id cy) = true)
    (hlen : (l.length + 1) * bytes ≤ 140737488355328 ∧ l.length + 1 ≤ 9223372036854775807)
    (h : kont P (.t r tags :: k) Q .normal (((s.kill ids).setOb id ⟨v + 1, 0, .arr (dp && dp') (.sl sz ((l ++ [z]).map f))⟩).put d (.c (.arr id (v + 1))))) : kont P (.t (.op oi [] d none q (.app e sz bytes x y) r) tags :: k) Q .normal s :=
  kAppR (l' := [z]) hx hy hb hs hid hob h0 hh hlen h
theorem kApp1R {z : α} (hx : s.ev x = .c cx) (hy : s.ev y = .c cy) (hs : s.src cy = some (dp', .sl sz (l'.map f), ids)) (hb : s.base cx = some (dp, .sl sz [f z])) (hid : cx.ownId e = id) (hob : s.ob id = ⟨v, ve, vk⟩)
    (h0 : Nat.ble 1 sz = true) (hh : (!s.hold.contains id && ids.all (fun j => !s.hold.contains j) && !ids.contains id && notMe id cy) = true)
    (hlen : (1 + l'.length) * bytes ≤ 140737488355328 ∧ 1 + l'.length ≤ 9223372036854775807)
    (h : kont P (.t r tags :: k) Q .normal (((s.kill ids).setOb id ⟨v + 1, 0, .arr (dp && dp') (.sl sz ((z :: l').map f))⟩).put d (.c (.arr id (v + 1))))) : kont P (.t (.op oi [] d none q (.app e sz bytes x y) r) tags :: k) Q .normal s :=
  kAppR (l := [z]) hx hy hb hs hid hob h0 hh hlen h
theorem kAppN (hx : s.ev x = .c cx) (hy : s.ev y = .c cy) (hb : s.base cx = some (dp, .sl sz [])) (hs : s.src cy = some (dp', .sl sz (l.map f), ids)) (hid : cx.ownId e = id) (hob : s.ob id = ⟨v, ve, vk⟩)
    (h0 : Nat.ble 1 sz = true) (hh : (!s.hold.contains id && ids.all (fun j => !s.hold.contains j) && !ids.contains id && notMe id cy) = true)
    (hlen : l.length * bytes ≤ 140737488355328 ∧ l.length ≤ 9223372036854775807)
    (h : kont P (.t r tags :: k) Q .normal (((s.kill ids).setOb id ⟨v + 1, 0, .arr (dp && dp') (.sl sz (l.map f))⟩).put d (.c (.arr id (v + 1))))) : kont P (.t (.op oi [] d none q (.app e sz bytes x y) r) tags :: k) Q .normal s :=
  kAppR (l := []) hx hy hb hs hid hob h0 hh (by simpa using hlen) h
end
end
end
end Hearth

/- The abstract machine: calls that write several rows. -/
namespace Hearth
open Go
def OK.isArr : OK → Bool
  | .arr _ _ => true
  | _ => false
section
variable {P : Program} {k : List It} {Q : Ex → St → Prop} {s : St} {r : T} {d : Option Nat} {q : Bool} {oi : Nat} {tags : List Nat}
section
variable {α : Type} {f : α → List DV} {l : List α} {sz : Nat}
theorem kIadT {x i : X} {j : IntKind} {n : Int} (hx : s.ev x = .c (.d (.sl sz (l.map f)))) (hi : s.ev i = .vv (.int j n)) (hm : 0 ≤ n ∧ n < (l.length : Int)) (h : kont P (.t r tags :: k) Q .normal (s.put d (.c (.dpt (f (l[n.toNat]'(by omega))))))) :
    kont P (.t (.op oi [] d none q (.iad sz x i) r) tags :: k) Q .normal s :=
  kIadR (m := n.toNat) hx hi (Int.toNat_of_nonneg hm.1).symm hm.2 h
theorem kCutLT {x lo : X} {j : IntKind} {n : Int} (hx : s.ev x = .c (.d (.sl sz (l.map f)))) (hlo : s.ev lo = .vv (.int j n)) (ha : 0 ≤ n ∧ n ≤ (l.length : Int)) (h : kont P (.t r tags :: k) Q .normal (s.put d (.dv (.sl sz ((l.drop n.toNat).map f))))) :
    kont P (.t (.op oi [] d none q (.cut sz x (some lo) none) r) tags :: k) Q .normal s :=
  kCutL (a := n.toNat) hx hlo (Int.toNat_of_nonneg ha.1).symm ha.2 h
end
section
variable {α : Type} {f : α → List DV} {l : List α} {sz : Nat}
theorem setRow_map {i off : Nat} {ds : List DV} {z : α} (hi : i < l.length) (hz : (f l[i]).take off ++ ds ++ (f l[i]).drop (off + ds.length) = f z) : setRow (.sl sz (l.map f)) i off ds = .sl sz ((l.set i z).map f) := by
  unfold setRow
  rw [row_map _ _ _ _ hi, hz]
  simp [DV.esz, DV.rows, List.map_set]
theorem kStoreER {n : Option Nat} {x v : X} {id ver ev i off : Nat} {dp dp2 : Bool} {u : AV} {ds : List DV} {ids : List Nat} {z : α} (hx : s.ev x = .c (.ept id ver i off)) (hv : s.ev v = u) (ho : s.ob id = ⟨ver, ev, .arr dp (.sl sz (l.map f))⟩) (hp : s.parts u.cells = some (ds, dp2, ids))
    (hh : (!s.hold.contains id && ids.all (fun j => !s.hold.contains j) && !ids.contains id && nodupB ids && decide (u.shape = n) && decide (0 < ds.length)) = true) (hver : (ids.isEmpty || Nat.ble 1 ver) = true) (hoff : Nat.ble (off + ds.length) sz = true)
    (hi : i < l.length) (hz : (f l[i]).take off ++ ds ++ (f l[i]).drop (off + ds.length) = f z)
    (h : kont P (.t r tags :: k) Q .normal (((s.kill ids).setOb id ⟨ver, ev + 1, .arr (dp && dp2) (.sl sz ((l.set i z).map f))⟩).put d (.c .any))) : kont P (.t (.op oi [] d none q (.store n x v) r) tags :: k) Q .normal s :=
  kStoreE hx hv ho hp hh (by
    simp only [Bool.or_eq_true, List.isEmpty_iff] at hver
    exact hver.imp (fun h => h) Nat.le_of_ble_eq_true) (Nat.le_of_ble_eq_true hoff) (by rw [setRow_map hi hz]; exact h)
end
theorem take_set_rep {α : Type} (a : List α) (c : α) (i : Nat) (h : i < a.length) : (a.take i ++ (List.replicate a.length c).drop i).set i a[i] = a.take (i + 1) ++ (List.replicate a.length c).drop (i + 1) := by
  rw [take_set_succ _ _ _ _ (by simpa using h) (by simp; omega), List.take_append_getElem]
theorem kCondIN {c : X} {x y : C} {a b : Int} (hc : s.ev c = .c (.d (.sc (.bool (a != b))))) (h1 : a ≠ b → kont P (.c x :: k) Q .normal s) (h2 : a = b → kont P (.c y :: k) Q .normal s) : kont P (.c (.cond c x y) :: k) Q .normal s :=
  kCond hc (fun h => h1 (by simpa using h)) (fun h => h2 (by simpa using h))
theorem kGIN {g : Nat} {want : Bool} {o : O} {a b : Int} (hg : s.sl g = .c (.d (.sc (.bool (a != b))))) (ht : a ≠ b → kont P (.t (.op oi [] d (some (g, want)) q o r) tags :: k) Q .normal (s.put (some g) (.b true)))
    (hf : a = b → kont P (.t (.op oi [] d (some (g, want)) q o r) tags :: k) Q .normal (s.put (some g) (.b false))) : kont P (.t (.op oi [] d (some (g, want)) q o r) tags :: k) Q .normal s :=
  kGS hg (fun h => ht (by simpa using h)) (fun h => hf (by simpa using h))
theorem kCut {x y : C} {s0 : St} (t : St) (h : kont P (.c x :: k) Q .normal t) (h2 : ∀ x' : C, (∀ s, Sub s t → kont P (.c x' :: k) Q .normal s) → kont P (.c y :: .c x' :: k) Q .normal s0) : kont P (.c y :: .c x :: k) Q .normal s0 :=
  h2 x (fun _ hs => kSub hs h)
end
end Hearth

/- The abstract machine: what a state tells, noted down. -/
namespace Hearth
open Go
def memoOb : List (Nat × Ob) → (Nat → Ob) → Nat → Ob
  | [], f, j => f j
  | (i, o) :: l, f, j => cond (Nat.beq j i) o (memoOb l f j)
def memoSl : List (Nat × AV) → (Nat → AV) → Nat → AV
  | [], f, j => f j
  | (i, o) :: l, f, j => cond (Nat.beq j i) o (memoSl l f j)
def agOb : List (Nat × Ob) → (Nat → Ob) → Prop
  | [], _ => True
  | (i, o) :: l, f => f i = o ∧ agOb l f
def agSl : List (Nat × AV) → (Nat → AV) → Prop
  | [], _ => True
  | (i, o) :: l, f => f i = o ∧ agSl l f
theorem memoOb_eq : ∀ {l : List (Nat × Ob)} {f : Nat → Ob}, agOb l f → memoOb l f = f
  | [], _, _ => rfl
  | (i, o) :: l, f, h => by
    funext j
    simp only [memoOb, memoOb_eq h.2]
    cases e : Nat.beq j i with
    | false => rfl
    | true => rw [Nat.eq_of_beq_eq_true e]; exact h.1.symm
theorem memoSl_eq : ∀ {l : List (Nat × AV)} {f : Nat → AV}, agSl l f → memoSl l f = f
  | [], _, _ => rfl
  | (i, o) :: l, f, h => by
    funext j
    simp only [memoSl, memoSl_eq h.2]
    cases e : Nat.beq j i with
    | false => rfl
    | true => rw [Nat.eq_of_beq_eq_true e]; exact h.1.symm
section
variable {P : Program} {ks : List It} {Q : Ex → St → Prop} {s : St} {e : Ex}
theorem kMem (lo : List (Nat × Ob)) (l : List (Nat × AV)) (hl : List Nat) (h1 : agOb lo s.ob) (h2 : agSl l s.sl) (h3 : s.hold = hl) (h : kont P ks Q e ⟨memoSl l s.sl, memoOb lo s.ob, hl⟩) : kont P ks Q e s := by
  rw [memoSl_eq h2, memoOb_eq h1] at h
  subst h3
  exact h
end
def St.fillG (s : St) : List (Nat × Nat × X) → Nat → List AC → Option (List AC)
  | [], _, rest => some rest
  | (off, n, x) :: r, pos, rest =>
    cond (Nat.ble pos off && Nat.ble (off - pos + n) rest.length && Nat.beq (s.ev x).cells.length n && Nat.ble 1 n && (s.ev x).cells.all s.live)
      (match s.fillG r (off + n) (rest.drop (off - pos + n)) with
       | some cs => some (rest.take (off - pos) ++ ((s.ev x).cells ++ cs))
       | none => none) none
theorem fillG_fill {s : St} : ∀ {ps : List (Nat × Nat × X)} {pos : Nat} {pre rest out : List AC}, pre.length = pos → s.fillG ps pos rest = some out → s.fill (pre ++ rest) ps = some (pre ++ out)
  | [], pos, pre, rest, out, hp, h => by simp only [St.fillG, Option.some.injEq] at h; subst h; rfl
  | (off, n, x) :: r, pos, pre, rest, out, hp, h => by
    simp only [St.fillG] at h
    cases hc : (Nat.ble pos off && Nat.ble (off - pos + n) rest.length && Nat.beq (s.ev x).cells.length n && Nat.ble 1 n && (s.ev x).cells.all s.live) with
    | false => rw [hc] at h; cases h
    | true =>
      rw [hc, cond_true] at h
      simp only [Bool.and_eq_true, Nat.ble_eq, Nat.beq_eq] at hc
      obtain ⟨⟨⟨⟨h1, h2⟩, h3⟩, h4⟩, h5⟩ := hc
      split at h
      · rename_i cs hcs
        simp only [Option.some.injEq] at h
        subst h
        subst hp
        have hpatch : patch (pre ++ rest) off (s.ev x).cells = (pre ++ rest.take (off - pre.length) ++ (s.ev x).cells) ++ rest.drop (off - pre.length + n) := by
          unfold patch
          rw [h3, List.take_append, List.drop_append, List.take_of_length_le (by omega), List.drop_eq_nil_of_le (as := pre) (by omega), List.nil_append, show off + n - pre.length = off - pre.length + n by omega]
        have hl : (pre ++ rest.take (off - pre.length) ++ (s.ev x).cells).length = off + n := by
          simp only [List.length_append, List.length_take, h3]; omega
        have ih := fillG_fill (s := s) (pre := pre ++ rest.take (off - pre.length) ++ (s.ev x).cells) hl hcs
        unfold St.fill
        rw [if_pos ⟨by simp only [List.length_append]; omega, h3, h4, h5⟩, hpatch, ih]
        simp only [List.append_assoc]
      · cases h
section
variable {P : Program} {k : List It} {Q : Ex → St → Prop} {s : St} {d : Option Nat} {q : Bool} {r : T} {oi : Nat} {tags : List Nat}
theorem kBuildG {zs : List X} {ps : List (Nat × Nat × X)} {cs : List AC} (hf : s.fillG ps 0 (zs.map X.ac) = some cs) (h : kont P (.t r tags :: k) Q .normal (s.put d (.g cs))) : kont P (.t (.op oi [] d none q (.build zs ps) r) tags :: k) Q .normal s :=
  kBuild (fillG_fill (pre := []) rfl hf) h
end
theorem Sub.normA {s : St} {l : List (Nat × AV)} {lo : List (Nat × Ob)} (hc : chkV s (obTab 1 lo) l := by (repeat' first | exact trivial | refine And.intro ?_ ?_ | refine Exists.intro _ (And.intro rfl ?_) | exact rfl | exact .inl rfl | exact .inr ⟨_, rfl, rfl⟩ | exact ⟨_, rfl⟩ | exact .inl (congrArg (fun z : Int => AC.d (.sc (.int .i64 z))) (by first | omega | (simp only; omega) | (simp; done) | (simp; omega))) | exact .inl (congrArg (fun z : Bool => AC.d (.sc (.bool z))) (by (simp_all); first | done | fail)) | (rw [← List.take_append_getElem (by assumption)]; rfl) | (rw [← take_set_rep _ _ _ (by assumption)]; rfl)); first | done | fail)
    (ho : chkW s (obTab 1 lo) lo := by (repeat' first | exact trivial | refine And.intro ?_ ?_ | refine Exists.intro _ (And.intro rfl ?_) | exact rfl | exact .inl rfl | exact .inr ⟨_, rfl, rfl⟩ | exact ⟨_, rfl⟩ | exact .inl (congrArg (fun z : Int => AC.d (.sc (.int .i64 z))) (by first | omega | (simp only; omega) | (simp; done) | (simp; omega))) | exact .inl (congrArg (fun z : Bool => AC.d (.sc (.bool z))) (by (simp_all); first | done | fail)) | (rw [← List.take_append_getElem (by assumption)]; rfl) | (rw [← take_set_rep _ _ _ (by assumption)]; rfl)); first | done | fail) : Sub s ⟨tabSl l, obTab 1 lo, []⟩ := Sub.norm hc ho
theorem endRetA {gas : List GA} {slots : List RSl} {R : List RA → Outs → Prop} {s : St} {ra : List RA} {avs : List AV} (h : s.resAts slots = some avs) (hR : R ra s.outs)
    (he : EndOK gas avs ra s := by (repeat' first | exact trivial | exact rfl | exact .inl rfl | exact nodupB_sound rfl | exact .inl (Nat.zero_lt_succ _) | exact .inr ⟨Nat.zero_lt_succ _, nmB rfl⟩ | exact fun _ => rfl | exact fun h => h | exact Nat.le_of_ble_eq_true rfl | exact ⟨_, rfl, fun _ => rfl⟩ | refine Exists.intro _ (And.intro rfl ?_) | refine ⟨?_, ?_⟩ | fail); first | done | fail) : EndQ gas slots R .ret s := endRet h he hR
section
variable {α : Type} {P : Program} {k : List It} {Q : Ex → St → Prop} {s : St} {d : Option Nat} {q : Bool} {r : T} {oi : Nat} {tags : List Nat} {f : α → List DV} {l : List α} {sz : Nat}
theorem kIadRW {x i : X} {j : IntKind} {n : Int} {m : Nat} {z : α} (hx : s.ev x = .c (.d (.sl sz (l.map f)))) (hi : s.ev i = .vv (.int j n)) (hn : n = Int.ofNat m) (hm : m < l.length) (hw : l[m]'hm = z) (h : kont P (.t r tags :: k) Q .normal (s.put d (.c (.dpt (f z))))) :
    kont P (.t (.op oi [] d none q (.iad sz x i) r) tags :: k) Q .normal s := by
  subst hw
  exact kIadR hx hi hn (by rw [hn]; exact Int.ofNat_lt.2 hm) h
end
def sr (n : Int) (m : Nat) : Int := n.fdiv (2 ^ m)
theorem sr_sr (n : Int) (i j : Nat) : sr (sr n i) j = sr n (i + j) := by
  unfold sr
  have h1 : (0 : Int) ≤ 2 ^ i := Int.pow_nonneg (by decide)
  have h2 : (0 : Int) ≤ 2 ^ j := Int.pow_nonneg (by decide)
  have h3 : (0 : Int) ≤ 2 ^ (i + j) := Int.pow_nonneg (by decide)
  rw [Int.fdiv_eq_ediv_of_nonneg _ h1, Int.fdiv_eq_ediv_of_nonneg _ h2, Int.fdiv_eq_ediv_of_nonneg _ h3, Int.ediv_ediv_of_nonneg h1, Int.pow_add]
section
variable {P : Program} {k : List It} {Q : Ex → St → Prop} {s : St} {d : Option Nat} {q : Bool} {r : T} {oi : Nat} {tags : List Nat}
theorem kShr {x y : X} {a : Int} {j : IntKind} {m : Nat} (hx : s.ev x = .i a) (hy : s.ev y = .vv (.int j m)) (hm : Nat.ble m 63 = true) (h : kont P (.t r tags :: k) Q .normal (s.put d (.i (sr a m)))) :
    kont P (.t (.op oi [] d none q (.bin .shr x y) r) tags :: k) Q .normal s :=
  kBin hx hy (by
    have : m ≤ 63 := Nat.le_of_ble_eq_true hm
    have h0 : ¬ ((m : Int) < 0) := by omega
    simp only [evBin, if_neg h0, Int.toNat_natCast]
    rw [show min m IntKind.i64.bits = m from Nat.min_eq_left (by show m ≤ 64; omega)]
    rfl) h
theorem kConvU8 {j : IntKind} {x : X} {n : Int} (hx : s.ev x = .vv (.int j n)) (h : kont P (.t r tags :: k) Q .normal (s.put d (.vv (.int .u8 ((u8 n).toNat : Int))))) : kont P (.t (.op oi [] d none q (.conv .u8 x) r) tags :: k) Q .normal s :=
  kConv hx (by rw [← u8_toNat]; exact h)
end
section
variable {α : Type} {P : Program} {k : List It} {Q : Ex → St → Prop} {s : St} {d : Option Nat} {q : Bool} {r : T} {oi : Nat} {tags : List Nat} {f : α → List DV} {l : List α} {sz : Nat}
variable {e bytes : Nat} {x y : X} {cx cy : AC} {dp dp' : Bool} {ids : List Nat} {id v ve : Nat} {vk : OK}
theorem kAppR4 {z1 z2 z3 z4 : α} (hx : s.ev x = .c cx) (hy : s.ev y = .c cy) (hb : s.base cx = some (dp, .sl sz (l.map f))) (hs : s.src cy = some (dp', .sl sz [f z1, f z2, f z3, f z4], ids)) (hid : cx.ownId e = id) (hob : s.ob id = ⟨v, ve, vk⟩)
    (h0 : Nat.ble 1 sz = true) (hh : (!s.hold.contains id && ids.all (fun j => !s.hold.contains j) && !ids.contains id && notMe id cy) = true)
    (hlen : (l.length + 4) * bytes ≤ 140737488355328 ∧ l.length + 4 ≤ 9223372036854775807)
    (h : kont P (.t r tags :: k) Q .normal (((s.kill ids).setOb id ⟨v + 1, 0, .arr (dp && dp') (.sl sz ((l ++ [z1, z2, z3, z4]).map f))⟩).put d (.c (.arr id (v + 1))))) : kont P (.t (.op oi [] d none q (.app e sz bytes x y) r) tags :: k) Q .normal s :=
  kAppR (l' := [z1, z2, z3, z4]) hx hy hb hs hid hob h0 hh hlen h
end
section
variable {P : Program} {k : List It} {Q : Ex → St → Prop} {s : St} {d : Option Nat} {q : Bool} {r : T} {oi : Nat} {tags : List Nat}
theorem kMmMin {x y : X} {m n : Int} (hx : s.ev x = .i m) (hy : s.ev y = .i n) (h : kont P (.t r tags :: k) Q .normal (s.put d (.i (min m n)))) : kont P (.t (.op oi [] d none q (.mm false x y) r) tags :: k) Q .normal s :=
  kMm hx hy (by
    rw [show (if false = true then (if n > m then n else m) else (if n < m then n else m)) = min m n by
      rw [if_neg (by decide)]; split <;> omega]
    exact h)
end
section
variable {P : Program} {k : List It} {Q : Ex → St → Prop} {s : St} {d : Option Nat} {q : Bool} {r : T} {oi : Nat} {tags : List Nat}
end
section
variable {P : Program} {k : List It} {Q : Ex → St → Prop} {s : St} {d : Option Nat} {q : Bool} {r : T} {oi : Nat} {tags : List Nat}
end
section
variable {P : Program} {k : List It} {Q : Ex → St → Prop} {s : St} {d : Option Nat} {q : Bool} {r : T} {oi : Nat} {tags : List Nat}
end
end Hearth

/- The abstract machine: draws (calls that tell something of a kind, and move a cursor), strings. -/
namespace Hearth
open Go
section
variable {P : Program} {k : List It} {Q : Ex → St → Prop} {s : St} {r : T} {d : Option Nat} {q : Bool} {oi : Nat} {tags : List Nat}
theorem after_congr_box {e : Nat} {ra : List RA} {p id : Nat} {os os' : Outs} {v ev : Nat} {cs : List AC} (ho : s.ob id = ⟨v, ev, .box cs⟩) (h : os.b p = os'.b p) : s.after e ra [(p, id, false)] os = s.after e ra [(p, id, false)] os' := by
  unfold St.after
  split
  · rfl
  · refine congrArg (fun o => (⟨s.sl, o, s.hold⟩ : St)) (funext fun id' => ?_)
    split
    · rfl
    · by_cases e : id = id'
      · subst e
        simp only [List.find?_cons, beq_self_eq_true, ho, h]
      · have : (id == id') = false := by simpa using e
        simp only [List.find?_cons, this, List.find?_nil]
theorem kCallE {α : Type} {C : α → Prop} {f : α → List RA} {g : α → List DV} {e fn : Nat} {args : List X} {gas : List GA} {p id v ev : Nat} {cs : List AC}
    (hok : FnOK P fn gas (fun ra' os => ∃ x, C x ∧ ra' = f x ∧ os.b p = g x)) (hm : matchGs P s (args.map s.ev) gas) (hb : callB s e (args.map s.ev) gas false = true)
    (hbs : bindGs 0 (args.map s.ev) gas = [(p, id, false)]) (ho : s.ob id = ⟨v, ev, .box cs⟩) (hl : ∀ x, decide ((f x).length ≤ 64) = true)
    (h : ∀ x, C x → kont P (.t r tags :: k) Q .normal ((s.after e (f x) [(p, id, false)] ⟨fun _ => .sl 0 [], fun _ => g x⟩).put d (resV s e (f x)))) : kont P (.t (.op oi [] d none q (.call e fn args) r) tags :: k) Q .normal s :=
  kCall false hok hm hb nofun (fun ra' _ ⟨x, _, e1, _⟩ => by rw [e1]; simpa using hl x) (fun ra' os ⟨x, hC, e1, hy⟩ => by
    subst e1
    rw [hbs, after_congr_box (os' := ⟨fun _ => .sl 0 [], fun _ => g x⟩) ho hy]
    exact h x hC)
theorem kCallX {α : Type} {C : α → Prop} {f : α → List RA} {e fn : Nat} {args : List X} {gas : List GA} (clean : Bool)
    (hok : FnOK P fn gas (fun ra' _ => ∃ x, C x ∧ ra' = f x)) (hm : matchGs P s (args.map s.ev) gas) (hb : callB s e (args.map s.ev) gas clean = true) (hc : ∀ x, (!clean || (f x).all RA.clean) = true) (hl : ∀ x, decide ((f x).length ≤ 64) = true)
    (h : ∀ x os, C x → kont P (.t r tags :: k) Q .normal ((s.after e (f x) (bindGs 0 (args.map s.ev) gas) os).put d (resV s e (f x)))) : kont P (.t (.op oi [] d none q (.call e fn args) r) tags :: k) Q .normal s :=
  kCall clean hok hm hb (fun hcl ra' _ ⟨x, _, e1⟩ => by subst e1; have := hc x; rw [hcl] at this; simpa using this) (fun ra' _ ⟨x, _, e1⟩ => by rw [e1]; simpa using hl x) (fun ra' os ⟨x, hC, e1⟩ => by
    subst e1
    exact h x os hC)
theorem kS2s {x : X} {id ver ev sz : Nat} {dp : Bool} {y : List DV} {ys : List (List DV)} (hx : s.ev x = .c (.arr id ver)) (ho : s.ob id = ⟨ver, ev, .arr dp (.sl sz (y :: ys))⟩) (hh : (!s.hold.contains id) = true)
    (h : kont P (.t r tags :: k) Q .normal ((s.setOb id ⟨ver + 1, 0, .dead⟩).put d (.dv (.sl sz (y :: ys))))) : kont P (.t (.op oi [] d none false (.s2s x) r) tags :: k) Q .normal s :=
  kOp nofun (by
    simp only [stepO, hx, St.obj, ho, if_true]
    refine ⟨by simpa using hh, ?_⟩
    simp only [St.newOb, ho]
    exact h)
theorem kS2sB {x : X} {id ver ev : Nat} {dp : Bool} {y : UInt8} {ys : List UInt8} (hx : s.ev x = .c (.arr id ver)) (ho : s.ob id = ⟨ver, ev, .arr dp (.sl 1 ((y :: ys).map fun b => [.sc (.int .u8 b.toNat)]))⟩) (hh : (!s.hold.contains id) = true)
    (h : kont P (.t r tags :: k) Q .normal ((s.setOb id ⟨ver + 1, 0, .dead⟩).put d (.dv (encB (y :: ys))))) : kont P (.t (.op oi [] d none false (.s2s x) r) tags :: k) Q .normal s :=
  kS2s hx ho hh h
end
section
variable {P : Program} {k : List It} {Q : Ex → St → Prop} {s : St} {r : T} {d : Option Nat} {q : Bool} {oi : Nat} {tags : List Nat}
theorem kLitG {e sz n : Nat} {zs : List X} {ps : List (Nat × Nat × X)} {cs : List AC} {ds : List DV} {dp : Bool} {ids : List Nat} (hf : s.fillG ps 0 ((List.replicate n (zs.map X.ac)).flatten) = some cs) (hp : s.parts cs = some (ds, dp, ids))
    (hb : (Nat.beq cs.length (n * sz) && Nat.beq zs.length sz && Nat.ble (n * sz) 16777216 && Nat.ble n 9223372036854775807 && !s.hold.contains (rid e 0) && nodupB ids && ids.all (fun j => !s.hold.contains j) && !ids.contains (rid e 0)) = true) {vv ve : Nat} {vk : OK} (hob : s.ob (rid e 0) = ⟨vv, ve, vk⟩)
    (h : kont P (.t r tags :: k) Q .normal (((s.kill ids).setOb (rid e 0) ⟨vv + 1, 0, .arr dp (.sl sz (chunk sz n ds))⟩).put d (.c (.arr (rid e 0) (vv + 1))))) : kont P (.t (.op oi [] d none q (.lit e sz zs n ps) r) tags :: k) Q .normal s :=
  kLit (fillG_fill (pre := []) rfl hf) hp hb hob h
theorem kLitD {e sz n : Nat} {zs : List X} {ps : List (Nat × Nat × X)} {cs : List AC} {ds : List DV} {dp : Bool} {ids : List Nat} (hf : s.fillG ps 0 ((List.replicate n (zs.map X.ac)).flatten) = some cs) (hp : s.parts cs = some (ds, dp, ids))
    (hb : (Nat.beq cs.length (n * sz) && Nat.beq zs.length sz && Nat.ble (n * sz) 16777216 && Nat.ble n 9223372036854775807 && !s.hold.contains (rid e 0) && nodupB ids && ids.all (fun j => !s.hold.contains j) && !ids.contains (rid e 0)) = true) {vv ve : Nat} {vk : OK} (hob : s.ob (rid e 0) = ⟨vv, ve, vk⟩)
    (h : kont P (.t r tags :: k) Q .normal (((s.kill ids).setOb (rid e 0) ⟨vv + 1 + 1, 0, .dead⟩).put d (.dv (.sl sz (chunk sz n ds))))) : kont P (.t (.op oi [] d none q (.lit e sz zs n ps) r) tags :: k) Q .normal s :=
  kLitD0 (fillG_fill (pre := []) rfl hf) hp hb hob h
end
structure Cu where
  code : List UInt8
  i : Int
  h : Int
  i0 : 0 ≤ i
  i1 : i ≤ (code.length : Int)
  b : (code.length : Int) ≤ 9223372036854775807
def Cu.cells (c : Cu) : List DV := [encB c.code, .sc (.int .i64 c.i), .sc (.int .i64 c.h)]
theorem and255 (x : BitVec 64) : 0 ≤ IntKind.i64.wrap ((x &&& BitVec.ofInt 64 255).toNat : Int) ∧ IntKind.i64.wrap ((x &&& BitVec.ofInt 64 255).toNat : Int) ≤ 255 := by
  have h : (x &&& BitVec.ofInt 64 255).toNat ≤ 255 := by
    rw [BitVec.toNat_and]
    exact Nat.le_trans Nat.and_le_right (by decide)
  rw [wrap64 (by omega)]; omega
end Hearth

/- The program's records, as data; what is said of them. -/
namespace Hearth
open Go
def encI (l : List Int) : DV := .sl 1 (l.map fun n => [.sc (.int .i64 n)])
def encBo (l : List Bool) : DV := .sl 1 (l.map fun n => [.sc (.bool n)])
structure Rr where
  name : List (List UInt8)
  ty : Int
  ttl : Int
  addr : Int
  to : List (List UInt8)
  text : List UInt8
  nums : List Int
  deriving DecidableEq
def Rr.cells (r : Rr) : List DV := [encBB r.name, .sc (.int .i64 r.ty), .sc (.int .i64 r.ttl), .sc (.int .i64 r.addr), encBB r.to, encB r.text, encI r.nums]
def encR (l : List Rr) : DV := .sl 7 (l.map Rr.cells)
structure Task where
  state : Int
  id : Int
  fname : List (List UInt8)
  ftype : Int
  name : List (List UInt8)
  zone : List (List UInt8)
  hints : List Int
  servers : List Int
  turn : Int
  sends : Int
  steps : Int
  code : Int
  answers : List Rr
  deriving DecidableEq
def Task.cells (t : Task) : List DV := [.sc (.int .i64 t.state), .sc (.int .i64 t.id), encBB t.fname, .sc (.int .i64 t.ftype), encBB t.name, encBB t.zone, encI t.hints, encI t.servers, .sc (.int .i64 t.turn), .sc (.int .i64 t.sends), .sc (.int .i64 t.steps), .sc (.int .i64 t.code), encR t.answers]
structure SmallR (r : Rr) : Prop where
  n : SmallBB r.name
  t : SmallBB r.to
  x : r.text.length ≤ 4194304
  m : r.nums.length ≤ 4194304
structure SmallRs (l : List Rr) : Prop where
  len : l.length ≤ 4194304
  mem : ∀ r ∈ l, SmallR r
structure SmallT (t : Task) : Prop where
  f : SmallBB t.fname
  n : SmallBB t.name
  z : SmallBB t.zone
  h : t.hints.length ≤ 4194304
  s : t.servers.length ≤ 4194304
  a : SmallRs t.answers
def fcAgg {α : Type} (D : α → Prop) (cells : α → List DV) (g : α → Bool) : FC := fun as R => ∃ x, D x ∧ as = [DA.agg (cells x)] ∧ R = fun ra => ra = [.one (.d (.sc (.bool (g x))))]
def idx {α : Type} (g : α → Bool) (l : List α) : Int := match l.findIdx? g with | some i => i | none => -1
theorem idx_ge {α : Type} (g : α → Bool) (l : List α) : decide (idx g l ≥ 0) = l.any g := by
  unfold idx
  cases h : l.findIdx? g with
  | none =>
    rw [List.findIdx?_eq_none_iff] at h
    have : l.any g = false := by rw [List.any_eq_false]; intro x hx; simp [h x hx]
    rw [this]; rfl
  | some i =>
    rw [List.findIdx?_eq_some_iff_getElem] at h
    obtain ⟨h1, h2, _⟩ := h
    have : l.any g = true := by rw [List.any_eq_true]; exact ⟨_, List.getElem_mem h1, h2⟩
    rw [this]; simp
def tyOk (t : Int) : Bool := t == 1 || t == 2 || t == 5 || t == 6 || t == 12 || t == 16 || t == 49
def isW (n : Int) : Bool := decide (0 ≤ n) && decide (n < 4294967296)
def hasTo (t : Int) : Bool := t == 2 || t == 5 || t == 6 || t == 12
def hasText (t : Int) : Bool := t == 16 || t == 49
@[simp] def numsOk (l : List Int) : Bool := if h : (l.length : Int) = 2 then isW (l[0]'(by omega)) && decide (0 ≤ l[1]'(by omega) ∧ l[1]'(by omega) ≤ 100000) else false
def dataOk (r : Rr) : Bool :=
  (if r.ty == 6 then numsOk r.nums else ((r.nums.length : Int) == 0)) && (if r.ty == 1 then isW r.addr else r.addr == 0) && (if hasTo r.ty then nameOk r.to else ((r.to.length : Int) == 0)) && (if hasText r.ty then decide ((r.text.length : Int) ≤ 40) else ((r.text.length : Int) == 0))
theorem len0 {α : Type} {l : List α} (h : (l.length : Int) = 0) : l = [] := List.eq_nil_of_length_eq_zero (by omega)
@[simp] theorem intlen0 {α : Type} {l : List α} : ((l.length : Int) = 0) ↔ l = [] := ⟨len0, fun h => by rw [h]; rfl⟩
@[simp] theorem isW_zero : isW 0 = true := rfl
@[simp] theorem nameOk_nil : nameOk [] = true := rfl
def rrOk (r : Rr) : Bool := nameOk r.name && tyOk r.ty && (decide (0 ≤ r.ttl) && decide (r.ttl ≤ 100000)) && dataOk r
def rrsOk (l : List Rr) : Bool := decide ((l.length : Int) ≤ 12) && l.all rrOk
@[simp] theorem bt_list (l : List UInt8) : (ByteArray.mk l.toArray).toList = l := by rw [ByteArray.toList_eq]
def cmpB (a b : List UInt8) : Int := if Op.bytesLess a b = true then -1 else if (!(Op.bytesLess a b || a == b)) = true then 1 else 0
theorem bytesLess_irrefl : ∀ a : List UInt8, Op.bytesLess a a = false
  | [] => rfl
  | x :: xs => by simp [Op.bytesLess, bytesLess_irrefl xs]
theorem cmpB_zero (a b : List UInt8) : (cmpB a b == 0) = decide (a = b) := by
  unfold cmpB
  by_cases h : a = b
  · subst h; simp [bytesLess_irrefl]
  · cases hb : Op.bytesLess a b with
    | true => simp [h]
    | false => simp [h]
def cmpL : List (List UInt8) → List (List UInt8) → Int
  | [], [] => 0
  | [], _ :: _ => -1
  | _ :: _, [] => 1
  | x :: xs, y :: ys => if cmpB x y = 0 then cmpL xs ys else cmpB x y
def cmpN (a b : List (List UInt8)) : Int := cmpL a.reverse b.reverse
theorem cmpL_zero : ∀ a b : List (List UInt8), cmpL a b = 0 ↔ a = b
  | [], [] => by simp [cmpL]
  | [], _ :: _ => by simp [cmpL]
  | _ :: _, [] => by simp [cmpL]
  | x :: xs, y :: ys => by
    have h := cmpB_zero x y
    simp only [cmpL]
    by_cases hxy : x = y
    · subst hxy
      rw [if_pos (by simpa using h), cmpL_zero xs ys]; simp
    · have : ¬ cmpB x y = 0 := by simpa [hxy] using h
      rw [if_neg this]; simp [hxy, this]
theorem cmpN_zero (a b : List (List UInt8)) : (cmpN a b == 0) = decide (a = b) := by
  rw [Bool.eq_iff_iff]
  simp [cmpN, cmpL_zero, List.reverse_inj]
theorem cmpL_step (a b : List (List UInt8)) (k : Nat) (h1 : k < a.length) (h2 : k < b.length) (i j : Nat) (hi : i = a.length - (k + 1)) (hj : j = b.length - (k + 1)) :
    cmpL (a.reverse.drop k) (b.reverse.drop k) = if cmpB (a[i]'(by omega)) (b[j]'(by omega)) = 0 then cmpL (a.reverse.drop (k + 1)) (b.reverse.drop (k + 1)) else cmpB (a[i]'(by omega)) (b[j]'(by omega)) := by
  subst hi; subst hj
  rw [List.drop_eq_getElem_cons (l := a.reverse) (by simpa using h1), List.drop_eq_getElem_cons (l := b.reverse) (by simpa using h2), cmpL]
  simp only [List.getElem_reverse]
  have e : ∀ n : Nat, n - 1 - k = n - (k + 1) := fun n => by omega
  simp only [e]
theorem cmpL_end (a b : List (List UInt8)) (k : Nat) (h1 : k ≤ a.length) (h2 : k ≤ b.length) (h : k = a.length ∨ k = b.length) :
    cmpL (a.reverse.drop k) (b.reverse.drop k) = if a.length = b.length then 0 else if a.length < b.length then -1 else 1 := by
  rcases h with h | h
  · rw [List.drop_eq_nil_of_le (as := a.reverse) (by simp; omega)]
    by_cases e : a.length = b.length
    · rw [List.drop_eq_nil_of_le (by simp; omega), if_pos e]; rfl
    · rw [List.drop_eq_getElem_cons (l := b.reverse) (by simp; omega), if_neg e, if_pos (by omega)]; rfl
  · rw [List.drop_eq_nil_of_le (as := b.reverse) (by simp; omega)]
    by_cases e : a.length = b.length
    · rw [List.drop_eq_nil_of_le (by simp; omega), if_pos e]; rfl
    · rw [List.drop_eq_getElem_cons (l := a.reverse) (by simp; omega), if_neg e, if_neg (by omega)]; rfl
def underN (n z : List (List UInt8)) : Bool := decide (z.length ≤ n.length) && decide (n.drop (n.length - z.length) = z)
def costBB (a : List (List UInt8)) : Nat := a.length + a.flatten.length
def costR (r : Rr) : Nat := costBB r.name + costBB r.to + r.text.length + r.nums.length
def costRs : List Rr → Nat
  | [] => 0
  | r :: l => costR r + costRs l
@[simp] theorem costRs_nil : costRs [] = 0 := rfl
theorem filter_step {α : Type} (f : α → Bool) (l : List α) (i : Nat) (h : i < l.length) : (l.take (i + 1)).filter f = (l.take i).filter f ++ (if f l[i] then [l[i]] else []) := by
  rw [← List.take_append_getElem h, List.filter_append]
  congr 1
  by_cases e : f l[i] <;> simp [e]
theorem filter_yes {α : Type} {f : α → Bool} {l : List α} {i : Nat} (h : i < l.length) (e : f l[i] = true) : (l.take (i + 1)).filter f = (l.take i).filter f ++ [l[i]] := by rw [filter_step _ _ _ h, if_pos e]
theorem filter_no {α : Type} {f : α → Bool} {l : List α} {i : Nat} (h : i < l.length) (e : f l[i] = false) : (l.take (i + 1)).filter f = (l.take i).filter f := by rw [filter_step _ _ _ h, if_neg (by simp [e]), List.append_nil]
theorem filter_len {α : Type} (f : α → Bool) (l : List α) (i : Nat) : ((l.take i).filter f).length ≤ l.length := Nat.le_trans (List.length_filter_le _ _) (by simp; omega)
def cntBB (a : List (List UInt8)) : Nat := a.flatten.length
def cntR (r : Rr) : Nat := cntBB r.name + 3 + cntBB r.to + r.text.length + r.nums.length
def cntRs : List Rr → Nat
  | [] => 0
  | r :: l => cntR r + cntRs l
@[simp] theorem cntRs_nil : cntRs [] = 0 := rfl
theorem noNest_encI (b : List Int) : noNest (encI b) = true := by
  simp [noNest, encI, DV.rows, DV.isSc]
theorem src_encI (s : St) (b : List Int) : s.src (.d (encI b)) = some (true, encI b, []) := by
  show some (noNest (encI b), encI b, []) = _
  rw [noNest_encI]
theorem app_nil_encI (b : List Int) : (DV.sl 1 []).app (encI b) = encI b := by simp [DV.app, encI, DV.rows, DV.esz]
theorem len_encI (b : List Int) : (encI b).len = b.length := by simp [encI, DV.len]
structure Zone where
  origin : List (List UInt8)
  rrs : List Rr
  deriving DecidableEq
def Zone.cells (z : Zone) : List DV := [encBB z.origin, encR z.rrs]
structure SmallZ (z : Zone) : Prop where
  o : SmallBB z.origin
  r : SmallRs z.rrs
def w2 (n : Int) : List UInt8 := [u8 (sr n 8), u8 n]
def w4 (n : Int) : List UInt8 := [u8 (sr n 24), u8 (sr n 16), u8 (sr n 8), u8 n]
theorem w4_two (n : Int) : w2 (sr n 16) ++ w2 n = w4 n := by simp [w2, w4, sr_sr]
def wireL (a : List (List UInt8)) : List UInt8 := a.flatMap fun l => u8 l.length :: l
theorem wireL_take (a : List (List UInt8)) (i : Nat) (h : i < a.length) : wireL (a.take (i + 1)) = wireL (a.take i) ++ [u8 a[i].length] ++ a[i] := by
  unfold wireL
  rw [← List.take_append_getElem h, List.flatMap_append]
  simp
theorem wireL_len (a : List (List UInt8)) : (wireL a).length = a.length + a.flatten.length := by
  induction a with
  | nil => rfl
  | cons x a ih => simp only [wireL, List.flatMap_cons, List.length_append, List.length_cons, List.flatten_cons] at *; omega
theorem wireL_le (a : List (List UInt8)) (i : Nat) : (wireL (a.take i)).length ≤ a.length + a.flatten.length := by
  rw [wireL_len]
  have := flat_le a i
  simp only [List.length_take]; omega
def wireN (a : List (List UInt8)) : List UInt8 := wireL a ++ [0]
def rdata (r : Rr) : List UInt8 := if r.ty == 1 then w4 r.addr else if hasTo r.ty then wireN r.to ++ r.nums.flatMap w4 else u8 r.text.length :: r.text
def cmpI (a b : Int) : Int := if a < b then -1 else if b < a then 1 else 0
def cmpR (a b : Rr) : Int := if cmpN a.name b.name = 0 then (if cmpI a.ty b.ty = 0 then cmpB (rdata a) (rdata b) else cmpI a.ty b.ty) else cmpN a.name b.name
def setOf (l : List Rr) (n : List (List UInt8)) (t : Int) : List Rr := l.filter fun r => decide (r.name = n) && (t == 255 || r.ty == t)
section
variable {P : Program} {k : List It} {Q : Ex → St → Prop} {s : St} {d : Option Nat} {q : Bool} {r : T} {oi : Nat} {tags : List Nat}
theorem kAppRec {e bytes : Nat} {x y : X} {cx cy : AC} {dp dp' : Bool} {ids : List Nat} {id v ve : Nat} {vk : OK} {l : List Rr} {nm tn : List (List UInt8)} {ty ttl ad : Int} {tx : List UInt8} {nu : List Int} (hx : s.ev x = .c cx) (hy : s.ev y = .c cy) (hb : s.base cx = some (dp, .sl 7 (l.map Rr.cells)))
    (hs : s.src cy = some (dp', .sl 7 [[encBB nm, .sc (.int .i64 ty), .sc (.int .i64 ttl), .sc (.int .i64 ad), encBB tn, encB tx, encI nu]], ids)) (hid : cx.ownId e = id) (hob : s.ob id = ⟨v, ve, vk⟩)
    (hh : (!s.hold.contains id && ids.all (fun j => !s.hold.contains j) && !ids.contains id && notMe id cy) = true)
    (hlen : (l.length + 1) * bytes ≤ 140737488355328 ∧ l.length + 1 ≤ 9223372036854775807)
    (h : kont P (.t r tags :: k) Q .normal (((s.kill ids).setOb id ⟨v + 1, 0, .arr (dp && dp') (encR (l ++ [⟨nm, ty, ttl, ad, tn, tx, nu⟩]))⟩).put d (.c (.arr id (v + 1))))) : kont P (.t (.op oi [] d none q (.app e 7 bytes x y) r) tags :: k) Q .normal s :=
  kAppR1 (f := Rr.cells) (z := ⟨nm, ty, ttl, ad, tn, tx, nu⟩) hx hy hb hs hid hob rfl hh hlen h
end
def orL : List Int → Int
  | [] => 0
  | x :: l => if x = 0 then orL l else x
theorem orL_drop (l : List Int) (i : Nat) (h : i < l.length) : orL (l.drop i) = if l[i] = 0 then orL (l.drop (i + 1)) else l[i] := by
  rw [List.drop_eq_getElem_cons h]; rfl
theorem w4_len (n : Int) : (w4 n).length = 4 := rfl
theorem wireN_len (a : List (List UInt8)) : (wireN a).length = a.length + a.flatten.length + 1 := by simp [wireN, wireL_len]
theorem flatMap_take {α β : Type} (f : α → List β) (l : List α) (i : Nat) (h : i < l.length) : (l.take (i + 1)).flatMap f = (l.take i).flatMap f ++ f l[i] := by
  rw [← List.take_append_getElem h, List.flatMap_append]; simp
theorem w4s_len (l : List Int) : (l.flatMap w4).length = 4 * l.length := by
  induction l with
  | nil => rfl
  | cons x l ih => simp only [List.flatMap_cons, List.length_append, ih, w4_len, List.length_cons]; omega
theorem two_nums (l : List Int) (h : l.length = 2) : l.flatMap w4 = w4 (l[0]'(by omega)) ++ w4 (l[1]'(by omega)) := by
  match l, h with
  | [x, y], _ => simp
theorem rdata_A {r : Rr} (h : r.ty = 1) : rdata r = w4 r.addr := by simp [rdata, h]
theorem rdata_to {r : Rr} (h : r.ty ≠ 1) (h2 : hasTo r.ty = true) : rdata r = wireN r.to ++ r.nums.flatMap w4 := by simp [rdata, h, h2]
theorem rdata_text {r : Rr} (h : r.ty ≠ 1) (h2 : hasTo r.ty = false) : rdata r = u8 r.text.length :: r.text := by simp [rdata, h, h2]
theorem rdata_soa {r : Rr} (hk : rrOk r = true) (h : r.ty = 6) : ∃ (h2 : (r.nums.length : Int) = 2), (0 ≤ r.nums[0]'(by omega) ∧ r.nums[0]'(by omega) < 4294967296) ∧ (0 ≤ r.nums[1]'(by omega) ∧ r.nums[1]'(by omega) ≤ 100000) ∧ rdata r = wireN r.to ++ w4 (r.nums[0]'(by omega)) ++ w4 (r.nums[1]'(by omega)) := by
  have hd : dataOk r = true := by simp only [rrOk, Bool.and_eq_true] at hk; exact hk.2
  simp only [dataOk, Bool.and_eq_true, h] at hd
  have hn : numsOk r.nums = true := by simpa using hd.1.1.1
  simp only [numsOk] at hn
  split at hn
  · rename_i hl
    simp only [Bool.and_eq_true, isW, decide_eq_true_eq] at hn
    refine ⟨hl, hn.1, hn.2, ?_⟩
    rw [rdata_to (by omega) (by rw [h]; rfl)]
    rw [two_nums r.nums (by omega), List.append_assoc]
  · cases hn
theorem rdata_nm {r : Rr} (hk : rrOk r = true) (h : r.ty ≠ 6) : r.nums = [] := by
  have hd : dataOk r = true := by simp only [rrOk, Bool.and_eq_true] at hk; exact hk.2
  simp only [dataOk, Bool.and_eq_true] at hd
  have h1 := hd.1.1.1
  rw [if_neg (by simpa using h)] at h1
  simpa using h1
theorem rdata_ad {r : Rr} (hk : rrOk r = true) (h : r.ty = 1) : 0 ≤ r.addr ∧ r.addr < 4294967296 := by
  have hd : dataOk r = true := by simp only [rrOk, Bool.and_eq_true] at hk; exact hk.2
  simp only [dataOk, Bool.and_eq_true, h] at hd
  have h1 := hd.1.1.2
  simpa [isW] using h1
theorem rdata_le {r : Rr} (hs : SmallR r) : (rdata r).length ≤ 33554432 := by
  have h1 := hs.t.len
  have h2 := hs.t.flat
  have h3 := hs.x
  have h4 := hs.m
  unfold rdata
  split
  · rw [w4_len]; omega
  · split
    · rw [List.length_append, wireN_len, w4s_len]; omega
    · rw [List.length_cons]; omega
theorem cmpR_or (a b : Rr) : cmpR a b = orL [cmpN a.name b.name, cmpI a.ty b.ty, cmpB (rdata a) (rdata b)] := by
  unfold cmpR orL
  by_cases h1 : cmpN a.name b.name = 0
  · rw [if_pos h1, if_pos h1]
    unfold orL
    by_cases h2 : cmpI a.ty b.ty = 0
    · rw [if_pos h2, if_pos h2]
      unfold orL
      split
      · rename_i h; rw [h]; rfl
      · rfl
    · rw [if_neg h2, if_neg h2]
  · rw [if_neg h1, if_neg h1]
def aloneR (l : List Rr) (i : Nat) : Bool := match l[i]? with
  | none => true
  | some r => !(r.ty == 5) || decide ((setOf l r.name 255).length ≤ 1)
theorem setOf_any (l : List Rr) (n : List (List UInt8)) : setOf l n 255 = l.filter fun r => decide (r.name = n) := by simp [setOf]
theorem filter_two {α : Type} {f : α → Bool} {l : List α} {i k : Nat} (hi : i < l.length) (hk : k < l.length) (hne : k ≠ i) (h1 : f l[i] = true) (h2 : f l[k] = true) : 2 ≤ (l.filter f).length := by
  have key : ∀ (i k : Nat) (hi : i < l.length) (hk : k < l.length), i < k → f l[i] = true → f l[k] = true → 2 ≤ (l.filter f).length := by
    intro i k hi hk hlt h1 h2
    have e := List.take_append_drop k l
    have : l.filter f = (l.take k).filter f ++ (l.drop k).filter f := by rw [← List.filter_append, e]
    rw [this, List.length_append]
    have a1 : 1 ≤ ((l.take k).filter f).length := by
      apply List.length_pos_of_mem (a := l[i])
      rw [List.mem_filter]
      refine ⟨?_, h1⟩
      have : (l.take k)[i]'(by simp; omega) = l[i] := by simp
      rw [← this]; exact List.getElem_mem _
    have a2 : 1 ≤ ((l.drop k).filter f).length := by
      apply List.length_pos_of_mem (a := l[k])
      rw [List.mem_filter]
      refine ⟨?_, h2⟩
      rw [List.drop_eq_getElem_cons hk]; exact List.mem_cons_self ..
    omega
  rcases Nat.lt_or_gt_of_ne hne with h | h
  · exact key k i hk hi h h2 h1
  · exact key i k hi hk h h1 h2
theorem filter_one {α : Type} {f : α → Bool} {l : List α} {i : Nat} (h : ∀ (j : Nat) (hj : j < l.length), j ≠ i → f l[j] = false) : (l.filter f).length ≤ 1 := by
  have e := List.take_append_drop i l
  have h0 : (l.take i).filter f = [] := by
    rw [List.filter_eq_nil_iff]
    intro a ha
    obtain ⟨j, hj, rfl⟩ := List.mem_iff_getElem.1 ha
    have hj' : j < l.length ∧ j < i := by simp at hj; omega
    rw [List.getElem_take]
    simp [h j hj'.1 (by omega)]
  have h1 : ((l.drop (i + 1)).filter f) = [] := by
    rw [List.filter_eq_nil_iff]
    intro a ha
    obtain ⟨j, hj, rfl⟩ := List.mem_iff_getElem.1 ha
    have hj' : i + 1 + j < l.length := by simp at hj; omega
    rw [List.getElem_drop]
    simp [h (i + 1 + j) hj' (by omega)]
  have : l.filter f = (l.take i).filter f ++ (l.drop i).filter f := by rw [← List.filter_append, e]
  rw [this, h0, List.nil_append]
  rcases Nat.lt_or_ge i l.length with hi | hi
  · rw [List.drop_eq_getElem_cons hi, List.filter_cons]
    split
    · rw [h1]; simp
    · rw [h1]; simp
  · rw [List.drop_eq_nil_of_le hi]; simp
theorem aloneR_ty {l : List Rr} {i : Nat} (hi : i < l.length) (h : l[i].ty ≠ 5) : aloneR l i = true := by
  unfold aloneR; rw [List.getElem?_eq_getElem hi]; simp [h]
theorem aloneR_no {l : List Rr} {i k : Nat} (hi : i < l.length) (h : l[i].ty = 5) (hk : k < l.length) (hne : k ≠ i) (he : l[k].name = l[i].name) : aloneR l i = false := by
  unfold aloneR; rw [List.getElem?_eq_getElem hi]
  have := filter_two (f := fun r : Rr => decide (r.name = l[i].name)) hi hk hne (by simp) (by simpa using he)
  simp only [h, setOf_any]
  simp; omega
theorem aloneR_yes {l : List Rr} {i : Nat} (hi : i < l.length) (h : ∀ (j : Nat) (hj : j < l.length), j ≠ i → l[j].name ≠ l[i].name) : aloneR l i = true := by
  unfold aloneR; rw [List.getElem?_eq_getElem hi]
  have := filter_one (f := fun r : Rr => decide (r.name = l[i].name)) (l := l) (i := i) (fun j hj hne => by simpa using h j hj hne)
  simp only [setOf_any]
  simp; right; exact this
def prevB (l : List Rr) (i : Nat) : Bool := if h : 0 < i ∧ i < l.length then decide (cmpR (l[i - 1]'(by omega)) (l[i]'(by omega)) < 0) else true
def zAt (z : Zone) (i : Nat) : Bool := if h : i < z.rrs.length then underN z.rrs[i].name z.origin && prevB z.rrs i && aloneR z.rrs i && (!(z.rrs[i].ty == 6) || decide (z.rrs[i].name = z.origin)) else true
def zTops (l : List Rr) : Int := ((l.filter fun r => r.ty == 6).length : Int)
def zoneOk (z : Zone) : Bool := nameOk z.origin && decide (z.rrs.length ≤ 60) && z.rrs.all rrOk && (List.range z.rrs.length).all (zAt z) && decide (zTops z.rrs = 1)
theorem zTops_succ (l : List Rr) (i : Nat) (h : i < l.length) : zTops (l.take (i + 1)) = zTops (l.take i) + (if l[i].ty = 6 then 1 else 0) := by
  unfold zTops
  rw [filter_step _ _ _ h]
  by_cases e : l[i].ty = 6 <;> simp [e]
theorem zTops_le (l : List Rr) (i : Nat) : 0 ≤ zTops (l.take i) ∧ zTops (l.take i) ≤ l.length := by
  unfold zTops
  have := filter_len (fun r : Rr => r.ty == 6) l i
  omega
theorem aloneR_eq {l : List Rr} {i : Nat} (h : i < l.length) : aloneR l i = (!(l[i].ty == 5) || decide ((setOf l l[i].name 255).length ≤ 1)) := by
  unfold aloneR; rw [List.getElem?_eq_getElem h]
theorem prevB_pos {l : List Rr} {i : Nat} (h0 : 0 < i) (h : i < l.length) (h' : ((i : Int) - 1).toNat < l.length) : prevB l i = decide (cmpR (l[((i : Int) - 1).toNat]) l[i] < 0) := by
  have e : ((i : Int) - 1).toNat = i - 1 := by omega
  simp only [prevB, e]
  rw [dif_pos ⟨h0, h⟩]
theorem prevB_zero {l : List Rr} : prevB l 0 = true := by simp [prevB]
theorem zAt_eq {z : Zone} {i : Nat} (h : i < z.rrs.length) : zAt z i = (underN z.rrs[i].name z.origin && prevB z.rrs i && aloneR z.rrs i && (!(z.rrs[i].ty == 6) || decide (z.rrs[i].name = z.origin))) := by
  unfold zAt; rw [dif_pos h]
theorem zone_no {z : Zone} {i : Nat} (h : i < z.rrs.length) (hz : zAt z i = false) : zoneOk z = false := by
  unfold zoneOk
  have : (List.range z.rrs.length).all (zAt z) = false := by
    rw [List.all_eq_false]; exact ⟨i, List.mem_range.2 h, by simp [hz]⟩
  rw [this]; simp
theorem range_all {f : Nat → Bool} {i : Nat} (h : (List.range i).all f = true) (h2 : f i = true) : (List.range (i + 1)).all f = true := by
  rw [List.range_succ, List.all_append, h]; simp [h2]
def topR (o : List (List UInt8)) (s : Int) : Rr := ⟨o, 6, 60, 0, o, [], [s, 60]⟩
def newZ (o : List (List UInt8)) (s : Int) : Zone := ⟨o, [topR o s]⟩
def zeroZ : Zone := ⟨[], []⟩
def zoneNewN (o : List (List UInt8)) (s : Int) : Zone := if zoneOk (newZ o s) then newZ o s else zeroZ
theorem SmallZ.zero : SmallZ zeroZ := ⟨.nil, ⟨Nat.zero_le _, nofun⟩⟩
theorem SmallZ.top {o : List (List UInt8)} (s : Int) (h : SmallBB o) : SmallZ (newZ o s) := ⟨h, ⟨by simp [newZ], fun r hr => by
  simp only [newZ, List.mem_singleton] at hr
  subst hr
  exact ⟨h, h, by simp [topR], by simp [topR]⟩⟩⟩
theorem SmallRs.filter {l : List Rr} (h : SmallRs l) (f : Rr → Bool) : SmallRs (l.filter f) := ⟨Nat.le_trans (List.length_filter_le _ _) h.len, fun r hr => h.mem r (List.mem_filter.1 hr).1⟩
theorem SmallRs.nil : SmallRs [] := ⟨Nat.zero_le _, nofun⟩
def keptR (z : Zone) (f : Rr → Bool) : Zone := ⟨z.origin, z.rrs.filter f⟩
theorem SmallZ.kept {z : Zone} (h : SmallZ z) (f : Rr → Bool) : SmallZ (keptR z f) := ⟨h.o, h.r.filter f⟩
def setN (z : Zone) (n : List (List UInt8)) (t : Int) : List Rr := if zoneOk z && nameOk n then setOf z.rrs n t else []
def askedT (t : Int) : Bool := tyOk t || t == 255
theorem cmpI_zero {a b : Int} : cmpI a b = 0 ↔ a = b := by
  unfold cmpI
  constructor
  · intro h; split at h
    · omega
    · split at h <;> omega
  · rintro rfl; simp
theorem cmpR_zero {a b : Rr} (h : cmpR a b = 0) : a.name = b.name ∧ a.ty = b.ty := by
  unfold cmpR at h
  by_cases h1 : cmpN a.name b.name = 0
  · rw [if_pos h1] at h
    by_cases h2 : cmpI a.ty b.ty = 0
    · have := cmpN_zero a.name b.name
      rw [h1] at this
      exact ⟨by simpa using this.symm, cmpI_zero.1 h2⟩
    · rw [if_neg h2] at h; exact absurd h h2
  · rw [if_neg h1] at h; exact absurd h h1
structure Evt where
  kind : Int
  bytes : List UInt8
  ip : Int
  client : List UInt8
  host : List UInt8
  at_ : Int
  lost : List Bool
  deriving DecidableEq
def Evt.cells (e : Evt) : List DV := [.sc (.int .i64 e.kind), encB e.bytes, .sc (.int .i64 e.ip), encB e.client, encB e.host, .sc (.int .i64 e.at_), encBo e.lost]
def TxP (k ip cl hl lb w : Int) : Prop :=
  (k = 1 ∧ 167772161 ≤ ip ∧ ip ≤ 167772414 ∧ 1 ≤ cl ∧ cl ≤ 16 ∧ lb = 1 ∧ 0 ≤ w ∧ w ≤ 2000000) ∨ (k = 2 ∧ 167772161 ≤ ip ∧ ip ≤ 167772414 ∧ 1 ≤ cl ∧ cl ≤ 16 ∧ hl = 0 ∧ w = 0) ∨ (k = 3 ∧ ip = 0 ∧ cl = 0 ∧ hl = 0 ∧ 0 ≤ w ∧ w ≤ 1000000)
instance (k ip cl hl lb w : Int) : Decidable (TxP k ip cl hl lb w) := by unfold TxP; infer_instance
def EvP (k ip cl hl lb w bl ll : Int) : Prop :=
  (k = 0 ∨ (bl = 0 ∧ ll = 0)) ∧ (TxP k ip cl hl lb w ∨ (ip = 0 ∧ cl = 0 ∧ hl = 0 ∧ ((k = 0 ∧ bl ≤ 512 ∧ ll ≤ 24 ∧ w = 0) ∨ (k = 4 ∧ 0 ≤ w ∧ w ≤ 60) ∨ (k = 5 ∧ w = 0))))
instance (k ip cl hl lb w bl ll : Int) : Decidable (EvP k ip cl hl lb w bl ll) := by unfold EvP; infer_instance
def emptyR : Rr := ⟨[], 0, 0, 0, [], [], []⟩
theorem cmpN_iff (a b : List (List UInt8)) : cmpN a b = 0 ↔ a = b := by simp [cmpN, cmpL_zero, List.reverse_inj]
theorem zone_rrs {z : Zone} (h : zoneOk z = true) : ∀ r ∈ z.rrs, rrOk r = true := by
  unfold zoneOk at h
  simp only [Bool.and_eq_true] at h
  exact List.all_eq_true.1 h.1.1.2
def refAt (z : Zone) (n : List (List UInt8)) : Nat → Option (List (List UInt8))
  | 0 => none
  | k + 1 => if 0 < (setOf z.rrs (n.drop k) 2).length then some (n.drop k) else refAt z n k
def hasN (z : Zone) (n : List (List UInt8)) : Bool := z.rrs.any fun r => underN r.name n
def lookupN (z : Zone) (n : List (List UInt8)) (t : Int) : List Rr × Int :=
  if underN n z.origin then
    match refAt z n (n.length - z.origin.length) with
    | some m => (setOf z.rrs m 2, 2)
    | none => if 0 < (setOf z.rrs n t).length then (setOf z.rrs n t, 0) else if 0 < (setOf z.rrs n 5).length then (setOf z.rrs n 5, 1) else ([], if hasN z n then 3 else 4)
  else ([], 5)
theorem lookup_filter (z : Zone) (n : List (List UInt8)) (t : Int) : ∃ f, (lookupN z n t).1 = z.rrs.filter f := by
  have hno : ∃ f : Rr → Bool, ([] : List Rr) = z.rrs.filter f := ⟨fun _ => false, by simp⟩
  unfold lookupN
  split
  · split
    · exact ⟨_, rfl⟩
    · split
      · exact ⟨_, rfl⟩
      · split
        · exact ⟨_, rfl⟩
        · exact hno
  · exact hno
theorem cmpB_iff (a b : List UInt8) : cmpB a b = 0 ↔ a = b := by
  have := cmpB_zero a b
  rw [Bool.eq_iff_iff] at this
  simpa using this
theorem cmpR_iff (a b : Rr) : cmpR a b = 0 ↔ a.name = b.name ∧ a.ty = b.ty ∧ rdata a = rdata b := by
  constructor
  · intro h
    have h1 := cmpR_zero h
    refine ⟨h1.1, h1.2, ?_⟩
    unfold cmpR at h
    rw [if_pos ((cmpN_iff _ _).2 h1.1), if_pos (cmpI_zero.2 h1.2)] at h
    exact (cmpB_iff _ _).1 h
  · rintro ⟨h1, h2, h3⟩
    unfold cmpR
    rw [if_pos ((cmpN_iff _ _).2 h1), if_pos (cmpI_zero.2 h2)]
    exact (cmpB_iff _ _).2 h3
structure Qn where
  name : List (List UInt8)
  ty : Int
  deriving DecidableEq
def Qn.cells (q : Qn) : List DV := [encBB q.name, .sc (.int .i64 q.ty)]
def encQ (l : List Qn) : DV := .sl 2 (l.map Qn.cells)
structure SmallQs (l : List Qn) : Prop where
  len : l.length ≤ 4194304
  mem : ∀ q ∈ l, SmallBB q.name
def cntQ1 (q : Qn) : Nat := q.name.flatten.length + 1
def cntQs : List Qn → Nat
  | [] => 0
  | r :: l => cntQ1 r + cntQs l
@[simp] theorem cntQs_nil : cntQs [] = 0 := rfl
def topIx (l : List Rr) : Int := idx (fun r => r.ty == 6) l
theorem topIx_lt {z : Zone} (h : zoneOk z = true) : 0 ≤ topIx z.rrs ∧ topIx z.rrs < z.rrs.length := by
  unfold zoneOk at h
  simp only [Bool.and_eq_true, decide_eq_true_eq] at h
  have ht := h.2
  unfold zTops at ht
  unfold topIx idx
  cases hf : z.rrs.findIdx? (fun r => r.ty == 6) with
  | none =>
    rw [List.findIdx?_eq_none_iff] at hf
    have : z.rrs.filter (fun r => r.ty == 6) = [] := by
      rw [List.filter_eq_nil_iff]; intro a ha; simp [hf a ha]
    rw [this] at ht
    simp at ht
  | some i =>
    rw [List.findIdx?_eq_some_iff_getElem] at hf
    obtain ⟨h1, _⟩ := hf
    simp only
    omega
theorem topIx_ty {z : Zone} (h : zoneOk z = true) (h' : (topIx z.rrs).toNat < z.rrs.length) : (z.rrs[(topIx z.rrs).toNat]).ty = 6 := by
  have h2 := topIx_lt h
  revert h'
  unfold topIx idx at *
  cases hf : z.rrs.findIdx? (fun r => r.ty == 6) with
  | none => rw [hf] at h2; simp at h2
  | some i =>
    intro h'
    rw [List.findIdx?_eq_some_iff_getElem] at hf
    obtain ⟨h1, h3, _⟩ := hf
    simpa using h3
end Hearth

/- A map literal of numbers and strings, and what is looked up in it. -/
namespace Hearth
open Go Go.RowKit
abbrev BelowD (B : Nat) (w w' : World) : Prop := Below B w w' ∧ w.drawn ≤ w'.drawn
def Tab (w : World) (r : Nat) (l : List (Int × ByteArray)) : Prop :=
  ∃ (es : Array MapEntry) (clock : Nat), w.heap[r]? = some (.map es clock) ∧ es.toList.map (fun e => (e.key, e.val)) = l.map fun e => (Value.int .i64 e.1, Value.string e.2)
theorem findNow_tab (n : Int) : ∀ (es : List MapEntry) (l : List (Int × ByteArray)) (i : Nat), es.map (fun e => (e.key, e.val)) = l.map (fun e => (Value.int .i64 e.1, Value.string e.2)) →
    ∃ j, Instr.findNow (.int .i64) (.int .i64 n) es i = some ((l.find? fun e => n == e.1).map fun e => (j, Value.string e.2))
  | [], [], i, _ => ⟨0, rfl⟩
  | [], _ :: _, i, h => by simp at h
  | _ :: _, [], i, h => by simp at h
  | e :: es, x :: l, i, h => by
    simp only [List.map_cons, List.cons.injEq, Prod.mk.injEq] at h
    obtain ⟨⟨h1, h2⟩, h3⟩ := h
    simp only [Instr.findNow, h1, Instr.sameNow, if_true, List.find?_cons, h2]
    by_cases hn : n = x.1
    · subst hn; exact ⟨i, by simp⟩
    · have : (n == x.1) = false := by simpa using hn
      rw [this]
      exact findNow_tab n es l (i + 1) h3
section
variable {P : Program} {w : World} {t kt et : TypeId} {r : Nat} {n : Int} {l : List (Int × ByteArray)}
theorem run_insert {b : ByteArray} (ht : P.underlying t = some (.map kt et)) (hkt : P.underlying kt = some (.int .i64)) (hT : Tab w r l) (hf : l.find? (fun e => n == e.1) = none) :
    ∃ w', (Instr.mapUpdate t (.map (some r)) (.int .i64 n) (.string b)).run P w = .ok () w' ∧ Tab w' r (l ++ [(n, b)]) ∧ Ext w w' (fun b => b = r) := by
  obtain ⟨es, clock, hb, he⟩ := hT
  obtain ⟨j, hj⟩ := findNow_tab n es.toList l 0 he
  rw [hf] at hj
  have hc : (Instr.checkKey false 10000 kt (.int .i64 n)).run P w = .ok () w := MapKept.run_checkKey (k := .int .i64 n) hkt (by simp [MapKept.IsKey]) false 9999
  have hs := MapKept.heap_set (o' := .map (es.push { key := .int .i64 n, val := .string b, born := clock }) (clock + 1)) hb
  refine ⟨{ w with heap := w.heap.setIfInBounds r (.map (es.push { key := .int .i64 n, val := .string b, born := clock }) (clock + 1)) }, ?_, ⟨_, _, hs.1, by simp [he]⟩, ⟨rfl, rfl, rfl, by simp, fun c _ hc => hs.2 c hc, Nat.le_refl _⟩⟩
  simp [Instr.mapUpdate, run_underlying ht, MapKept.run_getObj_map hb, hc, MapKept.run_findKey hkt hj, MapKept.run_setObj_map _ hb, Result.andThen]
theorem run_find (ht : P.underlying t = some (.map kt et)) (hkt : P.underlying kt = some (.int .i64)) (hz : (zeroValue et).run P w = .ok (.string ByteArray.empty) w) (hT : Tab w r l) :
    (Instr.lookup t (.map (some r)) (.int .i64 n) false).run P w = .ok (.string (((l.find? fun e => n == e.1).map (·.2)).getD ByteArray.empty)) w := by
  obtain ⟨es, clock, hb, he⟩ := hT
  obtain ⟨j, hj⟩ := findNow_tab n es.toList l 0 he
  have hc : (Instr.checkKey es.isEmpty 10000 kt (.int .i64 n)).run P w = .ok () w := MapKept.run_checkKey (k := .int .i64 n) hkt (by simp [MapKept.IsKey]) _ 9999
  cases hfi : l.find? (fun e => n == e.1) with
  | none =>
    rw [hfi] at hj
    simp [Instr.lookup, run_underlying ht, MapKept.run_getObj_map hb, hc, MapKept.run_findKey hkt hj, Result.andThen, hz]
  | some e =>
    rw [hfi] at hj
    simp [Instr.lookup, run_underlying ht, MapKept.run_getObj_map hb, hc, MapKept.run_findKey hkt hj, Result.andThen]
theorem upon_insert {b : ByteArray} {o : Oper} {a : Act} {K : Act → World → Prop} {Q : Exit → Act → World → Prop} {f : Unit → World → Result Next} (ht : P.underlying t = some (.map kt et)) (hkt : P.underlying kt = some (.int .i64)) (hT : Tab w r l) (hf : l.find? (fun e => n == e.1) = none)
    (h : ∀ w', Tab w' r (l ++ [(n, b)]) → Ext w w' (fun b => b = r) → Oper.upon P o a K Q (f () w')) : Oper.upon P o a K Q (((Instr.mapUpdate t (.map (some r)) (.int .i64 n) (.string b)).run P w).andThen f) := by
  obtain ⟨w', h1, h2, h3⟩ := run_insert (b := b) ht hkt hT hf
  rw [h1]
  exact h w' h2 h3
theorem upon_find {o : Oper} {a : Act} {K : Act → World → Prop} {Q : Exit → Act → World → Prop} {f : Value → World → Result Next} (ht : P.underlying t = some (.map kt et)) (hkt : P.underlying kt = some (.int .i64)) (hz : (zeroValue et).run P w = .ok (.string ByteArray.empty) w) (hT : Tab w r l)
    (h : Oper.upon P o a K Q (f (.string (((l.find? fun e => n == e.1).map (·.2)).getD ByteArray.empty)) w)) : Oper.upon P o a K Q (((Instr.lookup t (.map (some r)) (.int .i64 n) false).run P w).andThen f) := by
  rw [run_find ht hkt hz hT]
  exact h
end
theorem FnOK.ofWalk {P : Program} {f : FuncId} {fn : Func} (hf : P.funcs[f]? = some fn) (hb : fn.body.isSome = true) (hname : (fn.name == "runtime.NumGoroutine") = false) {n : Int} {b : ByteArray}
    (h : ∀ w : World, Calls P f #[.int .i64 n] w fun e w' => e = .returned (.string b) ∧ BelowD w.heap.size w w') : FnOK P f [.one (.d (.sc (.int .i64 n)))] (fun ra _ => ra = [.one (.d (.sc (.string b)))]) := by
  refine ⟨⟨fn, hf, hb, hname⟩, fun w S Fs vs hs hv _ _ _ hF => ?_⟩
  have hs1 : vs.size = 1 := hs
  have hp : Pers w S (.sc (.int .i64 n)) vs[0] := hv 0 _ vs[0] rfl (Array.getElem?_eq_getElem (by omega))
  have key : ∀ {x : DV} {u : Value}, Pers w S x u → x = .sc (.int .i64 n) → u = .int .i64 n := by
    intro x u hp hx
    cases hp with
    | sc _ _ => cases hx; rfl
    | emp _ _ _ => cases hx
    | sl _ _ _ _ _ _ _ _ _ _ _ _ => cases hx
  have hvs : vs = #[.int .i64 n] := by
    apply Array.ext
    · simpa using hs1
    · intro i h1 h2
      have : i = 0 := by omega
      subst this
      exact key hp rfl
  rw [hvs]
  refine (h w).mono fun e w' h => ?_
  obtain ⟨rfl, hbel⟩ := h
  have hno : ∀ q b, ¬ Fs q b := by
    intro q b hq
    rcases hF q b hq with ⟨g, dp, x, hg | ⟨cs, hg⟩⟩
    all_goals
      simp only [gaAt] at hg
      cases hq64 : q / 64 with
      | zero =>
        rw [hq64] at hg
        simp [GA.at] at hg
      | succ k => rw [hq64] at hg; simp at hg
  refine ⟨.string b, [.one (.d (.sc (.string b)))], ⟨fun _ => .sl 0 [], fun _ => []⟩, fun _ _ => False, rfl, rfl, ⟨hbel.1.os, hbel.1.tape, hbel.1.output, hbel.1.size, fun k hk _ => hbel.1.block k hk, hbel.2⟩, ⟨by simp, by simp, by simp⟩, ⟨#[.string b], rfl, rfl, fun t a u ha hu => ?_⟩, fun t k g v p u hg hv hp hu => ?_⟩
  · cases t with
    | zero => simp at ha hu; subst ha; subst hu; exact .sc _ rfl
    | succ t => simp at ha
  · cases t with
    | zero =>
      simp at hg; subst hg
      simp only [GA.at] at hp
      split at hp
      · simp at hp; subst hp; trivial
      · simp at hp
    | succ t => simp at hg
end Hearth
