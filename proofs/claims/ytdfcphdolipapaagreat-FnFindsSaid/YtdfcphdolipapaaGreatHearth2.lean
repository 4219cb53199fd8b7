/- An abstract machine for Go programs, and its soundness: the framework of this proof; no condition. -/
import Derived.OrdersHeld
import Derived.Test.YtdfcphdolipapaaGreatHearth1
set_option linter.unusedVariables false
set_option linter.unusedSimpArgs false
/- The abstract machine: each operation that is no call does what the model's does (2). -/
namespace Hearth
open Go
section
variable {P : Program} {N : Nat} {w0 : World} {own0 : Nat → Nat → Prop} {hdr0 : Nat → Value} {Fr : List ((Nat → Prop) × World)} {own : Nat → Nat → Prop} {hdr : Nat → Value} {s : St} {a : Act} {w : World} {K : AV → St → Prop} {o : Oper} {F : Nat → Prop}
theorem snd_mov {t : TypeId} {x : Operand} {x' : X} (r : RelX P N w0 own0 hdr0 Fr own hdr s a w) (ho : o.op = .move x ∨ o.op = .assign x) (hx : digX P t x = some x') (h : stepO P s (.mov x') K) : GoodQ P N w0 own0 hdr0 Fr F a w K (execOp a.eval o) := by
 have : ∀ w' : World, (execOp a.eval o).run P w' = .ok (.value (a.eval x)) w' := by
  intro w'
  rcases ho with ho | ho <;> simp [execOp, ho]
 exact GoodQ.val r this (ev_sound r hx) h
theorem snd_nck {t : TypeId} {x : Operand} {x' : X} (r : RelX P N w0 own0 hdr0 Fr own hdr s a w) (ho : o.op = .nilCheck x) (hx : digX P t x = some x') (h : stepO P s (.nck x') K) : GoodQ P N w0 own0 hdr0 Fr F a w K (execOp a.eval o) := by
 have h1 := ev_sound r hx
 simp only [stepO] at h
 split at h
 ·rename_i c hc
  rw [hc] at h1
  replace h1 : RC P w own hdr s.ob c (a.eval x) := h1
  obtain ⟨h2, h3⟩ := h
  have : ∃ ad, a.eval x = .pointer (some ad) := by
   split at h2
   ·obtain ⟨b, off, h4, _⟩ := h1
    exact ⟨_, h4⟩
   ·simp only [St.live] at h2
    split at h2
    ·rename_i hk
     obtain ⟨b, _, h4⟩ := h1.2 (St.obj_ok hk (by simp)).1.symm
     exact ⟨_, h4⟩
    ·simp at h2
   ·simp only [St.live] at h2
    split at h2
    ·rename_i hk
     obtain ⟨b, n, cap, _, _, h4⟩ := h1.2 (St.obj_ok hk (by simp)).1.symm
     exact ⟨_, h4⟩
    ·simp at h2
   ·simp only [St.live] at h2
    split at h2
    ·rename_i hk
     obtain ⟨b, n, cap, _, _, h4⟩ := h1.2 (St.obj_ok hk (by simp)).1.symm (by have := h2; simp at this; exact this.symm)
     exact ⟨_, h4⟩
    ·simp at h2
   ·exact h2.elim
  obtain ⟨ad, he⟩ := this
  exact GoodQ.val (v := a.eval x) (x := .c c) r (fun w' => by simp [execOp, ho, he]) h1 h3
 ·exact h.elim
theorem snd_pick {t : TypeId} {c x y : Operand} {c' x' y' : X} (r : RelX P N w0 own0 hdr0 Fr own hdr s a w) (ho : o.op = .pick c x y) (hc : digX P t c = some c') (hx : digX P t x = some x') (hy : digX P t y = some y')
  (h : stepO P s (.pick c' x' y') K) : GoodQ P N w0 own0 hdr0 Fr F a w K (execOp a.eval o) := by
 simp only [stepO] at h
 split at h
 ·rename_i b hb
  have h1 := ev_sound r hc
  rw [hb] at h1
  have e1 := kB h1
  have : ∀ w' : World, (execOp a.eval o).run P w' = .ok (.value (if b then a.eval x else a.eval y)) w' := by intro w'; simp [execOp, ho, e1, asBool]
  cases b
  ·exact GoodQ.val r this (ev_sound r hy) (h.2 rfl)
  ·exact GoodQ.val r this (ev_sound r hx) (h.1 rfl)
 ·exact h.elim
theorem snd_un {op : UnOp} {t : TypeId} {x : Operand} {x' : X} (r : RelX P N w0 own0 hdr0 Fr own hdr s a w) (ho : o.op = .unOp op t x) (hx : digX P t x = some x') (h : stepO P s (.un op x') K) : GoodQ P N w0 own0 hdr0 Fr F a w K (execOp a.eval o) := by
 simp only [stepO] at h
 split at h
 ·rename_i u hu
  split at h
  ·rename_i v hv
   have h1 := ev_sound r hx
   rw [hu] at h1
   have e1 := sc_of h1
   refine GoodQ.val r (fun w' => by simp only [execOp, ho, e1, Sem.run_bind, evUn_run hv, Result.andThen_ok, Sem.run_pure]) (rsV (evUn_one hv)) h
  ·exact h.elim
 ·exact h.elim
theorem snd_conv {k k0 : IntKind} {src dst : TypeId} {x : Operand} {x' : X} (r : RelX P N w0 own0 hdr0 Fr own hdr s a w) (ho : o.op = .convert src dst x) (hs : P.underlying src = some (.int k0)) (hd : P.underlying dst = some (.int k))
  (hx : digX P src x = some x') (h : stepO P s (.conv k x') K) : GoodQ P N w0 own0 hdr0 Fr F a w K (execOp a.eval o) := by
 simp only [stepO] at h
 split at h
 ·rename_i k' n hn
  have h1 := ev_sound r hx
  rw [hn] at h1
  have e1 := sc_of h1
  have : ∀ w' : World, (execOp a.eval o).run P w' = .ok (.value (.int k (k.wrap n))) w' := by
   intro w'
   simp [execOp, ho, convert, run_underlying hs, run_underlying hd, e1, Conv.intToInt]
  exact GoodQ.val r this (rsV rfl) h
 ·exact h.elim
theorem snd_sts {src dst : TypeId} {x : Operand} {x' : X} (r : RelX P N w0 own0 hdr0 Fr own hdr s a w) (ho : o.op = .convert src dst x) (hs : P.underlying src = some .string) (hd : P.underlying dst = some .string)
  (hx : digX P src x = some x') (h : stepO P s (.sts x') K) : GoodQ P N w0 own0 hdr0 Fr F a w K (execOp a.eval o) := by simp only [stepO] at h
theorem snd_b2s' {src dst e : TypeId} {x : Operand} {x' : X} (r : RelX P N w0 own0 hdr0 Fr own hdr s a w) (ho : o.op = .convert src dst x) (hs : P.underlying src = some (.slice e)) (he : P.underlying e = some (.int .u8)) (hd : P.underlying dst = some .string)
  (hx : digX P src x = some x') (h : stepO P s (.b2s x') K) : Good P N w0 own0 hdr0 Fr a K ((execOp a.eval o).run P w) := by
 simp only [stepO] at h
 split at h
 ·rename_i c hc
  split at h
  ·rename_i y hy
   obtain ⟨l, rfl, hK⟩ := h
   have h1 := ev_sound r hx
   rw [hc] at h1
   have hp := r.rd h1 hy
   have : (execOp a.eval o).run P w = .ok (.value (.string ⟨l.toArray⟩)) w := by
    simp [execOp, ho, snd_b2s hs he hd hp]
   rw [this]
   exact Good.val r (rsV rfl) hK
  ·exact h.elim
 ·exact h.elim
theorem snd_s2b {src dst e : TypeId} {x : Operand} {x' : X} (r : RelX P N w0 own0 hdr0 Fr own hdr s a w) (ho : o.op = .convert src dst x) (hs : P.underlying src = some .string) (hd : P.underlying dst = some (.slice e)) (he : P.underlying e = some (.int .u8))
  (hx : digX P src x = some x') (h : stepO P s (.s2b x') K) : Good P N w0 own0 hdr0 Fr a K ((execOp a.eval o).run P w) := by
 simp only [stepO] at h
 split at h
 ·rename_i b hb
  have h1 := ev_sound r hx
  rw [hb] at h1
  have e1 := sc_of h1
  have : (execOp a.eval o).run P w = .ok (.value (.slice (some ⟨w.heap.size, 0, none⟩) b.size (grownCap w b.size 0 e))) (Lib.bytesWorld w e b) := by
   simp [execOp, ho, e1, Lib.run_convert_string_bytes w src dst e b hs hd he]
  rw [this]
  have hx : Ext w (Lib.bytesWorld w e b) (fun _ => False) := ⟨rfl, rfl, rfl, by rw [Lib.bytesWorld_size]; omega, fun j hj _ => Lib.bytesWorld_at_old w e b j hj, by unfold Lib.bytesWorld World.freeze; split <;> exact Nat.le_succ _⟩
  obtain ⟨r', _⟩ := r.more hx
  refine Good.val r' (x := .dv (encB b.toList)) (bytes_pers h.1 ?_ _ rfl) h.2
  refine ⟨by rw [Lib.bytesWorld_size]; omega, fun j hj => ?_⟩
  have := r.lt j _ hj
  omega
 ·exact h.elim
theorem snd_box {t : TypeId} {d : Nat} {x : Operand} {x' : X} (r : RelX P N w0 own0 hdr0 Fr own hdr s a w) (ho : o.op = .box t x) (hx : digX P t x = some x') (h : stepO P s (.box d x') K) : Good P N w0 own0 hdr0 Fr a K ((execOp a.eval o).run P w) := by
 have h1 := ev_sound r hx
 have run : (execOp a.eval o).run P w = .ok (.value (.pointer (some ⟨w.heap.size, 0, none⟩))) (w.alloc (.cells (a.eval x).cells t)) := by
  simp [execOp, ho, Instr.box, newVar, newRow]
 rw [run]
 simp only [stepO] at h
 split at h
 ·exact h.elim
 ·rename_i hv
  obtain ⟨h2, h3, h4⟩ := h
  have : (a.eval x).cells.size = (s.ev x').cells.length ∧ ∀ (k : Nat) (c : AC) (u : Value), (s.ev x').cells[k]? = some c → (a.eval x).cells[k]? = some u → RC P w own hdr s.ob c u :=
   RS.cells h1 (fun c u hc hr => by
    rw [hc] at h3
    exact r.one hr (by simpa [AV.cells] using h3)) (fun l hl => hv l hl)
  exact Good.mk' h4 (r.box (rid_al _ _) h2 this.1 this.2)
theorem snd_alloc {t : TypeId} {d : Nat} {zs : List X} (r : RelX P N w0 own0 hdr0 Fr own hdr s a w) (ho : o.op = .alloc t) (hz : zeroXs P t = some zs) (h : stepO P s (.alloc d zs) K) : Good P N w0 own0 hdr0 Fr a K ((execOp a.eval o).run P w) := by
 obtain ⟨i, z, z1, z2, z3, z4⟩ := zeroXs_sound hz
 have run : (execOp a.eval o).run P w = .ok (.value (.pointer (some ⟨w.heap.size, 0, none⟩))) (w.alloc (.cells z.cells t)) := by
  simp [execOp, ho, Instr.alloc, run_zero z1 z2, newVar, newRow]
 rw [run]
 simp only [stepO] at h
 refine Good.mk' h.2 (r.box (rid_al _ _) h.1 (by simp [z3]) fun k c u hc hu => ?_)
 rw [List.getElem?_map, Option.map_eq_some_iff] at hc
 obtain ⟨x, hx, rfl⟩ := hc
 exact z4 k x u hx hu
theorem snd_build {t : TypeId} {fs : Array Field} {places : List (Nat × Nat)} {zs : List X} {parts : Array (Nat × Operand)} {ps : List (Nat × Nat × X)} (r : RelX P N w0 own0 hdr0 Fr own hdr s a w) (ho : o.op = .build t parts)
  (ht : fieldsOf P t = some fs) (hz : zeroXs P t = some zs) (hp : fs.toList.mapM (fun f => (P.info? f.type).map fun i => (f.offset, i.size)) = some places) (hd : digParts P (placeOf fs places) parts.toList = some ps)
  (h : stepO P s (.build zs ps) K) : GoodQ P N w0 own0 hdr0 Fr F a w K (execOp a.eval o) := by
 obtain ⟨i, z, z1, z2, z3, z4⟩ := zeroXs_sound hz
 simp only [stepO] at h
 split at h
 ·rename_i cs hf
  obtain ⟨vs', f1, f2, f3⟩ := fill_sound r (placeOf fs places) hd hf (vs := z.cells) (by simp [z3]) (fun k c u hc hu => by
   rw [List.getElem?_map, Option.map_eq_some_iff] at hc
   obtain ⟨x, hx, rfl⟩ := hc
   exact z4 k x u hx hu)
  have hpl : (fun i => (placeOf fs places i).map fun p => (p.2.1, p.2.2)) = (places.toArray[·]?) := by
   funext i
   simp only [placeOf, Option.map_map, List.getElem?_toArray]
   cases places[i]? <;> rfl
  rw [hpl] at f1
  have hb : P.built t (parts.toList.map fun p => (p.1, a.eval p.2)) = some vs' := by
   simp only [Program.built, z1, fieldsOf_sound ht, z2, hp, f1]
  have run : ∀ w' : World, (execOp a.eval o).run P w' = .ok (.value (.agg vs')) w' := by
   intro w'
   simp only [execOp, ho]
   have := run_build (P := P) w' t (parts.map fun (i, x) => (i, a.eval x)) vs' (by simpa using hb)
   simp [this]
  exact GoodQ.val r run (x := .g cs) ⟨vs', rfl, f2, f3⟩ h
 ·exact h.elim
theorem snd_buildA {t e : TypeId} {ie : TypeInfo} {zs : List X} {parts : Array (Nat × Operand)} {ps : List (Nat × Nat × X)} (r : RelX P N w0 own0 hdr0 Fr own hdr s a w) (ho : o.op = .build t parts)
  (ht : arrE? P t = some (e, ie)) (hz : zeroXs P t = some zs) (hd : digParts P (fun k => some (e, k * ie.size, ie.size)) parts.toList = some ps)
  (h : stepO P s (.build zs ps) K) : GoodQ P N w0 own0 hdr0 Fr F a w K (execOp a.eval o) := by
 obtain ⟨i, z, z1, z2, z3, z4⟩ := zeroXs_sound hz
 have hta : ∃ n, P.underlying t = some (.array n e) ∧ P.info? e = some ie := by
  unfold arrE? at ht
  split at ht
  ·rename_i n e' he
   simp only [Option.map_eq_some_iff, Prod.mk.injEq] at ht
   obtain ⟨j, h1, rfl, rfl⟩ := ht
   exact ⟨n, he, h1⟩
  ·cases ht
 obtain ⟨n, ht1, ht2⟩ := hta
 simp only [stepO] at h
 split at h
 ·rename_i cs hf
  obtain ⟨vs', f1, f2, f3⟩ := fill_sound r (fun k => some (e, k * ie.size, ie.size)) hd hf (vs := z.cells) (by simp [z3]) (fun k c u hc hu => by
   rw [List.getElem?_map, Option.map_eq_some_iff] at hc
   obtain ⟨x, hx, rfl⟩ := hc
   exact z4 k x u hx hu)
  have hb : P.built t (parts.toList.map fun p => (p.1, a.eval p.2)) = some vs' := by
   simp only [Program.built, z1, ht1, z2, ht2]
   simpa using f1
  have run : ∀ w' : World, (execOp a.eval o).run P w' = .ok (.value (.agg vs')) w' := by
   intro w'
   simp only [execOp, ho]
   have := run_build (P := P) w' t (parts.map fun (i, x) => (i, a.eval x)) vs' (by simpa using hb)
   simp [this]
  exact GoodQ.val r run (x := .g cs) ⟨vs', rfl, f2, f3⟩ h
 ·exact h.elim
theorem Good.frz {res : Result Next} (h : Good P N w0 own0 hdr0 Fr a (frzK K) res) : Good P N w0 own0 hdr0 Fr a K res := by
 obtain ⟨v, w', x, s', h1, hK, own, hdr, r, hv⟩ := h
 unfold frzK at hK
 split at hK
 ·rename_i id ver
  split at hK
  ·rename_i dp sz xs hk
   obtain ⟨hh, hK⟩ := hK
   obtain ⟨o1, o2⟩ := St.obj_ok hk (by simp)
   obtain ⟨_, ht⟩ := r.arrAt o2
   have hv' : v = hdr id := hv.2 o1.symm
   have hal := r.ne_al (id := id) (by rw [o2]; simp)
   have h := r.make (id := id) (ids := []) (k := .dead) (F := fun _ => False) (v := undef) (w' := w') ⟨hal, by simp⟩ hh (by simp) (by simp) (Ext.refl _ _) (fun b hb => hb.elim) (fun rc => by
    unfold RO
    rw [ob_new (by simp)]
    simp [ownTo, hdrTo])
   rw [St.kill_nil] at h
   refine ⟨v, w', _, _, h1, hK, _, _, h.1, ?_⟩
   show Pers _ _ _ _
   rw [hv']
   refine Top.pers ht (fun c hc => ⟨hc.1, fun j hj => ?_⟩) (fun c hc => ⟨r.lt id c hc, fun j hj => ?_⟩)
   ·simp only [ownTo] at hj
    split at hj
    ·exact hj
    ·simp at hj; exact hc.2 j hj
   ·simp only [ownTo] at hj
    split at hj
    ·exact hj
    ·simp at hj; rename_i hne; exact hne (r.dis j id c hj hc)
  ·exact hK.elim
 ·exact hK.elim
theorem snd_lit' {t e : TypeId} {i : TypeInfo} {d n : Nat} {zs : List X} {parts : Array (Nat × Operand)} {ps : List (Nat × Nat × X)} (r : RelX P N w0 own0 hdr0 Fr own hdr s a w) (ho : o.op = .buildSlice t n parts)
    (ht : elemOf? P t = some (e, i)) (hz : zeroXs P e = some zs) (hd : digParts P (fun k => some (e, k * i.size, i.size)) parts.toList = some ps) (h : stepO P s (.lit d i.size zs n ps) K) :
    Good P N w0 own0 hdr0 Fr a K ((execOp a.eval o).run P w) := by
  have main : ∀ K : AV → St → Prop, litA s d i.size zs n ps K → Good P N w0 own0 hdr0 Fr a K ((execOp a.eval o).run P w) := by
   intro K h
   obtain ⟨v, w', x, s', h1, h2, h3⟩ := snd_lit r ht hz hd h
   have run : (execOp a.eval o).run P w = .ok (.value v) w' := by
    simp only [execOp, ho]
    have : (parts.map fun (i, x) => (i, a.eval x)) = (parts.toList.map fun p => (p.1, a.eval p.2)).toArray := by
      apply Array.ext'
      simp
    simp [this, h1]
   rw [run]
   exact Good.mk' h2 h3
  rcases h with h | h
  · exact main K h
  · exact (main _ h).frz
theorem snd_fld' {t : TypeId} {fs : Array Field} {f : Nat} {fd : Field} {n : Option Nat} {x : Operand} {x' : X} (r : RelX P N w0 own0 hdr0 Fr own hdr s a w) (ho : o.op = .field t x f) (ht : fieldsOf P t = some fs) (hf : fs[f]? = some fd)
  (hn : numOf P fd.type = some n) (hx : digX P t x = some x') (h : stepO P s (.fld x' fd.offset n) K) : GoodQ P N w0 own0 hdr0 Fr F a w K (execOp a.eval o) := by
 simp only [stepO] at h
 split at h
 ·rename_i cs hcs
  split at h
  ·rename_i v hv
   have h1 := ev_sound r hx
   rw [hcs] at h1
   obtain ⟨u, h2, h3⟩ := snd_fld (K := K) r ht hf hn h1 hv
   have run : ∀ w' : World, (execOp a.eval o).run P w' = .ok (.value u) w' := by intro w'; simp [execOp, ho, h2]
   exact GoodQ.val r run h3 h
  ·exact h.elim
 ·exact h.elim
theorem snd_load' {t : TypeId} {n : Option Nat} {x : Operand} {x' : X} (r : RelX P N w0 own0 hdr0 Fr own hdr s a w) (ho : o.op = .load t x) (hn : numOf P t = some n) (hx : digX P 0 x = some x') (h : stepO P s (.load n x') K) :
  Good P N w0 own0 hdr0 Fr a K ((execOp a.eval o).run P w) := by
 obtain ⟨u, y, b, h1, h2, h3, _⟩ := snd_load r hn (ev_sound r hx) h
 have run : (execOp a.eval o).run P w = .ok (.value u) w := by simp [execOp, ho, h1 w rfl]
 rw [run]
 exact Good.val r h3 h2
def stillA (s : St) : AV → Prop
 | .c (.dpt _) => True
 | .c (.cpt _) => True
 | .c (.ptr id _ _) | .c (.ept id _ _ _) | .c (.spt id _ _ _ _ _ _) => id ∈ s.hold
 | _ => False
def Now (w : World) (own : Nat → Nat → Prop) (hold : List Nat) (b : Nat) : Prop := b < w.heap.size ∧ ∀ id, own id b → id ∈ hold
theorem sq_load {t : TypeId} {n : Option Nat} {x : Operand} {x' : X} (r : RelX P N w0 own0 hdr0 Fr own hdr s a w) (ho : o.op = .load t x) (hn : numOf P t = some n) (hx : digX P 0 x = some x') (hst : stillA s (s.ev x')) (h : stepO P s (.load n x') K) :
  GoodQ P N w0 own0 hdr0 Fr (Now w own s.hold) a w K (execOp a.eval o) := by
 obtain ⟨u, y, b, h1, h2, h3, h4⟩ := snd_load r hn (ev_sound r hx) h
 suffices hb : Now w own s.hold b from ⟨u, y, s, fun w' hw' => by simp [execOp, ho, h1 w' (hw' b hb)], h2, own, hdr, r, h3⟩
 unfold stillA at hst
 split at hst
 ·rename_i hp
  rw [hp] at h4
  exact ⟨h4.1, fun id hid => absurd hid (h4.2 id)⟩
 ·rename_i hp
  rw [hp] at h4
  exact ⟨h4.1, fun id hid => absurd hid (h4.2 id)⟩
 ·rename_i hp
  rw [hp] at h4
  exact ⟨r.lt _ _ h4, fun id hid => r.dis _ _ _ h4 hid ▸ hst⟩
 ·rename_i hp
  rw [hp] at h4
  exact ⟨r.lt _ _ h4, fun id hid => r.dis _ _ _ h4 hid ▸ hst⟩
 ·rename_i hp
  rw [hp] at h4
  exact ⟨r.lt _ _ h4, fun id hid => r.dis _ _ _ h4 hid ▸ hst⟩
 ·exact hst.elim
theorem snd_store' {t : TypeId} {n : Option Nat} {i : TypeInfo} {x v : Operand} {x' v' : X} (r : RelX P N w0 own0 hdr0 Fr own hdr s a w) (ho : o.op = .store t x v) (hi : P.info? t = some i) (hn : n.getD 1 = i.size) (hx : digX P 0 x = some x') (hv : digX P t v = some v')
  (h : stepO P s (.store n x' v') K) : Good P N w0 own0 hdr0 Fr a K ((execOp a.eval o).run P w) := by
 have h1 := ev_sound r hx
 have h2 := ev_sound r hv
 have run : ∀ w', (Instr.storeAt t (a.eval x) (a.eval v)).run P w = .ok () w' → (execOp a.eval o).run P w = .ok .skip w' := fun w' hw => by simp [execOp, ho, hw]
 simp only [stepO, storeA] at h
 split at h
 ·rename_i id ver off hp
  rw [hp] at h1
  split at h
  ·rename_i cs hk
   obtain ⟨g1, g2, g3, g4, g5, g6⟩ := h
   obtain ⟨w', h3, h4⟩ := snd_store_box (K := K) r hi hn h1 h2 hk g1 g2 g3 g4 g5
   rw [run w' h3]
   exact h4.skip g6
  ·exact h.elim
 ·rename_i id ver k off hp
  rw [hp] at h1
  split at h
  ·rename_i dp y hk
   split at h
   ·rename_i ds dp' ids hps
    obtain ⟨g1, g2, g3, g4, g5, g6, g7, g8, g9⟩ := h
    obtain ⟨w', h3, h4⟩ := snd_store_elem r hi hn h1 h2 hk hps g1 g2 g3 g4 g5 g6 g7 g8
    rw [run w' h3]
    exact h4.skip g9
   ·exact h.elim
  ·exact h.elim
 ·rename_i id ver ev p q k off hp
  rw [hp] at h1
  split at h
  ·rename_i dp y hk
   split at h
   ·rename_i u hu
    rw [hu] at h2
    obtain ⟨rfl, g1, rfl, g2, g3, g4, g5⟩ := h
    obtain ⟨w', h3, h4⟩ := snd_store_nest r hi hn h1 h2 hk g1 g2 g3 g4
    rw [run w' h3]
    exact h4.skip g5
   ·exact h.elim
  ·exact h.elim
 ·exact h.elim
theorem snd_fad' {t : TypeId} {fs : Array Field} {f : Nat} {fd : Field} {i : TypeInfo} {x : Operand} {x' : X} (r : RelX P N w0 own0 hdr0 Fr own hdr s a w) (ho : o.op = .fieldAddr t x f) (ht : fieldsOf P t = some fs) (hf : fs[f]? = some fd)
  (hi : P.info? fd.type = some i) (hs : i.size ≠ 0) (hx : digX P 0 x = some x') (h : stepO P s (.fad x' fd.offset) K) : GoodQ P N w0 own0 hdr0 Fr F a w K (execOp a.eval o) := by
 have h1 := ev_sound r hx
 have run : ∀ b off, a.eval x = .pointer (some ⟨b, off, none⟩) → ∀ w' : World, (execOp a.eval o).run P w' = .ok (.value (.pointer (some ⟨b, off + fd.offset, none⟩))) w' := fun b off he w' => by
  simp [execOp, ho, he, snd_fad (w := w') (b := b) (off := off) ht hf hi hs]
 have stale : ∀ v, (∃ b off, a.eval x = .pointer (some ⟨b, off, none⟩)) ∨ v → True := fun _ _ => trivial
 simp only [stepO] at h
 split at h
 ·rename_i id ver off hp
  rw [hp] at h1
  obtain ⟨h, hlive⟩ := h
  split at hlive
  ·rename_i cs hk
   obtain ⟨q1, q2⟩ := St.obj_ok hk (by simp)
   obtain ⟨b, h2, h3⟩ := h1.2 q1.symm
   exact GoodQ.val r (run b off h3) (x := .c (.ptr id ver (off + fd.offset))) ⟨h1.1, fun _ => ⟨b, h2, rfl⟩⟩ h
  ·exact hlive.elim
 ·rename_i id ver k off hp
  rw [hp] at h1
  obtain ⟨h, hlive⟩ := h
  obtain ⟨b, n, cap, h2, h3, h4⟩ := h1.2 hlive.symm
  exact GoodQ.val r (run b _ h4) (x := .c (.ept id ver k (off + fd.offset))) ⟨h1.1, fun _ => ⟨b, n, cap, h2, h3, by rw [Nat.add_assoc]⟩⟩ h
 ·rename_i ds hp
  rw [hp] at h1
  obtain ⟨b, off, h2, h3, h4⟩ := h1
  refine GoodQ.val r (run b off h2) (x := .c (.dpt (ds.drop fd.offset))) ⟨b, off + fd.offset, rfl, h3, fun j d hj => ?_⟩ h
  rw [List.getElem?_drop] at hj
  obtain ⟨u, h5, h6⟩ := h4 _ d hj
  exact ⟨u, by rw [Nat.add_assoc]; exact h5, h6⟩
 ·rename_i ds hp
  rw [hp] at h1
  obtain ⟨b, off, h2, h3, h4⟩ := h1
  refine GoodQ.val r (run b off h2) (x := .c (.cpt (ds.drop fd.offset))) ⟨b, off + fd.offset, rfl, h3, fun j d hj => ?_⟩ h
  rw [List.getElem?_drop] at hj
  obtain ⟨u, h5, h6⟩ := h4 _ d hj
  exact ⟨u, by rw [Nat.add_assoc]; exact h5, h6⟩
 ·rename_i id ver ev p q k off hp
  rw [hp] at h1
  obtain ⟨h, hlive, hev⟩ := h
  obtain ⟨b, n, cap, h2, h3, h4⟩ := h1.2 hlive.symm hev.symm
  exact GoodQ.val r (run b _ h4) (x := .c (.spt id ver ev p q k (off + fd.offset))) ⟨h1.1, fun _ _ => ⟨b, n, cap, h2, h3, by rw [Nat.add_assoc]⟩⟩ h
 ·exact h.elim
theorem snd_iad' {t e : TypeId} {i : TypeInfo} {x n : Operand} {x' n' : X} {u : TypeId} (r : RelX P N w0 own0 hdr0 Fr own hdr s a w) (ho : o.op = .indexAddr t x n) (ht : elemOf? P t = some (e, i)) (hx : digX P t x = some x') (hn : digX P u n = some n')
  (h : stepO P s (.iad i.size x' n') K) : GoodQ P N w0 own0 hdr0 Fr F a w K (execOp a.eval o) := by
 have h1 := ev_sound r hx
 have h2 := ev_sound r hn
 simp only [stepO] at h
 split at h
 ·rename_i c k m hc hm
  rw [hc] at h1
  rw [hm] at h2
  obtain ⟨v, y, h3, h4, h5⟩ := snd_iad (K := K) (k := k) r ht h1 h
  have run : ∀ w' : World, (execOp a.eval o).run P w' = .ok (.value v) w' := by intro w'; simp [execOp, ho, sc_of h2, h3]
  exact GoodQ.val r run h5 h4
 ·exact h.elim
theorem snd_flit {t e : TypeId} {i : TypeInfo} {d n : Nat} {zs : List X} {parts : Array (Nat × Operand)} {ps : List (Nat × Nat × X)} (r : RelX P N w0 own0 hdr0 Fr own hdr s a w) (ho : o.op = .buildSlice t n parts)
  (ht : elemOf? P t = some (e, i)) (hz : zeroXs P e = some zs) (hd : digParts P (fun k => some (e, k * i.size, i.size)) parts.toList = some ps) (h : stepO P s (.flit d i.size zs n ps) K) :
  Good P N w0 own0 hdr0 Fr a K ((execOp a.eval o).run P w) := by simp only [stepO] at h
theorem snd_flen {K : AV → St → Prop} {o : Oper} {t e : TypeId} {x : Operand} {x' : X} (r : RelX P N w0 own0 hdr0 Fr own hdr s a w) (ho : o.op = .call { callee := .builtin .len, args := #[x], argTypes := #[t] })
  (ht : P.underlying t = some (.slice e)) (hx : digX P t x = some x') (h : stepO P s (.flen x') K) : GoodQ P N w0 own0 hdr0 Fr F a w K (execOp a.eval o) := by simp only [stepO] at h
theorem snd_fiad {t e : TypeId} {i : TypeInfo} {x n : Operand} {x' n' : X} {u : TypeId} (r : RelX P N w0 own0 hdr0 Fr own hdr s a w) (ho : o.op = .indexAddr t x n) (ht : elemOf? P t = some (e, i)) (hx : digX P t x = some x') (hn : digX P u n = some n')
  (h : stepO P s (.fiad i.size x' n') K) : GoodQ P N w0 own0 hdr0 Fr F a w K (execOp a.eval o) := by simp only [stepO] at h
theorem snd_aad {t : TypeId} {i : TypeInfo} {x m : Operand} {x' m' : X} {n : Nat} {u u' : TypeId} (r : RelX P N w0 own0 hdr0 Fr own hdr s a w) (ho : o.op = .indexAddr t x m) (ht : arrOf? P t = some (n, i)) (hx : digX P u' x = some x') (hn : digX P u m = some m')
  (h : stepO P s (.aad n i.size x' m') K) : GoodQ P N w0 own0 hdr0 Fr F a w K (execOp a.eval o) := by simp only [stepO] at h
theorem snd_ix {t : TypeId} {x n : Operand} {x' n' : X} {u : TypeId} (r : RelX P N w0 own0 hdr0 Fr own hdr s a w) (ho : o.op = .index t x n) (ht : P.underlying t = some .string) (hx : digX P t x = some x') (hn : digX P u n = some n')
  (h : stepO P s (.ix x' n') K) : GoodQ P N w0 own0 hdr0 Fr F a w K (execOp a.eval o) := by simp only [stepO] at h
theorem snd_mk' {t e : TypeId} {i : TypeInfo} {d : Nat} {zs : List X} {n c : Operand} {n' : X} {u : TypeId} (r : RelX P N w0 own0 hdr0 Fr own hdr s a w) (ho : o.op = .makeSlice t n c) (ht : elemOf? P t = some (e, i)) (hz : zeroXs P e = some zs)
  (hn : digX P u n = some n') (hnc : a.eval n = a.eval c) (h : stepO P s (.mk d i.size zs i.bytes n') K) : Good P N w0 own0 hdr0 Fr a K ((execOp a.eval o).run P w) := by
 have h1 := ev_sound r hn
 simp only [stepO] at h
 split at h
 ·rename_i k m hm
  rw [hm] at h1
  obtain ⟨h2, h3, h4, h5, h6⟩ := h
  split at h6
  ·rename_i ds dp hp
   obtain ⟨v, w', h7, h8⟩ := snd_mk (d := d) (k := k) r ht hz h2 h3 h4 h5 hp
   have run : (execOp a.eval o).run P w = .ok (.value v) w' := by
    simp only [execOp, ho, ← hnc, sc_of h1]
    simp [h7]
   rw [run]
   exact Good.mk' h6 h8
  ·exact h6.elim
 ·exact h.elim
theorem snd_ext {x : Operand} {k : Nat} {x' : X} {u : TypeId} (r : RelX P N w0 own0 hdr0 Fr own hdr s a w) (ho : o.op = .extract x k) (hx : digX P u x = some x') (h : stepO P s (.ext x' k) K) : GoodQ P N w0 own0 hdr0 Fr F a w K (execOp a.eval o) := by
 have h1 := ev_sound r hx
 simp only [stepO] at h
 split at h
 ·rename_i l hl
  rw [hl] at h1
  split at h
  ·rename_i v hv
   obtain ⟨vs, h2, h3, h4⟩ := h1
   have hlt : k < vs.size := by rw [h3]; exact (List.getElem?_eq_some_iff.1 hv).1
   have run : ∀ w' : World, (execOp a.eval o).run P w' = .ok (.value vs[k]) w' := by
    intro w'
    simp only [execOp, ho, h2, Instr.extract, Array.getElem?_eq_getElem hlt]
    simp
   have h5 := h4 k v _ hv (Array.getElem?_eq_getElem hlt)
   refine GoodQ.val r run (x := v) ?_ h
   cases v with
   | c c => exact h5
   | g xs => exact h5
   | t l => exact h5.elim
  ·exact h.elim
 ·exact h.elim
theorem run_s2s {t e : TypeId} {b n c : Nat} {cur : Array Value} {e' : TypeId} (ht : P.underlying t = some (.slice e)) (he : P.underlying e = some (.int .u8)) (hb : w.heap[b]? = some (.cells cur e' (0, 0))) :
  (convert t t (.slice (some ⟨b, 0, none⟩) n c)).run P w = .ok (.slice (some ⟨b, 0, none⟩) n c) (w.freeze ⟨b, cur.size, none⟩ 1) := by
 have hsh : w.shape? b = some (e', cur.size) := by unfold World.shape?; rw [hb]
 simp [convert, run_underlying ht, run_underlying he, markStringish, hsh]
theorem freeze_at {b n : Nat} {cur : Array Value} {e' : TypeId} (hb : w.heap[b]? = some (.cells cur e' (0, 0))) : (w.freeze ⟨b, n, none⟩ 1).heap[b]? = some (.cells cur e' (n, n + 1)) := by
 unfold World.freeze
 rw [if_neg (by decide)]
 simp [Array.getElem?_modify, hb]
theorem freeze_old {b n c : Nat} (hc : c ≠ b) : (w.freeze ⟨b, n, none⟩ 1).heap[c]? = w.heap[c]? := by
 unfold World.freeze
 rw [if_neg (by decide)]
 simp [Array.getElem?_modify, Ne.symm hc]
theorem freeze_size {b n : Nat} : (w.freeze ⟨b, n, none⟩ 1).heap.size = w.heap.size := by
 unfold World.freeze
 rw [if_neg (by decide)]
 simp
theorem snd_s2s {t e : TypeId} {x : Operand} {x' : X} (r : RelX P N w0 own0 hdr0 Fr own hdr s a w) (ho : o.op = .convert t t x) (ht : P.underlying t = some (.slice e)) (he : P.underlying e = some (.int .u8))
  (hx : digX P t x = some x') (h : stepO P s (.s2s x') K) : Good P N w0 own0 hdr0 Fr a K ((execOp a.eval o).run P w) := by
 simp only [stepO] at h
 split at h
 ·rename_i id ver hev
  split at h
  ·rename_i dp sz y ys hk
   obtain ⟨hh, hK⟩ := h
   have h1 := ev_sound r hx
   rw [hev] at h1
   obtain ⟨o1, o2⟩ := St.obj_ok hk (by simp)
   obtain ⟨_, ht'⟩ := r.arrAt o2
   have hv := h1.2 o1.symm
   rcases ht' with ⟨e0, _⟩ | ⟨b, cap, cur, e', us, Fs, g1, g2, g3, g4, g5, g6, g7, g8, g9, g10, g11⟩
   ·simp [DV.rows] at e0
   have hrun : (execOp a.eval o).run P w = .ok (.value (.slice (some ⟨b, 0, none⟩) (DV.sl sz (y :: ys)).rows.length cap)) (w.freeze ⟨b, cur.size, none⟩ 1) := by
    rw [g1] at hv
    simp [execOp, ho, hv, run_s2s ht he g2]
   rw [hrun]
   have hal := r.ne_al (id := id) (by rw [o2]; simp)
   have hext : Ext w (w.freeze ⟨b, cur.size, none⟩ 1) (Mine own id []) := by
    refine ⟨?_, ?_, ?_, by rw [freeze_size]; exact Nat.le_refl _, fun c hc hn => freeze_old fun e => hn ⟨id, .inl rfl, e ▸ g3⟩, ?_⟩ <;> (unfold World.freeze; rw [if_neg (by decide)]); exact Nat.le_refl _
   have h := r.make (id := id) (ids := []) (k := .dead) (F := fun _ => False) (v := undef) (w' := w.freeze ⟨b, cur.size, none⟩ 1) ⟨hal, by simp⟩ hh (by simp) (by simp) hext (fun b hb => hb.elim) (fun rc => by
    unfold RO
    rw [ob_new (by simp)]
    simp [ownTo, hdrTo])
   rw [St.kill_nil] at h
   have free : ∀ c, Free w own c → (w.freeze ⟨b, cur.size, none⟩ 1).heap[c]? = w.heap[c]? ∧ Free (w.freeze ⟨b, cur.size, none⟩ 1) (ownTo own id [] fun _ => False) c := by
    intro c hc
    refine ⟨freeze_old fun e => hc.2 id (e ▸ g3), by rw [freeze_size]; exact hc.1, fun j hj => ?_⟩
    simp only [ownTo] at hj
    split at hj
    ·exact hj
    ·simp at hj; exact hc.2 j hj
   have mine : ∀ c, own id c → Free (w.freeze ⟨b, cur.size, none⟩ 1) (ownTo own id [] fun _ => False) c := by
    intro c hc
    refine ⟨by rw [freeze_size]; exact r.lt id c hc, fun j hj => ?_⟩
    simp only [ownTo] at hj
    split at hj
    ·exact hj
    ·simp at hj; rename_i hne; exact hne (r.dis j id c hj hc)
   refine ⟨_, _, _, _, .inl rfl, hK, _, _, h.1, ?_⟩
   show Pers _ _ _ _
   rw [show DV.sl sz (y :: ys) = DV.sl (DV.sl sz (y :: ys)).esz (DV.sl sz (y :: ys)).rows from rfl]
   refine .sl _ _ b 0 cap us g4 g5 (mine b g3) g7 (fun i j cs d e1 e2 => ?_) fun i j cs d e1 e2 => ?_
   ·rw [Nat.zero_add]
    simp [World.cell?, freeze_at g2, g8 i j cs d e1 e2]
   ·exact ((g11 i j cs d e1 e2).mono (fun h => h) free (Fs i j) fun c hc => ⟨freeze_old (g9 i j c hc).2, hc⟩).toPers (fun _ h => h) fun c hc => mine c (g9 i j c hc).1
  ·exact h.elim
 ·exact h.elim
end
end Hearth

/- The abstract machine: calls. -/
namespace Hearth
open Go
section
variable {P : Program} {N : Nat} {w0 : World} {own0 : Nat → Nat → Prop} {hdr0 : Nat → Value} {Fr : List ((Nat → Prop) × World)} {own : Nat → Nat → Prop} {hdr : Nat → Value} {s : St} {a : Act} {w : World}
def cellOf (ra : List RA) (vs : Array Value) (q : Nat) : Value :=
 match ra[q / 64]? with
 | some (.one _) => vs.getD (q / 64) undef
 | some (.agg _) => match vs.getD (q / 64) undef with
  | .agg us => us.getD (q % 64) undef
  | _ => undef
 | none => undef
def inR (d id : Nat) : Prop := rid d 0 ≤ id ∧ id < rid d 4096
instance (d id : Nat) : Decidable (inR d id) := inferInstanceAs (Decidable (_ ∧ _))
def given (bs : List (Nat × Nat × Bool)) (id : Nat) : Prop := ∃ q, (q, id, true) ∈ bs
open Classical in
noncomputable def ownC (own : Nat → Nat → Prop) (d : Nat) (ra : List RA) (bs : List (Nat × Nat × Bool)) (G : Nat → Nat → Prop) (id : Nat) : Nat → Prop :=
 if inR d id then (match resOK ra (id - rid d 0) with
  | .arr _ _ => G (id - rid d 0)
  | .box _ => G (id - rid d 0)
  | _ => fun _ => False)
 else if given bs id then fun _ => False else own id
open Classical in
noncomputable def hdrC (hdr : Nat → Value) (d : Nat) (ra : List RA) (bs : List (Nat × Nat × Bool)) (vs : Array Value) (id : Nat) : Value :=
 if inR d id then (match resOK ra (id - rid d 0) with
  | .arr _ _ => cellOf ra vs (id - rid d 0)
  | .box _ => cellOf ra vs (id - rid d 0)
  | _ => undef)
 else if given bs id then undef else hdr id
theorem resOK_cases (ra : List RA) (q : Nat) : resOK ra q = .dead ∨ (∃ dp x, resOK ra q = .arr dp x) ∨ ∃ cs : List DV, resOK ra q = .box (cs.map .d) := by
 unfold resOK
 have : ∀ x : RV, x.ok = .dead ∨ (∃ dp y, x.ok = .arr dp y) ∨ ∃ cs : List DV, x.ok = .box (cs.map .d) := by
  intro x; cases x
  ·exact .inl rfl
  ·exact .inr (.inl ⟨_, _, rfl⟩)
  ·exact .inr (.inr ⟨_, rfl⟩)
 split
 ·split
  ·exact this _
  ·exact .inl rfl
 ·split
  ·exact this _
  ·exact .inl rfl
 ·exact .inl rfl
theorem nodup_snd {bs : List (Nat × Nat × Bool)} (h : (bs.map (·.2.1)).Nodup) {e e' : Nat × Nat × Bool} (he : e ∈ bs) (he' : e' ∈ bs) (hid : e.2.1 = e'.2.1) : e = e' := by
 induction bs with
 | nil => cases he
 | cons x xs ih =>
  simp only [List.map_cons, List.nodup_cons] at h
  rcases List.mem_cons.1 he with h1 | h1 <;> rcases List.mem_cons.1 he' with h2 | h2
  ·rw [h1, h2]
  ·exact absurd (List.mem_map.2 ⟨e', h2, by rw [← hid, h1]⟩) h.1
  ·exact absurd (List.mem_map.2 ⟨e, h1, by rw [hid, h2]⟩) h.1
  ·exact ih h.2 h1 h2
theorem find_snd {bs : List (Nat × Nat × Bool)} (h : (bs.map (·.2.1)).Nodup) (id : Nat) :
  (∃ e ∈ bs, e.2.1 = id ∧ bs.find? (fun b => b.2.1 == id) = some e) ∨ ((∀ e ∈ bs, e.2.1 ≠ id) ∧ bs.find? (fun b => b.2.1 == id) = none) := by
 cases hf : bs.find? (fun b => b.2.1 == id) with
 | none => exact .inr ⟨fun e he => by simpa using List.find?_eq_none.1 hf e he, rfl⟩
 | some e => exact .inl ⟨e, List.mem_of_find?_eq_some hf, by simpa using List.find?_some hf, rfl⟩
theorem Pers.clean {w w' : World} {S S' : Nat → Prop} {x : DV} {v : Value} (h : x.isSc = true) (p : Pers w S x v) : Pers w' S' x v := by
 cases p with
 | sc v h1 => exact .sc v h1
 | emp => simp [DV.isSc] at h
 | sl => simp [DV.isSc] at h
theorem Own.clean {w : World} {S S' : Nat → Prop} {x : DV} {v : Value} {F : Nat → Prop} (p : Own w S true x v F) : Own w S' true x v F := by
 induction p with
 | sc v h1 F => exact .sc v h1 F
 | pers x v F hd p => cases hd
 | nil sz F => exact .nil sz F
 | sl sz xs b cap cur e us Fs F hb hF hcap hmax hcur hsz hc hFs hdis hn ih => exact .sl sz xs b cap cur e us Fs F hb hF hcap hmax hcur hsz hc hFs hdis ih
theorem Top.clean {w : World} {S S' : Nat → Prop} {sz : Nat} {xs : List (List DV)} {v : Value} {F : Nat → Prop} (h : Top w S true sz xs v F) : Top w S' true sz xs v F := by
 rcases h with h | ⟨b, cap, cur, e, us, Fs, h0, h1, h2, h3, h4, h5, h6, h7, h8, h9, h10⟩
 ·exact .inl h
 ·exact .inr ⟨b, cap, cur, e, us, Fs, h0, h1, h2, h3, h4, h5, h6, h7, h8, h9, fun i j cs d a b => (h10 i j cs d a b).clean⟩
theorem RVr.clean {w : World} {S S' : Nat → Prop} {x : RV} {v : Value} {F : Nat → Prop} (h : x.clean = true) (p : RVr w S x v F) : RVr w S' x v F := by
 cases x with
 | d x => exact Pers.clean h p
 | own dp x =>
  simp only [RV.clean] at h
  subst h
  exact ⟨p.1, p.2.clean⟩
 | box cs =>
  obtain ⟨b, vs, t, h1, h2, h3, h4, h5⟩ := p
  simp only [RV.clean, List.all_eq_true] at h
  exact ⟨b, vs, t, h1, h2, h3, h4, fun k c u a a' => Pers.clean (h c (List.mem_of_getElem? a)) (h5 k c u a a')⟩
theorem RAr.clean {w : World} {S S' : Nat → Prop} {t : Nat} {x : RA} {v : Value} {G : Nat → Nat → Prop} (h : x.clean = true) (p : RAr w S t x v G) : RAr w S' t x v G := by
 cases x with
 | one x => exact RVr.clean h p
 | agg xs =>
  obtain ⟨vs, h1, h2, h3, h4⟩ := p
  simp only [RA.clean, List.all_eq_true] at h
  exact ⟨vs, h1, h2, h3, fun k x u a b => RVr.clean (h x (List.mem_of_getElem? a)) (h4 k x u a b)⟩
theorem RAs.clean {w : World} {S S' : Nat → Prop} {ra : List RA} {v : Value} {G : Nat → Nat → Prop} (h : ra.all RA.clean = true) (p : RAs w S ra v G) : RAs w S' ra v G := by
 obtain ⟨vs, h1, h2, h3⟩ := p
 simp only [List.all_eq_true] at h
 exact ⟨vs, h1, h2, fun t a u x y => RAr.clean (h a (List.mem_of_getElem? x)) (h3 t a u x y)⟩
theorem oid_div {t k : Nat} (h : k < 64) : oid t k / 64 = t ∧ oid t k % 64 = k := by unfold oid; omega
def St.after' (s : St) (d : Nat) (ra : List RA) (bs : List (Nat × Nat × Bool)) (os : Outs) : St :=
  { s with ob := fun id =>
      if rid d 0 ≤ id ∧ id < rid d 4096 then ⟨(s.ob id).ver + 1, 0, resOK ra (id - rid d 0)⟩
      else match bs.find? (fun b => b.2.1 == id) with
        | some (_, _, true) => ⟨(s.ob id).ver + 1, 0, .dead⟩
        | some (q, _, false) => match (s.ob id).k with
          | .arr dp _ => ⟨(s.ob id).ver, (s.ob id).ev + 1, .arr dp (os.a q)⟩
          | _ => ⟨(s.ob id).ver, (s.ob id).ev + 1, .box ((os.b q).map .d)⟩
        | none => s.ob id }
theorem after_ob (s : St) (d : Nat) (ra : List RA) (bs : List (Nat × Nat × Bool)) (os : Outs) (id : Nat) : (s.after' d ra bs os).ob id =
    (if inR d id then ⟨(s.ob id).ver + 1, 0, resOK ra (id - rid d 0)⟩
      else match bs.find? (fun b => b.2.1 == id) with
        | some (_, _, true) => ⟨(s.ob id).ver + 1, 0, .dead⟩
        | some (q, _, false) => match (s.ob id).k with
          | .arr dp _ => ⟨(s.ob id).ver, (s.ob id).ev + 1, .arr dp (os.a q)⟩
          | _ => ⟨(s.ob id).ver, (s.ob id).ev + 1, .box ((os.b q).map .d)⟩
        | none => s.ob id) := rfl
theorem RelX.called' (r : RelX P N w0 own0 hdr0 Fr own hdr s a w) {d : Nat} {bs : List (Nat × Nat × Bool)} {ra : List RA} {os : Outs} {w' : World} {vs : Array Value} {S : Nat → Prop} {G : Nat → Nat → Prop}
  (hnd : (bs.map (·.2.1)).Nodup) (hh : ∀ b ∈ bs, b.2.1 ∉ s.hold) (hr : ∀ q, rid d 0 ≤ q → q < rid d 4096 → q ∉ s.hold)
  (hk : ∀ q id g, (q, id, g) ∈ bs → (∃ dp x, (s.ob id).k = .arr dp x) ∨ g = false ∧ ∃ cs, (s.ob id).k = .box cs)
  (hx : Ext w w' (fun b => ∃ q id g, (q, id, g) ∈ bs ∧ own id b))
  (hf : Fresh w w' G (fun b => ∃ q id, (q, id, true) ∈ bs ∧ own id b))
  (hS : (∀ b, S b → b < w'.heap.size ∧ (Free w own b ∨ w.heap.size ≤ b ∨ ∃ q id, (q, id, true) ∈ bs ∧ own id b) ∧ ∀ i, ¬ G i b) ∨ ra.all RA.clean = true ∧ bs = [])
  (hl : ra.length ≤ 64) (hvs : vs.size = ra.length) (hv : ∀ (t : Nat) (x : RA) (u : Value), ra[t]? = some x → vs[t]? = some u → RAr w' S t x u G)
  (ho : ∀ q id, (q, id, false) ∈ bs → match (s.ob id).k with
   | .arr dp x => (os.a q).isSl = true ∧ (os.a q).esz = x.esz ∧ Top w' S dp (os.a q).esz (os.a q).rows (hdr id) (own id)
   | .box _ => PAr P w' S (fun _ => False) (.box (os.b q)) (hdr id) (own id)
   | _ => False) :
  RelX P N w0 own0 hdr0 Fr (ownC own d ra bs G) (hdrC hdr d ra bs vs) (s.after' d ra bs os) a w' ∧
   (∀ c u, RC P w own hdr s.ob c u → RC P w' (ownC own d ra bs G) (hdrC hdr d ra bs vs) (s.after' d ra bs os).ob c u) ∧
   RS P w' (ownC own d ra bs G) (hdrC hdr d ra bs vs) (s.after' d ra bs os).ob (resV s d ra) (if h : vs.size = 1 then vs[0] else .tuple vs) := by
 have noAl : ∀ q id g, (q, id, g) ∈ bs → id ≠ alien := fun q id g hb => r.ne_al (by
  rcases hk q id g hb with ⟨dp, x, h⟩ | ⟨_, cs, h⟩ <;> rw [h] <;> simp)
 -- what is nobody's behind the call
 have gives : ∀ i b, G i b → w.heap.size ≤ b ∨ ∃ q id, (q, id, true) ∈ bs ∧ own id b := hf.new
 have ownc : ∀ id b, ownC own d ra bs G id b → (inR d id ∧ G (id - rid d 0) b) ∨ (¬ inR d id ∧ ¬ given bs id ∧ own id b) := by
  intro id b hb
  by_cases hin : inR d id
  ·simp only [ownC, if_pos hin] at hb
   rcases resOK_cases ra (id - rid d 0) with h | ⟨dp, x, h⟩ | ⟨cs, h⟩
   ·rw [h] at hb; exact hb.elim
   ·rw [h] at hb; exact .inl ⟨hin, hb⟩
   ·rw [h] at hb; exact .inl ⟨hin, hb⟩
  ·by_cases hg : given bs id
   ·simp only [ownC, if_neg hin, if_pos hg] at hb
   ·simp only [ownC, if_neg hin, if_neg hg] at hb
    exact .inr ⟨hin, hg, hb⟩
 have notG : ∀ id b, ¬ given bs id → own id b → ∀ i, ¬ G i b := by
  intro id b hg hb i hG
  rcases gives i b hG with h | ⟨q, id', h1, h2⟩
  ·have := r.lt id b hb; omega
  ·exact hg ⟨q, r.dis id id' b hb h2 ▸ h1⟩
 have upd : Upd own hdr s.ob w (ownC own d ra bs G) (hdrC hdr d ra bs vs) (s.after' d ra bs os).ob w' (fun id => inR d id ∨ ∃ q g, (q, id, g) ∈ bs) := by
  refine ⟨?_, fun id hU => ?_, ⟨hx.os, hx.tape, hx.output, hx.size, fun b hb hn => hx.same b hb fun ⟨q, id, g, h1, h2⟩ => hn ⟨id, .inr ⟨q, g, h1⟩, h2⟩, hx.drawn⟩, fun id hU b hb => ?_, fun i j b _ _ h1 h2 => ?_, fun id hU => ?_⟩
  ·rintro (h | ⟨q, g, h⟩)
   ·unfold inR rid alien at h; omega
   ·exact noAl q alien g h rfl
  ·simp only [not_or, not_exists] at hU
   have hg : ¬ given bs id := fun ⟨q, h⟩ => hU.2 q true h
   have hnone : bs.find? (fun b => b.2.1 == id) = none := by
    rcases find_snd hnd id with ⟨e, he, h1, _⟩ | ⟨_, h⟩
    ·exact absurd (by rw [← h1]; exact he) (hU.2 e.1 e.2.2)
    ·exact h
   refine ⟨by simp [ownC, hU.1, hg], by simp [hdrC, hU.1, hg], ?_⟩
   rw [after_ob, if_neg hU.1, hnone]
  ·rcases ownc id b hb with ⟨_, h⟩ | ⟨h1, h2, h⟩
   ·refine ⟨hf.lt _ b h, ?_⟩
    rcases gives _ b h with h | ⟨q, id', h1, h2⟩
    ·exact .inl h
    ·exact .inr ⟨id', .inr ⟨q, true, h1⟩, h2⟩
   ·exact ⟨Nat.lt_of_lt_of_le (r.lt id b h) hx.size, .inr ⟨id, hU, h⟩⟩
  ·rcases ownc i b h1 with ⟨a1, a2⟩ | ⟨a1, a2, a3⟩ <;> rcases ownc j b h2 with ⟨b1, b2⟩ | ⟨b1, b2, b3⟩
   ·have := hf.dis _ _ b a2 b2
    unfold inR at a1 b1; omega
   ·exact absurd a2 (notG j b b2 b3 _)
   ·exact absurd b2 (notG i b a2 a3 _)
   ·exact r.dis i j b a3 b3
  ·rw [after_ob]
   by_cases hin : inR d id
   ·rw [if_pos hin]
    exact ⟨Nat.le_succ _, fun h => by simp at h⟩
   ·rw [if_neg hin]
    rcases find_snd hnd id with ⟨⟨q, id', g⟩, he, h1, h2⟩ | ⟨hno, h2⟩
    ·simp only at h1; subst h1
     rw [h2]
     cases g with
     | true => exact ⟨Nat.le_succ _, fun h => by simp at h⟩
     | false =>
      have hng : ¬ given bs id' := fun ⟨q', h⟩ => by
       have := nodup_snd hnd he h rfl
       simp at this
      have hh' : hdrC hdr d ra bs vs id' = hdr id' := by simp [hdrC, hin, hng]
      have ho' := ho q id' he
      rcases hk q id' false he with ⟨dp, x, hk'⟩ | ⟨_, cs, hk'⟩
      ·simp only [hk'] at ho' ⊢
       refine ⟨Nat.le_refl _, fun _ => ⟨hh', ho'.2.1, fun _ b => ?_, Nat.le_succ _, fun h => by simp at h⟩⟩
       simp [ownC, hin, hng]
      ·simp only [hk'] at ho' ⊢
       refine ⟨Nat.le_refl _, fun _ => ⟨hh', rfl, fun _ b => ?_, Nat.le_succ _, fun h => by simp at h⟩⟩
       simp [ownC, hin, hng]
    ·rcases hU with h | ⟨q, g, h⟩
     ·exact absurd h hin
     ·exact absurd rfl (hno _ h)
 have free : ∀ b, b < w'.heap.size → (Free w own b ∨ w.heap.size ≤ b ∨ ∃ q id, (q, id, true) ∈ bs ∧ own id b) → (∀ i, ¬ G i b) → Free w' (ownC own d ra bs G) b := by
  intro b hb h hG
  refine ⟨hb, fun id hid => ?_⟩
  rcases ownc id b hid with ⟨_, a2⟩ | ⟨_, a2, a3⟩
  ·exact hG _ a2
  ·rcases h with h | h | ⟨q, id', h1, h2⟩
   ·exact h.2 id a3
   ·have := r.lt id b a3; omega
   ·exact a2 ⟨q, r.dis id id' b a3 h2 ▸ h1⟩
 -- the results
 have hres : ∀ (t : Nat) (x : RA) (u : Value), ra[t]? = some x → vs[t]? = some u → RAr w' (Free w' (ownC own d ra bs G)) t x u G := by
  intro t x u h1 h2
  have := hv t x u h1 h2
  rcases hS with h | ⟨h, _⟩
  ·exact this.mono fun b hb => free b (h b hb).1 (h b hb).2.1 (h b hb).2.2
  ·exact this.clean (List.all_eq_true.1 h x (List.mem_of_getElem? h1))
 have hcell : ∀ (t k : Nat) (x : RV) (u : Value), k < 64 → (ra[t]? = some (.one x) ∧ k = 0 ∧ vs[t]? = some u ∨ ∃ xs us, ra[t]? = some (.agg xs) ∧ xs[k]? = some x ∧ vs[t]? = some (.agg us) ∧ us[k]? = some u) →
   RVr w' (Free w' (ownC own d ra bs G)) x u (G (oid t k)) ∧ cellOf ra vs (oid t k) = u ∧ resOK ra (oid t k) = x.ok ∧ oid t k < 4096 := by
  intro t k x u hk h
  obtain ⟨o1, o2⟩ := oid_div (t := t) hk
  have lt4 : ∀ y, ra[t]? = some y → oid t k < 4096 := by
   intro y hy
   have := (List.getElem?_eq_some_iff.1 hy).1
   unfold oid; omega
  rcases h with ⟨h1, rfl, h2⟩ | ⟨xs, us, h1, h2, h3, h4⟩
  ·refine ⟨hres t _ u h1 h2, ?_, ?_, lt4 _ h1⟩
   ·simp [cellOf, o1, h1, h2]
   ·simp [resOK, o1, o2, h1]
  ·obtain ⟨us', e1, e2, e3, e4⟩ := hres t _ _ h1 h3
   simp at e1; subst e1
   refine ⟨e4 k x u h2 h4, ?_, ?_, lt4 _ h1⟩
   ·simp [cellOf, o1, o2, h1, h3, h4]
   ·simp [resOK, o1, o2, h1, h2]
 have hrange : ∀ q, q < 4096 → inR d (rid d q) ∧ rid d q - rid d 0 = q := by
  intro q hq
  unfold inR rid
  omega
 have hrc : ∀ (t k : Nat) (x : RV) (u : Value), k < 64 → (ra[t]? = some (.one x) ∧ k = 0 ∧ vs[t]? = some u ∨ ∃ xs us, ra[t]? = some (.agg xs) ∧ xs[k]? = some x ∧ vs[t]? = some (.agg us) ∧ us[k]? = some u) →
   RC P w' (ownC own d ra bs G) (hdrC hdr d ra bs vs) (s.after' d ra bs os).ob (resC s d (aid t k) x) u := by
  intro t k x u hk h
  obtain ⟨h1, h2, h3, h4⟩ := hcell t k x u hk h
  cases x with
  | d x => exact h1
  | own dp x =>
   obtain ⟨g1, g2⟩ := hrange _ h4
   have e : aid t k = oid t k := rfl
   simp only [resC, e, RC]
   rw [after_ob, if_pos g1]
   refine ⟨Nat.le_refl _, fun _ => ?_⟩
   simp only [hdrC, if_pos g1, g2, h3, RV.ok]
   exact h2.symm
  | box cs =>
   obtain ⟨g1, g2⟩ := hrange _ h4
   have e : aid t k = oid t k := rfl
   obtain ⟨b, vs', tt, k1, k2, k3, k4, k5⟩ := h1
   simp only [resC, e, RC]
   rw [after_ob, if_pos g1]
   refine ⟨Nat.le_refl _, fun _ => ?_⟩
   simp only [hdrC, if_pos g1, g2, h3, RV.ok, h2]
   exact ⟨b, k1, k1⟩
 have rc : ∀ c u, RC P w own hdr s.ob c u → RC P w' (ownC own d ra bs G) (hdrC hdr d ra bs vs) (s.after' d ra bs os).ob c u := fun c u => upd.rc r.dis r.objs
 refine ⟨?_, rc, ?_⟩
 ·have := r.upd upd (fun id hU => ?_) (fun _ id hU => ?_)
  ·exact this
  ·rcases hU with h | ⟨q, g, h⟩
   ·exact hr id h.1 h.2
   ·exact hh _ h
  ·unfold RO
   by_cases hin : inR d id
   ·rw [after_ob, if_pos hin]
    simp only [ownC, hdrC, if_pos hin]
    have hq : id - rid d 0 < 4096 := by unfold inR rid at hin; unfold rid; omega
    generalize id - rid d 0 = q at *
    have hoid : q = oid (q / 64) (q % 64) := by unfold oid; omega
    have hk64 : q % 64 < 64 := Nat.mod_lt _ (by omega)
    -- which result it is
    have which : resOK ra q ≠ .dead → ∃ y u, RVr w' (Free w' (ownC own d ra bs G)) y u (G q) ∧ cellOf ra vs q = u ∧ resOK ra q = y.ok := by
     intro hne
     obtain ⟨ok, h⟩ : ∃ ok, resOK ra q = ok := ⟨_, rfl⟩
     rw [h] at hne ⊢
     unfold resOK at h
     split at h
     ·rename_i y hy
      split at h
      ·rename_i h0
       have hlt : q / 64 < vs.size := by rw [hvs]; exact (List.getElem?_eq_some_iff.1 hy).1
       obtain ⟨g1, g2, _, _⟩ := hcell (q / 64) (q % 64) y _ hk64 (.inl ⟨hy, h0, Array.getElem?_eq_getElem hlt⟩)
       rw [← hoid] at g1 g2
       exact ⟨y, _, g1, g2, h.symm⟩
      ·exact absurd h.symm hne
     ·rename_i ys hy
      split at h
      ·rename_i y hy2
       have hlt : q / 64 < vs.size := by rw [hvs]; exact (List.getElem?_eq_some_iff.1 hy).1
       obtain ⟨us, e1, e2, e3, e4⟩ := hres (q / 64) _ _ hy (Array.getElem?_eq_getElem hlt)
       have hlt2 : q % 64 < us.size := by rw [e2]; exact (List.getElem?_eq_some_iff.1 hy2).1
       obtain ⟨g1, g2, _, _⟩ := hcell (q / 64) (q % 64) y _ hk64 (.inr ⟨ys, us, hy, hy2, by rw [← e1]; exact Array.getElem?_eq_getElem hlt, Array.getElem?_eq_getElem hlt2⟩)
       rw [← hoid] at g1 g2
       exact ⟨y, _, g1, g2, h.symm⟩
      ·exact absurd h.symm hne
     ·exact absurd h.symm hne
    rcases resOK_cases ra q with h | ⟨dp, x, h⟩ | ⟨cs, h⟩
    ·rw [h]; simp
    ·obtain ⟨y, u, g1, g2, g3⟩ := which (by rw [h]; simp)
     rw [h]
     simp only
     rw [h] at g3
     cases y with
     | own dp' y =>
      simp [RV.ok] at g3
      obtain ⟨rfl, rfl⟩ := g3
      rw [g2]
      exact g1
     | _ => simp [RV.ok] at g3
    ·obtain ⟨y, u, g1, g2, g3⟩ := which (by rw [h]; simp)
     rw [h]
     simp only
     rw [h] at g3
     cases y with
     | box cs' =>
      simp only [RV.ok, OK.box.injEq] at g3
      rw [g2]
      obtain ⟨b, us, t, k1, k2, k3, k4, k5⟩ := g1
      refine ⟨b, us, t, k1, k2, k3, by rw [g3]; simpa using k4, fun k c u' h3 h4 => ?_⟩
      rw [g3, List.getElem?_map, Option.map_eq_some_iff] at h3
      obtain ⟨c', h3, rfl⟩ := h3
      exact k5 k c' u' h3 h4
     | _ => simp [RV.ok] at g3
   ·rw [after_ob, if_neg hin]
    rcases find_snd hnd id with ⟨⟨q, id', g⟩, he, h1, h2⟩ | ⟨hno, h2⟩
    ·simp only at h1; subst h1
     rw [h2]
     cases g with
     | true =>
      have hg : given bs id' := ⟨q, he⟩
      simp [ownC, hdrC, hin, hg]
     | false =>
      have hng : ¬ given bs id' := fun ⟨q', h⟩ => by
       have := nodup_snd hnd he h rfl
       simp at this
      have ho' := ho q id' he
      have hbs : bs ≠ [] := fun e => by rw [e] at he; cases he
      have hSF : ∀ b, S b → Free w' (ownC own d ra bs G) b := by
       rcases hS with h | ⟨_, h⟩
       ·exact fun b hb => free b (h b hb).1 (h b hb).2.1 (h b hb).2.2
       ·exact absurd h hbs
      rcases hk q id' false he with ⟨dp, x, hk'⟩ | ⟨_, cs, hk'⟩
      ·simp only [hk'] at ho' ⊢
       simp only [ownC, hdrC, if_neg hin, if_neg hng]
       refine ⟨ho'.1, ho'.2.2.mono (fun h => h) (fun b hb => ⟨rfl, ?_⟩) fun b hb => ⟨rfl, hb⟩⟩
       exact hSF b hb
      ·simp only [hk'] at ho' ⊢
       simp only [ownC, hdrC, if_neg hin, if_neg hng]
       obtain ⟨b, us, t, g1, g2, g3, g4, g5⟩ := ho'
       refine ⟨b, us, t, g1, g2, g3, by simpa using g4, fun k c u h3 h4 => ?_⟩
       rw [List.getElem?_map, Option.map_eq_some_iff] at h3
       obtain ⟨c', h3, rfl⟩ := h3
       exact (g5 k c' u h3 h4).mono fun b hb => ⟨rfl, hSF b hb⟩
    ·rcases hU with h | ⟨q, g, h⟩
     ·exact absurd h hin
     ·exact absurd rfl (hno _ h)
 ·-- the results' values
  have hRA : ∀ (t : Nat) (x : RA) (u : Value), ra[t]? = some x → vs[t]? = some u → RV1 P w' (ownC own d ra bs G) (hdrC hdr d ra bs vs) (s.after' d ra bs os).ob (resA s d t x) u := by
   intro t x u h1 h2
   cases x with
   | one x => exact hrc t 0 x u (by omega) (.inl ⟨h1, rfl, h2⟩)
   | agg xs =>
    obtain ⟨us, rfl, e2, e3, e4⟩ := hres t _ _ h1 h2
    have hL : ∀ (k0 : Nat) (xs : List RV), (resL s d t k0 xs).length = xs.length ∧ ∀ (k : Nat) (c : AC), (resL s d t k0 xs)[k]? = some c → ∃ x, xs[k]? = some x ∧ c = resC s d (aid t (k0 + k)) x := by
     intro k0 xs
     induction xs generalizing k0 with
     | nil => exact ⟨rfl, fun k c h => by simp [resL] at h⟩
     | cons x xs ih =>
      obtain ⟨i1, i2⟩ := ih (k0 + 1)
      refine ⟨by simp [resL, i1], fun k c h => ?_⟩
      cases k with
      | zero => simp [resL] at h; exact ⟨x, rfl, h.symm⟩
      | succ k =>
       simp [resL] at h
       obtain ⟨y, h3, h4⟩ := i2 k c h
       exact ⟨y, by simpa using h3, by rw [h4, show k0 + 1 + k = k0 + (k + 1) by omega]⟩
    obtain ⟨l1, l2⟩ := hL 0 xs
    refine ⟨us, rfl, by rw [l1, e2], fun k c u h3 h4 => ?_⟩
    obtain ⟨x, h5, rfl⟩ := l2 k c h3
    rw [Nat.zero_add]
    have hk64 : k < 64 := Nat.lt_of_lt_of_le (List.getElem?_eq_some_iff.1 h5).1 e3
    exact hrc t k x u hk64 (.inr ⟨xs, us, h1, h5, h2, h4⟩)
  have hAs : ∀ (t0 : Nat) (as : List RA), (resAs s d t0 as).length = as.length ∧ ∀ (k : Nat) (c : AV), (resAs s d t0 as)[k]? = some c → ∃ x, as[k]? = some x ∧ c = resA s d (t0 + k) x := by
   intro t0 as
   induction as generalizing t0 with
   | nil => exact ⟨rfl, fun k c h => by simp [resAs] at h⟩
   | cons x xs ih =>
    obtain ⟨i1, i2⟩ := ih (t0 + 1)
    refine ⟨by simp [resAs, i1], fun k c h => ?_⟩
    cases k with
    | zero => simp [resAs] at h; exact ⟨x, rfl, h.symm⟩
    | succ k =>
     simp [resAs] at h
     obtain ⟨y, h3, h4⟩ := i2 k c h
     exact ⟨y, by simpa using h3, by rw [h4, show t0 + 1 + k = t0 + (k + 1) by omega]⟩
  have tup : ∀ {as : List RA}, as = ra → as.length ≠ 1 → RS P w' (ownC own d ra bs G) (hdrC hdr d ra bs vs) (s.after' d ra bs os).ob (.t (resAs s d 0 as)) (if h : vs.size = 1 then vs[0] else .tuple vs) := by
   intro as has hne
   subst has
   rw [dif_neg (by omega)]
   obtain ⟨l1, l2⟩ := hAs 0 as
   refine ⟨vs, rfl, by rw [l1, hvs], fun k x u h1 h2 => ?_⟩
   obtain ⟨y, h3, rfl⟩ := l2 k x h1
   rw [Nat.zero_add]
   exact hRA k y u h3 h2
  unfold resV
  split
  ·rename_i x
   have h1 : vs.size = 1 := by rw [hvs]; rfl
   rw [dif_pos h1]
   have := hRA 0 x vs[0] rfl (Array.getElem?_eq_getElem (by omega))
   unfold resA at this ⊢
   split <;> exact this
  ·rename_i hne
   refine tup rfl fun h1 => ?_
   match hra : ra, h1 with
   | [x], _ => exact hne x hra
theorem RelX.called (r : RelX P N w0 own0 hdr0 Fr own hdr s a w) {d : Nat} {bs : List (Nat × Nat × Bool)} {ra : List RA} {os : Outs} {w' : World} {vs : Array Value} {S : Nat → Prop} {G : Nat → Nat → Prop}
    (hnd : (bs.map (·.2.1)).Nodup) (hh : ∀ b ∈ bs, b.2.1 ∉ s.hold) (hr : ∀ q, rid d 0 ≤ q → q < rid d 4096 → q ∉ s.hold)
    (hk : ∀ q id g, (q, id, g) ∈ bs → (∃ dp x, (s.ob id).k = .arr dp x) ∨ g = false ∧ ∃ cs, (s.ob id).k = .box cs)
    (hx : Ext w w' (fun b => ∃ q id g, (q, id, g) ∈ bs ∧ own id b))
    (hf : Fresh w w' G (fun b => ∃ q id, (q, id, true) ∈ bs ∧ own id b))
    (hS : (∀ b, S b → b < w'.heap.size ∧ (Free w own b ∨ w.heap.size ≤ b ∨ ∃ q id, (q, id, true) ∈ bs ∧ own id b) ∧ ∀ i, ¬ G i b) ∨ ra.all RA.clean = true ∧ bs = [])
    (hl : ra.length ≤ 64) (hvs : vs.size = ra.length) (hv : ∀ (t : Nat) (x : RA) (u : Value), ra[t]? = some x → vs[t]? = some u → RAr w' S t x u G)
    (ho : ∀ q id, (q, id, false) ∈ bs → match (s.ob id).k with
      | .arr dp x => (os.a q).isSl = true ∧ (os.a q).esz = x.esz ∧ Top w' S dp (os.a q).esz (os.a q).rows (hdr id) (own id)
      | .box _ => PAr P w' S (fun _ => False) (.box (os.b q)) (hdr id) (own id)
      | _ => False) :
    RelV P N w0 own0 hdr0 Fr (s.after d ra bs os) a w' (resV s d ra) (if h : vs.size = 1 then vs[0] else .tuple vs) := by
  unfold St.after
  split
  · rename_i hD
    simp only [Bool.and_eq_true, List.isEmpty_iff] at hD
    obtain ⟨hD, rfl⟩ := hD
    have hx' : Ext w w' (fun _ => False) := ⟨hx.os, hx.tape, hx.output, hx.size, fun b hb _ => hx.same b hb (by simp), hx.drawn⟩
    obtain ⟨r', hrs⟩ := r.more hx'
    refine ⟨own, hdr, r', ?_⟩
    have hcell : ∀ (x : RV) (u : Value) (F : Nat → Prop), x.isD = true → (ra.all RA.clean = true → x.clean = true) → RVr w' S x u F → ∀ q, RC P w' own hdr s.ob (resC s d q x) u := by
      intro x u F hx hcl h q
      cases x with
      | own dp x => simp [RV.isD] at hx
      | box cs => simp [RV.isD] at hx
      | d x =>
        show Pers w' (Free w' own) x u
        rcases hS with hS | ⟨hS, _⟩
        · refine Pers.mono (fun b hb => ⟨rfl, (hS b hb).1, fun id hid => ?_⟩) h
          rcases (hS b hb).2.1 with h | h | ⟨_, _, h, _⟩
          · exact h.2 id hid
          · have := r.lt id b hid; omega
          · simp at h
        · exact Pers.clean (hcl hS) h
    have hRA : ∀ (t : Nat) (x : RA) (u : Value), ra[t]? = some x → vs[t]? = some u → RV1 P w' own hdr s.ob (resA s d t x) u := by
      intro t x u h1 h2
      have hxD := List.all_eq_true.1 hD x (List.mem_of_getElem? h1)
      have hxC : ra.all RA.clean = true → x.clean = true := fun h => List.all_eq_true.1 h x (List.mem_of_getElem? h1)
      have hxv := hv t x u h1 h2
      cases x with
      | one x => exact hcell x u _ hxD hxC hxv _
      | agg xs =>
        obtain ⟨us, rfl, e2, e3, e4⟩ := hxv
        have hL : ∀ (k0 : Nat) (xs : List RV), (resL s d t k0 xs).length = xs.length ∧ ∀ (k : Nat) (c : AC), (resL s d t k0 xs)[k]? = some c → ∃ x, xs[k]? = some x ∧ c = resC s d (aid t (k0 + k)) x := by
          intro k0 xs
          induction xs generalizing k0 with
          | nil => exact ⟨rfl, fun k c h => by simp [resL] at h⟩
          | cons x xs ih =>
            obtain ⟨i1, i2⟩ := ih (k0 + 1)
            refine ⟨by simp [resL, i1], fun k c h => ?_⟩
            cases k with
            | zero => simp [resL] at h; exact ⟨x, rfl, h.symm⟩
            | succ k =>
              simp [resL] at h
              obtain ⟨y, h3, h4⟩ := i2 k c h
              exact ⟨y, by simpa using h3, by rw [h4, show k0 + 1 + k = k0 + (k + 1) by omega]⟩
        obtain ⟨l1, l2⟩ := hL 0 xs
        refine ⟨us, rfl, by rw [l1, e2], fun k c u h3 h4 => ?_⟩
        obtain ⟨x, h5, rfl⟩ := l2 k c h3
        exact hcell x u _ (List.all_eq_true.1 hxD x (List.mem_of_getElem? h5)) (fun h => List.all_eq_true.1 (hxC h) x (List.mem_of_getElem? h5)) (e4 k x u h5 h4) _
    have hAs : ∀ (t0 : Nat) (as : List RA), (resAs s d t0 as).length = as.length ∧ ∀ (k : Nat) (c : AV), (resAs s d t0 as)[k]? = some c → ∃ x, as[k]? = some x ∧ c = resA s d (t0 + k) x := by
      intro t0 as
      induction as generalizing t0 with
      | nil => exact ⟨rfl, fun k c h => by simp [resAs] at h⟩
      | cons x xs ih =>
        obtain ⟨i1, i2⟩ := ih (t0 + 1)
        refine ⟨by simp [resAs, i1], fun k c h => ?_⟩
        cases k with
        | zero => simp [resAs] at h; exact ⟨x, rfl, h.symm⟩
        | succ k =>
          simp [resAs] at h
          obtain ⟨y, h3, h4⟩ := i2 k c h
          exact ⟨y, by simpa using h3, by rw [h4, show t0 + 1 + k = t0 + (k + 1) by omega]⟩
    have tup : ∀ {as : List RA}, as = ra → as.length ≠ 1 → RS P w' own hdr s.ob (.t (resAs s d 0 as)) (if h : vs.size = 1 then vs[0] else .tuple vs) := by
      intro as has hne
      subst has
      rw [dif_neg (by omega)]
      obtain ⟨l1, l2⟩ := hAs 0 as
      refine ⟨vs, rfl, by rw [l1, hvs], fun k x u h1 h2 => ?_⟩
      obtain ⟨y, h3, rfl⟩ := l2 k x h1
      rw [Nat.zero_add]
      exact hRA k y u h3 h2
    unfold resV
    split
    · rename_i x
      have h1 : vs.size = 1 := by rw [hvs]; rfl
      rw [dif_pos h1]
      have := hRA 0 x vs[0] rfl (Array.getElem?_eq_getElem (by omega))
      unfold resA at this ⊢
      split <;> exact this
    · rename_i hne
      refine tup rfl fun h1 => ?_
      match hra : ra, h1 with
      | [x], _ => exact hne x hra
  · have h := r.called' hnd hh hr hk hx hf hS hl hvs hv ho
    exact ⟨_, _, h.1, h.2.2⟩
end
end Hearth

/- The abstract machine: calls' arguments. -/
namespace Hearth
open Go
section
variable {P : Program} {N : Nat} {w0 : World} {own0 : Nat → Nat → Prop} {hdr0 : Nat → Value} {Fr : List ((Nat → Prop) × World)} {own : Nat → Nat → Prop} {hdr : Nat → Value} {s : St} {a : Act} {w : World}
inductive At : AV → GA → Nat → AC → PA → Prop where
 | one (c : AC) (p : PA) : At (.c c) (.one p) 0 c p
 | agg (cs : List AC) (ps : List PA) (k : Nat) (c : AC) (p : PA) (h : ps.length ≤ 64) (h1 : cs[k]? = some c) (h2 : ps[k]? = some p) : At (.g cs) (.agg ps) k c p
theorem At.lt {v : AV} {g : GA} {k : Nat} {c : AC} {p : PA} (h : At v g k c p) : k < 64 := by
 cases h with
 | one => omega
 | agg cs ps k c p h h1 h2 => exact Nat.lt_of_lt_of_le (List.getElem?_eq_some_iff.1 h2).1 h
theorem At.gaAt {v : AV} {g : GA} {k : Nat} {c : AC} {p : PA} (h : At v g k c p) {gas : List GA} {t : Nat} (hg : gas[t]? = some g) : gaAt gas (aid t k) = some p := by
 have hk := h.lt
 have h1 : aid t k / 64 = t := by unfold aid; omega
 have h2 : aid t k % 64 = k := by unfold aid; omega
 unfold Hearth.gaAt
 rw [h1, h2, hg]
 cases h with
 | one => rfl
 | agg cs ps k c p h h1 h2 => simp [GA.at, hk, h2]
theorem aid_inj {t k t' k' : Nat} (h : k < 64) (h' : k' < 64) (e : aid t k = aid t' k') : t = t' ∧ k = k' := by
 unfold aid at e; omega
theorem mem_bindC {q : Nat} {c : AC} {p : PA} {e : Nat × Nat × Bool} (h : e ∈ bindC q c p) : e.1 = q := by
 unfold bindC at h
 split at h <;> simp at h <;> rw [h]
theorem mem_bindL {t : Nat} {e : Nat × Nat × Bool} : ∀ {k0 : Nat} {cs : List AC} {ps : List PA}, e ∈ bindL t k0 cs ps ↔ ∃ j c p, cs[j]? = some c ∧ ps[j]? = some p ∧ e ∈ bindC (aid t (k0 + j)) c p
 | k0, [], ps => by simp [bindL]
 | k0, c :: cs, [] => by simp [bindL]
 | k0, c :: cs, p :: ps => by
  simp only [bindL, List.mem_append, mem_bindL (k0 := k0 + 1)]
  constructor
  ·rintro (h | ⟨j, c', p', h1, h2, h3⟩)
   ·exact ⟨0, c, p, rfl, rfl, h⟩
   ·exact ⟨j + 1, c', p', by simpa using h1, by simpa using h2, by rw [show k0 + (j + 1) = k0 + 1 + j by omega]; exact h3⟩
  ·rintro ⟨j, c', p', h1, h2, h3⟩
   cases j with
   | zero => simp at h1 h2; subst h1; subst h2; exact .inl h3
   | succ j => exact .inr ⟨j, c', p', by simpa using h1, by simpa using h2, by rw [show k0 + 1 + j = k0 + (j + 1) by omega]; exact h3⟩
theorem mem_bindG {t : Nat} {e : Nat × Nat × Bool} {v : AV} {g : GA} (hm : matchG P s v g) : e ∈ bindG t v g ↔ ∃ k c p, At v g k c p ∧ e ∈ bindC (aid t k) c p := by
 cases v with
 | c c =>
  cases g with
  | one p =>
   simp only [bindG]
   constructor
   ·intro h; exact ⟨0, c, p, .one c p, h⟩
   ·rintro ⟨k, c', p', h, h'⟩; cases h; exact h'
  | agg ps => exact hm.elim
 | g cs =>
  cases g with
  | one p => exact hm.elim
  | agg ps =>
   simp only [bindG, mem_bindL, Nat.zero_add]
   constructor
   ·rintro ⟨j, x, p, h1, h2, h3⟩; exact ⟨j, x, p, .agg cs ps j x p hm.2 h1 h2, h3⟩
   ·rintro ⟨k, c', p', h, h'⟩; cases h with | agg _ _ _ _ _ h h1 h2 => exact ⟨k, c', p', h1, h2, h'⟩
 | t xs => cases g <;> exact hm.elim
theorem matchGs_get : ∀ {avs : List AV} {gas : List GA}, matchGs P s avs gas → avs.length = gas.length ∧ ∀ (t : Nat) (v : AV) (g : GA), avs[t]? = some v → gas[t]? = some g → matchG P s v g
 | [], [], _ => by simp
 | v :: vs, g :: gs, h => by
  obtain ⟨h1, h2⟩ := matchGs_get h.2
  refine ⟨by simp [h1], fun t v' g' h3 h4 => ?_⟩
  cases t with
  | zero => simp at h3 h4; subst h3; subst h4; exact h.1
  | succ t => simp at h3 h4; exact h2 t v' g' h3 h4
 | [], _ :: _, h => h.elim
 | _ :: _, [], h => h.elim
theorem mem_bindGs {e : Nat × Nat × Bool} : ∀ {t0 : Nat} {avs : List AV} {gas : List GA}, matchGs P s avs gas → (e ∈ bindGs t0 avs gas ↔ ∃ t v g k c p, avs[t]? = some v ∧ gas[t]? = some g ∧ At v g k c p ∧ e ∈ bindC (aid (t0 + t) k) c p)
 | t0, [], gas, _ => by simp [bindGs]
 | t0, v :: vs, [], h => by exact h.elim
 | t0, v :: vs, g :: gs, h => by
  simp only [bindGs, List.mem_append, mem_bindG h.1, mem_bindGs (t0 := t0 + 1) h.2]
  constructor
  ·rintro (⟨k, c, p, h1, h2⟩ | ⟨t, v', g', k, c, p, h1, h2, h3, h4⟩)
   ·exact ⟨0, v, g, k, c, p, rfl, rfl, h1, h2⟩
   ·exact ⟨t + 1, v', g', k, c, p, by simpa using h1, by simpa using h2, h3, by rw [show t0 + (t + 1) = t0 + 1 + t by omega]; exact h4⟩
  ·rintro ⟨t, v', g', k, c, p, h1, h2, h3, h4⟩
   cases t with
   | zero => simp at h1 h2; subst h1; subst h2; exact .inl ⟨k, c, p, h3, h4⟩
   | succ t => exact .inr ⟨t, v', g', k, c, p, by simpa using h1, by simpa using h2, h3, by rw [show t0 + 1 + t = t0 + (t + 1) by omega]; exact h4⟩
theorem matchL_get : ∀ {cs : List AC} {ps : List PA}, matchL P s cs ps → cs.length = ps.length ∧ ∀ (k : Nat) (c : AC) (p : PA), cs[k]? = some c → ps[k]? = some p → matchC P s c p
 | [], [], _ => by simp
 | v :: vs, g :: gs, h => by
  obtain ⟨h1, h2⟩ := matchL_get h.2
  refine ⟨by simp [h1], fun t v' g' h3 h4 => ?_⟩
  cases t with
  | zero => simp at h3 h4; subst h3; subst h4; exact h.1
  | succ t => simp at h3 h4; exact h2 t v' g' h3 h4
 | [], _ :: _, h => h.elim
 | _ :: _, [], h => h.elim
theorem At.match {v : AV} {g : GA} {k : Nat} {c : AC} {p : PA} (h : At v g k c p) (hm : matchG P s v g) : matchC P s c p := by
 cases h with
 | one => exact hm
 | agg cs ps k c p h h1 h2 => exact (matchL_get hm.1).2 k c p h1 h2
theorem stabL_get : ∀ {cs : List AC} {ps : List PA}, cs.length = ps.length → stabL s cs ps = true → ∀ (k : Nat) (c : AC) (p : PA), cs[k]? = some c → ps[k]? = some p → stabC s c p = true
 | [], _, _, _, k, c, p, h, _ => by simp at h
 | c :: cs, [], h, _, _, _, _, _, _ => by simp at h
 | c :: cs, p :: ps, h, hs, k, c', p', h1, h2 => by
  simp only [stabL, Bool.and_eq_true] at hs
  cases k with
  | zero => simp at h1 h2; subst h1; subst h2; exact hs.1
  | succ k => simp at h1 h2; exact stabL_get (by simpa using h) hs.2 k c' p' h1 h2
theorem stabGs_get : ∀ {avs : List AV} {gas : List GA}, matchGs P s avs gas → stabGs s avs gas = true → ∀ (t : Nat) (v : AV) (g : GA) (k : Nat) (c : AC) (p : PA), avs[t]? = some v → gas[t]? = some g → At v g k c p → stabC s c p = true
 | [], _, _, _, t, v, g, k, c, p, h, _, _ => by simp at h
 | v :: vs, [], h, _, _, _, _, _, _, _, _, _, _ => h.elim
 | v :: vs, g :: gs, h, hs, t, v', g', k, c, p, h1, h2, h3 => by
  cases t with
  | zero =>
   simp at h1 h2; subst h1; subst h2
   cases h3 with
   | one => simp only [stabGs, Bool.and_eq_true] at hs; exact hs.1
   | agg cs ps k c p h4 h5 h6 => simp only [stabGs, Bool.and_eq_true] at hs; exact stabL_get (matchL_get h.1.1).1 hs.1 k c p h5 h6
  | succ t =>
   simp at h1 h2
   refine stabGs_get h.2 ?_ t v' g' k c p h1 h2 h3
   have hm := h.1
   cases v <;> cases g <;> first | exact hm.elim | (simp only [stabGs, Bool.and_eq_true] at hs; exact hs.2)
theorem looksL_get : ∀ {cs : List AC} {ps : List PA} (k : Nat) (c : AC) (p : PA), cs[k]? = some c → ps[k]? = some p → looksC c p = true → looksL cs ps = true
 | [], _, k, c, p, h, _, _ => by simp at h
 | c :: cs, [], _, _, _, _, h, _ => by simp at h
 | c :: cs, p :: ps, k, c', p', h1, h2, h3 => by
  simp only [looksL, Bool.or_eq_true]
  cases k with
  | zero => simp at h1 h2; subst h1; subst h2; exact .inl h3
  | succ k => simp at h1 h2; exact .inr (looksL_get k c' p' h1 h2 h3)
theorem looksGs_get : ∀ {avs : List AV} {gas : List GA}, matchGs P s avs gas → ∀ (t : Nat) (v : AV) (g : GA) (k : Nat) (c : AC) (p : PA), avs[t]? = some v → gas[t]? = some g → At v g k c p → looksC c p = true → looksGs avs gas = true
 | [], _, _, t, v, g, k, c, p, h, _, _, _ => by simp at h
 | v :: vs, [], h, _, _, _, _, _, _, _, _, _, _ => h.elim
 | v :: vs, g :: gs, h, t, v', g', k, c, p, h1, h2, h3, h4 => by
  cases t with
  | zero =>
   simp at h1 h2; subst h1; subst h2
   cases h3 with
   | one => simp only [looksGs, Bool.or_eq_true]; exact .inl h4
   | agg cs ps k c p h5 h6 h7 => simp only [looksGs, Bool.or_eq_true]; exact .inl (looksL_get k c p h6 h7 h4)
  | succ t =>
   simp at h1 h2
   have ih := looksGs_get h.2 t v' g' k c p h1 h2 h3 h4
   have hm := h.1
   cases v <;> cases g <;> first | exact hm.elim | (simp only [looksGs, Bool.or_eq_true]; exact .inr ih)
theorem FnOK.fval {f : FuncId} {first : List DA} {fs cv : Array Value} {dss : List (List CD)} {Sf : Nat → Prop} {C : FC} (he : Enters P f) (hfs : DAs w Sf first fs) (hsf : ∀ b, Sf b → b < w.heap.size) (hcv : cv.size = dss.length)
  (hc : ∀ (k : Nat) (ds : List CD) (u : Value), dss[k]? = some ds → cv[k]? = some u → PAr P w Sf Sf (.ptr ds) u (fun _ => False))
  (h : ∀ as R, C as R → FnOK P f (first.map DA.ga ++ as.map DA.ga ++ dss.map fun ds => .one (.ptr ds)) (fun ra _ => R ra)) : FVal P w Sf (.func (.func f) fs cv) C := by
 refine ⟨f, fs, cv, rfl, he, fun as R hC w' S' vs hw hsz hS' hvs => ?_⟩
 have hSf : ∀ b, Sf b → w'.heap[b]? = w.heap[b]? ∧ (S' b ∨ Sf b) := fun b hb => ⟨hw b hb, .inr hb⟩
 have key := (h as R hC).2 w' (fun b => S' b ∨ Sf b) (fun _ _ => False) (fs ++ vs ++ cv) (by simp [hfs.1, hvs.1, hcv])
 have ga : ∀ (t : Nat) (x : DA) (v : Value) (G : Nat → Nat → Prop), DAr w' (fun b => S' b ∨ Sf b) x v → GAr P w' (fun b => S' b ∨ Sf b) (fun b => b < w'.heap.size ∧ ∀ q, ¬ (fun _ _ => False : Nat → Nat → Prop) q b) t G x.ga v := by
  intro t x v G hx
  cases x with
  | one x => exact hx
  | agg xs =>
   obtain ⟨us, h1, h2, h3⟩ := hx
   refine ⟨us, h1, by simpa using h2.1, by simpa using h2.2, fun k x u h4 h5 => ?_⟩
   rw [List.getElem?_map, Option.map_eq_some_iff] at h4
   obtain ⟨y, h4, rfl⟩ := h4
   exact h3 k y u h4 h5
 have get : ∀ (t : Nat) (g : GA) (v : Value), (first.map DA.ga ++ as.map DA.ga ++ dss.map fun ds => GA.one (.ptr ds))[t]? = some g → (fs ++ vs ++ cv)[t]? = some v →
   GAr P w' (fun b => S' b ∨ Sf b) (fun b => b < w'.heap.size ∧ ∀ q, ¬ (fun _ _ => False : Nat → Nat → Prop) q b) t (fun _ _ => False) g v := by
  intro t g v h1 h2
  have hl1 : fs.size = first.length := hfs.1
  have hl2 : vs.size = as.length := hvs.1
  rw [Array.getElem?_append, Array.getElem?_append] at h2
  rw [List.getElem?_append, List.getElem?_append] at h1
  simp only [List.length_append, List.length_map, Array.size_append, hl1, hl2, List.getElem?_map, Option.map_eq_some_iff] at h1 h2
  by_cases a1 : t < first.length
  ·rw [if_pos (by omega), if_pos a1] at h1 h2
   simp only [Option.map_eq_some_iff] at h1
   obtain ⟨x, h3, rfl⟩ := h1
   exact ga t x v _ ((hfs.2 t x v h3 h2).mono hSf)
  ·by_cases a2 : t < first.length + as.length
   ·rw [if_pos a2, if_neg a1] at h1 h2
    simp only [Option.map_eq_some_iff] at h1
    obtain ⟨x, h3, rfl⟩ := h1
    exact ga t x v _ ((hvs.2 _ x v h3 h2).mono fun b hb => ⟨rfl, .inl hb⟩)
   ·rw [if_neg a2] at h1 h2
    simp only [Option.map_eq_some_iff] at h1
    obtain ⟨ds, h3, rfl⟩ := h1
    obtain ⟨b, off, h4, h5, h6⟩ := hc _ ds v h3 h2
    refine ⟨b, off, h4, .inr h5, fun k c hk => ?_⟩
    obtain ⟨u, h7, h8⟩ := h6 k c hk
    refine ⟨u, (cell_same (hw b h5)).trans h7, ?_⟩
    cases c with
    | d x => exact Pers.mono hSf h8
    | fv p C =>
     refine FVal.mono (fun b hb => ?_) hsz h8
     cases p with
     | true => exact (show False from hb).elim
     | false => exact ⟨hw b hb, Nat.lt_of_lt_of_le (hsf b hb) hsz, fun _ h => h⟩
 refine (key get (fun _ _ _ h => h.elim) (fun _ _ h => h.elim) (fun b hb => hb.elim (hS' b) fun hb => Nat.lt_of_lt_of_le (hsf b hb) hsz) (fun _ _ h => h.elim)).mono ?_
 rintro e w'' ⟨v, ra, os, G, h1, h2, h3, h4, h5, _⟩
 refine ⟨v, ra, G, h1, h2, ⟨h3.os, h3.tape, h3.output, h3.size, fun b hb _ => h3.same b hb fun ⟨_, h⟩ => h, h3.drawn⟩, ⟨h4.dis, h4.lt, fun i b hb => .inl ?_⟩, h5.mono fun b hb => ⟨hb.1, ?_, hb.2.2⟩⟩
 ·rcases h4.new i b hb with h | ⟨_, _, _, _, h⟩
  ·exact h
  ·exact h.elim
 ·rcases hb.2.1 with (h | h) | h | ⟨_, _, _, _, h⟩
  ·exact .inl h
  ·exact .inr (.inl h)
  ·exact .inr (.inr h)
  ·exact h.elim
theorem Pers.mono' {w : World} {S S' : Nat → Prop} (h : ∀ b, S b → S' b) {x : DV} {v : Value} (p : Pers w S x v) : Pers w S' x v := p.mono fun b hb => ⟨rfl, h b hb⟩
theorem rds_get : ∀ {cs : List AC} {ds : List DV}, s.rds cs = some ds → cs.length = ds.length ∧ ∀ (k : Nat) (d : DV), ds[k]? = some d → ∃ c, cs[k]? = some c ∧ s.rd c = some d
 | [], ds, h => by simp [St.rds] at h; subst h; simp
 | c :: cs, ds, h => by
  simp only [St.rds] at h
  split at h
  ·rename_i d ds' h1 h2
   simp at h; subst h
   obtain ⟨i1, i2⟩ := rds_get h2
   refine ⟨by simp [i1], fun k d' hk => ?_⟩
   cases k with
   | zero => simp at hk; subst hk; exact ⟨c, rfl, h1⟩
   | succ k => simp at hk; obtain ⟨c', h3, h4⟩ := i2 k d' hk; exact ⟨c', by simpa using h3, h4⟩
  ·simp at h
theorem stabR_pers (r : RelX P N w0 own0 hdr0 Fr own hdr s a w) {c : AC} {v : Value} {x : DV} (hc : RC P w own hdr s.ob c v) (h : s.rd c = some x) (hs : stabR s c = true) : Pers w (Free w own) x v := by
 refine stab_pers r hc h ?_
 unfold stabR at hs
 split at hs
 ·exact .inl ⟨_, rfl⟩
 ·exact .inr (.inl ⟨_, rfl⟩)
 ·rename_i id ver
  split at hs
  ·rename_i y hk; exact .inr (.inr ⟨_, _, y, rfl, hk⟩)
  ·simp at hs
 ·simp at hs
theorem cds_get : ∀ {cs : List AC} {ds : List CD}, s.cds cs = some ds → cs.length = ds.length ∧ ∀ (k : Nat) (d : CD), ds[k]? = some d → ∃ c, cs[k]? = some c ∧ s.cd c = some d
 | [], ds, h => by simp [St.cds] at h; subst h; simp
 | c :: cs, ds, h => by
  simp only [St.cds] at h
  split at h
  ·rename_i d ds' h1 h2
   simp at h; subst h
   obtain ⟨i1, i2⟩ := cds_get h2
   refine ⟨by simp [i1], fun k d' hk => ?_⟩
   cases k with
   | zero => simp at hk; subst hk; exact ⟨c, rfl, h1⟩
   | succ k => simp at hk; obtain ⟨c', h3, h4⟩ := i2 k d' hk; exact ⟨c', by simpa using h3, h4⟩
  ·simp at h
theorem cd_sound (r : RelX P N w0 own0 hdr0 Fr own hdr s a w) {c : AC} {d : CD} {u : Value} (h : s.cd c = some d) (hc : RC P w own hdr s.ob c u) : CDr P w (All w) (FreeF w own) d u := by
 cases c with
 | fv p C => simp [St.cd] at h; subst h; exact hc
 | _ =>
  simp only [St.cd, Option.map_eq_some_iff] at h
  obtain ⟨x, hx, rfl⟩ := h
  exact r.rd hc hx
theorem CDr.mono {S S' Sf Sf' : Nat → Prop} (h : ∀ b, S b → S' b) (h' : ∀ b, Sf b → Sf' b) {d : CD} {u : Value} (p : CDr P w S Sf d u) : CDr P w S' Sf' d u := by
 cases d with
 | d x => exact Pers.mono' h p
 | fv pu C =>
  refine FVal.mono (fun b hb => ⟨rfl, ?_⟩) (Nat.le_refl _) p
  cases pu with
  | true => exact hb
  | false => exact h' b hb
theorem caps_get (r : RelX P N w0 own0 hdr0 Fr own hdr s a w) : ∀ {caps : List (Nat × Nat)} {dss : List (List CD)}, s.caps caps = some dss → caps.length = dss.length ∧
  ∀ (k : Nat) (ds : List CD), dss[k]? = some ds → ∃ id ver, caps[k]? = some (id, ver) ∧ (s.ob id).ver = ver ∧ PAr P w (All w) (FreeF w own) (.ptr ds) (hdr id) (fun _ => False)
 | [], dss, h => by simp [St.caps] at h; subst h; simp
 | (id, ver) :: caps, dss, h => by
  simp only [St.caps] at h
  split at h
  ·rename_i cs hk
   split at h
   ·rename_i ds l h1 h2
    simp at h; subst h
    obtain ⟨i1, i2⟩ := caps_get r h2
    refine ⟨by simp [i1], fun k ds' hk' => ?_⟩
    cases k with
    | zero =>
     simp at hk'; subst hk'
     obtain ⟨o1, o2⟩ := St.obj_ok hk (by simp)
     obtain ⟨b, vs, t, g1, g2, g3, g4, g5⟩ := r.boxAt o2
     refine ⟨id, ver, rfl, o1, b, 0, g1, r.lt id b ((g2 b).2 rfl), fun k c hc => ?_⟩
     obtain ⟨x, h3, h4⟩ := (cds_get h1).2 k c hc
     have hlt : k < vs.size := by rw [g4]; exact (List.getElem?_eq_some_iff.1 h3).1
     exact ⟨vs[k], by simp [World.cell?, g3, hlt], cd_sound r h4 (g5 k x _ h3 (Array.getElem?_eq_getElem hlt))⟩
    | succ k => simp at hk'; obtain ⟨id', ver', h3, h4⟩ := i2 k ds' hk'; exact ⟨id', ver', by simpa using h3, h4⟩
   ·simp at h
  ·simp at h
theorem arg_sound (r : RelX P N w0 own0 hdr0 Fr own hdr s a w) {q : Nat} {c : AC} {p : PA} {v : Value} {bs : List (Nat × Nat × Bool)} {S : Nat → Prop} (hc : RC P w own hdr s.ob c v) (hm : matchC P s c p)
  (hbs : ∀ e ∈ bs, (s.ob e.2.1).k ≠ .ext)
  (hmode : (stabC s c p = true ∧ (∀ b, S b ↔ Free w own b) ∧ (looksC c p = true → bs = [])) ∨ ((∀ b, S b ↔ All w b) ∧ bs = [])) :
  PAr P w S (fun b => b < w.heap.size ∧ ∀ q', ¬ ∃ id g, (q', id, g) ∈ bs ∧ own id b) p v (fun b => ∃ id g, (q, id, g) ∈ bindC q c p ∧ own id b) := by
 have hFS : ∀ b, Free w own b → S b := by
  intro b hb
  rcases hmode with ⟨_, h, _⟩ | ⟨h, _⟩
  ·exact (h b).2 hb
  ·exact (h b).2 hb.1
 have hloose : ∀ b, FreeF w own b → b < w.heap.size ∧ ∀ q', ¬ ∃ id g, (q', id, g) ∈ bs ∧ own id b := by
  intro b hb
  refine ⟨hb.1, ?_⟩
  rintro q' ⟨id, g, h1, h2⟩
  have := hb.2 id h2
  subst this
  exact hbs _ h1 r.al
 have rdS : ∀ {x : DV}, (stabR s c = true ∨ ∀ b, S b ↔ All w b) → s.rd c = some x → Pers w S x v := by
  intro x h hx
  rcases h with h | h
  ·exact (stabR_pers r hc hx h).mono' hFS
  ·exact (r.rd hc hx).mono' fun b hb => (h b).2 hb
 cases p with
 | d x =>
  have hm' : s.rd c = some x := by
   cases c <;> exact hm
  refine rdS ?_ hm'
  rcases hmode with ⟨h, _, _⟩ | ⟨h, _⟩
  ·left
   cases c <;> simp_all [stabC, stabR]
  ·exact .inr h
 | arr g dp x =>
  cases c with
  | arr id ver =>
   obtain ⟨dp', hk, hdp⟩ := hm
   obtain ⟨o1, o2⟩ := St.obj_ok hk (by simp)
   obtain ⟨g1, g2⟩ := r.arrAt o2
   refine ⟨g1, ?_⟩
   rw [hc.2 o1.symm]
   refine g2.mono (fun h => ?_) (fun b hb => ⟨rfl, hFS b hb⟩) fun b hb => ⟨rfl, id, g, by simp [bindC], hb⟩
   rcases hdp with h' | ⟨_, h'⟩
   ·rw [h', h]
   ·exact h'
  | nil sz =>
   obtain ⟨rfl, _⟩ := hm
   exact ⟨rfl, .inl ⟨rfl, hc⟩⟩
  | _ => exact hm.elim
 | box ds =>
  cases c with
  | ptr id ver off =>
   obtain ⟨rfl, cs, hk, hds⟩ := hm
   obtain ⟨o1, o2⟩ := St.obj_ok hk (by simp)
   obtain ⟨b, vs, t, g1, g2, g3, g4, g5⟩ := r.boxAt o2
   obtain ⟨b', h1, rfl⟩ := hc.2 o1.symm
   rw [g1] at h1; simp at h1; subst h1
   refine ⟨b, vs, t, rfl, fun x => ?_, g3, by rw [g4, (rds_get hds).1], fun k d u h2 h3 => ?_⟩
   ·rw [← g2 x]
    constructor
    ·rintro ⟨id', g', h2, h3⟩; simp [bindC] at h2; rw [h2.1] at h3; exact h3
    ·intro h2; exact ⟨id, false, by simp [bindC], h2⟩
   ·obtain ⟨x, h4, h5⟩ := (rds_get hds).2 k d h2
    have hx := g5 k x u h4 h3
    rcases hmode with ⟨h, _, _⟩ | ⟨h, _⟩
    ·simp only [stabC, hk, List.all_eq_true] at h
     exact (stabR_pers r hx h5 (h x (List.mem_of_getElem? h4))).mono' hFS
    ·exact (r.rd hx h5).mono' fun b hb => (h b).2 hb
  | _ => exact hm.elim
 | ptr ds =>
  cases c with
  | ptr id ver off =>
   obtain ⟨rfl, cs, hk, hds⟩ := hm
   obtain ⟨o1, o2⟩ := St.obj_ok hk (by simp)
   obtain ⟨b, vs, t, g1, g2, g3, g4, g5⟩ := r.boxAt o2
   obtain ⟨b', h1, rfl⟩ := hc.2 o1.symm
   rw [g1] at h1; simp at h1; subst h1
   rcases hmode with ⟨h, _, _⟩ | ⟨hA, _⟩
   ·simp [stabC] at h
   ·refine ⟨b, 0, rfl, (hA b).2 (r.lt id b ((g2 b).2 rfl)), fun k d h2 => ?_⟩
    obtain ⟨x, h4, h5⟩ := (cds_get hds).2 k d h2
    have hlt : k < vs.size := by rw [g4]; exact (List.getElem?_eq_some_iff.1 h4).1
    exact ⟨vs[k], by simp [World.cell?, g3, hlt], (cd_sound r h5 (g5 k x _ h4 (Array.getElem?_eq_getElem hlt))).mono (fun b hb => (hA b).2 hb) hloose⟩
  | cpt ds' =>
   obtain rfl : ds' = ds := hm
   obtain ⟨b, off, h1, h2, h3⟩ := hc
   refine ⟨b, off, h1, hFS b h2, fun k d hk => ?_⟩
   obtain ⟨u, h4, h5⟩ := h3 k d hk
   exact ⟨u, h4, h5.mono hFS hloose⟩
  | _ => exact hm.elim
 | fv pu C =>
  have hm' : FnC P s c pu C := by cases c <;> exact hm
  show FVal P w (if pu then fun _ => False else _) v C
  unfold FnC at hm'
  split at hm'
  ·rename_i p' C'
   obtain ⟨h1, h2⟩ := hm'
   have hv : FVal P w (if p' then fun _ => False else FreeF w own) v C' := hc
   have hv' : FVal P w (if pu then fun _ => False else fun b => b < w.heap.size ∧ ∀ q', ¬ ∃ id g, (q', id, g) ∈ bs ∧ own id b) v C' := by
    refine hv.mono (fun b hb => ⟨rfl, ?_⟩) (Nat.le_refl _)
    cases p' with
    | true => exact (show False from hb).elim
    | false =>
     have : pu = false := by cases pu <;> simp_all
     subst this
     exact hloose b hb
   obtain ⟨f, first, caps, e1, e2, e3⟩ := hv'
   exact ⟨f, first, caps, e1, e2, fun as R hC => e3 as R (h2 as R hC)⟩
  ·rename_i f fs cs
   obtain ⟨rfl, rfl, he, hC⟩ := hm'
   have hv : v = .func (.func f) #[] #[] := Pers.scEq hc
   subst hv
   refine FnOK.fval (first := []) (dss := []) he ⟨rfl, by simp⟩ (fun b hb => ?_) rfl (by simp) (fun as R h => by simpa using hC as R h)
   cases pu with
   | true => exact (show False from hb).elim
   | false => exact hb.1
  ·rename_i f first caps
   obtain ⟨rfl, he, dss, hd, hC⟩ := hm'
   obtain ⟨fs, vs, rfl, h1, h2, h3⟩ := hc
   have hb0 : bs = [] := by
    rcases hmode with ⟨_, _, h⟩ | ⟨_, h⟩
    ·exact h rfl
    ·exact h
   subst hb0
   obtain ⟨k1, k2⟩ := caps_get r hd
   refine FnOK.fval (dss := dss) he (h1.mono fun b hb => ⟨rfl, hb.1, by simp⟩) (fun b hb => hb.1) (by rw [h2, k1]) (fun k ds u h4 h5 => ?_) (fun as R h => (hC as R h).2)
   obtain ⟨id, ver, h6, h7, h8⟩ := k2 k ds h4
   have h9 := (h3 k id ver u h6 h5).2 h7.symm
   subst h9
   obtain ⟨b, off, g1, g2, g3⟩ := h8
   refine ⟨b, off, g1, ⟨g2, by simp⟩, fun k c hk => ?_⟩
   obtain ⟨u, g4, g5⟩ := g3 k c hk
   exact ⟨u, g4, g5.mono (fun b hb => ⟨hb, by simp⟩) fun b hb => ⟨hb.1, by simp⟩⟩
  ·exact hm'.elim
end
end Hearth

/- The abstract machine: calls of functions and of function values; function values made. -/
namespace Hearth
open Go
section
variable {P : Program} {N : Nat} {w0 : World} {own0 : Nat → Nat → Prop} {hdr0 : Nat → Value} {Fr : List ((Nat → Prop) × World)} {own : Nat → Nat → Prop} {hdr : Nat → Value} {s : St} {a : Act} {w : World}
def GoodC (P : Program) (N : Nat) (w0 : World) (own0 : Nat → Nat → Prop) (hdr0 : Nat → Value) (Fr : List ((Nat → Prop) × World)) (a : Act) (K : AV → St → Prop) (f : FuncId) (args : Array Value) (w : World) : Prop :=
 Enters P f ∧ Calls P f args w fun e w' => ∃ v x s', e = .returned v ∧ K x s' ∧ RelV P N w0 own0 hdr0 Fr s' a w' x v
theorem At.unique {v : AV} {g : GA} {k : Nat} {c c' : AC} {p p' : PA} (h : At v g k c p) (h' : At v g k c' p') : c = c' ∧ p = p' := by
 cases h with
 | one => cases h'; exact ⟨rfl, rfl⟩
 | agg _ _ _ _ _ _ x y => cases h' with | agg _ _ _ _ _ _ x' y' => rw [x] at x'; rw [y] at y'; simp at x' y'; exact ⟨x', y'⟩
theorem binds_q {t0 : Nat} {avs : List AV} {gas : List GA} (hm : matchGs P s avs gas) {e e' : Nat × Nat × Bool} (he : e ∈ bindGs t0 avs gas) (he' : e' ∈ bindGs t0 avs gas) (hq : e.1 = e'.1) :
  ∃ t k q c p, q = aid (t0 + t) k ∧ e ∈ bindC q c p ∧ e' ∈ bindC q c p := by
 obtain ⟨t, v, g, k, c, p, h1, h2, h3, h4⟩ := (mem_bindGs hm).1 he
 obtain ⟨t', v', g', k', c', p', h1', h2', h3', h4'⟩ := (mem_bindGs hm).1 he'
 have := aid_inj h3.lt h3'.lt ((mem_bindC h4).symm.trans (hq.trans (mem_bindC h4')))
 obtain ⟨ht, rfl⟩ := this
 obtain rfl : t = t' := by omega
 rw [h1] at h1'; rw [h2] at h2'
 simp at h1' h2'; subst h1'; subst h2'
 have : c = c' ∧ p = p' := At.unique h3 h3'
 obtain ⟨rfl, rfl⟩ := this
 exact ⟨t, k, _, c, p, rfl, h4, h4'⟩
theorem bindC_unique {q : Nat} {c : AC} {p : PA} {e e' : Nat × Nat × Bool} (h : e ∈ bindC q c p) (h' : e' ∈ bindC q c p) : e = e' := by
 unfold bindC at h h'
 split at h <;> simp_all
theorem call_sound {K : AV → St → Prop} {d f : Nat} {avs : List AV} {vs : Array Value} (r : RelX P N w0 own0 hdr0 Fr own hdr s a w) (hl : vs.size = avs.length)
  (hv : ∀ (t : Nat) (x : AV) (v : Value), avs[t]? = some x → vs[t]? = some v → RS P w own hdr s.ob x v) (h : callA P s d f avs K) : GoodC P N w0 own0 hdr0 Fr a K f vs w := by
 obtain ⟨gas, R, hok, hm, hnd, hhold, hmode, hg60, hra, hrange, hK⟩ := h
 refine ⟨hok.1, ?_⟩
 obtain ⟨hlen, hget⟩ := matchGs_get hm
 generalize hbs : bindGs 0 avs gas = bs at *
 have hmem : ∀ e, e ∈ bs ↔ ∃ t v g k c p, avs[t]? = some v ∧ gas[t]? = some g ∧ At v g k c p ∧ e ∈ bindC (aid t k) c p := by
  intro e
  rw [← hbs, mem_bindGs hm]
  simp only [Nat.zero_add]
 have hinfo : ∀ q id g, (q, id, g) ∈ bs → (∃ dp x dp', gaAt gas q = some (.arr g dp x) ∧ (s.ob id).k = .arr dp' x ∧ (dp' = dp ∨ g = true ∧ dp' = true)) ∨ (g = false ∧ ∃ ds cs, gaAt gas q = some (.box ds) ∧ (s.ob id).k = .box cs ∧ cs.length = ds.length) := by
  intro q id g he
  obtain ⟨t, v, ga, k, c, p, h1, h2, h3, h4⟩ := (hmem _).1 he
  have hq := mem_bindC h4
  simp only at hq
  have hga := h3.gaAt h2
  rw [← hq] at hga
  have hmc := h3.match (hget t v ga h1 h2)
  unfold bindC at h4
  split at h4
  ·simp at h4
   obtain ⟨_, rfl, rfl⟩ := h4
   obtain ⟨dp', hk, hdp⟩ := hmc
   exact .inl ⟨_, _, dp', hga, (St.obj_ok hk (by simp)).2, hdp⟩
  ·simp at h4
   obtain ⟨_, rfl, rfl⟩ := h4
   obtain ⟨_, cs, hk, hds⟩ := hmc
   exact .inr ⟨rfl, _, cs, hga, (St.obj_ok hk (by simp)).2, (rds_get hds).1⟩
  ·simp at h4
 have hext : ∀ e ∈ bs, (s.ob e.2.1).k ≠ .ext := by
  rintro ⟨q, id, g⟩ he
  rcases hinfo q id g he with ⟨_, _, _, _, h, _⟩ | ⟨_, _, _, _, h, _⟩ <;> simp only <;> rw [h] <;> simp
 have hlooks : ∀ (t : Nat) (v : AV) (g : GA) (k : Nat) (c : AC) (p : PA), avs[t]? = some v → gas[t]? = some g → At v g k c p → looksC c p = true → looksGs avs gas = true := looksGs_get hm
 -- what may be read
 obtain ⟨S, hSlt, hSmode, hSF⟩ : ∃ S : Nat → Prop, (∀ b, S b → b < w.heap.size) ∧
   ((stabGs s avs gas = true ∧ (looksGs avs gas = true → bs = []) ∧ ∀ b, S b ↔ Free w own b) ∨ ((∀ ra os, R ra os → ra.all RA.clean = true) ∧ bs = [] ∧ ∀ b, S b ↔ All w b)) ∧ (∀ q id g b, (q, id, g) ∈ bs → own id b → ¬ S b) := by
  rcases hmode with ⟨h1, h2⟩ | ⟨h1, h2⟩
  ·exact ⟨Free w own, fun b hb => hb.1, .inl ⟨h1, h2, fun b => Iff.rfl⟩, fun q id g b _ ho hs => hs.2 id ho⟩
  ·exact ⟨All w, fun b hb => hb, .inr ⟨h1, h2, fun b => Iff.rfl⟩, fun q id g b he => by rw [h2] at he; cases he⟩
 have key := hok.2 w S (fun q b => ∃ id g, (q, id, g) ∈ bs ∧ own id b) vs (by rw [hl, hlen]) (fun t g v h1 h2 => by
  have hlt : t < avs.length := by rw [hlen]; exact (List.getElem?_eq_some_iff.1 h1).1
  have hx := List.getElem?_eq_getElem hlt
  have hrs := hv t _ v hx h2
  have hmg := hget t _ g hx h1
  have cell : ∀ k c p u, At (avs[t]) g k c p → RC P w own hdr s.ob c u → PAr P w S (fun b => b < w.heap.size ∧ ∀ q, ¬ ∃ id g, (q, id, g) ∈ bs ∧ own id b) p u (fun b => ∃ id g, (aid t k, id, g) ∈ bs ∧ own id b) := by
   intro k c p u hat hc
   have := arg_sound (q := aid t k) (S := S) (bs := bs) r hc (hat.match hmg) hext (by
    rcases hSmode with ⟨g1, g2, g3⟩ | ⟨g1, g2, g3⟩
    ·exact .inl ⟨stabGs_get hm g1 t _ g k c p hx h1 hat, g3, fun hlk => g2 (hlooks t _ g k c p hx h1 hat hlk)⟩
    ·exact .inr ⟨g3, g2⟩)
   have hF : (fun b => ∃ id g, (aid t k, id, g) ∈ bindC (aid t k) c p ∧ own id b) = (fun b => ∃ id g, (aid t k, id, g) ∈ bs ∧ own id b) := by
    funext b
    apply propext
    constructor
    ·rintro ⟨id, g', h3, h4⟩
     exact ⟨id, g', (hmem _).2 ⟨t, _, g, k, c, p, hx, h1, hat, h3⟩, h4⟩
    ·rintro ⟨id, g', h3, h4⟩
     obtain ⟨t', v', g'', k', c', p', e1, e2, e3, e4⟩ := (hmem _).1 h3
     have := aid_inj hat.lt e3.lt (mem_bindC e4)
     obtain ⟨rfl, rfl⟩ := this
     rw [hx] at e1; rw [h1] at e2
     simp at e1 e2; subst e1; subst e2
     have : c = c' ∧ p = p' := hat.unique e3
     obtain ⟨rfl, rfl⟩ := this
     exact ⟨id, g', e4, h4⟩
   rw [← hF]
   exact this
  generalize hz : avs[t] = z at *
  cases z with
  | c c =>
   cases g with
   | one p => exact cell 0 c p v (.one c p) hrs
   | agg ps => exact hmg.elim
  | g cs =>
   cases g with
   | one p => exact hmg.elim
   | agg ps =>
    obtain ⟨us, e1, e2, e3⟩ := hrs
    obtain ⟨l1, l2⟩ := matchL_get hmg.1
    refine ⟨us, e1, by rw [e2, l1], hmg.2, fun k p u h3 h4 => ?_⟩
    have hk : k < cs.length := by rw [l1]; exact (List.getElem?_eq_some_iff.1 h3).1
    have hck := List.getElem?_eq_getElem hk
    exact cell k _ p u (.agg cs ps k _ p hmg.2 hck h3) (e3 k _ u hck h4)
  | t xs => cases g <;> exact hmg.elim)
  (by
   rintro q q' b ⟨id, g, h1, h2⟩ ⟨id', g', h3, h4⟩
   have := r.dis id id' b h2 h4
   subst this
   have := nodup_snd hnd h1 h3 rfl
   simp at this
   exact this.1)
  (fun q b ⟨id, g, h1, h2⟩ => ⟨r.lt id b h2, hSF q id g b h1 h2⟩) hSlt
  (fun q b ⟨id, g, h1, h2⟩ => by
   rcases hinfo q id g h1 with ⟨dp, x, _, h3, _⟩ | ⟨_, cs, _, h3, _⟩
   ·exact ⟨g, dp, x, .inl h3⟩
   ·exact ⟨g, true, .sl 0 [], .inr ⟨cs, h3⟩⟩)
 refine key.mono ?_
 rintro e w' ⟨v, ra, os, G, rfl, hR, hx, hf, ⟨rs, rfl, hrs1, hrs2⟩, hout⟩
 have hgv : ∀ b, GivenTo gas (fun q b => ∃ id g, (q, id, g) ∈ bs ∧ own id b) b → ∃ q id, (q, id, true) ∈ bs ∧ own id b := by
  rintro b ⟨q, dp, x, h1, id, g, h2, h3⟩
  rcases hinfo q id g h2 with ⟨dp', x', _, h4, _⟩ | ⟨_, cs, _, h4, _⟩
  ·rw [h1] at h4; simp at h4
   obtain rfl : g = true := h4.1
   exact ⟨q, id, h2, h3⟩
  ·rw [h1] at h4; simp at h4
 have hfin := r.called (d := d) (bs := bs) (ra := ra) (os := os) (w' := w') (vs := rs) (S := fun b => b < w'.heap.size ∧ (S b ∨ w.heap.size ≤ b ∨ GivenTo gas (fun q b => ∃ id g, (q, id, g) ∈ bs ∧ own id b) b) ∧ ∀ i, ¬ G i b) (G := G) hnd hhold hrange
  (fun q id g h1 => by
   rcases hinfo q id g h1 with ⟨_, x, dp', _, h3, _⟩ | ⟨rfl, _, cs, _, h3, _⟩
   ·exact .inl ⟨dp', x, h3⟩
   ·exact .inr ⟨rfl, cs, h3⟩)
  ⟨hx.os, hx.tape, hx.output, hx.size, fun b hb hn => hx.same b hb fun ⟨q, id, g, h1, h2⟩ => hn ⟨q, id, g, h1, h2⟩, hx.drawn⟩
  ⟨hf.dis, hf.lt, fun i b hb => (hf.new i b hb).imp id (hgv b)⟩
  (by
   rcases hSmode with ⟨_, _, g3⟩ | ⟨g1, g2, g3⟩
   ·left
    intro b hb
    refine ⟨hb.1, ?_, hb.2.2⟩
    rcases hb.2.1 with h | h | h
    ·exact .inl ((g3 b).1 h)
    ·exact .inr (.inl h)
    ·exact .inr (.inr (hgv b h))
   ·exact .inr ⟨g1 ra os hR, g2⟩)
  (hra ra os hR) hrs1 hrs2
  (fun q id h1 => by
   obtain ⟨t, v, g, k, c, p, e1, e2, e3, e4⟩ := (hmem _).1 h1
   have hq := mem_bindC e4
   simp only at hq
   subst hq
   have hga := e3.gaAt e2
   have hlt : t < vs.size := by rw [hl]; exact (List.getElem?_eq_some_iff.1 e1).1
   have hvt := Array.getElem?_eq_getElem hlt
   have hrs := hv t v _ e1 hvt
   -- the cell's value
   obtain ⟨u, hu1, hu2, hu3⟩ : ∃ u, RC P w own hdr s.ob c u ∧ (match (generalizing := false) g with | .one _ => u = vs[t] | .agg _ => ∃ us : Array Value, vs[t] = .agg us ∧ us[k]? = some u) ∧ g.at k = some p := by
    cases e3 with
    | one => exact ⟨_, hrs, rfl, rfl⟩
    | agg cs ps k c p h3 h4 h5 =>
     obtain ⟨us, f1, f2, f3⟩ := hrs
     have hk : k < us.size := by rw [f2]; exact (List.getElem?_eq_some_iff.1 h4).1
     refine ⟨us[k], f3 k c _ h4 (Array.getElem?_eq_getElem hk), ⟨us, f1, Array.getElem?_eq_getElem hk⟩, ?_⟩
     have : k < 64 := Nat.lt_of_lt_of_le (List.getElem?_eq_some_iff.1 h5).1 h3
     simp [GA.at, this, h5]
   have hfin := hout t k g vs[t] p u e2 hvt hu3 hu2
   have hown : ∀ b, (∃ id' g, (aid t k, id', g) ∈ bs ∧ own id' b) ↔ own id b := by
    intro b
    constructor
    ·rintro ⟨id', g', h2, h3⟩
     rw [← hbs] at h1 h2
     obtain ⟨_, _, _, _, _, _, m1, m2⟩ := binds_q hm h1 h2 rfl
     have := bindC_unique m1 m2
     simp at this
     rw [this.1]; exact h3
    ·intro h2; exact ⟨id, false, h1, h2⟩
   have hmc := e3.match (hget t v g e1 e2)
   unfold bindC at e4
   split at e4
   ·simp at e4
    obtain ⟨rfl, rfl⟩ := e4
    obtain ⟨dp', hk, hdp⟩ := hmc
    obtain ⟨o1, o2⟩ := St.obj_ok hk (by simp)
    replace hdp := hdp.resolve_right fun h => by simp at h
    simp only [o2]
    simp only at hfin
    obtain ⟨f1, f2, f3⟩ := hfin
    refine ⟨f1, f2, ?_⟩
    rw [f2, hdp, ← hu1.2 o1.symm]
    exact f3.mono (fun h => h) (fun b hb => ⟨rfl, hb⟩) fun b hb => ⟨rfl, (hown b).1 hb⟩
   ·simp at e4
    obtain ⟨rfl⟩ := e4
    obtain ⟨hoff, cs, hk, hds⟩ := hmc
    obtain ⟨o1, o2⟩ := St.obj_ok hk (by simp)
    simp only [o2]
    simp only at hfin
    obtain ⟨⟨b, us, tt, f1, f2, f3, f4, f5⟩, _⟩ := hfin
    obtain ⟨b', f6, f7⟩ := hu1.2 o1.symm
    refine ⟨b, us, tt, ?_, fun x => ?_, f3, f4, f5⟩
    ·rw [f6]; rw [f7] at f1; simp at f1; rw [f1.1]
    ·rw [← hown x]; exact f2 x
   ·simp at e4)
 exact ⟨_, _, _, rfl, hK ra os hR, hfin⟩
theorem callv_sound {K : AV → St → Prop} {d : Nat} {avs : List AV} {vs : Array Value} {p : Bool} {C : FC} {v : Value} {as : List DA} {R : List RA → Prop} (r : RelX P N w0 own0 hdr0 Fr own hdr s a w) (hl : vs.size = avs.length)
  (hv : ∀ (t : Nat) (x : AV) (v : Value), avs[t]? = some x → vs[t]? = some v → RS P w own hdr s.ob x v) (hf : RC P w own hdr s.ob (.fv p C) v) (hC : C as R)
  (hm : matchGs P s avs (as.map DA.ga)) (hmode : (p = true ∧ stabGs s avs (as.map DA.ga) = true) ∨ ∀ ra, R ra → ra.all RA.clean = true) (hra : ∀ ra, R ra → ra.length ≤ 64)
  (hrange : ∀ q, rid d 0 ≤ q → q < rid d 4096 → q ∉ s.hold) (hK : ∀ ra, R ra → K (resV s d ra) (s.after d ra [] ⟨fun _ => .sl 0 [], fun _ => []⟩)) :
  ∃ f first caps, v = .func (.func f) first caps ∧ GoodC P N w0 own0 hdr0 Fr a K f (first ++ vs ++ caps) w := by
 obtain ⟨f, first, caps, rfl, he, hc⟩ := hf
 refine ⟨f, first, caps, rfl, he, ?_⟩
 obtain ⟨hlen, hget⟩ := matchGs_get hm
 obtain ⟨S, hSlt, hSmode⟩ : ∃ S : Nat → Prop, (∀ b, S b → b < w.heap.size) ∧ ((p = true ∧ stabGs s avs (as.map DA.ga) = true ∧ ∀ b, S b ↔ Free w own b) ∨ ((∀ ra, R ra → ra.all RA.clean = true) ∧ ∀ b, S b ↔ All w b)) := by
  rcases hmode with ⟨h1, h2⟩ | h1
  ·exact ⟨Free w own, fun b hb => hb.1, .inl ⟨h1, h2, fun b => Iff.rfl⟩⟩
  ·exact ⟨All w, fun b hb => hb, .inr ⟨h1, fun b => Iff.rfl⟩⟩
 have hvs : DAs w S as vs := by
  refine ⟨by rw [hl, hlen, List.length_map], fun t x v h1 h2 => ?_⟩
  have hlt : t < avs.length := by rw [hlen, List.length_map]; exact (List.getElem?_eq_some_iff.1 h1).1
  have hx := List.getElem?_eq_getElem hlt
  have hg : (as.map DA.ga)[t]? = some x.ga := by simp [h1]
  have hrs := hv t _ v hx h2
  have hmg := hget t _ _ hx hg
  have cell : ∀ k c y u, At (avs[t]) x.ga k c (.d y) → RC P w own hdr s.ob c u → Pers w S y u := by
   intro k c y u hat hc
   exact arg_sound (q := aid t k) (S := S) (bs := []) r hc (hat.match hmg) (by simp) (by
    rcases hSmode with ⟨_, g1, g3⟩ | ⟨_, g3⟩
    ·exact .inl ⟨stabGs_get hm g1 t _ _ k c _ hx hg hat, g3, fun _ => rfl⟩
    ·exact .inr ⟨g3, rfl⟩)
  generalize avs[t] = z at *
  cases z with
  | c c =>
   cases x with
   | one y => exact cell 0 c y v (.one c _) hrs
   | agg ys => exact hmg.elim
  | g cs =>
   cases x with
   | one y => exact hmg.elim
   | agg ys =>
    obtain ⟨us, e1, e2, e3⟩ := hrs
    obtain ⟨l1, l2⟩ := matchL_get hmg.1
    rw [List.length_map] at l1
    refine ⟨us, e1, ⟨by rw [e2, l1], by simpa using hmg.2⟩, fun k y u h3 h4 => ?_⟩
    have hk : k < cs.length := by rw [l1]; exact (List.getElem?_eq_some_iff.1 h3).1
    have hck := List.getElem?_eq_getElem hk
    exact cell k _ y u (.agg cs _ k _ _ hmg.2 hck (by simp [h3])) (e3 k _ u hck h4)
  | t xs => cases x <;> exact hmg.elim
 refine (hc as R hC w S vs (fun _ _ => rfl) (Nat.le_refl _) hSlt hvs).mono ?_
 rintro e w' ⟨v, ra, G, rfl, hR, hx, hf, ⟨rs, rfl, hrs1, hrs2⟩⟩
 have hfin := r.called (d := d) (bs := []) (ra := ra) (os := ⟨fun _ => .sl 0 [], fun _ => []⟩) (w' := w') (vs := rs) (G := G) (by simp) (by simp) hrange (by simp)
  ⟨hx.os, hx.tape, hx.output, hx.size, fun b hb hn => hx.same b hb fun h => h, hx.drawn⟩ ⟨hf.dis, hf.lt, fun i b hb => (hf.new i b hb).imp id fun h => h.elim⟩
  (by
   rcases hSmode with ⟨hp, _, g3⟩ | ⟨g1, g3⟩
   ·left
    intro b hb
    refine ⟨hb.1, ?_, hb.2.2⟩
    rw [hp] at hb
    rcases hb.2.1 with h | h | h
    ·exact .inl ((g3 b).1 h)
    ·exact (show False from h).elim
    ·exact .inr (.inl h)
   ·exact .inr ⟨g1 ra hR, rfl⟩)
  (hra ra hR) hrs1 hrs2 (by simp)
 exact ⟨_, _, _, rfl, hK ra hR, hfin⟩
theorem snd_clo {F : Nat → Prop} {K : AV → St → Prop} {o : Oper} {f : Nat} {first caps : Array Operand} {first' caps' : List X} {ts us : List TypeId} (r : RelX P N w0 own0 hdr0 Fr own hdr s a w) (ho : o.op = .makeFunc (.func f) first caps)
  (hf : digXs P ts first.toList = some first') (hc : digXs P us caps.toList = some caps') (h : stepO P s (.clo f first' caps') K) : GoodQ P N w0 own0 hdr0 Fr F a w K (execOp a.eval o) := by
 obtain ⟨fs, vs, h1, h2, h3⟩ := h
 obtain ⟨f1, f2⟩ := digXs_sound r hf
 obtain ⟨c1, c2⟩ := digXs_sound r hc
 have hfs : fs.length = first'.length ∧ ∀ (k : Nat) (x : DA) (y : X), fs[k]? = some x → first'[k]? = some y → ∀ v, RS P w own hdr s.ob (s.ev y) v → DAr w (Free w own) x v := by
  clear f1 f2 hf h3
  induction first' generalizing fs with
  | nil => simp at h1; subst h1; simp
  | cons y ys ih =>
   simp only [List.map_cons, List.mapM_cons, Option.bind_eq_bind, Option.bind_eq_some_iff, Option.pure_def, Option.some.injEq] at h1
   obtain ⟨x, h4, xs, h5, rfl⟩ := h1
   obtain ⟨i1, i2⟩ := ih xs h5
   refine ⟨by simp [i1], fun k x' y' h6 h7 v hv => ?_⟩
   cases k with
   | zero =>
    simp at h6 h7; subst h6; subst h7
    unfold daOf at h4
    split at h4
    ·rename_i z hz
     simp at h4; subst h4
     rw [hz] at hv; exact hv
    ·rename_i zs hz
     split at h4
     ·rename_i h64
      simp only [Option.map_eq_some_iff] at h4
      obtain ⟨ds, h4, rfl⟩ := h4
      rw [hz] at hv
      obtain ⟨us, e1, e2, e3⟩ := hv
      have hds : ds.length = zs.length ∧ ∀ (k : Nat) (d : DV), ds[k]? = some d → zs[k]? = some (.d d) := by
       clear h64 e2 e3 hz
       induction zs generalizing ds with
       | nil => simp at h4; subst h4; simp
       | cons z zs ih =>
        simp only [List.mapM_cons, Option.bind_eq_bind, Option.bind_eq_some_iff, Option.pure_def, Option.some.injEq] at h4
        obtain ⟨d, h8, ds', h9, rfl⟩ := h4
        obtain ⟨j1, j2⟩ := ih ds' h9
        refine ⟨by simp [j1], fun k d' hk => ?_⟩
        cases k with
        | zero =>
         simp at hk; subst hk
         unfold dOf at h8
         split at h8
         ·simp at h8; subst h8; rfl
         ·simp at h8
        | succ k => simp at hk; simpa using j2 k d' hk
      exact ⟨us, e1, ⟨by rw [e2, hds.1], by rw [hds.1]; exact h64⟩, fun k d u h8 h9 => e3 k _ u (hds.2 k d h8) h9⟩
     ·simp at h4
    ·simp at h4
   | succ k => simp at h6 h7; exact i2 k x' y' h6 h7 v hv
 have hvs : vs.length = caps'.length ∧ ∀ (k id ver : Nat) (y : X), vs[k]? = some (id, ver) → caps'[k]? = some y → s.ev y = .c (.ptr id ver 0) := by
  clear c1 c2 hc h3
  induction caps' generalizing vs with
  | nil => simp at h2; subst h2; simp
  | cons y ys ih =>
   simp only [List.map_cons, List.mapM_cons, Option.bind_eq_bind, Option.bind_eq_some_iff, Option.pure_def, Option.some.injEq] at h2
   obtain ⟨x, h4, xs, h5, rfl⟩ := h2
   obtain ⟨i1, i2⟩ := ih xs h5
   refine ⟨by simp [i1], fun k id ver y' h6 h7 => ?_⟩
   cases k with
   | zero =>
    simp at h6 h7; subst h6; subst h7
    unfold capOf at h4
    split at h4
    ·rename_i hz
     simp at h4
     obtain ⟨rfl, rfl⟩ := h4
     exact hz
    ·simp at h4
   | succ k => simp at h6 h7; exact i2 k id ver y' h6 h7
 refine GoodQ.val (v := .func (.func f) (first.map a.eval) (caps.map a.eval)) (x := .c (.fn f fs vs)) r (fun w' => by simp [execOp, ho, Instr.makeFunc]) ?_ h3
 refine ⟨_, _, rfl, ⟨by simp [hfs.1, f1], fun t x v h4 h5 => ?_⟩, by simp [hvs.1, c1], fun k id ver u h4 h5 => ?_⟩
 ·have hlt : t < first'.length := by rw [← hfs.1]; exact (List.getElem?_eq_some_iff.1 h4).1
  have hy := List.getElem?_eq_getElem hlt
  simp only [Array.getElem?_map, Option.map_eq_some_iff] at h5
  obtain ⟨z, h6, rfl⟩ := h5
  exact hfs.2 t x _ h4 hy _ (f2 t z _ (by simpa using h6) hy)
 ·have hlt : k < caps'.length := by rw [← hvs.1]; exact (List.getElem?_eq_some_iff.1 h4).1
  have hy := List.getElem?_eq_getElem hlt
  simp only [Array.getElem?_map, Option.map_eq_some_iff] at h5
  obtain ⟨z, h6, rfl⟩ := h5
  have h7 := c2 k z _ (by simpa using h6) hy
  rw [hvs.2 k id ver _ h4 hy] at h7
  replace h7 : RC P w own hdr s.ob (.ptr id ver 0) (a.eval z) := h7
  refine ⟨h7.1, fun e => ?_⟩
  obtain ⟨b, h8, h9⟩ := h7.2 e
  rw [h8, h9]
end
end Hearth

/- The abstract machine: calls that are handed nested rows of an object. -/
namespace Hearth
open Go
section
variable {P : Program} {N : Nat} {w0 : World} {own0 : Nat → Nat → Prop} {hdr0 : Nat → Value} {Fr : List ((Nat → Prop) × World)} {own : Nat → Nat → Prop} {hdr : Nat → Value} {s : St} {a : Act} {w : World}
variable {id ver ev i : Nat} {x : DV}
theorem Own.top {S : Nat → Prop} {z : DV} {v : Value} {F : Nat → Prop} (h : Own w S true z v F) (hz : z.isSl = true) : Top w S true z.esz z.rows v F := by
 cases h with
 | sc => simp [DV.isSl] at hz
 | pers _ _ _ hd => cases hd
 | nil => exact .inl ⟨rfl, rfl⟩
 | sl sz xs b cap cur e us Fs F h1 h2 h3 h4 h5 h6 h7 h8 h9 h10 => exact .inr ⟨b, cap, cur, e, us, Fs, rfl, h1, h2, h3, h4, h5, h6, h7, h8, h9, h10⟩
theorem callS_sound {K : AV → St → Prop} {f : Nat} {avs : List AV} {vs : Array Value} (r : RelX P N w0 own0 hdr0 Fr own hdr s a w) (hl : vs.size = avs.length)
  (hv : ∀ (t : Nat) (x : AV) (v : Value), avs[t]? = some x → vs[t]? = some v → RS P w own hdr s.ob x v) (h : callS P s f avs K) : GoodC P N w0 own0 hdr0 Fr a K f vs w := (show False from h).elim
end
end Hearth

/- The abstract machine: calls of functions whose contracts are told by states. -/
namespace Hearth
open Go
section
variable {P : Program} {N : Nat} {w0 : World} {own0 : Nat → Nat → Prop} {hdr0 : Nat → Value} {Fr : List ((Nat → Prop) × World)} {own : Nat → Nat → Prop} {hdr : Nat → Value} {s : St} {a : Act} {w : World}
theorem callO_sound {K : AV → St → Prop} {f : Nat} {avs : List AV} {vs : Array Value} (r : RelX P N w0 own0 hdr0 Fr own hdr s a w) (hl : vs.size = avs.length)
  (hv : ∀ (t : Nat) (x : AV) (v : Value), avs[t]? = some x → vs[t]? = some v → RS P w own hdr s.ob x v) (h : callO P s f avs K) : GoodC P N w0 own0 hdr0 Fr a K f vs w := (show False from h).elim
end
end Hearth

/- The abstract machine: each operation does what the model's does. -/
namespace Hearth
open Go
section
variable {P : Program} {N : Nat} {w0 : World} {own0 : Nat → Nat → Prop} {hdr0 : Nat → Value} {Fr : List ((Nat → Prop) × World)} {own : Nat → Nat → Prop} {hdr : Nat → Value} {s : St} {a : Act} {w : World} {K : AV → St → Prop} {o : Oper}
theorem run_callFunc {f : FuncId} (he : Enters P f) (args : Array Value) : (callFunc f args).run P w = .ok (.enter f args) w := by
 obtain ⟨fn, h1, h2, h3⟩ := he
 have h4 : fn.body ≠ none := by cases hb : fn.body <;> simp_all
 have h5 : fn.name ≠ "runtime.NumGoroutine" := by simpa using h3
 simp [callFunc, program, Sem.run, h1, h5, h4]
theorem run_call_value {c : Operand} {args : Array Operand} {ts : Array TypeId} {f : FuncId} {first caps : Array Value} (he : Enters P f) (ho : o.op = .call { callee := .value c, args, argTypes := ts }) (hc : a.eval c = .func (.func f) first caps) :
  (execOp a.eval o).run P w = .ok (.enter f (first ++ args.map a.eval ++ caps)) w := by
 simp [execOp, ho, resolve, hc, Deferred.ofValue, invoke, run_callFunc he]
def O.quiet : O → Bool
 | .mov _ | .nck _ | .pick .. | .bin .. | .beq .. | .eqn .. | .un .. | .conv .. | .sts _ | .build .. | .fld .. | .fad .. | .iad .. | .aad .. | .flen _ | .fiad .. | .ix .. | .cut .. | .cut3 .. | .len _ | .slen _ | .clo .. | .ext .. | .mm .. | .load .. => true
 | _ => false
def O.isLoad : O → Bool
 | .load .. => true
 | _ => false
def St.still (s : St) : O → Prop
 | .load _ x => stillA s (s.ev x)
 | _ => True
def GoodO (P : Program) (N : Nat) (w0 : World) (own0 : Nat → Nat → Prop) (hdr0 : Nat → Value) (Fr : List ((Nat → Prop) × World)) (a : Act) (K : AV → St → Prop) (w : World) (r : Result Next) : Prop :=
 Good P N w0 own0 hdr0 Fr a K r ∨ ∃ f args, r = .ok (.enter f args) w ∧ GoodC P N w0 own0 hdr0 Fr a K f args w
theorem digXs_args {ts : List TypeId} {xs : Array Operand} {ys : List X} (r : RelX P N w0 own0 hdr0 Fr own hdr s a w) (h : digXs P ts xs.toList = some ys) :
  (xs.map a.eval).size = (ys.map s.ev).length ∧ ∀ (t : Nat) (x : AV) (v : Value), (ys.map s.ev)[t]? = some x → (xs.map a.eval)[t]? = some v → RS P w own hdr s.ob x v := by
 obtain ⟨h1, h2⟩ := digXs_sound r h
 refine ⟨by simp [h1], fun t x v h3 h4 => ?_⟩
 simp only [List.getElem?_map, Option.map_eq_some_iff, Array.getElem?_map] at h3 h4
 obtain ⟨y, h3, rfl⟩ := h3
 obtain ⟨z, h4, rfl⟩ := h4
 exact h2 t z y (by simpa using h4) h3
theorem frzL_sound : ∀ {ids : List Nat} {s s' : St} {own : Nat → Nat → Prop} {hdr : Nat → Value}, RelX P N w0 own0 hdr0 Fr own hdr s a w → frzL ids s = some s' → ∃ own' hdr', RelX P N w0 own0 hdr0 Fr own' hdr' s' a w
 | [], s, s', own, hdr, r, h => by simp only [frzL, Option.some.injEq] at h; subst h; exact ⟨own, hdr, r⟩
 | id :: l, s, s', own, hdr, r, h => by
  simp only [frzL] at h
  split at h
  ·rename_i dp x hk
   split at h
   ·cases h
   ·rename_i hc
    simp only [Bool.or_eq_true, not_or, Bool.not_eq_true] at hc
    obtain ⟨own', hdr', r', _⟩ := r.freeze hk (by simpa using hc.1) (Nat.pos_of_ne_zero (Nat.ne_of_beq_eq_false hc.2))
    exact frzL_sound r' h
  ·cases h
theorem snd_call {f d : Nat} {args : Array Operand} {ts : Array TypeId} {ys : List X} (r : RelX P N w0 own0 hdr0 Fr own hdr s a w) (ho : o.op = .call { callee := .value (.func f), args, argTypes := ts }) (hd : digXs P ts.toList args.toList = some ys)
  (h : stepO P s (.call d f ys) K) : GoodO P N w0 own0 hdr0 Fr a K w ((execOp a.eval o).run P w) := by
 obtain ⟨h1, h2⟩ := digXs_args r hd
 have hc : GoodC P N w0 own0 hdr0 Fr a K f (args.map a.eval) w := by
  rcases h with h | h | ⟨ids, s', hf, h⟩ | h
  ·exact call_sound r h1 h2 h
  ·exact callS_sound r h1 h2 h
  ·obtain ⟨own', hdr', r'⟩ := frzL_sound r hf
   obtain ⟨g1, g2⟩ := digXs_args r' hd
   exact call_sound r' g1 g2 h
  ·exact callO_sound r h1 h2 h
 refine .inr ⟨f, #[] ++ args.map a.eval ++ #[], run_call_value hc.1 ho rfl, ?_⟩
 simpa using hc
theorem snd_callv {d : Nat} {c : Operand} {x : X} {args : Array Operand} {ts : Array TypeId} {t : TypeId} {ys : List X} (r : RelX P N w0 own0 hdr0 Fr own hdr s a w) (ho : o.op = .call { callee := .value c, args, argTypes := ts }) (hx : digX P t c = some x) (hd : digXs P ts.toList args.toList = some ys)
  (h : stepO P s (.callv d x ys) K) : GoodO P N w0 own0 hdr0 Fr a K w ((execOp a.eval o).run P w) := by
 obtain ⟨h1, h2⟩ := digXs_args r hd
 have hv := ev_sound r hx
 simp only [stepO] at h
 split at h
 ·rename_i p C hev
  rw [hev] at hv
  obtain ⟨as, R, hC, hm, hmode, hl, hra, hrange, hK⟩ := h
  obtain ⟨f, first, caps, he, hg⟩ := callv_sound r h1 h2 hv hC hm hmode hra hrange hK
  exact .inr ⟨f, _, run_call_value hg.1 ho he, hg⟩
 ·rename_i f fs cs hev
  rw [hev] at hv
  have he := sc_of hv
  obtain ⟨rfl, rfl, h⟩ := h
  have hc := call_sound r h1 h2 h
  refine .inr ⟨f, #[] ++ args.map a.eval ++ #[], run_call_value hc.1 ho he, ?_⟩
  simpa using hc
 ·rename_i f fs cs hev
  rw [hev] at hv
  obtain ⟨rfl, hbox, h⟩ := h
  obtain ⟨fv, cv, he, hf1, hc1, hc2⟩ := hv
  have hfv : fv = #[] := by
   have := hf1.1
   simp only [List.length_nil] at this
   exact Array.eq_empty_of_size_eq_zero this
  subst hfv
  have hc := callO_sound r (vs := args.map a.eval ++ cv) (by rw [Array.size_append, List.length_append, h1, List.length_map (as := cs), hc1]) (fun t x v g1 g2 => by
   rw [List.getElem?_append] at g1
   rw [Array.getElem?_append] at g2
   rw [h1] at g2
   split at g1
   ·rename_i hlt
    rw [if_pos hlt] at g2
    exact h2 t x v g1 g2
   ·rename_i hlt
    rw [if_neg hlt] at g2
    rw [List.getElem?_map, Option.map_eq_some_iff] at g1
    obtain ⟨⟨id, ver⟩, g3, rfl⟩ := g1
    obtain ⟨q1, q2⟩ := hc2 _ id ver v g3 g2
    obtain ⟨k, hk⟩ := hbox (id, ver) (List.mem_of_getElem? g3)
    refine ⟨q1, fun e => ?_⟩
    have ho := r.objs id
    unfold RO at ho
    rw [show (s.ob id).k = .box k from hk] at ho
    obtain ⟨b, us, tt, f1, _⟩ := ho
    exact ⟨b, f1, (q2 e).trans f1⟩) h
  refine .inr ⟨f, #[] ++ args.map a.eval ++ cv, run_call_value hc.1 ho he, ?_⟩
  simpa using hc
 ·exact h.elim
theorem digX_t {t : TypeId} {x : Operand} {n : Nat} (h : digX P t x = some (.t n)) : x = .tmp n := by
 unfold digX at h
 split at h
 ·simp at h; rw [h]
 ·simp at h
 ·simp at h
 ·simp at h
 ·split at h <;> simp at h
theorem digX_v {t : TypeId} {x : Operand} {v : Value} (h : digX P t x = some (.v v)) : x = .const v := by
 unfold digX at h
 split at h
 ·simp at h
 ·simp at h
 ·simp at h
 ·simp at h
 ·split at h
  ·simp at h; rw [h]
  ·simp at h
theorem arr1 {args : Array Operand} {ts : Array TypeId} {x : Operand} {t : TypeId} (h1 : args.toList = [x]) (h2 : ts.toList = [t]) (ho : o.op = .call { callee := .builtin .len, args := args, argTypes := ts }) :
  o.op = .call { callee := .builtin .len, args := #[x], argTypes := #[t] } := by
 have h1' := congrArg List.toArray h1
 have h2' := congrArg List.toArray h2
 simp only [Array.toArray_toList] at h1' h2'
 rw [ho, h1', h2']
theorem op_sound {d : Nat} {o' : O} (r : RelX P N w0 own0 hdr0 Fr own hdr s a w) (hd : digOp P d o.type o.op = some o') (h : stepO P s o' K) :
  GoodO P N w0 own0 hdr0 Fr a K w ((execOp a.eval o).run P w) ∧ (o'.quiet = true → s.still o' → GoodQ P N w0 own0 hdr0 Fr (Now w own s.hold) a w K (execOp a.eval o)) ∧ (o'.quiet = true → o'.isLoad = false → GoodQ P N w0 own0 hdr0 Fr (fun _ => False) a w K (execOp a.eval o)) := by
 have Q : (∀ F, GoodQ P N w0 own0 hdr0 Fr F a w K (execOp a.eval o)) → GoodO P N w0 own0 hdr0 Fr a K w ((execOp a.eval o).run P w) ∧ (o'.quiet = true → s.still o' → GoodQ P N w0 own0 hdr0 Fr (Now w own s.hold) a w K (execOp a.eval o)) ∧ (o'.quiet = true → o'.isLoad = false → GoodQ P N w0 own0 hdr0 Fr (fun _ => False) a w K (execOp a.eval o)) :=
  fun h => ⟨.inl (h (fun _ => False)).good, fun _ _ => h _, fun _ _ => h _⟩
 have G : Good P N w0 own0 hdr0 Fr a K ((execOp a.eval o).run P w) → o'.quiet = false → GoodO P N w0 own0 hdr0 Fr a K w ((execOp a.eval o).run P w) ∧ (o'.quiet = true → s.still o' → GoodQ P N w0 own0 hdr0 Fr (Now w own s.hold) a w K (execOp a.eval o)) ∧ (o'.quiet = true → o'.isLoad = false → GoodQ P N w0 own0 hdr0 Fr (fun _ => False) a w K (execOp a.eval o)) :=
  fun h hq => ⟨.inl h, fun hq' => by (rw [hq] at hq'; cases hq'), fun hq' => by (rw [hq] at hq'; cases hq')⟩
 have C : GoodO P N w0 own0 hdr0 Fr a K w ((execOp a.eval o).run P w) → o'.quiet = false → GoodO P N w0 own0 hdr0 Fr a K w ((execOp a.eval o).run P w) ∧ (o'.quiet = true → s.still o' → GoodQ P N w0 own0 hdr0 Fr (Now w own s.hold) a w K (execOp a.eval o)) ∧ (o'.quiet = true → o'.isLoad = false → GoodQ P N w0 own0 hdr0 Fr (fun _ => False) a w K (execOp a.eval o)) :=
  fun h hq => ⟨h, fun hq' => by (rw [hq] at hq'; cases hq'), fun hq' => by (rw [hq] at hq'; cases hq')⟩
 generalize hty : o.type = ty at hd
 generalize hop : o.op = op at hd
 unfold digOp at hd
 split at hd
 ·simp only [Option.map_eq_some_iff] at hd; obtain ⟨x, hx, rfl⟩ := hd
  exact Q (fun _ => snd_mov r (.inl hop) hx h)
 ·simp only [Option.map_eq_some_iff] at hd; obtain ⟨x, hx, rfl⟩ := hd
  exact Q (fun _ => snd_mov r (.inr hop) hx h)
 ·simp only [Option.map_eq_some_iff] at hd; obtain ⟨x, hx, rfl⟩ := hd
  exact Q (fun _ => snd_nck r hop hx h)
 ·split at hd
  ·rename_i hc hx hy
   simp at hd; subst hd
   exact Q (fun _ => snd_pick r hop hc hx hy h)
  ·simp at hd
 ·split at hd
  ·split at hd
   ·rename_i hx hy
    simp at hd; subst hd
    exact Q (fun _ => snd_beq (ne := false) r hop (by assumption) hx hy h)
   ·simp at hd
  ·split at hd
   ·rename_i hx hy
    simp at hd; subst hd
    exact Q (fun _ => snd_beq (ne := true) r hop (by assumption) hx hy h)
   ·simp at hd
  ·split at hd
   ·rename_i hx
    simp at hd; subst hd
    exact Q (fun _ => snd_eqn (ne := false) r hop (by assumption) hx h)
   ·simp at hd
  ·split at hd
   ·rename_i hx
    simp at hd; subst hd
    exact Q (fun _ => snd_eqn (ne := true) r hop (by assumption) hx h)
   ·simp at hd
  ·split at hd
   ·rename_i hx hy
    simp at hd; subst hd
    exact Q (fun _ => snd_bin r hop hx hy h)
   ·simp at hd
 ·simp only [Option.map_eq_some_iff] at hd; obtain ⟨x, hx, rfl⟩ := hd
  exact Q (fun _ => snd_un r hop hx h)
 ·split at hd
  ·rename_i hs ht hx
   simp at hd; subst hd
   exact Q (fun _ => snd_conv r hop hs ht hx h)
  ·rename_i hs ht hx
   split at hd
   ·rename_i he
    simp at hd; subst hd
    exact G (snd_b2s' r hop hs he ht hx h) rfl
   ·simp at hd
  ·rename_i hs ht hx
   split at hd
   ·rename_i he
    split at hd
    ·rename_i hst
     simp at hd; subst hd
     subst hst
     exact G (snd_s2s r hop hs he hx h) rfl
    ·simp at hd
   ·simp at hd
  ·rename_i hs ht hx
   split at hd
   ·rename_i he
    simp at hd; subst hd
    exact G (snd_s2b r hop hs ht he hx h) rfl
   ·simp at hd
  ·rename_i hs ht hx
   simp at hd; subst hd
   exact Q (fun _ => snd_sts r hop hs ht hx h)
  ·simp at hd
 ·simp only [Option.map_eq_some_iff] at hd; obtain ⟨x, hx, rfl⟩ := hd
  exact G (snd_box r hop hx h) rfl
 ·simp only [Option.map_eq_some_iff] at hd; obtain ⟨x, hx, rfl⟩ := hd
  exact G (snd_alloc r hop hx h) rfl
 ·split at hd
  ·rename_i ht hz
   split at hd
   ·rename_i hp
    simp only [Option.map_eq_some_iff] at hd; obtain ⟨x, hx, rfl⟩ := hd
    exact Q (fun _ => snd_build r hop ht hz hp hx h)
   ·simp at hd
  ·rename_i _ hz
   split at hd
   ·rename_i ht
    simp only [Option.map_eq_some_iff] at hd; obtain ⟨x, hx, rfl⟩ := hd
    exact Q (fun _ => snd_buildA r hop ht hz hx h)
   ·simp at hd
  ·simp at hd
 ·split at hd
  ·rename_i ht
   split at hd
   ·rename_i hz hp
    simp only [Option.some.injEq] at hd; subst hd
    split at h
    ·rename_i hfn
     exact G (snd_flit r hop ht hz hp h) (by rw [if_pos hfn]; rfl)
    ·rename_i hfn
     exact G (snd_lit' r hop ht hz hp h) (by rw [if_neg hfn]; rfl)
   ·simp at hd
  ·simp at hd
 ·split at hd
  ·rename_i ht
   split at hd
   ·rename_i hf hx
    simp only [Option.map_eq_some_iff] at hd; obtain ⟨n, hn, rfl⟩ := hd
    exact Q (fun _ => snd_fld' r hop ht hf hn hx h)
   ·simp at hd
  ·simp at hd
 ·split at hd
  ·rename_i hn hx
   simp at hd; subst hd
   exact ⟨.inl (snd_load' r hop hn hx h), fun _ hst => sq_load r hop hn hx hst h, fun _ h => by cases h⟩
  ·simp at hd
 ·split at hd
  ·rename_i hn hx hv hi
   split at hd
   ·rename_i hsz
    simp at hd; subst hd
    exact G (snd_store' r hop hi hsz hx hv h) rfl
   ·simp at hd
  ·simp at hd
 ·split at hd
  ·rename_i ht
   split at hd
   ·rename_i hf hx
    split at hd
    ·rename_i hi
     split at hd
     ·simp at hd
     ·rename_i hs
      simp at hd; subst hd
      exact Q (fun _ => snd_fad' r hop ht hf hi hs hx h)
    ·simp at hd
   ·simp at hd
  ·simp at hd
 ·split at hd
  ·rename_i ht hx hn
   simp only [Option.some.injEq] at hd; subst hd
   split at h
   ·rename_i hfn
    exact Q (fun _ => snd_fiad r hop ht hx hn h)
   ·rename_i hfn
    exact Q (fun _ => snd_iad' r hop ht hx hn h)
  ·split at hd
   ·rename_i ht hx hn
    simp at hd; subst hd
    exact Q (fun _ => snd_aad r hop ht hx hn h)
   ·simp at hd
 ·split at hd
  ·rename_i ht hx hn
   simp at hd; subst hd
   exact Q (fun _ => snd_ix r hop ht hx hn h)
  ·simp at hd
 ·split at hd
  ·rename_i ht hx hlo hhi
   simp at hd; subst hd
   exact Q (fun _ => snd_cut r hop ht hx hlo hhi h)
  ·simp at hd
 ·split at hd
  ·rename_i ht hx hlo hhi hmx
   simp at hd; subst hd
   exact Q (fun _ => snd_cut3 r hop ht hx hlo hhi hmx h)
  ·simp at hd
 ·split at hd
  ·rename_i ht hn hc
   split at hd
   ·rename_i hnc
    simp only [Option.map_eq_some_iff] at hd; obtain ⟨zs, hz, rfl⟩ := hd
    refine G (snd_mk' r hop ht hz hn ?_ h) rfl
    rw [digX_t hn, digX_t hc, hnc]
   ·simp at hd
  ·rename_i ht hn hc
   split at hd
   ·rename_i hnc
    simp only [Option.map_eq_some_iff] at hd; obtain ⟨zs, hz, rfl⟩ := hd
    refine G (snd_mk' r hop ht hz hn ?_ h) rfl
    rw [digX_v hn, digX_v hc, hnc.1, hnc.2]
   ·simp at hd
  ·simp at hd
 ·simp only [Option.map_eq_some_iff] at hd; obtain ⟨x, hx, rfl⟩ := hd
  exact Q (fun _ => snd_ext r hop hx h)
 ·split at hd
  ·rename_i hf hc
   simp at hd; subst hd
   exact Q (fun _ => snd_clo r hop hf hc h)
  ·simp at hd
 ·split at hd
  ·rename_i x t hxs hts
   have ho := arr1 hxs hts hop
   split at hd
   ·rename_i ht
    simp only [Option.map_eq_some_iff] at hd; obtain ⟨x, hx, rfl⟩ := hd
    exact Q (fun _ => snd_slen r ho ht hx h)
   ·rename_i ht
    simp only [Option.map_eq_some_iff] at hd; obtain ⟨x, hx, rfl⟩ := hd
    split at h
    ·rename_i hfn
     exact Q (fun _ => snd_flen r ho ht hx h)
    ·rename_i hfn
     exact Q (fun _ => snd_len r ho ht hx h)
   ·simp at hd
  ·simp at hd
 ·split at hd
  ·rename_i x y t u hxs hts
   split at hd
   ·rename_i htu
    subst htu
    split at hd
    ·rename_i ht hx hy
     split at hd
     ·rename_i hz
      split at hd
      ·rename_i hl
       simp at hd; subst hd
       have hxs' := congrArg List.toArray hxs
       have hts' := congrArg List.toArray hts
       simp only [Array.toArray_toList] at hxs' hts'
       subst hxs'; subst hts'
       exact G (snd_app' r hop ht hx hy hz hl h) rfl
      ·simp at hd
     ·simp at hd
    ·simp at hd
   ·split at hd
    ·rename_i hu
     split at hd
     ·rename_i ht hx hy
      split at hd
      ·rename_i hz
       split at hd
       ·rename_i hl
        simp at hd; subst hd
        have hxs' := congrArg List.toArray hxs
        have hts' := congrArg List.toArray hts
        simp only [Array.toArray_toList] at hxs' hts'
        subst hxs'; subst hts'
        exact G (snd_apps' r hop hu ht hx hy hz hl h) rfl
       ·simp at hd
      ·simp at hd
     ·simp at hd
    ·simp at hd
  ·simp at hd
 ·split at hd
  ·rename_i hxs
   split at hd
   ·rename_i hx hy
    simp at hd; subst hd
    have hxs' := congrArg List.toArray hxs
    simp only [Array.toArray_toList] at hxs'
    subst hxs'
    exact Q (fun _ => snd_mm (mx := true) r hop hx hy h)
   ·simp at hd
  ·simp at hd
 ·split at hd
  ·rename_i hxs
   split at hd
   ·rename_i hx hy
    simp at hd; subst hd
    have hxs' := congrArg List.toArray hxs
    simp only [Array.toArray_toList] at hxs'
    subst hxs'
    exact Q (fun _ => snd_mm (mx := false) r hop hx hy h)
   ·simp at hd
  ·simp at hd
 ·simp only [Option.map_eq_some_iff] at hd; obtain ⟨ys, hy, rfl⟩ := hd
  exact C (snd_call r hop hy h) rfl
 ·split at hd
  ·rename_i hx hy
   simp at hd; subst hd
   exact C (snd_callv r hop hx hy h) rfl
  ·simp at hd
 ·simp at hd
theorem op_sound' {d : Nat} {o' : O} (r : RelX P N w0 own0 hdr0 Fr own hdr s a w) (hd : digOp' P d o.type o.op = some o') (h : stepO P s o' K) :
  GoodO P N w0 own0 hdr0 Fr a K w ((execOp a.eval o).run P w) ∧ (o'.quiet = true → s.still o' → GoodQ P N w0 own0 hdr0 Fr (Now w own s.hold) a w K (execOp a.eval o)) ∧ (o'.quiet = true → o'.isLoad = false → GoodQ P N w0 own0 hdr0 Fr (fun _ => False) a w K (execOp a.eval o)) := by
 unfold digOp' at hd
 cases hg : digOp P d o.type o.op with
 | some o2 =>
  rw [hg] at hd
  simp at hd
  subst hd
  exact op_sound r hg h
 | none =>
  rw [hg] at hd
  simp at hd
  subst hd
  exact absurd h (by simp [stepO])
end
end Hearth

/- The abstract machine: regions, in whatever order. -/
namespace Hearth
open Go
inductive T where
 | done
 | op (i : Nat) (ws : List Nat) (d : Option Nat) (g : Option (Nat × Bool)) (q : Bool) (o : O) (rest : T)
 | alt (x y : T)
def guardA (s : St) (g : Option (Nat × Bool)) (A B : St → Prop) : Prop :=
 match g with
 | none => A s
 | some (g, want) => match s.sl g with
  | .c (.d (.sc (.bool b))) => (b = want → A (s.put (some g) (.b want))) ∧ (b = !want → B (s.put (some g) (.b !want)))
  | .c .un => B s
  | _ => False
section
variable (P : Program)
def relT (ws tags : List Nat) : List Nat := tags.filter fun i => !ws.contains i
def relS (ws tags : List Nat) (s : St) : St := if (!ws.isEmpty && (relT ws tags).isEmpty) = true then { s with hold := [] } else s
def St.holdOf (s : St) : O → List Nat
 | .load _ x => match s.ev x with
  | .c (.ptr id _ _) | .c (.ept id _ _ _) | .c (.spt id _ _ _ _ _ _) => [id]
  | _ => []
 | _ => []
def St.holds (s : St) (q : Bool) (o : O) : St := if (q && o.isLoad) = true then { s with hold := s.holdOf o ++ s.hold } else s
def wpT : T → List Nat → St → (St → Prop) → Prop
 | .done, _, s, K => K s
 | .op i ws d g q o rest, tags, s, K => guardA s g
   (fun s => (q = true → ((relS ws tags s).holds q o).still o) ∧ stepO P ((relS ws tags s).holds q o) o fun v s' => wpT rest (if (q && o.isLoad) = true then i :: relT ws tags else relT ws tags) (s'.put d v) K)
   (fun s => wpT rest (relT ws tags) ((relS ws tags s).put d (.c .un)) K)
 | .alt x y, tags, s, K => wpT x tags s K ∧ wpT y tags s K
section
variable (N : Nat) (ops : Array Oper)
def dstOk : Option Nat → Bool
 | some d => decide (d < N)
 | none => true
def digN (i : Nat) : Option (Option Nat × Option (Nat × Bool) × O) :=
 match ops[i]? with
 | some o =>
  match digOp' P (o.dst.getD (N + i)) o.type o.op with
  | some o' =>
   if dstOk N o.dst = true then
    match o.guard with
    | none => some (o.dst, none, o')
    | some (j, want) => match (ops[j]?).bind (·.dst) with
     | some g => if g < N then some (o.dst, some (g, want), o') else none
     | none => none
   else none
  | none => none
 | none => none
def digS : List Nat → Option T
 | [] => some .done
 | i :: r => match digN P N ops i, digS r with
  | some (d, g, o), some t => some (.op i [] d g false o t)
  | _, _ => none
def T.alts : List T → T
 | [] => .done
 | [t] => t
 | t :: r => .alt t (alts r)
def okQ (ld : Bool) : O → Bool
 | .load .. => ld
 | o => o.quiet
def behindL (ops : Array Oper) : Nat → Nat → List Nat
 | 0, _ => []
 | n + 1, j => match ops[j]? with
  | some o => ((o.after.toList.filter (Region.binds .any)).flatMap fun e => e.on :: behindL ops n e.on).eraseDups
  | none => []
def waitsL (j : Nat) : List Nat := (behindL ops 6 j).filter fun i => match ops[i]? with
 | some o => (match o.op with | .load .. => true | _ => false)
 | none => false
def digD (ld : Bool) : Nat → Array Bool → Option T
 | 0, listed => if (Region.ready .any ops listed).isEmpty then some .done else none
 | fuel + 1, listed =>
  if (Region.ready .any ops listed).isEmpty then some .done
  else
   match (Region.ready .any ops listed).find? fun i => (match digN P N ops i with | some (_, _, o) => okQ ld o | none => false) && Region.free .any ops listed i with
   | some i => match digN P N ops i, digD ld fuel (listed.setIfInBounds i true) with
    | some (d, g, o), some t => some (.op i [] d g true o t)
    | _, _ => none
   | none => ((Region.ready .any ops listed).mapM fun i => match digN P N ops i, digD ld fuel (listed.setIfInBounds i true) with
    | some (d, g, o), some t => some (T.op i (waitsL ops i) d g false o t)
    | _, _ => none).map T.alts
end
end
section
variable {P : Program} {N : Nat} {w0 : World} {own0 : Nat → Nat → Prop} {hdr0 : Nat → Value} {Fr : List ((Nat → Prop) × World)} {own : Nat → Nat → Prop} {hdr : Nat → Value} {s : St} {a : Act} {w : World} {ops : Array Oper} {Q : Exit → Act → World → Prop}
theorem RelX.put (r : RelX P N w0 own0 hdr0 Fr own hdr s a w) {d : Option Nat} {x : AV} {v : Value} (hd : ∀ n, d = some n → n < N) (hv : RS P w own hdr s.ob x v) : RelX P N w0 own0 hdr0 Fr own hdr (s.put d x) (a.put d v) w := by
 cases d with
 | none => exact r
 | some d =>
  refine ⟨by simp [Act.put, r.n], r.defers, fun t => ?_, r.objs, r.al, r.alv, r.dis, r.lt, r.ext, r.zero, r.new, r.frs⟩
  have hd' := hd d rfl
  simp only [St.put, Act.put, Hearth.upd]
  by_cases ht : t = d
  ·subst ht
   rw [if_pos rfl]
   have : (a.tmps.setIfInBounds t v).getD t undef = v := by
    have : t < a.tmps.size := by rw [r.n]; exact hd'
    simp [Array.getD_eq_getD_getElem?, Array.getElem?_setIfInBounds, this]
   rw [this]; exact hv
  ·rw [if_neg ht]
   have : (a.tmps.setIfInBounds d v).getD t undef = a.tmps.getD t undef := by
    simp [Array.getD_eq_getD_getElem?, Array.getElem?_setIfInBounds, Ne.symm ht]
   rw [this]; exact r.tmps t
theorem RelX.same (r : RelX P N w0 own0 hdr0 Fr own hdr s a w) {d : Nat} {x : AV} (hv : RS P w own hdr s.ob x (a.tmps.getD d undef)) : RelX P N w0 own0 hdr0 Fr own hdr (s.put (some d) x) a w := by
 refine ⟨r.n, r.defers, fun t => ?_, r.objs, r.al, r.alv, r.dis, r.lt, r.ext, r.zero, r.new, r.frs⟩
 simp only [St.put, Hearth.upd]
 by_cases ht : t = d
 ·subst ht; rw [if_pos rfl]; exact hv
 ·rw [if_neg ht]; exact r.tmps t
theorem RelX.held (r : RelX P N w0 own0 hdr0 Fr own hdr s a w) : RelX P N w0 own0 hdr0 ((Now w own s.hold, w) :: Fr) own hdr s a w :=
 ⟨r.n, r.defers, r.tmps, r.objs, r.al, r.alv, r.dis, r.lt, r.ext, r.zero, r.new, fun p hp b hb => by
  rcases List.mem_cons.1 hp with rfl | hp
  ·exact ⟨hb.1, rfl, hb.2⟩
  ·exact r.frs p hp b hb⟩
theorem RelX.unheld {p : (Nat → Prop) × World} (r : RelX P N w0 own0 hdr0 (p :: Fr) own hdr s a w) : RelX P N w0 own0 hdr0 Fr own hdr s a w ∧ ∀ b, p.1 b → Now w own s.hold b ∧ w.heap[b]? = p.2.heap[b]? :=
 ⟨⟨r.n, r.defers, r.tmps, r.objs, r.al, r.alv, r.dis, r.lt, r.ext, r.zero, r.new, fun q hq b hb => r.frs q (List.mem_cons_of_mem _ hq) b hb⟩,
  fun b hb => by
   obtain ⟨h1, h2, h3⟩ := r.frs p (List.mem_cons_self ..) b hb
   exact ⟨⟨h1, h3⟩, h2⟩⟩
theorem upon_of {o : Oper} {K : AV → St → Prop} {res : Result Next} {next : Act → World → Prop} (h : GoodO P N w0 own0 hdr0 Fr a K w res)
  (hn : ∀ v w' x s', K x s' → RelV P N w0 own0 hdr0 Fr s' a w' x v → next (a.put o.dst v) w') : o.upon P a next Q res := by
 rcases h with ⟨v, w', x, s', h1, h2, h3⟩ | ⟨f, args, rfl, _, hc⟩
 ·rcases h1 with rfl | ⟨rfl, rfl⟩
  ·exact hn v w' x s' h2 h3
  ·exact hn undef w' x s' h2 h3
 ·rw [Oper.upon_enter]
  refine hc.mono ?_
  rintro e w' ⟨v, x, s', rfl, h2, h3⟩
  exact hn v w' x s' h2 h3
def guardIs (N : Nat) (ops : Array Oper) (o : Oper) : Option (Nat × Bool) → Prop
 | none => o.guard = none
 | some (g, want) => ∃ j, o.guard = some (j, want) ∧ (ops[j]?).bind (·.dst) = some g ∧ g < N
theorem digN_spec {i : Nat} {d : Option Nat} {g : Option (Nat × Bool)} {o' : O} (h : digN P N ops i = some (d, g, o')) : ∃ o, ops[i]? = some o ∧ o.dst = d ∧ (∀ n, d = some n → n < N) ∧ (∃ e, digOp' P e o.type o.op = some o') ∧
  guardIs N ops o g := by
 unfold digN at h
 split at h
 ·rename_i o ho
  split at h
  ·rename_i o2 ho2
   split at h
   ·rename_i hd
    have hlt : ∀ n, o.dst = some n → n < N := by
     intro n hn; rw [hn] at hd; simpa [dstOk] using hd
    split at h
    ·rename_i hg
     simp at h
     obtain ⟨rfl, rfl, rfl⟩ := h
     exact ⟨o, ho, rfl, hlt, ⟨_, ho2⟩, hg⟩
    ·rename_i j want hg
     split at h
     ·rename_i g' hg'
      split at h
      ·rename_i hN
       simp at h
       obtain ⟨rfl, rfl, rfl⟩ := h
       exact ⟨o, ho, rfl, hlt, ⟨_, ho2⟩, j, hg, hg', hN⟩
      ·simp at h
     ·simp at h
   ·simp at h
  ·simp at h
 ·simp at h
theorem guard_sound (r : RelX P N w0 own0 hdr0 Fr own hdr s a w) {o : Oper} {g : Option (Nat × Bool)} {A B : St → Prop} (hg : guardIs N ops o g)
  (h : guardA s g A B) : ∃ s', RelX P N w0 own0 hdr0 Fr own hdr s' a w ∧ s'.hold = s.hold ∧ ((Region.wanted o (yielded ops a.tmps) = true ∧ A s') ∨ (Region.wanted o (yielded ops a.tmps) = false ∧ B s')) := by
 cases g with
 | none => exact ⟨s, r, rfl, .inl ⟨by simp [Region.wanted, show o.guard = none from hg], h⟩⟩
 | some gw =>
  obtain ⟨g, want⟩ := gw
  obtain ⟨j, h1, h2, h3⟩ := hg
  have hlt : g < a.tmps.size := by rw [r.n]; exact h3
  have hget : a.tmps[g]? = some (a.tmps.getD g undef) := by simp [hlt, Array.getD_eq_getD_getElem?]
  have ht := r.tmps g
  simp only [guardA] at h
  split at h
  ·rename_i b hb
   rw [hb] at ht
   have hv := sc_of ht
   have hy : yielded ops a.tmps j = some b := by simp [yielded, h2, hget, hv]
   by_cases hbw : b = want
   ·subst hbw
    exact ⟨_, r.same (d := g) (x := .b b) (by rw [hv]; exact rsB b), rfl, .inl ⟨by simp [Region.wanted, h1, hy], h.1 rfl⟩⟩
   ·have hb' : b = !want := by cases b <;> cases want <;> simp_all
    subst hb'
    exact ⟨_, r.same (d := g) (x := .b (!want)) (by rw [hv]; exact rsB _), rfl, .inr ⟨by simp [Region.wanted, h1, hy], h.2 rfl⟩⟩
  ·rename_i hb
   rw [hb] at ht
   have hv : a.tmps.getD g undef = undef := ht
   have hy : yielded ops a.tmps j = none := by
    unfold yielded
    rw [h2, Option.bind_some, hget, hv]
    rfl
   exact ⟨s, r, rfl, .inr ⟨by simp [Region.wanted, h1, hy], h⟩⟩
  ·exact h.elim
theorem wpOp_wanted {i : Nat} {o : Oper} {K : Act → World → Prop} (hi : ops[i]? = some o) (h : (Region.wanted o (yielded ops a.tmps) = true ∧ o.upon P a K Q ((execOp a.eval o).run P w)) ∨ (Region.wanted o (yielded ops a.tmps) = false ∧ K (a.put o.dst undef) w)) :
  wpOp P ops Q i K a w := by
 unfold wpOp
 rw [hi]
 rcases h with ⟨h1, h2⟩ | ⟨h1, h2⟩
 ·simp only [h1, if_true]; exact .inl h2
 ·simp only [h1]; exact h2
theorem relS_nil (s : St) (tags : List Nat) : relS [] tags s = s := rfl
theorem relT_nil (tags : List Nat) : relT [] tags = tags := by
 unfold relT; rw [List.filter_eq_self]; simp
theorem holds_f (s : St) (o : O) : s.holds false o = s := rfl
theorem RelX.drops (r : RelX P N w0 own0 hdr0 [] own hdr s a w) (h : List Nat) : RelX P N w0 own0 hdr0 [] own hdr { s with hold := h } a w :=
 ⟨r.n, r.defers, r.tmps, r.objs, r.al, r.alv, r.dis, r.lt, r.ext, r.zero, r.new, by simp⟩
theorem relS_rel (r : RelX P N w0 own0 hdr0 [] own hdr s a w) (ws tags : List Nat) : RelX P N w0 own0 hdr0 [] own hdr (relS ws tags s) a w := by
 unfold relS
 split
 ·exact r.drops _
 ·exact r
theorem holds_rel (r : RelX P N w0 own0 hdr0 [] own hdr s a w) (q : Bool) (o : O) : RelX P N w0 own0 hdr0 [] own hdr (s.holds q o) a w := by
 unfold St.holds
 split
 ·exact r.drops _
 ·exact r
theorem node_sound (r : RelX P N w0 own0 hdr0 [] own hdr s a w) {i j : Nat} {ws tags : List Nat} {d : Option Nat} {g : Option (Nat × Bool)} {o' : O} {t : T} {K : St → Prop} {next : Act → World → Prop} (hi : digN P N ops i = some (d, g, o'))
  (h : wpT P (.op j ws d g false o' t) tags s K)
  (hn : ∀ s' a' w' own' hdr', wpT P t (relT ws tags) s' K → RelX P N w0 own0 hdr0 [] own' hdr' s' a' w' → (∀ b, Now w own (relS ws tags s).hold b → Now w' own' s'.hold b ∧ w'.heap[b]? = w.heap[b]?) → next a' w') : wpOp P ops Q i next a w := by
 obtain ⟨o, h1, h2, h3, ⟨e, h4⟩, h5⟩ := digN_spec hi
 obtain ⟨s', r', hh, hw⟩ := guard_sound (ops := ops) r h5 h
 have hhold : (relS ws tags s').hold = (relS ws tags s).hold := by
  unfold relS
  split
  ·rfl
  ·exact hh
 refine wpOp_wanted h1 ?_
 rcases hw with ⟨h6, _, h7⟩ | ⟨h6, h7⟩
 ·simp only [Bool.false_and] at h7
  rw [holds_f] at h7
  have r1 := (relS_rel r' ws tags).held
  refine .inl ⟨h6, upon_of (op_sound' r1 h4 h7).1 fun v w' x s'' hK hr => ?_⟩
  obtain ⟨own', hdr', r'', hv⟩ := hr
  rw [h2]
  have r3 := (r''.put h3 hv).unheld
  rw [hhold] at r3
  exact hn _ _ _ own' hdr' hK r3.1 r3.2
 ·refine .inr ⟨h6, ?_⟩
  rw [h2]
  refine hn _ _ _ own hdr h7 ((relS_rel r' ws tags).put h3 (x := .c .un) rfl) fun b hb => ⟨?_, rfl⟩
  have : ((relS ws tags s').put d (.c .un)).hold = (relS ws tags s').hold := by cases d <;> rfl
  rw [this, hhold]; exact hb
theorem digS_sound : ∀ {l : List Nat} {t : T} {s : St} {a : Act} {w : World} {K : St → Prop}, digS P N ops l = some t → wpT P t [] s K → Rel P N w0 own0 hdr0 [] s a w →
  (∀ s' a' w', K s' → Rel P N w0 own0 hdr0 [] s' a' w' → Q .normal a' w') → wpOps P ops Q l a w
 | [], t, s, a, w, K, h, hw, hr, hQ => by
  simp [digS] at h; subst h
  exact hQ s a w hw hr
 | i :: l, t, s, a, w, K, h, hw, ⟨own, hdr, r⟩, hQ => by
  simp only [digS] at h
  split at h
  ·rename_i d g o t' h1 h2
   simp at h; subst h
   rw [wpOps_cons]
   exact node_sound r h1 hw fun s' a' w' own' hdr' hK hr _ => digS_sound h2 hK ⟨own', hdr', hr⟩ hQ
  ·simp at h
inductive Behind (ops : Array Oper) : Nat → Nat → Prop where
 | one {j : Nat} {o : Oper} {e : Edge} (ho : ops[j]? = some o) (he : e ∈ o.after) (hb : Region.binds .any e = true) : Behind ops j e.on
 | step {j i : Nat} {o : Oper} {e : Edge} (ho : ops[j]? = some o) (he : e ∈ o.after) (hb : Region.binds .any e = true) (h : Behind ops e.on i) : Behind ops j i
theorem behindL_sound : ∀ {n j i : Nat}, i ∈ behindL ops n j → Behind ops j i
 | 0, _, _, h => by simp [behindL] at h
 | n + 1, j, i, h => by
  simp only [behindL] at h
  split at h
  ·rename_i o ho
   rw [List.mem_eraseDups, List.mem_flatMap] at h
   obtain ⟨e, h1, h2⟩ := h
   rw [List.mem_filter] at h1
   have he : e ∈ o.after := Array.mem_toList_iff.1 h1.1
   rcases List.mem_cons.1 h2 with rfl | h2
   ·exact .one ho he h1.2
   ·exact .step ho he h1.2 (behindL_sound h2)
  ·cases h
theorem waitsL_sound {j i : Nat} (h : i ∈ waitsL ops j) : Behind ops j i := by
 unfold waitsL at h
 exact behindL_sound (List.mem_filter.1 h).1
def Down (ops : Array Oper) (listed : Array Bool) : Prop := ∀ (j : Nat) (o : Oper) (e : Edge), ops[j]? = some o → listed.getD j false = true → e ∈ o.after → Region.binds .any e = true → listed.getD e.on false = true
theorem Down.behind {listed : Array Bool} (hd : Down ops listed) {j i : Nat} (h : Behind ops j i) : listed.getD j false = true → listed.getD i false = true := by
 induction h with
 | one ho he hb => exact fun hl => hd _ _ _ ho hl he hb
 | step ho he hb _ ih => exact fun hl => ih (hd _ _ _ ho hl he hb)
theorem Down.not {listed : Array Bool} (hd : Down ops listed) {j i : Nat} (hj : j ∈ Region.ready .any ops listed) (hi : listed.getD i false = false) : ¬ Behind ops j i := by
 intro h
 obtain ⟨_, o, ho, hall⟩ := mem_ready.1 hj
 cases h with
 | one ho' he hb =>
  rw [ho] at ho'; simp at ho'; subst ho'
  rw [hall _ he hb] at hi; cases hi
 | step ho' he hb h =>
  rw [ho] at ho'; simp at ho'; subst ho'
  rw [hd.behind h (hall _ he hb)] at hi; cases hi
theorem Down.set {listed : Array Bool} (hd : Down ops listed) {j : Nat} (hj : j ∈ Region.ready .any ops listed) : Down ops (listed.setIfInBounds j true) := by
 intro k o e ho hk he hb
 by_cases hkj : k = j
 ·subst hkj
  obtain ⟨_, o', ho', hall⟩ := mem_ready.1 hj
  rw [ho] at ho'; simp at ho'; subst ho'
  exact getD_set_true (hall e he hb)
 ·rw [getD_set_ne false (Ne.symm hkj)] at hk
  exact getD_set_true (hd k o e ho hk he hb)
def wpAnyF (P : Program) (ops : Array Oper) (Q : Exit → Act → World → Prop) : Nat → Array Bool → (Nat → Nat → Prop) → Act → World → Prop
 | 0, listed, _, a, w => Region.ready .any ops listed = [] ∧ Q .normal a w
 | fuel + 1, listed, F, a, w =>
  (Region.ready .any ops listed = [] → Q .normal a w) ∧
  ∀ j ∈ Region.ready .any ops listed, wpOp P ops Q j (fun a' w' => ∃ F' : Nat → Nat → Prop, (∀ i b, ¬ Behind ops j i → F i b → F' i b ∧ w'.heap[b]? = w.heap[b]?) ∧ wpAnyF P ops Q fuel (listed.setIfInBounds j true) F' a' w') a w
theorem wpAny_of_F : ∀ (fuel : Nat) (listed : Array Bool) (F : Nat → Nat → Prop) (a : Act) (w : World), wpAnyF P ops Q fuel listed F a w → wpAny P .any ops Q fuel listed a w
 | 0, _, _, _, _, h => h
 | fuel + 1, _, _, _, _, h => ⟨h.1, fun i hi => wpOp_mono (fun a' w' ⟨F', _, h'⟩ => wpAny_of_F fuel _ F' a' w' h') (h.2 i hi)⟩
theorem wpAnyF_mono {fuel : Nat} {listed : Array Bool} {F F' : Nat → Nat → Prop} (hF : ∀ i b, F' i b → F i b) (h : wpAnyF P ops Q fuel listed F a w) : wpAnyF P ops Q fuel listed F' a w := by
 cases fuel with
 | zero => exact h
 | succ fuel => exact ⟨h.1, fun j hj => wpOp_mono (fun a' w' ⟨F2, k1, k2⟩ => ⟨F2, fun i b hb hf => k1 i b hb (hF i b hf), k2⟩) (h.2 j hj)⟩
theorem wpAnyF_first {i : Nat} {oi : Oper} {v : Value} {F0 : Nat → Prop} {wd : World} (hi : ops[i]? = some oi) (hsel : ∀ (j : Nat) (o : Oper) cs b, ops[j]? = some o → o.op ≠ .select cs b)
  (hQ : ∀ c a w, Q (.panic c) (a.put oi.dst v) w → Q (.panic c) a w) :
  ∀ (fuel : Nat) (listed : Array Bool) (F : Nat → Nat → Prop) (a : Act) (w : World), Down ops listed → (∀ b, F0 b → F i b) → (∀ b, F0 b → w.heap[b]? = wd.heap[b]?) →
   (∀ j oj, ops[j]? = some oj → j ≠ i → listed.getD j true = false → (∀ e ∈ oj.after, Region.binds .any e = true → e.on ≠ i) → oi.apart ops oj = true) →
   i ∈ Region.ready .any ops listed → YieldsIf P ops (fun w' => ∀ b, F0 b → w'.heap[b]? = wd.heap[b]?) oi v a →
   wpAnyF P ops Q fuel (listed.setIfInBounds i true) F (a.put oi.dst v) w → wpAnyF P ops Q (fuel + 1) listed F a w := by
 intro fuel
 induction fuel with
 | zero =>
  intro listed F a w hd hF hS _ hr hy H
  refine ⟨fun h => (by rw [h] at hr; cases hr), fun j hj => ?_⟩
  by_cases hji : j = i
  ·subst hji; exact hy.wpOp hi hS ⟨F, fun i b _ hb => ⟨hb, rfl⟩, H⟩
  ·have := ready_mono hj hji
   rw [H.1] at this
   cases this
 | succ fuel ih =>
  intro listed F a w hd hF hS hfree hr hy H
  refine ⟨fun h => (by rw [h] at hr; cases hr), fun j hj => ?_⟩
  by_cases hji : j = i
  ·subst hji; exact hy.wpOp hi hS ⟨F, fun i b _ hb => ⟨hb, rfl⟩, H⟩
  ·have h1 := H.2 j (ready_mono hj hji)
   obtain ⟨hjun, oj, hoj, hall⟩ := mem_ready.1 hj
   have hiun : listed.getD i false = false := by
    have h0 := (mem_ready.1 hr).1
    rcases Nat.lt_or_ge i listed.size with h' | h'
    ·simp [h'] at h0 ⊢; exact h0
    ·simp [Array.getElem?_eq_none h']
   have hnb := hd.not hj hiun
   have hnot : ∀ e ∈ oj.after, Region.binds .any e = true → e.on ≠ i := fun e he hb heq => by
    have h1 := hall e he hb
    rw [heq, hiun] at h1; cases h1
   have h2 := wpOp_putIf hoj (hfree j oj hoj hji hjun hnot) (fun cs b => hsel i oi cs b hi) (fun cs b => hsel j oj cs b hoj) hQ hy h1
   have hfree' : ∀ k ok, ops[k]? = some ok → k ≠ i → (listed.setIfInBounds j true).getD k true = false →
     (∀ e ∈ ok.after, Region.binds .any e = true → e.on ≠ i) → oi.apart ops ok = true := fun k ok hk hki hun hno => by
    refine hfree k ok hk hki ?_ hno
    by_cases hjk : j = k
    ·subst hjk; exact hjun
    ·rw [getD_set_ne true hjk] at hun; exact hun
   refine wpOp_mono (fun a' w' h3 => ?_) h2
   obtain ⟨h3, F', h4, h5⟩ := h3
   refine ⟨F', h4, ih (listed.setIfInBounds j true) F' a' w' (hd.set hj) (fun b hb => (h4 i b hnb (hF b hb)).1) (fun b hb => (h4 i b hnb (hF b hb)).2.trans (hS b hb)) hfree' (ready_mono hr (Ne.symm hji)) h3 ?_⟩
   rw [Array.setIfInBounds_comm _ _ hji]
   exact h5
theorem alts_all {K : St → Prop} {tags : List Nat} : ∀ {l : List T} {t : T}, t ∈ l → wpT P (T.alts l) tags s K → wpT P t tags s K
 | [_], t, ht, h => by simp at ht; subst ht; exact h
 | x :: y :: r, t, ht, h => by
  rcases List.mem_cons.1 ht with rfl | ht
  ·exact h.1
  ·exact alts_all ht h.2
theorem mapM_mem {α β : Type} {f : α → Option β} : ∀ {l : List α} {l' : List β}, l.mapM f = some l' → ∀ x ∈ l, ∃ y ∈ l', f x = some y
 | [], _, _, x, hx => by cases hx
 | z :: l, l', h, x, hx => by
  simp only [List.mapM_cons, Option.bind_eq_bind, Option.bind_eq_some_iff, Option.pure_def, Option.some.injEq] at h
  obtain ⟨y, h1, ys, h2, rfl⟩ := h
  rcases List.mem_cons.1 hx with rfl | hx
  ·exact ⟨y, List.mem_cons_self .., h1⟩
  ·obtain ⟨y', h3, h4⟩ := mapM_mem h2 x hx
   exact ⟨y', List.mem_cons_of_mem _ h3, h4⟩
theorem okQ_quiet {ld : Bool} {o : O} (h : okQ ld o = true) : o.quiet = true := by
 cases o <;> first | rfl | exact h
theorem digD_sound {ld : Bool} (hsel : Region.noSelect ops = true) (hpan : ∀ c a w, ¬ Q (.panic c) a w) : ∀ {fuel : Nat} {listed : Array Bool} {t : T} {tags : List Nat} {own : Nat → Nat → Prop} {hdr : Nat → Value} {s : St} {a : Act} {w : World} {K : St → Prop} {F : Nat → Nat → Prop},
  digD P N ops ld fuel listed = some t → wpT P t tags s K → RelX P N w0 own0 hdr0 [] own hdr s a w → (∀ s' a' w', K s' → Rel P N w0 own0 hdr0 [] s' a' w' → Q .normal a' w') → Down ops listed →
  (∀ i b, F i b → i ∈ tags ∧ Now w own s.hold b) → wpAnyF P ops Q fuel listed F a w
 | 0, listed, t, tags, own, hdr, s, a, w, K, F, h, hw, r, hQ, _, _ => by
  simp only [digD] at h
  split at h
  ·rename_i he
   simp at h; subst h
   exact ⟨by simpa using he, hQ s a w hw ⟨own, hdr, r⟩⟩
  ·simp at h
 | fuel + 1, listed, t, tags, own, hdr, s, a, w, K, F, h, hw, r, hQ, hd, hF => by
  simp only [digD] at h
  split at h
  ·rename_i he
   simp at h; subst h
   have he' : Region.ready .any ops listed = [] := by simpa using he
   exact ⟨fun _ => hQ s a w hw ⟨own, hdr, r⟩, by rw [he']; simp⟩
  ·rename_i he
   split at h
   ·rename_i i hf
    split at h
    ·rename_i d g o' t' h1 h2
     simp at h; subst h
     have hfi := List.find?_some hf
     have hri := List.mem_of_find?_eq_some hf
     rw [h1] at hfi
     simp only [Bool.and_eq_true] at hfi
     obtain ⟨o, g1, g2, g3, ⟨e, g4⟩, g5⟩ := digN_spec h1
     obtain ⟨s1, r1, hh, hwt⟩ := guard_sound (ops := ops) r g5 hw
     simp only [relS_nil, relT_nil] at hwt
     have fin : ∀ v own' hdr' s2 tags' (F0 : Nat → Prop), RelX P N w0 own0 hdr0 [] own' hdr' s2 (a.put o.dst v) w → (∀ b, Now w own s.hold b → Now w own' s2.hold b) → (∀ b, F0 b → i ∈ tags' ∧ Now w own' s2.hold b) → (∀ j ∈ tags, j ∈ tags') → wpT P t' tags' s2 K →
       YieldsIf P ops (fun w' => ∀ b, F0 b → w'.heap[b]? = w.heap[b]?) o v a → wpAnyF P ops Q (fuel + 1) listed F a w := by
      intro v own' hdr' s2 tags' F0 r2 hsub hF0 htags hw2 hy
      have ih := digD_sound (F := fun j b => (j = i ∧ F0 b) ∨ F j b) hsel hpan h2 hw2 r2 hQ (hd.set hri) (fun j b hb => by
       rcases hb with ⟨rfl, hb⟩ | hb
       ·exact hF0 b hb
       ·exact ⟨htags j (hF j b hb).1, hsub b (hF j b hb).2⟩)
      have := wpAnyF_first (F0 := F0) (wd := w) g1 (Region.noSelect_spec hsel) (fun c a w hq => absurd hq (hpan _ _ _)) fuel listed _ a w hd (fun b hb => .inl ⟨rfl, hb⟩) (fun b hb => rfl) (Region.free_spec g1 hfi.2) hri hy ih
      exact wpAnyF_mono (fun j b hb => .inr hb) this
     rcases hwt with ⟨k1, k2, k3⟩ | ⟨k1, k2⟩
     ·have r1' := (holds_rel r1 true o').held
      have hsub : ∀ b, Now w own s.hold b → Now w own (s1.holds true o').hold b := by
       intro b hb
       refine ⟨hb.1, fun id hid => ?_⟩
       have := hb.2 id hid
       rw [← hh] at this
       unfold St.holds
       split
       ·exact List.mem_append_right _ this
       ·exact this
      by_cases hld : o'.isLoad = true
      ·obtain ⟨v, x, s2, m1, m2, own', hdr', m3, m4⟩ := (op_sound' r1' g4 k3).2.1 (okQ_quiet hfi.1) (k2 trivial)
       have m5 := (m3.put (d := o.dst) (by rw [g2]; exact g3) m4).unheld
       rw [g2] at m5
       simp only [hld, Bool.and_self, if_true] at m2
       refine fin v own' hdr' _ (i :: tags) (Now w own (s1.holds true o').hold) (by rw [g2]; exact m5.1) (fun b hb => (m5.2 b (hsub b hb)).1) (fun b hb => ⟨List.mem_cons_self .., (m5.2 b hb).1⟩) (fun j hj => List.mem_cons_of_mem _ hj) m2 (.inl ⟨k1, m1⟩)
      ·have hld' : o'.isLoad = false := by simpa using hld
       obtain ⟨v, x, s2, m1, m2, own', hdr', m3, m4⟩ := (op_sound' r1' g4 k3).2.2 (okQ_quiet hfi.1) hld'
       have m5 := (m3.put (d := o.dst) (by rw [g2]; exact g3) m4).unheld
       rw [g2] at m5
       simp only [hld', Bool.and_false] at m2
       exact fin v own' hdr' _ tags (fun _ => False) (by rw [g2]; exact m5.1) (fun b hb => (m5.2 b (hsub b hb)).1) (fun b hb => hb.elim) (fun j hj => hj) m2 (.inl ⟨k1, m1⟩)
     ·have m5 := (r1.put (d := o.dst) (x := .c .un) (v := undef) (by rw [g2]; exact g3) rfl)
      rw [g2] at m5
      refine fin undef own hdr _ tags (fun _ => False) (by rw [g2]; exact m5) (fun b hb => ?_) (fun b hb => hb.elim) (fun j hj => hj) k2 (.inr ⟨k1, rfl⟩)
      have : (s1.put d (.c .un)).hold = s.hold := by
       cases d <;> exact hh
      rw [this]; exact hb
    ·simp at h
   ·simp only [Option.map_eq_some_iff] at h
    obtain ⟨l, hl, rfl⟩ := h
    refine ⟨fun h0 => absurd h0 (by simpa using he), fun j hj => ?_⟩
    obtain ⟨t', ht', hfi⟩ := mapM_mem hl j hj
    have hw' := alts_all ht' hw
    split at hfi
    ·rename_i d g o' t2 h1 h2
     simp at hfi; subst hfi
     refine node_sound r h1 hw' fun s' a' w' own' hdr' hK r' hkeep => ?_
     have key : ∀ i b, ¬ Behind ops j i → F i b → i ∈ relT (waitsL ops j) tags ∧ Now w own (relS (waitsL ops j) tags s).hold b := by
      intro i b hb hf
      obtain ⟨e1, e2⟩ := hF i b hf
      have hi : i ∈ relT (waitsL ops j) tags := by
       unfold relT
       rw [List.mem_filter]
       refine ⟨e1, ?_⟩
       simp only [Bool.not_eq_true', List.contains_eq_mem, decide_eq_false_iff_not]
       exact fun h => hb (waitsL_sound h)
      refine ⟨hi, ?_⟩
      unfold relS
      have hne : (relT (waitsL ops j) tags).isEmpty = false := by
       cases h : relT (waitsL ops j) tags with
       | nil => rw [h] at hi; cases hi
       | cons => rfl
      rw [hne, Bool.and_false]
      exact e2
     refine ⟨fun i b => ¬ Behind ops j i ∧ F i b, fun i b hb hf => ⟨⟨hb, hf⟩, (hkeep b (key i b hb hf).2).2⟩, digD_sound hsel hpan h2 hK r' hQ (hd.set hj) fun i b hb => ?_⟩
     exact ⟨(key i b hb.1 hb.2).1, (hkeep b (key i b hb.1 hb.2).2).1⟩
    ·simp at hfi
end
end Hearth

/- The abstract machine: code. -/
namespace Hearth
open Go
inductive C where
 | skip
 | seq (x y : C)
 | cond (c : X) (x y : C)
 | block (id : Nat) (x : C)
 | loop (x : C)
 | exit (id : Nat)
 | ret
 | reg (draw : Bool) (t : T)
inductive Ex where
 | normal
 | exit (id : Nat)
 | ret
section
variable (P : Program)
def digC (N : Nat) (loud : List Nat) : Code → Option C
 | .skip => some .skip
 | .region id ops draw =>
  if draw = true then
   if P.follows .mixedOrders = true ∧ Region.noSelect ops = true then (digD P N ops (!loud.contains id) ops.size (Array.replicate ops.size false)).map (.reg true)
   else none
  else (digS P N ops (List.range ops.size)).map (.reg false)
 | .seq x y => match digC N loud x, digC N loud y with
  | some x, some y => some (.seq x y)
  | _, _ => none
 | .cond c x y => match digX P 0 c, digC N loud x, digC N loud y with
  | some c, some x, some y => some (.cond c x y)
  | _, _, _ => none
 | .block id x => (digC N loud x).map (.block id)
 | .loop x => (digC N loud x).map .loop
 | .exit id => some (.exit id)
 | .ret => some .ret
 | _ => none
def Sub (s t : St) : Prop := ∀ (P : Program) (N : Nat) (w0 : World) (own0 : Nat → Nat → Prop) (hdr0 : Nat → Value) (a : Act) (w : World), Rel P N w0 own0 hdr0 [] s a w → Rel P N w0 own0 hdr0 [] t a w
theorem Sub.refl (s : St) : Sub s s := fun _ _ _ _ _ _ _ h => h
theorem Sub.trans {s t u : St} (h : Sub s t) (h' : Sub t u) : Sub s u := fun _ _ _ _ _ _ _ r => h' _ _ _ _ _ _ _ (h _ _ _ _ _ _ _ r)
def Ex.then (Q : Ex → St → Prop) (K : St → Prop) : Ex → St → Prop
 | .normal, s => K s
 | .exit id, s => Q (.exit id) s
 | .ret, s => Q .ret s
def Ex.blk (id : Nat) (Q : Ex → St → Prop) : Ex → St → Prop
 | .normal, s => Q .normal s
 | .exit id', s => if id' = id then Q .normal s else Q (.exit id') s
 | .ret, s => Q .ret s
def wpC : C → St → (Ex → St → Prop) → Prop
 | .skip, s, Q => Q .normal s
 | .seq x y, s, Q => wpC x s (Ex.then Q fun s' => ∃ t, Sub s' t ∧ wpC y t Q)
 | .cond c x y, s, Q => match s.ev c with
  | .c (.d (.sc (.bool b))) => (b = true → ∃ t, Sub s t ∧ wpC x t Q) ∧ (b = false → ∃ t, Sub s t ∧ wpC y t Q)
  | _ => False
 | .block id x, s, Q => wpC x s (Ex.blk id Q)
 | .loop x, s, Q => ∃ (α : Type) (F : α → St) (μ : α → Nat), (∃ y, Sub s (F y)) ∧ ∀ y, ∃ t, Sub (F y) t ∧ wpC x t (Ex.then Q fun s'' => ∃ z, μ z < μ y ∧ Sub s'' (F z))
 | .exit id, s, Q => Q (.exit id) s
 | .ret, s, Q => Q .ret s
 | .reg false t, s, Q => wpT P t [] s (Q .normal)
 | .reg true t, s, Q => wpT P t [] s fun s' => Q .normal { s' with hold := [] }
end
section
variable {P : Program} {N : Nat} {w0 : World} {own0 : Nat → Nat → Prop} {hdr0 : Nat → Value} {own : Nat → Nat → Prop} {hdr : Nat → Value} {s : St} {a : Act} {w : World}
theorem wp_loop_rel {Q : Exit → Act → World → Prop} {c : Code} (I : Nat → Act → World → Prop) {n : Nat} (h₀ : I n a w)
  (round : ∀ n a w, I n a w → c.wp P (Exit.then (fun a' w' => ∃ m, m < n ∧ I m a' w') Q) a w) : (Code.loop c).wp P Q a w := by
 intro b k cs
 have key : ∀ n a w, I n a w → ∃ e a' w', Q e a' w' ∧ Arrives P (lone (b.at a (.code c :: .inLoop c :: k)) cs w) b k cs e a' w' := by
  intro n
  induction n using Nat.strongRecOn with
  | _ n ih =>
   intro a w hI
   obtain ⟨e, a₁, w₁, hq, harr⟩ := round n a w hI b (.inLoop c :: k) cs
   cases e with
   | normal =>
    obtain ⟨m, hlt, hI₁⟩ := hq
    obtain ⟨e₂, a₂, w₂, hq₂, harr₂⟩ := ih m hlt a₁ w₁ hI₁
    exact ⟨e₂, a₂, w₂, hq₂, .of_steps (Steps.trans harr (.one step_inLoop)) harr₂⟩
   | exit id => exact ⟨_, a₁, w₁, hq, .pass (x := .inLoop c) rfl (fun _ _ => .inl (by simp)) harr⟩
   | goto l => exact ⟨_, a₁, w₁, hq, .pass (x := .inLoop c) rfl (fun _ _ => .inl (by simp)) harr⟩
   | ret => exact ⟨_, a₁, w₁, hq, .pass (x := .inLoop c) rfl (fun _ _ => .inl (by simp)) harr⟩
   | panic ch => exact ⟨_, a₁, w₁, hq, .pass (x := .inLoop c) rfl (fun _ _ => .inl (by simp)) harr⟩
   | outgrown => exact ⟨_, a₁, w₁, hq, .pass (x := .inLoop c) rfl (fun _ _ => .inl (by simp)) harr⟩
 obtain ⟨e, a', w', hq, harr⟩ := key n a w h₀
 exact ⟨e, a', w', hq, .of_steps (.one step_loop) harr⟩
def QX (P : Program) (N : Nat) (w0 : World) (own0 : Nat → Nat → Prop) (hdr0 : Nat → Value) (Q : Ex → St → Prop) : Exit → Act → World → Prop
 | .normal, a, w => ∃ s, Q .normal s ∧ Rel P N w0 own0 hdr0 [] s a w
 | .exit id, a, w => ∃ s, Q (.exit id) s ∧ Rel P N w0 own0 hdr0 [] s a w
 | .ret, a, w => ∃ s, Q .ret s ∧ Rel P N w0 own0 hdr0 [] s a w
 | _, _, _ => False
theorem RelX.hold (r : RelX P N w0 own0 hdr0 [] own hdr s a w) (h : List Nat) : RelX P N w0 own0 hdr0 [] own hdr { s with hold := h } a w :=
 ⟨r.n, r.defers, r.tmps, r.objs, r.al, r.alv, r.dis, r.lt, r.ext, r.zero, r.new, by simp⟩
theorem RelX.drawn (r : RelX P N w0 own0 hdr0 [] own hdr s a w) : ∃ own hdr, RelX P N w0 own0 hdr0 [] own hdr s a { w with drawn := w.drawn + 1 } :=
 ⟨own, hdr, (r.more (w' := { w with drawn := w.drawn + 1 }) ⟨rfl, rfl, rfl, Nat.le_refl _, fun _ _ _ => rfl, Nat.le_succ _⟩).1⟩
theorem digC_sound {loud : List Nat} : ∀ {c : Code} {c' : C} {s : St} {a : Act} {w : World} {Q : Ex → St → Prop}, digC P N loud c = some c' → wpC P c' s Q → Rel P N w0 own0 hdr0 [] s a w →
  c.wp P (QX P N w0 own0 hdr0 Q) a w := by
 intro c
 induction c with
 | skip =>
  intro c' s a w Q h hw hr
  simp [digC] at h; subst h
  exact wp_skip ⟨s, hw, hr⟩
 | region id ops draw =>
  intro c' s a w Q h hw hr
  simp only [digC] at h
  split at h
  ·rename_i hd
   subst hd
   split at h
   ·rename_i hm
    simp only [Option.map_eq_some_iff] at h
    obtain ⟨t, ht, rfl⟩ := h
    obtain ⟨own, hdr, r⟩ := hr
    obtain ⟨own, hdr, r⟩ := r.drawn
    refine wp_mono (Q := fun e a w => e = .normal ∧ ∃ s, Q .normal s ∧ Rel P N w0 own0 hdr0 [] s a w) ?_ ?_
    ·exact wp_region_any hm.1 (wpAny_of_F _ _ (fun _ _ => False) _ _ (digD_sound hm.2 (fun c a w h => by simp at h) ht hw r (fun s' a' w' hK ⟨o, h, r⟩ => ⟨rfl, _, hK, o, h, r.hold []⟩) (fun j o e _ h => by
     rw [Array.getD_eq_getD_getElem?, Array.getElem?_replicate] at h
     split at h <;> simp at h) (fun _ _ h => h.elim)))
    ·rintro e a w ⟨rfl, h⟩; exact h
   ·simp at h
  ·rename_i hd
   simp only [Option.map_eq_some_iff] at h
   obtain ⟨t, ht, rfl⟩ := h
   have : draw = false := by simpa using hd
   subst this
   exact wp_region (digS_sound ht hw hr fun s' a' w' hK hr => ⟨s', hK, hr⟩)
 | seq x y ihx ihy =>
  intro c' s a w Q h hw hr
  simp only [digC] at h
  split at h
  ·rename_i x' y' hx hy
   simp at h; subst h
   refine wp_seq (wp_mono (ihx hx hw hr) ?_)
   rintro (_ | id | l | _ | ch | _) a w hq
   ·obtain ⟨s', ⟨t, h0, h1⟩, h2⟩ := hq; exact ihy hy h1 (h0 _ _ _ _ _ _ _ h2)
   ·exact hq
   ·exact hq
   ·exact hq
   ·exact hq
   ·exact hq
  ·simp at h
 | cond c x y ihx ihy =>
  intro c' s a w Q h hw hr
  simp only [digC] at h
  split at h
  ·rename_i z x' y' hz hx hy
   simp at h; subst h
   obtain ⟨own, hdr, r⟩ := hr
   have hv := ev_sound r hz
   simp only [wpC] at hw
   split at hw
   ·rename_i b hb
    rw [hb] at hv
    exact wp_cond_split (sc_of hv) (fun h => let ⟨t, h1, h2⟩ := hw.1 h; ihx hx h2 (h1 _ _ _ _ _ _ _ ⟨own, hdr, r⟩)) (fun h => let ⟨t, h1, h2⟩ := hw.2 h; ihy hy h2 (h1 _ _ _ _ _ _ _ ⟨own, hdr, r⟩))
   ·exact hw.elim
  ·simp at h
 | block id x ih =>
  intro c' s a w Q h hw hr
  simp only [digC, Option.map_eq_some_iff] at h
  obtain ⟨x', hx, rfl⟩ := h
  refine wp_block (wp_mono (ih hx hw hr) ?_)
  rintro (_ | id' | l | _ | ch | _) a w hq
  ·exact hq
  ·obtain ⟨s', h1, h2⟩ := hq
   simp only [Ex.blk] at h1
   simp only [Exit.inBlock]
   by_cases hid : id' = id
   ·rw [if_pos hid] at h1 ⊢; exact ⟨s', h1, h2⟩
   ·rw [if_neg hid] at h1 ⊢; exact ⟨s', h1, h2⟩
  ·exact hq
  ·exact hq
  ·exact hq
  ·exact hq
 | loop x ih =>
  intro c' s a w Q h hw hr
  simp only [digC, Option.map_eq_some_iff] at h
  obtain ⟨x', hx, rfl⟩ := h
  obtain ⟨α, F, μ, ⟨y0, h0⟩, hround⟩ := hw
  refine wp_loop_rel (fun n a w => ∃ y, μ y = n ∧ Rel P N w0 own0 hdr0 [] (F y) a w) (n := μ y0) ⟨y0, rfl, h0 _ _ _ _ _ _ _ hr⟩ ?_
  rintro n a w ⟨y, rfl, hr'⟩
  obtain ⟨t, ht, hround⟩ := hround y
  refine wp_mono (ih hx hround (ht _ _ _ _ _ _ _ hr')) ?_
  rintro (_ | id | l | _ | ch | _) a w hq
  ·obtain ⟨s'', ⟨z, h1, h2⟩, h3⟩ := hq; exact ⟨_, h1, z, rfl, h2 _ _ _ _ _ _ _ h3⟩
  ·exact hq
  ·exact hq
  ·exact hq
  ·exact hq
  ·exact hq
 | exit id =>
  intro c' s a w Q h hw hr
  simp [digC] at h; subst h
  exact wp_exit ⟨s, hw, hr⟩
 | ret =>
  intro c' s a w Q h hw hr
  simp [digC] at h; subst h
  exact wp_ret ⟨s, hw, hr⟩
 | _ => intro c' s a w Q h; simp [digC] at h
end
end Hearth

/- The abstract machine: functions. -/
namespace Hearth
open Go
def initC (q : Nat) : PA → AC
 | .d x => .d x
 | .arr _ _ _ => .arr q 0
 | .box _ => .ptr q 0 0
 | .ptr cs => .cpt cs
 | .fv p C => .fv p C
def initL (t : Nat) : Nat → List PA → List AC
 | _, [] => []
 | k, p :: ps => initC (aid t k) p :: initL t (k + 1) ps
def initA (t : Nat) : GA → AV
 | .one p => .c (initC (aid t 0) p)
 | .agg ps => .g (initL t 0 ps)
def initK : Option PA → OK
 | some (.arr _ dp x) => .arr dp x
 | some (.box cs) => .box (cs.map .d)
 | _ => .dead
def St.init (gas : List GA) : St where
 sl := fun t => match gas[t]? with
  | some g => initA t g
  | none => .c .un
 ob := fun id => ⟨0, 0, if id = alien then .ext else initK (gaAt gas id)⟩
 hold := []
def St.outs (s : St) : Outs :=
 ⟨fun q => match (s.ob q).k with
  | .arr _ y => y
  | _ => .sl 0 [],
  fun q => match (s.ob q).k with
  | .box cs => cs.map fun c => (s.rd c).getD (.sl 0 [])
  | _ => []⟩
section
variable (s : St) (own : List Nat)
def endD (c : AC) (x : DV) : Prop := s.rd c = some x ∧ (stabR s c = true ∨ match c with | .arr id _ => 0 < (s.ob id).ver ∧ id ∉ own | _ => False)
def endDs : List AC → List DV → Prop
 | [], [] => True
 | c :: cs, x :: xs => endD s own c x ∧ endDs cs xs
 | _, _ => False
def endC (gas : List GA) : AC → RV → Prop
 | c, .d x => endD s own c x
 | .arr id ver, .own dp x => (∃ dp', s.obj id ver = .arr dp' x ∧ (dp = true → dp' = true)) ∧ (0 < (s.ob id).ver ∨ ∃ dp x, gaAt gas id = some (.arr true dp x))
 | .nil sz, .own _ x => x = .sl sz []
 | .ptr id ver off, .box ds => off = 0 ∧ (∃ cs, s.obj id ver = .box cs ∧ endDs s own cs ds) ∧ 0 < (s.ob id).ver
 | _, _ => False
def endL (gas : List GA) : List AC → List RV → Prop
 | [], [] => True
 | c :: cs, x :: xs => endC s own gas c x ∧ endL gas cs xs
 | _, _ => False
def endA (gas : List GA) : AV → RA → Prop
 | .c c, .one x => endC s own gas c x
 | .g cs, .agg xs => endL s own gas cs xs ∧ xs.length ≤ 64
 | _, _ => False
def endAs (gas : List GA) : List AV → List RA → Prop
 | [], [] => True
 | c :: cs, x :: xs => endA s own gas c x ∧ endAs gas cs xs
 | _, _ => False
def endP (q : Nat) : PA → Prop
 | .arr false dp x => match s.ob q with
  | ⟨v, _, .arr dp' y⟩ => v = 0 ∧ (dp = true → dp' = true) ∧ y.esz = x.esz
  | _ => False
 | .box cs => match s.ob q with
  | ⟨v, _, .box cs'⟩ => v = 0 ∧ endDs s own cs' (cs'.map fun c => (s.rd c).getD (.sl 0 [])) ∧ cs'.length = cs.length
  | _ => False
 | _ => True
def endPs (t : Nat) : Nat → List PA → Prop
 | _, [] => True
 | k, p :: ps => endP s own (aid t k) p ∧ endPs t (k + 1) ps
def endGs : Nat → List GA → Prop
 | _, [] => True
 | t, .one p :: gs => endP s own (aid t 0) p ∧ endGs (t + 1) gs
 | t, .agg ps :: gs => endPs s own t 0 ps ∧ endGs (t + 1) gs
end
def ownIdsC : AC → RV → List Nat
 | .arr id _, .own _ _ => [id]
 | .ptr id _ _, .box _ => [id]
 | _, _ => []
def ownIdsL : List AC → List RV → List Nat
 | c :: cs, x :: xs => ownIdsC c x ++ ownIdsL cs xs
 | _, _ => []
def ownIdsA : AV → RA → List Nat
 | .c c, .one x => ownIdsC c x
 | .g cs, .agg xs => ownIdsL cs xs
 | _, _ => []
def ownIds : List AV → List RA → List Nat
 | c :: cs, x :: xs => ownIdsA c x ++ ownIds cs xs
 | _, _ => []
def EndOK (gas : List GA) (avs : List AV) (ra : List RA) (s : St) : Prop :=
 endAs s (ownIds avs ra) gas avs ra ∧ (ownIds avs ra).Nodup ∧ endGs s (ownIds avs ra) 0 gas
inductive RSl where
 | s (t : Nat)
 | m (t : Nat) (n : Option Nat)
def slotOf (P : Program) : ResultVar → Option RSl
 | .tmp t => some (.s t)
 | .cell a t => (numOf P t).map (.m a)
def resSlots (P : Program) (fn : Func) : Option (List RSl) := fn.results.toList.mapM (slotOf P)
def St.resAt (s : St) : RSl → Option AV
 | .s t => some (s.sl t)
 | .m t n => match s.sl t with
  | .c (.ptr id ver off) => match s.obj id ver with
   | .box cs => pickCells n (cs.drop off)
   | _ => none
  | _ => none
def St.resAts (s : St) : List RSl → Option (List AV)
 | [] => some []
 | r :: rs => match s.resAt r, s.resAts rs with
  | some v, some vs => some (v :: vs)
  | _, _ => none
end Hearth

/- The abstract machine: a function that the abstract machine runs well keeps its contract. -/
namespace Hearth
open Go
def argCell (gas : List GA) (vs : Array Value) (q : Nat) : Value :=
 match gas[q / 64]? with
 | some (.one _) => vs.getD (q / 64) undef
 | some (.agg _) => match vs.getD (q / 64) undef with
  | .agg us => us.getD (q % 64) undef
  | _ => undef
 | none => undef
def own00 (w : World) (S : Nat → Prop) (Fs : Nat → Nat → Prop) (id b : Nat) : Prop := if id = alien then b < w.heap.size ∧ ¬ S b ∧ ∀ q, ¬ Fs q b else Fs id b
def hdr00 (gas : List GA) (vs : Array Value) (id : Nat) : Value :=
 match gaAt gas id with
 | some (.arr _ _ _) | some (.box _) => argCell gas vs id
 | _ => undef
theorem GA.at_lt {g : GA} {k : Nat} {p : PA} (h : g.at k = some p) : k < 64 := by
 cases g with
 | one x => simp only [GA.at] at h; split at h <;> simp_all
 | agg xs => simp only [GA.at] at h; split at h <;> simp_all
theorem gaAt_aid {gas : List GA} {t k : Nat} {g : GA} {p : PA} (h : gas[t]? = some g) (hk : g.at k = some p) : gaAt gas (aid t k) = some p := by
 have hlt := GA.at_lt hk
 have h1 : aid t k / 64 = t := by unfold aid; omega
 have h2 : aid t k % 64 = k := by unfold aid; omega
 unfold gaAt
 rw [h1, h2, h]; exact hk
theorem gaAt_inv {gas : List GA} {q : Nat} {p : PA} (h : gaAt gas q = some p) : ∃ g, gas[q / 64]? = some g ∧ g.at (q % 64) = some p := by
 unfold gaAt at h
 simpa [Option.bind_eq_some_iff] using h
section
variable {P : Program} {gas : List GA} {w : World} {S : Nat → Prop} {Fs : Nat → Nat → Prop} {vs : Array Value}
theorem arg_at (hl : vs.size = gas.length) (hg : ∀ (t : Nat) (g : GA) (v : Value), gas[t]? = some g → vs[t]? = some v → GAr P w S (fun b => b < w.heap.size ∧ ∀ q, ¬ Fs q b) t Fs g v)
  {q : Nat} {p : PA} (h : gaAt gas q = some p) : PAr P w S (fun b => b < w.heap.size ∧ ∀ q, ¬ Fs q b) p (argCell gas vs q) (Fs q) := by
 obtain ⟨g, h1, h2⟩ := gaAt_inv h
 have hlt : q / 64 < vs.size := by rw [hl]; exact (List.getElem?_eq_some_iff.1 h1).1
 have hv := Array.getElem?_eq_getElem hlt
 have hga := hg _ g _ h1 hv
 have hq : q = aid (q / 64) (q % 64) := by unfold aid; omega
 unfold argCell
 rw [h1]
 cases g with
 | one x =>
  simp only [GA.at] at h2
  split at h2
  ·rename_i h0
   simp at h2; subst h2
   rw [h0] at hq
   simp only [Array.getD_eq_getD_getElem?, hv, Option.getD_some]
   have hga' : PAr P w S (fun b => b < w.heap.size ∧ ∀ q, ¬ Fs q b) x vs[q / 64] (Fs (aid (q / 64) 0)) := hga
   rw [← hq] at hga'
   exact hga'
  ·simp at h2
 | agg xs =>
  simp only [GA.at] at h2
  split at h2
  ·obtain ⟨us, e1, e2, e3, e4⟩ := hga
   have hk : q % 64 < us.size := by rw [e2]; exact (List.getElem?_eq_some_iff.1 h2).1
   simp only [Array.getD_eq_getD_getElem?, hv, Option.getD_some, e1]
   have := e4 _ p _ h2 (Array.getElem?_eq_getElem hk)
   rw [← hq] at this
   simpa [Array.getElem?_eq_getElem hk] using this
  ·simp at h2
theorem argCell_eq (hl : vs.size = gas.length) {t k : Nat} {g : GA} {v u : Value} {p : PA} (h1 : gas[t]? = some g) (h2 : vs[t]? = some v) (h3 : g.at k = some p) (h4 : match (generalizing := false) g with | .one _ => u = v | .agg _ => ∃ us : Array Value, v = .agg us ∧ us[k]? = some u) :
  argCell gas vs (aid t k) = u := by
 have hlt := GA.at_lt h3
 have e1 : aid t k / 64 = t := by unfold aid; omega
 have e2 : aid t k % 64 = k := by unfold aid; omega
 unfold argCell
 rw [e1, e2, h1]
 cases g with
 | one x => simp only at h4; simp [h2, h4]
 | agg xs =>
  simp only at h4
  obtain ⟨us, rfl, h5⟩ := h4
  simp [h2, h5]
theorem initL_get {t : Nat} : ∀ {k0 : Nat} {ps : List PA}, (initL t k0 ps).length = ps.length ∧ ∀ (k : Nat) (c : AC), (initL t k0 ps)[k]? = some c → ∃ p, ps[k]? = some p ∧ c = initC (aid t (k0 + k)) p
 | k0, [] => by simp [initL]
 | k0, p :: ps => by
  obtain ⟨i1, i2⟩ := initL_get (t := t) (k0 := k0 + 1) (ps := ps)
  refine ⟨by simp [initL, i1], fun k c h => ?_⟩
  cases k with
  | zero => simp [initL] at h; exact ⟨p, rfl, h.symm⟩
  | succ k =>
   simp [initL] at h
   obtain ⟨y, h3, h4⟩ := i2 k c h
   exact ⟨y, by simpa using h3, by rw [h4, show k0 + 1 + k = k0 + (k + 1) by omega]⟩
theorem init_rel {N : Nat} (hN : gas.length ≤ N) (h63 : gas.length ≤ 63) (hl : vs.size = gas.length)
  (hg : ∀ (t : Nat) (g : GA) (v : Value), gas[t]? = some g → vs[t]? = some v → GAr P w S (fun b => b < w.heap.size ∧ ∀ q, ¬ Fs q b) t Fs g v)
  (hdis : ∀ q q' b, Fs q b → Fs q' b → q = q') (hF : ∀ q b, Fs q b → b < w.heap.size ∧ ¬ S b) (hS : ∀ b, S b → b < w.heap.size)
  (hFk : ∀ q b, Fs q b → ∃ g dp x, gaAt gas q = some (.arr g dp x) ∨ ∃ cs, gaAt gas q = some (.box cs)) :
  RelX P N w (own00 w S Fs) (hdr00 gas vs) [] (own00 w S Fs) (hdr00 gas vs) (.init gas) { tmps := vs ++ Array.replicate (N - vs.size) undef, defers := [] } w := by
 have noAl : gaAt gas alien = none := by
  cases h : gaAt gas alien with
  | none => rfl
  | some p =>
   obtain ⟨g, h1, _⟩ := gaAt_inv h
   have := (List.getElem?_eq_some_iff.1 h1).1
   unfold alien at this
   omega
 have free : ∀ b, S b → Free w (own00 w S Fs) b := by
  intro b hb
  refine ⟨hS b hb, fun id ho => ?_⟩
  unfold own00 at ho
  split at ho
  ·exact ho.2.1 hb
  ·exact (hF id b ho).2 hb
 have freeF : ∀ b, (b < w.heap.size ∧ ∀ q, ¬ Fs q b) → FreeF w (own00 w S Fs) b := by
  intro b hb
  refine ⟨hb.1, fun id ho => ?_⟩
  unfold own00 at ho
  split at ho
  ·assumption
  ·exact absurd ho (hb.2 id)
 have cell : ∀ q p, gaAt gas q = some p → RC P w (own00 w S Fs) (hdr00 gas vs) (St.init gas).ob (initC q p) (argCell gas vs q) := by
  intro q p hq
  have hp := arg_at hl hg hq
  cases p with
  | d x => exact hp.mono' free
  | arr g dp x => exact ⟨Nat.le_refl _, fun _ => by simp [hdr00, hq]⟩
  | box cs =>
   obtain ⟨b, us, t, h1, _⟩ := hp
   exact ⟨Nat.le_refl _, fun _ => ⟨b, by simp [hdr00, hq, h1], by rw [h1]⟩⟩
  | ptr cs =>
   obtain ⟨b, off, h1, h2, h3⟩ := hp
   refine ⟨b, off, h1, free b h2, fun j d hj => ?_⟩
   obtain ⟨u, h4, h5⟩ := h3 j d hj
   exact ⟨u, h4, h5.mono free freeF⟩
  | fv p C =>
   refine FVal.mono (fun b hb => ⟨rfl, ?_⟩) (Nat.le_refl _) hp
   cases p with
   | true => exact hb
   | false => exact freeF b hb
 refine ⟨by simp; omega, rfl, fun t => ?_, fun id => ?_, by simp [St.init], rfl, fun id id' b h1 h2 => ?_, fun id b h => ?_, Ext.refl _ _, fun id _ => ⟨rfl, fun b => Iff.rfl⟩, fun id b hne h => .inr ⟨id, hne, h⟩, by simp⟩
 ·simp only [St.init]
  split
  ·rename_i g hgt
   have hlt : t < vs.size := by rw [hl]; exact (List.getElem?_eq_some_iff.1 hgt).1
   have hv := Array.getElem?_eq_getElem hlt
   have hget : (vs ++ Array.replicate (N - vs.size) undef).getD t undef = vs[t] := by
    simp [Array.getElem?_append, hlt]
   rw [hget]
   have hga := hg t g _ hgt hv
   cases g with
   | one p =>
    have h0 : (GA.one p).at 0 = some p := rfl
    have := cell _ p (gaAt_aid hgt h0)
    rw [argCell_eq hl hgt hv h0 (u := vs[t]) rfl] at this
    exact this
   | agg ps =>
    obtain ⟨us, e1, e2, e3, e4⟩ := hga
    rw [e1]
    obtain ⟨i1, i2⟩ := initL_get (t := t) (k0 := 0) (ps := ps)
    refine ⟨us, rfl, by rw [i1, e2], fun k c u h1 h2 => ?_⟩
    obtain ⟨p, h3, rfl⟩ := i2 k c h1
    rw [Nat.zero_add]
    have hk : k < 64 := Nat.lt_of_lt_of_le (List.getElem?_eq_some_iff.1 h3).1 e3
    have h0 : (GA.agg ps).at k = some p := by simp [GA.at, hk, h3]
    have := cell _ p (gaAt_aid hgt h0)
    rw [argCell_eq hl hgt hv h0 (u := u) ⟨us, e1, h2⟩] at this
    exact this
  ·rename_i hgt
   have hge : vs.size ≤ t := by rw [hl]; simpa using hgt
   have : (vs ++ Array.replicate (N - vs.size) undef).getD t undef = undef := by
    simp only [Array.getD_eq_getD_getElem?, Array.getElem?_append]
    rw [if_neg (by omega), Array.getElem?_replicate]
    split <;> rfl
   rw [this]
   exact rfl
 ·unfold RO
  simp only [St.init]
  by_cases hal : id = alien
  ·subst hal
   simp [hdr00, noAl]
  ·rw [if_neg hal]
   have ho : ∀ b, own00 w S Fs id b ↔ Fs id b := fun b => by simp [own00, hal]
   cases hq : gaAt gas id with
   | none =>
    simp only [initK, hdr00, hq]
    refine ⟨trivial, fun b hb => ?_⟩
    obtain ⟨_, _, _, h | ⟨_, h⟩⟩ := hFk id b ((ho b).1 hb) <;> rw [hq] at h <;> cases h
   | some p =>
    have hp := arg_at hl hg hq
    cases p with
    | arr g dp x =>
     simp only [initK, hdr00, hq]
     exact ⟨hp.1, hp.2.mono (fun h => h) (fun b hb => ⟨rfl, free b hb⟩) fun b hb => ⟨rfl, (ho b).2 hb⟩⟩
    | box cs =>
     simp only [initK, hdr00, hq]
     obtain ⟨b, us, t, h1, h2, h3, h4, h5⟩ := hp
     refine ⟨b, us, t, h1, fun x => (ho x).trans (h2 x), h3, by simpa using h4, fun k c u h6 h7 => ?_⟩
     simp only [List.getElem?_map, Option.map_eq_some_iff] at h6
     obtain ⟨d, h6, rfl⟩ := h6
     exact (h5 k d u h6 h7).mono' free
    | _ =>
     simp only [initK, hdr00, hq]
     refine ⟨trivial, fun b hb => ?_⟩
     obtain ⟨_, _, _, h | ⟨_, h⟩⟩ := hFk id b ((ho b).1 hb) <;> rw [hq] at h <;> cases h
 ·unfold own00 at h1 h2
  split at h1 <;> split at h2
  ·simp_all
  ·exact absurd h2 (h1.2.2 _)
  ·exact absurd h1 (h2.2.2 _)
  ·exact hdis _ _ b h1 h2
 ·unfold own00 at h
  split at h
  ·exact h.1
  ·exact (hF _ _ h).1
end
end Hearth

/- The abstract machine: functions' ends. -/
namespace Hearth
open Go
inductive AtR : AV → RA → Nat → AC → RV → Prop where
 | one (c : AC) (x : RV) : AtR (.c c) (.one x) 0 c x
 | agg (cs : List AC) (xs : List RV) (k : Nat) (c : AC) (x : RV) (h : xs.length ≤ 64) (h1 : cs[k]? = some c) (h2 : xs[k]? = some x) : AtR (.g cs) (.agg xs) k c x
theorem AtR.lt {v : AV} {r : RA} {k : Nat} {c : AC} {x : RV} (h : AtR v r k c x) : k < 64 := by
 cases h with
 | one => omega
 | agg cs xs k c x h h1 h2 => exact Nat.lt_of_lt_of_le (List.getElem?_eq_some_iff.1 h2).1 h
theorem ownIdsL_mem {id : Nat} : ∀ {cs : List AC} {xs : List RV} {k : Nat} {c : AC} {x : RV}, cs[k]? = some c → xs[k]? = some x → id ∈ ownIdsC c x → id ∈ ownIdsL cs xs
 | [], _, _, _, _, h, _, _ => by simp at h
 | _ :: _, [], _, _, _, _, h, _ => by simp at h
 | c :: cs, x :: xs, k, c', x', h1, h2, h3 => by
  simp only [ownIdsL, List.mem_append]
  cases k with
  | zero => simp at h1 h2; subst h1; subst h2; exact .inl h3
  | succ k => simp at h1 h2; exact .inr (ownIdsL_mem h1 h2 h3)
theorem ownIdsL_inj {id : Nat} : ∀ {cs : List AC} {xs : List RV} {k k' : Nat} {c c' : AC} {x x' : RV}, (ownIdsL cs xs).Nodup → cs[k]? = some c → xs[k]? = some x → id ∈ ownIdsC c x → cs[k']? = some c' → xs[k']? = some x' → id ∈ ownIdsC c' x' → k = k'
 | [], _, _, _, _, _, _, _, _, h, _, _, _, _, _ => by simp at h
 | _ :: _, [], _, _, _, _, _, _, _, _, h, _, _, _, _ => by simp at h
 | c :: cs, x :: xs, k, k', c1, c2, x1, x2, hn, h1, h2, h3, h4, h5, h6 => by
  simp only [ownIdsL, List.nodup_append] at hn
  cases k <;> cases k' <;> simp at h1 h2 h4 h5
  ·rfl
  ·subst h1; subst h2; exact absurd rfl (hn.2.2 id h3 id (ownIdsL_mem h4 h5 h6))
  ·subst h4; subst h5; exact absurd rfl (hn.2.2 id h6 id (ownIdsL_mem h1 h2 h3))
  ·rw [ownIdsL_inj hn.2.1 h1 h2 h3 h4 h5 h6]
theorem ownIdsA_mem {id : Nat} {v : AV} {r : RA} {k : Nat} {c : AC} {x : RV} (h : AtR v r k c x) (hi : id ∈ ownIdsC c x) : id ∈ ownIdsA v r := by
 cases h with
 | one => exact hi
 | agg cs xs k c x h h1 h2 => exact ownIdsL_mem h1 h2 hi
theorem ownIdsA_inj {id : Nat} {v : AV} {r : RA} {k k' : Nat} {c c' : AC} {x x' : RV} (hn : (ownIdsA v r).Nodup) (h : AtR v r k c x) (hi : id ∈ ownIdsC c x) (h' : AtR v r k' c' x') (hi' : id ∈ ownIdsC c' x') : k = k' := by
 cases h with
 | one => cases h'; rfl
 | agg cs xs k c x h h1 h2 => cases h' with | agg _ _ _ _ _ _ h3 h4 => exact ownIdsL_inj hn h1 h2 hi h3 h4 hi'
theorem AtR.uniq {v : AV} {r : RA} {k : Nat} {c c' : AC} {x x' : RV} (h : AtR v r k c x) (h' : AtR v r k c' x') : c = c' ∧ x = x' := by
 cases h with
 | one => cases h'; exact ⟨rfl, rfl⟩
 | agg cs xs k c x h h1 h2 => cases h' with | agg _ _ _ _ _ _ h3 h4 => rw [h1] at h3; rw [h2] at h4; simp at h3 h4; exact ⟨h3, h4⟩
theorem ownIdsC_uniq {id id' : Nat} {v : AV} {r : RA} {k : Nat} {c c' : AC} {x x' : RV} (h : AtR v r k c x) (hi : id ∈ ownIdsC c x) (h' : AtR v r k c' x') (hi' : id' ∈ ownIdsC c' x') : id' = id := by
 obtain ⟨rfl, rfl⟩ := h.uniq h'
 cases c <;> cases x <;> simp [ownIdsC] at hi hi'
 ·rw [hi, hi']
 ·rw [hi, hi']
theorem ownIds_mem {id : Nat} : ∀ {vs : List AV} {ra : List RA} {t k : Nat} {v : AV} {r : RA} {c : AC} {x : RV}, vs[t]? = some v → ra[t]? = some r → AtR v r k c x → id ∈ ownIdsC c x → id ∈ ownIds vs ra
 | [], _, _, _, _, _, _, _, h, _, _, _ => by simp at h
 | _ :: _, [], _, _, _, _, _, _, _, h, _, _ => by simp at h
 | v :: vs, r :: ra, t, k, v', r', c, x, h1, h2, h3, h4 => by
  simp only [ownIds, List.mem_append]
  cases t with
  | zero => simp at h1 h2; subst h1; subst h2; exact .inl (ownIdsA_mem h3 h4)
  | succ t => simp at h1 h2; exact .inr (ownIds_mem h1 h2 h3 h4)
theorem ownIds_inj {id : Nat} : ∀ {vs : List AV} {ra : List RA} {t k t' k' : Nat} {v v' : AV} {r r' : RA} {c c' : AC} {x x' : RV}, (ownIds vs ra).Nodup → vs[t]? = some v → ra[t]? = some r → AtR v r k c x → id ∈ ownIdsC c x →
  vs[t']? = some v' → ra[t']? = some r' → AtR v' r' k' c' x' → id ∈ ownIdsC c' x' → t = t' ∧ k = k'
 | [], _, _, _, _, _, _, _, _, _, _, _, _, _, _, h, _, _, _, _, _, _, _ => by simp at h
 | _ :: _, [], _, _, _, _, _, _, _, _, _, _, _, _, _, _, h, _, _, _, _, _, _ => by simp at h
 | v :: vs, r :: ra, t, k, t', k', v1, v2, r1, r2, c1, c2, x1, x2, hn, h1, h2, h3, h4, h5, h6, h7, h8 => by
  simp only [ownIds, List.nodup_append] at hn
  cases t <;> cases t' <;> simp at h1 h2 h5 h6
  ·subst h1; subst h2; subst h5; subst h6
   exact ⟨rfl, ownIdsA_inj hn.1 h3 h4 h7 h8⟩
  ·subst h1; subst h2; exact absurd rfl (hn.2.2 id (ownIdsA_mem h3 h4) id (ownIds_mem h5 h6 h7 h8))
  ·subst h5; subst h6; exact absurd rfl (hn.2.2 id (ownIdsA_mem h7 h8) id (ownIds_mem h1 h2 h3 h4))
  ·obtain ⟨e1, e2⟩ := ownIds_inj hn.2.1 h1 h2 h3 h4 h5 h6 h7 h8
   exact ⟨by rw [e1], e2⟩
section
variable {P : Program} {N : Nat} {gas : List GA} {w : World} {S : Nat → Prop} {Fs : Nat → Nat → Prop} {vs : Array Value} {s : St}
theorem endL_get {ow : List Nat} : ∀ {cs : List AC} {xs : List RV}, endL s ow gas cs xs → cs.length = xs.length ∧ ∀ (k : Nat) (c : AC) (x : RV), cs[k]? = some c → xs[k]? = some x → endC s ow gas c x
 | [], [], _ => by simp
 | v :: vs, g :: gs, h => by
  obtain ⟨h1, h2⟩ := endL_get h.2
  refine ⟨by simp [h1], fun t v' g' h3 h4 => ?_⟩
  cases t with
  | zero => simp at h3 h4; subst h3; subst h4; exact h.1
  | succ t => simp at h3 h4; exact h2 t v' g' h3 h4
 | [], _ :: _, h => h.elim
 | _ :: _, [], h => h.elim
theorem endAs_get {ow : List Nat} : ∀ {cs : List AV} {xs : List RA}, endAs s ow gas cs xs → cs.length = xs.length ∧ ∀ (k : Nat) (c : AV) (x : RA), cs[k]? = some c → xs[k]? = some x → endA s ow gas c x
 | [], [], _ => by simp
 | v :: vs, g :: gs, h => by
  obtain ⟨h1, h2⟩ := endAs_get h.2
  refine ⟨by simp [h1], fun t v' g' h3 h4 => ?_⟩
  cases t with
  | zero => simp at h3 h4; subst h3; subst h4; exact h.1
  | succ t => simp at h3 h4; exact h2 t v' g' h3 h4
 | [], _ :: _, h => h.elim
 | _ :: _, [], h => h.elim
theorem endDs_get {ow : List Nat} : ∀ {cs : List AC} {xs : List DV}, endDs s ow cs xs → cs.length = xs.length ∧ ∀ (k : Nat) (c : AC) (x : DV), cs[k]? = some c → xs[k]? = some x → endD s ow c x
 | [], [], _ => by simp
 | v :: vs, g :: gs, h => by
  obtain ⟨h1, h2⟩ := endDs_get h.2
  refine ⟨by simp [h1], fun t v' g' h3 h4 => ?_⟩
  cases t with
  | zero => simp at h3 h4; subst h3; subst h4; exact h.1
  | succ t => simp at h3 h4; exact h2 t v' g' h3 h4
 | [], _ :: _, h => h.elim
 | _ :: _, [], h => h.elim
theorem endA_at {ow : List Nat} {v : AV} {r : RA} (h : endA s ow gas v r) {k : Nat} {c : AC} {x : RV} (hat : AtR v r k c x) : endC s ow gas c x := by
 cases hat with
 | one => exact h
 | agg cs xs k c x h0 h1 h2 => exact (endL_get h.1).2 k c x h1 h2
theorem endPs_get {ow : List Nat} {t : Nat} : ∀ {k0 : Nat} {ps : List PA}, endPs s ow t k0 ps → ∀ (k : Nat) (p : PA), ps[k]? = some p → endP s ow (aid t (k0 + k)) p
 | k0, [], _, k, p, h => by simp at h
 | k0, p :: ps, h, k, p', hk => by
  cases k with
  | zero => simp at hk; subst hk; exact h.1
  | succ k => simp at hk; rw [show k0 + (k + 1) = k0 + 1 + k by omega]; exact endPs_get h.2 k p' hk
theorem endGs_get {ow : List Nat} : ∀ {t0 : Nat} {gs : List GA}, endGs s ow t0 gs → ∀ (t k : Nat) (g : GA) (p : PA), gs[t]? = some g → g.at k = some p → endP s ow (aid (t0 + t) k) p
 | t0, [], _, t, k, g, p, h, _ => by simp at h
 | t0, g :: gs, h, t, k, g', p, h1, h2 => by
  cases t with
  | zero =>
   simp at h1; subst h1
   cases g with
   | one x =>
    simp only [GA.at] at h2
    split at h2
    ·rename_i h0; simp at h2; subst h2; subst h0; exact h.1
    ·simp at h2
   | agg xs =>
    simp only [GA.at] at h2
    split at h2
    ·have := endPs_get h.1 k p h2
     rwa [Nat.zero_add] at this
    ·simp at h2
  | succ t =>
   simp at h1
   rw [show t0 + (t + 1) = t0 + 1 + t by omega]
   refine endGs_get ?_ t k g' p h1 h2
   cases g with
   | one x => exact h.2
   | agg xs => exact h.2
theorem end_sound {a : Act} {w' : World} {own : Nat → Nat → Prop} {hdr : Nat → Value} {avs : List AV} {ra : List RA} {rs : Array Value}
  (r : RelX P N w (own00 w S Fs) (hdr00 gas vs) [] own hdr s a w') (hl : vs.size = gas.length)
  (hFk : ∀ q b, Fs q b → ∃ g dp x, gaAt gas q = some (.arr g dp x) ∨ ∃ cs, gaAt gas q = some (.box cs)) (hal : gaAt gas alien = none)
  (hrl : rs.size = avs.length) (hr : ∀ (t : Nat) (v : AV) (u : Value), avs[t]? = some v → rs[t]? = some u → RS P w' own hdr s.ob v u) (he : EndOK gas avs ra s) :
  ∃ G, Ext w w' (fun b => ∃ q, Fs q b) ∧ Fresh w w' G (GivenTo gas Fs) ∧
   RAs w' (fun b => b < w'.heap.size ∧ (S b ∨ w.heap.size ≤ b ∨ GivenTo gas Fs b) ∧ ∀ i, ¬ G i b) ra (if h : rs.size = 1 then rs[0] else .tuple rs) G ∧
   ∀ (t k : Nat) (g : GA) (v : Value) (p : PA) (u : Value), gas[t]? = some g → vs[t]? = some v → g.at k = some p → (match g with | .one _ => u = v | .agg _ => ∃ us : Array Value, v = .agg us ∧ us[k]? = some u) →
    match p with
    | .arr false dp x => (s.outs.a (aid t k)).isSl = true ∧ (s.outs.a (aid t k)).esz = x.esz ∧ Top w' (fun b => b < w'.heap.size ∧ (S b ∨ w.heap.size ≤ b ∨ GivenTo gas Fs b) ∧ ∀ i, ¬ G i b) dp x.esz (s.outs.a (aid t k)).rows u (Fs (aid t k))
    | .box cs => PAr P w' (fun b => b < w'.heap.size ∧ (S b ∨ w.heap.size ≤ b ∨ GivenTo gas Fs b) ∧ ∀ i, ¬ G i b) (fun _ => False) (.box (s.outs.b (aid t k))) u (Fs (aid t k)) ∧ (s.outs.b (aid t k)).length = cs.length
    | _ => True := by
 obtain ⟨hends, hnd, hgs⟩ := he
 obtain ⟨hlen, hend⟩ := endAs_get hends
 generalize how : ownIds avs ra = ow at *
 have hargs : ∀ q p, gaAt gas q = some p → endP s ow q p := by
  intro q p hq
  obtain ⟨g, h1, h2⟩ := gaAt_inv hq
  have := endGs_get hgs _ _ g p h1 h2
  rw [Nat.zero_add] at this
  rwa [show aid (q / 64) (q % 64) = q by unfold aid; omega] at this
 have own0q : ∀ q, q ≠ alien → ∀ b, own00 w S Fs q b ↔ Fs q b := fun q hq b => by simp [own00, hq]
 have neAl : ∀ q p, gaAt gas q = some p → q ≠ alien := fun q p h e => by rw [e, hal] at h; cases h
 -- arguments that are no gifts are as they were
 have keep : ∀ q b, Fs q b → GivenTo gas Fs b ∨ ((s.ob q).ver = 0 ∧ own q b ∧ q ≠ alien ∧ ∀ dp x, gaAt gas q ≠ some (.arr true dp x)) := by
  intro q b hb
  obtain ⟨g, dp, x, h⟩ := hFk q b hb
  have fin : ∀ p, gaAt gas q = some p → (s.ob q).ver = 0 → (∀ dp x, p ≠ .arr true dp x) → GivenTo gas Fs b ∨ ((s.ob q).ver = 0 ∧ own q b ∧ q ≠ alien ∧ ∀ dp x, gaAt gas q ≠ some (.arr true dp x)) := by
   intro p hp hv hne
   refine .inr ⟨hv, ((r.zero q hv).2 b).2 ((own0q q (neAl q p hp) b).2 hb), neAl q p hp, fun dp x h => ?_⟩
   rw [hp] at h; simp at h; exact hne dp x h
  rcases h with h | ⟨cs, h⟩
  ·cases g with
   | true => exact .inl ⟨q, dp, x, h, hb⟩
   | false =>
    have := hargs q _ h
    refine fin _ h ?_ (by simp)
    simp only [endP] at this
    split at this
    ·rename_i heq; rw [heq]; exact this.1
    ·exact this.elim
  ·have := hargs q _ h
   refine fin _ h ?_ (by simp)
   simp only [endP] at this
   split at this
   ·rename_i heq; rw [heq]; exact this.1
   ·exact this.elim
 have hown : ∀ id b, own id b → id ≠ alien → ∃ q, q = id ∧ (w.heap.size ≤ b ∨ ∃ q, Fs q b) := by
  intro id b h hne
  refine ⟨id, rfl, (r.new id b hne h).imp (fun h => h) fun ⟨q, h1, h2⟩ => ⟨q, (own0q q h1 b).1 h2⟩⟩
 -- what each result owns
 let G : Nat → Nat → Prop := fun i b => ∃ t k v x c y id, avs[t]? = some v ∧ ra[t]? = some x ∧ AtR v x k c y ∧ i = oid t k ∧ id ∈ ownIdsC c y ∧ own id b
 have hG : ∀ i b, G i b → ∃ id, id ∈ ow ∧ own id b ∧ id ≠ alien ∧ (0 < (s.ob id).ver ∨ ∃ dp x, gaAt gas id = some (.arr true dp x)) := by
  rintro i b ⟨t, k, v, x, c, y, id, h1, h2, h3, _, h4, h5⟩
  refine ⟨id, how ▸ ownIds_mem h1 h2 h3 h4, h5, ?_⟩
  have hc := endA_at (hend t v x h1 h2) h3
  cases c <;> cases y <;> simp [ownIdsC] at h4
  ·subst h4
   obtain ⟨⟨dp', hk, _⟩, h6⟩ := hc
   exact ⟨r.ne_al (by rw [(St.obj_ok hk (by simp)).2]; simp), h6⟩
  ·subst h4
   obtain ⟨_, ⟨cs, hk, _⟩, h6⟩ := hc
   exact ⟨r.ne_al (by rw [(St.obj_ok hk (by simp)).2]; simp), .inl h6⟩
 have inS : ∀ b, (Free w' own b ∨ ∃ id, own id b ∧ 0 < (s.ob id).ver ∧ id ∉ ow ∧ id ≠ alien) → b < w'.heap.size ∧ (S b ∨ w.heap.size ≤ b ∨ GivenTo gas Fs b) ∧ ∀ i, ¬ G i b := by
  intro b h
  have hlt : b < w'.heap.size := by
   rcases h with h | ⟨id, h, _⟩
   ·exact h.1
   ·exact r.lt id b h
  refine ⟨hlt, ?_, fun i hi => ?_⟩
  ·have viaF : (∃ q, Fs q b) → S b ∨ w.heap.size ≤ b ∨ GivenTo gas Fs b := by
    rintro ⟨q, hq⟩
    rcases keep q b hq with h1 | ⟨h1, h2, _, _⟩
    ·exact .inr (.inr h1)
    ·rcases h with h | ⟨id, h3, h4, _, _⟩
     ·exact absurd h2 (h.2 q)
     ·have := r.dis id q b h3 h2
      subst this; omega
   rcases h with h | ⟨id, h3, h4, h5, h6⟩
   ·by_cases hb : b < w.heap.size
    ·have h1 : ¬ own00 w S Fs alien b := fun ho => h.2 alien (((r.zero alien r.alv).2 b).2 ho)
     simp only [own00, if_pos] at h1
     by_cases hS : S b
     ·exact .inl hS
     ·by_cases hq : ∃ q, Fs q b
      ·exact viaF hq
      ·exact absurd ⟨hb, hS, fun q hq' => hq ⟨q, hq'⟩⟩ h1
    ·exact .inr (.inl (by omega))
   ·obtain ⟨_, _, h7⟩ := hown id b h3 h6
    rcases h7 with h7 | h7
    ·exact .inr (.inl h7)
    ·exact viaF h7
  ·obtain ⟨id2, h1, h2, _⟩ := hG i b hi
   rcases h with h | ⟨id, h3, _, h5, _⟩
   ·exact h.2 id2 h2
   ·exact h5 (r.dis id id2 b h3 h2 ▸ h1)
 have hD : ∀ c x u, endD s ow c x → RC P w' own hdr s.ob c u → Pers w' (fun b => b < w'.heap.size ∧ (S b ∨ w.heap.size ≤ b ∨ GivenTo gas Fs b) ∧ ∀ i, ¬ G i b) x u := by
  rintro c x u ⟨h1, h2⟩ hc
  rcases h2 with h2 | h2
  ·exact (stabR_pers r hc h1 h2).mono' fun b hb => inS b (.inl hb)
  ·cases c with
   | arr id ver =>
    obtain ⟨h3, h4⟩ := h2
    obtain ⟨v1, v2⟩ := rd_cur rfl h1
    rcases v2 with ⟨dp, hk⟩ | hk
    ·obtain ⟨g1, g2⟩ := r.arrAt hk
     rw [hc.2 v1.symm]
     have := g2.pers (S' := fun b => b < w'.heap.size ∧ (S b ∨ w.heap.size ≤ b ∨ GivenTo gas Fs b) ∧ ∀ i, ¬ G i b) (fun b hb => inS b (.inl hb)) (fun b hb => inS b (.inr ⟨id, hb, h3, h4, r.ne_al (by rw [hk]; simp)⟩))
     rw [← DV.sl_eta g1] at this
     exact this
    ·rw [hc.2 v1.symm]
     exact (r.frzAt hk).2.2.mono' fun b hb => inS b (.inl hb)
   | _ => exact h2.elim
 have hCell : ∀ t k v x c y u, avs[t]? = some v → ra[t]? = some x → AtR v x k c y → RC P w' own hdr s.ob c u → RVr w' (fun b => b < w'.heap.size ∧ (S b ∨ w.heap.size ≤ b ∨ GivenTo gas Fs b) ∧ ∀ i, ¬ G i b) y u (G (oid t k)) := by
  intro t k v xx c y u h1 h2 h3 hc
  have hce := endA_at (hend t v xx h1 h2) h3
  cases y with
  | d y =>
   have : endD s ow c y := by cases c <;> exact hce
   exact hD c y u this hc
  | own dp y =>
   cases c with
   | arr id ver =>
    obtain ⟨⟨dp', hk, hdp⟩, _⟩ := hce
    obtain ⟨o1, o2⟩ := St.obj_ok hk (by simp)
    obtain ⟨g1, g2⟩ := r.arrAt o2
    refine ⟨g1, ?_⟩
    rw [hc.2 o1.symm]
    exact g2.mono hdp (fun b hb => ⟨rfl, inS b (.inl hb)⟩) fun b hb => ⟨rfl, t, k, v, xx, _, _, id, h1, h2, h3, rfl, by simp [ownIdsC], hb⟩
   | nil sz =>
    have hy : y = .sl sz [] := hce
    subst hy
    exact ⟨rfl, .inl ⟨rfl, hc⟩⟩
   | _ => exact hce.elim
  | box ds =>
   cases c with
   | ptr id ver off =>
    obtain ⟨rfl, ⟨cs, hk, hds⟩, hv⟩ := hce
    obtain ⟨o1, o2⟩ := St.obj_ok hk (by simp)
    obtain ⟨b, us, tt, g1, g2, g3, g4, g5⟩ := r.boxAt o2
    obtain ⟨b', e4, e5⟩ := hc.2 o1.symm
    obtain ⟨e1, e3⟩ := endDs_get hds
    have hb' : b' = b := by rw [e4] at g1; simpa using g1
    subst hb'
    refine ⟨b', us, tt, e5, fun x => ⟨?_, ?_⟩, g3, by rw [g4, e1], fun k' d u' h5 h6 => ?_⟩
    ·rintro ⟨t', k'', v', x', c', y', id', h1', h2', h3', h4', h5', h6'⟩
     have e6 : t' = t ∧ k'' = k := by
      have := h3.lt; have := h3'.lt
      unfold oid at h4'; omega
     obtain ⟨rfl, rfl⟩ := e6
     rw [h1] at h1'; rw [h2] at h2'
     simp only [Option.some.injEq] at h1' h2'
     subst h1'; subst h2'
     have : id' = id := ownIdsC_uniq h3 (by simp [ownIdsC]) h3' h5'
     subst this
     exact (g2 x).1 h6'
    ·intro hx
     exact ⟨t, k, v, xx, _, _, id, h1, h2, h3, rfl, by simp [ownIdsC], (g2 x).2 hx⟩
    ·have hk' : k' < cs.length := by rw [e1]; exact (List.getElem?_eq_some_iff.1 h5).1
     have hck := List.getElem?_eq_getElem hk'
     exact hD _ d u' (e3 k' _ d hck h5) (g5 k' _ u' hck h6)
   | _ => exact hce.elim
 refine ⟨G, ⟨r.ext.os, r.ext.tape, r.ext.output, r.ext.size, fun b hb hn => r.ext.same b hb fun ⟨id, h1, h2⟩ => hn ⟨id, (own0q id h1 b).1 h2⟩, r.ext.drawn⟩, ⟨?_, ?_, ?_⟩, ⟨rs, rfl, by rw [hrl, hlen], fun t x u h1 h2 => ?_⟩, ?_⟩
 ·rintro i j b ⟨t, k, v, x, c, y, id, h1, h2, h3, h4, h5, h6⟩ ⟨t', k', v', x', c', y', id', h1', h2', h3', h4', h5', h6'⟩
  have := r.dis id id' b h6 h6'
  subst this
  obtain ⟨e1, e2⟩ := ownIds_inj (by rw [how]; exact hnd) h1 h2 h3 h5 h1' h2' h3' h5'
  rw [h4, h4', e1, e2]
 ·intro i b hi
  obtain ⟨id, _, h2, _⟩ := hG i b hi
  exact r.lt id b h2
 ·intro i b hi
  obtain ⟨id, h1, h2, h3, h4⟩ := hG i b hi
  obtain ⟨_, _, h5⟩ := hown id b h2 h3
  rcases h5 with h5 | ⟨q, h5⟩
  ·exact .inl h5
  ·rcases keep q b h5 with h6 | ⟨h6, h7, h8, h9⟩
   ·exact .inr h6
   ·have := r.dis id q b h2 h7
    subst this
    rcases h4 with h4 | ⟨dp, x, h4⟩
    ·omega
    ·exact absurd h4 (h9 dp x)
 ·have hlt : t < avs.length := by rw [← hrl]; exact (Array.getElem?_eq_some_iff.1 h2).1
  have hv := List.getElem?_eq_getElem hlt
  have hru := hr t _ u hv h2
  have hea := hend t _ x hv h1
  have hcell := fun k c y u' => hCell t k _ x c y u' hv h1
  generalize avs[t] = v at *
  cases v with
  | c c =>
   cases x with
   | one y => exact hcell 0 c y u (.one c y) hru
   | agg ys => exact hea.elim
  | g cs =>
   cases x with
   | one y => exact hea.elim
   | agg ys =>
    obtain ⟨us, e1, e2, e3⟩ := hru
    obtain ⟨l1, _⟩ := endL_get hea.1
    refine ⟨us, e1, by rw [e2, l1], hea.2, fun k y u' h3 h4 => ?_⟩
    have hk : k < cs.length := by rw [l1]; exact (List.getElem?_eq_some_iff.1 h3).1
    have hck := List.getElem?_eq_getElem hk
    exact hcell k _ y u' (.agg cs ys k _ y hea.2 hck h3) (e3 k _ u' hck h4)
  | t xs => cases x <;> exact hea.elim
 ·intro t k g v p u h1 h2 h3 h4
  have hq := gaAt_aid h1 h3
  have hep := hargs _ p hq
  have hu := argCell_eq hl h1 h2 h3 h4
  have hne := neAl _ _ hq
  generalize aid t k = q at *
  split
  ·rename_i dp x
   simp only [endP] at hep
   split at hep
   ·rename_i ver ev dp' y heq
    obtain ⟨rfl, e1, e2⟩ := hep
    have hk : (s.ob q).k = .arr dp' y := by rw [heq]
    have hz := r.zero q (by rw [heq])
    obtain ⟨g1, g2⟩ := r.arrAt hk
    have hh : hdr q = u := by rw [hz.1]; simp [hdr00, hq, hu]
    simp only [St.outs, hk]
    refine ⟨g1, e2, ?_⟩
    rw [← e2, ← hh]
    exact g2.mono e1 (fun b hb => ⟨rfl, inS b (.inl hb)⟩) fun b hb => ⟨rfl, (own0q q hne b).1 ((hz.2 b).1 hb)⟩
   ·exact hep.elim
  ·rename_i cs
   simp only [endP] at hep
   split at hep
   ·rename_i ver ev cs' heq
    obtain ⟨rfl, e1, e2⟩ := hep
    have hk : (s.ob q).k = .box cs' := by rw [heq]
    have hz := r.zero q (by rw [heq])
    obtain ⟨b, us, tt, g1, g2, g3, g4, g5⟩ := r.boxAt hk
    have hh : hdr q = u := by rw [hz.1]; simp [hdr00, hq, hu]
    simp only [St.outs, hk]
    refine ⟨⟨b, us, tt, by rw [← hh]; exact g1, fun x => ?_, g3, by simpa using g4, fun k' d u' h5 h6 => ?_⟩, by simpa using e2⟩
    ·rw [← own0q q hne x, ← hz.2 x]; exact g2 x
    ·obtain ⟨_, e3⟩ := endDs_get e1
     have h7 := h5
     simp only [List.getElem?_map, Option.map_eq_some_iff] at h7
     obtain ⟨c, h7, _⟩ := h7
     exact hD c d u' (e3 k' c d h7 h5) (g5 k' c u' h7 h6)
   ·exact hep.elim
  ·trivial
theorem RC.ptrOf {P : Program} {w : World} {own : Nat → Nat → Prop} {hdr : Nat → Value} {ob : Nat → Ob} {id ver off : Nat} {v : Value} (h : RS P w own hdr ob (.c (.ptr id ver off)) v) (hv : (ob id).ver = ver) : ∃ b, hdr id = .pointer (some ⟨b, 0, none⟩) ∧ v = .pointer (some ⟨b, off, none⟩) :=
 h.2 hv.symm
theorem mapM_res {N : Nat} {w0 : World} {own0 : Nat → Nat → Prop} {hdr0 : Nat → Value} {own : Nat → Nat → Prop} {hdr : Nat → Value} {a : Act} (r : RelX P N w0 own0 hdr0 [] own hdr s a w) (g : ResultVar → Sem Value) (hg : ∀ t, g (.tmp t) = pure (a.tmps.getD t undef))
  (hg2 : ∀ c t, g (.cell c t) = (do loadVar t (← asAddr (a.tmps.getD c undef)))) : ∀ {l : List ResultVar} {sl : List RSl} {avs : List AV}, l.mapM (slotOf P) = some sl → s.resAts sl = some avs →
   ∃ us, (l.mapM g).run P w = .ok us w ∧ us.length = avs.length ∧ ∀ (t : Nat) (v : AV) (u : Value), avs[t]? = some v → us[t]? = some u → RS P w own hdr s.ob v u
 | [], sl, avs, h, h' => by
  simp at h; subst h
  simp [St.resAts] at h'; subst h'
  exact ⟨[], rfl, rfl, by simp⟩
 | x :: l, sl, avs, h, h' => by
  simp only [List.mapM_cons, Option.bind_eq_bind, Option.bind_eq_some_iff, Option.pure_def, Option.some.injEq] at h
  obtain ⟨t, h1, ts, h2, rfl⟩ := h
  simp only [St.resAts] at h'
  split at h'
  ·rename_i v vs hv hvs
   simp at h'; subst h'
   obtain ⟨us, i1, i2, i3⟩ := mapM_res r g hg hg2 h2 hvs
   have one : ∃ u, (g x).run P w = .ok u w ∧ RS P w own hdr s.ob v u := by
    cases x with
    | tmp t' =>
     simp [slotOf] at h1; subst h1
     simp [St.resAt] at hv; subst hv
     exact ⟨_, by rw [hg]; rfl, r.tmps t'⟩
    | cell c ty =>
     simp only [slotOf, Option.map_eq_some_iff] at h1
     obtain ⟨n, hn, rfl⟩ := h1
     simp only [St.resAt] at hv
     split at hv
     ·rename_i id ver off hp
      split at hv
      ·rename_i cs hk
       have hc := r.tmps c
       rw [hp] at hc
       have hl : loadA s n (.c (.ptr id ver off)) (fun y s' => y = v) := by
        simp only [loadA, hk, hv]
       obtain ⟨u, y, b, e1, e2, e3, _⟩ := snd_load r hn hc hl
       subst e2
       refine ⟨u, ?_, e3⟩
       obtain ⟨o1, o2⟩ := St.obj_ok hk (by simp)
       obtain ⟨b', e4, e5⟩ := RC.ptrOf hc o1
       have := e1 w rfl
       rw [hg2]
       rw [e5] at this ⊢
       simpa [Instr.loadAt, Instr.sureAddr, asAddr] using this
      ·simp at hv
     ·simp at hv
   obtain ⟨u, o1, o2⟩ := one
   refine ⟨u :: us, by simp [List.mapM_cons, o1, i1], by simp [i2], fun t v' u' h3 h4 => ?_⟩
   cases t with
   | zero => simp at h3 h4; subst h3; subst h4; exact o2
   | succ t => simp at h3 h4; exact i3 t v' u' h3 h4
  ·simp at h'
theorem FnOK.of {f : FuncId} {fn : Func} {c' : C} {loud : List Nat} {slots : List RSl} {gas : List GA} {R : List RA → Outs → Prop} (hf : P.funcs[f]? = some fn) (hname : (fn.name == "runtime.NumGoroutine") = false)
  (hd : fn.body.bind (digC P fn.ntmps loud) = some c') (hr : resSlots P fn = some slots) (hN' : Nat.ble gas.length fn.ntmps = true) (h63' : Nat.ble gas.length 63 = true)
  (h : ∃ t, Sub (.init gas) t ∧ wpC P c' t fun e s => (∀ id, e ≠ .exit id) ∧ ∃ ra avs, R ra s.outs ∧ s.resAts slots = some avs ∧ EndOK gas avs ra s) : FnOK P f gas R := by
 obtain ⟨c, hb, hd⟩ := Option.bind_eq_some_iff.1 hd
 have hN := Nat.le_of_ble_eq_true hN'
 have h63 := Nat.le_of_ble_eq_true h63'
 refine ⟨⟨fn, hf, by rw [hb]; rfl, hname⟩, fun w S Fs vs hl hg hdis hF hS hFk => ?_⟩
 have noAl : gaAt gas alien = none := by
  cases h : gaAt gas alien with
  | none => rfl
  | some p =>
   obtain ⟨g, h1, _⟩ := gaAt_inv h
   have := (List.getElem?_eq_some_iff.1 h1).1
   unfold alien at this
   omega
 have r := init_rel (P := P) (N := fn.ntmps) hN h63 hl hg hdis hF hS hFk
 obtain ⟨t, ht, h⟩ := h
 refine calls_of_wp hf hb (wp_mono (digC_sound hd h (ht _ _ _ _ _ _ _ ⟨_, _, r⟩)) ?_)
 have fin : ∀ (a : Act) (w' : World) (s' : St), (∃ ra avs, R ra s'.outs ∧ s'.resAts slots = some avs ∧ EndOK gas avs ra s') → Rel P fn.ntmps w (own00 w S Fs) (hdr00 gas vs) [] s' a w' → a.defers = [] ∧ ∃ v, (results fn a.tmps).run P w' = .ok v w' ∧
   ∃ v' ra os G, Ending.returned v = .returned v' ∧ R ra os ∧ Ext w w' (fun b => ∃ q, Fs q b) ∧ Fresh w w' G (GivenTo gas Fs) ∧
   RAs w' (fun b => b < w'.heap.size ∧ (S b ∨ w.heap.size ≤ b ∨ GivenTo gas Fs b) ∧ ∀ i, ¬ G i b) ra v' G ∧
   ∀ (t k : Nat) (g : GA) (v : Value) (p : PA) (u : Value), gas[t]? = some g → vs[t]? = some v → g.at k = some p → (match g with | .one _ => u = v | .agg _ => ∃ us : Array Value, v = .agg us ∧ us[k]? = some u) →
    match p with
    | .arr false dp x => (os.a (aid t k)).isSl = true ∧ (os.a (aid t k)).esz = x.esz ∧ Top w' (fun b => b < w'.heap.size ∧ (S b ∨ w.heap.size ≤ b ∨ GivenTo gas Fs b) ∧ ∀ i, ¬ G i b) dp x.esz (os.a (aid t k)).rows u (Fs (aid t k))
    | .box cs => PAr P w' (fun b => b < w'.heap.size ∧ (S b ∨ w.heap.size ≤ b ∨ GivenTo gas Fs b) ∧ ∀ i, ¬ G i b) (fun _ => False) (.box (os.b (aid t k))) u (Fs (aid t k)) ∧ (os.b (aid t k)).length = cs.length
    | _ => True := by
  rintro a w' s' ⟨ra, avs, hR, ha, he⟩ ⟨own, hdr, r'⟩
  have hmain : ∃ us : List Value, (results fn a.tmps).run P w' = .ok (if h : us.toArray.size = 1 then us.toArray[0] else .tuple us.toArray) w' ∧ us.length = avs.length ∧ ∀ (t : Nat) (v : AV) (u : Value), avs[t]? = some v → us[t]? = some u → RS P w' own hdr s'.ob v u := by
   unfold results
   rw [Array.mapM_eq_mapM_toList, Sem.run_bind]
   generalize hg : (fun x : ResultVar => (match x with
    | .tmp t => pure (a.tmps.getD t undef)
    | .cell c t => do loadVar t (← asAddr (a.tmps.getD c undef)) : Sem Value)) = g
   obtain ⟨us, h1, h2, h3⟩ := mapM_res r' g (fun t => by rw [← hg]) (fun c t => by rw [← hg]) hr ha
   refine ⟨us, ?_, h2, h3⟩
   simp only [Sem.run_map, h1, Result.andThen_ok]
   rfl
  obtain ⟨us, hrun, hul, hus⟩ := hmain
  refine ⟨r'.defers, _, hrun, ?_⟩
  obtain ⟨G, h1, h2, h3, h4⟩ := end_sound (rs := us.toArray) r' hl hFk noAl (by simp [hul]) (fun t v u h1 h2 => hus t v u h1 (by simpa using h2)) he
  exact ⟨_, ra, s'.outs, G, rfl, hR, h1, h2, h3, h4⟩
 rintro (_ | id | l | _ | ch | _) a w' hq
 ·obtain ⟨s', ⟨_, h1⟩, h2⟩ := hq; exact fin a w' s' h1 h2
 ·obtain ⟨s', ⟨h1, _⟩, _⟩ := hq; exact absurd rfl (h1 id)
 ·exact hq.elim
 ·obtain ⟨s', ⟨_, h1⟩, h2⟩ := hq; exact fin a w' s' h1 h2
 ·exact hq.elim
 ·exact hq.elim
end
end Hearth

/- The abstract machine: rules, one a step. -/
namespace Hearth
open Go
inductive It where
 | c (x : C)
 | t (x : T) (tags : List Nat)
 | b (id : Nat)
 | h
 | inv (J : St → Prop)
def kont (P : Program) : List It → (Ex → St → Prop) → Ex → St → Prop
 | [], Q, e, s => Q e s
 | .c x :: k, Q, .normal, s => ∃ t, Sub s t ∧ wpC P x t (kont P k Q)
 | .c _ :: k, Q, e, s => kont P k Q e s
 | .t x tags :: k, Q, .normal, s => wpT P x tags s (kont P k Q .normal)
 | .t _ _ :: k, Q, e, s => kont P k Q e s
 | .h :: k, Q, .normal, s => kont P k Q .normal { s with hold := [] }
 | .h :: k, Q, e, s => kont P k Q e s
 | .b id :: k, Q, .exit id', s => if id' = id then kont P k Q .normal s else kont P k Q (.exit id') s
 | .b _ :: k, Q, e, s => kont P k Q e s
 | .inv J :: _, _, .normal, s => J s
 | .inv _ :: k, Q, e, s => kont P k Q e s
section
variable {P : Program} {k : List It} {Q : Ex → St → Prop} {s : St}
theorem kont_ret : kont P k Q .ret s = Q .ret s := by
 induction k with
 | nil => rfl
 | cons i k ih => cases i <;> exact ih
theorem wpC_congr {x : C} {Q Q' : Ex → St → Prop} (h : ∀ e s, Q e s = Q' e s) : wpC P x s Q = wpC P x s Q' := by
 have : Q = Q' := funext fun e => funext fun s => h e s
 rw [this]
theorem kSub {x : C} {t : St} (hs : Sub s t) (h : kont P (.c x :: k) Q .normal t) : kont P (.c x :: k) Q .normal s :=
 let ⟨u, h1, h2⟩ := h; ⟨u, hs.trans h1, h2⟩
theorem kNow {x : C} (h : wpC P x s (kont P k Q)) : kont P (.c x :: k) Q .normal s := ⟨s, .refl s, h⟩
theorem kSkip (h : kont P k Q .normal s) : kont P (.c .skip :: k) Q .normal s := kNow h
theorem kSeq {x y : C} (h : kont P (.c x :: .c y :: k) Q .normal s) : kont P (.c (.seq x y) :: k) Q .normal s := by
 obtain ⟨t, h1, h2⟩ := h
 refine ⟨t, h1, ?_⟩
 show wpC P x t _
 refine (wpC_congr fun e s => ?_).mp h2
 cases e <;> rfl
theorem kBlock {id : Nat} {x : C} (h : kont P (.c x :: .b id :: k) Q .normal s) : kont P (.c (.block id x) :: k) Q .normal s := by
 obtain ⟨t, h1, h2⟩ := h
 refine ⟨t, h1, ?_⟩
 show wpC P x t _
 refine (wpC_congr fun e s => ?_).mp h2
 cases e <;> rfl
theorem kBk {id : Nat} (h : kont P k Q .normal s) : kont P (.b id :: k) Q .normal s := h
theorem kH (h : kont P k Q .normal { s with hold := [] }) : kont P (.h :: k) Q .normal s := h
theorem kExit {id : Nat} (h : kont P k Q (.exit id) s) : kont P (.c (.exit id) :: k) Q .normal s := kNow h
theorem kExC {id : Nat} {x : C} (h : kont P k Q (.exit id) s) : kont P (.c x :: k) Q (.exit id) s := h
theorem kExI {id : Nat} {J : St → Prop} (h : kont P k Q (.exit id) s) : kont P (.inv J :: k) Q (.exit id) s := h
theorem kExB {id : Nat} (h : kont P k Q .normal s) : kont P (.b id :: k) Q (.exit id) s := by
 show ite _ _ _
 rw [if_pos rfl]; exact h
theorem kExB' {id id' : Nat} (hne : (id' == id) = false) (h : kont P k Q (.exit id') s) : kont P (.b id :: k) Q (.exit id') s := by
 show ite _ _ _
 rw [if_neg (by simpa using hne)]; exact h
theorem kRet (h : Q .ret s) : kont P (.c .ret :: k) Q .normal s := by
 refine kNow ?_
 show kont P k Q .ret s
 rw [kont_ret]; exact h
theorem kEnd (h : Q .normal s) : kont P [] Q .normal s := h
theorem kInv {J : St → Prop} (h : J s) : kont P (.inv J :: k) Q .normal s := h
theorem kCond {c : X} {x y : C} {b : Bool} (hc : s.ev c = .c (.d (.sc (.bool b)))) (h1 : b = true → kont P (.c x :: k) Q .normal s) (h2 : b = false → kont P (.c y :: k) Q .normal s) : kont P (.c (.cond c x y) :: k) Q .normal s := by
 refine kNow ?_
 simp only [wpC, hc]
 exact ⟨h1, h2⟩
theorem kCondT {c : X} {x y : C} (hc : s.ev c = .c (.d (.sc (.bool true)))) (h1 : kont P (.c x :: k) Q .normal s) : kont P (.c (.cond c x y) :: k) Q .normal s :=
 kCond hc (fun _ => h1) (fun h => by cases h)
theorem kCondF {c : X} {x y : C} (hc : s.ev c = .c (.d (.sc (.bool false)))) (h1 : kont P (.c y :: k) Q .normal s) : kont P (.c (.cond c x y) :: k) Q .normal s :=
 kCond hc (fun h => by cases h) (fun _ => h1)
theorem kReg {t : T} (h : kont P (.t t [] :: k) Q .normal s) : kont P (.c (.reg false t) :: k) Q .normal s := kNow h
theorem kRegD {t : T} (h : kont P (.t t [] :: .h :: k) Q .normal s) : kont P (.c (.reg true t) :: k) Q .normal s := kNow h
theorem kDone {tags : List Nat} (h : kont P k Q .normal s) : kont P (.t .done tags :: k) Q .normal s := h
theorem kAlt {x y : T} {tags : List Nat} (h1 : kont P (.t x tags :: k) Q .normal s) (h2 : kont P (.t y tags :: k) Q .normal s) : kont P (.t (.alt x y) tags :: k) Q .normal s := ⟨h1, h2⟩
theorem kLoop {x : C} {α : Type} (F : α → St) (μ : α → Nat) (y : α) (h0 : Sub s (F y)) (hr : ∀ y, kont P (.c x :: .inv (fun s'' => ∃ z, μ z < μ y ∧ Sub s'' (F z)) :: k) Q .normal (F y)) : kont P (.c (.loop x) :: k) Q .normal s := by
 refine kNow ⟨α, F, μ, ⟨y, h0⟩, fun y => ?_⟩
 obtain ⟨t, h1, h2⟩ := hr y
 refine ⟨t, h1, (wpC_congr fun e s => ?_).mp h2⟩
 cases e <;> rfl
end
end Hearth

/- The abstract machine: rules for operations. -/
namespace Hearth
open Go
section
variable {P : Program} {k : List It} {Q : Ex → St → Prop} {s : St} {d : Option Nat} {q : Bool} {r : T} {oi : Nat} {tags : List Nat}
theorem kOp {o : O} (hs : q = true → s.still o) (h : stepO P s o fun v s' => kont P (.t r tags :: k) Q .normal (s'.put d v)) (hnl : (q && o.isLoad) = false := by simp [O.isLoad]) : kont P (.t (.op oi [] d none q o r) tags :: k) Q .normal s := by
 refine ⟨fun e => ?_, ?_⟩
 ·simp only [relS_nil, St.holds, hnl]; exact hs e
 ·simp only [relS_nil, relT_nil, St.holds, hnl]; exact h
def _root_.Hearth.St.heldIf (s : St) (q : Bool) (ids : List Nat) : St := { s with hold := if q then ids ++ s.hold else s.hold }
theorem kOpL {n : Option Nat} {x : X} {ids : List Nat} (hi : s.holdOf (.load n x) = ids) (hs : q = true → (s.heldIf q ids).still (.load n x)) (h : stepO P (s.heldIf q ids) (.load n x) fun v s' => kont P (.t r (if q then oi :: tags else tags) :: k) Q .normal (s'.put d v)) :
  kont P (.t (.op oi [] d none q (.load n x) r) tags :: k) Q .normal s := by
 cases q with
 | false => exact kOp nofun h rfl
 | true =>
  have e : ((relS [] tags s).holds true (.load n x)) = s.heldIf true ids := by
   simp only [relS_nil, St.holds, O.isLoad, Bool.and_self, if_true, hi, St.heldIf]
  refine ⟨fun e' => ?_, ?_⟩
  ·rw [e]; exact hs rfl
  ·rw [e]; simp only [relT_nil, O.isLoad, Bool.and_self, if_true]; exact h
theorem kRelK {i : Nat} {ws : List Nat} {g : Option (Nat × Bool)} {o : O} (h0 : ws.isEmpty = false) (h1 : (relT ws tags).isEmpty = false) (h : kont P (.t (.op i [] d g false o r) (relT ws tags) :: k) Q .normal s) : kont P (.t (.op i ws d g false o r) tags :: k) Q .normal s := by
 have e : ∀ s, relS ws tags s = s := fun s => by simp only [relS, h0, h1, Bool.not_false, Bool.and_false]; rfl
 show wpT P (.op i ws d g false o r) tags s _
 have h' : wpT P (.op i [] d g false o r) (relT ws tags) s (kont P k Q .normal) := h
 simp only [wpT, e, relS_nil, relT_nil] at h' ⊢
 exact h'
theorem kRelF {i : Nat} {ws : List Nat} {g : Option (Nat × Bool)} {o : O} (h0 : ws.isEmpty = false) (h1 : (relT ws tags).isEmpty = true) (h : kont P (.t (.op i [] d g false o r) [] :: k) Q .normal { s with hold := [] }) : kont P (.t (.op i ws d g false o r) tags :: k) Q .normal s := by
 have e : ∀ s : St, relS ws tags s = { s with hold := [] } := fun s => by simp only [relS, h0, h1, Bool.not_false, Bool.and_self]; rfl
 have e2 : relT ws tags = [] := by simpa using h1
 simp only [kont, wpT, e, e2, relS_nil, relT_nil] at h ⊢
 cases g with
 | none => exact h
 | some gw =>
  obtain ⟨g, want⟩ := gw
  simp only [guardA] at h ⊢
  split
  ·rename_i b hb
   rw [show ({ s with hold := [] } : St).sl g = s.sl g from rfl, hb] at h
   exact h
  ·rename_i hb
   rw [show ({ s with hold := [] } : St).sl g = s.sl g from rfl, hb] at h
   exact h
  ·rename_i h1 h2
   split at h
   ·rename_i b hb; exact (h1 _ hb).elim
   ·rename_i hb; exact (h2 hb).elim
   ·exact h
theorem kG {g : Nat} {want b : Bool} {o : O} (hg : s.sl g = .c (.d (.sc (.bool b)))) (h1 : b = want → kont P (.t (.op oi [] d none q o r) tags :: k) Q .normal (s.put (some g) (.b want)))
  (h2 : b = !want → kont P (.t r tags :: k) Q .normal ((s.put (some g) (.b !want)).put d (.c .un))) : kont P (.t (.op oi [] d (some (g, want)) q o r) tags :: k) Q .normal s := by
 simp only [kont, wpT, guardA, hg, relS_nil, relT_nil] at h1 h2 ⊢
 exact ⟨h1, h2⟩
theorem put_id {g : Nat} {v : AV} (h : s.sl g = v) : s.put (some g) v = s := by
 have : upd s.sl g v = s.sl := by
  funext j
  unfold upd
  split
  ·rename_i e; rw [e]; exact h.symm
  ·rfl
 show { s with sl := upd s.sl g v } = s
 rw [this]
theorem kGT {g : Nat} {want : Bool} {o : O} (hg : s.sl g = .c (.d (.sc (.bool want)))) (h1 : kont P (.t (.op oi [] d none q o r) tags :: k) Q .normal s) : kont P (.t (.op oi [] d (some (g, want)) q o r) tags :: k) Q .normal s := by
 have : s.put (some g) (.b want) = s := put_id hg
 refine kG hg (fun _ => by rw [this]; exact h1) (fun h => by cases want <;> cases h)
theorem kGF {g : Nat} {want : Bool} {o : O} (hg : s.sl g = .c (.d (.sc (.bool (!want))))) (h1 : kont P (.t r tags :: k) Q .normal (s.put d (.c .un))) : kont P (.t (.op oi [] d (some (g, want)) q o r) tags :: k) Q .normal s := by
 have : s.put (some g) (.b !want) = s := put_id hg
 refine kG hg (fun h => by cases want <;> cases h) (fun _ => by rw [this]; exact h1)
theorem kGU {g : Nat} {want : Bool} {o : O} (hg : s.sl g = .c .un) (h1 : kont P (.t r tags :: k) Q .normal (s.put d (.c .un))) : kont P (.t (.op oi [] d (some (g, want)) q o r) tags :: k) Q .normal s := by
 simp only [kont, wpT, guardA, hg, relS_nil, relT_nil] at h1 ⊢
 exact h1
theorem kMovC {x : X} {c : AC} (hx : s.ev x = .c c) (h : kont P (.t r tags :: k) Q .normal (s.put d (.c c))) : kont P (.t (.op oi [] d none q (.mov x) r) tags :: k) Q .normal s :=
 kOp (fun _ => trivial) (by simp only [stepO, hx]; exact h)
theorem kMov_inv {x : X} (h : kont P (.t (.op oi [] d none q (.mov x) r) tags :: k) Q .normal s) : kont P (.t r tags :: k) Q .normal (s.put d (s.ev x)) := by
 have := h.2
 simp only [relS_nil, relT_nil, St.holds, O.isLoad, Bool.and_false] at this
 exact this
theorem kPick {c x y : X} {b : Bool} (hc : s.ev c = .c (.d (.sc (.bool b)))) (h1 : b = true → kont P (.t (.op oi [] d none q (.mov x) r) tags :: k) Q .normal s) (h2 : b = false → kont P (.t (.op oi [] d none q (.mov y) r) tags :: k) Q .normal s) :
  kont P (.t (.op oi [] d none q (.pick c x y) r) tags :: k) Q .normal s :=
 kOp (fun _ => trivial) (by simp only [stepO, hc]; exact ⟨fun e => kMov_inv (h1 e), fun e => kMov_inv (h2 e)⟩)
theorem kPickT {c x y : X} (hc : s.ev c = .c (.d (.sc (.bool true)))) (h1 : kont P (.t (.op oi [] d none q (.mov x) r) tags :: k) Q .normal s) :
  kont P (.t (.op oi [] d none q (.pick c x y) r) tags :: k) Q .normal s := kPick hc (fun _ => h1) (fun h => by cases h)
theorem kPickF {c x y : X} (hc : s.ev c = .c (.d (.sc (.bool false)))) (h1 : kont P (.t (.op oi [] d none q (.mov y) r) tags :: k) Q .normal s) :
  kont P (.t (.op oi [] d none q (.pick c x y) r) tags :: k) Q .normal s := kPick hc (fun h => by cases h) (fun _ => h1)
theorem kBin {op : BinOp} {x y : X} {a b v : Value} (hx : s.ev x = .c (.d (.sc a))) (hy : s.ev y = .c (.d (.sc b))) (hv : evBin op a b = some v) (h : kont P (.t r tags :: k) Q .normal (s.put d (.vv v))) :
  kont P (.t (.op oi [] d none q (.bin op x y) r) tags :: k) Q .normal s :=
 kOp (fun _ => trivial) (by simp only [stepO, hx, hy, hv]; exact h)
theorem wrap64 {n : Int} (h : -9223372036854775808 ≤ n ∧ n ≤ 9223372036854775807) : IntKind.i64.wrap n = n := by
 simp [IntKind.wrap, IntKind.bits, IntKind.signed]
 split <;> omega
theorem kAdd {x y : X} {a b : Int} (hx : s.ev x = .i a) (hy : s.ev y = .i b) (hr : -9223372036854775808 ≤ a + b ∧ a + b ≤ 9223372036854775807) (h : kont P (.t r tags :: k) Q .normal (s.put d (.i (a + b)))) :
  kont P (.t (.op oi [] d none q (.bin .add x y) r) tags :: k) Q .normal s :=
 kBin hx hy (by simp only [evBin, if_true]; rw [wrap64 hr]) h
theorem kDif {x y : X} {a b : Int} (hx : s.ev x = .i a) (hy : s.ev y = .i b) (hr : -9223372036854775808 ≤ a - b ∧ a - b ≤ 9223372036854775807) (h : kont P (.t r tags :: k) Q .normal (s.put d (.i (a - b)))) :
  kont P (.t (.op oi [] d none q (.bin .sub x y) r) tags :: k) Q .normal s :=
 kBin hx hy (by simp only [evBin, if_true]; rw [wrap64 hr]) h
theorem kMul {x y : X} {a b : Int} (hx : s.ev x = .i a) (hy : s.ev y = .i b) (hr : -9223372036854775808 ≤ a * b ∧ a * b ≤ 9223372036854775807) (h : kont P (.t r tags :: k) Q .normal (s.put d (.i (a * b)))) :
  kont P (.t (.op oi [] d none q (.bin .mul x y) r) tags :: k) Q .normal s :=
 kBin hx hy (by simp only [evBin, if_true]; rw [wrap64 hr]) h
theorem kUn {op : UnOp} {x : X} {a v : Value} (hx : s.ev x = .c (.d (.sc a))) (hv : evUn op a = some v) (h : kont P (.t r tags :: k) Q .normal (s.put d (.vv v))) : kont P (.t (.op oi [] d none q (.un op x) r) tags :: k) Q .normal s :=
 kOp (fun _ => trivial) (by simp only [stepO, hx, hv]; exact h)
theorem kConv {i j : IntKind} {x : X} {n : Int} (hx : s.ev x = .vv (.int j n)) (h : kont P (.t r tags :: k) Q .normal (s.put d (.vv (.int i (i.wrap n))))) : kont P (.t (.op oi [] d none q (.conv i x) r) tags :: k) Q .normal s :=
 kOp (fun _ => trivial) (by simp only [stepO, hx]; exact h)
theorem kLen {x : X} {c : AC} {y : DV} (hx : s.ev x = .c c) (hy : s.rd c = some y) (hsl : y.isSl = true) (h : kont P (.t r tags :: k) Q .normal (s.put d (.i y.len))) : kont P (.t (.op oi [] d none q (.len x) r) tags :: k) Q .normal s :=
 kOp (fun _ => trivial) (by simp only [stepO, hx, hy]; exact ⟨hsl, h⟩)
theorem kIadD {sz : Nat} {x i : X} {y : DV} {j : IntKind} {n : Int} (hx : s.ev x = .c (.d y)) (hi : s.ev i = .vv (.int j n)) (hsl : y.isSl = true) (hsz : y.esz = sz) (hn : 0 ≤ n ∧ n.toNat < y.len) (h : kont P (.t r tags :: k) Q .normal (s.put d (.c (.dpt (y.row n.toNat))))) :
  kont P (.t (.op oi [] d none q (.iad sz x i) r) tags :: k) Q .normal s :=
 kOp (fun _ => trivial) (by simp only [stepO, hx, hi, iadA]; exact ⟨hsl, hsz, hn, h⟩)
theorem kIadA {sz : Nat} {x i : X} {y : DV} {j : IntKind} {n : Int} {id ver ev : Nat} {dp : Bool} (hx : s.ev x = .c (.arr id ver)) (hi : s.ev i = .vv (.int j n)) (ho : s.ob id = ⟨ver, ev, .arr dp y⟩) (hsz : y.esz = sz) (hn : 0 ≤ n ∧ n.toNat < y.len) (h : kont P (.t r tags :: k) Q .normal (s.put d (.c (.ept id ver n.toNat 0)))) :
  kont P (.t (.op oi [] d none q (.iad sz x i) r) tags :: k) Q .normal s :=
 kOp (fun _ => trivial) (by simp only [stepO, hx, hi, iadA, St.obj, ho, if_true]; exact ⟨hsz, hn, h⟩)
theorem kLoadD {n : Option Nat} {x : X} {ds : List DV} {v : AV} (hx : s.ev x = .c (.dpt ds)) (hv : pickCells n (ds.map .d) = some v) (h : kont P (.t r (if q then oi :: tags else tags) :: k) Q .normal (s.put d v)) : kont P (.t (.op oi [] d none q (.load n x) r) tags :: k) Q .normal s := by
 have e : s.heldIf q [] = s := by cases q <;> rfl
 exact kOpL (ids := []) (by simp only [St.holdOf, hx]) (fun _ => by rw [e]; simp only [St.still, hx, stillA]) (by rw [e]; simp only [stepO, hx, loadA, hv]; exact h)
theorem kLoadC {n : Option Nat} {x : X} {ds : List CD} {v : AV} (hx : s.ev x = .c (.cpt ds)) (hv : pickCells n (ds.map CD.ac) = some v) (h : kont P (.t r (if q then oi :: tags else tags) :: k) Q .normal (s.put d v)) : kont P (.t (.op oi [] d none q (.load n x) r) tags :: k) Q .normal s := by
 have e : s.heldIf q [] = s := by cases q <;> rfl
 exact kOpL (ids := []) (by simp only [St.holdOf, hx]) (fun _ => by rw [e]; simp only [St.still, hx, stillA]) (by rw [e]; simp only [stepO, hx, loadA, hv]; exact h)
theorem heldIf_ev (x : X) (ids : List Nat) : (s.heldIf q ids).ev x = s.ev x := by cases x <;> rfl
theorem kLoadP {n : Option Nat} {x : X} {id ver ev off : Nat} {cs : List AC} {v : AV} (hx : s.ev x = .c (.ptr id ver off)) (ho : s.ob id = ⟨ver, ev, .box cs⟩) (hv : pickCells n (cs.drop off) = some v)
  (h : kont P (.t r (if q then oi :: tags else tags) :: k) Q .normal ((s.heldIf q [id]).put d v)) : kont P (.t (.op oi [] d none q (.load n x) r) tags :: k) Q .normal s := by
 have ho' : (s.heldIf q [id]).ob id = ⟨ver, ev, .box cs⟩ := ho
 refine kOpL (ids := [id]) (by simp only [St.holdOf, hx]) (fun e => ?_) ?_
 ·subst e; simp only [St.still, heldIf_ev, hx, stillA]; simp [St.heldIf]
 ·simp only [stepO, heldIf_ev, hx, loadA, St.obj, ho', if_true, hv]; exact h
theorem kLoadE {n : Option Nat} {x : X} {id ver ev i off : Nat} {dp : Bool} {y : DV} {v : AV} (hx : s.ev x = .c (.ept id ver i off)) (ho : s.ob id = ⟨ver, ev, .arr dp y⟩) (hv : pickCells n (AC.ofCells id ver ev i off ((y.row i).drop off)) = some v)
  (h : kont P (.t r (if q then oi :: tags else tags) :: k) Q .normal ((s.heldIf q [id]).put d v)) : kont P (.t (.op oi [] d none q (.load n x) r) tags :: k) Q .normal s := by
 have ho' : (s.heldIf q [id]).ob id = ⟨ver, ev, .arr dp y⟩ := ho
 refine kOpL (ids := [id]) (by simp only [St.holdOf, hx]) (fun e => ?_) ?_
 ·subst e; simp only [St.still, heldIf_ev, hx, stillA]; simp [St.heldIf]
 ·simp only [stepO, heldIf_ev, hx, loadA, St.obj, ho', if_true, hv]; exact h
theorem kBox {e : Nat} {x : X} {v : AV} (hx : s.ev x = v) (hv : (match v with | .t _ => false | _ => true) = true) (hl : v.cells.all s.live = true) (hh : (s.hold.contains (rid e 0)) = false) {vv ve : Nat} {vk : OK} (hob : s.ob (rid e 0) = ⟨vv, ve, vk⟩)
  (h : kont P (.t r tags :: k) Q .normal ((s.setOb (rid e 0) ⟨vv + 1, 0, .box v.cells⟩).put d (.c (.ptr (rid e 0) (vv + 1) 0)))) : kont P (.t (.op oi [] d none q (.box e x) r) tags :: k) Q .normal s :=
 kOp (fun _ => trivial) (by
  have hvv : (s.ob (rid e 0)).ver = vv := by rw [hob]
  subst hvv
  simp only [stepO, hx]
  cases v with
  | t _ => simp at hv
  | _ => exact ⟨by simpa using hh, hl, h⟩)
theorem kAlloc {e : Nat} {zs : List X} (hh : (s.hold.contains (rid e 0)) = false) {vv ve : Nat} {vk : OK} (hob : s.ob (rid e 0) = ⟨vv, ve, vk⟩) (h : kont P (.t r tags :: k) Q .normal ((s.setOb (rid e 0) ⟨vv + 1, 0, .box (zs.map X.ac)⟩).put d (.c (.ptr (rid e 0) (vv + 1) 0)))) :
  kont P (.t (.op oi [] d none q (.alloc e zs) r) tags :: k) Q .normal s :=
 kOp (fun _ => trivial) (by
  have hvv : (s.ob (rid e 0)).ver = vv := by rw [hob]
  subst hvv
  simp only [stepO]; exact ⟨by simpa using hh, h⟩)
theorem kBuild {zs : List X} {ps : List (Nat × Nat × X)} {cs : List AC} (hf : s.fill (zs.map X.ac) ps = some cs) (h : kont P (.t r tags :: k) Q .normal (s.put d (.g cs))) : kont P (.t (.op oi [] d none q (.build zs ps) r) tags :: k) Q .normal s :=
 kOp (fun _ => trivial) (by simp only [stepO, hf]; exact h)
theorem kFadP {x : X} {off o id ver ev : Nat} {cs : List AC} (hx : s.ev x = .c (.ptr id ver o)) (ho : s.ob id = ⟨ver, ev, .box cs⟩) (h : kont P (.t r tags :: k) Q .normal (s.put d (.c (.ptr id ver (o + off))))) : kont P (.t (.op oi [] d none q (.fad x off) r) tags :: k) Q .normal s :=
 kOp (fun _ => trivial) (by simp only [stepO, hx, St.obj, ho, if_true]; exact ⟨h, trivial⟩)
theorem kFadE {x : X} {off o id ver i : Nat} (hx : s.ev x = .c (.ept id ver i o)) (ho : (s.ob id).ver = ver) (h : kont P (.t r tags :: k) Q .normal (s.put d (.c (.ept id ver i (o + off))))) : kont P (.t (.op oi [] d none q (.fad x off) r) tags :: k) Q .normal s :=
 kOp (fun _ => trivial) (by simp only [stepO, hx]; exact ⟨h, ho⟩)
theorem kFadD {x : X} {off : Nat} {ds : List DV} (hx : s.ev x = .c (.dpt ds)) (h : kont P (.t r tags :: k) Q .normal (s.put d (.c (.dpt (ds.drop off))))) : kont P (.t (.op oi [] d none q (.fad x off) r) tags :: k) Q .normal s :=
 kOp (fun _ => trivial) (by simp only [stepO, hx]; exact h)
theorem kStoreP {n : Option Nat} {x v : X} {id ver ev off : Nat} {cs : List AC} {y : AV} (hx : s.ev x = .c (.ptr id ver off)) (hv : s.ev v = y) (ho : s.ob id = ⟨ver, ev, .box cs⟩)
  (hb : (!s.hold.contains id && y.cells.all s.live && decide (y.shape = n) && decide (0 < y.cells.length) && decide (off + y.cells.length ≤ cs.length)) = true)
  (h : kont P (.t r tags :: k) Q .normal ((s.setOb id ⟨ver, ev, .box (patch cs off y.cells)⟩).put d (.c .any))) : kont P (.t (.op oi [] d none q (.store n x v) r) tags :: k) Q .normal s :=
 kOp (fun _ => trivial) (by
  simp only [Bool.and_eq_true, decide_eq_true_eq, Bool.not_eq_true'] at hb
  obtain ⟨⟨⟨⟨h1, h2⟩, h3⟩, h4⟩, h5⟩ := hb
  simp only [stepO, storeA, hx, hv, St.obj, ho, if_true]
  exact ⟨by simpa using h1, h2, h3, h4, h5, h⟩)
theorem kExtC {x : X} {i : Nat} {l : List AV} {v : AV} (hx : s.ev x = .t l) (hv : l[i]? = some v) (h : kont P (.t r tags :: k) Q .normal (s.put d v)) : kont P (.t (.op oi [] d none q (.ext x i) r) tags :: k) Q .normal s :=
 kOp (fun _ => trivial) (by simp only [stepO, hx, hv]; exact h)
theorem kCutD {sz : Nat} {x : X} {lo hi : Option X} {y : DV} {a b : Nat} (hx : s.ev x = .c (.d y)) (hsl : y.isSl = true) (hsz : y.esz = sz)
  (hlo : lo.map s.ev = none ∧ a = 0 ∨ ∃ k, lo.map s.ev = some (.vv (.int k a))) (hhi : hi.map s.ev = none ∧ b = y.len ∨ ∃ k, hi.map s.ev = some (.vv (.int k b))) (hab : a ≤ b ∧ b ≤ y.len) (h : kont P (.t r tags :: k) Q .normal (s.put d (.dv (y.cut a b)))) :
  kont P (.t (.op oi [] d none q (.cut sz x lo hi) r) tags :: k) Q .normal s :=
 kOp (fun _ => trivial) (.inl (by simp only [cutA, hx, St.rd]; exact ⟨hsl, hsz, a, b, hlo, hhi, hab.1, hab.2, h⟩))
def nodupB : List Nat → Bool
 | [] => true
 | x :: xs => !xs.contains x && nodupB xs
theorem nodupB_sound : ∀ {l : List Nat}, nodupB l = true → l.Nodup
 | [], _ => List.nodup_nil
 | x :: xs, h => by
  simp only [nodupB, Bool.and_eq_true, Bool.not_eq_true'] at h
  exact List.nodup_cons.2 ⟨by simpa using h.1, nodupB_sound h.2⟩
def callB (s : St) (e : Nat) (avs : List AV) (gas : List GA) (clean : Bool) : Bool :=
 nodupB ((bindGs 0 avs gas).map (·.2.1)) && (bindGs 0 avs gas).all (fun b => !s.hold.contains b.2.1) &&
 ((stabGs s avs gas && (!looksGs avs gas || (bindGs 0 avs gas).isEmpty)) || (clean && (bindGs 0 avs gas).isEmpty)) && decide (gas.length ≤ 60) && s.hold.all (fun q => !(decide (rid e 0 ≤ q) && decide (q < rid e 4096)))
theorem kCall {e f : Nat} {args : List X} {gas : List GA} {R : List RA → Outs → Prop} (clean : Bool) (hok : FnOK P f gas R) (hm : matchGs P s (args.map s.ev) gas) (hb : callB s e (args.map s.ev) gas clean = true)
  (hc : clean = true → ∀ ra os, R ra os → ra.all RA.clean = true) (hl : ∀ ra os, R ra os → ra.length ≤ 64)
  (h : ∀ ra os, R ra os → kont P (.t r tags :: k) Q .normal ((s.after e ra (bindGs 0 (args.map s.ev) gas) os).put d (resV s e ra))) : kont P (.t (.op oi [] d none q (.call e f args) r) tags :: k) Q .normal s :=
 kOp (fun _ => trivial) (by
  simp only [callB, Bool.and_eq_true, Bool.or_eq_true, decide_eq_true_eq] at hb
  obtain ⟨⟨⟨⟨h1, h2⟩, h3⟩, h4⟩, h5⟩ := hb
  refine .inl ⟨gas, R, hok, hm, nodupB_sound h1, fun b hb' => by simpa using List.all_eq_true.1 h2 b hb', ?_, h4, hl, fun q h6 h7 h8 => ?_, h⟩
  ·rcases h3 with ⟨g1, g2⟩ | ⟨g1, g2⟩
   ·refine .inl ⟨g1, fun hk => ?_⟩
    rcases g2 with g2 | g2
    ·rw [hk] at g2; simp at g2
    ·simpa using g2
   ·exact .inr ⟨hc g1, by simpa using g2⟩
  ·have := List.all_eq_true.1 h5 q h8
   simp only [Bool.not_eq_true', Bool.and_eq_false_iff, decide_eq_false_iff_not] at this
   rcases this with h | h <;> omega)
theorem kCall1 {e f : Nat} {args : List X} {gas : List GA} {ra : List RA} (clean : Bool) (hok : FnOK P f gas (fun ra' _ => ra' = ra)) (hm : matchGs P s (args.map s.ev) gas) (hb : callB s e (args.map s.ev) gas clean = true)
  (hc : (!clean || ra.all RA.clean) = true) (hl : decide (ra.length ≤ 64) = true)
  (h : ∀ os, kont P (.t r tags :: k) Q .normal ((s.after e ra (bindGs 0 (args.map s.ev) gas) os).put d (resV s e ra))) : kont P (.t (.op oi [] d none q (.call e f args) r) tags :: k) Q .normal s :=
 kCall clean hok hm hb (fun hcl ra' _ e => by subst e; rw [hcl] at hc; simpa using hc) (fun ra' _ e => by subst e; simpa using hl) (fun ra' os e => by subst e; exact h os)
theorem kCallF {e f : Nat} {args : List X} {gas : List GA} {ra : List RA} {s' : St} (ids : List Nat) (clean : Bool) (hok : FnOK P f gas (fun ra' _ => ra' = ra)) (hf : frzL ids s = some s') (hm : matchGs P s' (args.map s'.ev) gas) (hb : callB s' e (args.map s'.ev) gas clean = true)
  (hc : (!clean || ra.all RA.clean) = true) (hl : decide (ra.length ≤ 64) = true)
  (h : ∀ os, kont P (.t r tags :: k) Q .normal ((s'.after e ra (bindGs 0 (args.map s'.ev) gas) os).put d (resV s' e ra))) : kont P (.t (.op oi [] d none q (.call e f args) r) tags :: k) Q .normal s :=
 kOp (fun _ => trivial) (by
  simp only [callB, Bool.and_eq_true, Bool.or_eq_true, decide_eq_true_eq] at hb
  obtain ⟨⟨⟨⟨h1, h2⟩, h3⟩, h4⟩, h5⟩ := hb
  refine .inr (.inr (.inl ⟨ids, s', hf, gas, fun ra' _ => ra' = ra, hok, hm, nodupB_sound h1, fun b hb' => by simpa using List.all_eq_true.1 h2 b hb', ?_, h4, fun ra' _ e => by subst e; simpa using hl, fun q h6 h7 h8 => ?_, fun ra' os e => by subst e; exact h os⟩))
  ·rcases h3 with ⟨g1, g2⟩ | ⟨g1, g2⟩
   ·refine .inl ⟨g1, fun hk => ?_⟩
    rcases g2 with g2 | g2
    ·rw [hk] at g2; simp at g2
    ·simpa using g2
   ·exact .inr ⟨fun ra' _ e => by subst e; rw [g1] at hc; simpa using hc, by simpa using g2⟩
  ·have := List.all_eq_true.1 h5 q h8
   simp only [Bool.not_eq_true', Bool.and_eq_false_iff, decide_eq_false_iff_not] at this
   rcases this with h | h <;> omega)
end
end Hearth

/- The abstract machine: states that say less. -/
namespace Hearth
open Go
def WkV (v v' : AV) : Prop := ∀ (P : Program) (w : World) (own : Nat → Nat → Prop) (hdr : Nat → Value) (ob : Nat → Ob) (u : Value), RS P w own hdr ob v u → RS P w own hdr ob v' u
theorem WkV.refl (v : AV) : WkV v v := fun _ _ _ _ _ _ h => h
theorem WkV.any (v : AV) : WkV v (.c .any) := fun _ _ _ _ _ _ _ => trivial
theorem WkV.nil (sz : Nat) : WkV (.c (.nil sz)) (.dv (.sl sz [])) := fun _ _ _ _ _ u h => by
 show Pers _ _ _ u
 rw [show u = .slice none 0 0 from h]
 exact .emp _ _ _
def tabSl : List (Nat × AV) → Nat → AV
 | [], _ => .c .any
 | (i, v) :: l, j => if j = i then v else tabSl l j
def chk (s : St) : List (Nat × AV) → Prop
 | [] => True
 | (i, v) :: l => WkV (s.sl i) v ∧ chk s l
theorem tab_wk {s : St} : ∀ {l : List (Nat × AV)}, chk s l → ∀ j, WkV (s.sl j) (tabSl l j)
 | [], _, j => .any _
 | (i, v) :: l, h, j => by
  simp only [tabSl]
  split
  ·rename_i e; rw [e]; exact h.1
  ·exact tab_wk h.2 j
theorem Sub.sl {s t : St} (ho : t.ob = s.ob) (h : ∀ j, WkV (s.sl j) (t.sl j)) : Sub s t := by
 rintro P N w0 own0 hdr0 a w ⟨own, hdr, r⟩
 refine ⟨own, hdr, r.n, r.defers, fun j => ?_, ?_, ?_, ?_, r.dis, r.lt, r.ext, ?_, r.new, by simp⟩
 ·rw [ho]; exact h j _ _ _ _ _ _ (r.tmps j)
 ·rw [ho]; exact r.objs
 ·rw [ho]; exact r.al
 ·rw [ho]; exact r.alv
 ·rw [ho]; exact r.zero
theorem Sub.tab {s : St} {l : List (Nat × AV)} {ob : Nat → Ob} {h : List Nat} (ho : ob = s.ob) (hc : chk s l) : Sub s ⟨tabSl l, ob, h⟩ := Sub.sl ho (tab_wk hc)
open Classical in
/-- Objects are forgotten. -/
theorem Sub.drop {s t : St} (hs : t.sl = s.sl) (h : ∀ id, t.ob id = s.ob id ∨ (id ≠ alien ∧ (t.ob id).k = .dead ∧ (s.ob id).ver < (t.ob id).ver)) : Sub s t := by
 rintro P N w0 own0 hdr0 a w ⟨own, hdr, r⟩
 let own' : Nat → Nat → Prop := fun id => if t.ob id = s.ob id then own id else fun _ => False
 let hdr' : Nat → Value := fun id => if t.ob id = s.ob id then hdr id else undef
 have hu : Upd own hdr s.ob w own' hdr' t.ob w (fun id => t.ob id ≠ s.ob id) := by
  refine ⟨fun hne => ?_, fun id hU => ?_, Ext.refl _ _, fun id hU b hb => ?_, fun i j b hi _ hb _ => ?_, fun id hU => ?_⟩
  ·rcases h alien with h | h
   ·exact hne h
   ·exact h.1 rfl
  ·have : t.ob id = s.ob id := Classical.not_not.1 hU
   simp only [own', hdr', if_pos this]
   exact ⟨trivial, trivial, this⟩
  ·simp only [own', if_neg hU] at hb
  ·simp only [own', if_neg hi] at hb
  ·rcases h id with h | ⟨_, _, h⟩
   ·exact absurd h hU
   ·exact ⟨Nat.le_of_lt h, fun e => by omega⟩
 have r' := (r.hold []).upd hu (by simp) (fun _ id hU => by
  rcases h id with h | ⟨_, hk, _⟩
  ·exact absurd h hU
  ·unfold RO
   rw [hk]
   simp [own', hdr', hU])
 refine ⟨own', hdr', r'.n, r'.defers, fun j => ?_, r'.objs, r'.al, r'.alv, r'.dis, r'.lt, r'.ext, r'.zero, r'.new, by simp⟩
 rw [hs]; exact r'.tmps j
theorem Sub.nilArr {s : St} {j id sz : Nat} (hj : s.sl j = .c (.nil sz)) (hid : id ≠ alien) : Sub s ⟨upd s.sl j (.c (.arr id ((s.ob id).ver + 1))), (s.newOb id (.arr true (.sl sz []))).ob, []⟩ := by
 rintro P N w0 own0 hdr0 a w ⟨own, hdr, r⟩
 have h := (r.hold []).make (id := id) (ids := []) (k := .arr true (.sl sz [])) (F := fun _ => False) (v := .slice none 0 0) (w' := w) ⟨hid, by simp⟩ (by simp) (by simp) (by simp) (Ext.refl _ _) (fun _ h => h.elim) (fun rc => by
  unfold RO
  rw [ob_new (by simp)]
  exact ⟨rfl, .inl ⟨rfl, by simp [hdrTo]⟩⟩)
 rw [St.kill_nil] at h
 refine ⟨_, _, (h.1.same (d := j) (x := .c (.arr id ((s.ob id).ver + 1))) ?_).hold []⟩
 have ht := r.tmps j
 rw [hj] at ht
 rw [show a.tmps.getD j undef = .slice none 0 0 from ht]
 simp only [RS, RV1, RC, St.newOb, St.setOb, upd_same]
 exact ⟨Nat.le_refl _, fun _ => by simp [hdrTo]⟩
theorem Sub.frz {s : St} {j id ver ev : Nat} {dp : Bool} {x : DV} (hj : s.sl j = .c (.arr id ver)) (ho : s.ob id = ⟨ver, ev, .arr dp x⟩) (hv : 0 < ver) : Sub s ⟨upd s.sl j (.dv x), upd s.ob id ⟨ver, ev + 1, .frz x⟩, []⟩ := by
 rintro P N w0 own0 hdr0 a w ⟨own, hdr, r⟩
 have ht := r.tmps j
 rw [hj] at ht
 have hv' := ht.2 (by rw [ho])
 obtain ⟨own', hdr', r', hp⟩ := (r.hold []).freeze (id := id) (dp := dp) (x := x) (by show (s.ob id).k = _; rw [ho]) (by simp) (by show 0 < (s.ob id).ver; rw [ho]; exact hv)
 have h2 := (r'.same (d := j) (x := .dv x) (by rw [hv']; exact hp)).hold []
 refine ⟨own', hdr', ?_⟩
 have : (s.ob id).ver = ver ∧ (s.ob id).ev = ev := by rw [ho]; exact ⟨rfl, rfl⟩
 have e : ({ s with hold := [] } : St).ob id = s.ob id := rfl
 simp only [St.put, St.setOb, e, this.1, this.2] at h2
 exact h2
def EndQ (gas : List GA) (slots : List RSl) (R : List RA → Outs → Prop) (e : Ex) (s : St) : Prop :=
 (∀ id, e ≠ .exit id) ∧ ∃ ra avs, R ra s.outs ∧ s.resAts slots = some avs ∧ EndOK gas avs ra s
theorem endRet {gas : List GA} {slots : List RSl} {R : List RA → Outs → Prop} {s : St} {ra : List RA} {avs : List AV} (h : s.resAts slots = some avs) (he : EndOK gas avs ra s) (hR : R ra s.outs) : EndQ gas slots R .ret s :=
 ⟨nofun, ra, avs, hR, h, he⟩
theorem endNormal {gas : List GA} {slots : List RSl} {R : List RA → Outs → Prop} {s : St} {ra : List RA} {avs : List AV} (h : s.resAts slots = some avs) (he : EndOK gas avs ra s) (hR : R ra s.outs) : EndQ gas slots R .normal s :=
 ⟨nofun, ra, avs, hR, h, he⟩
theorem FnOK.ofK {P : Program} {f : FuncId} {fn : Func} {c' : C} {loud : List Nat} {slots : List RSl} {gas : List GA} {R : List RA → Outs → Prop} (hf : P.funcs[f]? = some fn) (hname : (fn.name == "runtime.NumGoroutine") = false)
  (hd : fn.body.bind (digC P fn.ntmps loud) = some c') (hr : resSlots P fn = some slots) (hN : Nat.ble gas.length fn.ntmps = true) (h63 : Nat.ble gas.length 63 = true)
  (h : kont P [.c c'] (EndQ gas slots R) .normal (.init gas)) : FnOK P f gas R := by
 refine FnOK.of hf hname hd hr hN h63 ?_
 obtain ⟨t, h1, h2⟩ := h
 exact ⟨t, h1, (wpC_congr fun e s => by cases e <;> rfl).mp h2⟩
end Hearth
