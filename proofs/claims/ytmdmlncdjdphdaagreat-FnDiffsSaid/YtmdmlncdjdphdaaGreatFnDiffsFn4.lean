/- What the functions that FnDiffs reaches compute, one contract each; each with the bounds that it states. -/
import Derived.Test.YtmdmlncdjdphdaaGreatFnDiffsFn3
import Derived.Test.YtmdmlncdjdphdaaGreatProg
import Derived.KernelRfl
set_option maxRecDepth 100000
set_option maxHeartbeats 8000000
set_option linter.unusedVariables false
set_option linter.unusedSimpArgs false
namespace Go.Proofs.YtmdmlncdjdphdaaGreat.FnDiffsFn
open Go Hearth Go.Proofs

def c_spec_RrSame : C := (.g (.o 0 2 (.box 2 (.t 0)) (.o 1 3 (.box 3 (.t 1)) (.o 2 4 (.mov (.v (.bool false))) .done))) (.g (.o 0 5 (.load (some 7) (.t 2)) (.o 1 6 (.call 6 73 [(.t 5)]) (.o 2 7 (.mov (.t 6)) (.op 3 [] (some 8) (some (7, true)) false (.load (some 7) (.t 3)) (.op 4 [] (some 9) (some (7, true)) false (.call 9 73 [(.t 8)]) (.o 5 10 (.pick (.t 7) (.t 9) (.v (.bool false))) (.o 6 11 (.mov (.t 10)) (.op 7 [] (some 12) (some (11, true)) false (.load (some 7) (.t 2)) (.op 8 [] (some 13) (some (11, true)) false (.load (some 7) (.t 3)) (.op 9 [] (some 14) (some (11, true)) false (.call 14 75 [(.t 12), (.t 13)]) (.op 10 [] (some 15) (some (11, true)) false (.bin .eql (.t 14) (.i 0)) (.o 11 16 (.pick (.t 11) (.t 15) (.v (.bool false))) (.o 12 4 (.mov (.t 16)) .done))))))))))))) .ret))
theorem dg_spec_RrSame : Tryz.f61.body.bind (digC Tryz.prog Tryz.f61.ntmps []) = some c_spec_RrSame := by kernel_rfl
theorem rs_spec_RrSame : resSlots Tryz.prog Tryz.f61 = some [.s 4] := by kernel_rfl
theorem ok_spec_RrSame (a b : Rr) (ha : SmallR a) (hb : SmallR b) :
    FnOK Tryz.prog 61 [.agg (a.cells.map .d), .agg (b.cells.map .d)] (fun ra _ => ra = [.one (.d (.sc (.bool (sameR a b))))]) := by
  refine FnOK.ofK Tryz.func61 (by kernel_rfl) dg_spec_RrSame rs_spec_RrSame rfl rfl ?_
  delta c_spec_RrSame T.o X.i C.g
  refine Kbc (kBox Y Y Y Y Y (kBox Y Y Y Y Y (Ka Y (Kdb (Kc (Ke Y Y Y (Kp (ok_spec_RrOk _ pry) ⟨⟨⟨Y, Y, Y, Y, Y, Y, Y, trivial⟩, leb⟩, trivial⟩ Y Y Y Y Y (Ka Y (kGS Y (fun g0 => Ki Y (Ke Y Y Y (Ki Y (Kp (ok_spec_RrOk _ pry) ⟨⟨⟨Y, Y, Y, Y, Y, Y, Y, trivial⟩, leb⟩, trivial⟩ Y Y Y Y Y (Kk Y (Ka Y (Ka Y (kGS Y (fun g1 => Ki Y (Ke Y Y Y (Ki Y (Ke Y Y Y (Ki Y (Kp (ok_spec_l3cmp _ _ pry pry pry pry) ⟨⟨⟨Y, Y, Y, Y, Y, Y, Y, trivial⟩, leb⟩, ⟨⟨Y, Y, Y, Y, Y, Y, Y, trivial⟩, leb⟩, trivial⟩ Y Y Y Y Y (Ki Y (Kj Y Y Y (Kk Y (Ka Y (Ka Y (Kd (Kr (Er (ra := [.one (.d _)]) rfl ?_)))))))))))))) (fun g1 => Kg Y (Kg Y (Kg Y (Kg Y (Kl Y (Ka Y (Ka Y (Kd (Kr (Er (ra := [.one (.d _)]) rfl ?_)))))))))))))))))) (fun g0 => Kg Y (Kg Y (Kl Y (Ka Y (Ka Y (Kg Y (Kg Y (Kg Y (Kg Y (Kl Y (Ka Y (Ka Y (Kd (Kr (Er (ra := [.one (.d _)]) rfl ?_))))))))))))))))))))))))
  all_goals (refine congrArg (fun z : Bool => [RA.one (RV.d (DV.sc (Value.bool z)))]) ?_; rw [Bool.eq_iff_iff]; simp [sameR, *])

def c_laws_place : C := (.g (.o 0 3 (.box 3 (.t 1)) (.o 1 4 (.mov (.i 0)) .done)) (.seq (.g (.o 0 5 (.mov (.i 0)) .done) (.block 0 (.loop (.seq (.g (.o 0 6 (.mov (.t 5)) (.o 1 7 (.mov (.t 0)) (.o 2 8 (.len (.t 7)) (.o 3 9 (.bin .lss (.t 6) (.t 8)) .done)))) (.cond (.t 9) .skip (.exit 0))) (.seq (.block 1 (.seq (.reg true (.op 0 [] (some 12) none true (.mov (.t 0)) (.op 1 [] (some 13) none true (.mov (.t 5)) (.op 2 [] (some 14) none true (.iad 7 (.t 12) (.t 13)) (.op 3 [] (some 15) none true (.load (some 7) (.t 14)) (.op 4 [] (some 16) none true (.load (some 7) (.t 3)) (.op 5 [3, 4] (some 17) none false (.call 17 61 [(.t 15), (.t 16)]) .done))))))) (.cond (.t 17) (.g (.o 0 18 (.mov (.t 5)) (.o 1 4 (.mov (.t 18)) .done)) .ret) .skip))) (.reg false (.o 0 10 (.mov (.t 5)) (.o 1 11 (.bin .add (.t 10) (.i 1)) (.o 2 5 (.mov (.t 11)) .done))))))))) (.g (.o 0 4 (.mov (.i (-1))) .done) .ret)))
theorem dg_laws_place : Tryz.f38.body.bind (digC Tryz.prog Tryz.f38.ntmps []) = some c_laws_place := by kernel_rfl
theorem rs_laws_place : resSlots Tryz.prog Tryz.f38 = some [.s 4] := by kernel_rfl
theorem ok_laws_place (l : List Rr) (r : Rr) (hs : SmallRs l) (hr : SmallR r) :
    FnOK Tryz.prog 38 [.one (.d (encR l)), .agg (r.cells.map .d)] (fun ra _ => ra = [.one (.d (.sc (.int .i64 (idx (fun x => sameR x r) l))))]) := by
  refine FnOK.ofK Tryz.func38 (by kernel_rfl) dg_laws_place rs_laws_place rfl rfl ?_
  delta c_laws_place T.o X.i C.g
  have h1 := hs.len
  refine Kbc (kBox Y Y Y Y Y (Ka Y (Kdb (Kbc (Ka Y (Kd (Kt ?_)))))))
  refine kLoop (α := { i : Nat // i ≤ l.length ∧ ∀ x ∈ l.take i, sameR x r = false }) (fun y => ⟨tabSl [(0, .dv (encR l)), (3, .c (.ptr (rid 3 0) 1 0)), (5, .i y.1)], obTab 1 [(rid 3 0, ⟨1, 0, .box (r.cells.map .d)⟩)], []⟩) (fun y => l.length - y.1) ⟨0, by simp⟩ .normA ?_
  rintro ⟨i, hi, hno⟩
  simp only
  rcases Nat.lt_or_ge i l.length with hlt | hge
  · have hbi := hs.mem _ (List.getElem_mem hlt)
    cases hsame : sameR l[i] r
    · refine Kb (Kbc (Ka Y (Ka Y (Kq Y Y (Kj Y Y Y (Kd (Km Y (fun g0 => Kn (Kb (Kt (Kb (kRegD (Ka Y (Ka Y (kIadR Y Y Y prl (Ky Y Y (Ke Y Y Y (Ks Y Y (Kp (ok_spec_RrSame _ _ prx prx) ⟨⟨⟨Y, Y, Y, Y, Y, Y, Y, trivial⟩, leb⟩, ⟨⟨Y, Y, Y, Y, Y, Y, Y, trivial⟩, leb⟩, trivial⟩ Y Y Y Y Y (Kd (kH (kCond Y (fun g1 => (by (simp [*] at g1))) (fun g1 => Kn (Kv (Kc (Ka Y (kAdd Y Y om (Ka Y (Kd ?_)))))))))))))))))))))) (fun g0 => om))))))))
      refine kInv ⟨⟨i + 1, by omega, fun x hx => ?_⟩, by simp only; omega, .normA⟩
      rw [← List.take_append_getElem hlt] at hx
      rcases List.mem_append.1 hx with hx | hx
      · exact hno x hx
      · simp only [List.mem_singleton] at hx; rw [hx]; exact hsame
    · rw [idx_first hlt hno hsame]
      refine Kb (Kbc (Ka Y (Ka Y (Kq Y Y (Kj Y Y Y (Kd (Km Y (fun g0 => Kn (Kb (Kt (Kb (kRegD (Ka Y (Ka Y (kIadR Y Y Y prl (Ky Y Y (Ke Y Y Y (Ks Y Y (Kp (ok_spec_RrSame _ _ prx prx) ⟨⟨⟨Y, Y, Y, Y, Y, Y, Y, trivial⟩, leb⟩, ⟨⟨Y, Y, Y, Y, Y, Y, Y, trivial⟩, leb⟩, trivial⟩ Y Y Y Y Y (Kd (kH (kCond Y (fun g1 => Kbc (Ka Y (Ka Y (Kd (Kr (Er (ra := [.one (.d _)]) rfl rfl)))))) (fun g1 => (by (simp [*] at g1)))))))))))))))))) (fun g0 => om))))))))
  · rw [show idx (fun x => sameR x r) l = -1 from idx_none fun x hx => hno x (by rw [List.take_of_length_le (by omega)]; exact hx)]
    refine Kb (Kbc (Ka Y (Ka Y (Kq Y Y (Kj Y Y Y (Kd (Km Y (fun g0 => om) (fun g0 => kExit (kExC (kExI (kExB (Kbc (Ka Y (Kd (Kr (Er (ra := [.one (.d _)]) rfl rfl))))))))))))))))

def c_laws_sameRrs : C := (.g (.o 0 4 (.mov (.v (.bool false))) .done) (.seq (.g (.o 0 6 (.mov (.t 0)) (.o 1 7 (.len (.t 6)) (.o 2 8 (.mov (.t 1)) (.o 3 9 (.len (.t 8)) (.o 4 10 (.bin .neq (.t 7) (.t 9)) .done))))) (.cond (.t 10) (.g (.o 0 4 (.mov (.v (.bool false))) .done) .ret) .skip)) (.seq (.g (.o 0 5 (.mov (.i 0)) .done) (.block 0 (.loop (.seq (.g (.o 0 11 (.mov (.t 5)) (.o 1 12 (.mov (.t 0)) (.o 2 13 (.len (.t 12)) (.o 3 14 (.bin .lss (.t 11) (.t 13)) .done)))) (.cond (.t 14) .skip (.exit 0))) (.seq (.block 1 (.seq (.reg true (.op 0 [] (some 17) none true (.mov (.t 0)) (.op 1 [] (some 18) none true (.mov (.t 5)) (.op 2 [] (some 19) none true (.iad 7 (.t 17) (.t 18)) (.op 3 [] (some 20) none true (.load (some 7) (.t 19)) (.op 4 [] (some 21) none true (.mov (.t 1)) (.op 5 [] (some 22) none true (.mov (.t 5)) (.op 6 [] (some 23) none true (.iad 7 (.t 21) (.t 22)) (.op 7 [] (some 24) none true (.load (some 7) (.t 23)) (.op 8 [3, 7] (some 25) none false (.call 25 61 [(.t 20), (.t 24)]) (.op 9 [] (some 26) none true (.un .not (.t 25)) (.op 10 [] (some 27) none true (.mov (.t 26)) (.op 11 [] (some 28) (some (27, false)) true (.mov (.t 0)) (.op 12 [] (some 29) (some (27, false)) true (.mov (.t 5)) (.op 13 [] (some 30) (some (27, false)) true (.iad 7 (.t 28) (.t 29)) (.op 14 [] (some 31) (some (27, false)) true (.fad (.t 30) 2) (.op 15 [] (some 32) (some (27, false)) true (.load none (.t 31)) (.op 16 [] (some 33) (some (27, false)) true (.mov (.t 1)) (.op 17 [] (some 34) (some (27, false)) true (.mov (.t 5)) (.op 18 [] (some 35) (some (27, false)) true (.iad 7 (.t 33) (.t 34)) (.op 19 [] (some 36) (some (27, false)) true (.fad (.t 35) 2) (.op 20 [] (some 37) (some (27, false)) true (.load none (.t 36)) (.op 21 [] (some 38) (some (27, false)) true (.bin .neq (.t 32) (.t 37)) (.op 22 [] (some 39) none true (.pick (.t 27) (.v (.bool true)) (.t 38)) .done)))))))))))))))))))))))) (.cond (.t 39) (.g (.o 0 4 (.mov (.v (.bool false))) .done) .ret) .skip))) (.reg false (.o 0 15 (.mov (.t 5)) (.o 1 16 (.bin .add (.t 15) (.i 1)) (.o 2 5 (.mov (.t 16)) .done))))))))) (.g (.o 0 4 (.mov (.v (.bool true))) .done) .ret))))
theorem dg_laws_sameRrs : Tryz.f39.body.bind (digC Tryz.prog Tryz.f39.ntmps []) = some c_laws_sameRrs := by kernel_rfl
theorem rs_laws_sameRrs : resSlots Tryz.prog Tryz.f39 = some [.s 4] := by kernel_rfl
theorem ok_laws_sameRrs (a b : List Rr) (ha : SmallRs a) (hb : SmallRs b) :
    FnOK Tryz.prog 39 [.one (.d (encR a)), .one (.d (encR b))] (fun ra _ => ra = [.one (.d (.sc (.bool (sameRs a b))))]) := by
  refine FnOK.ofK Tryz.func39 (by kernel_rfl) dg_laws_sameRrs rs_laws_sameRrs rfl rfl ?_
  delta c_laws_sameRrs T.o X.i C.g
  have h1 := ha.len
  have h2 := hb.len
  by_cases hl : a.length = b.length
  case neg =>
    rw [show sameRs a b = false by unfold sameRs; simp [hl]]
    refine Kbc (Ka Y (Kdb (Kbc (Ka Y (Kq Y Y (Ka Y (Kq Y Y (Kj Y Y Y (Kd (kCondIN Y (fun g0 => Kbc (Ka Y (Kd (Kr (Er (ra := [.one (.d _)]) rfl rfl))))) (fun g0 => om)))))))))))
  refine Kbc (Ka Y (Kdb (Kbc (Ka Y (Kq Y Y (Ka Y (Kq Y Y (Kj Y Y Y (Kd (kCondIN Y (fun g0 => om) (fun g0 => Kn (Kb (Kbc (Ka Y (Kd (Kt ?_))))))))))))))))
  refine kLoop (α := { i : Nat // i ≤ a.length ∧ ∀ k < i, same1 a b k = true }) (fun y => ⟨tabSl [(0, .dv (encR a)), (1, .dv (encR b)), (5, .i y.1)], obTab 1 [], []⟩) (fun y => a.length - y.1) ⟨0, by simp⟩ .normA ?_
  rintro ⟨i, hi, hno⟩
  simp only
  rcases Nat.lt_or_ge i a.length with hlt | hge
  · have hbi := ha.mem _ (List.getElem_mem hlt)
    have hlt2 : i < b.length := by omega
    have hbi2 := hb.mem _ (List.getElem_mem hlt2)
    have hs1 := same1_eq hlt hlt2
    by_cases c1 : sameR a[i] b[i] = true ∧ a[i].ttl = b[i].ttl
    · obtain ⟨c2, c3⟩ := c1
      refine Kb (Kbc (Ka Y (Ka Y (Kq Y Y (Kj Y Y Y (Kd (Km Y (fun g0 => Kn (Kb (Kt (Kb (kRegD (Ka Y (Ka Y (kIadR Y Y Y prl (Ky Y Y (Ka Y (Ka Y (kIadR Y Y Y prl (Ky Y Y (Ks Y Y (Kp (ok_spec_RrSame _ _ prx prx) ⟨⟨⟨Y, Y, Y, Y, Y, Y, Y, trivial⟩, leb⟩, ⟨⟨Y, Y, Y, Y, Y, Y, Y, trivial⟩, leb⟩, trivial⟩ Y Y Y Y Y (Kw Y Y (Ka Y (kGN Y (fun g1 => (by (simp [*] at g1))) (fun g1 => Ki Y (Ka Y (Ki Y (Ka Y (Ki Y (kIadR Y Y Y prl (Ki Y (kFadD Y (Ki Y (Ky Y Y (Ki Y (Ka Y (Ki Y (Ka Y (Ki Y (kIadR Y Y Y prl (Ki Y (kFadD Y (Ki Y (Ky Y Y (Ki Y (Kj Y Y Y (Kl Y (Ka Y (Kd (kH (kCondIN Y (fun g2 => om) (fun g2 => Kn (Kv (Kc (Ka Y (kAdd Y Y om (Ka Y (Kd ?_)))))))))))))))))))))))))))))))))))))))))))))))))))) (fun g0 => om))))))))
      refine kInv ⟨⟨i + 1, by omega, fun k hk => ?_⟩, by simp only; omega, .normA⟩
      rcases Nat.lt_or_ge k i with h | h
      · exact hno k h
      · rw [show k = i by omega, hs1]; simp [c2, c3]
    · have hf : same1 a b i = false := by rw [hs1]; simpa using c1
      rw [show sameRs a b = false from sameRs_no hlt hf]
      have c4 : ¬ (sameR a[i] b[i] = true ∧ a[i].ttl = b[i].ttl) := c1
      refine Kb (Kbc (Ka Y (Ka Y (Kq Y Y (Kj Y Y Y (Kd (Km Y (fun g0 => Kn (Kb (Kt (Kb (kRegD (Ka Y (Ka Y (kIadR Y Y Y prl (Ky Y Y (Ka Y (Ka Y (kIadR Y Y Y prl (Ky Y Y (Ks Y Y (Kp (ok_spec_RrSame _ _ prx prx) ⟨⟨⟨Y, Y, Y, Y, Y, Y, Y, trivial⟩, leb⟩, ⟨⟨Y, Y, Y, Y, Y, Y, Y, trivial⟩, leb⟩, trivial⟩ Y Y Y Y Y (Kw Y Y (Ka Y (kGN Y (fun g1 => Kg Y (Kg Y (Kg Y (Kg Y (Kg Y (Kg Y (Kg Y (Kg Y (Kg Y (Kg Y (Kg Y (Kk Y (Ka Y (Kd (kH (kCondT Y (Kbc (Ka Y (Kd (Kr (Er (ra := [.one (.d _)]) rfl rfl))))))))))))))))))))) (fun g1 => Ki Y (Ka Y (Ki Y (Ka Y (Ki Y (kIadR Y Y Y prl (Ki Y (kFadD Y (Ki Y (Ky Y Y (Ki Y (Ka Y (Ki Y (Ka Y (Ki Y (kIadR Y Y Y prl (Ki Y (kFadD Y (Ki Y (Ky Y Y (Ki Y (Kj Y Y Y (Kl Y (Ka Y (Kd (kH (kCondIN Y (fun g2 => Kbc (Ka Y (Kd (Kr (Er (ra := [.one (.d _)]) rfl rfl))))) (fun g2 => Kn (Kv (Kc (Ka Y (kAdd Y Y om (Ka Y (Kd ?_)))))))))))))))))))))))))))))))))))))))))))))))))))) (fun g0 => om))))))))
      exact absurd ⟨by assumption, by assumption⟩ c4
  · have ht : sameRs a b = true := sameRs_yes hl fun k hk => hno k (by omega)
    rw [ht]
    refine Kb (Kbc (Ka Y (Ka Y (Kq Y Y (Kj Y Y Y (Kd (Km Y (fun g0 => om) (fun g0 => kExit (kExC (kExI (kExB (Kbc (Ka Y (Kd (Kr (Er (ra := [.one (.d _)]) rfl rfl))))))))))))))))

def rkey (r : Rr) : List (List UInt8) × Int × List UInt8 := (r.name, r.ty, rdata r)
theorem rkey_eq {a b : Rr} : cmpR a b = 0 ↔ rkey a = rkey b := by
  rw [cmpR_iff]; unfold rkey; simp only [Prod.mk.injEq]
theorem sub_len {α : Type} [DecidableEq α] : ∀ {l m : List α}, l.Nodup → (∀ x ∈ l, x ∈ m) → l.length ≤ m.length
  | [], _, _, _ => Nat.zero_le _
  | a :: l, m, h, hs => by
    rw [List.nodup_cons] at h
    have ha : a ∈ m := hs a List.mem_cons_self
    have := sub_len (m := m.erase a) h.2 (fun x hx => (List.mem_erase_of_ne (fun e : x = a => h.1 (by rw [← e]; exact hx))).2 (hs x (List.mem_cons_of_mem _ hx)))
    rw [List.length_erase_of_mem ha] at this
    have := List.length_pos_of_mem ha
    simp only [List.length_cons]
    omega
theorem sorted_keys {l : List Rr} (h : Sorted l) : (l.map rkey).Nodup := by
  unfold Sorted at h
  refine List.pairwise_map.2 (h.imp ?_)
  intro a b hab e
  have := rkey_eq.2 e
  omega
theorem memR_key {l : List Rr} {r : Rr} : memR l r = true ↔ rkey r ∈ l.map rkey := by
  unfold memR
  simp only [List.any_eq_true, beq_iff_eq, List.mem_map, rkey_eq]
  exact ⟨fun ⟨x, h1, h2⟩ => ⟨x, h1, h2.symm⟩, fun ⟨x, h1, h2⟩ => ⟨x, h1, h2.symm⟩⟩
theorem common_le {a b : List Rr} (ha : Sorted a) : (a.filter (memR b)).length ≤ (b.filter (memR a)).length := by
  have hn : ((a.filter (memR b)).map rkey).Nodup := List.Nodup.sublist (List.filter_sublist.map _) (sorted_keys ha)
  have := sub_len (m := (b.filter (memR a)).map rkey) hn (fun x hx => by
    simp only [List.mem_map, List.mem_filter] at hx ⊢
    obtain ⟨r, ⟨h1, h2⟩, rfl⟩ := hx
    have h3 := memR_key.1 h2
    rw [List.mem_map] at h3
    obtain ⟨s, h4, h5⟩ := h3
    exact ⟨s, ⟨h4, memR_key.2 (h5 ▸ List.mem_map_of_mem h1)⟩, h5⟩)
  simpa using this
theorem split_len {α : Type} (f : α → Bool) : ∀ l : List α, (l.filter f).length + (l.filter fun x => !f x).length = l.length
  | [] => rfl
  | a :: l => by
    have := split_len f l
    cases h : f a <;> simp [List.filter_cons, h] <;> omega
theorem diff_count {a b : Zone} (ha : Sorted a.rrs) (hb : Sorted b.rrs) : (a.rrs.length : Int) - (besideN a b).length = b.rrs.length - (besideN b a).length := by
  have h1 := split_len (memR b.rrs) a.rrs
  have h2 := split_len (memR a.rrs) b.rrs
  have h3 := common_le (b := b.rrs) ha
  have h4 := common_le (b := a.rrs) hb
  unfold besideN
  omega
def c_laws_FnDiffs : C := (.g (.o 0 2 (.mov (.v (.bool false))) .done) (.g (.o 0 13 (.mov (.t 0)) (.o 1 14 (.call 14 36 [(.t 13)]) (.o 2 12 (.mov (.t 14)) (.o 3 15 (.ext (.t 12) 0) (.o 4 16 (.ext (.t 12) 1) (.o 5 3 (.alloc 3 [(.n 1), (.n 7)]) (.o 6 4 (.alloc 4 [(.n 1), (.n 7)]) (.op 7 [] none none false (.store (some 2) (.t 3) (.t 15)) (.op 8 [] none none false (.store (some 2) (.t 4) (.t 16)) .done))))))))) (.g (.o 0 18 (.load (some 2) (.t 3)) (.o 1 19 (.load (some 2) (.t 4)) (.o 2 20 (.call 20 37 [(.t 18), (.t 19)]) (.o 3 17 (.mov (.t 20)) (.o 4 21 (.ext (.t 17) 0) (.o 5 22 (.ext (.t 17) 1) (.o 6 23 (.ext (.t 17) 2) (.o 7 5 (.mov (.t 21)) (.o 8 6 (.mov (.t 22)) (.o 9 7 (.mov (.t 23)) .done)))))))))) (.seq (.g (.o 0 24 (.mov (.t 7)) (.o 1 25 (.un .not (.t 24)) .done)) (.cond (.t 25) (.g (.o 0 26 (.mov (.t 5)) (.o 1 27 (.len (.t 26)) (.o 2 28 (.bin .eql (.t 27) (.i 0)) (.o 3 29 (.mov (.t 28)) (.op 4 [] (some 30) (some (29, true)) false (.mov (.t 6)) (.op 5 [] (some 31) (some (29, true)) false (.len (.t 30)) (.op 6 [] (some 32) (some (29, true)) false (.bin .eql (.t 31) (.i 0)) (.o 7 33 (.pick (.t 29) (.t 32) (.v (.bool false))) (.o 8 34 (.mov (.t 33)) (.op 9 [] (some 35) (some (34, true)) false (.call 35 15 []) (.o 10 36 (.pick (.t 34) (.t 35) (.v (.bool false))) (.o 11 2 (.mov (.t 36)) .done)))))))))))) .ret) .skip)) (.g (.o 0 38 (.load (some 2) (.t 4)) (.o 1 39 (.load (some 2) (.t 3)) (.o 2 40 (.call 40 37 [(.t 38), (.t 39)]) (.o 3 37 (.mov (.t 40)) (.o 4 41 (.ext (.t 37) 0) (.o 5 42 (.ext (.t 37) 1) (.o 6 43 (.ext (.t 37) 2) (.o 7 8 (.mov (.t 41)) (.o 8 9 (.mov (.t 42)) (.o 9 10 (.mov (.t 43)) .done)))))))))) (.seq (.g (.o 0 11 (.mov (.i 0)) .done) (.block 0 (.loop (.seq (.g (.o 0 44 (.mov (.t 11)) (.o 1 45 (.mov (.t 5)) (.o 2 46 (.len (.t 45)) (.o 3 47 (.bin .lss (.t 44) (.t 46)) .done)))) (.cond (.t 47) .skip (.exit 0))) (.seq (.block 1 (.seq (.reg true (.op 0 [] (some 50) none true (.fad (.t 3) 1) (.op 1 [] (some 51) none true (.load none (.t 50)) (.op 2 [] (some 52) none true (.mov (.t 5)) (.op 3 [] (some 53) none true (.mov (.t 11)) (.op 4 [] (some 54) none true (.iad 7 (.t 52) (.t 53)) (.op 5 [] (some 55) none true (.load (some 7) (.t 54)) (.op 6 [1, 5] (some 56) none false (.call 56 38 [(.t 51), (.t 55)]) (.op 7 [] (some 57) none true (.bin .lss (.t 56) (.i 0)) (.op 8 [] (some 58) none true (.mov (.t 57)) (.op 9 [] (some 59) (some (58, false)) true (.fad (.t 4) 1) (.op 10 [] (some 60) (some (58, false)) true (.load none (.t 59)) (.op 11 [] (some 61) (some (58, false)) true (.mov (.t 5)) (.op 12 [] (some 62) (some (58, false)) true (.mov (.t 11)) (.op 13 [] (some 63) (some (58, false)) true (.iad 7 (.t 61) (.t 62)) (.op 14 [] (some 64) (some (58, false)) true (.load (some 7) (.t 63)) (.op 15 [10, 1, 5, 14] (some 65) (some (58, false)) false (.call 65 38 [(.t 60), (.t 64)]) (.op 16 [] (some 66) (some (58, false)) true (.bin .geq (.t 65) (.i 0)) (.op 17 [] (some 67) none true (.pick (.t 58) (.v (.bool true)) (.t 66)) .done))))))))))))))))))) (.cond (.t 67) (.g (.o 0 2 (.mov (.v (.bool false))) .done) .ret) .skip))) (.reg false (.o 0 48 (.mov (.t 11)) (.o 1 49 (.bin .add (.t 48) (.i 1)) (.o 2 11 (.mov (.t 49)) .done))))))))) (.g (.o 0 68 (.mov (.t 8)) (.o 1 69 (.mov (.t 6)) (.o 2 70 (.call 70 39 [(.t 68), (.t 69)]) (.o 3 71 (.mov (.t 70)) (.op 4 [] (some 72) (some (71, true)) false (.mov (.t 9)) (.op 5 [] (some 73) (some (71, true)) false (.mov (.t 5)) (.op 6 [] (some 74) (some (71, true)) false (.call 74 39 [(.t 72), (.t 73)]) (.o 7 75 (.pick (.t 71) (.t 74) (.v (.bool false))) (.o 8 76 (.mov (.t 75)) (.op 9 [] (some 77) (some (76, true)) false (.fad (.t 3) 1) (.op 10 [] (some 78) (some (76, true)) false (.load none (.t 77)) (.op 11 [] (some 79) (some (76, true)) false (.len (.t 78)) (.op 12 [] (some 80) (some (76, true)) false (.mov (.t 5)) (.op 13 [] (some 81) (some (76, true)) false (.len (.t 80)) (.op 14 [] (some 82) (some (76, true)) false (.bin .sub (.t 79) (.t 81)) (.op 15 [] (some 83) (some (76, true)) false (.fad (.t 4) 1) (.op 16 [] (some 84) (some (76, true)) false (.load none (.t 83)) (.op 17 [] (some 85) (some (76, true)) false (.len (.t 84)) (.op 18 [] (some 86) (some (76, true)) false (.mov (.t 6)) (.op 19 [] (some 87) (some (76, true)) false (.len (.t 86)) (.op 20 [] (some 88) (some (76, true)) false (.bin .sub (.t 85) (.t 87)) (.op 21 [] (some 89) (some (76, true)) false (.bin .eql (.t 82) (.t 88)) (.o 22 90 (.pick (.t 76) (.t 89) (.v (.bool false))) (.o 23 2 (.mov (.t 90)) .done)))))))))))))))))))))))) .ret)))))))
theorem dg_laws_FnDiffs : Tryz.f6.body.bind (digC Tryz.prog Tryz.f6.ntmps []) = some c_laws_FnDiffs := by kernel_rfl
theorem rs_laws_FnDiffs : resSlots Tryz.prog Tryz.f6 = some [.s 2] := by kernel_rfl
theorem ok_laws_FnDiffs (code : List UInt8) (hb : (code.length : Int) ≤ 9223372036854775807) :
    FnOK Tryz.prog 6 [.one (.d (encB code))] (fun ra _ => ra = [.one (.d (.sc (.bool true)))]) := by
  refine FnOK.ofK Tryz.func6 (by kernel_rfl) dg_laws_FnDiffs rs_laws_FnDiffs rfl rfl ?_
  delta c_laws_FnDiffs T.o X.i C.g
  have hstopd20 := trivial
  refine Kbc (Ka Y (Kdb (Kc (Ka Y (kCallX false (ok_spec_DrawZoneDiff _ prx) ⟨Y, trivial⟩ Y (fun _ => rfl) (fun _ => rfl) (fun x0 _ hx0 => (kMovT Y (kExtC Y Y (kExtC Y Y (kAlloc Y Y (kAlloc Y Y (Ko Y Y Y Y (Ko Y Y Y Y (Kdb ?_))))))))))))))
  clear hstopd20
  obtain ⟨h1, h2⟩ := hx0
  generalize x0.1 = a at *
  generalize x0.2 = b at *
  have za := h1.r.len
  have zb := h2.r.len
  have ham := h1.r.mem
  have hbm := h2.r.mem
  have hrr := h1.r
  have hrs := h2.r
  have hno : (zoneOk a && zoneOk b) = false → diffN a b = [] ∧ diffN b a = [] := fun h => ⟨by unfold diffN; rw [if_neg (by rw [h]; decide)], by unfold diffN; rw [if_neg (by rw [Bool.and_comm, h]; decide)]⟩
  refine Kc (Ke Y Y Y (Ke Y Y Y (Ku true (ok_impl_ZoneDiff _ _ prx prx) ⟨⟨⟨Y, Y, trivial⟩, leb⟩, ⟨⟨Y, Y, trivial⟩, leb⟩, trivial⟩ Y Y Y (fun _ => (kMovT Y (kExtC Y Y (kExtC Y Y (kExtC Y Y (Ka Y (Ka Y (Ka Y (Kdb (Kbc (Ka Y (Kw Y Y (Kd (kCondN Y (fun g0 => Kbc (Ka Y (Kq Y Y (Kj Y Y Y (Ka Y (kGP Y (fun g1 => Ki Y (Ka Y (Ki Y (Kq Y Y (Ki Y (Kj Y Y Y (Kk Y (Ka Y (Ka Y (kGP Y (fun g2 => Ki Y (Kp (ok_laws_zones) trivial rfl rfl rfl rfl rfl (Kk Y (Ka Y (Ka Y (Kd (Kr (Er (ra := [.one (.d _)]) rfl rfl)))))))) (fun g2 => (by (simp [*] at g2))))))))))))) (fun g1 => (by (simp [*] at g1))))))))) (fun g0 => Kn (Kbc (Ke Y Y Y (Ke Y Y Y (Ku true (ok_impl_ZoneDiff _ _ prx prx) ⟨⟨⟨Y, Y, trivial⟩, leb⟩, ⟨⟨Y, Y, trivial⟩, leb⟩, trivial⟩ Y Y Y (fun _ => (kMovT Y (kExtC Y Y (kExtC Y Y (kExtC Y Y (Ka Y (Ka Y (Ka Y (Kdb (Kbc (Ka Y (Kd (Kt ?_)))))))))))))))))))))))))))))))))))
  have hz : zoneOk a = true ∧ zoneOk b = true := by simpa using (by assumption : (zoneOk a && zoneOk b) = true)
  have pa := zoneP.1 hz.1
  have pb := zoneP.1 hz.2
  have eG : diffN a b = besideN a b := by unfold diffN; rw [if_pos (by simp [hz])]
  have eC : diffN b a = besideN b a := by unfold diffN; rw [if_pos (by simp [hz])]
  have hcnt := diff_count pa.sorted pb.sorted
  rw [← eG, ← eC] at hcnt
  have hGm : ∀ r ∈ diffN a b, r ∈ a.rrs ∧ memR b.rrs r = false := fun r hr => by
    rw [eG] at hr; unfold besideN at hr; have := List.mem_filter.1 hr; exact ⟨this.1, by simpa using this.2⟩
  have hCm : ∀ r ∈ diffN b a, r ∈ b.rrs := fun r hr => by
    rw [eC] at hr; unfold besideN at hr; exact (List.mem_filter.1 hr).1
  have hGl : (diffN a b).length ≤ a.rrs.length := by rw [eG]; exact List.length_filter_le _ _
  have hCl : (diffN b a).length ≤ b.rrs.length := by rw [eC]; exact List.length_filter_le _ _
  generalize diffN a b = G at *
  generalize diffN b a = K at *
  have sG : SmallRs G := ⟨by omega, fun r hr => ham r (hGm r hr).1⟩
  have sK : SmallRs K := ⟨by omega, fun r hr => hbm r (hCm r hr)⟩
  have rG : sameRs G G = true := sameRs_refl fun r hr => pa.ok r (hGm r hr).1
  have rK : sameRs K K = true := sameRs_refl fun r hr => pb.ok r (hCm r hr)
  refine kSub (Sub.frz (j := 5) rfl rfl (leb)) ?_
  refine kSub (Sub.frz (j := 6) rfl rfl (leb)) ?_
  refine kSub (Sub.frz (j := 8) rfl rfl (leb)) ?_
  refine kSub (Sub.frz (j := 9) rfl rfl (leb)) ?_
  refine kLoop (α := { i : Nat // i ≤ G.length }) (fun y => ⟨tabSl [(2, .b false), (3, .c (.ptr (rid 3 0) 1 0)), (4, .c (.ptr (rid 4 0) 1 0)), (5, .dv (encR G)), (6, .dv (encR K)), (8, .dv (encR K)), (9, .dv (encR G)), (11, .i y.1)], obTab 1 [(rid 3 0, ⟨1, 0, .box (a.cells.map .d)⟩), (rid 4 0, ⟨1, 0, .box (b.cells.map .d)⟩)], []⟩) (fun y => G.length - y.1) ⟨0, Nat.zero_le _⟩ .normA ?_
  rintro ⟨i, hi⟩
  simp only
  rcases Nat.lt_or_ge i G.length with hlt | hge
  · have hm := hGm _ (List.getElem_mem hlt)
    have hs := ham _ hm.1
    have q1 : 0 ≤ idx (fun x => sameR x G[i]) a.rrs := idx_mem hm.1 (sameR_refl (pa.ok _ hm.1))
    have q2 : idx (fun x => sameR x G[i]) b.rrs = -1 := idx_none fun x hx => by
      have h3 := hm.2
      unfold memR at h3
      have h4 := List.any_eq_false.1 h3 x hx
      simp only [beq_iff_eq] at h4
      unfold sameR
      simp only [Bool.and_eq_false_iff, decide_eq_false_iff_not]
      exact .inr fun e => h4 (rkey_eq.2 (rkey_eq.1 e).symm)
    refine Kb (Kbc (Ka Y (Ka Y (Kq Y Y (Kj Y Y Y (Kd (Km Y (fun g0 => Kn (Kb (Kt (Kb (kRegD (Kf Y Y (Ke Y Y Y (Ka Y (Ka Y (kIadR Y Y Y prl (Ky Y Y (Ks Y Y (Kp (ok_laws_place _ _ prx prx) ⟨rfl, ⟨⟨Y, Y, Y, Y, Y, Y, Y, trivial⟩, leb⟩, trivial⟩ Y Y Y Y Y (Kj Y Y Y (Ka Y (kGP Y (fun g1 => om) (fun g1 => Ki Y (Kf Y Y (Ki Y (Ke Y Y Y (Ki Y (Ka Y (Ki Y (Ka Y (Ki Y (kIadR Y Y Y prl (Ki Y (Ky Y Y (Ks Y Y (Ki Y (Kp (ok_laws_place _ _ prx prx) ⟨rfl, ⟨⟨Y, Y, Y, Y, Y, Y, Y, trivial⟩, leb⟩, trivial⟩ Y Y Y Y Y (Ki Y (Kj Y Y Y (Kl Y (Ka Y (Kd (kH (Km Y (fun g2 => om) (fun g2 => Kn (Kv (Kc (Ka Y (kAdd Y Y om (Ka Y (Kd ?_))))))))))))))))))))))))))))))))))))))))))))) (fun g0 => om))))))))
    exact kInv ⟨⟨i + 1, hlt⟩, by simp only; omega, .normA⟩
  · have hcb : ((a.rrs.length : Int) - G.length == b.rrs.length - K.length) = true := by rw [beq_iff_eq]; exact hcnt
    rw [← beq_iff_eq] at hcnt
    refine Kb (Kbc (Ka Y (Ka Y (Kq Y Y (Kj Y Y Y (Kd (Km Y (fun g0 => om) (fun g0 => kExit (kExC (kExI (kExB (Kbc (Ka Y (Ka Y (Kp (ok_laws_sameRrs _ _ prx prx) ⟨Y, Y, trivial⟩ Y Y Y Y Y (Ka Y (kGS Y (fun g1 => Ki Y (Ka Y (Ki Y (Ka Y (Ki Y (Kp (ok_laws_sameRrs _ _ prx prx) ⟨Y, Y, trivial⟩ Y Y Y Y Y (Kk Y (Ka Y (Ka Y (kGS Y (fun g2 => Ki Y (Kf Y Y (Ki Y (Ke Y Y Y (Ki Y (Kq Y Y (Ki Y (Ka Y (Ki Y (Kq Y Y (Ki Y (kDif Y Y om (Ki Y (Kf Y Y (Ki Y (Ke Y Y Y (Ki Y (Kq Y Y (Ki Y (Ka Y (Ki Y (Kq Y Y (Ki Y (kDif Y Y om (Ki Y (Kj Y Y Y (Kk Y (Ka Y (Ka Y (Kd (Kr (Er (ra := [.one (.d _)]) rfl ?_)))))))))))))))))))))))))))))))) (fun g2 => Kg Y (Kg Y (Kg Y (Kg Y (Kg Y (Kg Y (Kg Y (Kg Y (Kg Y (Kg Y (Kg Y (Kg Y (Kg Y (Kl Y (Ka Y (Ka Y (Kd (Kr (Er (ra := [.one (.d _)]) rfl ?_))))))))))))))))))))))))))))) (fun g1 => Kg Y (Kg Y (Kg Y (Kl Y (Ka Y (Ka Y (Kg Y (Kg Y (Kg Y (Kg Y (Kg Y (Kg Y (Kg Y (Kg Y (Kg Y (Kg Y (Kg Y (Kg Y (Kg Y (Kl Y (Ka Y (Ka Y (Kd (Kr (Er (ra := [.one (.d _)]) rfl ?_))))))))))))))))))))))))))))))))))))))))))
    all_goals first
      | (rw [hcb])
      | (exfalso; simp_all)

end Go.Proofs.YtmdmlncdjdphdaaGreat.FnDiffsFn
