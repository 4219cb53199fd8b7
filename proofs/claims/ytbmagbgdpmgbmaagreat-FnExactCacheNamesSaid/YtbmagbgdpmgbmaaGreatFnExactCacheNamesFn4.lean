/- What the functions that FnExactCacheNames reaches compute, one contract each; each with the bounds that it states. -/
import Derived.Test.YtbmagbgdpmgbmaaGreatFnExactCacheNamesFn3
import Derived.Test.YtbmagbgdpmgbmaaGreatProg
import Derived.KernelRfl
set_option maxRecDepth 100000
set_option maxHeartbeats 8000000
set_option linter.unusedVariables false
set_option linter.unusedSimpArgs false
namespace Go.Proofs.YtbmagbgdpmgbmaaGreat.FnExactCacheNamesFn
open Go Hearth Go.Proofs

def c_laws_markByteSS : C := (.seq (.reg false (.o 0 4 (.mov (.i 0)) .done)) (.seq (.seq (.reg false (.o 0 5 (.mov (.i 0)) .done)) (.block 0 (.loop (.seq (.seq (.reg false (.o 0 6 (.mov (.t 5)) (.o 1 7 (.mov (.t 0)) (.o 2 8 (.len (.t 7)) (.o 3 9 (.bin .lss (.t 6) (.t 8)) .done))))) (.cond (.t 9) .skip (.exit 0))) (.seq (.block 1 (.reg false (.o 0 12 (.mov (.t 0)) (.o 1 13 (.mov (.t 5)) (.o 2 14 (.iad 1 (.t 12) (.t 13)) (.o 3 15 (.load none (.t 14)) (.o 4 16 (.mov (.t 1)) (.o 5 17 (.call 17 159 [(.t 15), (.t 16)]) (.o 6 1 (.mov (.t 17)) .done))))))))) (.reg false (.o 0 10 (.mov (.t 5)) (.o 1 11 (.bin .add (.t 10) (.i 1)) (.o 2 5 (.mov (.t 11)) .done))))))))) (.seq (.reg false (.o 0 18 (.mov (.t 1)) (.o 1 4 (.mov (.t 18)) .done))) .ret)))
theorem dg_laws_markByteSS : Tryz.f113.body.bind (digC Tryz.prog Tryz.f113.ntmps []) = some c_laws_markByteSS := by kernel_rfl
theorem rs_laws_markByteSS : resSlots Tryz.prog Tryz.f113 = some [.s 4] := by kernel_rfl
theorem ok_laws_markByteSS (a : List (List UInt8)) (k : Int) (h0 : 0 ≤ k) (hk : k + a.flatten.length ≤ 9223372036854775807) (hl : a.length ≤ 4194304) :
    FnOK Tryz.prog 113 [.one (.arr false true (encBB a)), .one (.d (.sc (.int .i64 k)))] (fun ra os => ra = [.one (.d (.sc (.int .i64 (k + a.flatten.length))))] ∧ os.a 0 = encBB (markss a k)) := by
  refine FnOK.ofK Tryz.func113 (by kernel_rfl) dg_laws_markByteSS rs_laws_markByteSS rfl rfl ?_
  delta c_laws_markByteSS T.o X.i
  refine kSeq (kReg (kMovC rfl (kDone ?_)))
  refine kSeq (kSeq (kReg (kMovC rfl (kDone (kBlock ?_)))))
  refine kLoop (α := { i : Nat // i ≤ a.length })
    (fun y => ⟨tabSl [(0, .c (.arr 0 0)), (1, .i (k + (a.take y.1).flatten.length)), (5, .i y.1)], upd (St.init [.one (.arr false true (encBB a)), .one (.d (.sc (.int .i64 k)))]).ob 0 ⟨0, y.1, .arr true (encBB (markss (a.take y.1) k ++ a.drop y.1))⟩, []⟩) (fun y => a.length - y.1) ⟨0, by simp⟩
    (.tab (upd_self rfl) ⟨.refl _, by simpa using .refl _, .refl _, trivial⟩) ?_
  rintro ⟨i, hi⟩
  simp only
  have hlen : (markss (a.take i) k).length = i := by rw [markss_len]; simp; omega
  have hlen' : (markss (a.take i) k ++ a.drop i).length = a.length := by simp [hlen]; omega
  refine kSeq (kSeq (kReg ?_))
  refine kMovC rfl (kMovC rfl (kLen rfl rfl rfl (kBin rfl rfl rfl (kDone ?_))))
  rw [len_encBB, hlen']
  refine kCond rfl (fun h1 => ?_) (fun h1 => ?_)
  · have hlt : i < a.length := by simp at h1; omega
    have hget : (markss (a.take i) k ++ a.drop i)[i]'(by omega) = a[i] := by
      rw [List.getElem_append_right (by omega)]; simp [hlen]
    have hat : (encBB (markss (a.take i) k ++ a.drop i)).at i 0 = encB a[i] := by rw [at_encBB _ _ (by omega), hget]
    have hfl : (a.take (i + 1)).flatten.length = (a.take i).flatten.length + a[i].length := by
      rw [← List.take_append_getElem hlt, List.flatten_append, List.length_append]; simp only [List.flatten_cons, List.flatten_nil, List.append_nil]
    have htot : (a.take (i + 1)).flatten.length ≤ a.flatten.length := by
      have := congrArg (fun l => (List.flatten l).length) (List.take_append_drop (i + 1) a)
      simp only [List.flatten_append, List.length_append] at this
      omega
    refine kSkip (kSeq (kBlock (kReg ?_)))
    refine kMovC rfl (kMovC rfl (kIadA rfl rfl rfl rfl ?_ ?_))
    · rw [len_encBB, hlen']; omega
    refine kLoadE rfl rfl (v := .c (.sub 0 0 i i 0)) ?_ (kMovC rfl ?_)
    · show pickCells none (AC.ofCells 0 0 i i 0 (((encBB (markss (a.take i) k ++ a.drop i)).row i).drop 0)) = _
      rw [row_encBB _ _ (by omega)]
      rfl
    refine kCallS (ok_laws_markByteS a[i] (k + (a.take i).flatten.length) (by omega) (by omega)) rfl ⟨⟨rfl, rfl, rfl, rfl, rfl, rfl, hat.symm, rfl⟩, rfl, trivial⟩ ?_ rfl ?_
    · simp [encBB, DV.rows, hlen]; omega
    rintro ra os ⟨rfl, ho⟩
    refine ⟨_, rfl, ?_⟩
    refine kMovC rfl (kDone (kBk ?_))
    refine kReg (kMovC rfl (kAdd rfl rfl ?_ (kMovC rfl (kDone (kInv ?_)))))
    · omega
    refine ⟨⟨i + 1, hlt⟩, by simp only; omega, .tab ?_ ⟨.refl _, ?_, .refl _, trivial⟩⟩
    · refine Eq.trans ?_ (upd_upd _ _ _ _).symm
      refine congrArg (upd _ _) ?_
      show _ = Ob.mk _ _ (OK.arr _ ((encBB (markss (a.take i) k ++ a.drop i)).setCell i 0 (os.a 0)))
      rw [ho, setCell_encBB _ _ _ (by omega), take_set_succ _ _ _ _ hlt hlen, ← List.take_append_getElem hlt, markss_append]
    · show WkV (.i (k + ((a.take i).flatten.length : Int) + a[i].length)) (.i (k + ((a.take (i + 1)).flatten.length : Int)))
      rw [hfl, show k + (((a.take i).flatten.length + a[i].length : Nat) : Int) = k + ((a.take i).flatten.length : Int) + a[i].length by omega]
      exact .refl _
  · refine kExit (kExC (kExI (kExB ?_)))
    have hge : i = a.length := by simp at h1; omega
    subst hge
    refine kSeq (kReg (kMovC rfl (kMovC rfl (kDone (kRet ?_)))))
    refine endRet (ra := [.one (.d _)]) rfl ⟨⟨⟨rfl, .inl rfl⟩, trivial⟩, .nil, ⟨rfl, fun _ => rfl, rfl⟩, trivial, trivial⟩ ?_
    refine ⟨by simp, ?_⟩
    show encBB (markss (a.take a.length) k ++ a.drop a.length) = _
    simp

def c_laws_markIntS : C := (.seq (.reg false (.o 0 4 (.mov (.i 0)) .done)) (.seq (.seq (.reg false (.o 0 5 (.mov (.i 0)) .done)) (.block 0 (.loop (.seq (.seq (.reg false (.o 0 6 (.mov (.t 5)) (.o 1 7 (.mov (.t 0)) (.o 2 8 (.len (.t 7)) (.o 3 9 (.bin .lss (.t 6) (.t 8)) .done))))) (.cond (.t 9) .skip (.exit 0))) (.seq (.block 1 (.seq (.reg false (.o 0 12 (.mov (.t 0)) (.o 1 13 (.mov (.t 5)) (.o 2 14 (.mov (.t 1)) (.o 3 15 (.iad 1 (.t 12) (.t 13)) (.op 4 [] none none false (.store none (.t 15) (.t 14)) .done)))))) (.reg false (.o 0 16 (.mov (.t 1)) (.o 1 17 (.bin .add (.t 16) (.i 1)) (.o 2 1 (.mov (.t 17)) .done)))))) (.reg false (.o 0 10 (.mov (.t 5)) (.o 1 11 (.bin .add (.t 10) (.i 1)) (.o 2 5 (.mov (.t 11)) .done))))))))) (.seq (.reg false (.o 0 18 (.mov (.t 1)) (.o 1 4 (.mov (.t 18)) .done))) .ret)))
theorem dg_laws_markIntS : Tryz.f130.body.bind (digC Tryz.prog Tryz.f130.ntmps []) = some c_laws_markIntS := by kernel_rfl
theorem rs_laws_markIntS : resSlots Tryz.prog Tryz.f130 = some [.s 4] := by kernel_rfl
theorem ok_laws_markIntS (a : List Int) (k : Int) (h0 : 0 ≤ k) (hk : k + a.length ≤ 9223372036854775807) :
    FnOK Tryz.prog 130 [.one (.arr false true (encI a)), .one (.d (.sc (.int .i64 k)))] (fun ra os => ra = [.one (.d (.sc (.int .i64 (k + a.length))))] ∧ os.a 0 = encI (marksI a.length k)) := by
  refine FnOK.ofK Tryz.func130 (by kernel_rfl) dg_laws_markIntS rs_laws_markIntS rfl rfl ?_
  delta c_laws_markIntS T.o X.i
  refine kSeq (kReg (kMovC rfl (kDone (kSeq (kSeq (kReg (kMovC rfl (kDone (kBlock ?_)))))))))
  refine kLoop (α := { i : Nat // i ≤ a.length })
    (fun y => ⟨tabSl [(0, .c (.arr 0 0)), (1, .i (k + (y.1 : Int))), (5, .i y.1)], upd (St.init [.one (.arr false true (encI a)), .one (.d (.sc (.int .i64 k)))]).ob 0 ⟨0, y.1, .arr true (encI (marksI y.1 k ++ a.drop y.1))⟩, []⟩) (fun y => a.length - y.1) ⟨0, by simp⟩
    (.tab (upd_self rfl) ⟨.refl _, by simpa using .refl _, .refl _, trivial⟩) ?_
  rintro ⟨i, hi⟩
  simp only
  have hlen : (marksI i k ++ a.drop i).length = a.length := by simp [marksI_len]; omega
  rcases Nat.lt_or_ge i a.length with hlt | hge
  · refine kSeq (kSeq (kReg (kMovC rfl (kMovC rfl (kLenR rfl rfl (kBin rfl rfl rfl (kDone (kCondP rfl (fun g0 => kSkip (kSeq (kBlock (kSeq (kReg (kMovC rfl (kMovC rfl (kMovC rfl (kIadAR rfl rfl rfl rfl (by omega) (kStoreER rfl rfl rfl rfl rfl rfl rfl (by omega) rfl (kDone (kReg (kMovC rfl (kAdd rfl rfl (by omega) (kMovC rfl (kDone (kBk (kReg (kMovC rfl (kAdd rfl rfl (by omega) (kMovC rfl (kDone ?_)))))))))))))))))))))) (fun g0 => (by omega))))))))))
    refine kInv ⟨⟨i + 1, hlt⟩, by simp only; omega, .tab ?_ ⟨.refl _, ?_, .refl _, trivial⟩⟩
    · show _ = upd (upd _ 0 _) 0 _
      rw [upd_upd]
      refine congrArg (upd _ _) ?_
      rw [marksI_succ]
      exact congrArg (fun z => Ob.mk 0 (i + 1) (OK.arr true (encI z))) (take_set_succ _ _ _ _ hlt (marksI_len i k)).symm
    · show WkV (.i (k + i + 1)) (.i (k + ((i + 1 : Nat) : Int)))
      rw [show k + ((i + 1 : Nat) : Int) = k + i + 1 by omega]
      exact .refl _
  · refine kSeq (kSeq (kReg (kMovC rfl (kMovC rfl (kLenR rfl rfl (kBin rfl rfl rfl (kDone (kCondP rfl (fun g0 => (by omega)) (fun g0 => kExit (kExC (kExI (kExB (kSeq (kReg (kMovC rfl (kMovC rfl (kDone (kRet (endRetA (ra := [.one (.d _)]) rfl ?_)))))))))))))))))))
    obtain rfl : i = a.length := by omega
    refine ⟨rfl, ?_⟩
    show encI (marksI a.length k ++ a.drop a.length) = _
    simp

def c_laws_markRrS : C := (.seq (.reg false (.o 0 4 (.mov (.i 0)) .done)) (.seq (.seq (.reg false (.o 0 5 (.mov (.i 0)) .done)) (.block 0 (.loop (.seq (.seq (.reg false (.o 0 6 (.mov (.t 5)) (.o 1 7 (.mov (.t 0)) (.o 2 8 (.len (.t 7)) (.o 3 9 (.bin .lss (.t 6) (.t 8)) .done))))) (.cond (.t 9) .skip (.exit 0))) (.seq (.block 1 (.seq (.reg false (.o 0 12 (.mov (.t 0)) (.o 1 13 (.mov (.t 5)) (.o 2 14 (.iad 7 (.t 12) (.t 13)) (.o 3 15 (.fad (.t 14) 0) (.o 4 16 (.fad (.t 15) 0) (.o 5 17 (.load none (.t 16)) (.o 6 18 (.mov (.t 1)) (.o 7 19 (.call 19 113 [(.t 17), (.t 18)]) (.o 8 1 (.mov (.t 19)) .done)))))))))) (.seq (.reg false (.o 0 20 (.mov (.t 0)) (.o 1 21 (.mov (.t 5)) (.o 2 22 (.mov (.t 1)) (.o 3 23 (.iad 7 (.t 20) (.t 21)) (.o 4 24 (.fad (.t 23) 1) (.op 5 [] none none false (.store none (.t 24) (.t 22)) .done))))))) (.seq (.reg false (.o 0 25 (.mov (.t 1)) (.o 1 26 (.bin .add (.t 25) (.i 1)) (.o 2 1 (.mov (.t 26)) .done)))) (.seq (.reg false (.o 0 27 (.mov (.t 0)) (.o 1 28 (.mov (.t 5)) (.o 2 29 (.mov (.t 1)) (.o 3 30 (.iad 7 (.t 27) (.t 28)) (.o 4 31 (.fad (.t 30) 2) (.op 5 [] none none false (.store none (.t 31) (.t 29)) .done))))))) (.seq (.reg false (.o 0 32 (.mov (.t 1)) (.o 1 33 (.bin .add (.t 32) (.i 1)) (.o 2 1 (.mov (.t 33)) .done)))) (.seq (.reg false (.o 0 34 (.mov (.t 0)) (.o 1 35 (.mov (.t 5)) (.o 2 36 (.mov (.t 1)) (.o 3 37 (.iad 7 (.t 34) (.t 35)) (.o 4 38 (.fad (.t 37) 3) (.op 5 [] none none false (.store none (.t 38) (.t 36)) .done))))))) (.seq (.reg false (.o 0 39 (.mov (.t 1)) (.o 1 40 (.bin .add (.t 39) (.i 1)) (.o 2 1 (.mov (.t 40)) .done)))) (.seq (.reg false (.o 0 41 (.mov (.t 0)) (.o 1 42 (.mov (.t 5)) (.o 2 43 (.iad 7 (.t 41) (.t 42)) (.o 3 44 (.fad (.t 43) 4) (.o 4 45 (.fad (.t 44) 0) (.o 5 46 (.load none (.t 45)) (.o 6 47 (.mov (.t 1)) (.o 7 48 (.call 48 113 [(.t 46), (.t 47)]) (.o 8 1 (.mov (.t 48)) .done)))))))))) (.seq (.reg false (.o 0 49 (.mov (.t 0)) (.o 1 50 (.mov (.t 5)) (.o 2 51 (.iad 7 (.t 49) (.t 50)) (.o 3 52 (.fad (.t 51) 5) (.o 4 53 (.load none (.t 52)) (.o 5 54 (.mov (.t 1)) (.o 6 55 (.call 55 159 [(.t 53), (.t 54)]) (.o 7 1 (.mov (.t 55)) .done))))))))) (.reg false (.o 0 56 (.mov (.t 0)) (.o 1 57 (.mov (.t 5)) (.o 2 58 (.iad 7 (.t 56) (.t 57)) (.o 3 59 (.fad (.t 58) 6) (.o 4 60 (.load none (.t 59)) (.o 5 61 (.mov (.t 1)) (.o 6 62 (.call 62 130 [(.t 60), (.t 61)]) (.o 7 1 (.mov (.t 62)) .done))))))))))))))))))) (.reg false (.o 0 10 (.mov (.t 5)) (.o 1 11 (.bin .add (.t 10) (.i 1)) (.o 2 5 (.mov (.t 11)) .done))))))))) (.seq (.reg false (.o 0 63 (.mov (.t 1)) (.o 1 4 (.mov (.t 63)) .done))) .ret)))
theorem dg_laws_markRrS : Tryz.f62.body.bind (digC Tryz.prog Tryz.f62.ntmps []) = some c_laws_markRrS := by kernel_rfl
theorem rs_laws_markRrS : resSlots Tryz.prog Tryz.f62 = some [.s 4] := by kernel_rfl
theorem ok_laws_markRrS (l : List Rr) (k : Int) (h0 : 0 ≤ k) (hk : k + cntRs l ≤ 9223372036854775807) (hs : SmallRs l) :
    FnOK Tryz.prog 62 [.one (.arr false true (encR l)), .one (.d (.sc (.int .i64 k)))] (fun ra os => ra = [.one (.d (.sc (.int .i64 (k + cntRs l))))] ∧ os.a 0 = encR (markRs l k)) := by
  refine FnOK.ofK Tryz.func62 (by kernel_rfl) dg_laws_markRrS rs_laws_markRrS rfl rfl ?_
  delta c_laws_markRrS T.o X.i
  have h1 := hs.len
  refine kSeq (kReg (kMovC rfl (kDone (kSeq (kSeq (kReg (kMovC rfl (kDone (kBlock ?_)))))))))
  generalize hF : (St.init [.one (.arr false true (encR l)), .one (.d (.sc (.int .i64 k)))]).ob = F
  refine kLoop (α := { i : Nat // i ≤ l.length })
    (fun y => ⟨tabSl [(0, .c (.arr 0 0)), (1, .i (k + (cntRs (l.take y.1) : Int))), (5, .i y.1)], upd F 0 ⟨0, 7 * y.1, .arr true (encR (markRs (l.take y.1) k ++ l.drop y.1))⟩, []⟩) (fun y => l.length - y.1) ⟨0, by simp⟩
    (.tab (by subst hF; exact upd_self rfl) ⟨.refl _, by simpa using .refl _, .refl _, trivial⟩) ?_
  rintro ⟨i, hi⟩
  simp only
  have hlen : (markRs (l.take i) k).length = i := by rw [markRs_len]; simp; omega
  have hlen' : (markRs (l.take i) k ++ l.drop i).length = l.length := by simp [hlen]; omega
  have hle := cntRs_le l i
  have hle2 := cntRs_le l (i + 1)
  rcases Nat.lt_or_ge i l.length with hlt | hge
  · have hbi := hs.mem _ (List.getElem_mem hlt)
    have hsuc := cntRs_take l i hlt
    have hget : (markRs (l.take i) k ++ l.drop i)[i]'(by omega) = l[i] := by
      rw [List.getElem_append_right (by omega)]; simp [hlen]
    have hset := set_self (markRs (l.take i) k ++ l.drop i) i (by omega)
    rw [hget] at hset
    have hfin : ∀ R : Rr, R = markR l[i] (k + cntRs (l.take i)) → (markRs (l.take i) k ++ l.drop i).set i R = markRs (l.take (i + 1)) k ++ l.drop (i + 1) := by
      rintro R rfl
      rw [take_set_succ _ _ _ _ hlt hlen, ← List.take_append_getElem hlt, markRs_append]
    have hc : cntR l[i] = l[i].name.flatten.length + 3 + l[i].to.flatten.length + l[i].text.length + l[i].nums.length := rfl
    clear hget
    revert hset hfin hlen'
    generalize markRs (l.take i) k ++ l.drop i = L
    generalize hr : l[i] = r at hc hbi hsuc
    generalize hK : k + (cntRs (l.take i) : Int) = K
    intro hlen' hset hfin
    have n1 := hbi.n.len
    have t1 := hbi.t.len
    have x1 := hbi.x
    have m1 := hbi.m
    have hiL : i < L.length := by omega
    have hKn : 0 ≤ K := by omega
    have hKm : K + cntR r ≤ 9223372036854775807 := by omega
    refine kSub (t := ⟨tabSl [(0, .c (.arr 0 0)), (1, .i (K)), (5, .i i)], upd F 0 ⟨0, 7 * i, .arr true (encR (L.set i r))⟩, []⟩) (.tab (by rw [hset]) ⟨.refl _, .refl _, .refl _, trivial⟩) ?_
    refine kSeq (kSeq (kReg (kMovC rfl (kMovC rfl (kLen rfl rfl rfl (kBin rfl rfl rfl (kDone ?_)))))))
    rw [len_encR, List.length_set]
    refine kCond rfl (fun h1 => ?_) (fun h1 => by exfalso; simp at h1; omega)
    refine kSkip (kSeq (kBlock ?_))
    refine kSeq (kReg ?_)
    refine kMovC rfl (kMovC rfl (kIadA rfl rfl rfl rfl ?_ ?_))
    · rw [len_encR, List.length_set]; omega
    refine kFadE rfl rfl (kFadE rfl rfl (?_))
    refine kLoadE rfl rfl (v := .c (.sub 0 0 (7 * i) i 0)) ?_ (kMovC rfl ?_)
    · show pickCells none (AC.ofCells 0 0 (7 * i) i 0 (((encR (L.set i ⟨r.name, r.ty, r.ttl, r.addr, r.to, r.text, r.nums⟩)).row i).drop 0)) = _
      rw [row_encRS _ _ _ hiL]
      rfl
    refine kCallS (ok_laws_markByteSS r.name K (by omega) (by omega) n1) rfl ⟨⟨rfl, rfl, rfl, rfl, rfl, rfl, (at_encRS L i 0 ⟨r.name, r.ty, r.ttl, r.addr, r.to, r.text, r.nums⟩ hiL).symm, rfl⟩, rfl, trivial⟩ ?_ rfl ?_
    · simp [encR, DV.rows]; omega
    rintro ra os ⟨rfl, ho⟩
    refine ⟨_, rfl, ?_⟩
    refine kMovC rfl (kDone ?_)
    refine kSub (t := ⟨tabSl [(0, .c (.arr 0 0)), (1, .i (K + (r.name.flatten.length : Int))), (5, .i i)], upd F 0 ⟨0, (7 * i + 1), .arr true (encR (L.set i ⟨markss r.name (K), r.ty, r.ttl, r.addr, r.to, r.text, r.nums⟩))⟩, []⟩) (.tab ?_ ⟨.refl _, .refl _, .refl _, trivial⟩) ?_
    · refine Eq.trans ?_ (upd_upd _ _ _ _).symm
      refine congrArg (upd _ _) ?_
      show _ = Ob.mk _ _ (OK.arr _ ((encR (L.set i ⟨r.name, r.ty, r.ttl, r.addr, r.to, r.text, r.nums⟩)).setCell i 0 (os.a 0)))
      rw [ho, setCell_encRS L i 0 ⟨r.name, r.ty, r.ttl, r.addr, r.to, r.text, r.nums⟩ ⟨markss r.name (K), r.ty, r.ttl, r.addr, r.to, r.text, r.nums⟩ _ hiL rfl]
      try rfl
    refine kSeq (kReg ?_)
    refine kMovC rfl (kMovC rfl (kMovC rfl (kIadA rfl rfl rfl rfl ?_ (kFadE rfl rfl ?_))))
    · rw [len_encR, List.length_set]; omega
    refine kStoreE1 rfl rfl rfl rfl (by simp [encR, DV.esz]) (kDone ?_)
    refine kSub (t := ⟨tabSl [(0, .c (.arr 0 0)), (1, .i (K + (r.name.flatten.length : Int))), (5, .i i)], upd F 0 ⟨0, (7 * i + 2), .arr true (encR (L.set i ⟨markss r.name (K), (K + (r.name.flatten.length : Int)), r.ttl, r.addr, r.to, r.text, r.nums⟩))⟩, []⟩) (.tab ?_ ⟨.refl _, .refl _, .refl _, trivial⟩) ?_
    · refine Eq.trans ?_ (upd_upd _ _ _ _).symm
      refine congrArg (upd _ _) ?_
      show _ = Ob.mk _ _ (OK.arr _ (setRow (encR (L.set i ⟨markss r.name (K), r.ty, r.ttl, r.addr, r.to, r.text, r.nums⟩)) i 1 _))
      rw [setRow_encRS L i 1 ⟨markss r.name (K), r.ty, r.ttl, r.addr, r.to, r.text, r.nums⟩ ⟨markss r.name (K), (K + (r.name.flatten.length : Int)), r.ttl, r.addr, r.to, r.text, r.nums⟩ _ hiL rfl]
      try rfl
    refine kSeq (kReg (kMovC rfl (kAdd rfl rfl (by omega) (kMovC rfl (kDone ?_)))))
    refine kSeq (kReg ?_)
    refine kMovC rfl (kMovC rfl (kMovC rfl (kIadA rfl rfl rfl rfl ?_ (kFadE rfl rfl ?_))))
    · rw [len_encR, List.length_set]; omega
    refine kStoreE1 rfl rfl rfl rfl (by simp [encR, DV.esz]) (kDone ?_)
    refine kSub (t := ⟨tabSl [(0, .c (.arr 0 0)), (1, .i (K + (r.name.flatten.length : Int) + 1)), (5, .i i)], upd F 0 ⟨0, (7 * i + 3), .arr true (encR (L.set i ⟨markss r.name (K), (K + (r.name.flatten.length : Int)), (K + (r.name.flatten.length : Int) + 1), r.addr, r.to, r.text, r.nums⟩))⟩, []⟩) (.tab ?_ ⟨.refl _, .refl _, .refl _, trivial⟩) ?_
    · refine Eq.trans ?_ (upd_upd _ _ _ _).symm
      refine congrArg (upd _ _) ?_
      show _ = Ob.mk _ _ (OK.arr _ (setRow (encR (L.set i ⟨markss r.name (K), (K + (r.name.flatten.length : Int)), r.ttl, r.addr, r.to, r.text, r.nums⟩)) i 2 _))
      rw [setRow_encRS L i 2 ⟨markss r.name (K), (K + (r.name.flatten.length : Int)), r.ttl, r.addr, r.to, r.text, r.nums⟩ ⟨markss r.name (K), (K + (r.name.flatten.length : Int)), (K + (r.name.flatten.length : Int) + 1), r.addr, r.to, r.text, r.nums⟩ _ hiL rfl]
      try rfl
    refine kSeq (kReg (kMovC rfl (kAdd rfl rfl (by omega) (kMovC rfl (kDone ?_)))))
    refine kSeq (kReg ?_)
    refine kMovC rfl (kMovC rfl (kMovC rfl (kIadA rfl rfl rfl rfl ?_ (kFadE rfl rfl ?_))))
    · rw [len_encR, List.length_set]; omega
    refine kStoreE1 rfl rfl rfl rfl (by simp [encR, DV.esz]) (kDone ?_)
    refine kSub (t := ⟨tabSl [(0, .c (.arr 0 0)), (1, .i (K + (r.name.flatten.length : Int) + 1 + 1)), (5, .i i)], upd F 0 ⟨0, (7 * i + 4), .arr true (encR (L.set i ⟨markss r.name (K), (K + (r.name.flatten.length : Int)), (K + (r.name.flatten.length : Int) + 1), (K + (r.name.flatten.length : Int) + 1 + 1), r.to, r.text, r.nums⟩))⟩, []⟩) (.tab ?_ ⟨.refl _, .refl _, .refl _, trivial⟩) ?_
    · refine Eq.trans ?_ (upd_upd _ _ _ _).symm
      refine congrArg (upd _ _) ?_
      show _ = Ob.mk _ _ (OK.arr _ (setRow (encR (L.set i ⟨markss r.name (K), (K + (r.name.flatten.length : Int)), (K + (r.name.flatten.length : Int) + 1), r.addr, r.to, r.text, r.nums⟩)) i 3 _))
      rw [setRow_encRS L i 3 ⟨markss r.name (K), (K + (r.name.flatten.length : Int)), (K + (r.name.flatten.length : Int) + 1), r.addr, r.to, r.text, r.nums⟩ ⟨markss r.name (K), (K + (r.name.flatten.length : Int)), (K + (r.name.flatten.length : Int) + 1), (K + (r.name.flatten.length : Int) + 1 + 1), r.to, r.text, r.nums⟩ _ hiL rfl]
      try rfl
    refine kSeq (kReg (kMovC rfl (kAdd rfl rfl (by omega) (kMovC rfl (kDone ?_)))))
    refine kSeq (kReg ?_)
    refine kMovC rfl (kMovC rfl (kIadA rfl rfl rfl rfl ?_ ?_))
    · rw [len_encR, List.length_set]; omega
    refine kFadE rfl rfl (kFadE rfl rfl (?_))
    refine kLoadE rfl rfl (v := .c (.sub 0 0 (7 * i + 4) i 4)) ?_ (kMovC rfl ?_)
    · show pickCells none (AC.ofCells 0 0 (7 * i + 4) i 4 (((encR (L.set i ⟨markss r.name (K), (K + (r.name.flatten.length : Int)), (K + (r.name.flatten.length : Int) + 1), (K + (r.name.flatten.length : Int) + 1 + 1), r.to, r.text, r.nums⟩)).row i).drop 4)) = _
      rw [row_encRS _ _ _ hiL]
      rfl
    refine kCallS (ok_laws_markByteSS r.to _ (by omega) (by omega) t1) rfl ⟨⟨rfl, rfl, rfl, rfl, rfl, rfl, (at_encRS L i 4 ⟨markss r.name (K), (K + (r.name.flatten.length : Int)), (K + (r.name.flatten.length : Int) + 1), (K + (r.name.flatten.length : Int) + 1 + 1), r.to, r.text, r.nums⟩ hiL).symm, rfl⟩, rfl, trivial⟩ ?_ rfl ?_
    · simp [encR, DV.rows]; omega
    rintro ra os ⟨rfl, ho⟩
    refine ⟨_, rfl, ?_⟩
    refine kMovC rfl (kDone ?_)
    refine kSub (t := ⟨tabSl [(0, .c (.arr 0 0)), (1, .i (K + (r.name.flatten.length : Int) + 1 + 1 + 1 + (r.to.flatten.length : Int))), (5, .i i)], upd F 0 ⟨0, (7 * i + 5), .arr true (encR (L.set i ⟨markss r.name (K), (K + (r.name.flatten.length : Int)), (K + (r.name.flatten.length : Int) + 1), (K + (r.name.flatten.length : Int) + 1 + 1), markss r.to (K + (r.name.flatten.length : Int) + 1 + 1 + 1), r.text, r.nums⟩))⟩, []⟩) (.tab ?_ ⟨.refl _, .refl _, .refl _, trivial⟩) ?_
    · refine Eq.trans ?_ (upd_upd _ _ _ _).symm
      refine congrArg (upd _ _) ?_
      show _ = Ob.mk _ _ (OK.arr _ ((encR (L.set i ⟨markss r.name (K), (K + (r.name.flatten.length : Int)), (K + (r.name.flatten.length : Int) + 1), (K + (r.name.flatten.length : Int) + 1 + 1), r.to, r.text, r.nums⟩)).setCell i 4 (os.a 0)))
      rw [ho, setCell_encRS L i 4 ⟨markss r.name (K), (K + (r.name.flatten.length : Int)), (K + (r.name.flatten.length : Int) + 1), (K + (r.name.flatten.length : Int) + 1 + 1), r.to, r.text, r.nums⟩ ⟨markss r.name (K), (K + (r.name.flatten.length : Int)), (K + (r.name.flatten.length : Int) + 1), (K + (r.name.flatten.length : Int) + 1 + 1), markss r.to (K + (r.name.flatten.length : Int) + 1 + 1 + 1), r.text, r.nums⟩ _ hiL rfl]
      try rfl
    refine kSeq (kReg ?_)
    refine kMovC rfl (kMovC rfl (kIadA rfl rfl rfl rfl ?_ ?_))
    · rw [len_encR, List.length_set]; omega
    refine kFadE rfl rfl (?_)
    refine kLoadE rfl rfl (v := .c (.sub 0 0 (7 * i + 5) i 5)) ?_ (kMovC rfl ?_)
    · show pickCells none (AC.ofCells 0 0 (7 * i + 5) i 5 (((encR (L.set i ⟨markss r.name (K), (K + (r.name.flatten.length : Int)), (K + (r.name.flatten.length : Int) + 1), (K + (r.name.flatten.length : Int) + 1 + 1), markss r.to (K + (r.name.flatten.length : Int) + 1 + 1 + 1), r.text, r.nums⟩)).row i).drop 5)) = _
      rw [row_encRS _ _ _ hiL]
      rfl
    refine kCallS (ok_laws_markByteS r.text _ (by omega) (by omega)) rfl ⟨⟨rfl, rfl, rfl, rfl, rfl, rfl, (at_encRS L i 5 ⟨markss r.name (K), (K + (r.name.flatten.length : Int)), (K + (r.name.flatten.length : Int) + 1), (K + (r.name.flatten.length : Int) + 1 + 1), markss r.to (K + (r.name.flatten.length : Int) + 1 + 1 + 1), r.text, r.nums⟩ hiL).symm, rfl⟩, rfl, trivial⟩ ?_ rfl ?_
    · simp [encR, DV.rows]; omega
    rintro ra os ⟨rfl, ho⟩
    refine ⟨_, rfl, ?_⟩
    refine kMovC rfl (kDone ?_)
    refine kSub (t := ⟨tabSl [(0, .c (.arr 0 0)), (1, .i (K + (r.name.flatten.length : Int) + 1 + 1 + 1 + (r.to.flatten.length : Int) + (r.text.length : Int))), (5, .i i)], upd F 0 ⟨0, (7 * i + 6), .arr true (encR (L.set i ⟨markss r.name (K), (K + (r.name.flatten.length : Int)), (K + (r.name.flatten.length : Int) + 1), (K + (r.name.flatten.length : Int) + 1 + 1), markss r.to (K + (r.name.flatten.length : Int) + 1 + 1 + 1), marks r.text.length (K + (r.name.flatten.length : Int) + 1 + 1 + 1 + (r.to.flatten.length : Int)), r.nums⟩))⟩, []⟩) (.tab ?_ ⟨.refl _, .refl _, .refl _, trivial⟩) ?_
    · refine Eq.trans ?_ (upd_upd _ _ _ _).symm
      refine congrArg (upd _ _) ?_
      show _ = Ob.mk _ _ (OK.arr _ ((encR (L.set i ⟨markss r.name (K), (K + (r.name.flatten.length : Int)), (K + (r.name.flatten.length : Int) + 1), (K + (r.name.flatten.length : Int) + 1 + 1), markss r.to (K + (r.name.flatten.length : Int) + 1 + 1 + 1), r.text, r.nums⟩)).setCell i 5 (os.a 0)))
      rw [ho, setCell_encRS L i 5 ⟨markss r.name (K), (K + (r.name.flatten.length : Int)), (K + (r.name.flatten.length : Int) + 1), (K + (r.name.flatten.length : Int) + 1 + 1), markss r.to (K + (r.name.flatten.length : Int) + 1 + 1 + 1), r.text, r.nums⟩ ⟨markss r.name (K), (K + (r.name.flatten.length : Int)), (K + (r.name.flatten.length : Int) + 1), (K + (r.name.flatten.length : Int) + 1 + 1), markss r.to (K + (r.name.flatten.length : Int) + 1 + 1 + 1), marks r.text.length (K + (r.name.flatten.length : Int) + 1 + 1 + 1 + (r.to.flatten.length : Int)), r.nums⟩ _ hiL rfl]
      try rfl
    refine kReg ?_
    refine kMovC rfl (kMovC rfl (kIadA rfl rfl rfl rfl ?_ ?_))
    · rw [len_encR, List.length_set]; omega
    refine kFadE rfl rfl (?_)
    refine kLoadE rfl rfl (v := .c (.sub 0 0 (7 * i + 6) i 6)) ?_ (kMovC rfl ?_)
    · show pickCells none (AC.ofCells 0 0 (7 * i + 6) i 6 (((encR (L.set i ⟨markss r.name (K), (K + (r.name.flatten.length : Int)), (K + (r.name.flatten.length : Int) + 1), (K + (r.name.flatten.length : Int) + 1 + 1), markss r.to (K + (r.name.flatten.length : Int) + 1 + 1 + 1), marks r.text.length (K + (r.name.flatten.length : Int) + 1 + 1 + 1 + (r.to.flatten.length : Int)), r.nums⟩)).row i).drop 6)) = _
      rw [row_encRS _ _ _ hiL]
      rfl
    refine kCallS (ok_laws_markIntS r.nums _ (by omega) (by omega)) rfl ⟨⟨rfl, rfl, rfl, rfl, rfl, rfl, (at_encRS L i 6 ⟨markss r.name (K), (K + (r.name.flatten.length : Int)), (K + (r.name.flatten.length : Int) + 1), (K + (r.name.flatten.length : Int) + 1 + 1), markss r.to (K + (r.name.flatten.length : Int) + 1 + 1 + 1), marks r.text.length (K + (r.name.flatten.length : Int) + 1 + 1 + 1 + (r.to.flatten.length : Int)), r.nums⟩ hiL).symm, rfl⟩, rfl, trivial⟩ ?_ rfl ?_
    · simp [encR, DV.rows]; omega
    rintro ra os ⟨rfl, ho⟩
    refine ⟨_, rfl, ?_⟩
    refine kMovC rfl (kDone (kBk ?_))
    refine kSub (t := ⟨tabSl [(0, .c (.arr 0 0)), (1, .i (K + (r.name.flatten.length : Int) + 1 + 1 + 1 + (r.to.flatten.length : Int) + (r.text.length : Int) + (r.nums.length : Int))), (5, .i i)], upd F 0 ⟨0, (7 * i + 7), .arr true (encR (L.set i ⟨markss r.name (K), (K + (r.name.flatten.length : Int)), (K + (r.name.flatten.length : Int) + 1), (K + (r.name.flatten.length : Int) + 1 + 1), markss r.to (K + (r.name.flatten.length : Int) + 1 + 1 + 1), marks r.text.length (K + (r.name.flatten.length : Int) + 1 + 1 + 1 + (r.to.flatten.length : Int)), marksI r.nums.length (K + (r.name.flatten.length : Int) + 1 + 1 + 1 + (r.to.flatten.length : Int) + (r.text.length : Int))⟩))⟩, []⟩) (.tab ?_ ⟨.refl _, .refl _, .refl _, trivial⟩) ?_
    · refine Eq.trans ?_ (upd_upd _ _ _ _).symm
      refine congrArg (upd _ _) ?_
      show _ = Ob.mk _ _ (OK.arr _ ((encR (L.set i ⟨markss r.name (K), (K + (r.name.flatten.length : Int)), (K + (r.name.flatten.length : Int) + 1), (K + (r.name.flatten.length : Int) + 1 + 1), markss r.to (K + (r.name.flatten.length : Int) + 1 + 1 + 1), marks r.text.length (K + (r.name.flatten.length : Int) + 1 + 1 + 1 + (r.to.flatten.length : Int)), r.nums⟩)).setCell i 6 (os.a 0)))
      rw [ho, setCell_encRS L i 6 ⟨markss r.name (K), (K + (r.name.flatten.length : Int)), (K + (r.name.flatten.length : Int) + 1), (K + (r.name.flatten.length : Int) + 1 + 1), markss r.to (K + (r.name.flatten.length : Int) + 1 + 1 + 1), marks r.text.length (K + (r.name.flatten.length : Int) + 1 + 1 + 1 + (r.to.flatten.length : Int)), r.nums⟩ ⟨markss r.name (K), (K + (r.name.flatten.length : Int)), (K + (r.name.flatten.length : Int) + 1), (K + (r.name.flatten.length : Int) + 1 + 1), markss r.to (K + (r.name.flatten.length : Int) + 1 + 1 + 1), marks r.text.length (K + (r.name.flatten.length : Int) + 1 + 1 + 1 + (r.to.flatten.length : Int)), marksI r.nums.length (K + (r.name.flatten.length : Int) + 1 + 1 + 1 + (r.to.flatten.length : Int) + (r.text.length : Int))⟩ _ hiL rfl]
      try rfl
    rw [hfin _ (by rw [← hr, ← hK]; rfl)]
    refine kReg (kMovC rfl (kAdd rfl rfl (by omega) (kMovC rfl (kDone (kInv ?_)))))
    refine ⟨⟨i + 1, hlt⟩, by simp only; omega, .tab rfl ⟨.refl _, ?_, .refl _, trivial⟩⟩
    refine Eq.mp (congrArg (fun z => WkV _ (.i z)) ?_) (.refl _)
    show _ = k + ((cntRs (l.take (i + 1)) : Nat) : Int)
    omega
  · refine kSeq (kSeq (kReg (kMovC rfl (kMovC rfl (kLen rfl rfl rfl (kBin rfl rfl rfl (kDone ?_)))))))
    rw [len_encR, hlen']
    refine kCond rfl (fun h1 => by exfalso; simp at h1; omega) (fun h1 => ?_)
    refine kExit (kExC (kExI (kExB ?_)))
    obtain rfl : i = l.length := by omega
    refine kSeq (kReg (kMovC rfl (kMovC rfl (kDone (kRet ?_)))))
    subst hF
    refine endRet (ra := [.one (.d _)]) rfl ⟨⟨⟨rfl, .inl rfl⟩, trivial⟩, .nil, ⟨rfl, fun _ => rfl, rfl⟩, trivial, trivial⟩ ?_
    refine ⟨by simp, ?_⟩
    show encR (markRs (l.take l.length) k ++ l.drop l.length) = _
    simp


def c_laws_markSlotS : C := (.seq (.reg false (.o 0 4 (.mov (.i 0)) .done)) (.seq (.seq (.reg false (.o 0 5 (.mov (.i 0)) .done)) (.block 0 (.loop (.seq (.seq (.reg false (.o 0 6 (.mov (.t 5)) (.o 1 7 (.mov (.t 0)) (.o 2 8 (.len (.t 7)) (.o 3 9 (.bin .lss (.t 6) (.t 8)) .done))))) (.cond (.t 9) .skip (.exit 0))) (.seq (.block 1 (.seq (.reg false (.o 0 12 (.mov (.t 0)) (.o 1 13 (.mov (.t 5)) (.o 2 14 (.iad 7 (.t 12) (.t 13)) (.o 3 15 (.fad (.t 14) 0) (.o 4 16 (.fad (.t 15) 0) (.o 5 17 (.load none (.t 16)) (.o 6 18 (.mov (.t 1)) (.o 7 19 (.call 19 113 [(.t 17), (.t 18)]) (.o 8 1 (.mov (.t 19)) .done)))))))))) (.seq (.reg false (.o 0 20 (.mov (.t 0)) (.o 1 21 (.mov (.t 5)) (.o 2 22 (.mov (.t 1)) (.o 3 23 (.iad 7 (.t 20) (.t 21)) (.o 4 24 (.fad (.t 23) 1) (.op 5 [] none none false (.store none (.t 24) (.t 22)) .done))))))) (.seq (.reg false (.o 0 25 (.mov (.t 1)) (.o 1 26 (.bin .add (.t 25) (.i 1)) (.o 2 1 (.mov (.t 26)) .done)))) (.seq (.reg false (.o 0 27 (.mov (.t 0)) (.o 1 28 (.mov (.t 5)) (.o 2 29 (.mov (.t 1)) (.o 3 30 (.iad 7 (.t 27) (.t 28)) (.o 4 31 (.fad (.t 30) 2) (.op 5 [] none none false (.store none (.t 31) (.t 29)) .done))))))) (.seq (.reg false (.o 0 32 (.mov (.t 1)) (.o 1 33 (.bin .add (.t 32) (.i 1)) (.o 2 1 (.mov (.t 33)) .done)))) (.seq (.reg false (.o 0 34 (.mov (.t 0)) (.o 1 35 (.mov (.t 5)) (.o 2 36 (.iad 7 (.t 34) (.t 35)) (.o 3 37 (.fad (.t 36) 3) (.o 4 38 (.load none (.t 37)) (.o 5 39 (.mov (.t 1)) (.o 6 40 (.call 40 62 [(.t 38), (.t 39)]) (.o 7 1 (.mov (.t 40)) .done))))))))) (.seq (.reg false (.o 0 41 (.mov (.t 0)) (.o 1 42 (.mov (.t 5)) (.o 2 43 (.mov (.t 1)) (.o 3 44 (.iad 7 (.t 41) (.t 42)) (.o 4 45 (.fad (.t 44) 4) (.op 5 [] none none false (.store none (.t 45) (.t 43)) .done))))))) (.seq (.reg false (.o 0 46 (.mov (.t 1)) (.o 1 47 (.bin .add (.t 46) (.i 1)) (.o 2 1 (.mov (.t 47)) .done)))) (.seq (.reg false (.o 0 48 (.mov (.t 0)) (.o 1 49 (.mov (.t 5)) (.o 2 50 (.mov (.t 1)) (.o 3 51 (.iad 7 (.t 48) (.t 49)) (.o 4 52 (.fad (.t 51) 5) (.op 5 [] none none false (.store none (.t 52) (.t 50)) .done))))))) (.seq (.reg false (.o 0 53 (.mov (.t 1)) (.o 1 54 (.bin .add (.t 53) (.i 1)) (.o 2 1 (.mov (.t 54)) .done)))) (.seq (.reg false (.o 0 55 (.mov (.t 0)) (.o 1 56 (.mov (.t 5)) (.o 2 57 (.mov (.t 1)) (.o 3 58 (.iad 7 (.t 55) (.t 56)) (.o 4 59 (.fad (.t 58) 6) (.op 5 [] none none false (.store none (.t 59) (.t 57)) .done))))))) (.reg false (.o 0 60 (.mov (.t 1)) (.o 1 61 (.bin .add (.t 60) (.i 1)) (.o 2 1 (.mov (.t 61)) .done)))))))))))))))) (.reg false (.o 0 10 (.mov (.t 5)) (.o 1 11 (.bin .add (.t 10) (.i 1)) (.o 2 5 (.mov (.t 11)) .done))))))))) (.seq (.reg false (.o 0 62 (.mov (.t 1)) (.o 1 4 (.mov (.t 62)) .done))) .ret)))
theorem dg_laws_markSlotS : Tryz.f112.body.bind (digC Tryz.prog Tryz.f112.ntmps []) = some c_laws_markSlotS := by kernel_rfl
theorem rs_laws_markSlotS : resSlots Tryz.prog Tryz.f112 = some [.s 4] := by kernel_rfl
theorem ok_laws_markSlotS (l : List (Slot)) (k : Int) (h0 : 0 ≤ k) (hk : k + cntL cntS l ≤ 9223372036854775807) (hs : SmallSs l) :
    FnOK Tryz.prog 112 [.one (.arr false true (encS l)), .one (.d (.sc (.int .i64 k)))] (fun ra os => ra = [.one (.d (.sc (.int .i64 (k + cntL cntS l))))] ∧ os.a 0 = encS (markL cntS markS l k)) := by
  refine FnOK.ofK Tryz.func112 (by kernel_rfl) dg_laws_markSlotS rs_laws_markSlotS rfl rfl ?_
  delta c_laws_markSlotS T.o X.i
  have h1 := hs.len
  refine kSeq (kReg (kMovC rfl (kDone (kSeq (kSeq (kReg (kMovC rfl (kDone (kBlock ?_)))))))))
  generalize hF : (St.init [.one (.arr false true (encS l)), .one (.d (.sc (.int .i64 k)))]).ob = F
  refine kLoop (α := { i : Nat // i ≤ l.length })
    (fun y => ⟨tabSl [(0, .c (.arr 0 0)), (1, .i (k + (cntL cntS (l.take y.1) : Int))), (5, .i y.1)], upd F 0 ⟨0, 7 * y.1, .arr true (encS (markL cntS markS (l.take y.1) k ++ l.drop y.1))⟩, []⟩) (fun y => l.length - y.1) ⟨0, by simp⟩
    (.tab (by subst hF; exact upd_self rfl) ⟨.refl _, by simpa using .refl _, .refl _, trivial⟩) ?_
  rintro ⟨i, hi⟩
  simp only
  have hlen : (markL cntS markS (l.take i) k).length = i := by rw [markL_len]; simp; omega
  have hlen' : (markL cntS markS (l.take i) k ++ l.drop i).length = l.length := by simp [hlen]; omega
  have hle := cntL_le cntS l i
  have hle2 := cntL_le cntS l (i + 1)
  rcases Nat.lt_or_ge i l.length with hlt | hge
  · have hbi := hs.mem _ (List.getElem_mem hlt)
    have hsuc := cntL_take cntS l i hlt
    have hget : (markL cntS markS (l.take i) k ++ l.drop i)[i]'(by omega) = l[i] := by
      rw [List.getElem_append_right (by omega)]; simp [hlen]
    have hset := set_selfL (markL cntS markS (l.take i) k ++ l.drop i) i (by omega)
    rw [hget] at hset
    have hfin : ∀ R : Slot, R = markS l[i] (k + cntL cntS (l.take i)) → (markL cntS markS (l.take i) k ++ l.drop i).set i R = markL cntS markS (l.take (i + 1)) k ++ l.drop (i + 1) := by
      rintro R rfl
      rw [take_set_succ _ _ _ _ hlt hlen, ← List.take_append_getElem hlt, markL_append]
    have hc : cntS l[i] = l[i].name.flatten.length + 5 + cntRs l[i].rrs := rfl
    clear hget
    revert hset hfin hlen'
    generalize markL cntS markS (l.take i) k ++ l.drop i = L
    generalize hr : l[i] = r at hc hbi hsuc
    generalize hK : k + (cntL cntS (l.take i) : Int) = K
    intro hlen' hset hfin
    have n1 := hbi.n.len
    have n2 := hbi.n.mem
    have r1 := hbi.r
    have hiL : i < L.length := by omega
    have hKn : 0 ≤ K := by omega
    have hKm : K + cntS r ≤ 9223372036854775807 := by omega
    refine kSub (t := ⟨tabSl [(0, .c (.arr 0 0)), (1, .i (K)), (5, .i i)], upd F 0 ⟨0, 7 * i, .arr true (encS (L.set i r))⟩, []⟩) (.tab (by rw [hset]) ⟨.refl _, .refl _, .refl _, trivial⟩) ?_
    refine kSeq (kSeq (kReg (kMovC rfl (kMovC rfl (kLen rfl rfl rfl (kBin rfl rfl rfl (kDone ?_)))))))
    rw [len_encL, List.length_set]
    refine kCond rfl (fun h1 => ?_) (fun h1 => by exfalso; simp at h1; omega)
    refine kSkip (kSeq (kBlock ?_))
    refine kSeq (kReg ?_)
    refine kMovC rfl (kMovC rfl (kIadA rfl rfl rfl rfl ?_ ?_))
    · rw [len_encL, List.length_set]; omega
    refine kFadE rfl rfl (kFadE rfl rfl (?_))
    refine kLoadE rfl rfl (v := .c (.sub 0 0 (7 * i) i 0)) ?_ (kMovC rfl ?_)
    · show pickCells none (AC.ofCells 0 0 (7 * i) i 0 (((encS (L.set i ⟨r.name, r.ty, r.kind, r.rrs, r.rank, r.til, r.used⟩)).row i).drop 0)) = _
      rw [row_encLS 7 Slot.cells _ _ _ hiL]
      rfl
    refine kCallS (ok_laws_markByteSS r.name _ (by omega) (by omega) n1) rfl ⟨⟨rfl, rfl, rfl, rfl, rfl, rfl, (at_encLS 7 Slot.cells L i 0 ⟨r.name, r.ty, r.kind, r.rrs, r.rank, r.til, r.used⟩ hiL).symm, rfl⟩, rfl, trivial⟩ ?_ rfl ?_
    · simp [encL, DV.rows]; omega
    rintro ra os ⟨rfl, ho⟩
    refine ⟨_, rfl, ?_⟩
    refine kMovC rfl (kDone ?_)
    refine kSub (t := ⟨tabSl [(0, .c (.arr 0 0)), (1, .i (K + (r.name.flatten.length : Int))), (5, .i i)], upd F 0 ⟨0, (7 * i + 1), .arr true (encS (L.set i ⟨markss r.name (K), r.ty, r.kind, r.rrs, r.rank, r.til, r.used⟩))⟩, []⟩) (.tab ?_ ⟨.refl _, .refl _, .refl _, trivial⟩) ?_
    · refine Eq.trans ?_ (upd_upd _ _ _ _).symm
      refine congrArg (upd _ _) ?_
      show _ = Ob.mk _ _ (OK.arr _ ((encS (L.set i ⟨r.name, r.ty, r.kind, r.rrs, r.rank, r.til, r.used⟩)).setCell i 0 (os.a 0)))
      rw [ho, setCell_encLS 7 Slot.cells L i 0 ⟨r.name, r.ty, r.kind, r.rrs, r.rank, r.til, r.used⟩ ⟨markss r.name (K), r.ty, r.kind, r.rrs, r.rank, r.til, r.used⟩ _ hiL rfl]
      try rfl
    refine kSeq (kReg ?_)
    refine kMovC rfl (kMovC rfl (kMovC rfl (kIadA rfl rfl rfl rfl ?_ (kFadE rfl rfl ?_))))
    · rw [len_encL, List.length_set]; omega
    refine kStoreE1 rfl rfl rfl rfl (by simp [encL, DV.esz]) (kDone ?_)
    refine kSub (t := ⟨tabSl [(0, .c (.arr 0 0)), (1, .i (K + (r.name.flatten.length : Int))), (5, .i i)], upd F 0 ⟨0, (7 * i + 2), .arr true (encS (L.set i ⟨markss r.name (K), (K + (r.name.flatten.length : Int)), r.kind, r.rrs, r.rank, r.til, r.used⟩))⟩, []⟩) (.tab ?_ ⟨.refl _, .refl _, .refl _, trivial⟩) ?_
    · refine Eq.trans ?_ (upd_upd _ _ _ _).symm
      refine congrArg (upd _ _) ?_
      show _ = Ob.mk _ _ (OK.arr _ (setRow (encS (L.set i ⟨markss r.name (K), r.ty, r.kind, r.rrs, r.rank, r.til, r.used⟩)) i 1 _))
      rw [setRow_encLS 7 Slot.cells L i 1 ⟨markss r.name (K), r.ty, r.kind, r.rrs, r.rank, r.til, r.used⟩ ⟨markss r.name (K), (K + (r.name.flatten.length : Int)), r.kind, r.rrs, r.rank, r.til, r.used⟩ _ hiL rfl]
      try rfl
    refine kSeq (kReg ?_)
    refine kMovC rfl (kAdd rfl rfl (by omega) (kMovC rfl (kDone ?_)))
    refine kSeq (kReg ?_)
    refine kMovC rfl (kMovC rfl (kMovC rfl (kIadA rfl rfl rfl rfl ?_ (kFadE rfl rfl ?_))))
    · rw [len_encL, List.length_set]; omega
    refine kStoreE1 rfl rfl rfl rfl (by simp [encL, DV.esz]) (kDone ?_)
    refine kSub (t := ⟨tabSl [(0, .c (.arr 0 0)), (1, .i (K + (r.name.flatten.length : Int) + 1)), (5, .i i)], upd F 0 ⟨0, (7 * i + 3), .arr true (encS (L.set i ⟨markss r.name (K), (K + (r.name.flatten.length : Int)), (K + (r.name.flatten.length : Int) + 1), r.rrs, r.rank, r.til, r.used⟩))⟩, []⟩) (.tab ?_ ⟨.refl _, .refl _, .refl _, trivial⟩) ?_
    · refine Eq.trans ?_ (upd_upd _ _ _ _).symm
      refine congrArg (upd _ _) ?_
      show _ = Ob.mk _ _ (OK.arr _ (setRow (encS (L.set i ⟨markss r.name (K), (K + (r.name.flatten.length : Int)), r.kind, r.rrs, r.rank, r.til, r.used⟩)) i 2 _))
      rw [setRow_encLS 7 Slot.cells L i 2 ⟨markss r.name (K), (K + (r.name.flatten.length : Int)), r.kind, r.rrs, r.rank, r.til, r.used⟩ ⟨markss r.name (K), (K + (r.name.flatten.length : Int)), (K + (r.name.flatten.length : Int) + 1), r.rrs, r.rank, r.til, r.used⟩ _ hiL rfl]
      try rfl
    refine kSeq (kReg ?_)
    refine kMovC rfl (kAdd rfl rfl (by omega) (kMovC rfl (kDone ?_)))
    refine kSeq (kReg ?_)
    refine kMovC rfl (kMovC rfl (kIadA rfl rfl rfl rfl ?_ ?_))
    · rw [len_encL, List.length_set]; omega
    refine kFadE rfl rfl (?_)
    refine kLoadE rfl rfl (v := .c (.sub 0 0 (7 * i + 3) i 3)) ?_ (kMovC rfl ?_)
    · show pickCells none (AC.ofCells 0 0 (7 * i + 3) i 3 (((encS (L.set i ⟨markss r.name (K), (K + (r.name.flatten.length : Int)), (K + (r.name.flatten.length : Int) + 1), r.rrs, r.rank, r.til, r.used⟩)).row i).drop 3)) = _
      rw [row_encLS 7 Slot.cells _ _ _ hiL]
      rfl
    refine kCallS (ok_laws_markRrS r.rrs _ (by omega) (by omega) r1) rfl ⟨⟨rfl, rfl, rfl, rfl, rfl, rfl, (at_encLS 7 Slot.cells L i 3 ⟨markss r.name (K), (K + (r.name.flatten.length : Int)), (K + (r.name.flatten.length : Int) + 1), r.rrs, r.rank, r.til, r.used⟩ hiL).symm, rfl⟩, rfl, trivial⟩ ?_ rfl ?_
    · simp [encL, DV.rows]; omega
    rintro ra os ⟨rfl, ho⟩
    refine ⟨_, rfl, ?_⟩
    refine kMovC rfl (kDone ?_)
    refine kSub (t := ⟨tabSl [(0, .c (.arr 0 0)), (1, .i (K + (r.name.flatten.length : Int) + 1 + 1 + (cntRs r.rrs : Int))), (5, .i i)], upd F 0 ⟨0, (7 * i + 4), .arr true (encS (L.set i ⟨markss r.name (K), (K + (r.name.flatten.length : Int)), (K + (r.name.flatten.length : Int) + 1), markRs r.rrs (K + (r.name.flatten.length : Int) + 1 + 1), r.rank, r.til, r.used⟩))⟩, []⟩) (.tab ?_ ⟨.refl _, .refl _, .refl _, trivial⟩) ?_
    · refine Eq.trans ?_ (upd_upd _ _ _ _).symm
      refine congrArg (upd _ _) ?_
      show _ = Ob.mk _ _ (OK.arr _ ((encS (L.set i ⟨markss r.name (K), (K + (r.name.flatten.length : Int)), (K + (r.name.flatten.length : Int) + 1), r.rrs, r.rank, r.til, r.used⟩)).setCell i 3 (os.a 0)))
      rw [ho, setCell_encLS 7 Slot.cells L i 3 ⟨markss r.name (K), (K + (r.name.flatten.length : Int)), (K + (r.name.flatten.length : Int) + 1), r.rrs, r.rank, r.til, r.used⟩ ⟨markss r.name (K), (K + (r.name.flatten.length : Int)), (K + (r.name.flatten.length : Int) + 1), markRs r.rrs (K + (r.name.flatten.length : Int) + 1 + 1), r.rank, r.til, r.used⟩ _ hiL rfl]
      try rfl
    refine kSeq (kReg ?_)
    refine kMovC rfl (kMovC rfl (kMovC rfl (kIadA rfl rfl rfl rfl ?_ (kFadE rfl rfl ?_))))
    · rw [len_encL, List.length_set]; omega
    refine kStoreE1 rfl rfl rfl rfl (by simp [encL, DV.esz]) (kDone ?_)
    refine kSub (t := ⟨tabSl [(0, .c (.arr 0 0)), (1, .i (K + (r.name.flatten.length : Int) + 1 + 1 + (cntRs r.rrs : Int))), (5, .i i)], upd F 0 ⟨0, (7 * i + 5), .arr true (encS (L.set i ⟨markss r.name (K), (K + (r.name.flatten.length : Int)), (K + (r.name.flatten.length : Int) + 1), markRs r.rrs (K + (r.name.flatten.length : Int) + 1 + 1), (K + (r.name.flatten.length : Int) + 1 + 1 + (cntRs r.rrs : Int)), r.til, r.used⟩))⟩, []⟩) (.tab ?_ ⟨.refl _, .refl _, .refl _, trivial⟩) ?_
    · refine Eq.trans ?_ (upd_upd _ _ _ _).symm
      refine congrArg (upd _ _) ?_
      show _ = Ob.mk _ _ (OK.arr _ (setRow (encS (L.set i ⟨markss r.name (K), (K + (r.name.flatten.length : Int)), (K + (r.name.flatten.length : Int) + 1), markRs r.rrs (K + (r.name.flatten.length : Int) + 1 + 1), r.rank, r.til, r.used⟩)) i 4 _))
      rw [setRow_encLS 7 Slot.cells L i 4 ⟨markss r.name (K), (K + (r.name.flatten.length : Int)), (K + (r.name.flatten.length : Int) + 1), markRs r.rrs (K + (r.name.flatten.length : Int) + 1 + 1), r.rank, r.til, r.used⟩ ⟨markss r.name (K), (K + (r.name.flatten.length : Int)), (K + (r.name.flatten.length : Int) + 1), markRs r.rrs (K + (r.name.flatten.length : Int) + 1 + 1), (K + (r.name.flatten.length : Int) + 1 + 1 + (cntRs r.rrs : Int)), r.til, r.used⟩ _ hiL rfl]
      try rfl
    refine kSeq (kReg ?_)
    refine kMovC rfl (kAdd rfl rfl (by omega) (kMovC rfl (kDone ?_)))
    refine kSeq (kReg ?_)
    refine kMovC rfl (kMovC rfl (kMovC rfl (kIadA rfl rfl rfl rfl ?_ (kFadE rfl rfl ?_))))
    · rw [len_encL, List.length_set]; omega
    refine kStoreE1 rfl rfl rfl rfl (by simp [encL, DV.esz]) (kDone ?_)
    refine kSub (t := ⟨tabSl [(0, .c (.arr 0 0)), (1, .i (K + (r.name.flatten.length : Int) + 1 + 1 + (cntRs r.rrs : Int) + 1)), (5, .i i)], upd F 0 ⟨0, (7 * i + 6), .arr true (encS (L.set i ⟨markss r.name (K), (K + (r.name.flatten.length : Int)), (K + (r.name.flatten.length : Int) + 1), markRs r.rrs (K + (r.name.flatten.length : Int) + 1 + 1), (K + (r.name.flatten.length : Int) + 1 + 1 + (cntRs r.rrs : Int)), (K + (r.name.flatten.length : Int) + 1 + 1 + (cntRs r.rrs : Int) + 1), r.used⟩))⟩, []⟩) (.tab ?_ ⟨.refl _, .refl _, .refl _, trivial⟩) ?_
    · refine Eq.trans ?_ (upd_upd _ _ _ _).symm
      refine congrArg (upd _ _) ?_
      show _ = Ob.mk _ _ (OK.arr _ (setRow (encS (L.set i ⟨markss r.name (K), (K + (r.name.flatten.length : Int)), (K + (r.name.flatten.length : Int) + 1), markRs r.rrs (K + (r.name.flatten.length : Int) + 1 + 1), (K + (r.name.flatten.length : Int) + 1 + 1 + (cntRs r.rrs : Int)), r.til, r.used⟩)) i 5 _))
      rw [setRow_encLS 7 Slot.cells L i 5 ⟨markss r.name (K), (K + (r.name.flatten.length : Int)), (K + (r.name.flatten.length : Int) + 1), markRs r.rrs (K + (r.name.flatten.length : Int) + 1 + 1), (K + (r.name.flatten.length : Int) + 1 + 1 + (cntRs r.rrs : Int)), r.til, r.used⟩ ⟨markss r.name (K), (K + (r.name.flatten.length : Int)), (K + (r.name.flatten.length : Int) + 1), markRs r.rrs (K + (r.name.flatten.length : Int) + 1 + 1), (K + (r.name.flatten.length : Int) + 1 + 1 + (cntRs r.rrs : Int)), (K + (r.name.flatten.length : Int) + 1 + 1 + (cntRs r.rrs : Int) + 1), r.used⟩ _ hiL rfl]
      try rfl
    refine kSeq (kReg ?_)
    refine kMovC rfl (kAdd rfl rfl (by omega) (kMovC rfl (kDone ?_)))
    refine kSeq (kReg ?_)
    refine kMovC rfl (kMovC rfl (kMovC rfl (kIadA rfl rfl rfl rfl ?_ (kFadE rfl rfl ?_))))
    · rw [len_encL, List.length_set]; omega
    refine kStoreE1 rfl rfl rfl rfl (by simp [encL, DV.esz]) (kDone ?_)
    refine kSub (t := ⟨tabSl [(0, .c (.arr 0 0)), (1, .i (K + (r.name.flatten.length : Int) + 1 + 1 + (cntRs r.rrs : Int) + 1 + 1)), (5, .i i)], upd F 0 ⟨0, (7 * i + 7), .arr true (encS (L.set i ⟨markss r.name (K), (K + (r.name.flatten.length : Int)), (K + (r.name.flatten.length : Int) + 1), markRs r.rrs (K + (r.name.flatten.length : Int) + 1 + 1), (K + (r.name.flatten.length : Int) + 1 + 1 + (cntRs r.rrs : Int)), (K + (r.name.flatten.length : Int) + 1 + 1 + (cntRs r.rrs : Int) + 1), (K + (r.name.flatten.length : Int) + 1 + 1 + (cntRs r.rrs : Int) + 1 + 1)⟩))⟩, []⟩) (.tab ?_ ⟨.refl _, .refl _, .refl _, trivial⟩) ?_
    · refine Eq.trans ?_ (upd_upd _ _ _ _).symm
      refine congrArg (upd _ _) ?_
      show _ = Ob.mk _ _ (OK.arr _ (setRow (encS (L.set i ⟨markss r.name (K), (K + (r.name.flatten.length : Int)), (K + (r.name.flatten.length : Int) + 1), markRs r.rrs (K + (r.name.flatten.length : Int) + 1 + 1), (K + (r.name.flatten.length : Int) + 1 + 1 + (cntRs r.rrs : Int)), (K + (r.name.flatten.length : Int) + 1 + 1 + (cntRs r.rrs : Int) + 1), r.used⟩)) i 6 _))
      rw [setRow_encLS 7 Slot.cells L i 6 ⟨markss r.name (K), (K + (r.name.flatten.length : Int)), (K + (r.name.flatten.length : Int) + 1), markRs r.rrs (K + (r.name.flatten.length : Int) + 1 + 1), (K + (r.name.flatten.length : Int) + 1 + 1 + (cntRs r.rrs : Int)), (K + (r.name.flatten.length : Int) + 1 + 1 + (cntRs r.rrs : Int) + 1), r.used⟩ ⟨markss r.name (K), (K + (r.name.flatten.length : Int)), (K + (r.name.flatten.length : Int) + 1), markRs r.rrs (K + (r.name.flatten.length : Int) + 1 + 1), (K + (r.name.flatten.length : Int) + 1 + 1 + (cntRs r.rrs : Int)), (K + (r.name.flatten.length : Int) + 1 + 1 + (cntRs r.rrs : Int) + 1), (K + (r.name.flatten.length : Int) + 1 + 1 + (cntRs r.rrs : Int) + 1 + 1)⟩ _ hiL rfl]
      try rfl
    refine kReg ?_
    refine kMovC rfl (kAdd rfl rfl (by omega) (kMovC rfl (kDone (kBk ?_))))
    rw [hfin _ (by rw [← hr, ← hK]; rfl)]
    refine kReg (kMovC rfl (kAdd rfl rfl (by omega) (kMovC rfl (kDone (kInv ?_)))))
    refine ⟨⟨i + 1, hlt⟩, by simp only; omega, .tab rfl ⟨.refl _, ?_, .refl _, trivial⟩⟩
    refine Eq.mp (congrArg (fun z => WkV _ (.i z)) ?_) (.refl _)
    show _ = k + ((cntL cntS (l.take (i + 1)) : Nat) : Int)
    omega
  · refine kSeq (kSeq (kReg (kMovC rfl (kMovC rfl (kLen rfl rfl rfl (kBin rfl rfl rfl (kDone ?_)))))))
    rw [len_encL, hlen']
    refine kCond rfl (fun h1 => by exfalso; simp at h1; omega) (fun h1 => ?_)
    refine kExit (kExC (kExI (kExB ?_)))
    obtain rfl : i = l.length := by omega
    refine kSeq (kReg (kMovC rfl (kMovC rfl (kDone (kRet ?_)))))
    subst hF
    refine endRet (ra := [.one (.d _)]) rfl ⟨⟨⟨rfl, .inl rfl⟩, trivial⟩, .nil, ⟨rfl, fun _ => rfl, rfl⟩, trivial, trivial⟩ ?_
    refine ⟨by simp, ?_⟩
    show encS (markL cntS markS (l.take l.length) k ++ l.drop l.length) = _
    simp

def c_laws_markCache : C := (.seq (.reg false (.o 0 2 (.box 2 (.t 0)) (.o 1 4 (.mov (.i 0)) .done))) (.seq (.reg false (.o 0 5 (.fad (.t 2) 2) (.o 1 6 (.load none (.t 5)) (.o 2 7 (.mov (.t 1)) (.o 3 8 (.call 8 112 [(.t 6), (.t 7)]) (.o 4 1 (.mov (.t 8)) .done)))))) (.seq (.reg false (.o 0 9 (.mov (.t 1)) (.o 1 4 (.mov (.t 9)) .done))) .ret)))
theorem dg_laws_markCache : Tryz.f37.body.bind (digC Tryz.prog Tryz.f37.ntmps []) = some c_laws_markCache := by kernel_rfl
theorem rs_laws_markCache : resSlots Tryz.prog Tryz.f37 = some [.s 4] := by kernel_rfl
theorem ok_laws_markCache (a : Cache) (k : Int) (h0 : 0 ≤ k) (hk : k + cntSs a.slots ≤ 9223372036854775807) (hs : SmallSs a.slots) :
    FnOK Tryz.prog 37 [.agg [.d (.sc (.int .i64 a.now)), .d (.sc (.int .i64 a.turn)), .arr false true (encS a.slots)], .one (.d (.sc (.int .i64 k)))] (fun ra os => ra = [.one (.d (.sc (.int .i64 (k + cntSs a.slots))))] ∧ outsAre [(2, encS (markSs a.slots k))] os) := by
  refine FnOK.ofK Tryz.func37 (by kernel_rfl) dg_laws_markCache rs_laws_markCache rfl rfl ?_
  delta c_laws_markCache T.o X.i
  refine kSeq (kReg (kBox rfl rfl rfl rfl rfl (kMovC rfl (kDone (kSeq (kReg (kFadP rfl rfl (kLoadP rfl rfl rfl (kMovC rfl (kCallA (ok_laws_markSlotS _ _ (by first | assumption | omega | solve_by_elim [List.getElem_mem] | (simp only [szOut] at *; omega) | exact rfl | exact leb | exact rrOk_small (by assumption) | exact zoneOk_small (by assumption) | exact SmallBB.ok (by assumption) | exact (SmallBB.ok (by assumption)).len | exact (SmallBB.ok (by assumption)).mem | exact SmallBB.bent (by assumption)) (by first | assumption | omega | solve_by_elim [List.getElem_mem] | (simp only [szOut] at *; omega) | exact rfl | exact leb | exact rrOk_small (by assumption) | exact zoneOk_small (by assumption) | exact SmallBB.ok (by assumption) | exact (SmallBB.ok (by assumption)).len | exact (SmallBB.ok (by assumption)).mem | exact SmallBB.bent (by assumption)) (by first | assumption | omega | solve_by_elim [List.getElem_mem] | (simp only [szOut] at *; omega) | exact rfl | exact leb | exact rrOk_small (by assumption) | exact zoneOk_small (by assumption) | exact SmallBB.ok (by assumption) | exact (SmallBB.ok (by assumption)).len | exact (SmallBB.ok (by assumption)).mem | exact SmallBB.bent (by assumption))) ⟨⟨_, rfl, .inl rfl⟩, rfl, trivial⟩ rfl rfl rfl rfl (kMovC rfl (kDone (kSeq (kReg (kMovC rfl (kMovC rfl (kDone (kRet (endRetA (ra := [.one (.d _)]) rfl ?_)))))))))))))))))))
  exact ⟨rfl, rfl, trivial⟩

def c_laws_markNameS : C := (.seq (.reg false (.o 0 4 (.mov (.i 0)) .done)) (.seq (.seq (.reg false (.o 0 5 (.mov (.i 0)) .done)) (.block 0 (.loop (.seq (.seq (.reg false (.o 0 6 (.mov (.t 5)) (.o 1 7 (.mov (.t 0)) (.o 2 8 (.len (.t 7)) (.o 3 9 (.bin .lss (.t 6) (.t 8)) .done))))) (.cond (.t 9) .skip (.exit 0))) (.seq (.block 1 (.reg false (.o 0 12 (.mov (.t 0)) (.o 1 13 (.mov (.t 5)) (.o 2 14 (.iad 1 (.t 12) (.t 13)) (.o 3 15 (.fad (.t 14) 0) (.o 4 16 (.load none (.t 15)) (.o 5 17 (.mov (.t 1)) (.o 6 18 (.call 18 113 [(.t 16), (.t 17)]) (.o 7 1 (.mov (.t 18)) .done)))))))))) (.reg false (.o 0 10 (.mov (.t 5)) (.o 1 11 (.bin .add (.t 10) (.i 1)) (.o 2 5 (.mov (.t 11)) .done))))))))) (.seq (.reg false (.o 0 19 (.mov (.t 1)) (.o 1 4 (.mov (.t 19)) .done))) .ret)))
theorem dg_laws_markNameS : Tryz.f38.body.bind (digC Tryz.prog Tryz.f38.ntmps []) = some c_laws_markNameS := by kernel_rfl
theorem rs_laws_markNameS : resSlots Tryz.prog Tryz.f38 = some [.s 4] := by kernel_rfl
theorem ok_laws_markNameS (l : List (List (List UInt8))) (k : Int) (h0 : 0 ≤ k) (hk : k + cntL cntBB l ≤ 9223372036854775807) (hs : SmallNs l) :
    FnOK Tryz.prog 38 [.one (.arr false true (encN l)), .one (.d (.sc (.int .i64 k)))] (fun ra os => ra = [.one (.d (.sc (.int .i64 (k + cntL cntBB l))))] ∧ os.a 0 = encN (markL cntBB markss l k)) := by
  refine FnOK.ofK Tryz.func38 (by kernel_rfl) dg_laws_markNameS rs_laws_markNameS rfl rfl ?_
  delta c_laws_markNameS T.o X.i
  have h1 := hs.len
  refine kSeq (kReg (kMovC rfl (kDone (kSeq (kSeq (kReg (kMovC rfl (kDone (kBlock ?_)))))))))
  generalize hF : (St.init [.one (.arr false true (encN l)), .one (.d (.sc (.int .i64 k)))]).ob = F
  refine kLoop (α := { i : Nat // i ≤ l.length })
    (fun y => ⟨tabSl [(0, .c (.arr 0 0)), (1, .i (k + (cntL cntBB (l.take y.1) : Int))), (5, .i y.1)], upd F 0 ⟨0, 1 * y.1, .arr true (encN (markL cntBB markss (l.take y.1) k ++ l.drop y.1))⟩, []⟩) (fun y => l.length - y.1) ⟨0, by simp⟩
    (.tab (by subst hF; exact upd_self rfl) ⟨.refl _, by simpa using .refl _, .refl _, trivial⟩) ?_
  rintro ⟨i, hi⟩
  simp only
  have hlen : (markL cntBB markss (l.take i) k).length = i := by rw [markL_len]; simp; omega
  have hlen' : (markL cntBB markss (l.take i) k ++ l.drop i).length = l.length := by simp [hlen]; omega
  have hle := cntL_le cntBB l i
  have hle2 := cntL_le cntBB l (i + 1)
  rcases Nat.lt_or_ge i l.length with hlt | hge
  · have hbi := hs.mem _ (List.getElem_mem hlt)
    have hsuc := cntL_take cntBB l i hlt
    have hget : (markL cntBB markss (l.take i) k ++ l.drop i)[i]'(by omega) = l[i] := by
      rw [List.getElem_append_right (by omega)]; simp [hlen]
    have hset := set_selfL (markL cntBB markss (l.take i) k ++ l.drop i) i (by omega)
    rw [hget] at hset
    have hfin : ∀ R : List (List UInt8), R = markss l[i] (k + cntL cntBB (l.take i)) → (markL cntBB markss (l.take i) k ++ l.drop i).set i R = markL cntBB markss (l.take (i + 1)) k ++ l.drop (i + 1) := by
      rintro R rfl
      rw [take_set_succ _ _ _ _ hlt hlen, ← List.take_append_getElem hlt, markL_append]
    have hc : cntBB l[i] = l[i].flatten.length := rfl
    clear hget
    revert hset hfin hlen'
    generalize markL cntBB markss (l.take i) k ++ l.drop i = L
    generalize hr : l[i] = r at hc hbi hsuc
    generalize hK : k + (cntL cntBB (l.take i) : Int) = K
    intro hlen' hset hfin
    have n1 := hbi.len
    have n2 := hbi.mem
    have hiL : i < L.length := by omega
    have hKn : 0 ≤ K := by omega
    have hKm : K + cntBB r ≤ 9223372036854775807 := by omega
    refine kSub (t := ⟨tabSl [(0, .c (.arr 0 0)), (1, .i (K)), (5, .i i)], upd F 0 ⟨0, 1 * i, .arr true (encN (L.set i r))⟩, []⟩) (.tab (by rw [hset]) ⟨.refl _, .refl _, .refl _, trivial⟩) ?_
    refine kSeq (kSeq (kReg (kMovC rfl (kMovC rfl (kLen rfl rfl rfl (kBin rfl rfl rfl (kDone ?_)))))))
    rw [len_encL, List.length_set]
    refine kCond rfl (fun h1 => ?_) (fun h1 => by exfalso; simp at h1; omega)
    refine kSkip (kSeq (kBlock ?_))
    refine kReg ?_
    refine kMovC rfl (kMovC rfl (kIadA rfl rfl rfl rfl ?_ ?_))
    · rw [len_encL, List.length_set]; omega
    refine kFadE rfl rfl (?_)
    refine kLoadE rfl rfl (v := .c (.sub 0 0 (1 * i) i 0)) ?_ (kMovC rfl ?_)
    · show pickCells none (AC.ofCells 0 0 (1 * i) i 0 (((encN (L.set i r)).row i).drop 0)) = _
      rw [row_encLS 1 (fun n => [encBB n]) _ _ _ hiL]
      rfl
    refine kCallS (ok_laws_markByteSS r _ (by omega) (by omega) n1) rfl ⟨⟨rfl, rfl, rfl, rfl, rfl, rfl, (at_encLS 1 (fun n => [encBB n]) L i 0 r hiL).symm, rfl⟩, rfl, trivial⟩ ?_ rfl ?_
    · simp [encL, DV.rows]; omega
    rintro ra os ⟨rfl, ho⟩
    refine ⟨_, rfl, ?_⟩
    refine kMovC rfl (kDone (kBk ?_))
    refine kSub (t := ⟨tabSl [(0, .c (.arr 0 0)), (1, .i (K + (r.flatten.length : Int))), (5, .i i)], upd F 0 ⟨0, (1 * i + 1), .arr true (encN (L.set i (markss r (K))))⟩, []⟩) (.tab ?_ ⟨.refl _, .refl _, .refl _, trivial⟩) ?_
    · refine Eq.trans ?_ (upd_upd _ _ _ _).symm
      refine congrArg (upd _ _) ?_
      show _ = Ob.mk _ _ (OK.arr _ ((encN (L.set i r)).setCell i 0 (os.a 0)))
      rw [ho, setCell_encLS 1 (fun n => [encBB n]) L i 0 r (markss r (K)) _ hiL rfl]
      try rfl
    rw [hfin _ (by rw [← hr, ← hK] <;> rfl)]
    refine kReg (kMovC rfl (kAdd rfl rfl (by omega) (kMovC rfl (kDone (kInv ?_)))))
    refine ⟨⟨i + 1, hlt⟩, by simp only; omega, .tab rfl ⟨.refl _, ?_, .refl _, trivial⟩⟩
    refine Eq.mp (congrArg (fun z => WkV _ (.i z)) ?_) (.refl _)
    show _ = k + ((cntL cntBB (l.take (i + 1)) : Nat) : Int)
    omega
  · refine kSeq (kSeq (kReg (kMovC rfl (kMovC rfl (kLen rfl rfl rfl (kBin rfl rfl rfl (kDone ?_)))))))
    rw [len_encL, hlen']
    refine kCond rfl (fun h1 => by exfalso; simp at h1; omega) (fun h1 => ?_)
    refine kExit (kExC (kExI (kExB ?_)))
    obtain rfl : i = l.length := by omega
    refine kSeq (kReg (kMovC rfl (kMovC rfl (kDone (kRet ?_)))))
    subst hF
    refine endRet (ra := [.one (.d _)]) rfl ⟨⟨⟨rfl, .inl rfl⟩, trivial⟩, .nil, ⟨rfl, fun _ => rfl, rfl⟩, trivial, trivial⟩ ?_
    refine ⟨by simp, ?_⟩
    show encN (markL cntBB markss (l.take l.length) k ++ l.drop l.length) = _
    simp

def c_laws_heldByteS : C := (.seq (.reg false (.o 0 4 (.mov (.i 0)) .done)) (.seq (.seq (.reg false (.o 0 5 (.mov (.i 0)) .done)) (.block 0 (.loop (.seq (.seq (.reg false (.o 0 6 (.mov (.t 5)) (.o 1 7 (.mov (.t 0)) (.o 2 8 (.len (.t 7)) (.o 3 9 (.bin .lss (.t 6) (.t 8)) .done))))) (.cond (.t 9) .skip (.exit 0))) (.seq (.block 1 (.seq (.seq (.reg false (.o 0 12 (.mov (.t 0)) (.o 1 13 (.mov (.t 5)) (.o 2 14 (.iad 1 (.t 12) (.t 13)) (.o 3 15 (.load none (.t 14)) (.o 4 16 (.mov (.t 1)) (.o 5 17 (.conv .u8 (.t 16)) (.o 6 18 (.bin .neq (.t 15) (.t 17)) .done)))))))) (.cond (.t 18) (.seq (.reg false (.o 0 4 (.mov (.i (-1))) .done)) .ret) .skip)) (.reg false (.o 0 19 (.mov (.t 1)) (.o 1 20 (.bin .add (.t 19) (.i 1)) (.o 2 1 (.mov (.t 20)) .done)))))) (.reg false (.o 0 10 (.mov (.t 5)) (.o 1 11 (.bin .add (.t 10) (.i 1)) (.o 2 5 (.mov (.t 11)) .done))))))))) (.seq (.reg false (.o 0 21 (.mov (.t 1)) (.o 1 4 (.mov (.t 21)) .done))) .ret)))
theorem dg_laws_heldByteS : Tryz.f160.body.bind (digC Tryz.prog Tryz.f160.ntmps []) = some c_laws_heldByteS := by kernel_rfl
theorem rs_laws_heldByteS : resSlots Tryz.prog Tryz.f160 = some [.s 4] := by kernel_rfl
theorem ok_laws_heldByteS (n : Nat) (k : Int) (h0 : 0 ≤ k) (hk : k + n ≤ 9223372036854775807) :
    FnOK Tryz.prog 160 [.one (.d (encB (marks n k))), .one (.d (.sc (.int .i64 k)))] (fun ra _ => ra = [.one (.d (.sc (.int .i64 (k + n))))]) := by
  refine FnOK.ofK Tryz.func160 (by kernel_rfl) dg_laws_heldByteS rs_laws_heldByteS rfl rfl ?_
  delta c_laws_heldByteS T.o X.i
  have hm := marks_len n k
  refine kSeq (kReg (kMovC rfl (kDone (kSeq (kSeq (kReg (kMovC rfl (kDone (kBlock ?_)))))))))
  refine kLoop (α := { i : Nat // i ≤ n })
    (fun y => ⟨tabSl [(0, .dv (encB (marks n k))), (1, .i (k + y.1)), (5, .i y.1)], obTab 1 [], []⟩) (fun y => n - y.1) ⟨0, by simp⟩
    .normA ?_
  rintro ⟨i, hi⟩
  simp only
  refine kSeq (kSeq (kReg (kMovC rfl (kMovC rfl (kLenR rfl rfl (kBin rfl rfl rfl (kDone (kCondP rfl (fun g0 => kSkip (kSeq (kBlock (kSeq (kSeq (kReg (kMovC rfl (kMovC rfl (kIadR rfl rfl rfl (by omega) (kLoadD rfl rfl (kMovC rfl (kConv rfl (kBin rfl rfl rfl (kDone (kCondN rfl (fun g1 => kSeq (kReg (kMovC rfl (kDone (kRet (endRetA (ra := [.one (.d _)]) rfl ?_)))))) (fun g1 => kSkip (kReg (kMovC rfl (kAdd rfl rfl (by omega) (kMovC rfl (kDone (kBk (kReg (kMovC rfl (kAdd rfl rfl (by omega) (kMovC rfl (kDone ?_))))))))))))))))))))))))))) (fun g0 => kExit (kExC (kExI (kExB (kSeq (kReg (kMovC rfl (kMovC rfl (kDone (kRet (endRetA (ra := [.one (.d _)]) rfl ?_)))))))))))))))))))
  · rw [marks_get, beq_self_eq_true] at g1; cases g1
  · exact kInv ⟨⟨i + 1, by omega⟩, by simp only; omega, .normA⟩
  · rw [show i = n by omega]

def c_laws_heldByteSS : C := (.seq (.reg false (.o 0 4 (.mov (.i 0)) .done)) (.seq (.seq (.reg false (.o 0 5 (.mov (.i 0)) .done)) (.block 0 (.loop (.seq (.seq (.reg false (.o 0 6 (.mov (.t 5)) (.o 1 7 (.mov (.t 0)) (.o 2 8 (.len (.t 7)) (.o 3 9 (.bin .lss (.t 6) (.t 8)) .done))))) (.cond (.t 9) .skip (.exit 0))) (.seq (.block 1 (.seq (.reg false (.o 0 12 (.mov (.t 0)) (.o 1 13 (.mov (.t 5)) (.o 2 14 (.iad 1 (.t 12) (.t 13)) (.o 3 15 (.load none (.t 14)) (.o 4 16 (.mov (.t 1)) (.o 5 17 (.call 17 160 [(.t 15), (.t 16)]) (.o 6 1 (.mov (.t 17)) .done)))))))) (.seq (.reg false (.o 0 18 (.mov (.t 1)) (.o 1 19 (.bin .lss (.t 18) (.i 0)) .done))) (.cond (.t 19) (.seq (.reg false (.o 0 4 (.mov (.i (-1))) .done)) .ret) .skip)))) (.reg false (.o 0 10 (.mov (.t 5)) (.o 1 11 (.bin .add (.t 10) (.i 1)) (.o 2 5 (.mov (.t 11)) .done))))))))) (.seq (.reg false (.o 0 20 (.mov (.t 1)) (.o 1 4 (.mov (.t 20)) .done))) .ret)))
theorem dg_laws_heldByteSS : Tryz.f114.body.bind (digC Tryz.prog Tryz.f114.ntmps []) = some c_laws_heldByteSS := by kernel_rfl
theorem rs_laws_heldByteSS : resSlots Tryz.prog Tryz.f114 = some [.s 4] := by kernel_rfl
theorem ok_laws_heldByteSS (a : List (List UInt8)) (k : Int) (h0 : 0 ≤ k) (hk : k + a.flatten.length ≤ 9223372036854775807) (hl : a.length ≤ 4194304) :
    FnOK Tryz.prog 114 [.one (.d (encBB (markss a k))), .one (.d (.sc (.int .i64 k)))] (fun ra _ => ra = [.one (.d (.sc (.int .i64 (k + a.flatten.length))))]) := by
  refine FnOK.ofK Tryz.func114 (by kernel_rfl) dg_laws_heldByteSS rs_laws_heldByteSS rfl rfl ?_
  delta c_laws_heldByteSS T.o X.i
  have hm := markss_len a k
  refine kSeq (kReg (kMovC rfl (kDone (kSeq (kSeq (kReg (kMovC rfl (kDone (kBlock ?_)))))))))
  refine kLoop (α := { i : Nat // i ≤ a.length })
    (fun y => ⟨tabSl [(0, .dv (encBB (markss a k))), (1, .i (k + (a.take y.1).flatten.length)), (5, .i y.1)], obTab 1 [], []⟩) (fun y => a.length - y.1) ⟨0, by simp⟩
    .normA ?_
  rintro ⟨i, hi⟩
  simp only
  have hsuc : ∀ h : i < a.length, (a.take (i + 1)).flatten.length = (a.take i).flatten.length + a[i].length := take_flat a i
  have hle := flat_le a i
  have hle2 := flat_le a (i + 1)
  refine kSeq (kSeq (kReg (kMovC rfl (kMovC rfl (kLenR rfl rfl (kBin rfl rfl rfl (kDone (kCondP rfl (fun g0 => kSkip (kSeq (kBlock (kSeq (kReg (kMovC rfl (kMovC rfl (kIadR rfl rfl rfl (by omega) (kLoadD rfl rfl (kMovC rfl ?_)))))))))) (fun g0 => kExit (kExC (kExI (kExB (kSeq (kReg (kMovC rfl (kMovC rfl (kDone (kRet (endRetA (ra := [.one (.d _)]) rfl ?_)))))))))))))))))))
  · have hlt : i < a.length := by omega
    have := hsuc hlt
    rw [markss_get a k i (by omega) hlt]
    refine kCall1 true (ok_laws_heldByteS a[i].length (k + (a.take i).flatten.length) (by omega) (by omega)) ⟨rfl, rfl, trivial⟩ rfl rfl rfl (fun _ => ?_)
    refine kMovC rfl (kDone (kSeq (kReg (kMovC rfl (kBin rfl rfl rfl (kDone (kCondP rfl (fun g0 => kSeq (kReg (kMovC rfl (kDone (kRet (endRetA (ra := [.one (.d _)]) rfl ?_)))))) (fun g0 => kSkip (kBk (kReg (kMovC rfl (kAdd rfl rfl (by omega) (kMovC rfl (kDone ?_))))))))))))))
    · omega
    · exact kInv ⟨⟨i + 1, by omega⟩, by simp only; omega, .normA⟩
  · rw [show i = a.length by omega, List.take_length]

def c_laws_heldNameS : C := (.seq (.reg false (.o 0 4 (.mov (.i 0)) .done)) (.seq (.seq (.reg false (.o 0 5 (.mov (.i 0)) .done)) (.block 0 (.loop (.seq (.seq (.reg false (.o 0 6 (.mov (.t 5)) (.o 1 7 (.mov (.t 0)) (.o 2 8 (.len (.t 7)) (.o 3 9 (.bin .lss (.t 6) (.t 8)) .done))))) (.cond (.t 9) .skip (.exit 0))) (.seq (.block 1 (.seq (.reg false (.o 0 12 (.mov (.t 0)) (.o 1 13 (.mov (.t 5)) (.o 2 14 (.iad 1 (.t 12) (.t 13)) (.o 3 15 (.fad (.t 14) 0) (.o 4 16 (.load none (.t 15)) (.o 5 17 (.mov (.t 1)) (.o 6 18 (.call 18 114 [(.t 16), (.t 17)]) (.o 7 1 (.mov (.t 18)) .done))))))))) (.seq (.reg false (.o 0 19 (.mov (.t 1)) (.o 1 20 (.bin .lss (.t 19) (.i 0)) .done))) (.cond (.t 20) (.seq (.reg false (.o 0 4 (.mov (.i (-1))) .done)) .ret) .skip)))) (.reg false (.o 0 10 (.mov (.t 5)) (.o 1 11 (.bin .add (.t 10) (.i 1)) (.o 2 5 (.mov (.t 11)) .done))))))))) (.seq (.reg false (.o 0 21 (.mov (.t 1)) (.o 1 4 (.mov (.t 21)) .done))) .ret)))
theorem dg_laws_heldNameS : Tryz.f39.body.bind (digC Tryz.prog Tryz.f39.ntmps []) = some c_laws_heldNameS := by kernel_rfl
theorem rs_laws_heldNameS : resSlots Tryz.prog Tryz.f39 = some [.s 4] := by kernel_rfl
theorem ok_laws_heldNameS (l : List (List (List UInt8))) (k : Int) (h0 : 0 ≤ k) (hk : k + cntL cntBB l ≤ 9223372036854775807) (hs : SmallNs l) :
    FnOK Tryz.prog 39 [.one (.d (encN (markL cntBB markss l k))), .one (.d (.sc (.int .i64 k)))] (fun ra _ => ra = [.one (.d (.sc (.int .i64 (k + cntL cntBB l))))]) := by
  refine FnOK.ofK Tryz.func39 (by kernel_rfl) dg_laws_heldNameS rs_laws_heldNameS rfl rfl ?_
  delta c_laws_heldNameS T.o X.i
  have hm := markL_len cntBB markss l k
  have h1 := hs.len
  refine kSeq (kReg (kMovC rfl (kDone (kSeq (kSeq (kReg (kMovC rfl (kDone (kBlock ?_)))))))))
  refine kLoop (α := { i : Nat // i ≤ l.length }) (fun y => ⟨tabSl [(0, .dv (encN (markL cntBB markss l k))), (1, .i (k + cntL cntBB (l.take y.1))), (5, .i y.1)], obTab 1 [], []⟩) (fun y => l.length - y.1) ⟨0, by simp⟩ .normA ?_
  rintro ⟨i, hi⟩
  simp only
  have hle := cntL_le cntBB l i
  have hle2 := cntL_le cntBB l (i + 1)
  rcases Nat.lt_or_ge i l.length with hlt | hge
  · have hbi := hs.mem _ (List.getElem_mem hlt)
    have n1 := hbi.len
    have n2 := hbi.mem
    have hsuc := cntL_take cntBB l i hlt
    have hrow := markL_get cntBB markss l k i (by omega) hlt
    have hb0 : cntBB l[i] = l[i].flatten.length := rfl
    refine kSeq (kSeq (kReg (kMovC rfl (kMovC rfl (kLenR rfl rfl (kBin rfl rfl rfl (kDone (kCondP rfl (fun g0 => kSkip (kSeq (kBlock (kSeq (kReg (kMovC rfl (kMovC rfl (kIadRW rfl rfl rfl (by first | omega | (simp only [List.length_append, List.length_cons, List.length_nil]; omega)) hrow (kFadD rfl (kLoadD rfl rfl (kMovC rfl (kCallD (ok_laws_heldByteSS _ _ (by first | assumption | omega | solve_by_elim [List.getElem_mem] | (simp only [szOut] at *; omega) | exact rfl | exact leb | exact rrOk_small (by assumption) | exact zoneOk_small (by assumption) | exact SmallBB.ok (by assumption) | exact (SmallBB.ok (by assumption)).len | exact (SmallBB.ok (by assumption)).mem | exact SmallBB.bent (by assumption)) (by first | assumption | omega | solve_by_elim [List.getElem_mem] | (simp only [szOut] at *; omega) | exact rfl | exact leb | exact rrOk_small (by assumption) | exact zoneOk_small (by assumption) | exact SmallBB.ok (by assumption) | exact (SmallBB.ok (by assumption)).len | exact (SmallBB.ok (by assumption)).mem | exact SmallBB.bent (by assumption)) (by first | assumption | omega | solve_by_elim [List.getElem_mem] | (simp only [szOut] at *; omega) | exact rfl | exact leb | exact rrOk_small (by assumption) | exact zoneOk_small (by assumption) | exact SmallBB.ok (by assumption) | exact (SmallBB.ok (by assumption)).len | exact (SmallBB.ok (by assumption)).mem | exact SmallBB.bent (by assumption))) ⟨rfl, rfl, trivial⟩ rfl rfl rfl rfl rfl (kMovC rfl (kDone (kSeq (kReg (kMovC rfl (kBin rfl rfl rfl (kDone (kCondP rfl (fun g1 => (by omega)) (fun g1 => kSkip (kBk (kReg (kMovC rfl (kAdd rfl rfl (by omega) (kMovC rfl (kDone ?_))))))))))))))))))))))))))) (fun g0 => (by omega))))))))))
    exact kInv ⟨⟨i + 1, by omega⟩, by simp only; omega, .normA⟩
  · refine kSeq (kSeq (kReg (kMovC rfl (kMovC rfl (kLenR rfl rfl (kBin rfl rfl rfl (kDone (kCondP rfl (fun g0 => (by omega)) (fun g0 => kExit (kExC (kExI (kExB (kSeq (kReg (kMovC rfl (kMovC rfl (kDone (kRet (endRetA (ra := [.one (.d _)]) rfl ?_)))))))))))))))))))
    rw [show i = l.length by omega, List.take_length]

def c_laws_FnExactCacheNames : C := (.seq (.reg false (.o 0 1 (.box 1 (.t 0)) (.o 1 2 (.mov (.v (.bool false))) .done))) (.seq (.reg false (.o 0 3 (.mov (.i 1048576)) .done)) (.seq (.reg false (.o 0 11 (.load (some 3) (.t 1)) (.o 1 12 (.mov (.t 3)) (.o 2 13 (.call 13 31 [(.t 11), (.t 12)]) (.o 3 3 (.mov (.t 13)) .done))))) (.seq (.seq (.reg false (.o 0 14 (.mov (.t 3)) (.o 1 15 (.bin .lss (.t 14) (.i 0)) .done))) (.cond (.t 15) (.seq (.reg false (.o 0 2 (.mov (.v (.bool true))) .done)) .ret) .skip)) (.seq (.reg false (.o 0 16 (.load (some 3) (.t 1)) (.o 1 17 (.call 17 33 [(.t 16)]) (.o 2 18 (.call 18 32 [(.t 17)]) (.o 3 4 (.mov (.t 18)) .done))))) (.seq (.reg false (.o 0 19 (.load (some 3) (.t 1)) (.o 1 20 (.call 20 33 [(.t 19)]) (.o 2 5 (.alloc 5 [(.i 0), (.i 0), (.n 7)]) (.op 3 [] none none false (.store (some 3) (.t 5) (.t 20)) .done))))) (.seq (.reg false (.o 0 21 (.load (some 3) (.t 5)) (.o 1 22 (.call 22 34 [(.t 21)]) (.o 2 6 (.mov (.t 22)) .done)))) (.seq (.seq (.reg false (.o 0 23 (.mov (.t 6)) (.o 1 24 (.mov (.t 4)) (.o 2 25 (.call 25 35 [(.t 23), (.t 24)]) (.o 3 26 (.un .not (.t 25)) .done))))) (.cond (.t 26) (.seq (.reg false (.o 0 2 (.mov (.v (.bool false))) .done)) .ret) .skip)) (.seq (.seq (.reg true (.op 0 [] (some 27) none true (.load (some 3) (.t 5)) (.op 1 [] (some 28) none true (.load (some 3) (.t 1)) (.op 2 [1] (some 29) none false (.call 29 33 [(.t 28)]) (.op 3 [0, 1] (some 30) none false (.call 30 36 [(.t 27), (.t 29)]) (.op 4 [] (some 31) none true (.un .not (.t 30)) .done)))))) (.cond (.t 31) (.seq (.reg false (.o 0 2 (.mov (.v (.bool false))) .done)) .ret) .skip)) (.seq (.reg false (.o 0 7 (.mov (.i 1)) .done)) (.seq (.reg false (.o 0 32 (.load (some 3) (.t 5)) (.o 1 33 (.mov (.t 7)) (.o 2 34 (.call 34 37 [(.t 32), (.t 33)]) (.o 3 7 (.mov (.t 34)) .done))))) (.seq (.seq (.reg false (.o 0 35 (.mov (.t 7)) (.o 1 36 (.bin .lss (.t 35) (.i 0)) (.o 2 37 (.mov (.t 36)) (.op 3 [] (some 38) (some (37, false)) false (.mov (.t 6)) (.op 4 [] (some 39) (some (37, false)) false (.mov (.t 4)) (.op 5 [] (some 40) (some (37, false)) false (.call 40 35 [(.t 38), (.t 39)]) (.op 6 [] (some 41) (some (37, false)) false (.un .not (.t 40)) (.o 7 42 (.pick (.t 37) (.v (.bool true)) (.t 41)) .done))))))))) (.cond (.t 42) (.seq (.reg false (.o 0 2 (.mov (.v (.bool false))) .done)) .ret) .skip)) (.seq (.reg false (.o 0 8 (.mov (.i 1)) .done)) (.seq (.reg false (.o 0 43 (.mov (.t 6)) (.o 1 44 (.mov (.t 8)) (.o 2 45 (.call 45 38 [(.t 43), (.t 44)]) (.o 3 8 (.mov (.t 45)) .done))))) (.seq (.reg false (.o 0 9 (.mov (.i 1)) .done)) (.seq (.reg false (.o 0 46 (.mov (.t 6)) (.o 1 47 (.mov (.t 9)) (.o 2 48 (.call 48 39 [(.t 46), (.t 47)]) (.o 3 9 (.mov (.t 48)) .done))))) (.seq (.seq (.reg false (.o 0 49 (.mov (.t 9)) (.o 1 50 (.bin .lss (.t 49) (.i 0)) .done))) (.cond (.t 50) (.seq (.reg false (.o 0 2 (.mov (.v (.bool false))) .done)) .ret) .skip)) (.seq (.seq (.reg false (.o 0 51 (.mov (.t 9)) (.o 1 52 (.mov (.t 8)) (.o 2 53 (.bin .neq (.t 51) (.t 52)) .done)))) (.cond (.t 53) (.seq (.reg false (.o 0 2 (.mov (.v (.bool false))) .done)) .ret) .skip)) (.seq (.reg false (.o 0 54 (.load (some 3) (.t 1)) (.o 1 55 (.call 55 33 [(.t 54)]) (.o 2 56 (.call 56 34 [(.t 55)]) (.o 3 10 (.mov (.t 56)) .done))))) (.seq (.seq (.reg false (.o 0 57 (.mov (.t 10)) (.o 1 58 (.mov (.t 4)) (.o 2 59 (.call 59 35 [(.t 57), (.t 58)]) (.o 3 60 (.un .not (.t 59)) .done))))) (.cond (.t 60) (.seq (.reg false (.o 0 2 (.mov (.v (.bool false))) .done)) .ret) .skip)) (.seq (.reg false (.o 0 9 (.mov (.i 1)) .done)) (.seq (.reg false (.o 0 61 (.mov (.t 6)) (.o 1 62 (.mov (.t 9)) (.o 2 63 (.call 63 39 [(.t 61), (.t 62)]) (.o 3 9 (.mov (.t 63)) .done))))) (.seq (.seq (.reg false (.o 0 64 (.mov (.t 9)) (.o 1 65 (.bin .lss (.t 64) (.i 0)) .done))) (.cond (.t 65) (.seq (.reg false (.o 0 2 (.mov (.v (.bool false))) .done)) .ret) .skip)) (.seq (.seq (.reg false (.o 0 66 (.mov (.t 9)) (.o 1 67 (.mov (.t 8)) (.o 2 68 (.bin .neq (.t 66) (.t 67)) .done)))) (.cond (.t 68) (.seq (.reg false (.o 0 2 (.mov (.v (.bool false))) .done)) .ret) .skip)) (.seq (.reg false (.o 0 2 (.mov (.v (.bool true))) .done)) .ret)))))))))))))))))))))))))
theorem dg_laws_FnExactCacheNames : Tryz.f6.body.bind (digC Tryz.prog Tryz.f6.ntmps []) = some c_laws_FnExactCacheNames := by kernel_rfl
theorem rs_laws_FnExactCacheNames : resSlots Tryz.prog Tryz.f6 = some [.s 2] := by kernel_rfl
theorem ok_laws_FnExactCacheNames (c : Cache) (hb : BigSs c.slots) :
    FnOK Tryz.prog 6 [.agg (c.cells.map .d)] (fun ra _ => ra = [.one (.d (.sc (.bool true)))]) := by
  refine FnOK.ofK Tryz.func6 (by kernel_rfl) dg_laws_FnExactCacheNames rs_laws_FnExactCacheNames rfl rfl ?_
  delta c_laws_FnExactCacheNames T.o X.i
  refine kSeq (kReg (kBox rfl rfl rfl rfl rfl (kMovC rfl (kDone (kSeq (kReg (kMovC rfl (kDone (kSeq (kReg (kLoadP rfl rfl rfl (kMovC rfl (kCallD (ok_laws_szCache _ _ (by first | assumption | omega | solve_by_elim [List.getElem_mem] | (simp only [szOut] at *; omega) | exact rfl | exact leb | exact rrOk_small (by assumption) | exact zoneOk_small (by assumption) | exact SmallBB.ok (by assumption) | exact (SmallBB.ok (by assumption)).len | exact (SmallBB.ok (by assumption)).mem | exact SmallBB.bent (by assumption)) (by first | assumption | omega | solve_by_elim [List.getElem_mem] | (simp only [szOut] at *; omega) | exact rfl | exact leb | exact rrOk_small (by assumption) | exact zoneOk_small (by assumption) | exact SmallBB.ok (by assumption) | exact (SmallBB.ok (by assumption)).len | exact (SmallBB.ok (by assumption)).mem | exact SmallBB.bent (by assumption)) (by first | assumption | omega | solve_by_elim [List.getElem_mem] | (simp only [szOut] at *; omega) | exact rfl | exact leb | exact rrOk_small (by assumption) | exact zoneOk_small (by assumption) | exact SmallBB.ok (by assumption) | exact (SmallBB.ok (by assumption)).len | exact (SmallBB.ok (by assumption)).mem | exact SmallBB.bent (by assumption))) ⟨⟨⟨rfl, rfl, rfl, trivial⟩, leb⟩, rfl, trivial⟩ rfl rfl rfl rfl rfl (kMovC rfl (kDone (kSeq (kSeq (kReg (kMovC rfl (kBin rfl rfl rfl (kDone (kCondP rfl (fun g0 => kSeq (kReg (kMovC rfl (kDone (kRet (endRetA (ra := [.one (.d _)]) rfl rfl)))))) (fun g0 => kSkip (kSeq (kReg (kLoadP rfl rfl rfl ?_))))))))))))))))))))))))))
  have c1 := szOut_ok g0
  have hs : SmallSs c.slots := .ofCost (by omega)
  have hn : SmallNs (namesN c) := .names hs
  have k1 : (cntSs c.slots : Int) ≤ 8388608 := by have := cntSs_cost c.slots; omega
  have k2 : (cntL cntBB (namesN c) : Int) ≤ cntSs c.slots := by exact Int.ofNat_le.2 (cntNs_names c)
  refine kCall1 true (ok_laws_toCache _ (by first | assumption | omega | solve_by_elim [List.getElem_mem] | (simp only [szOut] at *; omega) | exact rfl | exact leb | exact rrOk_small (by assumption) | exact zoneOk_small (by assumption) | exact SmallBB.ok (by assumption) | exact (SmallBB.ok (by assumption)).len | exact (SmallBB.ok (by assumption)).mem | exact SmallBB.bent (by assumption))) ⟨⟨⟨rfl, rfl, rfl, trivial⟩, leb⟩, trivial⟩ rfl rfl rfl (fun _ => (kMem [(73730, ⟨1, 0, .arr true _⟩)] [(17, .g [.d _, .d _, .arr 73730 1]), (18, .c (.un))] [] ⟨rfl, trivial⟩ ⟨rfl, rfl, trivial⟩ rfl (kCall1 true (ok_spec_CacheNames _ (by first | assumption | omega | solve_by_elim [List.getElem_mem] | (simp only [szOut] at *; omega) | exact rfl | exact leb | exact rrOk_small (by assumption) | exact zoneOk_small (by assumption) | exact SmallBB.ok (by assumption) | exact (SmallBB.ok (by assumption)).len | exact (SmallBB.ok (by assumption)).mem | exact SmallBB.bent (by assumption))) ⟨⟨⟨rfl, rfl, rfl, trivial⟩, leb⟩, trivial⟩ rfl rfl rfl (fun _ => (kMovC rfl (kDone (kSeq (kReg (kLoadP rfl rfl rfl (kCall1 true (ok_laws_toCache _ (by first | assumption | omega | solve_by_elim [List.getElem_mem] | (simp only [szOut] at *; omega) | exact rfl | exact leb | exact rrOk_small (by assumption) | exact zoneOk_small (by assumption) | exact SmallBB.ok (by assumption) | exact (SmallBB.ok (by assumption)).len | exact (SmallBB.ok (by assumption)).mem | exact SmallBB.bent (by assumption))) ⟨⟨⟨rfl, rfl, rfl, trivial⟩, leb⟩, trivial⟩ rfl rfl rfl (fun _ => (kAlloc rfl rfl (kMem [(24576, ⟨1, 0, .box [.d _, .d _, .nil 7]⟩), (86018, ⟨1, 0, .arr true _⟩)] [(5, .c (.ptr 24576 1 0)), (20, .g [.d _, .d _, .arr 86018 1])] [] ⟨rfl, rfl, trivial⟩ ⟨rfl, rfl, trivial⟩ rfl (kStoreP rfl rfl rfl rfl (kDone (kSeq (kReg (kLoadP rfl rfl rfl (kCall1 true (ok_impl_CacheNames _ (by first | assumption | omega | solve_by_elim [List.getElem_mem] | (simp only [szOut] at *; omega) | exact rfl | exact leb | exact rrOk_small (by assumption) | exact zoneOk_small (by assumption) | exact SmallBB.ok (by assumption) | exact (SmallBB.ok (by assumption)).len | exact (SmallBB.ok (by assumption)).mem | exact SmallBB.bent (by assumption))) ⟨⟨⟨rfl, rfl, rfl, trivial⟩, leb⟩, trivial⟩ rfl rfl rfl (fun _ => (kMovC rfl (kDone (kSeq (kSeq (kReg (kMovC rfl (kMovC rfl (kCallD (ok_laws_eqNameS _ _ (by first | assumption | omega | solve_by_elim [List.getElem_mem] | (simp only [szOut] at *; omega) | exact rfl | exact leb | exact rrOk_small (by assumption) | exact zoneOk_small (by assumption) | exact SmallBB.ok (by assumption) | exact (SmallBB.ok (by assumption)).len | exact (SmallBB.ok (by assumption)).mem | exact SmallBB.bent (by assumption))) ⟨rfl, rfl, trivial⟩ rfl rfl rfl rfl rfl (kUn rfl rfl (kDone (kCondN rfl (fun g0 => (by (simp at g0))) (fun g0 => kSkip (kSeq (kSeq (kRegD (kLoadP rfl rfl rfl (kMem [(8192, ⟨1, 0, .box [.d _, .d _, .d _]⟩), (86018, ⟨1, 0, .arr true _⟩)] [(1, .c (.ptr 8192 1 0)), (28, .c (.un)), (27, .g [.d _, .d _, .arr 86018 1]), (29, .c (.un)), (30, .c (.un))] [24576] ⟨rfl, rfl, trivial⟩ ⟨rfl, rfl, rfl, rfl, rfl, trivial⟩ rfl (kLoadP rfl rfl rfl (kRelK rfl rfl (kCall1 true (ok_laws_toCache _ (by first | assumption | omega | solve_by_elim [List.getElem_mem] | (simp only [szOut] at *; omega) | exact rfl | exact leb | exact rrOk_small (by assumption) | exact zoneOk_small (by assumption) | exact SmallBB.ok (by assumption) | exact (SmallBB.ok (by assumption)).len | exact (SmallBB.ok (by assumption)).mem | exact SmallBB.bent (by assumption))) ⟨⟨⟨rfl, rfl, rfl, trivial⟩, leb⟩, trivial⟩ rfl rfl rfl (fun _ => (kRelF rfl rfl (kCallD (ok_laws_eqCache _ _ (by first | assumption | omega | solve_by_elim [List.getElem_mem] | (simp only [szOut] at *; omega) | exact rfl | exact leb | exact rrOk_small (by assumption) | exact zoneOk_small (by assumption) | exact SmallBB.ok (by assumption) | exact (SmallBB.ok (by assumption)).len | exact (SmallBB.ok (by assumption)).mem | exact SmallBB.bent (by assumption))) ⟨⟨⟨rfl, rfl, rfl, trivial⟩, leb⟩, ⟨⟨rfl, rfl, rfl, trivial⟩, leb⟩, trivial⟩ rfl rfl rfl rfl rfl (kUn rfl rfl (kDone (kH (kCondN rfl (fun g1 => (by (simp at g1))) (fun g1 => kSkip (kSeq (kReg (kMovC rfl (kDone (kSeq (kReg (kLoadP rfl rfl rfl (kMovC rfl (kCallM (ok_laws_markCache _ _ (by first | assumption | omega | solve_by_elim [List.getElem_mem] | (simp only [szOut] at *; omega) | exact rfl | exact leb | exact rrOk_small (by assumption) | exact zoneOk_small (by assumption) | exact SmallBB.ok (by assumption) | exact (SmallBB.ok (by assumption)).len | exact (SmallBB.ok (by assumption)).mem | exact SmallBB.bent (by assumption)) (by first | assumption | omega | solve_by_elim [List.getElem_mem] | (simp only [szOut] at *; omega) | exact rfl | exact leb | exact rrOk_small (by assumption) | exact zoneOk_small (by assumption) | exact SmallBB.ok (by assumption) | exact (SmallBB.ok (by assumption)).len | exact (SmallBB.ok (by assumption)).mem | exact SmallBB.bent (by assumption)) (by first | assumption | omega | solve_by_elim [List.getElem_mem] | (simp only [szOut] at *; omega) | exact rfl | exact leb | exact rrOk_small (by assumption) | exact zoneOk_small (by assumption) | exact SmallBB.ok (by assumption) | exact (SmallBB.ok (by assumption)).len | exact (SmallBB.ok (by assumption)).mem | exact SmallBB.bent (by assumption))) ⟨⟨⟨rfl, rfl, ⟨_, rfl, .inl rfl⟩, trivial⟩, leb⟩, rfl, trivial⟩ rfl rfl rfl (kMovC rfl (kDone (kSeq (kSeq (kReg (kMovC rfl (kBin rfl rfl rfl (kMovC rfl (kGT rfl (kMovC rfl (kGT rfl (kMovC rfl (kMem [(94208, ⟨1, 0, .arr true _⟩), (77824, ⟨1, 0, .arr true _⟩)] [(38, .c (.arr 94208 1)), (39, .c (.arr 77824 1)), (40, .c (.un)), (37, .c (.d _)), (41, .c (.un))] [] ⟨rfl, rfl, trivial⟩ ⟨rfl, rfl, rfl, rfl, rfl, trivial⟩ rfl (kGT rfl (kCallD (ok_laws_eqNameS _ _ (by first | assumption | omega | solve_by_elim [List.getElem_mem] | (simp only [szOut] at *; omega) | exact rfl | exact leb | exact rrOk_small (by assumption) | exact zoneOk_small (by assumption) | exact SmallBB.ok (by assumption) | exact (SmallBB.ok (by assumption)).len | exact (SmallBB.ok (by assumption)).mem | exact SmallBB.bent (by assumption))) ⟨rfl, rfl, trivial⟩ rfl rfl rfl rfl rfl (kGT rfl (kUn rfl rfl (kPickF rfl (kMovC rfl (kDone (kCondN rfl (fun g2 => (by (simp at g2))) (fun g2 => kSkip (kSeq (kReg (kMovC rfl (kDone (kSeq (kReg (kMovC rfl (kMovC rfl (kCallA (ok_laws_markNameS _ _ (by first | assumption | omega | solve_by_elim [List.getElem_mem] | (simp only [szOut] at *; omega) | exact rfl | exact leb | exact rrOk_small (by assumption) | exact zoneOk_small (by assumption) | exact SmallBB.ok (by assumption) | exact (SmallBB.ok (by assumption)).len | exact (SmallBB.ok (by assumption)).mem | exact SmallBB.bent (by assumption)) (by first | assumption | omega | solve_by_elim [List.getElem_mem] | (simp only [szOut] at *; omega) | exact rfl | exact leb | exact rrOk_small (by assumption) | exact zoneOk_small (by assumption) | exact SmallBB.ok (by assumption) | exact (SmallBB.ok (by assumption)).len | exact (SmallBB.ok (by assumption)).mem | exact SmallBB.bent (by assumption)) (by first | assumption | omega | solve_by_elim [List.getElem_mem] | (simp only [szOut] at *; omega) | exact rfl | exact leb | exact rrOk_small (by assumption) | exact zoneOk_small (by assumption) | exact SmallBB.ok (by assumption) | exact (SmallBB.ok (by assumption)).len | exact (SmallBB.ok (by assumption)).mem | exact SmallBB.bent (by assumption))) ⟨⟨_, rfl, .inl rfl⟩, rfl, trivial⟩ rfl rfl rfl rfl (kMovC rfl (kDone (kSeq (kReg (kMovC rfl (kDone (kSeq (kReg (kMovC rfl (kMovC rfl (kMem [(94208, ⟨1, 1, .arr true _⟩)] [(46, .c (.arr 94208 1)), (47, .c (.d _)), (48, .c (.un))] [] ⟨rfl, trivial⟩ ⟨rfl, rfl, rfl, trivial⟩ rfl (kCallD (ok_laws_heldNameS _ _ (by first | assumption | omega | solve_by_elim [List.getElem_mem] | (simp only [szOut] at *; omega) | exact rfl | exact leb | exact rrOk_small (by assumption) | exact zoneOk_small (by assumption) | exact SmallBB.ok (by assumption) | exact (SmallBB.ok (by assumption)).len | exact (SmallBB.ok (by assumption)).mem | exact SmallBB.bent (by assumption)) (by first | assumption | omega | solve_by_elim [List.getElem_mem] | (simp only [szOut] at *; omega) | exact rfl | exact leb | exact rrOk_small (by assumption) | exact zoneOk_small (by assumption) | exact SmallBB.ok (by assumption) | exact (SmallBB.ok (by assumption)).len | exact (SmallBB.ok (by assumption)).mem | exact SmallBB.bent (by assumption)) (by first | assumption | omega | solve_by_elim [List.getElem_mem] | (simp only [szOut] at *; omega) | exact rfl | exact leb | exact rrOk_small (by assumption) | exact zoneOk_small (by assumption) | exact SmallBB.ok (by assumption) | exact (SmallBB.ok (by assumption)).len | exact (SmallBB.ok (by assumption)).mem | exact SmallBB.bent (by assumption))) ⟨rfl, rfl, trivial⟩ rfl rfl rfl rfl rfl (kMovC rfl (kDone (kSeq (kSeq (kReg (kMovC rfl (kBin rfl rfl rfl (kDone (kCondF rfl (kSkip (kSeq (kSeq (kReg (kMovC rfl (kMovC rfl (kBin rfl rfl rfl (kDone (kCondIN rfl (fun g3 => (by omega)) (fun g3 => kSkip (kSeq (kReg (kLoadP rfl rfl rfl (kCall1 true (ok_laws_toCache _ (by first | assumption | omega | solve_by_elim [List.getElem_mem] | (simp only [szOut] at *; omega) | exact rfl | exact leb | exact rrOk_small (by assumption) | exact zoneOk_small (by assumption) | exact SmallBB.ok (by assumption) | exact (SmallBB.ok (by assumption)).len | exact (SmallBB.ok (by assumption)).mem | exact SmallBB.bent (by assumption))) ⟨⟨⟨rfl, rfl, rfl, trivial⟩, leb⟩, trivial⟩ rfl rfl rfl (fun _ => (kCall1 true (ok_impl_CacheNames _ (by first | assumption | omega | solve_by_elim [List.getElem_mem] | (simp only [szOut] at *; omega) | exact rfl | exact leb | exact rrOk_small (by assumption) | exact zoneOk_small (by assumption) | exact SmallBB.ok (by assumption) | exact (SmallBB.ok (by assumption)).len | exact (SmallBB.ok (by assumption)).mem | exact SmallBB.bent (by assumption))) ⟨⟨⟨rfl, rfl, rfl, trivial⟩, leb⟩, trivial⟩ rfl rfl rfl (fun _ => (kMem [(233472, ⟨1, 0, .arr true _⟩)] [(56, .c (.arr 233472 1))] [] ⟨rfl, trivial⟩ ⟨rfl, trivial⟩ rfl (kMovC rfl (kDone (kSeq (kSeq (kReg (kMovC rfl (kMovC rfl (kCallD (ok_laws_eqNameS _ _ (by first | assumption | omega | solve_by_elim [List.getElem_mem] | (simp only [szOut] at *; omega) | exact rfl | exact leb | exact rrOk_small (by assumption) | exact zoneOk_small (by assumption) | exact SmallBB.ok (by assumption) | exact (SmallBB.ok (by assumption)).len | exact (SmallBB.ok (by assumption)).mem | exact SmallBB.bent (by assumption))) ⟨rfl, rfl, trivial⟩ rfl rfl rfl rfl rfl (kUn rfl rfl (kDone (kCondN rfl (fun g4 => (by (simp at g4))) (fun g4 => kSkip (kSeq (kReg (kMovC rfl (kDone (kSeq (kReg (kMovC rfl (kMovC rfl (kCallD (ok_laws_heldNameS _ _ (by first | assumption | omega | solve_by_elim [List.getElem_mem] | (simp only [szOut] at *; omega) | exact rfl | exact leb | exact rrOk_small (by assumption) | exact zoneOk_small (by assumption) | exact SmallBB.ok (by assumption) | exact (SmallBB.ok (by assumption)).len | exact (SmallBB.ok (by assumption)).mem | exact SmallBB.bent (by assumption)) (by first | assumption | omega | solve_by_elim [List.getElem_mem] | (simp only [szOut] at *; omega) | exact rfl | exact leb | exact rrOk_small (by assumption) | exact zoneOk_small (by assumption) | exact SmallBB.ok (by assumption) | exact (SmallBB.ok (by assumption)).len | exact (SmallBB.ok (by assumption)).mem | exact SmallBB.bent (by assumption)) (by first | assumption | omega | solve_by_elim [List.getElem_mem] | (simp only [szOut] at *; omega) | exact rfl | exact leb | exact rrOk_small (by assumption) | exact zoneOk_small (by assumption) | exact SmallBB.ok (by assumption) | exact (SmallBB.ok (by assumption)).len | exact (SmallBB.ok (by assumption)).mem | exact SmallBB.bent (by assumption))) ⟨rfl, rfl, trivial⟩ rfl rfl rfl rfl rfl (kMovC rfl (kDone (kSeq (kSeq (kReg (kMovC rfl (kBin rfl rfl rfl (kDone (kCondF rfl (kSkip (kSeq (kSeq (kReg (kMovC rfl (kMovC rfl (kBin rfl rfl rfl (kDone (kCondIN rfl (fun g5 => (by omega)) (fun g5 => kSkip (kSeq (kReg (kMovC rfl (kDone (kRet (endRetA (ra := [.one (.d _)]) rfl rfl)))))))))))))))))))))))))))))))))))))))))))))))))))))))))))))))))))))))))))))))))))))))))))))))))))))))))))))))))))))))))))))))))))))))))))))))))))))))))))))))))))))))))))))

end Go.Proofs.YtbmagbgdpmgbmaaGreat.FnExactCacheNamesFn
