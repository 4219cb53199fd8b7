/- What the functions that FnExactAskOf reaches compute, one contract each; each with the bounds that it states. -/
import Derived.Test.YtmecljfkakjmbaaGreatHearth3
import Derived.Test.YtmecljfkakjmbaaGreatProg
import Derived.KernelRfl
set_option maxRecDepth 100000
set_option maxHeartbeats 8000000
set_option linter.unusedVariables false
set_option linter.unusedSimpArgs false
namespace Go.Proofs.YtmecljfkakjmbaaGreat.FnExactAskOfFn
open Go Hearth Go.Proofs

def c_laws_szByteS : C := (.seq (.reg false (.op 0 [] (some 4) none false (.mov (.v (.int .i64 0)))
  .done))
 (.seq (.reg false (.op 0 [] (some 5) none false (.mov (.t 1))
  (.op 1 [] (some 6) none false (.mov (.t 0))
  (.op 2 [] (some 7) none false (.len (.t 6))
  (.op 3 [] (some 8) none false (.bin .sub (.t 5) (.t 7))
  (.op 4 [] (some 1) none false (.mov (.t 8))
  .done))))))
 (.seq (.seq (.reg false (.op 0 [] (some 9) none false (.mov (.t 1))
  (.op 1 [] (some 10) none false (.bin .lss (.t 9) (.v (.int .i64 0)))
  .done)))
 (.cond (.t 10)
 (.seq (.reg false (.op 0 [] (some 4) none false (.mov (.v (.int .i64 (-1))))
  .done))
 .ret)
 .skip))
 (.seq (.reg false (.op 0 [] (some 11) none false (.mov (.t 1))
  (.op 1 [] (some 4) none false (.mov (.t 11))
  .done)))
 .ret))))
theorem dg_laws_szByteS : Tryz.f89.body.bind (digC Tryz.prog Tryz.f89.ntmps []) = some c_laws_szByteS := by kernel_rfl
theorem rs_laws_szByteS : resSlots Tryz.prog Tryz.f89 = some [.s 4] := by kernel_rfl
theorem ok_laws_szByteS (b : List UInt8) (n : Int) (hb : (b.length : Int) ≤ 9223372036854775807) (h0 : 0 ≤ n) (h1 : n ≤ 4194304) :
    FnOK Tryz.prog 89 [.one (.d (encB b)), .one (.d (.sc (.int .i64 n)))] (fun ra _ => ra = [.one (.d (.sc (.int .i64 (szOut n b.length))))]) := by
  refine FnOK.ofK Tryz.func89 (by kernel_rfl) dg_laws_szByteS rs_laws_szByteS rfl rfl ?_
  unfold c_laws_szByteS
  refine kSeq (kReg (kMovC rfl (kDone ?_)))
  refine kSeq (kReg ?_)
  refine kMovC rfl (kMovC rfl (kLen rfl rfl rfl ?_))
  refine kDif rfl rfl ?_ ?_
  · simp [encB, DV.len] at *; omega
  refine kMovC rfl (kDone ?_)
  refine kSeq (kSeq (kReg (kMovC rfl (kBin rfl rfl rfl (kDone ?_)))))
  refine kCond rfl (fun h => ?_) (fun h => ?_)
  · refine kSeq (kReg (kMovC rfl (kDone (kRet ⟨nofun, ?_⟩))))
    refine ⟨[.one (.d _)], _, ?_, rfl, ⟨⟨⟨rfl, .inl rfl⟩, trivial⟩, .nil, trivial, trivial, trivial⟩⟩
    unfold szOut
    simp [encB, DV.len] at h ⊢
    omega
  · refine kSkip (kSeq (kReg (kMovC rfl (kMovC rfl (kDone (kRet ⟨nofun, ?_⟩))))))
    refine ⟨[.one (.d _)], _, ?_, rfl, ⟨⟨⟨rfl, .inl rfl⟩, trivial⟩, .nil, trivial, trivial, trivial⟩⟩
    unfold szOut
    simp [encB, DV.len] at h ⊢
    omega

def c_laws_szByteSS : C := (.seq (.reg false (.op 0 [] (some 4) none false (.mov (.v (.int .i64 0)))
  .done))
 (.seq (.reg false (.op 0 [] (some 6) none false (.mov (.t 1))
  (.op 1 [] (some 7) none false (.mov (.t 0))
  (.op 2 [] (some 8) none false (.len (.t 7))
  (.op 3 [] (some 9) none false (.bin .sub (.t 6) (.t 8))
  (.op 4 [] (some 1) none false (.mov (.t 9))
  .done))))))
 (.seq (.seq (.reg false (.op 0 [] (some 10) none false (.mov (.t 1))
  (.op 1 [] (some 11) none false (.bin .lss (.t 10) (.v (.int .i64 0)))
  .done)))
 (.cond (.t 11)
 (.seq (.reg false (.op 0 [] (some 4) none false (.mov (.v (.int .i64 (-1))))
  .done))
 .ret)
 .skip))
 (.seq (.seq (.reg false (.op 0 [] (some 5) none false (.mov (.v (.int .i64 0)))
  .done))
 (.block 0 (.loop (.seq (.seq (.reg false (.op 0 [] (some 12) none false (.mov (.t 5))
  (.op 1 [] (some 13) none false (.mov (.t 0))
  (.op 2 [] (some 14) none false (.len (.t 13))
  (.op 3 [] (some 15) none false (.bin .lss (.t 12) (.t 14))
  .done)))))
 (.cond (.t 15)
 .skip
 (.exit 0)))
 (.seq (.block 1 (.seq (.reg false (.op 0 [] (some 18) none false (.mov (.t 0))
  (.op 1 [] (some 19) none false (.mov (.t 5))
  (.op 2 [] (some 20) none false (.iad 1 (.t 18) (.t 19))
  (.op 3 [] (some 21) none false (.load none (.t 20))
  (.op 4 [] (some 22) none false (.mov (.t 1))
  (.op 5 [] (some 23) none false (.call 23 89 [(.t 21), (.t 22)])
  (.op 6 [] (some 1) none false (.mov (.t 23))
  .done))))))))
 (.seq (.reg false (.op 0 [] (some 24) none false (.mov (.t 1))
  (.op 1 [] (some 25) none false (.bin .lss (.t 24) (.v (.int .i64 0)))
  .done)))
 (.cond (.t 25)
 (.seq (.reg false (.op 0 [] (some 4) none false (.mov (.v (.int .i64 (-1))))
  .done))
 .ret)
 .skip))))
 (.reg false (.op 0 [] (some 16) none false (.mov (.t 5))
  (.op 1 [] (some 17) none false (.bin .add (.t 16) (.v (.int .i64 1)))
  (.op 2 [] (some 5) none false (.mov (.t 17))
  .done)))))))))
 (.seq (.reg false (.op 0 [] (some 26) none false (.mov (.t 1))
  (.op 1 [] (some 4) none false (.mov (.t 26))
  .done)))
 .ret)))))
theorem dg_laws_szByteSS : Tryz.f78.body.bind (digC Tryz.prog Tryz.f78.ntmps []) = some c_laws_szByteSS := by kernel_rfl
theorem rs_laws_szByteSS : resSlots Tryz.prog Tryz.f78 = some [.s 4] := by kernel_rfl
theorem ok_laws_szByteSS (a : List (List UInt8)) (n : Int) (ha : (a.length : Int) ≤ 9223372036854775807) (hb : ∀ b ∈ a, (b.length : Int) ≤ 9223372036854775807) (h0 : 0 ≤ n) (h1 : n ≤ 4194304) :
    FnOK Tryz.prog 78 [.one (.d (encBB a)), .one (.d (.sc (.int .i64 n)))] (fun ra _ => ra = [.one (.d (.sc (.int .i64 (szOut n (a.length + a.flatten.length)))))]) := by
  refine FnOK.ofK Tryz.func78 (by kernel_rfl) dg_laws_szByteSS rs_laws_szByteSS rfl rfl ?_
  unfold c_laws_szByteSS
  refine kSeq (kReg (kMovC rfl (kDone ?_)))
  refine kSeq (kReg (kMovC rfl (kMovC rfl (kLen rfl rfl rfl ?_))))
  rw [len_encBB]
  refine kDif rfl rfl (by omega) (kMovC rfl (kDone ?_))
  refine kSeq (kSeq (kReg (kMovC rfl (kBin rfl rfl rfl (kDone ?_)))))
  refine kCond rfl (fun h => ?_) (fun h => ?_)
  · refine kSeq (kReg (kMovC rfl (kDone (kRet ?_))))
    refine endRet (ra := [.one (.d _)]) rfl ⟨⟨⟨rfl, .inl rfl⟩, trivial⟩, .nil, trivial, trivial, trivial⟩ ?_
    simp only [decide_eq_true_eq] at h
    rw [szOut, if_pos (by omega)]
  have hn : 0 ≤ n - a.length := by simp only [decide_eq_false_iff_not] at h; omega
  refine kSkip (kSeq (kSeq (kReg (kMovC rfl (kDone (kBlock ?_))))))
  refine kLoop (α := { i : Nat // i ≤ a.length ∧ 0 ≤ n - a.length - (a.take i).flatten.length })
    (fun y => ⟨tabSl [(0, .dv (encBB a)), (1, .i (n - a.length - (a.take y.1).flatten.length)), (5, .i y.1)], (St.init [.one (.d (encBB a)), .one (.d (.sc (.int .i64 n)))]).ob, []⟩) (fun y => a.length - y.1) ⟨0, by simpa using hn⟩
    (.tab rfl ⟨.refl _, by simpa using .refl _, .refl _, trivial⟩) ?_
  rintro ⟨i, hi, hs⟩
  simp only
  refine kSeq (kSeq (kReg ?_))
  refine kMovC rfl (kMovC rfl (kLen rfl rfl rfl (kBin rfl rfl rfl (kDone ?_))))
  rw [len_encBB]
  refine kCond rfl (fun h1 => ?_) (fun h1 => ?_)
  · have hlt : i < a.length := by simp at h1; omega
    have hfl := take_flat a i hlt
    have hle := flat_le a (i + 1)
    have hbi := hb _ (List.getElem_mem hlt)
    refine kSkip (kSeq (kBlock (kSeq (kReg (kMovC rfl (kMovC rfl (kIadD rfl rfl rfl rfl ?_ ?_)))))))
    · rw [len_encBB]; omega
    rw [show (encBB a).row (i : Int).toNat = [encB a[i]] from row_encBB a i hlt]
    refine kLoadD rfl rfl (kMovC rfl ?_)
    refine kCall1 true (ok_laws_szByteS a[i] (n - a.length - (a.take i).flatten.length) hbi hs (by omega)) ⟨rfl, rfl, trivial⟩ rfl rfl rfl fun os => ?_
    refine kMovC rfl (kDone (kSeq (kReg (kMovC rfl (kBin rfl rfl rfl (kDone ?_))))))
    refine kCond rfl (fun h2 => ?_) (fun h2 => ?_)
    · refine kSeq (kReg (kMovC rfl (kDone (kRet ?_))))
      refine endRet (ra := [.one (.d _)]) rfl ⟨⟨⟨rfl, .inl rfl⟩, trivial⟩, .nil, trivial, trivial, trivial⟩ ?_
      replace h2 := of_decide_eq_true h2
      unfold szOut at h2
      rw [szOut, if_pos (by split at h2 <;> omega)]
    · replace h2 := of_decide_eq_false h2
      unfold szOut at h2
      have hs' : 0 ≤ n - a.length - (a.take (i + 1)).flatten.length := by split at h2 <;> omega
      refine kSkip (kBk (kReg (kMovC rfl (kAdd rfl rfl (by omega) (kMovC rfl (kDone (kInv ?_)))))))
      refine ⟨⟨i + 1, hlt, hs'⟩, by simp only; omega, .tab rfl ⟨.refl _, ?_, .refl _, trivial⟩⟩
      show WkV (.i (szOut _ _)) (.i (n - a.length - ((a.take (i + 1)).flatten.length : Int)))
      rw [szOut, if_neg (by omega), show n - (a.length : Int) - ((a.take (i + 1)).flatten.length : Int) = n - a.length - (a.take i).flatten.length - a[i].length by omega]
      exact .refl _
  · refine kExit (kExC (kExI (kExB ?_)))
    have hge : i = a.length := by simp at h1; omega
    subst hge
    rw [List.take_length] at hs
    refine kSeq (kReg (kMovC rfl (kMovC rfl (kDone (kRet ?_)))))
    refine endRet (ra := [.one (.d _)]) rfl ⟨⟨⟨rfl, .inl rfl⟩, trivial⟩, .nil, trivial, trivial, trivial⟩ ?_
    rw [szOut, if_neg (by omega), List.take_length, show n - (a.length : Int) - (a.flatten.length : Int) = n - ((a.length + a.flatten.length : Nat) : Int) by omega]

def c_laws_szName : C := (.seq (.reg false (.op 0 [] (some 2) none false (.box 2 (.t 0))
  (.op 1 [] (some 4) none false (.mov (.v (.int .i64 0)))
  .done)))
 (.seq (.reg false (.op 0 [] (some 5) none false (.fad (.t 2) 0)
  (.op 1 [] (some 6) none false (.load none (.t 5))
  (.op 2 [] (some 7) none false (.mov (.t 1))
  (.op 3 [] (some 8) none false (.call 8 78 [(.t 6), (.t 7)])
  (.op 4 [] (some 1) none false (.mov (.t 8))
  .done))))))
 (.seq (.seq (.reg false (.op 0 [] (some 9) none false (.mov (.t 1))
  (.op 1 [] (some 10) none false (.bin .lss (.t 9) (.v (.int .i64 0)))
  .done)))
 (.cond (.t 10)
 (.seq (.reg false (.op 0 [] (some 4) none false (.mov (.v (.int .i64 (-1))))
  .done))
 .ret)
 .skip))
 (.seq (.reg false (.op 0 [] (some 11) none false (.mov (.t 1))
  (.op 1 [] (some 4) none false (.mov (.t 11))
  .done)))
 .ret))))
theorem dg_laws_szName : Tryz.f29.body.bind (digC Tryz.prog Tryz.f29.ntmps []) = some c_laws_szName := by kernel_rfl
theorem rs_laws_szName : resSlots Tryz.prog Tryz.f29 = some [.s 4] := by kernel_rfl
theorem ok_laws_szName (a : List (List UInt8)) (n : Int) (ha : (a.length : Int) ≤ 9223372036854775807) (hb : ∀ b ∈ a, (b.length : Int) ≤ 9223372036854775807) (h0 : 0 ≤ n) (h1 : n ≤ 4194304) :
    FnOK Tryz.prog 29 [.agg [.d (encBB a)], .one (.d (.sc (.int .i64 n)))] (fun ra _ => ra = [.one (.d (.sc (.int .i64 (szOut n (a.length + a.flatten.length)))))]) := by
  refine FnOK.ofK Tryz.func29 (by kernel_rfl) dg_laws_szName rs_laws_szName rfl rfl ?_
  unfold c_laws_szName
  refine kSeq (kReg (kBox rfl rfl rfl rfl rfl (kMovC rfl (kDone ?_))))
  refine kSeq (kReg (kFadP rfl rfl (kLoadP rfl rfl rfl (kMovC rfl ?_))))
  refine kCall1 true (ok_laws_szByteSS a n ha hb h0 h1) ⟨rfl, rfl, trivial⟩ rfl rfl rfl fun os => ?_
  refine kMovC rfl (kDone (kSeq (kSeq (kReg (kMovC rfl (kBin rfl rfl rfl (kDone ?_)))))))
  refine kCond rfl (fun h => ?_) (fun h => ?_)
  · refine kSeq (kReg (kMovC rfl (kDone (kRet ?_))))
    refine endRet (ra := [.one (.d _)]) rfl ⟨⟨⟨rfl, .inl rfl⟩, trivial⟩, .nil, ⟨trivial, trivial⟩, trivial, trivial⟩ ?_
    replace h := of_decide_eq_true h
    unfold szOut at h
    rw [szOut, if_pos (by split at h <;> omega)]
  · refine kSkip (kSeq (kReg (kMovC rfl (kMovC rfl (kDone (kRet ?_))))))
    exact endRet (ra := [.one (.d _)]) rfl ⟨⟨⟨rfl, .inl rfl⟩, trivial⟩, .nil, ⟨trivial, trivial⟩, trivial, trivial⟩ rfl

def c_laws_szQuestion : C := (.seq (.reg false (.op 0 [] (some 2) none false (.box 2 (.t 0))
  (.op 1 [] (some 4) none false (.mov (.v (.int .i64 0)))
  .done)))
 (.seq (.reg false (.op 0 [] (some 5) none false (.fad (.t 2) 0)
  (.op 1 [] (some 6) none false (.load (some 1) (.t 5))
  (.op 2 [] (some 7) none false (.mov (.t 1))
  (.op 3 [] (some 8) none false (.call 8 29 [(.t 6), (.t 7)])
  (.op 4 [] (some 1) none false (.mov (.t 8))
  .done))))))
 (.seq (.seq (.reg false (.op 0 [] (some 9) none false (.mov (.t 1))
  (.op 1 [] (some 10) none false (.bin .lss (.t 9) (.v (.int .i64 0)))
  .done)))
 (.cond (.t 10)
 (.seq (.reg false (.op 0 [] (some 4) none false (.mov (.v (.int .i64 (-1))))
  .done))
 .ret)
 .skip))
 (.seq (.reg false (.op 0 [] (some 11) none false (.mov (.t 1))
  (.op 1 [] (some 4) none false (.mov (.t 11))
  .done)))
 .ret))))
theorem dg_laws_szQuestion : Tryz.f64.body.bind (digC Tryz.prog Tryz.f64.ntmps []) = some c_laws_szQuestion := by kernel_rfl
theorem rs_laws_szQuestion : resSlots Tryz.prog Tryz.f64 = some [.s 4] := by kernel_rfl
theorem ok_laws_szQuestion (a : List (List UInt8)) (t n : Int) (ha : (a.length : Int) ≤ 9223372036854775807) (hb : ∀ b ∈ a, (b.length : Int) ≤ 9223372036854775807) (h0 : 0 ≤ n) (h1 : n ≤ 4194304) :
    FnOK Tryz.prog 64 [.agg [.d (encBB a), .d (.sc (.int .i64 t))], .one (.d (.sc (.int .i64 n)))] (fun ra _ => ra = [.one (.d (.sc (.int .i64 (szOut n (a.length + a.flatten.length)))))]) := by
  refine FnOK.ofK Tryz.func64 (by kernel_rfl) dg_laws_szQuestion rs_laws_szQuestion rfl rfl ?_
  unfold c_laws_szQuestion
  refine kSeq (kReg (kBox rfl rfl rfl rfl rfl (kMovC rfl (kDone (kSeq (kReg (kFadP rfl rfl (kLoadP rfl rfl rfl (kMovC rfl (kCallD (ok_laws_szName _ _ (by first | assumption | omega | solve_by_elim [List.getElem_mem] | (simp only [szOut] at *; omega)) (by first | assumption | omega | solve_by_elim [List.getElem_mem] | (simp only [szOut] at *; omega)) (by first | assumption | omega | solve_by_elim [List.getElem_mem] | (simp only [szOut] at *; omega)) (by first | assumption | omega | solve_by_elim [List.getElem_mem] | (simp only [szOut] at *; omega))) ⟨⟨⟨rfl, trivial⟩, Nat.le_of_ble_eq_true rfl⟩, rfl, trivial⟩ rfl rfl rfl rfl rfl (kMovC rfl (kDone (kSeq (kSeq (kReg (kMovC rfl (kBin rfl rfl rfl (kDone (kCondP rfl (fun g0 => kSeq (kReg (kMovC rfl (kDone (kRet (endRetA (ra := [.one (.d _)]) rfl ?_)))))) (fun g0 => kSkip (kSeq (kReg (kMovC rfl (kMovC rfl (kDone (kRet (endRetA (ra := [.one (.d _)]) rfl rfl)))))))))))))))))))))))))))
  all_goals rw [szOut_neg (by assumption)]

def c_laws_szIntS : C := (.seq (.reg false (.op 0 [] (some 4) none false (.mov (.v (.int .i64 0)))
  .done))
 (.seq (.reg false (.op 0 [] (some 5) none false (.mov (.t 1))
  (.op 1 [] (some 6) none false (.mov (.t 0))
  (.op 2 [] (some 7) none false (.len (.t 6))
  (.op 3 [] (some 8) none false (.bin .sub (.t 5) (.t 7))
  (.op 4 [] (some 1) none false (.mov (.t 8))
  .done))))))
 (.seq (.seq (.reg false (.op 0 [] (some 9) none false (.mov (.t 1))
  (.op 1 [] (some 10) none false (.bin .lss (.t 9) (.v (.int .i64 0)))
  .done)))
 (.cond (.t 10)
 (.seq (.reg false (.op 0 [] (some 4) none false (.mov (.v (.int .i64 (-1))))
  .done))
 .ret)
 .skip))
 (.seq (.reg false (.op 0 [] (some 11) none false (.mov (.t 1))
  (.op 1 [] (some 4) none false (.mov (.t 11))
  .done)))
 .ret))))
theorem dg_laws_szIntS : Tryz.f65.body.bind (digC Tryz.prog Tryz.f65.ntmps []) = some c_laws_szIntS := by kernel_rfl
theorem rs_laws_szIntS : resSlots Tryz.prog Tryz.f65 = some [.s 4] := by kernel_rfl
theorem ok_laws_szIntS (l : List Int) (n : Int) (hb : (l.length : Int) ≤ 9223372036854775807) (h0 : 0 ≤ n) (h1 : n ≤ 4194304) :
    FnOK Tryz.prog 65 [.one (.d (encI l)), .one (.d (.sc (.int .i64 n)))] (fun ra _ => ra = [.one (.d (.sc (.int .i64 (szOut n l.length))))]) := by
  refine FnOK.ofK Tryz.func65 (by kernel_rfl) dg_laws_szIntS rs_laws_szIntS rfl rfl ?_
  unfold c_laws_szIntS
  refine kSeq (kReg (kMovC rfl (kDone (kSeq (kReg (kMovC rfl (kMovC rfl (kLenR rfl rfl (kDif rfl rfl (by omega) (kMovC rfl (kDone (kSeq (kSeq (kReg (kMovC rfl (kBin rfl rfl rfl (kDone (kCondP rfl (fun g0 => kSeq (kReg (kMovC rfl (kDone (kRet (endRetA (ra := [.one (.d _)]) rfl ?_)))))) (fun g0 => kSkip (kSeq (kReg (kMovC rfl (kMovC rfl (kDone (kRet (endRetA (ra := [.one (.d _)]) rfl ?_))))))))))))))))))))))))))
  · rw [szOut, if_pos (by omega)]
  · rw [szOut, if_neg (by omega)]

def c_laws_szRr : C := (.seq (.reg false (.op 0 [] (some 2) none false (.box 2 (.t 0))
  (.op 1 [] (some 4) none false (.mov (.v (.int .i64 0)))
  .done)))
 (.seq (.reg false (.op 0 [] (some 5) none false (.fad (.t 2) 0)
  (.op 1 [] (some 6) none false (.load (some 1) (.t 5))
  (.op 2 [] (some 7) none false (.mov (.t 1))
  (.op 3 [] (some 8) none false (.call 8 29 [(.t 6), (.t 7)])
  (.op 4 [] (some 1) none false (.mov (.t 8))
  .done))))))
 (.seq (.seq (.reg false (.op 0 [] (some 9) none false (.mov (.t 1))
  (.op 1 [] (some 10) none false (.bin .lss (.t 9) (.v (.int .i64 0)))
  .done)))
 (.cond (.t 10)
 (.seq (.reg false (.op 0 [] (some 4) none false (.mov (.v (.int .i64 (-1))))
  .done))
 .ret)
 .skip))
 (.seq (.reg false (.op 0 [] (some 11) none false (.fad (.t 2) 4)
  (.op 1 [] (some 12) none false (.load (some 1) (.t 11))
  (.op 2 [] (some 13) none false (.mov (.t 1))
  (.op 3 [] (some 14) none false (.call 14 29 [(.t 12), (.t 13)])
  (.op 4 [] (some 1) none false (.mov (.t 14))
  .done))))))
 (.seq (.seq (.reg false (.op 0 [] (some 15) none false (.mov (.t 1))
  (.op 1 [] (some 16) none false (.bin .lss (.t 15) (.v (.int .i64 0)))
  .done)))
 (.cond (.t 16)
 (.seq (.reg false (.op 0 [] (some 4) none false (.mov (.v (.int .i64 (-1))))
  .done))
 .ret)
 .skip))
 (.seq (.reg false (.op 0 [] (some 17) none false (.fad (.t 2) 5)
  (.op 1 [] (some 18) none false (.load none (.t 17))
  (.op 2 [] (some 19) none false (.mov (.t 1))
  (.op 3 [] (some 20) none false (.call 20 89 [(.t 18), (.t 19)])
  (.op 4 [] (some 1) none false (.mov (.t 20))
  .done))))))
 (.seq (.seq (.reg false (.op 0 [] (some 21) none false (.mov (.t 1))
  (.op 1 [] (some 22) none false (.bin .lss (.t 21) (.v (.int .i64 0)))
  .done)))
 (.cond (.t 22)
 (.seq (.reg false (.op 0 [] (some 4) none false (.mov (.v (.int .i64 (-1))))
  .done))
 .ret)
 .skip))
 (.seq (.reg false (.op 0 [] (some 23) none false (.fad (.t 2) 6)
  (.op 1 [] (some 24) none false (.load none (.t 23))
  (.op 2 [] (some 25) none false (.mov (.t 1))
  (.op 3 [] (some 26) none false (.call 26 65 [(.t 24), (.t 25)])
  (.op 4 [] (some 1) none false (.mov (.t 26))
  .done))))))
 (.seq (.seq (.reg false (.op 0 [] (some 27) none false (.mov (.t 1))
  (.op 1 [] (some 28) none false (.bin .lss (.t 27) (.v (.int .i64 0)))
  .done)))
 (.cond (.t 28)
 (.seq (.reg false (.op 0 [] (some 4) none false (.mov (.v (.int .i64 (-1))))
  .done))
 .ret)
 .skip))
 (.seq (.reg false (.op 0 [] (some 29) none false (.mov (.t 1))
  (.op 1 [] (some 4) none false (.mov (.t 29))
  .done)))
 .ret))))))))))
theorem dg_laws_szRr : Tryz.f35.body.bind (digC Tryz.prog Tryz.f35.ntmps []) = some c_laws_szRr := by kernel_rfl
theorem rs_laws_szRr : resSlots Tryz.prog Tryz.f35 = some [.s 4] := by kernel_rfl
theorem ok_laws_szRr (r : Rr) (n : Int) (hb : BigR r) (h0 : 0 ≤ n) (h1 : n ≤ 4194304) :
    FnOK Tryz.prog 35 [.agg (r.cells.map .d), .one (.d (.sc (.int .i64 n)))] (fun ra _ => ra = [.one (.d (.sc (.int .i64 (szOut n (costR r)))))]) := by
  refine FnOK.ofK Tryz.func35 (by kernel_rfl) dg_laws_szRr rs_laws_szRr rfl rfl ?_
  unfold c_laws_szRr
  have b1 := hb.n.len
  have b2 := hb.n.mem
  have b3 := hb.t.len
  have b4 := hb.t.mem
  have b5 := hb.x
  have b6 := hb.m
  refine kSeq (kReg (kBox rfl rfl rfl rfl rfl (kMovC rfl (kDone (kSeq (kReg (kFadP rfl rfl (kLoadP rfl rfl rfl (kMovC rfl (kCallD (ok_laws_szName _ _ (by first | assumption | omega | solve_by_elim [List.getElem_mem] | (simp only [szOut] at *; omega)) (by first | assumption | omega | solve_by_elim [List.getElem_mem] | (simp only [szOut] at *; omega)) (by first | assumption | omega | solve_by_elim [List.getElem_mem] | (simp only [szOut] at *; omega)) (by first | assumption | omega | solve_by_elim [List.getElem_mem] | (simp only [szOut] at *; omega))) ⟨⟨⟨rfl, trivial⟩, Nat.le_of_ble_eq_true rfl⟩, rfl, trivial⟩ rfl rfl rfl rfl rfl (kMovC rfl (kDone (kSeq (kSeq (kReg (kMovC rfl (kBin rfl rfl rfl (kDone (kCondP rfl (fun g0 => kSeq (kReg (kMovC rfl (kDone (kRet (endRetA (ra := [.one (.d _)]) rfl ?_)))))) (fun g0 => kSkip (kSeq (kReg (kFadP rfl rfl (kLoadP rfl rfl rfl (kMovC rfl (kCallD (ok_laws_szName _ _ (by first | assumption | omega | solve_by_elim [List.getElem_mem] | (simp only [szOut] at *; omega)) (by first | assumption | omega | solve_by_elim [List.getElem_mem] | (simp only [szOut] at *; omega)) (by first | assumption | omega | solve_by_elim [List.getElem_mem] | (simp only [szOut] at *; omega)) (by first | assumption | omega | solve_by_elim [List.getElem_mem] | (simp only [szOut] at *; omega))) ⟨⟨⟨rfl, trivial⟩, Nat.le_of_ble_eq_true rfl⟩, rfl, trivial⟩ rfl rfl rfl rfl rfl (kMovC rfl (kDone (kSeq (kSeq (kReg (kMovC rfl (kBin rfl rfl rfl (kDone (kCondP rfl (fun g1 => kSeq (kReg (kMovC rfl (kDone (kRet (endRetA (ra := [.one (.d _)]) rfl ?_)))))) (fun g1 => kSkip (kSeq (kReg (kFadP rfl rfl (kLoadP rfl rfl rfl (kMovC rfl (kCallD (ok_laws_szByteS _ _ (by first | assumption | omega | solve_by_elim [List.getElem_mem] | (simp only [szOut] at *; omega)) (by first | assumption | omega | solve_by_elim [List.getElem_mem] | (simp only [szOut] at *; omega)) (by first | assumption | omega | solve_by_elim [List.getElem_mem] | (simp only [szOut] at *; omega))) ⟨rfl, rfl, trivial⟩ rfl rfl rfl rfl rfl (kMovC rfl (kDone (kSeq (kSeq (kReg (kMovC rfl (kBin rfl rfl rfl (kDone (kCondP rfl (fun g2 => kSeq (kReg (kMovC rfl (kDone (kRet (endRetA (ra := [.one (.d _)]) rfl ?_)))))) (fun g2 => kSkip (kSeq (kReg (kFadP rfl rfl (kLoadP rfl rfl rfl (kMovC rfl (kCallD (ok_laws_szIntS _ _ (by first | assumption | omega | solve_by_elim [List.getElem_mem] | (simp only [szOut] at *; omega)) (by first | assumption | omega | solve_by_elim [List.getElem_mem] | (simp only [szOut] at *; omega)) (by first | assumption | omega | solve_by_elim [List.getElem_mem] | (simp only [szOut] at *; omega))) ⟨rfl, rfl, trivial⟩ rfl rfl rfl rfl rfl (kMovC rfl (kDone (kSeq (kSeq (kReg (kMovC rfl (kBin rfl rfl rfl (kDone (kCondP rfl (fun g3 => kSeq (kReg (kMovC rfl (kDone (kRet (endRetA (ra := [.one (.d _)]) rfl ?_)))))) (fun g3 => kSkip (kSeq (kReg (kMovC rfl (kMovC rfl (kDone (kRet (endRetA (ra := [.one (.d _)]) rfl ?_)))))))))))))))))))))))))))))))))))))))))))))))))))))))))))))))))))))))))))
  all_goals (refine congrArg (fun z : Int => [RA.one (RV.d (DV.sc (Value.int IntKind.i64 z)))]) ?_; simp only [costR, costBB, szOut] at *; omega)

def c_laws_szRrS : C := (.seq (.reg false (.op 0 [] (some 4) none false (.mov (.v (.int .i64 0)))
  .done))
 (.seq (.reg false (.op 0 [] (some 6) none false (.mov (.t 1))
  (.op 1 [] (some 7) none false (.mov (.t 0))
  (.op 2 [] (some 8) none false (.len (.t 7))
  (.op 3 [] (some 9) none false (.bin .sub (.t 6) (.t 8))
  (.op 4 [] (some 1) none false (.mov (.t 9))
  .done))))))
 (.seq (.seq (.reg false (.op 0 [] (some 10) none false (.mov (.t 1))
  (.op 1 [] (some 11) none false (.bin .lss (.t 10) (.v (.int .i64 0)))
  .done)))
 (.cond (.t 11)
 (.seq (.reg false (.op 0 [] (some 4) none false (.mov (.v (.int .i64 (-1))))
  .done))
 .ret)
 .skip))
 (.seq (.seq (.reg false (.op 0 [] (some 5) none false (.mov (.v (.int .i64 0)))
  .done))
 (.block 0 (.loop (.seq (.seq (.reg false (.op 0 [] (some 12) none false (.mov (.t 5))
  (.op 1 [] (some 13) none false (.mov (.t 0))
  (.op 2 [] (some 14) none false (.len (.t 13))
  (.op 3 [] (some 15) none false (.bin .lss (.t 12) (.t 14))
  .done)))))
 (.cond (.t 15)
 .skip
 (.exit 0)))
 (.seq (.block 1 (.seq (.reg false (.op 0 [] (some 18) none false (.mov (.t 0))
  (.op 1 [] (some 19) none false (.mov (.t 5))
  (.op 2 [] (some 20) none false (.iad 7 (.t 18) (.t 19))
  (.op 3 [] (some 21) none false (.load (some 7) (.t 20))
  (.op 4 [] (some 22) none false (.mov (.t 1))
  (.op 5 [] (some 23) none false (.call 23 35 [(.t 21), (.t 22)])
  (.op 6 [] (some 1) none false (.mov (.t 23))
  .done))))))))
 (.seq (.reg false (.op 0 [] (some 24) none false (.mov (.t 1))
  (.op 1 [] (some 25) none false (.bin .lss (.t 24) (.v (.int .i64 0)))
  .done)))
 (.cond (.t 25)
 (.seq (.reg false (.op 0 [] (some 4) none false (.mov (.v (.int .i64 (-1))))
  .done))
 .ret)
 .skip))))
 (.reg false (.op 0 [] (some 16) none false (.mov (.t 5))
  (.op 1 [] (some 17) none false (.bin .add (.t 16) (.v (.int .i64 1)))
  (.op 2 [] (some 5) none false (.mov (.t 17))
  .done)))))))))
 (.seq (.reg false (.op 0 [] (some 26) none false (.mov (.t 1))
  (.op 1 [] (some 4) none false (.mov (.t 26))
  .done)))
 .ret)))))
theorem dg_laws_szRrS : Tryz.f48.body.bind (digC Tryz.prog Tryz.f48.ntmps []) = some c_laws_szRrS := by kernel_rfl
theorem rs_laws_szRrS : resSlots Tryz.prog Tryz.f48 = some [.s 4] := by kernel_rfl
theorem ok_laws_szRrS (a : List Rr) (n : Int) (hb : BigRs a) (h0 : 0 ≤ n) (h1 : n ≤ 4194304) :
    FnOK Tryz.prog 48 [.one (.d (encR a)), .one (.d (.sc (.int .i64 n)))] (fun ra _ => ra = [.one (.d (.sc (.int .i64 (szOut n (a.length + costRs a)))))]) := by
  refine FnOK.ofK Tryz.func48 (by kernel_rfl) dg_laws_szRrS rs_laws_szRrS rfl rfl ?_
  unfold c_laws_szRrS
  have ha := hb.len
  refine kSeq (kReg (kMovC rfl (kDone (kSeq (kReg (kMovC rfl (kMovC rfl (kLenR rfl rfl (kDif rfl rfl (by omega) (kMovC rfl (kDone (kSeq (kSeq (kReg (kMovC rfl (kBin rfl rfl rfl (kDone (kCondP rfl (fun g0 => kSeq (kReg (kMovC rfl (kDone (kRet (endRetA (ra := [.one (.d _)]) rfl ?_)))))) (fun g0 => kSkip (kSeq (kSeq (kReg (kMovC rfl (kDone (kBlock ?_)))))))))))))))))))))))))
  · rw [szOut, if_pos (by omega)]
  refine kLoop (α := { i : Nat // i ≤ a.length ∧ 0 ≤ n - a.length - costRs (a.take i) })
    (fun y => ⟨tabSl [(0, .dv (encR a)), (1, .i (n - a.length - costRs (a.take y.1))), (5, .i y.1)], obTab 1 [], []⟩) (fun y => a.length - y.1) ⟨0, by simp [costRs]; omega⟩
    .normA ?_
  rintro ⟨i, hi, hs⟩
  simp only
  rcases Nat.lt_or_ge i a.length with hlt | hge
  · have hbi := hb.mem _ (List.getElem_mem hlt)
    have e1 := costRs_take a i hlt
    have e2 := costRs_le a (i + 1)
    refine kSeq (kSeq (kReg (kMovC rfl (kMovC rfl (kLenR rfl rfl (kBin rfl rfl rfl (kDone (kCondP rfl (fun g0 => kSkip (kSeq (kBlock (kSeq (kReg (kMovC rfl (kMovC rfl (kIadR rfl rfl rfl (by omega) (kLoadD rfl rfl (kMovC rfl (kCallD (ok_laws_szRr _ _ (by first | assumption | omega | solve_by_elim [List.getElem_mem] | (simp only [szOut] at *; omega)) (by first | assumption | omega | solve_by_elim [List.getElem_mem] | (simp only [szOut] at *; omega)) (by first | assumption | omega | solve_by_elim [List.getElem_mem] | (simp only [szOut] at *; omega))) ⟨⟨⟨rfl, rfl, rfl, rfl, rfl, rfl, rfl, trivial⟩, Nat.le_of_ble_eq_true rfl⟩, rfl, trivial⟩ rfl rfl rfl rfl rfl (kMovC rfl (kDone (kSeq (kReg (kMovC rfl (kBin rfl rfl rfl (kDone (kCondP rfl (fun g1 => kSeq (kReg (kMovC rfl (kDone (kRet (endRetA (ra := [.one (.d _)]) rfl ?_)))))) (fun g1 => kSkip (kBk (kReg (kMovC rfl (kAdd rfl rfl (by omega) (kMovC rfl (kDone ?_)))))))))))))))))))))))))) (fun g0 => (by omega))))))))))
    · rw [szOut_lt_iff] at g1
      rw [szOut_one (by omega)]
    · rw [szOut_lt_iff] at g1
      refine kInv ⟨⟨i + 1, by omega, by omega⟩, by simp only; omega, .norm ?_ ?_⟩
      · refine ⟨⟨_, rfl, .inl rfl⟩, ⟨_, rfl, .inl (congrArg (fun z : Int => AC.d (.sc (.int .i64 z))) ?_)⟩, ⟨_, rfl, .inl rfl⟩, trivial⟩
        rw [szOut_pos (by omega)]; simp only; omega
      · exact trivial
  · refine kSeq (kSeq (kReg (kMovC rfl (kMovC rfl (kLenR rfl rfl (kBin rfl rfl rfl (kDone (kCondP rfl (fun g0 => (by omega)) (fun g0 => kExit (kExC (kExI (kExB (kSeq (kReg (kMovC rfl (kMovC rfl (kDone (kRet (endRetA (ra := [.one (.d _)]) rfl ?_)))))))))))))))))))
    have e : i = a.length := by omega
    subst e
    rw [List.take_length] at *
    refine congrArg (fun z : Int => [RA.one (RV.d (DV.sc (Value.int IntKind.i64 z)))]) ?_
    rw [szOut_pos (by omega)]; omega

def c_laws_szTask : C := (.seq (.reg false (.op 0 [] (some 2) none false (.box 2 (.t 0))
  (.op 1 [] (some 4) none false (.mov (.v (.int .i64 0)))
  .done)))
 (.seq (.reg false (.op 0 [] (some 5) none false (.fad (.t 2) 2)
  (.op 1 [] (some 6) none false (.load (some 2) (.t 5))
  (.op 2 [] (some 7) none false (.mov (.t 1))
  (.op 3 [] (some 8) none false (.call 8 64 [(.t 6), (.t 7)])
  (.op 4 [] (some 1) none false (.mov (.t 8))
  .done))))))
 (.seq (.seq (.reg false (.op 0 [] (some 9) none false (.mov (.t 1))
  (.op 1 [] (some 10) none false (.bin .lss (.t 9) (.v (.int .i64 0)))
  .done)))
 (.cond (.t 10)
 (.seq (.reg false (.op 0 [] (some 4) none false (.mov (.v (.int .i64 (-1))))
  .done))
 .ret)
 .skip))
 (.seq (.reg false (.op 0 [] (some 11) none false (.fad (.t 2) 4)
  (.op 1 [] (some 12) none false (.load (some 1) (.t 11))
  (.op 2 [] (some 13) none false (.mov (.t 1))
  (.op 3 [] (some 14) none false (.call 14 29 [(.t 12), (.t 13)])
  (.op 4 [] (some 1) none false (.mov (.t 14))
  .done))))))
 (.seq (.seq (.reg false (.op 0 [] (some 15) none false (.mov (.t 1))
  (.op 1 [] (some 16) none false (.bin .lss (.t 15) (.v (.int .i64 0)))
  .done)))
 (.cond (.t 16)
 (.seq (.reg false (.op 0 [] (some 4) none false (.mov (.v (.int .i64 (-1))))
  .done))
 .ret)
 .skip))
 (.seq (.reg false (.op 0 [] (some 17) none false (.fad (.t 2) 5)
  (.op 1 [] (some 18) none false (.load (some 1) (.t 17))
  (.op 2 [] (some 19) none false (.mov (.t 1))
  (.op 3 [] (some 20) none false (.call 20 29 [(.t 18), (.t 19)])
  (.op 4 [] (some 1) none false (.mov (.t 20))
  .done))))))
 (.seq (.seq (.reg false (.op 0 [] (some 21) none false (.mov (.t 1))
  (.op 1 [] (some 22) none false (.bin .lss (.t 21) (.v (.int .i64 0)))
  .done)))
 (.cond (.t 22)
 (.seq (.reg false (.op 0 [] (some 4) none false (.mov (.v (.int .i64 (-1))))
  .done))
 .ret)
 .skip))
 (.seq (.reg false (.op 0 [] (some 23) none false (.fad (.t 2) 6)
  (.op 1 [] (some 24) none false (.load none (.t 23))
  (.op 2 [] (some 25) none false (.mov (.t 1))
  (.op 3 [] (some 26) none false (.call 26 65 [(.t 24), (.t 25)])
  (.op 4 [] (some 1) none false (.mov (.t 26))
  .done))))))
 (.seq (.seq (.reg false (.op 0 [] (some 27) none false (.mov (.t 1))
  (.op 1 [] (some 28) none false (.bin .lss (.t 27) (.v (.int .i64 0)))
  .done)))
 (.cond (.t 28)
 (.seq (.reg false (.op 0 [] (some 4) none false (.mov (.v (.int .i64 (-1))))
  .done))
 .ret)
 .skip))
 (.seq (.reg false (.op 0 [] (some 29) none false (.fad (.t 2) 7)
  (.op 1 [] (some 30) none false (.load none (.t 29))
  (.op 2 [] (some 31) none false (.mov (.t 1))
  (.op 3 [] (some 32) none false (.call 32 65 [(.t 30), (.t 31)])
  (.op 4 [] (some 1) none false (.mov (.t 32))
  .done))))))
 (.seq (.seq (.reg false (.op 0 [] (some 33) none false (.mov (.t 1))
  (.op 1 [] (some 34) none false (.bin .lss (.t 33) (.v (.int .i64 0)))
  .done)))
 (.cond (.t 34)
 (.seq (.reg false (.op 0 [] (some 4) none false (.mov (.v (.int .i64 (-1))))
  .done))
 .ret)
 .skip))
 (.seq (.reg false (.op 0 [] (some 35) none false (.fad (.t 2) 12)
  (.op 1 [] (some 36) none false (.load none (.t 35))
  (.op 2 [] (some 37) none false (.mov (.t 1))
  (.op 3 [] (some 38) none false (.call 38 48 [(.t 36), (.t 37)])
  (.op 4 [] (some 1) none false (.mov (.t 38))
  .done))))))
 (.seq (.seq (.reg false (.op 0 [] (some 39) none false (.mov (.t 1))
  (.op 1 [] (some 40) none false (.bin .lss (.t 39) (.v (.int .i64 0)))
  .done)))
 (.cond (.t 40)
 (.seq (.reg false (.op 0 [] (some 4) none false (.mov (.v (.int .i64 (-1))))
  .done))
 .ret)
 .skip))
 (.seq (.reg false (.op 0 [] (some 41) none false (.mov (.t 1))
  (.op 1 [] (some 4) none false (.mov (.t 41))
  .done)))
 .ret))))))))))))))
theorem dg_laws_szTask : Tryz.f22.body.bind (digC Tryz.prog Tryz.f22.ntmps []) = some c_laws_szTask := by kernel_rfl
theorem rs_laws_szTask : resSlots Tryz.prog Tryz.f22 = some [.s 4] := by kernel_rfl
theorem ok_laws_szTask (t : Task) (n : Int) (hb : BigT t) (h0 : 0 ≤ n) (h1 : n ≤ 4194304) :
    FnOK Tryz.prog 22 [.agg (t.cells.map .d), .one (.d (.sc (.int .i64 n)))] (fun ra _ => ra = [.one (.d (.sc (.int .i64 (szOut n (costT t)))))]) := by
  refine FnOK.ofK Tryz.func22 (by kernel_rfl) dg_laws_szTask rs_laws_szTask rfl rfl ?_
  unfold c_laws_szTask
  have b1 := hb.n.len
  have b2 := hb.n.mem
  have b3 := hb.f.len
  have b4 := hb.f.mem
  have b5 := hb.z.len
  have b6 := hb.z.mem
  have b7 := hb.h
  have b8 := hb.s
  have b9 := hb.a
  refine kSeq (kReg (kBox rfl rfl rfl rfl rfl (kMovC rfl (kDone (kSeq (kReg (kFadP rfl rfl (kLoadP rfl rfl rfl (kMovC rfl (kCallD (ok_laws_szQuestion _ _ _ (by first | assumption | omega | solve_by_elim [List.getElem_mem] | (simp only [szOut] at *; omega)) (by first | assumption | omega | solve_by_elim [List.getElem_mem] | (simp only [szOut] at *; omega)) (by first | assumption | omega | solve_by_elim [List.getElem_mem] | (simp only [szOut] at *; omega)) (by first | assumption | omega | solve_by_elim [List.getElem_mem] | (simp only [szOut] at *; omega))) ⟨⟨⟨rfl, rfl, trivial⟩, Nat.le_of_ble_eq_true rfl⟩, rfl, trivial⟩ rfl rfl rfl rfl rfl (kMovC rfl (kDone (kSeq (kSeq (kReg (kMovC rfl (kBin rfl rfl rfl (kDone (kCondP rfl (fun g0 => kSeq (kReg (kMovC rfl (kDone (kRet (endRetA (ra := [.one (.d _)]) rfl ?_)))))) (fun g0 => kSkip (kSeq (kReg (kFadP rfl rfl (kLoadP rfl rfl rfl (kMovC rfl (kCallD (ok_laws_szName _ _ (by first | assumption | omega | solve_by_elim [List.getElem_mem] | (simp only [szOut] at *; omega)) (by first | assumption | omega | solve_by_elim [List.getElem_mem] | (simp only [szOut] at *; omega)) (by first | assumption | omega | solve_by_elim [List.getElem_mem] | (simp only [szOut] at *; omega)) (by first | assumption | omega | solve_by_elim [List.getElem_mem] | (simp only [szOut] at *; omega))) ⟨⟨⟨rfl, trivial⟩, Nat.le_of_ble_eq_true rfl⟩, rfl, trivial⟩ rfl rfl rfl rfl rfl (kMovC rfl (kDone (kSeq (kSeq (kReg (kMovC rfl (kBin rfl rfl rfl (kDone (kCondP rfl (fun g1 => kSeq (kReg (kMovC rfl (kDone (kRet (endRetA (ra := [.one (.d _)]) rfl ?_)))))) (fun g1 => kSkip (kSeq (kReg (kFadP rfl rfl (kLoadP rfl rfl rfl (kMovC rfl (kCallD (ok_laws_szName _ _ (by first | assumption | omega | solve_by_elim [List.getElem_mem] | (simp only [szOut] at *; omega)) (by first | assumption | omega | solve_by_elim [List.getElem_mem] | (simp only [szOut] at *; omega)) (by first | assumption | omega | solve_by_elim [List.getElem_mem] | (simp only [szOut] at *; omega)) (by first | assumption | omega | solve_by_elim [List.getElem_mem] | (simp only [szOut] at *; omega))) ⟨⟨⟨rfl, trivial⟩, Nat.le_of_ble_eq_true rfl⟩, rfl, trivial⟩ rfl rfl rfl rfl rfl (kMovC rfl (kDone (kSeq (kSeq (kReg (kMovC rfl (kBin rfl rfl rfl (kDone (kCondP rfl (fun g2 => kSeq (kReg (kMovC rfl (kDone (kRet (endRetA (ra := [.one (.d _)]) rfl ?_)))))) (fun g2 => kSkip (kSeq (kReg (kFadP rfl rfl (kLoadP rfl rfl rfl (kMovC rfl (kCallD (ok_laws_szIntS _ _ (by first | assumption | omega | solve_by_elim [List.getElem_mem] | (simp only [szOut] at *; omega)) (by first | assumption | omega | solve_by_elim [List.getElem_mem] | (simp only [szOut] at *; omega)) (by first | assumption | omega | solve_by_elim [List.getElem_mem] | (simp only [szOut] at *; omega))) ⟨rfl, rfl, trivial⟩ rfl rfl rfl rfl rfl (kMovC rfl (kDone (kSeq (kSeq (kReg (kMovC rfl (kBin rfl rfl rfl (kDone (kCondP rfl (fun g3 => kSeq (kReg (kMovC rfl (kDone (kRet (endRetA (ra := [.one (.d _)]) rfl ?_)))))) (fun g3 => kSkip (kSeq (kReg (kFadP rfl rfl (kLoadP rfl rfl rfl (kMovC rfl (kCallD (ok_laws_szIntS _ _ (by first | assumption | omega | solve_by_elim [List.getElem_mem] | (simp only [szOut] at *; omega)) (by first | assumption | omega | solve_by_elim [List.getElem_mem] | (simp only [szOut] at *; omega)) (by first | assumption | omega | solve_by_elim [List.getElem_mem] | (simp only [szOut] at *; omega))) ⟨rfl, rfl, trivial⟩ rfl rfl rfl rfl rfl (kMovC rfl (kDone (kSeq (kSeq (kReg (kMovC rfl (kBin rfl rfl rfl (kDone (kCondP rfl (fun g4 => kSeq (kReg (kMovC rfl (kDone (kRet (endRetA (ra := [.one (.d _)]) rfl ?_)))))) (fun g4 => kSkip (kSeq (kReg (kFadP rfl rfl (kLoadP rfl rfl rfl (kMovC rfl (kCallD (ok_laws_szRrS _ _ (by first | assumption | omega | solve_by_elim [List.getElem_mem] | (simp only [szOut] at *; omega)) (by first | assumption | omega | solve_by_elim [List.getElem_mem] | (simp only [szOut] at *; omega)) (by first | assumption | omega | solve_by_elim [List.getElem_mem] | (simp only [szOut] at *; omega))) ⟨rfl, rfl, trivial⟩ rfl rfl rfl rfl rfl (kMovC rfl (kDone (kSeq (kSeq (kReg (kMovC rfl (kBin rfl rfl rfl (kDone (kCondP rfl (fun g5 => kSeq (kReg (kMovC rfl (kDone (kRet (endRetA (ra := [.one (.d _)]) rfl ?_)))))) (fun g5 => kSkip (kSeq (kReg (kMovC rfl (kMovC rfl (kDone (kRet (endRetA (ra := [.one (.d _)]) rfl ?_)))))))))))))))))))))))))))))))))))))))))))))))))))))))))))))))))))))))))))))))))))))))))))))))))))))))))))
  all_goals (refine congrArg (fun z : Int => [RA.one (RV.d (DV.sc (Value.int IntKind.i64 z)))]) ?_; clear b1 b2 b3 b4 b5 b6 b7 b8 b9 hb; simp only [costT, costBB, szOut] at *; omega)

def c_spec_LabelOk : C := (.seq (.reg false (.op 0 [] (some 2) none false (.mov (.v (.bool false)))
  .done))
 (.seq (.seq (.reg false (.op 0 [] (some 4) none false (.mov (.t 0))
  (.op 1 [] (some 5) none false (.len (.t 4))
  (.op 2 [] (some 6) none false (.bin .lss (.t 5) (.v (.int .i64 1)))
  (.op 3 [] (some 7) none false (.mov (.t 6))
  (.op 4 [] (some 8) (some (7, false)) false (.mov (.t 0))
  (.op 5 [] (some 9) (some (7, false)) false (.len (.t 8))
  (.op 6 [] (some 10) (some (7, false)) false (.bin .gtr (.t 9) (.v (.int .i64 15)))
  (.op 7 [] (some 11) none false (.pick (.t 7) (.v (.bool true)) (.t 10))
  .done)))))))))
 (.cond (.t 11)
 (.seq (.reg false (.op 0 [] (some 2) none false (.mov (.v (.bool false)))
  .done))
 .ret)
 .skip))
 (.seq (.seq (.reg false (.op 0 [] (some 3) none false (.mov (.v (.int .i64 0)))
  .done))
 (.block 0 (.loop (.seq (.seq (.reg false (.op 0 [] (some 12) none false (.mov (.t 3))
  (.op 1 [] (some 13) none false (.mov (.t 0))
  (.op 2 [] (some 14) none false (.len (.t 13))
  (.op 3 [] (some 15) none false (.bin .lss (.t 12) (.t 14))
  .done)))))
 (.cond (.t 15)
 .skip
 (.exit 0)))
 (.seq (.block 1 (.seq (.reg false (.op 0 [] (some 18) none false (.mov (.t 0))
  (.op 1 [] (some 19) none false (.mov (.t 3))
  (.op 2 [] (some 20) none false (.iad 1 (.t 18) (.t 19))
  (.op 3 [] (some 21) none false (.load none (.t 20))
  (.op 4 [] (some 22) none false (.bin .geq (.t 21) (.v (.int .u8 97)))
  (.op 5 [] (some 23) none false (.mov (.t 22))
  (.op 6 [] (some 24) (some (23, true)) false (.mov (.t 0))
  (.op 7 [] (some 25) (some (23, true)) false (.mov (.t 3))
  (.op 8 [] (some 26) (some (23, true)) false (.iad 1 (.t 24) (.t 25))
  (.op 9 [] (some 27) (some (23, true)) false (.load none (.t 26))
  (.op 10 [] (some 28) (some (23, true)) false (.bin .leq (.t 27) (.v (.int .u8 122)))
  (.op 11 [] (some 29) none false (.pick (.t 23) (.t 28) (.v (.bool false)))
  (.op 12 [] (some 30) none false (.un .not (.t 29))
  (.op 13 [] (some 31) none false (.mov (.t 30))
  (.op 14 [] (some 32) (some (31, true)) false (.mov (.t 0))
  (.op 15 [] (some 33) (some (31, true)) false (.mov (.t 3))
  (.op 16 [] (some 34) (some (31, true)) false (.iad 1 (.t 32) (.t 33))
  (.op 17 [] (some 35) (some (31, true)) false (.load none (.t 34))
  (.op 18 [] (some 36) (some (31, true)) false (.bin .geq (.t 35) (.v (.int .u8 48)))
  (.op 19 [] (some 37) (some (31, true)) false (.mov (.t 36))
  (.op 20 [] (some 38) (some (37, true)) false (.mov (.t 0))
  (.op 21 [] (some 39) (some (37, true)) false (.mov (.t 3))
  (.op 22 [] (some 40) (some (37, true)) false (.iad 1 (.t 38) (.t 39))
  (.op 23 [] (some 41) (some (37, true)) false (.load none (.t 40))
  (.op 24 [] (some 42) (some (37, true)) false (.bin .leq (.t 41) (.v (.int .u8 57)))
  (.op 25 [] (some 43) (some (31, true)) false (.pick (.t 37) (.t 42) (.v (.bool false)))
  (.op 26 [] (some 44) (some (31, true)) false (.un .not (.t 43))
  (.op 27 [] (some 45) none false (.pick (.t 31) (.t 44) (.v (.bool false)))
  (.op 28 [] (some 46) none false (.mov (.t 45))
  (.op 29 [] (some 47) (some (46, true)) false (.mov (.t 0))
  (.op 30 [] (some 48) (some (46, true)) false (.mov (.t 3))
  (.op 31 [] (some 49) (some (46, true)) false (.iad 1 (.t 47) (.t 48))
  (.op 32 [] (some 50) (some (46, true)) false (.load none (.t 49))
  (.op 33 [] (some 51) (some (46, true)) false (.bin .neq (.t 50) (.v (.int .u8 45)))
  (.op 34 [] (some 52) none false (.pick (.t 46) (.t 51) (.v (.bool false)))
  .done))))))))))))))))))))))))))))))))))))
 (.cond (.t 52)
 (.seq (.reg false (.op 0 [] (some 2) none false (.mov (.v (.bool false)))
  .done))
 .ret)
 .skip)))
 (.reg false (.op 0 [] (some 16) none false (.mov (.t 3))
  (.op 1 [] (some 17) none false (.bin .add (.t 16) (.v (.int .i64 1)))
  (.op 2 [] (some 3) none false (.mov (.t 17))
  .done)))))))))
 (.seq (.reg false (.op 0 [] (some 2) none false (.mov (.v (.bool true)))
  .done))
 .ret))))
theorem dg_spec_LabelOk : Tryz.f137.body.bind (digC Tryz.prog Tryz.f137.ntmps []) = some c_spec_LabelOk := by kernel_rfl
theorem rs_spec_LabelOk : resSlots Tryz.prog Tryz.f137 = some [.s 2] := by kernel_rfl
theorem ok_spec_LabelOk (b : List UInt8) (hb : b.length ≤ 4194304) :
    FnOK Tryz.prog 137 [.one (.d (encB b))] (fun ra _ => ra = [.one (.d (.sc (.bool (labelOk b))))]) := by
  refine FnOK.ofK Tryz.func137 (by kernel_rfl) dg_spec_LabelOk rs_spec_LabelOk rfl rfl ?_
  unfold c_spec_LabelOk
  refine kSeq (kReg (kMovC rfl (kDone (kSeq (kSeq (kReg (kMovC rfl (kLenR rfl rfl (kBin rfl rfl rfl (kMovC rfl (kGP rfl (fun g0 => kGF rfl (kGF rfl (kGF rfl (kPickT rfl (kMovC rfl (kDone (kCondT rfl (kSeq (kReg (kMovC rfl (kDone (kRet (endRetA (ra := [.one (.d _)]) rfl ?_))))))))))))) (fun g0 => kGT rfl (kMovC rfl (kGT rfl (kLenR rfl rfl (kGT rfl (kBin rfl rfl rfl (kPickF rfl (kMovC rfl (kDone (kCondP rfl (fun g1 => kSeq (kReg (kMovC rfl (kDone (kRet (endRetA (ra := [.one (.d _)]) rfl ?_)))))) (fun g1 => kSkip (kSeq (kSeq (kReg (kMovC rfl (kDone (kBlock ?_))))))))))))))))))))))))))))
  · rw [show labelOk b = false by simp only [labelOk]; rw [decide_eq_false (by omega)]; rfl]
  · rw [show labelOk b = false by simp only [labelOk]; rw [decide_eq_false (p := b.length ≤ 15) (by omega)]; simp]
  refine kLoop (α := { i : Nat // i ≤ b.length ∧ (b.take i).all okLetter = true })
    (fun y => ⟨tabSl [(0, .dv (encB b)), (3, .i y.1)], (St.init [.one (.d (encB b))]).ob, []⟩) (fun y => b.length - y.1) ⟨0, by simp⟩
    (.tab rfl ⟨.refl _, .refl _, trivial⟩) ?_
  rintro ⟨i, hi, hl⟩
  simp only
  refine kSeq (kSeq (kReg (kMovC rfl (kMovC rfl (kLenR rfl rfl (kBin rfl rfl rfl (kDone (kCondP rfl (fun g0 => kSkip (kSeq (kBlock (kSeq (kReg (kMovC rfl (kMovC rfl (kIadR rfl rfl rfl (by omega) (kLoadD rfl rfl (kBin rfl rfl rfl (kMovC rfl (kGP rfl (fun g1 => kGT rfl (kMovC rfl (kGT rfl (kMovC rfl (kGT rfl (kIadR rfl rfl rfl (by omega) (kGT rfl (kLoadD rfl rfl (kGT rfl (kBin rfl rfl rfl (kPickT rfl (kMovC rfl (kUn rfl rfl (kMovC rfl (kGN rfl (fun g2 => kGT rfl (kMovC rfl (kGT rfl (kMovC rfl (kGT rfl (kIadR rfl rfl rfl (by omega) (kGT rfl (kLoadD rfl rfl (kGT rfl (kBin rfl rfl rfl (kGT rfl (kMovC rfl (kGP rfl (fun g3 => kGT rfl (kMovC rfl (kGT rfl (kMovC rfl (kGT rfl (kIadR rfl rfl rfl (by omega) (kGT rfl (kLoadD rfl rfl (kGT rfl (kBin rfl rfl rfl (kGT rfl (kPickT rfl (kMovC rfl (kGT rfl (kUn rfl rfl (kPickT rfl (kMovC rfl (kMovC rfl (kGN rfl (fun g4 => kGT rfl (kMovC rfl (kGT rfl (kMovC rfl (kGT rfl (kIadR rfl rfl rfl (by omega) (kGT rfl (kLoadD rfl rfl (kGT rfl (kBin rfl rfl rfl (kPickT rfl (kMovC rfl (kDone (kCondN rfl (fun g5 => kSeq (kReg (kMovC rfl (kDone (kRet (endRetA (ra := [.one (.d _)]) rfl ?_)))))) (fun g5 => kSkip (kBk (kReg (kMovC rfl (kAdd rfl rfl (by omega) (kMovC rfl (kDone ?_))))))))))))))))))))) (fun g4 => kGF rfl (kGF rfl (kGF rfl (kGF rfl (kGF rfl (kPickF rfl (kMovC rfl (kDone (kCondF rfl (kSkip (kBk (kReg (kMovC rfl (kAdd rfl rfl (by omega) (kMovC rfl (kDone ?_))))))))))))))))))))))))))))))))))) (fun g3 => (by omega))))))))))))))) (fun g2 => kGF rfl (kGF rfl (kGF rfl (kGF rfl (kGF rfl (kGF rfl (kGU rfl (kGU rfl (kGU rfl (kGU rfl (kGU rfl (kGF rfl (kGF rfl (kPickF rfl (kMovC rfl (kMovC rfl (kGF rfl (kGF rfl (kGF rfl (kGF rfl (kGF rfl (kPickF rfl (kMovC rfl (kDone (kCondF rfl (kSkip (kBk (kReg (kMovC rfl (kAdd rfl rfl (by omega) (kMovC rfl (kDone ?_))))))))))))))))))))))))))))))))))))))))))))))) (fun g1 => kGF rfl (kGF rfl (kGF rfl (kGF rfl (kGF rfl (kPickF rfl (kMovC rfl (kUn rfl rfl (kMovC rfl (kGT rfl (kMovC rfl (kGT rfl (kMovC rfl (kGT rfl (kIadR rfl rfl rfl (by omega) (kGT rfl (kLoadD rfl rfl (kGT rfl (kBin rfl rfl rfl (kGT rfl (kMovC rfl (kGP rfl (fun g6 => kGT rfl (kMovC rfl (kGT rfl (kMovC rfl (kGT rfl (kIadR rfl rfl rfl (by omega) (kGT rfl (kLoadD rfl rfl (kGT rfl (kBin rfl rfl rfl (kGT rfl (kPickT rfl (kMovC rfl (kGT rfl (kUn rfl rfl (kPickT rfl (kMovC rfl (kMovC rfl (kGN rfl (fun g7 => kGT rfl (kMovC rfl (kGT rfl (kMovC rfl (kGT rfl (kIadR rfl rfl rfl (by omega) (kGT rfl (kLoadD rfl rfl (kGT rfl (kBin rfl rfl rfl (kPickT rfl (kMovC rfl (kDone (kCondN rfl (fun g8 => kSeq (kReg (kMovC rfl (kDone (kRet (endRetA (ra := [.one (.d _)]) rfl ?_)))))) (fun g8 => kSkip (kBk (kReg (kMovC rfl (kAdd rfl rfl (by omega) (kMovC rfl (kDone ?_))))))))))))))))))))) (fun g7 => kGF rfl (kGF rfl (kGF rfl (kGF rfl (kGF rfl (kPickF rfl (kMovC rfl (kDone (kCondF rfl (kSkip (kBk (kReg (kMovC rfl (kAdd rfl rfl (by omega) (kMovC rfl (kDone ?_))))))))))))))))))))))))))))))))))) (fun g6 => kGF rfl (kGF rfl (kGF rfl (kGF rfl (kGF rfl (kGT rfl (kPickF rfl (kMovC rfl (kGT rfl (kUn rfl rfl (kPickT rfl (kMovC rfl (kMovC rfl (kGT rfl (kMovC rfl (kGT rfl (kMovC rfl (kGT rfl (kIadR rfl rfl rfl (by omega) (kGT rfl (kLoadD rfl rfl (kGT rfl (kBin rfl rfl rfl (kPickT rfl (kMovC rfl (kDone (kCondN rfl (fun g9 => kSeq (kReg (kMovC rfl (kDone (kRet (endRetA (ra := [.one (.d _)]) rfl ?_)))))) (fun g9 => kSkip (kBk (kReg (kMovC rfl (kAdd rfl rfl (by omega) (kMovC rfl (kDone ?_)))))))))))))))))))))))))))))))))))))))))))))))))))))))))))))))))))) (fun g0 => kExit (kExC (kExI (kExB (kSeq (kReg (kMovC rfl (kDone (kRet (endRetA (ra := [.one (.d _)]) rfl ?_))))))))))))))))))
  all_goals try simp only [decide_eq_true_eq, decide_eq_false_iff_not, beq_iff_eq, beq_eq_false_iff_ne] at *
  all_goals first
    | exact kInv ⟨⟨i + 1, by omega, labelOk_step (by omega) hl (by rw [okLetter_iff]; omega)⟩, by simp only; omega, .tab rfl ⟨.refl _, .refl _, trivial⟩⟩
    | rw [labelOk_no (b := b) (i := i) (by omega) (by rw [okLetter_iff]; omega)]
    | skip
  have hge : i = b.length := by omega
  subst hge
  rw [List.take_length] at hl
  rw [show labelOk b = true by simp only [labelOk]; rw [decide_eq_true (by omega), decide_eq_true (by omega), hl]; rfl]

def c_spec_NameOk : C := (.seq (.reg false (.op 0 [] (some 1) none false (.box 1 (.t 0))
  (.op 1 [] (some 2) none false (.mov (.v (.bool false)))
  .done)))
 (.seq (.seq (.reg false (.op 0 [] (some 4) none false (.fad (.t 1) 0)
  (.op 1 [] (some 5) none false (.load none (.t 4))
  (.op 2 [] (some 6) none false (.len (.t 5))
  (.op 3 [] (some 7) none false (.bin .gtr (.t 6) (.v (.int .i64 6)))
  .done)))))
 (.cond (.t 7)
 (.seq (.reg false (.op 0 [] (some 2) none false (.mov (.v (.bool false)))
  .done))
 .ret)
 .skip))
 (.seq (.seq (.reg false (.op 0 [] (some 3) none false (.mov (.v (.int .i64 0)))
  .done))
 (.block 0 (.loop (.seq (.seq (.reg false (.op 0 [] (some 8) none false (.mov (.t 3))
  (.op 1 [] (some 9) none false (.fad (.t 1) 0)
  (.op 2 [] (some 10) none false (.load none (.t 9))
  (.op 3 [] (some 11) none false (.len (.t 10))
  (.op 4 [] (some 12) none false (.bin .lss (.t 8) (.t 11))
  .done))))))
 (.cond (.t 12)
 .skip
 (.exit 0)))
 (.seq (.block 1 (.seq (.reg false (.op 0 [] (some 15) none false (.fad (.t 1) 0)
  (.op 1 [] (some 16) none false (.load none (.t 15))
  (.op 2 [] (some 17) none false (.mov (.t 3))
  (.op 3 [] (some 18) none false (.iad 1 (.t 16) (.t 17))
  (.op 4 [] (some 19) none false (.load none (.t 18))
  (.op 5 [] (some 20) none false (.call 20 137 [(.t 19)])
  (.op 6 [] (some 21) none false (.un .not (.t 20))
  .done))))))))
 (.cond (.t 21)
 (.seq (.reg false (.op 0 [] (some 2) none false (.mov (.v (.bool false)))
  .done))
 .ret)
 .skip)))
 (.reg false (.op 0 [] (some 13) none false (.mov (.t 3))
  (.op 1 [] (some 14) none false (.bin .add (.t 13) (.v (.int .i64 1)))
  (.op 2 [] (some 3) none false (.mov (.t 14))
  .done)))))))))
 (.seq (.reg false (.op 0 [] (some 2) none false (.mov (.v (.bool true)))
  .done))
 .ret))))
theorem dg_spec_NameOk : Tryz.f79.body.bind (digC Tryz.prog Tryz.f79.ntmps []) = some c_spec_NameOk := by kernel_rfl
theorem rs_spec_NameOk : resSlots Tryz.prog Tryz.f79 = some [.s 2] := by kernel_rfl
theorem ok_spec_NameOk (a : List (List UInt8)) (ha : a.length ≤ 4194304) (hb : ∀ b ∈ a, b.length ≤ 4194304) :
    FnOK Tryz.prog 79 [.agg [.d (encBB a)]] (fun ra _ => ra = [.one (.d (.sc (.bool (nameOk a))))]) := by
  refine FnOK.ofK Tryz.func79 (by kernel_rfl) dg_spec_NameOk rs_spec_NameOk rfl rfl ?_
  unfold c_spec_NameOk
  refine kSeq (kReg (kBox rfl rfl rfl rfl rfl (kMovC rfl (kDone (kSeq (kSeq (kReg (kFadP rfl rfl (kLoadP rfl rfl rfl (kLenR rfl rfl (kBin rfl rfl rfl (kDone (kCondP rfl (fun g0 => kSeq (kReg (kMovC rfl (kDone (kRet (endRetA (ra := [.one (.d _)]) rfl ?_)))))) (fun g0 => kSkip (kSeq (kSeq (kReg (kMovC rfl (kDone (kBlock ?_))))))))))))))))))))
  · rw [show nameOk a = false by simp only [nameOk]; rw [decide_eq_false (by omega)]; rfl]
  refine kLoop (α := { i : Nat // i ≤ a.length ∧ (a.take i).all labelOk = true })
    (fun y => ⟨tabSl [(1, .c (.ptr (rid 1 0) 1 0)), (3, .i y.1)], obTab 1 [(rid 1 0, ⟨1, 0, .box [.d (encBB a)]⟩)], []⟩) (fun y => a.length - y.1) ⟨0, by simp⟩
    .normA ?_
  rintro ⟨i, hi, hl⟩
  simp only
  refine kSeq (kSeq (kReg (kMovC rfl (kFadP rfl rfl (kLoadP rfl rfl rfl (kLenR rfl rfl (kBin rfl rfl rfl (kDone (kCondP rfl (fun g0 => kSkip (kSeq (kBlock (kSeq (kReg (kFadP rfl rfl (kLoadP rfl rfl rfl (kMovC rfl (kIadR rfl rfl rfl (by omega) (kLoadD rfl rfl (kCallD (ok_spec_LabelOk _ (by first | assumption | omega | solve_by_elim [List.getElem_mem])) ⟨rfl, trivial⟩ rfl rfl rfl rfl rfl (kUn rfl rfl (kDone (kCondN rfl (fun g1 => kSeq (kReg (kMovC rfl (kDone (kRet (endRetA (ra := [.one (.d _)]) rfl ?_)))))) (fun g1 => kSkip (kBk (kReg (kMovC rfl (kAdd rfl rfl (by omega) (kMovC rfl (kDone ?_))))))))))))))))))))) (fun g0 => kExit (kExC (kExI (kExB (kSeq (kReg (kMovC rfl (kDone (kRet (endRetA (ra := [.one (.d _)]) rfl ?_)))))))))))))))))))
  · rename_i h
    rw [show nameOk a = false by simp only [nameOk]; rw [all_no (i := i) (by omega) (by assumption), Bool.and_false]]
  · exact kInv ⟨⟨i + 1, by omega, all_step (by omega) hl (by assumption)⟩, by simp only; omega, .normA⟩
  · have hge : i = a.length := by omega
    subst hge
    rw [List.take_length] at hl
    rw [show nameOk a = true by simp only [nameOk]; rw [decide_eq_true (by omega), hl]; rfl]

def c_spec_TypeOk : C := (.seq (.reg false (.op 0 [] (some 2) none false (.mov (.v (.bool false)))
  .done))
 (.seq (.seq (.reg false (.op 0 [] (some 3) none false (.mov (.t 0))
  .done))
 (.block 0 (.seq (.seq (.reg false (.op 0 [] (some 5) none false (.bin .eql (.t 3) (.v (.int .i64 1)))
  (.op 1 [] (some 4) none false (.mov (.t 5))
  .done)))
 (.cond (.t 4)
 .skip
 (.seq (.reg false (.op 0 [] (some 6) none false (.bin .eql (.t 3) (.v (.int .i64 2)))
  (.op 1 [] (some 4) none false (.mov (.t 6))
  .done)))
 (.cond (.t 4)
 .skip
 (.seq (.reg false (.op 0 [] (some 7) none false (.bin .eql (.t 3) (.v (.int .i64 5)))
  (.op 1 [] (some 4) none false (.mov (.t 7))
  .done)))
 (.cond (.t 4)
 .skip
 (.seq (.reg false (.op 0 [] (some 8) none false (.bin .eql (.t 3) (.v (.int .i64 6)))
  (.op 1 [] (some 4) none false (.mov (.t 8))
  .done)))
 (.cond (.t 4)
 .skip
 (.seq (.reg false (.op 0 [] (some 9) none false (.bin .eql (.t 3) (.v (.int .i64 12)))
  (.op 1 [] (some 4) none false (.mov (.t 9))
  .done)))
 (.cond (.t 4)
 .skip
 (.seq (.reg false (.op 0 [] (some 10) none false (.bin .eql (.t 3) (.v (.int .i64 16)))
  (.op 1 [] (some 4) none false (.mov (.t 10))
  .done)))
 (.cond (.t 4)
 .skip
 (.reg false (.op 0 [] (some 11) none false (.bin .eql (.t 3) (.v (.int .i64 49)))
  (.op 1 [] (some 4) none false (.mov (.t 11))
  .done)))))))))))))))
 (.cond (.t 4)
 (.seq (.reg false (.op 0 [] (some 2) none false (.mov (.v (.bool true)))
  .done))
 .ret)
 .skip))))
 (.seq (.reg false (.op 0 [] (some 2) none false (.mov (.v (.bool false)))
  .done))
 .ret)))
theorem dg_spec_TypeOk : Tryz.f138.body.bind (digC Tryz.prog Tryz.f138.ntmps []) = some c_spec_TypeOk := by kernel_rfl
theorem rs_spec_TypeOk : resSlots Tryz.prog Tryz.f138 = some [.s 2] := by kernel_rfl
theorem ok_spec_TypeOk (n : Int) : FnOK Tryz.prog 138 [.one (.d (.sc (.int .i64 n)))] (fun ra _ => ra = [.one (.d (.sc (.bool (tyOk n))))]) := by
  refine FnOK.ofK Tryz.func138 (by kernel_rfl) dg_spec_TypeOk rs_spec_TypeOk rfl rfl ?_
  unfold c_spec_TypeOk
  refine kSeq (kReg (kMovC rfl (kDone (kSeq (kSeq (kReg (kMovC rfl (kDone (kBlock (kSeq (kSeq (kReg (kBin rfl rfl rfl (kMovC rfl (kDone (kCondP rfl (fun g0 => kSkip (kCondP rfl (fun g1 => kSeq (kReg (kMovC rfl (kDone (kRet (endRetA (ra := [.one (.d _)]) rfl ?_)))))) (fun g1 => (by omega)))) (fun g0 => kSeq (kReg (kBin rfl rfl rfl (kMovC rfl (kDone (kCondP rfl (fun g2 => kSkip (kCondP rfl (fun g3 => kSeq (kReg (kMovC rfl (kDone (kRet (endRetA (ra := [.one (.d _)]) rfl ?_)))))) (fun g3 => (by omega)))) (fun g2 => kSeq (kReg (kBin rfl rfl rfl (kMovC rfl (kDone (kCondP rfl (fun g4 => kSkip (kCondP rfl (fun g5 => kSeq (kReg (kMovC rfl (kDone (kRet (endRetA (ra := [.one (.d _)]) rfl ?_)))))) (fun g5 => (by omega)))) (fun g4 => kSeq (kReg (kBin rfl rfl rfl (kMovC rfl (kDone (kCondP rfl (fun g6 => kSkip (kCondP rfl (fun g7 => kSeq (kReg (kMovC rfl (kDone (kRet (endRetA (ra := [.one (.d _)]) rfl ?_)))))) (fun g7 => (by omega)))) (fun g6 => kSeq (kReg (kBin rfl rfl rfl (kMovC rfl (kDone (kCondP rfl (fun g8 => kSkip (kCondP rfl (fun g9 => kSeq (kReg (kMovC rfl (kDone (kRet (endRetA (ra := [.one (.d _)]) rfl ?_)))))) (fun g9 => (by omega)))) (fun g8 => kSeq (kReg (kBin rfl rfl rfl (kMovC rfl (kDone (kCondP rfl (fun g10 => kSkip (kCondP rfl (fun g11 => kSeq (kReg (kMovC rfl (kDone (kRet (endRetA (ra := [.one (.d _)]) rfl ?_)))))) (fun g11 => (by omega)))) (fun g10 => kReg (kBin rfl rfl rfl (kMovC rfl (kDone (kCondP rfl (fun g12 => kSeq (kReg (kMovC rfl (kDone (kRet (endRetA (ra := [.one (.d _)]) rfl ?_)))))) (fun g12 => kSkip (kBk (kSeq (kReg (kMovC rfl (kDone (kRet (endRetA (ra := [.one (.d _)]) rfl ?_)))))))))))))))))))))))))))))))))))))))))))))))))))))))))))
  all_goals simp_all [tyOk]

def c_spec_l11question : C := (.seq (.reg false (.op 0 [] (some 1) none false (.box 1 (.t 0))
  (.op 1 [] (some 2) none false (.mov (.v (.bool false)))
  .done)))
 (.seq (.reg false (.op 0 [] (some 3) none false (.fad (.t 1) 0)
  (.op 1 [] (some 4) none false (.load (some 1) (.t 3))
  (.op 2 [] (some 5) none false (.call 5 79 [(.t 4)])
  (.op 3 [] (some 6) none false (.mov (.t 5))
  (.op 4 [] (some 7) (some (6, true)) false (.fad (.t 1) 1)
  (.op 5 [] (some 8) (some (6, true)) false (.load none (.t 7))
  (.op 6 [] (some 9) (some (6, true)) false (.call 9 138 [(.t 8)])
  (.op 7 [] (some 10) none false (.pick (.t 6) (.t 9) (.v (.bool false)))
  (.op 8 [] (some 2) none false (.mov (.t 10))
  .done))))))))))
 .ret))
theorem dg_spec_l11question : Tryz.f122.body.bind (digC Tryz.prog Tryz.f122.ntmps []) = some c_spec_l11question := by kernel_rfl
theorem rs_spec_l11question : resSlots Tryz.prog Tryz.f122 = some [.s 2] := by kernel_rfl
theorem ok_spec_l11question (a : List (List UInt8)) (t : Int) (ha : a.length ≤ 4194304) (ha' : ∀ b ∈ a, b.length ≤ 4194304) :
    FnOK Tryz.prog 122 [.agg [.d (encBB a), .d (.sc (.int .i64 t))]] (fun ra _ => ra = [.one (.d (.sc (.bool (nameOk a && tyOk t))))]) := by
  refine FnOK.ofK Tryz.func122 (by kernel_rfl) dg_spec_l11question rs_spec_l11question rfl rfl ?_
  unfold c_spec_l11question
  refine kSeq (kReg (kBox rfl rfl rfl rfl rfl (kMovC rfl (kDone (kSeq (kReg (kFadP rfl rfl (kLoadP rfl rfl rfl (kCallD (ok_spec_NameOk _ (by first | assumption | omega | solve_by_elim [List.getElem_mem] | (simp only [szOut] at *; omega)) (by first | assumption | omega | solve_by_elim [List.getElem_mem] | (simp only [szOut] at *; omega))) ⟨⟨⟨rfl, trivial⟩, Nat.le_of_ble_eq_true rfl⟩, trivial⟩ rfl rfl rfl rfl rfl (kMovC rfl (kGS rfl (fun g0 => kGT rfl (kFadP rfl rfl (kGT rfl (kLoadP rfl rfl rfl (kGT rfl (kCallD (ok_spec_TypeOk _) ⟨rfl, trivial⟩ rfl rfl rfl rfl rfl (kPickT rfl (kMovC rfl (kMovC rfl (kDone (kRet (endRetA (ra := [.one (.d _)]) rfl ?_)))))))))))) (fun g0 => kGF rfl (kGF rfl (kGF rfl (kPickF rfl (kMovC rfl (kMovC rfl (kDone (kRet (endRetA (ra := [.one (.d _)]) rfl ?_))))))))))))))))))))
  all_goals simp_all

def c_spec_l11ips : C := (.seq (.reg false (.op 0 [] (some 2) none false (.mov (.v (.bool false)))
  .done))
 (.seq (.seq (.reg false (.op 0 [] (some 4) none false (.mov (.t 0))
  (.op 1 [] (some 5) none false (.len (.t 4))
  (.op 2 [] (some 6) none false (.bin .lss (.t 5) (.v (.int .i64 1)))
  (.op 3 [] (some 7) none false (.mov (.t 6))
  (.op 4 [] (some 8) (some (7, false)) false (.mov (.t 0))
  (.op 5 [] (some 9) (some (7, false)) false (.len (.t 8))
  (.op 6 [] (some 10) (some (7, false)) false (.bin .gtr (.t 9) (.v (.int .i64 4)))
  (.op 7 [] (some 11) none false (.pick (.t 7) (.v (.bool true)) (.t 10))
  .done)))))))))
 (.cond (.t 11)
 (.seq (.reg false (.op 0 [] (some 2) none false (.mov (.v (.bool false)))
  .done))
 .ret)
 .skip))
 (.seq (.seq (.reg false (.op 0 [] (some 3) none false (.mov (.v (.int .i64 0)))
  .done))
 (.block 0 (.loop (.seq (.seq (.reg false (.op 0 [] (some 12) none false (.mov (.t 3))
  (.op 1 [] (some 13) none false (.mov (.t 0))
  (.op 2 [] (some 14) none false (.len (.t 13))
  (.op 3 [] (some 15) none false (.bin .lss (.t 12) (.t 14))
  .done)))))
 (.cond (.t 15)
 .skip
 (.exit 0)))
 (.seq (.block 1 (.seq (.reg false (.op 0 [] (some 18) none false (.mov (.t 0))
  (.op 1 [] (some 19) none false (.mov (.t 3))
  (.op 2 [] (some 20) none false (.iad 1 (.t 18) (.t 19))
  (.op 3 [] (some 21) none false (.load none (.t 20))
  (.op 4 [] (some 22) none false (.bin .lss (.t 21) (.v (.int .i64 0)))
  (.op 5 [] (some 23) none false (.mov (.t 22))
  (.op 6 [] (some 24) (some (23, false)) false (.mov (.t 0))
  (.op 7 [] (some 25) (some (23, false)) false (.mov (.t 3))
  (.op 8 [] (some 26) (some (23, false)) false (.iad 1 (.t 24) (.t 25))
  (.op 9 [] (some 27) (some (23, false)) false (.load none (.t 26))
  (.op 10 [] (some 28) (some (23, false)) false (.bin .geq (.t 27) (.v (.int .i64 4294967296)))
  (.op 11 [] (some 29) none false (.pick (.t 23) (.v (.bool true)) (.t 28))
  .done)))))))))))))
 (.cond (.t 29)
 (.seq (.reg false (.op 0 [] (some 2) none false (.mov (.v (.bool false)))
  .done))
 .ret)
 .skip)))
 (.reg false (.op 0 [] (some 16) none false (.mov (.t 3))
  (.op 1 [] (some 17) none false (.bin .add (.t 16) (.v (.int .i64 1)))
  (.op 2 [] (some 3) none false (.mov (.t 17))
  .done)))))))))
 (.seq (.reg false (.op 0 [] (some 2) none false (.mov (.v (.bool true)))
  .done))
 .ret))))
theorem dg_spec_l11ips : Tryz.f123.body.bind (digC Tryz.prog Tryz.f123.ntmps []) = some c_spec_l11ips := by kernel_rfl
theorem rs_spec_l11ips : resSlots Tryz.prog Tryz.f123 = some [.s 2] := by kernel_rfl
theorem ok_spec_l11ips (l : List Int) (h : l.length ≤ 4194304) :
    FnOK Tryz.prog 123 [.one (.d (encI l))] (fun ra _ => ra = [.one (.d (.sc (.bool (ipsOk l))))]) := by
  refine FnOK.ofK Tryz.func123 (by kernel_rfl) dg_spec_l11ips rs_spec_l11ips rfl rfl ?_
  unfold c_spec_l11ips
  refine kSeq (kReg (kMovC rfl (kDone (kSeq (kSeq (kReg (kMovC rfl (kLenR rfl rfl (kBin rfl rfl rfl (kMovC rfl (kGP rfl (fun g0 => kGF rfl (kGF rfl (kGF rfl (kPickT rfl (kMovC rfl (kDone (kCondT rfl (kSeq (kReg (kMovC rfl (kDone (kRet (endRetA (ra := [.one (.d _)]) rfl ?_))))))))))))) (fun g0 => kGT rfl (kMovC rfl (kGT rfl (kLenR rfl rfl (kGT rfl (kBin rfl rfl rfl (kPickF rfl (kMovC rfl (kDone (kCondP rfl (fun g1 => kSeq (kReg (kMovC rfl (kDone (kRet (endRetA (ra := [.one (.d _)]) rfl ?_)))))) (fun g1 => kSkip (kSeq (kSeq (kReg (kMovC rfl (kDone (kBlock ?_))))))))))))))))))))))))))))
  · rw [show ipsOk l = false by simp only [ipsOk]; rw [decide_eq_false (by omega)]; rfl]
  · rw [show ipsOk l = false by simp only [ipsOk]; rw [decide_eq_false (by omega)]; rfl]
  refine kLoop (α := { i : Nat // i ≤ l.length ∧ (l.take i).all isW = true })
    (fun y => ⟨tabSl [(0, .dv (encI l)), (3, .i y.1)], obTab 1 [], []⟩) (fun y => l.length - y.1) ⟨0, by simp⟩
    .normA ?_
  rintro ⟨i, hi, hl⟩
  simp only
  rcases Nat.lt_or_ge i l.length with hlt | hge
  · refine kSeq (kSeq (kReg (kMovC rfl (kMovC rfl (kLenR rfl rfl (kBin rfl rfl rfl (kDone (kCondP rfl (fun g0 => kSkip (kSeq (kBlock (kSeq (kReg (kMovC rfl (kMovC rfl (kIadR rfl rfl rfl (by omega) (kLoadD rfl rfl (kBin rfl rfl rfl (kMovC rfl (kGP rfl (fun g1 => kGF rfl (kGF rfl (kGF rfl (kGF rfl (kGF rfl (kPickT rfl (kMovC rfl (kDone (kCondT rfl (kSeq (kReg (kMovC rfl (kDone (kRet (endRetA (ra := [.one (.d _)]) rfl ?_))))))))))))))) (fun g1 => kGT rfl (kMovC rfl (kGT rfl (kMovC rfl (kGT rfl (kIadR rfl rfl rfl (by omega) (kGT rfl (kLoadD rfl rfl (kGT rfl (kBin rfl rfl rfl (kPickF rfl (kMovC rfl (kDone (kCondP rfl (fun g2 => kSeq (kReg (kMovC rfl (kDone (kRet (endRetA (ra := [.one (.d _)]) rfl ?_)))))) (fun g2 => kSkip (kBk (kReg (kMovC rfl (kAdd rfl rfl (by omega) (kMovC rfl (kDone ?_))))))))))))))))))))))))))))))))) (fun g0 => (by omega))))))))))
    · rw [show ipsOk l = false by simp only [ipsOk]; rw [all_no (i := i) (by omega) (by simp [isW]; omega), Bool.and_false]]
    · rw [show ipsOk l = false by simp only [ipsOk]; rw [all_no (i := i) (by omega) (by simp [isW]; omega), Bool.and_false]]
    · exact kInv ⟨⟨i + 1, by omega, all_step (by omega) hl (by simp [isW]; omega)⟩, by simp only; omega, .normA⟩
  · refine kSeq (kSeq (kReg (kMovC rfl (kMovC rfl (kLenR rfl rfl (kBin rfl rfl rfl (kDone (kCondP rfl (fun g0 => (by omega)) (fun g0 => kExit (kExC (kExI (kExB (kSeq (kReg (kMovC rfl (kDone (kRet (endRetA (ra := [.one (.d _)]) rfl ?_))))))))))))))))))
    rw [show i = l.length by omega, List.take_length] at hl
    rw [show ipsOk l = true by simp only [ipsOk]; rw [decide_eq_true (by omega), hl]; rfl]

def c_spec_l3named : C := (.seq (.reg false (.op 0 [] (some 2) none false (.mov (.v (.bool false)))
  .done))
 (.seq (.reg false (.op 0 [] (some 3) none false (.mov (.t 0))
  (.op 1 [] (some 4) none false (.bin .eql (.t 3) (.v (.int .i64 2)))
  (.op 2 [] (some 5) none false (.mov (.t 4))
  (.op 3 [] (some 6) (some (5, false)) false (.mov (.t 0))
  (.op 4 [] (some 7) (some (5, false)) false (.bin .eql (.t 6) (.v (.int .i64 5)))
  (.op 5 [] (some 8) none false (.pick (.t 5) (.v (.bool true)) (.t 7))
  (.op 6 [] (some 9) none false (.mov (.t 8))
  (.op 7 [] (some 10) (some (9, false)) false (.mov (.t 0))
  (.op 8 [] (some 11) (some (9, false)) false (.bin .eql (.t 10) (.v (.int .i64 6)))
  (.op 9 [] (some 12) none false (.pick (.t 9) (.v (.bool true)) (.t 11))
  (.op 10 [] (some 13) none false (.mov (.t 12))
  (.op 11 [] (some 14) (some (13, false)) false (.mov (.t 0))
  (.op 12 [] (some 15) (some (13, false)) false (.bin .eql (.t 14) (.v (.int .i64 12)))
  (.op 13 [] (some 16) none false (.pick (.t 13) (.v (.bool true)) (.t 15))
  (.op 14 [] (some 2) none false (.mov (.t 16))
  .done))))))))))))))))
 .ret))
theorem dg_spec_l3named : Tryz.f175.body.bind (digC Tryz.prog Tryz.f175.ntmps []) = some c_spec_l3named := by kernel_rfl
theorem rs_spec_l3named : resSlots Tryz.prog Tryz.f175 = some [.s 2] := by kernel_rfl
theorem ok_spec_l3named (n : Int) : FnOK Tryz.prog 175 [.one (.d (.sc (.int .i64 n)))] (fun ra _ => ra = [.one (.d (.sc (.bool (hasTo n))))]) := by
  refine FnOK.ofK Tryz.func175 (by kernel_rfl) dg_spec_l3named rs_spec_l3named rfl rfl ?_
  unfold c_spec_l3named
  refine kSeq (kReg (kMovC rfl (kDone (kSeq (kReg (kMovC rfl (kBin rfl rfl rfl (kMovC rfl (kGP rfl (fun g0 => kGF rfl (kGF rfl (kPickT rfl (kMovC rfl (kMovC rfl (kGF rfl (kGF rfl (kPickT rfl (kMovC rfl (kMovC rfl (kGF rfl (kGF rfl (kPickT rfl (kMovC rfl (kMovC rfl (kDone (kRet (endRetA (ra := [.one (.d _)]) rfl ?_)))))))))))))))))) (fun g0 => kGT rfl (kMovC rfl (kGT rfl (kBin rfl rfl rfl (kPickF rfl (kMovC rfl (kMovC rfl (kGP rfl (fun g1 => kGF rfl (kGF rfl (kPickT rfl (kMovC rfl (kMovC rfl (kGF rfl (kGF rfl (kPickT rfl (kMovC rfl (kMovC rfl (kDone (kRet (endRetA (ra := [.one (.d _)]) rfl ?_))))))))))))) (fun g1 => kGT rfl (kMovC rfl (kGT rfl (kBin rfl rfl rfl (kPickF rfl (kMovC rfl (kMovC rfl (kGP rfl (fun g2 => kGF rfl (kGF rfl (kPickT rfl (kMovC rfl (kMovC rfl (kDone (kRet (endRetA (ra := [.one (.d _)]) rfl ?_)))))))) (fun g2 => kGT rfl (kMovC rfl (kGT rfl (kBin rfl rfl rfl (kPickF rfl (kMovC rfl (kMovC rfl (kDone (kRet (endRetA (ra := [.one (.d _)]) rfl ?_)))))))))))))))))))))))))))))))))))
  all_goals simp_all [hasTo]

def c_spec_l3texted : C := (.seq (.reg false (.op 0 [] (some 2) none false (.mov (.v (.bool false)))
  .done))
 (.seq (.reg false (.op 0 [] (some 3) none false (.mov (.t 0))
  (.op 1 [] (some 4) none false (.bin .eql (.t 3) (.v (.int .i64 16)))
  (.op 2 [] (some 5) none false (.mov (.t 4))
  (.op 3 [] (some 6) (some (5, false)) false (.mov (.t 0))
  (.op 4 [] (some 7) (some (5, false)) false (.bin .eql (.t 6) (.v (.int .i64 49)))
  (.op 5 [] (some 8) none false (.pick (.t 5) (.v (.bool true)) (.t 7))
  (.op 6 [] (some 2) none false (.mov (.t 8))
  .done))))))))
 .ret))
theorem dg_spec_l3texted : Tryz.f176.body.bind (digC Tryz.prog Tryz.f176.ntmps []) = some c_spec_l3texted := by kernel_rfl
theorem rs_spec_l3texted : resSlots Tryz.prog Tryz.f176 = some [.s 2] := by kernel_rfl
theorem ok_spec_l3texted (n : Int) : FnOK Tryz.prog 176 [.one (.d (.sc (.int .i64 n)))] (fun ra _ => ra = [.one (.d (.sc (.bool (hasText n))))]) := by
  refine FnOK.ofK Tryz.func176 (by kernel_rfl) dg_spec_l3texted rs_spec_l3texted rfl rfl ?_
  unfold c_spec_l3texted
  refine kSeq (kReg (kMovC rfl (kDone (kSeq (kReg (kMovC rfl (kBin rfl rfl rfl (kMovC rfl (kGP rfl (fun g0 => kGF rfl (kGF rfl (kPickT rfl (kMovC rfl (kMovC rfl (kDone (kRet (endRetA (ra := [.one (.d _)]) rfl ?_)))))))) (fun g0 => kGT rfl (kMovC rfl (kGT rfl (kBin rfl rfl rfl (kPickF rfl (kMovC rfl (kMovC rfl (kDone (kRet (endRetA (ra := [.one (.d _)]) rfl ?_)))))))))))))))))))
  all_goals simp_all [hasText]

def c_spec_l3data : C := (.seq (.reg false (.op 0 [] (some 1) none false (.box 1 (.t 0))
  (.op 1 [] (some 2) none false (.mov (.v (.bool false)))
  .done)))
 (.seq (.seq (.reg false (.op 0 [] (some 3) none false (.fad (.t 1) 1)
  (.op 1 [] (some 4) none false (.load none (.t 3))
  (.op 2 [] (some 5) none false (.bin .eql (.t 4) (.v (.int .i64 1)))
  .done))))
 (.cond (.t 5)
 (.seq (.reg false (.op 0 [] (some 6) none false (.fad (.t 1) 3)
  (.op 1 [] (some 7) none false (.load none (.t 6))
  (.op 2 [] (some 8) none false (.bin .lss (.t 7) (.v (.int .i64 0)))
  (.op 3 [] (some 9) none false (.mov (.t 8))
  (.op 4 [] (some 10) (some (9, false)) false (.fad (.t 1) 3)
  (.op 5 [] (some 11) (some (9, false)) false (.load none (.t 10))
  (.op 6 [] (some 12) (some (9, false)) false (.bin .geq (.t 11) (.v (.int .i64 4294967296)))
  (.op 7 [] (some 13) none false (.pick (.t 9) (.v (.bool true)) (.t 12))
  .done)))))))))
 (.cond (.t 13)
 (.seq (.reg false (.op 0 [] (some 2) none false (.mov (.v (.bool false)))
  .done))
 .ret)
 .skip))
 (.seq (.reg false (.op 0 [] (some 14) none false (.fad (.t 1) 3)
  (.op 1 [] (some 15) none false (.load none (.t 14))
  (.op 2 [] (some 16) none false (.bin .neq (.t 15) (.v (.int .i64 0)))
  .done))))
 (.cond (.t 16)
 (.seq (.reg false (.op 0 [] (some 2) none false (.mov (.v (.bool false)))
  .done))
 .ret)
 .skip))))
 (.seq (.seq (.reg false (.op 0 [] (some 17) none false (.fad (.t 1) 1)
  (.op 1 [] (some 18) none false (.load none (.t 17))
  (.op 2 [] (some 19) none false (.call 19 175 [(.t 18)])
  .done))))
 (.cond (.t 19)
 (.seq (.reg false (.op 0 [] (some 20) none false (.fad (.t 1) 4)
  (.op 1 [] (some 21) none false (.load (some 1) (.t 20))
  (.op 2 [] (some 22) none false (.call 22 79 [(.t 21)])
  (.op 3 [] (some 23) none false (.un .not (.t 22))
  .done)))))
 (.cond (.t 23)
 (.seq (.reg false (.op 0 [] (some 2) none false (.mov (.v (.bool false)))
  .done))
 .ret)
 .skip))
 (.seq (.reg false (.op 0 [] (some 24) none false (.fad (.t 1) 4)
  (.op 1 [] (some 25) none false (.fad (.t 24) 0)
  (.op 2 [] (some 26) none false (.load none (.t 25))
  (.op 3 [] (some 27) none false (.len (.t 26))
  (.op 4 [] (some 28) none false (.bin .gtr (.t 27) (.v (.int .i64 0)))
  .done))))))
 (.cond (.t 28)
 (.seq (.reg false (.op 0 [] (some 2) none false (.mov (.v (.bool false)))
  .done))
 .ret)
 .skip))))
 (.seq (.seq (.reg false (.op 0 [] (some 29) none false (.fad (.t 1) 1)
  (.op 1 [] (some 30) none false (.load none (.t 29))
  (.op 2 [] (some 31) none false (.call 31 176 [(.t 30)])
  .done))))
 (.cond (.t 31)
 (.seq (.reg false (.op 0 [] (some 32) none false (.fad (.t 1) 5)
  (.op 1 [] (some 33) none false (.load none (.t 32))
  (.op 2 [] (some 34) none false (.len (.t 33))
  (.op 3 [] (some 35) none false (.bin .gtr (.t 34) (.v (.int .i64 40)))
  .done)))))
 (.cond (.t 35)
 (.seq (.reg false (.op 0 [] (some 2) none false (.mov (.v (.bool false)))
  .done))
 .ret)
 .skip))
 (.seq (.reg false (.op 0 [] (some 36) none false (.fad (.t 1) 5)
  (.op 1 [] (some 37) none false (.load none (.t 36))
  (.op 2 [] (some 38) none false (.len (.t 37))
  (.op 3 [] (some 39) none false (.bin .gtr (.t 38) (.v (.int .i64 0)))
  .done)))))
 (.cond (.t 39)
 (.seq (.reg false (.op 0 [] (some 2) none false (.mov (.v (.bool false)))
  .done))
 .ret)
 .skip))))
 (.seq (.seq (.reg false (.op 0 [] (some 40) none false (.fad (.t 1) 1)
  (.op 1 [] (some 41) none false (.load none (.t 40))
  (.op 2 [] (some 42) none false (.bin .neq (.t 41) (.v (.int .i64 6)))
  .done))))
 (.cond (.t 42)
 (.seq (.reg false (.op 0 [] (some 43) none false (.fad (.t 1) 6)
  (.op 1 [] (some 44) none false (.load none (.t 43))
  (.op 2 [] (some 45) none false (.len (.t 44))
  (.op 3 [] (some 46) none false (.bin .eql (.t 45) (.v (.int .i64 0)))
  (.op 4 [] (some 2) none false (.mov (.t 46))
  .done))))))
 .ret)
 .skip))
 (.seq (.seq (.reg false (.op 0 [] (some 47) none false (.fad (.t 1) 6)
  (.op 1 [] (some 48) none false (.load none (.t 47))
  (.op 2 [] (some 49) none false (.len (.t 48))
  (.op 3 [] (some 50) none false (.bin .neq (.t 49) (.v (.int .i64 2)))
  (.op 4 [] (some 51) none false (.mov (.t 50))
  (.op 5 [] (some 52) (some (51, false)) false (.fad (.t 1) 6)
  (.op 6 [] (some 53) (some (51, false)) false (.load none (.t 52))
  (.op 7 [] (some 54) (some (51, false)) false (.iad 1 (.t 53) (.v (.int .i64 0)))
  (.op 8 [] (some 55) (some (51, false)) false (.load none (.t 54))
  (.op 9 [] (some 56) (some (51, false)) false (.bin .lss (.t 55) (.v (.int .i64 0)))
  (.op 10 [] (some 57) none false (.pick (.t 51) (.v (.bool true)) (.t 56))
  (.op 11 [] (some 58) none false (.mov (.t 57))
  (.op 12 [] (some 59) (some (58, false)) false (.fad (.t 1) 6)
  (.op 13 [] (some 60) (some (58, false)) false (.load none (.t 59))
  (.op 14 [] (some 61) (some (58, false)) false (.iad 1 (.t 60) (.v (.int .i64 0)))
  (.op 15 [] (some 62) (some (58, false)) false (.load none (.t 61))
  (.op 16 [] (some 63) (some (58, false)) false (.bin .geq (.t 62) (.v (.int .i64 4294967296)))
  (.op 17 [] (some 64) none false (.pick (.t 58) (.v (.bool true)) (.t 63))
  .done)))))))))))))))))))
 (.cond (.t 64)
 (.seq (.reg false (.op 0 [] (some 2) none false (.mov (.v (.bool false)))
  .done))
 .ret)
 .skip))
 (.seq (.reg false (.op 0 [] (some 65) none false (.fad (.t 1) 6)
  (.op 1 [] (some 66) none false (.load none (.t 65))
  (.op 2 [] (some 67) none false (.iad 1 (.t 66) (.v (.int .i64 1)))
  (.op 3 [] (some 68) none false (.load none (.t 67))
  (.op 4 [] (some 69) none false (.bin .geq (.t 68) (.v (.int .i64 0)))
  (.op 5 [] (some 70) none false (.mov (.t 69))
  (.op 6 [] (some 71) (some (70, true)) false (.fad (.t 1) 6)
  (.op 7 [] (some 72) (some (70, true)) false (.load none (.t 71))
  (.op 8 [] (some 73) (some (70, true)) false (.iad 1 (.t 72) (.v (.int .i64 1)))
  (.op 9 [] (some 74) (some (70, true)) false (.load none (.t 73))
  (.op 10 [] (some 75) (some (70, true)) false (.bin .leq (.t 74) (.v (.int .i64 100000)))
  (.op 11 [] (some 76) none false (.pick (.t 70) (.t 75) (.v (.bool false)))
  (.op 12 [] (some 2) none false (.mov (.t 76))
  .done))))))))))))))
 .ret)))))))
theorem dg_spec_l3data : Tryz.f142.body.bind (digC Tryz.prog Tryz.f142.ntmps []) = some c_spec_l3data := by kernel_rfl
theorem rs_spec_l3data : resSlots Tryz.prog Tryz.f142 = some [.s 2] := by kernel_rfl
theorem ok_spec_l3data (r : Rr) (hs : SmallR r) :
    FnOK Tryz.prog 142 [.agg (r.cells.map .d)] (fun ra _ => ra = [.one (.d (.sc (.bool (dataOk r))))]) := by
  refine FnOK.ofK Tryz.func142 (by kernel_rfl) dg_spec_l3data rs_spec_l3data rfl rfl ?_
  unfold c_spec_l3data
  have t1 := hs.t.len
  have t2 := hs.t.mem
  have x1 := hs.x
  have m1 := hs.m
  refine kSeq (kReg (kBox rfl rfl rfl rfl rfl (kMovC rfl (kDone ?_))))
  by_cases hA : (r.ty = 1 ∧ 0 ≤ r.addr ∧ r.addr < 4294967296) ∨ (r.ty ≠ 1 ∧ r.addr = 0)
  case neg =>
    have e : (if r.ty == 1 then isW r.addr else r.addr == 0) = false := by
      by_cases h : r.ty = 1
      · simp [h, isW]; omega
      · simp [h]; omega
    rw [show dataOk r = false by simp only [dataOk, e, Bool.and_false, Bool.false_and]]
    refine kSeq ?_
    refine kSeq (kReg (kFadP rfl rfl (kLoadP rfl rfl rfl (kBin rfl rfl rfl (kDone (kCondP rfl (fun g0 => kSeq (kReg (kFadP rfl rfl (kLoadP rfl rfl rfl (kBin rfl rfl rfl (kMovC rfl (kGP rfl (fun g1 => kGF rfl (kGF rfl (kGF rfl (kPickT rfl (kMovC rfl (kDone (kCondT rfl (kSeq (kReg (kMovC rfl (kDone (kRet (endRetA (ra := [.one (.d _)]) rfl rfl))))))))))))) (fun g1 => kGT rfl (kFadP rfl rfl (kGT rfl (kLoadP rfl rfl rfl (kGT rfl (kBin rfl rfl rfl (kPickF rfl (kMovC rfl (kDone (kCondP rfl (fun g2 => kSeq (kReg (kMovC rfl (kDone (kRet (endRetA (ra := [.one (.d _)]) rfl rfl)))))) (fun g2 => (by omega))))))))))))))))))) (fun g0 => kSeq (kReg (kFadP rfl rfl (kLoadP rfl rfl rfl (kBin rfl rfl rfl (kDone (kCondIN rfl (fun g3 => kSeq (kReg (kMovC rfl (kDone (kRet (endRetA (ra := [.one (.d _)]) rfl rfl)))))) (fun g3 => (by omega)))))))))))))))
  have eA : (if r.ty == 1 then isW r.addr else r.addr == 0) = true := by
    rcases hA with ⟨h, _, _⟩ | ⟨h, h'⟩
    · simp [h, isW]; omega
    · simp [h, h']
  refine kSeq (kCut ⟨tabSl [(1, .c (.ptr (rid 1 0) 1 0))], obTab 1 [(rid 1 0, ⟨1, 0, .box (r.cells.map .d)⟩)], []⟩ ?_ (fun x hc => ?_))
  case refine_2 =>
    refine kSeq (kReg (kFadP rfl rfl (kLoadP rfl rfl rfl (kBin rfl rfl rfl (kDone (kCondP rfl (fun g0 => kSeq (kReg (kFadP rfl rfl (kLoadP rfl rfl rfl (kBin rfl rfl rfl (kMovC rfl (kGP rfl (fun g1 => (by omega)) (fun g1 => kGT rfl (kFadP rfl rfl (kGT rfl (kLoadP rfl rfl rfl (kGT rfl (kBin rfl rfl rfl (kPickF rfl (kMovC rfl (kDone (kCondP rfl (fun g2 => (by omega)) (fun g2 => kSkip (hc _ .normA))))))))))))))))))) (fun g0 => kSeq (kReg (kFadP rfl rfl (kLoadP rfl rfl rfl (kBin rfl rfl rfl (kDone (kCondIN rfl (fun g3 => (by omega)) (fun g3 => kSkip (hc _ .normA)))))))))))))))
  by_cases eB : (if hasTo r.ty then nameOk r.to else ((r.to.length : Int) == 0)) = true
  case neg =>
    rw [show dataOk r = false by simp only [dataOk, Bool.eq_false_iff.2 eB, Bool.and_false, Bool.false_and]]
    refine kSeq ?_
    cases hT : hasTo r.ty
    case false =>
      have hN : ¬ (r.to.length : Int) = 0 := by simpa [hT] using eB
      have hN' : ¬ r.to.length = 0 := by omega
      refine kSeq (kReg (kFadP rfl rfl (kLoadP rfl rfl rfl (kCallD (ok_spec_l3named _) ⟨rfl, trivial⟩ rfl rfl rfl rfl rfl (kDone (kCond rfl (fun g0 => (by (simp [*] at g0))) (fun g0 => kSeq (kReg (kFadP rfl rfl (kFadP rfl rfl (kLoadP rfl rfl rfl (kLenR rfl rfl (kBin rfl rfl rfl (kDone (kCondP rfl (fun g1 => kSeq (kReg (kMovC rfl (kDone (kRet (endRetA (ra := [.one (.d _)]) rfl rfl)))))) (fun g1 => (by omega)))))))))))))))))
    case true =>
      have hN : nameOk r.to = false := by simpa [hT] using eB
      refine kSeq (kReg (kFadP rfl rfl (kLoadP rfl rfl rfl (kCallD (ok_spec_l3named _) ⟨rfl, trivial⟩ rfl rfl rfl rfl rfl (kDone (kCond rfl (fun g0 => kSeq (kReg (kFadP rfl rfl (kLoadP rfl rfl rfl (kCallD (ok_spec_NameOk _ (by first | assumption | omega | solve_by_elim [List.getElem_mem] | (simp only [szOut] at *; omega)) (by first | assumption | omega | solve_by_elim [List.getElem_mem] | (simp only [szOut] at *; omega))) ⟨⟨⟨rfl, trivial⟩, Nat.le_of_ble_eq_true rfl⟩, trivial⟩ rfl rfl rfl rfl rfl (kUn rfl rfl (kDone (kCondN rfl (fun g1 => kSeq (kReg (kMovC rfl (kDone (kRet (endRetA (ra := [.one (.d _)]) rfl rfl)))))) (fun g1 => (by (simp [*] at g1))))))))))) (fun g0 => (by (simp [*] at g0)))))))))
  refine kSeq (kCut ⟨tabSl [(1, .c (.ptr (rid 1 0) 1 0))], obTab 1 [(rid 1 0, ⟨1, 0, .box (r.cells.map .d)⟩)], []⟩ ?_ (fun x hc => ?_))
  case refine_2 =>
    cases hT : hasTo r.ty
    case false =>
      have hN : (r.to.length : Int) = 0 := by rw [hT] at eB; simpa using eB
      have hN' : r.to.length = 0 := by omega
      clear hN
      refine kSeq (kReg (kFadP rfl rfl (kLoadP rfl rfl rfl (kCallD (ok_spec_l3named _) ⟨rfl, trivial⟩ rfl rfl rfl rfl rfl (kDone (kCond rfl (fun g0 => (by (simp [*] at g0))) (fun g0 => kSeq (kReg (kFadP rfl rfl (kFadP rfl rfl (kLoadP rfl rfl rfl (kLenR rfl rfl (kBin rfl rfl rfl (kDone (kCondP rfl (fun g1 => (by omega)) (fun g1 => kSkip (hc _ .normA)))))))))))))))))
    case true =>
      have hN : nameOk r.to = true := by simpa [hT] using eB
      refine kSeq (kReg (kFadP rfl rfl (kLoadP rfl rfl rfl (kCallD (ok_spec_l3named _) ⟨rfl, trivial⟩ rfl rfl rfl rfl rfl (kDone (kCond rfl (fun g0 => kSeq (kReg (kFadP rfl rfl (kLoadP rfl rfl rfl (kCallD (ok_spec_NameOk _ (by first | assumption | omega | solve_by_elim [List.getElem_mem] | (simp only [szOut] at *; omega)) (by first | assumption | omega | solve_by_elim [List.getElem_mem] | (simp only [szOut] at *; omega))) ⟨⟨⟨rfl, trivial⟩, Nat.le_of_ble_eq_true rfl⟩, trivial⟩ rfl rfl rfl rfl rfl (kUn rfl rfl (kDone (kCondN rfl (fun g1 => (by (simp [*] at g1))) (fun g1 => kSkip (hc _ .normA)))))))))) (fun g0 => (by (simp [*] at g0)))))))))
  by_cases eC : (if hasText r.ty then decide ((r.text.length : Int) ≤ 40) else ((r.text.length : Int) == 0)) = true
  case neg =>
    rw [show dataOk r = false by simp only [dataOk, Bool.eq_false_iff.2 eC, Bool.and_false]]
    refine kSeq ?_
    cases hT : hasText r.ty
    case false =>
      have hN' : ¬ r.text.length = 0 := by rw [hT] at eC; simp at eC; simpa using eC
      refine kSeq (kReg (kFadP rfl rfl (kLoadP rfl rfl rfl (kCallD (ok_spec_l3texted _) ⟨rfl, trivial⟩ rfl rfl rfl rfl rfl (kDone (kCond rfl (fun g0 => (by (simp [*] at g0))) (fun g0 => kSeq (kReg (kFadP rfl rfl (kLoadP rfl rfl rfl (kLenR rfl rfl (kBin rfl rfl rfl (kDone (kCondP rfl (fun g1 => kSeq (kReg (kMovC rfl (kDone (kRet (endRetA (ra := [.one (.d _)]) rfl rfl)))))) (fun g1 => (by omega))))))))))))))))
    case true =>
      have hN' : ¬ r.text.length ≤ 40 := by rw [hT] at eC; simp at eC; omega
      refine kSeq (kReg (kFadP rfl rfl (kLoadP rfl rfl rfl (kCallD (ok_spec_l3texted _) ⟨rfl, trivial⟩ rfl rfl rfl rfl rfl (kDone (kCond rfl (fun g0 => kSeq (kReg (kFadP rfl rfl (kLoadP rfl rfl rfl (kLenR rfl rfl (kBin rfl rfl rfl (kDone (kCondP rfl (fun g1 => kSeq (kReg (kMovC rfl (kDone (kRet (endRetA (ra := [.one (.d _)]) rfl rfl)))))) (fun g1 => (by omega)))))))))) (fun g0 => (by (simp [*] at g0)))))))))
  refine kSeq (kCut ⟨tabSl [(1, .c (.ptr (rid 1 0) 1 0))], obTab 1 [(rid 1 0, ⟨1, 0, .box (r.cells.map .d)⟩)], []⟩ ?_ (fun x hc => ?_))
  case refine_2 =>
    cases hT : hasText r.ty
    case false =>
      have hN' : r.text.length = 0 := by rw [hT] at eC; simp at eC; rw [eC]; rfl
      refine kSeq (kReg (kFadP rfl rfl (kLoadP rfl rfl rfl (kCallD (ok_spec_l3texted _) ⟨rfl, trivial⟩ rfl rfl rfl rfl rfl (kDone (kCond rfl (fun g0 => (by (simp [*] at g0))) (fun g0 => kSeq (kReg (kFadP rfl rfl (kLoadP rfl rfl rfl (kLenR rfl rfl (kBin rfl rfl rfl (kDone (kCondP rfl (fun g1 => (by omega)) (fun g1 => kSkip (hc _ .normA))))))))))))))))
    case true =>
      have hN' : r.text.length ≤ 40 := by rw [hT] at eC; simp at eC; omega
      refine kSeq (kReg (kFadP rfl rfl (kLoadP rfl rfl rfl (kCallD (ok_spec_l3texted _) ⟨rfl, trivial⟩ rfl rfl rfl rfl rfl (kDone (kCond rfl (fun g0 => kSeq (kReg (kFadP rfl rfl (kLoadP rfl rfl rfl (kLenR rfl rfl (kBin rfl rfl rfl (kDone (kCondP rfl (fun g1 => (by omega)) (fun g1 => kSkip (hc _ .normA)))))))))) (fun g0 => (by (simp [*] at g0)))))))))
  rw [show dataOk r = (if r.ty == 6 then numsOk r.nums else ((r.nums.length : Int) == 0)) by simp only [dataOk, eA, eB, eC, Bool.and_true]]
  clear eA eB eC hA
  refine kSeq (kSeq (kReg (kFadP rfl rfl (kLoadP rfl rfl rfl (kBin rfl rfl rfl (kDone (kCondIN rfl (fun g0 => kSeq (kReg (kFadP rfl rfl (kLoadP rfl rfl rfl (kLenR rfl rfl (kBin rfl rfl rfl (kMovC rfl (kDone (kRet (endRetA (ra := [.one (.d _)]) rfl ?_)))))))))) (fun g0 => kSkip (kSeq (kSeq (kReg (kFadP rfl rfl (kLoadP rfl rfl rfl (kLenR rfl rfl (kBin rfl rfl rfl (kMovC rfl (kGIN rfl (fun g1 => kGF rfl (kGF rfl (kGF rfl (kGF rfl (kGF rfl (kPickT rfl (kMovC rfl (kMovC rfl (kGF rfl (kGF rfl (kGF rfl (kGF rfl (kGF rfl (kPickT rfl (kMovC rfl (kDone (kCondT rfl (kSeq (kReg (kMovC rfl (kDone (kRet (endRetA (ra := [.one (.d _)]) rfl ?_))))))))))))))))))))))) (fun g1 => kGT rfl (kFadP rfl rfl (kGT rfl (kLoadP rfl rfl rfl (kGT rfl (kIadR (m := 0) rfl rfl rfl (by omega) (kGT rfl (kLoadD rfl rfl (kGT rfl (kBin rfl rfl rfl (kPickF rfl (kMovC rfl (kMovC rfl (kGP rfl (fun g2 => kGF rfl (kGF rfl (kGF rfl (kGF rfl (kGF rfl (kPickT rfl (kMovC rfl (kDone (kCondT rfl (kSeq (kReg (kMovC rfl (kDone (kRet (endRetA (ra := [.one (.d _)]) rfl ?_))))))))))))))) (fun g2 => kGT rfl (kFadP rfl rfl (kGT rfl (kLoadP rfl rfl rfl (kGT rfl (kIadR (m := 0) rfl rfl rfl (by omega) (kGT rfl (kLoadD rfl rfl (kGT rfl (kBin rfl rfl rfl (kPickF rfl (kMovC rfl (kDone (kCondP rfl (fun g3 => kSeq (kReg (kMovC rfl (kDone (kRet (endRetA (ra := [.one (.d _)]) rfl ?_)))))) (fun g3 => kSkip (kSeq (kReg (kFadP rfl rfl (kLoadP rfl rfl rfl (kIadR (m := 1) rfl rfl rfl (by omega) (kLoadD rfl rfl (kBin rfl rfl rfl (kMovC rfl (kGP rfl (fun g4 => kGT rfl (kFadP rfl rfl (kGT rfl (kLoadP rfl rfl rfl (kGT rfl (kIadR (m := 1) rfl rfl rfl (by omega) (kGT rfl (kLoadD rfl rfl (kGT rfl (kBin rfl rfl rfl (kPickT rfl (kMovC rfl (kMovC rfl (kDone (kRet (endRetA (ra := [.one (.d _)]) rfl ?_)))))))))))))))) (fun g4 => kGF rfl (kGF rfl (kGF rfl (kGF rfl (kGF rfl (kPickF rfl (kMovC rfl (kMovC rfl (kDone (kRet (endRetA (ra := [.one (.d _)]) rfl ?_))))))))))))))))))))))))))))))))))))))))))))))))))))))))))))))))))
  all_goals first
    | (simp [*]; done)
    | (rw [if_pos (by simpa using (by assumption : r.ty = 6)), numsOk, dif_pos (by assumption)]
       simp only [isW]
       refine congrArg (fun b : Bool => [RA.one (RV.d (DV.sc (Value.bool b)))]) ?_
       rw [Bool.eq_iff_iff]
       simp
       omega)

def c_spec_RrOk : C := (.seq (.reg false (.op 0 [] (some 1) none false (.box 1 (.t 0))
  (.op 1 [] (some 2) none false (.mov (.v (.bool false)))
  .done)))
 (.seq (.reg false (.op 0 [] (some 3) none false (.fad (.t 1) 0)
  (.op 1 [] (some 4) none false (.load (some 1) (.t 3))
  (.op 2 [] (some 5) none false (.call 5 79 [(.t 4)])
  (.op 3 [] (some 6) none false (.mov (.t 5))
  (.op 4 [] (some 7) (some (6, true)) false (.fad (.t 1) 1)
  (.op 5 [] (some 8) (some (6, true)) false (.load none (.t 7))
  (.op 6 [] (some 9) (some (6, true)) false (.call 9 138 [(.t 8)])
  (.op 7 [] (some 10) none false (.pick (.t 6) (.t 9) (.v (.bool false)))
  (.op 8 [] (some 11) none false (.mov (.t 10))
  (.op 9 [] (some 12) (some (11, true)) false (.fad (.t 1) 2)
  (.op 10 [] (some 13) (some (11, true)) false (.load none (.t 12))
  (.op 11 [] (some 14) (some (11, true)) false (.bin .geq (.t 13) (.v (.int .i64 0)))
  (.op 12 [] (some 15) none false (.pick (.t 11) (.t 14) (.v (.bool false)))
  (.op 13 [] (some 16) none false (.mov (.t 15))
  (.op 14 [] (some 17) (some (16, true)) false (.fad (.t 1) 2)
  (.op 15 [] (some 18) (some (16, true)) false (.load none (.t 17))
  (.op 16 [] (some 19) (some (16, true)) false (.bin .leq (.t 18) (.v (.int .i64 100000)))
  (.op 17 [] (some 20) none false (.pick (.t 16) (.t 19) (.v (.bool false)))
  (.op 18 [] (some 21) none false (.mov (.t 20))
  (.op 19 [] (some 22) (some (21, true)) false (.load (some 7) (.t 1))
  (.op 20 [] (some 23) (some (21, true)) false (.call 23 142 [(.t 22)])
  (.op 21 [] (some 24) none false (.pick (.t 21) (.t 23) (.v (.bool false)))
  (.op 22 [] (some 2) none false (.mov (.t 24))
  .done))))))))))))))))))))))))
 .ret))
theorem dg_spec_RrOk : Tryz.f90.body.bind (digC Tryz.prog Tryz.f90.ntmps []) = some c_spec_RrOk := by kernel_rfl
theorem rs_spec_RrOk : resSlots Tryz.prog Tryz.f90 = some [.s 2] := by kernel_rfl
theorem ok_spec_RrOk (r : Rr) (hs : SmallR r) :
    FnOK Tryz.prog 90 [.agg (r.cells.map .d)] (fun ra _ => ra = [.one (.d (.sc (.bool (rrOk r))))]) := by
  refine FnOK.ofK Tryz.func90 (by kernel_rfl) dg_spec_RrOk rs_spec_RrOk rfl rfl ?_
  unfold c_spec_RrOk
  have n1 := hs.n.len
  have n2 := hs.n.mem
  refine kSeq (kReg (kBox rfl rfl rfl rfl rfl (kMovC rfl (kDone (kSeq (kReg (kFadP rfl rfl (kLoadP rfl rfl rfl (kCallD (ok_spec_NameOk _ (by first | assumption | omega | solve_by_elim [List.getElem_mem] | (simp only [szOut] at *; omega)) (by first | assumption | omega | solve_by_elim [List.getElem_mem] | (simp only [szOut] at *; omega))) ⟨⟨⟨rfl, trivial⟩, Nat.le_of_ble_eq_true rfl⟩, trivial⟩ rfl rfl rfl rfl rfl (kMovC rfl (kGS rfl (fun g0 => kGT rfl (kFadP rfl rfl (kGT rfl (kLoadP rfl rfl rfl (kGT rfl (kCallD (ok_spec_TypeOk _) ⟨rfl, trivial⟩ rfl rfl rfl rfl rfl (kPickT rfl (kMovC rfl (kMovC rfl (kGS rfl (fun g1 => kGT rfl (kFadP rfl rfl (kGT rfl (kLoadP rfl rfl rfl (kGT rfl (kBin rfl rfl rfl (kPickT rfl (kMovC rfl (kMovC rfl (kGP rfl (fun g2 => kGT rfl (kFadP rfl rfl (kGT rfl (kLoadP rfl rfl rfl (kGT rfl (kBin rfl rfl rfl (kPickT rfl (kMovC rfl (kMovC rfl (kGP rfl (fun g3 => kGT rfl (kLoadP rfl rfl rfl (kGT rfl (kCallD (ok_spec_l3data _ (by first | assumption | omega | solve_by_elim [List.getElem_mem] | (simp only [szOut] at *; omega))) ⟨⟨⟨rfl, rfl, rfl, rfl, rfl, rfl, rfl, trivial⟩, Nat.le_of_ble_eq_true rfl⟩, trivial⟩ rfl rfl rfl rfl rfl (kPickT rfl (kMovC rfl (kMovC rfl (kDone (kRet (endRetA (ra := [.one (.d _)]) rfl ?_)))))))))) (fun g3 => kGF rfl (kGF rfl (kPickF rfl (kMovC rfl (kMovC rfl (kDone (kRet (endRetA (ra := [.one (.d _)]) rfl ?_)))))))))))))))))) (fun g2 => kGF rfl (kGF rfl (kGF rfl (kPickF rfl (kMovC rfl (kMovC rfl (kGF rfl (kGF rfl (kPickF rfl (kMovC rfl (kMovC rfl (kDone (kRet (endRetA (ra := [.one (.d _)]) rfl ?_)))))))))))))))))))))))) (fun g1 => kGF rfl (kGF rfl (kGF rfl (kPickF rfl (kMovC rfl (kMovC rfl (kGF rfl (kGF rfl (kGF rfl (kPickF rfl (kMovC rfl (kMovC rfl (kGF rfl (kGF rfl (kPickF rfl (kMovC rfl (kMovC rfl (kDone (kRet (endRetA (ra := [.one (.d _)]) rfl ?_)))))))))))))))))))))))))))))) (fun g0 => kGF rfl (kGF rfl (kGF rfl (kPickF rfl (kMovC rfl (kMovC rfl (kGF rfl (kGF rfl (kGF rfl (kPickF rfl (kMovC rfl (kMovC rfl (kGF rfl (kGF rfl (kGF rfl (kPickF rfl (kMovC rfl (kMovC rfl (kGF rfl (kGF rfl (kPickF rfl (kMovC rfl (kMovC rfl (kDone (kRet (endRetA (ra := [.one (.d _)]) rfl ?_)))))))))))))))))))))))))))))))))))))
  all_goals (simp only [rrOk, *]; first | rfl | (simp; done) | (simp; omega))

def c_spec_l4rrs : C := (.seq (.reg false (.op 0 [] (some 2) none false (.mov (.v (.bool false)))
  .done))
 (.seq (.seq (.reg false (.op 0 [] (some 4) none false (.mov (.t 0))
  (.op 1 [] (some 5) none false (.len (.t 4))
  (.op 2 [] (some 6) none false (.bin .gtr (.t 5) (.v (.int .i64 12)))
  .done))))
 (.cond (.t 6)
 (.seq (.reg false (.op 0 [] (some 2) none false (.mov (.v (.bool false)))
  .done))
 .ret)
 .skip))
 (.seq (.seq (.reg false (.op 0 [] (some 3) none false (.mov (.v (.int .i64 0)))
  .done))
 (.block 0 (.loop (.seq (.seq (.reg false (.op 0 [] (some 7) none false (.mov (.t 3))
  (.op 1 [] (some 8) none false (.mov (.t 0))
  (.op 2 [] (some 9) none false (.len (.t 8))
  (.op 3 [] (some 10) none false (.bin .lss (.t 7) (.t 9))
  .done)))))
 (.cond (.t 10)
 .skip
 (.exit 0)))
 (.seq (.block 1 (.seq (.reg false (.op 0 [] (some 13) none false (.mov (.t 0))
  (.op 1 [] (some 14) none false (.mov (.t 3))
  (.op 2 [] (some 15) none false (.iad 7 (.t 13) (.t 14))
  (.op 3 [] (some 16) none false (.load (some 7) (.t 15))
  (.op 4 [] (some 17) none false (.call 17 90 [(.t 16)])
  (.op 5 [] (some 18) none false (.un .not (.t 17))
  .done)))))))
 (.cond (.t 18)
 (.seq (.reg false (.op 0 [] (some 2) none false (.mov (.v (.bool false)))
  .done))
 .ret)
 .skip)))
 (.reg false (.op 0 [] (some 11) none false (.mov (.t 3))
  (.op 1 [] (some 12) none false (.bin .add (.t 11) (.v (.int .i64 1)))
  (.op 2 [] (some 3) none false (.mov (.t 12))
  .done)))))))))
 (.seq (.reg false (.op 0 [] (some 2) none false (.mov (.v (.bool true)))
  .done))
 .ret))))
theorem dg_spec_l4rrs : Tryz.f124.body.bind (digC Tryz.prog Tryz.f124.ntmps []) = some c_spec_l4rrs := by kernel_rfl
theorem rs_spec_l4rrs : resSlots Tryz.prog Tryz.f124 = some [.s 2] := by kernel_rfl
theorem ok_spec_l4rrs (l : List Rr) (hs : SmallRs l) :
    FnOK Tryz.prog 124 [.one (.d (encR l))] (fun ra _ => ra = [.one (.d (.sc (.bool (rrsOk l))))]) := by
  refine FnOK.ofK Tryz.func124 (by kernel_rfl) dg_spec_l4rrs rs_spec_l4rrs rfl rfl ?_
  unfold c_spec_l4rrs
  have h1 := hs.len
  refine kSeq (kReg (kMovC rfl (kDone (kSeq (kSeq (kReg (kMovC rfl (kLenR rfl rfl (kBin rfl rfl rfl (kDone (kCondP rfl (fun g0 => kSeq (kReg (kMovC rfl (kDone (kRet (endRetA (ra := [.one (.d _)]) rfl ?_)))))) (fun g0 => kSkip (kSeq (kSeq (kReg (kMovC rfl (kDone (kBlock ?_))))))))))))))))))
  · rw [show rrsOk l = false by simp only [rrsOk]; rw [decide_eq_false (by omega)]; rfl]
  refine kLoop (α := { i : Nat // i ≤ l.length ∧ (l.take i).all rrOk = true })
    (fun y => ⟨tabSl [(0, .dv (encR l)), (3, .i y.1)], obTab 1 [], []⟩) (fun y => l.length - y.1) ⟨0, by simp⟩
    .normA ?_
  rintro ⟨i, hi, hl⟩
  simp only
  rcases Nat.lt_or_ge i l.length with hlt | hge
  · have hbi := hs.mem _ (List.getElem_mem hlt)
    refine kSeq (kSeq (kReg (kMovC rfl (kMovC rfl (kLenR rfl rfl (kBin rfl rfl rfl (kDone (kCondP rfl (fun g0 => kSkip (kSeq (kBlock (kSeq (kReg (kMovC rfl (kMovC rfl (kIadR rfl rfl rfl (by omega) (kLoadD rfl rfl (kCallD (ok_spec_RrOk _ (by first | assumption | omega | solve_by_elim [List.getElem_mem] | (simp only [szOut] at *; omega))) ⟨⟨⟨rfl, rfl, rfl, rfl, rfl, rfl, rfl, trivial⟩, Nat.le_of_ble_eq_true rfl⟩, trivial⟩ rfl rfl rfl rfl rfl (kUn rfl rfl (kDone (kCondN rfl (fun g1 => kSeq (kReg (kMovC rfl (kDone (kRet (endRetA (ra := [.one (.d _)]) rfl ?_)))))) (fun g1 => kSkip (kBk (kReg (kMovC rfl (kAdd rfl rfl (by omega) (kMovC rfl (kDone ?_)))))))))))))))))))) (fun g0 => (by omega))))))))))
    · rw [show rrsOk l = false by simp only [rrsOk]; rw [all_no (i := i) (by omega) (by assumption), Bool.and_false]]
    · exact kInv ⟨⟨i + 1, by omega, all_step (by omega) hl (by assumption)⟩, by simp only; omega, .normA⟩
  · refine kSeq (kSeq (kReg (kMovC rfl (kMovC rfl (kLenR rfl rfl (kBin rfl rfl rfl (kDone (kCondP rfl (fun g0 => (by omega)) (fun g0 => kExit (kExC (kExI (kExB (kSeq (kReg (kMovC rfl (kDone (kRet (endRetA (ra := [.one (.d _)]) rfl ?_))))))))))))))))))
    rw [show i = l.length by omega, List.take_length] at hl
    rw [show rrsOk l = true by simp only [rrsOk]; rw [decide_eq_true (by omega), hl]; rfl]

def c_spec_l2bytes : C := (.seq (.reg false (.op 0 [] (some 4) none false (.mov (.v (.int .i64 0)))
  .done))
 (.seq (.seq (.reg false (.op 0 [] (some 5) none false (.mov (.t 0))
  (.op 1 [] (some 6) none false (.b2s (.t 5))
  (.op 2 [] (some 7) none false (.mov (.t 1))
  (.op 3 [] (some 8) none false (.b2s (.t 7))
  (.op 4 [] (some 9) none false (.bin .lss (.t 6) (.t 8))
  .done))))))
 (.cond (.t 9)
 (.seq (.reg false (.op 0 [] (some 4) none false (.mov (.v (.int .i64 (-1))))
  .done))
 .ret)
 .skip))
 (.seq (.seq (.reg false (.op 0 [] (some 10) none false (.mov (.t 0))
  (.op 1 [] (some 11) none false (.b2s (.t 10))
  (.op 2 [] (some 12) none false (.mov (.t 1))
  (.op 3 [] (some 13) none false (.b2s (.t 12))
  (.op 4 [] (some 14) none false (.bin .gtr (.t 11) (.t 13))
  .done))))))
 (.cond (.t 14)
 (.seq (.reg false (.op 0 [] (some 4) none false (.mov (.v (.int .i64 1)))
  .done))
 .ret)
 .skip))
 (.seq (.reg false (.op 0 [] (some 4) none false (.mov (.v (.int .i64 0)))
  .done))
 .ret))))
theorem dg_spec_l2bytes : Tryz.f154.body.bind (digC Tryz.prog Tryz.f154.ntmps []) = some c_spec_l2bytes := by kernel_rfl
theorem rs_spec_l2bytes : resSlots Tryz.prog Tryz.f154 = some [.s 4] := by kernel_rfl
theorem ok_spec_l2bytes (a b : List UInt8) :
    FnOK Tryz.prog 154 [.one (.d (encB a)), .one (.d (encB b))] (fun ra _ => ra = [.one (.d (.sc (.int .i64 (cmpB a b))))]) := by
  refine FnOK.ofK Tryz.func154 (by kernel_rfl) dg_spec_l2bytes rs_spec_l2bytes rfl rfl ?_
  unfold c_spec_l2bytes
  refine kSeq (kReg (kMovC rfl (kDone (kSeq (kSeq (kReg (kMovC rfl (kB2s rfl rfl (kMovC rfl (kB2s rfl rfl (kBin rfl rfl rfl (kDone (kCond rfl (fun g0 => kSeq (kReg (kMovC rfl (kDone (kRet (endRetA (ra := [.one (.d _)]) rfl ?_)))))) (fun g0 => kSkip (kSeq (kSeq (kReg (kMovC rfl (kB2s rfl rfl (kMovC rfl (kB2s rfl rfl (kBin rfl rfl rfl (kDone (kCondN rfl (fun g1 => kSeq (kReg (kMovC rfl (kDone (kRet (endRetA (ra := [.one (.d _)]) rfl ?_)))))) (fun g1 => kSkip (kSeq (kReg (kMovC rfl (kDone (kRet (endRetA (ra := [.one (.d _)]) rfl ?_)))))))))))))))))))))))))))))))
  all_goals simp_all [cmpB]

def c_spec_l2cmp : C := (.seq (.reg false (.op 0 [] (some 2) none false (.box 2 (.t 0))
  (.op 1 [] (some 3) none false (.box 3 (.t 1))
  (.op 2 [] (some 4) none false (.mov (.v (.int .i64 0)))
  .done))))
 (.seq (.seq (.reg false (.op 0 [] (some 5) none false (.mov (.v (.int .i64 1)))
  .done))
 (.block 0 (.loop (.seq (.seq (.reg false (.op 0 [] (some 7) none false (.mov (.t 5))
  (.op 1 [] (some 8) none false (.fad (.t 2) 0)
  (.op 2 [] (some 9) none false (.load none (.t 8))
  (.op 3 [] (some 10) none false (.len (.t 9))
  (.op 4 [] (some 11) none false (.bin .leq (.t 7) (.t 10))
  (.op 5 [] (some 12) none false (.mov (.t 11))
  (.op 6 [] (some 13) (some (12, true)) false (.mov (.t 5))
  (.op 7 [] (some 14) (some (12, true)) false (.fad (.t 3) 0)
  (.op 8 [] (some 15) (some (12, true)) false (.load none (.t 14))
  (.op 9 [] (some 16) (some (12, true)) false (.len (.t 15))
  (.op 10 [] (some 17) (some (12, true)) false (.bin .leq (.t 13) (.t 16))
  (.op 11 [] (some 18) none false (.pick (.t 12) (.t 17) (.v (.bool false)))
  .done)))))))))))))
 (.cond (.t 18)
 .skip
 (.exit 0)))
 (.seq (.block 1 (.seq (.reg true (.op 0 [] (some 21) none true (.fad (.t 2) 0)
  (.op 1 [] (some 22) none true (.load none (.t 21))
  (.op 2 [] (some 23) none true (.fad (.t 2) 0)
  (.op 3 [] (some 24) none true (.load none (.t 23))
  (.op 4 [] (some 25) none true (.len (.t 24))
  (.op 5 [] (some 26) none true (.mov (.t 5))
  (.op 6 [] (some 27) none true (.bin .sub (.t 25) (.t 26))
  (.op 7 [] (some 28) none true (.iad 1 (.t 22) (.t 27))
  (.op 8 [] (some 29) none true (.load none (.t 28))
  (.op 9 [] (some 30) none true (.fad (.t 3) 0)
  (.op 10 [] (some 31) none true (.load none (.t 30))
  (.op 11 [] (some 32) none true (.fad (.t 3) 0)
  (.op 12 [] (some 33) none true (.load none (.t 32))
  (.op 13 [] (some 34) none true (.len (.t 33))
  (.op 14 [] (some 35) none true (.mov (.t 5))
  (.op 15 [] (some 36) none true (.bin .sub (.t 34) (.t 35))
  (.op 16 [] (some 37) none true (.iad 1 (.t 31) (.t 36))
  (.op 17 [] (some 38) none true (.load none (.t 37))
  (.op 18 [8, 1, 3, 17, 10, 12] (some 39) none false (.call 39 154 [(.t 29), (.t 38)])
  (.op 19 [] (some 6) none true (.mov (.t 39))
  .done)))))))))))))))))))))
 (.seq (.reg false (.op 0 [] (some 40) none false (.mov (.t 6))
  (.op 1 [] (some 41) none false (.bin .neq (.t 40) (.v (.int .i64 0)))
  .done)))
 (.cond (.t 41)
 (.seq (.reg false (.op 0 [] (some 42) none false (.mov (.t 6))
  (.op 1 [] (some 4) none false (.mov (.t 42))
  .done)))
 .ret)
 .skip))))
 (.reg false (.op 0 [] (some 19) none false (.mov (.t 5))
  (.op 1 [] (some 20) none false (.bin .add (.t 19) (.v (.int .i64 1)))
  (.op 2 [] (some 5) none false (.mov (.t 20))
  .done)))))))))
 (.seq (.seq (.reg false (.op 0 [] (some 43) none false (.fad (.t 2) 0)
  (.op 1 [] (some 44) none false (.load none (.t 43))
  (.op 2 [] (some 45) none false (.len (.t 44))
  (.op 3 [] (some 46) none false (.fad (.t 3) 0)
  (.op 4 [] (some 47) none false (.load none (.t 46))
  (.op 5 [] (some 48) none false (.len (.t 47))
  (.op 6 [] (some 49) none false (.bin .neq (.t 45) (.t 48))
  .done))))))))
 (.cond (.t 49)
 (.seq (.seq (.reg false (.op 0 [] (some 50) none false (.fad (.t 2) 0)
  (.op 1 [] (some 51) none false (.load none (.t 50))
  (.op 2 [] (some 52) none false (.len (.t 51))
  (.op 3 [] (some 53) none false (.fad (.t 3) 0)
  (.op 4 [] (some 54) none false (.load none (.t 53))
  (.op 5 [] (some 55) none false (.len (.t 54))
  (.op 6 [] (some 56) none false (.bin .lss (.t 52) (.t 55))
  .done))))))))
 (.cond (.t 56)
 (.seq (.reg false (.op 0 [] (some 4) none false (.mov (.v (.int .i64 (-1))))
  .done))
 .ret)
 .skip))
 (.seq (.reg false (.op 0 [] (some 4) none false (.mov (.v (.int .i64 1)))
  .done))
 .ret))
 .skip))
 (.seq (.reg false (.op 0 [] (some 4) none false (.mov (.v (.int .i64 0)))
  .done))
 .ret))))
theorem dg_spec_l2cmp : Tryz.f109.body.bind (digC Tryz.prog Tryz.f109.ntmps []) = some c_spec_l2cmp := by kernel_rfl
theorem rs_spec_l2cmp : resSlots Tryz.prog Tryz.f109 = some [.s 4] := by kernel_rfl
theorem ok_spec_l2cmp (a b : List (List UInt8)) (ha : a.length ≤ 4194304) (hb : b.length ≤ 4194304) :
    FnOK Tryz.prog 109 [.agg [.d (encBB a)], .agg [.d (encBB b)]] (fun ra _ => ra = [.one (.d (.sc (.int .i64 (cmpN a b))))]) := by
  refine FnOK.ofK Tryz.func109 (by kernel_rfl) dg_spec_l2cmp rs_spec_l2cmp rfl rfl ?_
  unfold c_spec_l2cmp
  refine kSeq (kReg (kBox rfl rfl rfl rfl rfl (kBox rfl rfl rfl rfl rfl (kMovC rfl (kDone (kSeq (kSeq (kReg (kMovC rfl (kDone (kBlock ?_)))))))))))
  refine kLoop (α := { k : Nat // k ≤ a.length ∧ k ≤ b.length ∧ cmpN a b = cmpL (a.reverse.drop k) (b.reverse.drop k) })
    (fun y => ⟨tabSl [(2, .c (.ptr (rid 2 0) 1 0)), (3, .c (.ptr (rid 3 0) 1 0)), (5, .i (y.1 + 1))], obTab 1 [(rid 2 0, ⟨1, 0, .box [.d (encBB a)]⟩), (rid 3 0, ⟨1, 0, .box [.d (encBB b)]⟩)], []⟩) (fun y => a.length - y.1) ⟨0, by simp [cmpN]⟩
    .normA ?_
  rintro ⟨k, h1, h2, h3⟩
  simp only
  rcases Nat.lt_or_ge k a.length with hla | hga
  · rcases Nat.lt_or_ge k b.length with hlb | hgb
    · have hst := cmpL_step a b k hla hlb (a.length - (k + 1) : Int).toNat (b.length - (k + 1) : Int).toNat (by omega) (by omega)
      refine kSeq (kSeq (kReg (kMovC rfl (kFadP rfl rfl (kLoadP rfl rfl rfl (kLenR rfl rfl (kBin rfl rfl rfl (kMovC rfl (kGP rfl (fun g0 => kGT rfl (kMovC rfl (kGT rfl (kFadP rfl rfl (kGT rfl (kLoadP rfl rfl rfl (kGT rfl (kLenR rfl rfl (kGT rfl (kBin rfl rfl rfl (kPickT rfl (kMovC rfl (kDone (kCondP rfl (fun g1 => kSkip (kSeq (kBlock (kSeq (kRegD (kFadP rfl rfl (kLoadP rfl rfl rfl (kFadP rfl rfl (kLoadP rfl rfl rfl (kLenR rfl rfl (kMovC rfl (kDif rfl rfl (by omega) (kIadT rfl rfl (by omega) (kLoadD rfl rfl (kFadP rfl rfl (kLoadP rfl rfl rfl (kFadP rfl rfl (kLoadP rfl rfl rfl (kLenR rfl rfl (kMovC rfl (kDif rfl rfl (by omega) (kIadT rfl rfl (by omega) (kLoadD rfl rfl (kRelF rfl rfl (kCallD (ok_spec_l2bytes _ _) ⟨rfl, rfl, trivial⟩ rfl rfl rfl rfl rfl (kMovC rfl (kDone (kH (kSeq (kReg (kMovC rfl (kBin rfl rfl rfl (kDone (kCondIN rfl (fun g2 => kSeq (kReg (kMovC rfl (kMovC rfl (kDone (kRet (endRetA (ra := [.one (.d _)]) rfl ?_))))))) (fun g2 => kSkip (kBk (kReg (kMovC rfl (kAdd rfl rfl (by omega) (kMovC rfl (kDone ?_))))))))))))))))))))))))))))))))))))))))) (fun g1 => (by omega)))))))))))))))) (fun g0 => (by omega)))))))))))
      · rw [h3, hst, if_neg (by assumption)]
      · refine kInv ⟨⟨k + 1, hla, hlb, ?_⟩, by simp only; omega, .normA⟩
        rw [h3, hst, if_pos (by assumption)]
    · rw [cmpL_end a b k h1 h2 (by omega)] at h3
      refine kSeq (kSeq (kReg (kMovC rfl (kFadP rfl rfl (kLoadP rfl rfl rfl (kLenR rfl rfl (kBin rfl rfl rfl (kMovC rfl (kGP rfl (fun g0 => kGT rfl (kMovC rfl (kGT rfl (kFadP rfl rfl (kGT rfl (kLoadP rfl rfl rfl (kGT rfl (kLenR rfl rfl (kGT rfl (kBin rfl rfl rfl (kPickT rfl (kMovC rfl (kDone (kCondP rfl (fun g1 => (by omega)) (fun g1 => kExit (kExC (kExI (kExB (kSeq (kSeq (kReg (kFadP rfl rfl (kLoadP rfl rfl rfl (kLenR rfl rfl (kFadP rfl rfl (kLoadP rfl rfl rfl (kLenR rfl rfl (kBin rfl rfl rfl (kDone (kCondIN rfl (fun g2 => kSeq (kSeq (kReg (kFadP rfl rfl (kLoadP rfl rfl rfl (kLenR rfl rfl (kFadP rfl rfl (kLoadP rfl rfl rfl (kLenR rfl rfl (kBin rfl rfl rfl (kDone (kCondP rfl (fun g3 => (by omega)) (fun g3 => kSkip (kSeq (kReg (kMovC rfl (kDone (kRet (endRetA (ra := [.one (.d _)]) rfl ?_))))))))))))))))))) (fun g2 => (by omega)))))))))))))))))))))))))))))))) (fun g0 => (by omega)))))))))))
      all_goals (rw [h3]; first | (rw [if_pos (by omega)]; done) | (rw [if_neg (by omega), if_pos (by omega)]; done) | rw [if_neg (by omega), if_neg (by omega)])
  · rw [cmpL_end a b k h1 h2 (by omega)] at h3
    refine kSeq (kSeq (kReg (kMovC rfl (kFadP rfl rfl (kLoadP rfl rfl rfl (kLenR rfl rfl (kBin rfl rfl rfl (kMovC rfl (kGP rfl (fun g0 => (by omega)) (fun g0 => kGF rfl (kGF rfl (kGF rfl (kGF rfl (kGF rfl (kPickF rfl (kMovC rfl (kDone (kCondF rfl (kExit (kExC (kExI (kExB (kSeq (kSeq (kReg (kFadP rfl rfl (kLoadP rfl rfl rfl (kLenR rfl rfl (kFadP rfl rfl (kLoadP rfl rfl rfl (kLenR rfl rfl (kBin rfl rfl rfl (kDone (kCondIN rfl (fun g1 => kSeq (kSeq (kReg (kFadP rfl rfl (kLoadP rfl rfl rfl (kLenR rfl rfl (kFadP rfl rfl (kLoadP rfl rfl rfl (kLenR rfl rfl (kBin rfl rfl rfl (kDone (kCondP rfl (fun g2 => kSeq (kReg (kMovC rfl (kDone (kRet (endRetA (ra := [.one (.d _)]) rfl ?_)))))) (fun g2 => (by omega)))))))))))))) (fun g1 => kSkip (kSeq (kReg (kMovC rfl (kDone (kRet (endRetA (ra := [.one (.d _)]) rfl ?_)))))))))))))))))))))))))))))))))))))))))
    all_goals (rw [h3]; first | (rw [if_pos (by omega)]; done) | (rw [if_neg (by omega), if_pos (by omega)]; done) | rw [if_neg (by omega), if_neg (by omega)])

def c_spec_l2under : C := (.seq (.reg false (.op 0 [] (some 2) none false (.box 2 (.t 0))
  (.op 1 [] (some 3) none false (.box 3 (.t 1))
  (.op 2 [] (some 4) none false (.mov (.v (.bool false)))
  .done))))
 (.seq (.reg false (.op 0 [] (some 6) none false (.fad (.t 2) 0)
  (.op 1 [] (some 7) none false (.load none (.t 6))
  (.op 2 [] (some 8) none false (.len (.t 7))
  (.op 3 [] (some 9) none false (.fad (.t 3) 0)
  (.op 4 [] (some 10) none false (.load none (.t 9))
  (.op 5 [] (some 11) none false (.len (.t 10))
  (.op 6 [] (some 12) none false (.bin .sub (.t 8) (.t 11))
  (.op 7 [] (some 5) none false (.mov (.t 12))
  .done)))))))))
 (.seq (.reg true (.op 0 [] (some 13) none true (.mov (.t 5))
  (.op 1 [] (some 14) none true (.bin .geq (.t 13) (.v (.int .i64 0)))
  (.op 2 [] (some 15) none true (.mov (.t 14))
  (.op 3 [] (some 16) (some (15, true)) true (.fad (.t 2) 0)
  (.op 4 [] (some 17) (some (15, true)) true (.load none (.t 16))
  (.op 5 [] (some 18) (some (15, true)) true (.mov (.t 5))
  (.op 6 [] (some 19) (some (15, true)) true (.cut 1 (.t 17) (some (.t 18)) none)
  (.op 7 [] (some 20) (some (15, true)) true (.build [(.n 1)] [(0, 1, (.t 19))])
  (.op 8 [] (some 21) (some (15, true)) true (.load (some 1) (.t 3))
  (.op 9 [4, 8] (some 22) (some (15, true)) false (.call 22 109 [(.t 20), (.t 21)])
  (.op 10 [] (some 23) (some (15, true)) true (.bin .eql (.t 22) (.v (.int .i64 0)))
  (.op 11 [] (some 24) none true (.pick (.t 15) (.t 23) (.v (.bool false)))
  (.op 12 [] (some 4) none true (.mov (.t 24))
  .done))))))))))))))
 .ret)))
theorem dg_spec_l2under : Tryz.f106.body.bind (digC Tryz.prog Tryz.f106.ntmps []) = some c_spec_l2under := by kernel_rfl
theorem rs_spec_l2under : resSlots Tryz.prog Tryz.f106 = some [.s 4] := by kernel_rfl
theorem ok_spec_l2under (n z : List (List UInt8)) (hn : n.length ≤ 4194304) (hz : z.length ≤ 4194304) :
    FnOK Tryz.prog 106 [.agg [.d (encBB n)], .agg [.d (encBB z)]] (fun ra _ => ra = [.one (.d (.sc (.bool (underN n z))))]) := by
  refine FnOK.ofK Tryz.func106 (by kernel_rfl) dg_spec_l2under rs_spec_l2under rfl rfl ?_
  unfold c_spec_l2under
  have hd : (n.drop (n.length - z.length : Int).toNat).length ≤ 4194304 := by simp; omega
  refine kSeq (kReg (kBox rfl rfl rfl rfl rfl (kBox rfl rfl rfl rfl rfl (kMovC rfl (kDone (kSeq (kReg (kFadP rfl rfl (kLoadP rfl rfl rfl (kLenR rfl rfl (kFadP rfl rfl (kLoadP rfl rfl rfl (kLenR rfl rfl (kDif rfl rfl (by omega) (kMovC rfl (kDone (kSeq (kRegD (kMovC rfl (kBin rfl rfl rfl (kMovC rfl (kGP rfl (fun g0 => kGT rfl (kFadP rfl rfl (kGT rfl (kLoadP rfl rfl rfl (kGT rfl (kMovC rfl (kGT rfl (kCutLT rfl rfl (by omega) (kGT rfl (kBuild rfl (kGT rfl (kLoadP rfl rfl rfl (kRelF rfl rfl (kGT rfl (kCallD (ok_spec_l2cmp _ _ (by first | assumption | omega | solve_by_elim [List.getElem_mem] | (simp only [szOut] at *; omega)) (by first | assumption | omega | solve_by_elim [List.getElem_mem] | (simp only [szOut] at *; omega))) ⟨⟨⟨rfl, trivial⟩, Nat.le_of_ble_eq_true rfl⟩, ⟨⟨rfl, trivial⟩, Nat.le_of_ble_eq_true rfl⟩, trivial⟩ rfl rfl rfl rfl rfl (kGT rfl (kBin rfl rfl rfl (kPickT rfl (kMovC rfl (kMovC rfl (kDone (kH (kRet (endRetA (ra := [.one (.d _)]) rfl ?_)))))))))))))))))))))))) (fun g0 => kGF rfl (kGF rfl (kGF rfl (kGF rfl (kGF rfl (kGF rfl (kRelF rfl rfl (kGF rfl (kGF rfl (kPickF rfl (kMovC rfl (kMovC rfl (kDone (kH (kRet (endRetA (ra := [.one (.d _)]) rfl ?_))))))))))))))))))))))))))))))))))))))
  · rw [cmpN_zero, show (n.length - z.length : Int).toNat = n.length - z.length by omega]
    simp only [underN]
    rw [decide_eq_true (show z.length ≤ n.length by omega), Bool.true_and]
  · rw [show underN n z = false by simp only [underN]; rw [decide_eq_false (by omega)]; rfl]

def c_spec_TaskOk : C := (.seq (.reg false (.op 0 [] (some 1) none false (.box 1 (.t 0))
  (.op 1 [] (some 2) none false (.mov (.v (.bool false)))
  .done)))
 (.seq (.seq (.reg false (.op 0 [] (some 3) none false (.fad (.t 1) 0)
  (.op 1 [] (some 4) none false (.load none (.t 3))
  (.op 2 [] (some 5) none false (.bin .lss (.t 4) (.v (.int .i64 0)))
  (.op 3 [] (some 6) none false (.mov (.t 5))
  (.op 4 [] (some 7) (some (6, false)) false (.fad (.t 1) 0)
  (.op 5 [] (some 8) (some (6, false)) false (.load none (.t 7))
  (.op 6 [] (some 9) (some (6, false)) false (.bin .gtr (.t 8) (.v (.int .i64 1)))
  (.op 7 [] (some 10) none false (.pick (.t 6) (.v (.bool true)) (.t 9))
  (.op 8 [] (some 11) none false (.mov (.t 10))
  (.op 9 [] (some 12) (some (11, false)) false (.fad (.t 1) 1)
  (.op 10 [] (some 13) (some (11, false)) false (.load none (.t 12))
  (.op 11 [] (some 14) (some (11, false)) false (.bin .lss (.t 13) (.v (.int .i64 0)))
  (.op 12 [] (some 15) none false (.pick (.t 11) (.v (.bool true)) (.t 14))
  (.op 13 [] (some 16) none false (.mov (.t 15))
  (.op 14 [] (some 17) (some (16, false)) false (.fad (.t 1) 1)
  (.op 15 [] (some 18) (some (16, false)) false (.load none (.t 17))
  (.op 16 [] (some 19) (some (16, false)) false (.bin .gtr (.t 18) (.v (.int .i64 65535)))
  (.op 17 [] (some 20) none false (.pick (.t 16) (.v (.bool true)) (.t 19))
  (.op 18 [] (some 21) none false (.mov (.t 20))
  (.op 19 [] (some 22) (some (21, false)) false (.fad (.t 1) 2)
  (.op 20 [] (some 23) (some (21, false)) false (.load (some 2) (.t 22))
  (.op 21 [] (some 24) (some (21, false)) false (.call 24 122 [(.t 23)])
  (.op 22 [] (some 25) (some (21, false)) false (.un .not (.t 24))
  (.op 23 [] (some 26) none false (.pick (.t 21) (.v (.bool true)) (.t 25))
  (.op 24 [] (some 27) none false (.mov (.t 26))
  (.op 25 [] (some 28) (some (27, false)) false (.fad (.t 1) 4)
  (.op 26 [] (some 29) (some (27, false)) false (.load (some 1) (.t 28))
  (.op 27 [] (some 30) (some (27, false)) false (.call 30 79 [(.t 29)])
  (.op 28 [] (some 31) (some (27, false)) false (.un .not (.t 30))
  (.op 29 [] (some 32) none false (.pick (.t 27) (.v (.bool true)) (.t 31))
  (.op 30 [] (some 33) none false (.mov (.t 32))
  (.op 31 [] (some 34) (some (33, false)) false (.fad (.t 1) 5)
  (.op 32 [] (some 35) (some (33, false)) false (.load (some 1) (.t 34))
  (.op 33 [] (some 36) (some (33, false)) false (.call 36 79 [(.t 35)])
  (.op 34 [] (some 37) (some (33, false)) false (.un .not (.t 36))
  (.op 35 [] (some 38) none false (.pick (.t 33) (.v (.bool true)) (.t 37))
  (.op 36 [] (some 39) none false (.mov (.t 38))
  (.op 37 [] (some 40) (some (39, false)) false (.fad (.t 1) 6)
  (.op 38 [] (some 41) (some (39, false)) false (.load none (.t 40))
  (.op 39 [] (some 42) (some (39, false)) false (.call 42 123 [(.t 41)])
  (.op 40 [] (some 43) (some (39, false)) false (.un .not (.t 42))
  (.op 41 [] (some 44) none false (.pick (.t 39) (.v (.bool true)) (.t 43))
  (.op 42 [] (some 45) none false (.mov (.t 44))
  (.op 43 [] (some 46) (some (45, false)) false (.fad (.t 1) 7)
  (.op 44 [] (some 47) (some (45, false)) false (.load none (.t 46))
  (.op 45 [] (some 48) (some (45, false)) false (.call 48 123 [(.t 47)])
  (.op 46 [] (some 49) (some (45, false)) false (.un .not (.t 48))
  (.op 47 [] (some 50) none false (.pick (.t 45) (.v (.bool true)) (.t 49))
  (.op 48 [] (some 51) none false (.mov (.t 50))
  (.op 49 [] (some 52) (some (51, false)) false (.fad (.t 1) 8)
  (.op 50 [] (some 53) (some (51, false)) false (.load none (.t 52))
  (.op 51 [] (some 54) (some (51, false)) false (.bin .lss (.t 53) (.v (.int .i64 0)))
  (.op 52 [] (some 55) none false (.pick (.t 51) (.v (.bool true)) (.t 54))
  (.op 53 [] (some 56) none false (.mov (.t 55))
  (.op 54 [] (some 57) (some (56, false)) false (.fad (.t 1) 8)
  (.op 55 [] (some 58) (some (56, false)) false (.load none (.t 57))
  (.op 56 [] (some 59) (some (56, false)) false (.fad (.t 1) 7)
  (.op 57 [] (some 60) (some (56, false)) false (.load none (.t 59))
  (.op 58 [] (some 61) (some (56, false)) false (.len (.t 60))
  (.op 59 [] (some 62) (some (56, false)) false (.bin .geq (.t 58) (.t 61))
  (.op 60 [] (some 63) none false (.pick (.t 56) (.v (.bool true)) (.t 62))
  (.op 61 [] (some 64) none false (.mov (.t 63))
  (.op 62 [] (some 65) (some (64, false)) false (.fad (.t 1) 9)
  (.op 63 [] (some 66) (some (64, false)) false (.load none (.t 65))
  (.op 64 [] (some 67) (some (64, false)) false (.bin .lss (.t 66) (.v (.int .i64 0)))
  (.op 65 [] (some 68) none false (.pick (.t 64) (.v (.bool true)) (.t 67))
  (.op 66 [] (some 69) none false (.mov (.t 68))
  (.op 67 [] (some 70) (some (69, false)) false (.fad (.t 1) 9)
  (.op 68 [] (some 71) (some (69, false)) false (.load none (.t 70))
  (.op 69 [] (some 72) (some (69, false)) false (.bin .gtr (.t 71) (.v (.int .i64 12)))
  (.op 70 [] (some 73) none false (.pick (.t 69) (.v (.bool true)) (.t 72))
  (.op 71 [] (some 74) none false (.mov (.t 73))
  (.op 72 [] (some 75) (some (74, false)) false (.fad (.t 1) 10)
  (.op 73 [] (some 76) (some (74, false)) false (.load none (.t 75))
  (.op 74 [] (some 77) (some (74, false)) false (.bin .lss (.t 76) (.v (.int .i64 0)))
  (.op 75 [] (some 78) none false (.pick (.t 74) (.v (.bool true)) (.t 77))
  (.op 76 [] (some 79) none false (.mov (.t 78))
  (.op 77 [] (some 80) (some (79, false)) false (.fad (.t 1) 10)
  (.op 78 [] (some 81) (some (79, false)) false (.load none (.t 80))
  (.op 79 [] (some 82) (some (79, false)) false (.bin .gtr (.t 81) (.v (.int .i64 6)))
  (.op 80 [] (some 83) none false (.pick (.t 79) (.v (.bool true)) (.t 82))
  (.op 81 [] (some 84) none false (.mov (.t 83))
  (.op 82 [] (some 85) (some (84, false)) false (.fad (.t 1) 11)
  (.op 83 [] (some 86) (some (84, false)) false (.load none (.t 85))
  (.op 84 [] (some 87) (some (84, false)) false (.bin .lss (.t 86) (.v (.int .i64 0)))
  (.op 85 [] (some 88) none false (.pick (.t 84) (.v (.bool true)) (.t 87))
  (.op 86 [] (some 89) none false (.mov (.t 88))
  (.op 87 [] (some 90) (some (89, false)) false (.fad (.t 1) 11)
  (.op 88 [] (some 91) (some (89, false)) false (.load none (.t 90))
  (.op 89 [] (some 92) (some (89, false)) false (.bin .gtr (.t 91) (.v (.int .i64 10)))
  (.op 90 [] (some 93) none false (.pick (.t 89) (.v (.bool true)) (.t 92))
  (.op 91 [] (some 94) none false (.mov (.t 93))
  (.op 92 [] (some 95) (some (94, false)) false (.fad (.t 1) 12)
  (.op 93 [] (some 96) (some (94, false)) false (.load none (.t 95))
  (.op 94 [] (some 97) (some (94, false)) false (.call 97 124 [(.t 96)])
  (.op 95 [] (some 98) (some (94, false)) false (.un .not (.t 97))
  (.op 96 [] (some 99) none false (.pick (.t 94) (.v (.bool true)) (.t 98))
  .done))))))))))))))))))))))))))))))))))))))))))))))))))))))))))))))))))))))))))))))))))))))))))))))))))
 (.cond (.t 99)
 (.seq (.reg false (.op 0 [] (some 2) none false (.mov (.v (.bool false)))
  .done))
 .ret)
 .skip))
 (.seq (.reg false (.op 0 [] (some 100) none false (.fad (.t 1) 4)
  (.op 1 [] (some 101) none false (.load (some 1) (.t 100))
  (.op 2 [] (some 102) none false (.fad (.t 1) 5)
  (.op 3 [] (some 103) none false (.load (some 1) (.t 102))
  (.op 4 [] (some 104) none false (.call 104 106 [(.t 101), (.t 103)])
  (.op 5 [] (some 105) none false (.mov (.t 104))
  (.op 6 [] (some 106) (some (105, true)) false (.fad (.t 1) 0)
  (.op 7 [] (some 107) (some (105, true)) false (.load none (.t 106))
  (.op 8 [] (some 108) (some (105, true)) false (.bin .eql (.t 107) (.v (.int .i64 1)))
  (.op 9 [] (some 109) (some (105, true)) false (.mov (.t 108))
  (.op 10 [] (some 110) (some (109, false)) false (.fad (.t 1) 11)
  (.op 11 [] (some 111) (some (109, false)) false (.load none (.t 110))
  (.op 12 [] (some 112) (some (109, false)) false (.bin .eql (.t 111) (.v (.int .i64 0)))
  (.op 13 [] (some 113) (some (109, false)) false (.mov (.t 112))
  (.op 14 [] (some 114) (some (113, true)) false (.fad (.t 1) 9)
  (.op 15 [] (some 115) (some (113, true)) false (.load none (.t 114))
  (.op 16 [] (some 116) (some (113, true)) false (.bin .lss (.t 115) (.v (.int .i64 12)))
  (.op 17 [] (some 117) (some (109, false)) false (.pick (.t 113) (.t 116) (.v (.bool false)))
  (.op 18 [] (some 118) (some (109, false)) false (.mov (.t 117))
  (.op 19 [] (some 119) (some (118, true)) false (.fad (.t 1) 10)
  (.op 20 [] (some 120) (some (118, true)) false (.load none (.t 119))
  (.op 21 [] (some 121) (some (118, true)) false (.bin .lss (.t 120) (.v (.int .i64 6)))
  (.op 22 [] (some 122) (some (109, false)) false (.pick (.t 118) (.t 121) (.v (.bool false)))
  (.op 23 [] (some 123) (some (105, true)) false (.pick (.t 109) (.v (.bool true)) (.t 122))
  (.op 24 [] (some 124) none false (.pick (.t 105) (.t 123) (.v (.bool false)))
  (.op 25 [] (some 2) none false (.mov (.t 124))
  .done)))))))))))))))))))))))))))
 .ret)))
theorem dg_spec_TaskOk : Tryz.f66.body.bind (digC Tryz.prog Tryz.f66.ntmps []) = some c_spec_TaskOk := by kernel_rfl
theorem rs_spec_TaskOk : resSlots Tryz.prog Tryz.f66 = some [.s 2] := by kernel_rfl
theorem ok_spec_TaskOk (t : Task) (hs : SmallT t) :
    FnOK Tryz.prog 66 [.agg (t.cells.map .d)] (fun ra _ => ra = [.one (.d (.sc (.bool (taskOk t))))]) := by
  refine FnOK.ofK Tryz.func66 (by kernel_rfl) dg_spec_TaskOk rs_spec_TaskOk rfl rfl ?_
  unfold c_spec_TaskOk
  have n1 := hs.n.len
  have n2 := hs.n.mem
  have f1 := hs.f.len
  have f2 := hs.f.mem
  have z1 := hs.z.len
  have z2 := hs.z.mem
  have h1 := hs.h
  have s1 := hs.s
  have a1 := hs.a
  refine kSeq (kReg (kBox rfl rfl rfl rfl rfl (kMovC rfl (kDone (kSeq (kSeq (kReg (kFadP rfl rfl (kLoadP rfl rfl rfl (kBin rfl rfl rfl (kMovC rfl (kGP rfl (fun g0 => kGF rfl (kGF rfl (kGF rfl (kPickT rfl (kMovC rfl (kMovC rfl (kGF rfl (kGF rfl (kGF rfl (kPickT rfl (kMovC rfl (kMovC rfl (kGF rfl (kGF rfl (kGF rfl (kPickT rfl (kMovC rfl (kMovC rfl (kGF rfl (kGF rfl (kGF rfl (kGF rfl (kPickT rfl (kMovC rfl (kMovC rfl (kGF rfl (kGF rfl (kGF rfl (kGF rfl (kPickT rfl (kMovC rfl (kMovC rfl (kGF rfl (kGF rfl (kGF rfl (kGF rfl (kPickT rfl (kMovC rfl (kMovC rfl (kGF rfl (kGF rfl (kGF rfl (kGF rfl (kPickT rfl (kMovC rfl (kMovC rfl (kGF rfl (kGF rfl (kGF rfl (kGF rfl (kPickT rfl (kMovC rfl (kMovC rfl (kGF rfl (kGF rfl (kGF rfl (kPickT rfl (kMovC rfl (kMovC rfl (kGF rfl (kGF rfl (kGF rfl (kGF rfl (kGF rfl (kGF rfl (kPickT rfl (kMovC rfl (kMovC rfl (kGF rfl (kGF rfl (kGF rfl (kPickT rfl (kMovC rfl (kMovC rfl (kGF rfl (kGF rfl (kGF rfl (kPickT rfl (kMovC rfl (kMovC rfl (kGF rfl (kGF rfl (kGF rfl (kPickT rfl (kMovC rfl (kMovC rfl (kGF rfl (kGF rfl (kGF rfl (kPickT rfl (kMovC rfl (kMovC rfl (kGF rfl (kGF rfl (kGF rfl (kPickT rfl (kMovC rfl (kMovC rfl (kGF rfl (kGF rfl (kGF rfl (kPickT rfl (kMovC rfl (kMovC rfl (kGF rfl (kGF rfl (kGF rfl (kGF rfl (kPickT rfl (kMovC rfl (kDone (kCondT rfl (kSeq (kReg (kMovC rfl (kDone (kRet (endRetA (ra := [.one (.d _)]) rfl ?_)))))))))))))))))))))))))))))))))))))))))))))))))))))))))))))))))))))))))))))))))))))))))))))))))))))))))))))))))))))) (fun g0 => kGT rfl (kFadP rfl rfl (kGT rfl (kLoadP rfl rfl rfl (kGT rfl (kBin rfl rfl rfl (kPickF rfl (kMovC rfl (kMovC rfl (kGP rfl (fun g1 => kGF rfl (kGF rfl (kGF rfl (kPickT rfl (kMovC rfl (kMovC rfl (kGF rfl (kGF rfl (kGF rfl (kPickT rfl (kMovC rfl (kMovC rfl (kGF rfl (kGF rfl (kGF rfl (kGF rfl (kPickT rfl (kMovC rfl (kMovC rfl (kGF rfl (kGF rfl (kGF rfl (kGF rfl (kPickT rfl (kMovC rfl (kMovC rfl (kGF rfl (kGF rfl (kGF rfl (kGF rfl (kPickT rfl (kMovC rfl (kMovC rfl (kGF rfl (kGF rfl (kGF rfl (kGF rfl (kPickT rfl (kMovC rfl (kMovC rfl (kGF rfl (kGF rfl (kGF rfl (kGF rfl (kPickT rfl (kMovC rfl (kMovC rfl (kGF rfl (kGF rfl (kGF rfl (kPickT rfl (kMovC rfl (kMovC rfl (kGF rfl (kGF rfl (kGF rfl (kGF rfl (kGF rfl (kGF rfl (kPickT rfl (kMovC rfl (kMovC rfl (kGF rfl (kGF rfl (kGF rfl (kPickT rfl (kMovC rfl (kMovC rfl (kGF rfl (kGF rfl (kGF rfl (kPickT rfl (kMovC rfl (kMovC rfl (kGF rfl (kGF rfl (kGF rfl (kPickT rfl (kMovC rfl (kMovC rfl (kGF rfl (kGF rfl (kGF rfl (kPickT rfl (kMovC rfl (kMovC rfl (kGF rfl (kGF rfl (kGF rfl (kPickT rfl (kMovC rfl (kMovC rfl (kGF rfl (kGF rfl (kGF rfl (kPickT rfl (kMovC rfl (kMovC rfl (kGF rfl (kGF rfl (kGF rfl (kGF rfl (kPickT rfl (kMovC rfl (kDone (kCondT rfl (kSeq (kReg (kMovC rfl (kDone (kRet (endRetA (ra := [.one (.d _)]) rfl ?_)))))))))))))))))))))))))))))))))))))))))))))))))))))))))))))))))))))))))))))))))))))))))))))))))))))))))))))))) (fun g1 => kGT rfl (kFadP rfl rfl (kGT rfl (kLoadP rfl rfl rfl (kGT rfl (kBin rfl rfl rfl (kPickF rfl (kMovC rfl (kMovC rfl (kGP rfl (fun g2 => kGF rfl (kGF rfl (kGF rfl (kPickT rfl (kMovC rfl (kMovC rfl (kGF rfl (kGF rfl (kGF rfl (kGF rfl (kPickT rfl (kMovC rfl (kMovC rfl (kGF rfl (kGF rfl (kGF rfl (kGF rfl (kPickT rfl (kMovC rfl (kMovC rfl (kGF rfl (kGF rfl (kGF rfl (kGF rfl (kPickT rfl (kMovC rfl (kMovC rfl (kGF rfl (kGF rfl (kGF rfl (kGF rfl (kPickT rfl (kMovC rfl (kMovC rfl (kGF rfl (kGF rfl (kGF rfl (kGF rfl (kPickT rfl (kMovC rfl (kMovC rfl (kGF rfl (kGF rfl (kGF rfl (kPickT rfl (kMovC rfl (kMovC rfl (kGF rfl (kGF rfl (kGF rfl (kGF rfl (kGF rfl (kGF rfl (kPickT rfl (kMovC rfl (kMovC rfl (kGF rfl (kGF rfl (kGF rfl (kPickT rfl (kMovC rfl (kMovC rfl (kGF rfl (kGF rfl (kGF rfl (kPickT rfl (kMovC rfl (kMovC rfl (kGF rfl (kGF rfl (kGF rfl (kPickT rfl (kMovC rfl (kMovC rfl (kGF rfl (kGF rfl (kGF rfl (kPickT rfl (kMovC rfl (kMovC rfl (kGF rfl (kGF rfl (kGF rfl (kPickT rfl (kMovC rfl (kMovC rfl (kGF rfl (kGF rfl (kGF rfl (kPickT rfl (kMovC rfl (kMovC rfl (kGF rfl (kGF rfl (kGF rfl (kGF rfl (kPickT rfl (kMovC rfl (kDone (kCondT rfl (kSeq (kReg (kMovC rfl (kDone (kRet (endRetA (ra := [.one (.d _)]) rfl ?_)))))))))))))))))))))))))))))))))))))))))))))))))))))))))))))))))))))))))))))))))))))))))))))))))))))))))) (fun g2 => kGT rfl (kFadP rfl rfl (kGT rfl (kLoadP rfl rfl rfl (kGT rfl (kBin rfl rfl rfl (kPickF rfl (kMovC rfl (kMovC rfl (kGP rfl (fun g3 => kGF rfl (kGF rfl (kGF rfl (kGF rfl (kPickT rfl (kMovC rfl (kMovC rfl (kGF rfl (kGF rfl (kGF rfl (kGF rfl (kPickT rfl (kMovC rfl (kMovC rfl (kGF rfl (kGF rfl (kGF rfl (kGF rfl (kPickT rfl (kMovC rfl (kMovC rfl (kGF rfl (kGF rfl (kGF rfl (kGF rfl (kPickT rfl (kMovC rfl (kMovC rfl (kGF rfl (kGF rfl (kGF rfl (kGF rfl (kPickT rfl (kMovC rfl (kMovC rfl (kGF rfl (kGF rfl (kGF rfl (kPickT rfl (kMovC rfl (kMovC rfl (kGF rfl (kGF rfl (kGF rfl (kGF rfl (kGF rfl (kGF rfl (kPickT rfl (kMovC rfl (kMovC rfl (kGF rfl (kGF rfl (kGF rfl (kPickT rfl (kMovC rfl (kMovC rfl (kGF rfl (kGF rfl (kGF rfl (kPickT rfl (kMovC rfl (kMovC rfl (kGF rfl (kGF rfl (kGF rfl (kPickT rfl (kMovC rfl (kMovC rfl (kGF rfl (kGF rfl (kGF rfl (kPickT rfl (kMovC rfl (kMovC rfl (kGF rfl (kGF rfl (kGF rfl (kPickT rfl (kMovC rfl (kMovC rfl (kGF rfl (kGF rfl (kGF rfl (kPickT rfl (kMovC rfl (kMovC rfl (kGF rfl (kGF rfl (kGF rfl (kGF rfl (kPickT rfl (kMovC rfl (kDone (kCondT rfl (kSeq (kReg (kMovC rfl (kDone (kRet (endRetA (ra := [.one (.d _)]) rfl ?_)))))))))))))))))))))))))))))))))))))))))))))))))))))))))))))))))))))))))))))))))))))))))))))))))))) (fun g3 => kGT rfl (kFadP rfl rfl (kGT rfl (kLoadP rfl rfl rfl (kGT rfl (kCallD (ok_spec_l11question _ _ (by first | assumption | omega | solve_by_elim [List.getElem_mem] | (simp only [szOut] at *; omega)) (by first | assumption | omega | solve_by_elim [List.getElem_mem] | (simp only [szOut] at *; omega))) ⟨⟨⟨rfl, rfl, trivial⟩, Nat.le_of_ble_eq_true rfl⟩, trivial⟩ rfl rfl rfl rfl rfl (kGT rfl (kUn rfl rfl (kPickF rfl (kMovC rfl (kMovC rfl (kGN rfl (fun g4 => kGF rfl (kGF rfl (kGF rfl (kGF rfl (kPickT rfl (kMovC rfl (kMovC rfl (kGF rfl (kGF rfl (kGF rfl (kGF rfl (kPickT rfl (kMovC rfl (kMovC rfl (kGF rfl (kGF rfl (kGF rfl (kGF rfl (kPickT rfl (kMovC rfl (kMovC rfl (kGF rfl (kGF rfl (kGF rfl (kGF rfl (kPickT rfl (kMovC rfl (kMovC rfl (kGF rfl (kGF rfl (kGF rfl (kPickT rfl (kMovC rfl (kMovC rfl (kGF rfl (kGF rfl (kGF rfl (kGF rfl (kGF rfl (kGF rfl (kPickT rfl (kMovC rfl (kMovC rfl (kGF rfl (kGF rfl (kGF rfl (kPickT rfl (kMovC rfl (kMovC rfl (kGF rfl (kGF rfl (kGF rfl (kPickT rfl (kMovC rfl (kMovC rfl (kGF rfl (kGF rfl (kGF rfl (kPickT rfl (kMovC rfl (kMovC rfl (kGF rfl (kGF rfl (kGF rfl (kPickT rfl (kMovC rfl (kMovC rfl (kGF rfl (kGF rfl (kGF rfl (kPickT rfl (kMovC rfl (kMovC rfl (kGF rfl (kGF rfl (kGF rfl (kPickT rfl (kMovC rfl (kMovC rfl (kGF rfl (kGF rfl (kGF rfl (kGF rfl (kPickT rfl (kMovC rfl (kDone (kCondT rfl (kSeq (kReg (kMovC rfl (kDone (kRet (endRetA (ra := [.one (.d _)]) rfl ?_))))))))))))))))))))))))))))))))))))))))))))))))))))))))))))))))))))))))))))))))))))))))))))) (fun g4 => kGT rfl (kFadP rfl rfl (kGT rfl (kLoadP rfl rfl rfl (kGT rfl (kCallD (ok_spec_NameOk _ (by first | assumption | omega | solve_by_elim [List.getElem_mem] | (simp only [szOut] at *; omega)) (by first | assumption | omega | solve_by_elim [List.getElem_mem] | (simp only [szOut] at *; omega))) ⟨⟨⟨rfl, trivial⟩, Nat.le_of_ble_eq_true rfl⟩, trivial⟩ rfl rfl rfl rfl rfl (kGT rfl (kUn rfl rfl (kPickF rfl (kMovC rfl (kMovC rfl (kGN rfl (fun g5 => kGF rfl (kGF rfl (kGF rfl (kGF rfl (kPickT rfl (kMovC rfl (kMovC rfl (kGF rfl (kGF rfl (kGF rfl (kGF rfl (kPickT rfl (kMovC rfl (kMovC rfl (kGF rfl (kGF rfl (kGF rfl (kGF rfl (kPickT rfl (kMovC rfl (kMovC rfl (kGF rfl (kGF rfl (kGF rfl (kPickT rfl (kMovC rfl (kMovC rfl (kGF rfl (kGF rfl (kGF rfl (kGF rfl (kGF rfl (kGF rfl (kPickT rfl (kMovC rfl (kMovC rfl (kGF rfl (kGF rfl (kGF rfl (kPickT rfl (kMovC rfl (kMovC rfl (kGF rfl (kGF rfl (kGF rfl (kPickT rfl (kMovC rfl (kMovC rfl (kGF rfl (kGF rfl (kGF rfl (kPickT rfl (kMovC rfl (kMovC rfl (kGF rfl (kGF rfl (kGF rfl (kPickT rfl (kMovC rfl (kMovC rfl (kGF rfl (kGF rfl (kGF rfl (kPickT rfl (kMovC rfl (kMovC rfl (kGF rfl (kGF rfl (kGF rfl (kPickT rfl (kMovC rfl (kMovC rfl (kGF rfl (kGF rfl (kGF rfl (kGF rfl (kPickT rfl (kMovC rfl (kDone (kCondT rfl (kSeq (kReg (kMovC rfl (kDone (kRet (endRetA (ra := [.one (.d _)]) rfl ?_)))))))))))))))))))))))))))))))))))))))))))))))))))))))))))))))))))))))))))))))))))))) (fun g5 => kGT rfl (kFadP rfl rfl (kGT rfl (kLoadP rfl rfl rfl (kGT rfl (kCallD (ok_spec_NameOk _ (by first | assumption | omega | solve_by_elim [List.getElem_mem] | (simp only [szOut] at *; omega)) (by first | assumption | omega | solve_by_elim [List.getElem_mem] | (simp only [szOut] at *; omega))) ⟨⟨⟨rfl, trivial⟩, Nat.le_of_ble_eq_true rfl⟩, trivial⟩ rfl rfl rfl rfl rfl (kGT rfl (kUn rfl rfl (kPickF rfl (kMovC rfl (kMovC rfl (kGN rfl (fun g6 => kGF rfl (kGF rfl (kGF rfl (kGF rfl (kPickT rfl (kMovC rfl (kMovC rfl (kGF rfl (kGF rfl (kGF rfl (kGF rfl (kPickT rfl (kMovC rfl (kMovC rfl (kGF rfl (kGF rfl (kGF rfl (kPickT rfl (kMovC rfl (kMovC rfl (kGF rfl (kGF rfl (kGF rfl (kGF rfl (kGF rfl (kGF rfl (kPickT rfl (kMovC rfl (kMovC rfl (kGF rfl (kGF rfl (kGF rfl (kPickT rfl (kMovC rfl (kMovC rfl (kGF rfl (kGF rfl (kGF rfl (kPickT rfl (kMovC rfl (kMovC rfl (kGF rfl (kGF rfl (kGF rfl (kPickT rfl (kMovC rfl (kMovC rfl (kGF rfl (kGF rfl (kGF rfl (kPickT rfl (kMovC rfl (kMovC rfl (kGF rfl (kGF rfl (kGF rfl (kPickT rfl (kMovC rfl (kMovC rfl (kGF rfl (kGF rfl (kGF rfl (kPickT rfl (kMovC rfl (kMovC rfl (kGF rfl (kGF rfl (kGF rfl (kGF rfl (kPickT rfl (kMovC rfl (kDone (kCondT rfl (kSeq (kReg (kMovC rfl (kDone (kRet (endRetA (ra := [.one (.d _)]) rfl ?_))))))))))))))))))))))))))))))))))))))))))))))))))))))))))))))))))))))))))))))) (fun g6 => kGT rfl (kFadP rfl rfl (kGT rfl (kLoadP rfl rfl rfl (kGT rfl (kCallD (ok_spec_l11ips _ (by first | assumption | omega | solve_by_elim [List.getElem_mem] | (simp only [szOut] at *; omega))) ⟨rfl, trivial⟩ rfl rfl rfl rfl rfl (kGT rfl (kUn rfl rfl (kPickF rfl (kMovC rfl (kMovC rfl (kGN rfl (fun g7 => kGF rfl (kGF rfl (kGF rfl (kGF rfl (kPickT rfl (kMovC rfl (kMovC rfl (kGF rfl (kGF rfl (kGF rfl (kPickT rfl (kMovC rfl (kMovC rfl (kGF rfl (kGF rfl (kGF rfl (kGF rfl (kGF rfl (kGF rfl (kPickT rfl (kMovC rfl (kMovC rfl (kGF rfl (kGF rfl (kGF rfl (kPickT rfl (kMovC rfl (kMovC rfl (kGF rfl (kGF rfl (kGF rfl (kPickT rfl (kMovC rfl (kMovC rfl (kGF rfl (kGF rfl (kGF rfl (kPickT rfl (kMovC rfl (kMovC rfl (kGF rfl (kGF rfl (kGF rfl (kPickT rfl (kMovC rfl (kMovC rfl (kGF rfl (kGF rfl (kGF rfl (kPickT rfl (kMovC rfl (kMovC rfl (kGF rfl (kGF rfl (kGF rfl (kPickT rfl (kMovC rfl (kMovC rfl (kGF rfl (kGF rfl (kGF rfl (kGF rfl (kPickT rfl (kMovC rfl (kDone (kCondT rfl (kSeq (kReg (kMovC rfl (kDone (kRet (endRetA (ra := [.one (.d _)]) rfl ?_)))))))))))))))))))))))))))))))))))))))))))))))))))))))))))))))))))))))) (fun g7 => kGT rfl (kFadP rfl rfl (kGT rfl (kLoadP rfl rfl rfl (kGT rfl (kCallD (ok_spec_l11ips _ (by first | assumption | omega | solve_by_elim [List.getElem_mem] | (simp only [szOut] at *; omega))) ⟨rfl, trivial⟩ rfl rfl rfl rfl rfl (kGT rfl (kUn rfl rfl (kPickF rfl (kMovC rfl (kMovC rfl (kGN rfl (fun g8 => kGF rfl (kGF rfl (kGF rfl (kPickT rfl (kMovC rfl (kMovC rfl (kGF rfl (kGF rfl (kGF rfl (kGF rfl (kGF rfl (kGF rfl (kPickT rfl (kMovC rfl (kMovC rfl (kGF rfl (kGF rfl (kGF rfl (kPickT rfl (kMovC rfl (kMovC rfl (kGF rfl (kGF rfl (kGF rfl (kPickT rfl (kMovC rfl (kMovC rfl (kGF rfl (kGF rfl (kGF rfl (kPickT rfl (kMovC rfl (kMovC rfl (kGF rfl (kGF rfl (kGF rfl (kPickT rfl (kMovC rfl (kMovC rfl (kGF rfl (kGF rfl (kGF rfl (kPickT rfl (kMovC rfl (kMovC rfl (kGF rfl (kGF rfl (kGF rfl (kPickT rfl (kMovC rfl (kMovC rfl (kGF rfl (kGF rfl (kGF rfl (kGF rfl (kPickT rfl (kMovC rfl (kDone (kCondT rfl (kSeq (kReg (kMovC rfl (kDone (kRet (endRetA (ra := [.one (.d _)]) rfl ?_))))))))))))))))))))))))))))))))))))))))))))))))))))))))))))))))) (fun g8 => kGT rfl (kFadP rfl rfl (kGT rfl (kLoadP rfl rfl rfl (kGT rfl (kBin rfl rfl rfl (kPickF rfl (kMovC rfl (kMovC rfl (kGP rfl (fun g9 => kGF rfl (kGF rfl (kGF rfl (kGF rfl (kGF rfl (kGF rfl (kPickT rfl (kMovC rfl (kMovC rfl (kGF rfl (kGF rfl (kGF rfl (kPickT rfl (kMovC rfl (kMovC rfl (kGF rfl (kGF rfl (kGF rfl (kPickT rfl (kMovC rfl (kMovC rfl (kGF rfl (kGF rfl (kGF rfl (kPickT rfl (kMovC rfl (kMovC rfl (kGF rfl (kGF rfl (kGF rfl (kPickT rfl (kMovC rfl (kMovC rfl (kGF rfl (kGF rfl (kGF rfl (kPickT rfl (kMovC rfl (kMovC rfl (kGF rfl (kGF rfl (kGF rfl (kPickT rfl (kMovC rfl (kMovC rfl (kGF rfl (kGF rfl (kGF rfl (kGF rfl (kPickT rfl (kMovC rfl (kDone (kCondT rfl (kSeq (kReg (kMovC rfl (kDone (kRet (endRetA (ra := [.one (.d _)]) rfl ?_))))))))))))))))))))))))))))))))))))))))))))))))))))))))))) (fun g9 => kGT rfl (kFadP rfl rfl (kGT rfl (kLoadP rfl rfl rfl (kGT rfl (kFadP rfl rfl (kGT rfl (kLoadP rfl rfl rfl (kGT rfl (kLenR rfl rfl (kGT rfl (kBin rfl rfl rfl (kPickF rfl (kMovC rfl (kMovC rfl (kGP rfl (fun g10 => kGF rfl (kGF rfl (kGF rfl (kPickT rfl (kMovC rfl (kMovC rfl (kGF rfl (kGF rfl (kGF rfl (kPickT rfl (kMovC rfl (kMovC rfl (kGF rfl (kGF rfl (kGF rfl (kPickT rfl (kMovC rfl (kMovC rfl (kGF rfl (kGF rfl (kGF rfl (kPickT rfl (kMovC rfl (kMovC rfl (kGF rfl (kGF rfl (kGF rfl (kPickT rfl (kMovC rfl (kMovC rfl (kGF rfl (kGF rfl (kGF rfl (kPickT rfl (kMovC rfl (kMovC rfl (kGF rfl (kGF rfl (kGF rfl (kGF rfl (kPickT rfl (kMovC rfl (kDone (kCondT rfl (kSeq (kReg (kMovC rfl (kDone (kRet (endRetA (ra := [.one (.d _)]) rfl ?_)))))))))))))))))))))))))))))))))))))))))))))))))) (fun g10 => kGT rfl (kFadP rfl rfl (kGT rfl (kLoadP rfl rfl rfl (kGT rfl (kBin rfl rfl rfl (kPickF rfl (kMovC rfl (kMovC rfl (kGP rfl (fun g11 => kGF rfl (kGF rfl (kGF rfl (kPickT rfl (kMovC rfl (kMovC rfl (kGF rfl (kGF rfl (kGF rfl (kPickT rfl (kMovC rfl (kMovC rfl (kGF rfl (kGF rfl (kGF rfl (kPickT rfl (kMovC rfl (kMovC rfl (kGF rfl (kGF rfl (kGF rfl (kPickT rfl (kMovC rfl (kMovC rfl (kGF rfl (kGF rfl (kGF rfl (kPickT rfl (kMovC rfl (kMovC rfl (kGF rfl (kGF rfl (kGF rfl (kGF rfl (kPickT rfl (kMovC rfl (kDone (kCondT rfl (kSeq (kReg (kMovC rfl (kDone (kRet (endRetA (ra := [.one (.d _)]) rfl ?_)))))))))))))))))))))))))))))))))))))))))))) (fun g11 => kGT rfl (kFadP rfl rfl (kGT rfl (kLoadP rfl rfl rfl (kGT rfl (kBin rfl rfl rfl (kPickF rfl (kMovC rfl (kMovC rfl (kGP rfl (fun g12 => kGF rfl (kGF rfl (kGF rfl (kPickT rfl (kMovC rfl (kMovC rfl (kGF rfl (kGF rfl (kGF rfl (kPickT rfl (kMovC rfl (kMovC rfl (kGF rfl (kGF rfl (kGF rfl (kPickT rfl (kMovC rfl (kMovC rfl (kGF rfl (kGF rfl (kGF rfl (kPickT rfl (kMovC rfl (kMovC rfl (kGF rfl (kGF rfl (kGF rfl (kGF rfl (kPickT rfl (kMovC rfl (kDone (kCondT rfl (kSeq (kReg (kMovC rfl (kDone (kRet (endRetA (ra := [.one (.d _)]) rfl ?_)))))))))))))))))))))))))))))))))))))) (fun g12 => kGT rfl (kFadP rfl rfl (kGT rfl (kLoadP rfl rfl rfl (kGT rfl (kBin rfl rfl rfl (kPickF rfl (kMovC rfl (kMovC rfl (kGP rfl (fun g13 => kGF rfl (kGF rfl (kGF rfl (kPickT rfl (kMovC rfl (kMovC rfl (kGF rfl (kGF rfl (kGF rfl (kPickT rfl (kMovC rfl (kMovC rfl (kGF rfl (kGF rfl (kGF rfl (kPickT rfl (kMovC rfl (kMovC rfl (kGF rfl (kGF rfl (kGF rfl (kGF rfl (kPickT rfl (kMovC rfl (kDone (kCondT rfl (kSeq (kReg (kMovC rfl (kDone (kRet (endRetA (ra := [.one (.d _)]) rfl ?_)))))))))))))))))))))))))))))))) (fun g13 => kGT rfl (kFadP rfl rfl (kGT rfl (kLoadP rfl rfl rfl (kGT rfl (kBin rfl rfl rfl (kPickF rfl (kMovC rfl (kMovC rfl (kGP rfl (fun g14 => kGF rfl (kGF rfl (kGF rfl (kPickT rfl (kMovC rfl (kMovC rfl (kGF rfl (kGF rfl (kGF rfl (kPickT rfl (kMovC rfl (kMovC rfl (kGF rfl (kGF rfl (kGF rfl (kGF rfl (kPickT rfl (kMovC rfl (kDone (kCondT rfl (kSeq (kReg (kMovC rfl (kDone (kRet (endRetA (ra := [.one (.d _)]) rfl ?_)))))))))))))))))))))))))) (fun g14 => kGT rfl (kFadP rfl rfl (kGT rfl (kLoadP rfl rfl rfl (kGT rfl (kBin rfl rfl rfl (kPickF rfl (kMovC rfl (kMovC rfl (kGP rfl (fun g15 => kGF rfl (kGF rfl (kGF rfl (kPickT rfl (kMovC rfl (kMovC rfl (kGF rfl (kGF rfl (kGF rfl (kGF rfl (kPickT rfl (kMovC rfl (kDone (kCondT rfl (kSeq (kReg (kMovC rfl (kDone (kRet (endRetA (ra := [.one (.d _)]) rfl ?_)))))))))))))))))))) (fun g15 => kGT rfl (kFadP rfl rfl (kGT rfl (kLoadP rfl rfl rfl (kGT rfl (kBin rfl rfl rfl (kPickF rfl (kMovC rfl (kMovC rfl (kGP rfl (fun g16 => kGF rfl (kGF rfl (kGF rfl (kGF rfl (kPickT rfl (kMovC rfl (kDone (kCondT rfl (kSeq (kReg (kMovC rfl (kDone (kRet (endRetA (ra := [.one (.d _)]) rfl ?_)))))))))))))) (fun g16 => kGT rfl (kFadP rfl rfl (kGT rfl (kLoadP rfl rfl rfl (kGT rfl (kCallD (ok_spec_l4rrs _ (by first | assumption | omega | solve_by_elim [List.getElem_mem] | (simp only [szOut] at *; omega))) ⟨rfl, trivial⟩ rfl rfl rfl rfl rfl (kGT rfl (kUn rfl rfl (kPickF rfl (kMovC rfl (kDone (kCondN rfl (fun g17 => kSeq (kReg (kMovC rfl (kDone (kRet (endRetA (ra := [.one (.d _)]) rfl ?_)))))) (fun g17 => kSkip (kSeq (kReg (kFadP rfl rfl (kLoadP rfl rfl rfl (kFadP rfl rfl (kLoadP rfl rfl rfl (kCallD (ok_spec_l2under _ _ (by first | assumption | omega | solve_by_elim [List.getElem_mem] | (simp only [szOut] at *; omega)) (by first | assumption | omega | solve_by_elim [List.getElem_mem] | (simp only [szOut] at *; omega))) ⟨⟨⟨rfl, trivial⟩, Nat.le_of_ble_eq_true rfl⟩, ⟨⟨rfl, trivial⟩, Nat.le_of_ble_eq_true rfl⟩, trivial⟩ rfl rfl rfl rfl rfl (kMovC rfl (kGS rfl (fun g18 => kGT rfl (kFadP rfl rfl (kGT rfl (kLoadP rfl rfl rfl (kGT rfl (kBin rfl rfl rfl (kGT rfl (kMovC rfl (kGP rfl (fun g19 => kGF rfl (kGF rfl (kGF rfl (kGF rfl (kGU rfl (kGU rfl (kGU rfl (kGF rfl (kGF rfl (kGU rfl (kGU rfl (kGU rfl (kGF rfl (kGT rfl (kPickT rfl (kMovC rfl (kPickT rfl (kMovC rfl (kMovC rfl (kDone (kRet (endRetA (ra := [.one (.d _)]) rfl ?_)))))))))))))))))))))) (fun g19 => kGT rfl (kFadP rfl rfl (kGT rfl (kLoadP rfl rfl rfl (kGT rfl (kBin rfl rfl rfl (kGT rfl (kMovC rfl (kGP rfl (fun g20 => kGT rfl (kFadP rfl rfl (kGT rfl (kLoadP rfl rfl rfl (kGT rfl (kBin rfl rfl rfl (kGT rfl (kPickT rfl (kMovC rfl (kGT rfl (kMovC rfl (kGP rfl (fun g21 => kGT rfl (kFadP rfl rfl (kGT rfl (kLoadP rfl rfl rfl (kGT rfl (kBin rfl rfl rfl (kGT rfl (kPickT rfl (kMovC rfl (kGT rfl (kPickF rfl (kMovC rfl (kPickT rfl (kMovC rfl (kMovC rfl (kDone (kRet (endRetA (ra := [.one (.d _)]) rfl ?_)))))))))))))))))) (fun g21 => kGF rfl (kGF rfl (kGF rfl (kGT rfl (kPickF rfl (kMovC rfl (kGT rfl (kPickF rfl (kMovC rfl (kPickT rfl (kMovC rfl (kMovC rfl (kDone (kRet (endRetA (ra := [.one (.d _)]) rfl ?_))))))))))))))))))))))))))) (fun g20 => kGF rfl (kGF rfl (kGF rfl (kGT rfl (kPickF rfl (kMovC rfl (kGT rfl (kMovC rfl (kGF rfl (kGF rfl (kGF rfl (kGT rfl (kPickF rfl (kMovC rfl (kGT rfl (kPickF rfl (kMovC rfl (kPickT rfl (kMovC rfl (kMovC rfl (kDone (kRet (endRetA (ra := [.one (.d _)]) rfl ?_))))))))))))))))))))))))))))))))))))))))) (fun g18 => kGF rfl (kGF rfl (kGF rfl (kGF rfl (kGU rfl (kGU rfl (kGU rfl (kGU rfl (kGU rfl (kGU rfl (kGU rfl (kGU rfl (kGU rfl (kGU rfl (kGU rfl (kGU rfl (kGU rfl (kGF rfl (kPickF rfl (kMovC rfl (kMovC rfl (kDone (kRet (endRetA (ra := [.one (.d _)]) rfl ?_))))))))))))))))))))))))))))))))))))))))))))))))))))))))))))))))))))))))))))))))))))))))))))))))))))))))))))))))))))))))))))))))))))))))))))))))))))))))))))))))))))))))))))))))))))))))))))))))))))))))))))))))))))))))))))))))))))))))))
  all_goals (clear n1 n2 f1 f2 z1 z2 h1 s1 a1 hs; refine congrArg (fun z : Bool => [RA.one (RV.d (DV.sc (Value.bool z)))]) ?_)
  all_goals first
    | (simp [taskOk, *]; done)
    | (simp [taskOk, *]; omega)
    | (rw [Bool.eq_iff_iff]; simp [taskOk, *]; done)
    | (rw [Bool.eq_iff_iff]; simp [taskOk, *]; omega)
    | (simp_all [taskOk]; done)
    | (rw [Bool.eq_iff_iff]; simp_all [taskOk]; done)
    | (rw [Bool.eq_iff_iff]; simp_all [taskOk]; omega)

def c_spec_l2own : C := (.seq (.reg false (.op 0 [] (some 1) none false (.box 1 (.t 0))
  (.op 1 [] (some 2) none false (.alloc 2 [(.n 1)])
  .done)))
 (.seq (.reg false (.op 0 [] (some 3) none false (.alloc 3 [(.n 1)])
  .done))
 (.seq (.seq (.reg false (.op 0 [] (some 4) none false (.mov (.v (.int .i64 0)))
  .done))
 (.block 0 (.loop (.seq (.seq (.reg false (.op 0 [] (some 5) none false (.mov (.t 4))
  (.op 1 [] (some 6) none false (.fad (.t 1) 0)
  (.op 2 [] (some 7) none false (.load none (.t 6))
  (.op 3 [] (some 8) none false (.len (.t 7))
  (.op 4 [] (some 9) none false (.bin .lss (.t 5) (.t 8))
  .done))))))
 (.cond (.t 9)
 .skip
 (.exit 0)))
 (.seq (.block 1 (.reg true (.op 0 [] (some 12) none true (.fad (.t 3) 0)
  (.op 1 [] (some 13) none true (.load none (.t 12))
  (.op 3 [] (some 15) none true (.fad (.t 1) 0)
  (.op 4 [] (some 16) none true (.load none (.t 15))
  (.op 5 [] (some 17) none true (.mov (.t 4))
  (.op 6 [] (some 18) none true (.iad 1 (.t 16) (.t 17))
  (.op 7 [] (some 19) none true (.load none (.t 18))
  (.op 2 [] (some 14) none false (.lit 14 1 [(.v (.int .u8 0))] 0 [])
  (.op 8 [7, 4] (some 20) none false (.app 20 1 1 (.t 14) (.t 19))
  (.op 9 [7, 4] (some 21) none false (.lit 21 1 [(.n 1)] 1 [(0, 1, (.t 20))])
  (.op 10 [1, 7, 4] (some 22) none false (.app 22 1 24 (.t 13) (.t 21))
  (.op 11 [] (some 23) none true (.fad (.t 3) 0)
  (.op 12 [1, 4, 7] none none false (.store none (.t 23) (.t 22))
  .done)))))))))))))))
 (.reg false (.op 0 [] (some 10) none false (.mov (.t 4))
  (.op 1 [] (some 11) none false (.bin .add (.t 10) (.v (.int .i64 1)))
  (.op 2 [] (some 4) none false (.mov (.t 11))
  .done)))))))))
 (.seq (.reg false (.op 0 [] (some 24) none false (.load (some 1) (.t 3))
  (.op 1 [] none none false (.store (some 1) (.t 2) (.t 24))
  .done)))
 .ret))))
theorem dg_spec_l2own : Tryz.f125.body.bind (digC Tryz.prog Tryz.f125.ntmps []) = some c_spec_l2own := by kernel_rfl
theorem rs_spec_l2own : resSlots Tryz.prog Tryz.f125 = some [.m 2 (some 1)] := by kernel_rfl
theorem ok_spec_l2own (a : List (List UInt8)) (ha : a.length ≤ 4194304) (hb : ∀ b ∈ a, b.length ≤ 4194304) :
    FnOK Tryz.prog 125 [.agg [.d (encBB a)]] (fun ra _ => ra = [.agg [.own true (encBB a)]]) := by
  refine FnOK.ofK Tryz.func125 (by kernel_rfl) dg_spec_l2own rs_spec_l2own rfl rfl ?_
  unfold c_spec_l2own
  refine kSeq (kReg (kBox rfl rfl rfl rfl rfl (kAlloc rfl rfl (kDone (kSeq (kReg (kAlloc rfl rfl (kDone (kSeq (kSeq (kReg (kMovC rfl (kDone (kBlock ?_))))))))))))))
  refine kSub (Sub.nilBox (id := rid 3 0) (id2 := rid 5000 0) (j := 0) rfl rfl rfl (by decide) (by decide)) ?_
  refine kLoop (α := { i : Nat // i ≤ a.length })
    (fun y => ⟨tabSl [(1, .c (.ptr (rid 1 0) 1 0)), (2, .c (.ptr (rid 2 0) 1 0)), (3, .c (.ptr (rid 3 0) 1 0)), (4, .i y.1)],
      obTab 1 [(rid 1 0, ⟨1, 0, .box [.d (encBB a)]⟩), (rid 2 0, ⟨1, 0, .box [.nil 1]⟩), (rid 3 0, ⟨1, 0, .box [.arr (rid 5000 0) 1]⟩), (rid 5000 0, ⟨1, 0, .arr true (encBB (a.take y.1))⟩)], []⟩) (fun y => a.length - y.1) ⟨0, by simp⟩
    .normA ?_
  rintro ⟨i, hi⟩
  simp only
  have hlen : (a.take i).length = i := by simp; omega
  rcases Nat.lt_or_ge i a.length with hlt | hge
  · have hbi := hb _ (List.getElem_mem hlt)
    refine kSeq (kSeq (kReg (kMovC rfl (kFadP rfl rfl (kLoadP rfl rfl rfl (kLenR rfl rfl (kBin rfl rfl rfl (kDone (kCondP rfl (fun g0 => kSkip (kSeq (kBlock (kRegD (kFadP rfl rfl (kLoadP rfl rfl rfl (kFadP rfl rfl (kLoadP rfl rfl rfl (kMovC rfl (kIadR rfl rfl rfl (by omega) (kLoadD rfl rfl (kLit rfl rfl rfl rfl (kRelK rfl rfl (kAppN rfl rfl rfl (src_encB _ _) rfl rfl rfl rfl (by omega) (kRelK rfl rfl (kLit rfl rfl rfl rfl (kRelF rfl rfl (kAppR1 rfl rfl rfl rfl rfl rfl rfl rfl (by omega) (kFadP rfl rfl (kRelF rfl rfl (kStoreP rfl rfl rfl rfl (kDone (kH (kBk (kReg (kMovC rfl (kAdd rfl rfl (by omega) (kMovC rfl (kDone ?_))))))))))))))))))))))))))))) (fun g0 => (by omega)))))))))))
    exact kInv ⟨⟨i + 1, by omega⟩, by simp only; omega, .normA⟩
  · refine kSeq (kSeq (kReg (kMovC rfl (kFadP rfl rfl (kLoadP rfl rfl rfl (kLenR rfl rfl (kBin rfl rfl rfl (kDone (kCondP rfl (fun g0 => (by omega)) (fun g0 => kExit (kExC (kExI (kExB (kSeq (kReg (kLoadP rfl rfl rfl (kStoreP rfl rfl rfl rfl (kDone (kRet (endRetA (ra := [.agg [(.own true _)]]) rfl ?_))))))))))))))))))))
    rw [show i = a.length by omega, List.take_length]

def c_spec_l11ask : C := (.seq (.reg false (.op 0 [] (some 1) none false (.box 1 (.t 0))
  (.op 1 [] (some 2) none false (.alloc 2 [(.v (.int .i64 0)), (.v (.bool false)), (.v (.int .i64 0)), (.v (.bool false)), (.v (.int .i64 0)), (.n 2), (.n 7), (.n 7), (.n 7), (.n 9), (.n 9)])
  .done)))
 (.seq (.reg true (.op 0 [] (some 3) none true (.fad (.t 1) 1)
  (.op 1 [] (some 4) none true (.load none (.t 3))
  (.op 2 [] (some 5) none true (.fad (.t 1) 4)
  (.op 3 [] (some 6) none true (.load (some 1) (.t 5))
  (.op 5 [] (some 8) none true (.fad (.t 1) 2)
  (.op 6 [] (some 9) none true (.fad (.t 8) 1)
  (.op 7 [] (some 10) none true (.load none (.t 9))
  (.op 4 [3] (some 7) none false (.call 7 125 [(.t 6)])
  (.op 8 [] (some 11) none true (.build [(.n 1), (.v (.int .i64 0))] [(0, 1, (.t 7)), (1, 1, (.t 10))])
  (.op 9 [3, 7] (some 12) none false (.lit 12 2 [(.n 1), (.v (.int .i64 0))] 1 [(0, 2, (.t 11))])
  (.op 10 [] (some 13) none true (.build [(.v (.int .i64 0)), (.v (.bool false)), (.v (.int .i64 0)), (.v (.bool false)), (.v (.int .i64 0)), (.n 2), (.n 7), (.n 7), (.n 7), (.n 9), (.n 9)] [(0, 1, (.t 4)), (5, 1, (.t 12))])
  (.op 11 [1, 3, 7] none none false (.store (some 11) (.t 2) (.t 13))
  .done)))))))))))))
 .ret))
theorem dg_spec_l11ask : Tryz.f98.body.bind (digC Tryz.prog Tryz.f98.ntmps []) = some c_spec_l11ask := by kernel_rfl
theorem rs_spec_l11ask : resSlots Tryz.prog Tryz.f98 = some [.m 2 (some 11)] := by kernel_rfl
theorem ok_spec_l11ask (t : Task) (hs : SmallT t) :
    FnOK Tryz.prog 98 [.agg (t.cells.map .d)] (fun ra _ => ra = [.agg [.d (.sc (.int .i64 t.id)), .d (.sc (.bool false)), .d (.sc (.int .i64 0)), .d (.sc (.bool false)), .d (.sc (.int .i64 0)), .own true (encQ [⟨t.name, t.ftype⟩]), .own true (encR []), .own true (encR []), .own true (encR []), .own true nilW, .own true nilW]]) := by
  refine FnOK.ofK Tryz.func98 (by kernel_rfl) dg_spec_l11ask rs_spec_l11ask rfl rfl ?_
  unfold c_spec_l11ask
  have n1 := hs.n.len
  have n2 := hs.n.mem
  refine kSeq (kReg (kBox rfl rfl rfl rfl rfl (kAlloc rfl rfl (kDone (kSeq (kRegD (kFadP rfl rfl (kLoadP rfl rfl rfl (kFadP rfl rfl (kLoadP rfl rfl rfl (kFadP rfl rfl (kFadP rfl rfl (kMem [(8192, ⟨1, 0, .box [.d _, .d _, .d _, .d _, .d _, .d _, .d _, .d _, .d _, .d _, .d _, .d _, .d _]⟩), (12288, ⟨1, 0, .box [.d _, .d _, .d _, .d _, .d _, .nil 2, .nil 7, .nil 7, .nil 7, .nil 9, .nil 9]⟩)] [(9, .c (.ptr 8192 1 3)), (6, .g [.d _]), (7, .c (.un)), (10, .c (.un)), (11, .c (.un)), (4, .c (.d _)), (12, .c (.un)), (2, .c (.ptr 12288 1 0)), (13, .c (.un))] [8192, 8192] ⟨rfl, rfl, trivial⟩ ⟨rfl, rfl, rfl, rfl, rfl, rfl, rfl, rfl, rfl, trivial⟩ rfl (kLoadP rfl rfl rfl (kRelK rfl rfl (kCall1 true (ok_spec_l2own _ (by first | assumption | omega | solve_by_elim [List.getElem_mem] | (simp only [szOut] at *; omega)) (by first | assumption | omega | solve_by_elim [List.getElem_mem] | (simp only [szOut] at *; omega))) ⟨⟨⟨rfl, trivial⟩, Nat.le_of_ble_eq_true rfl⟩, trivial⟩ rfl rfl rfl (fun _ => (kMem [(32768, ⟨1, 0, .arr true _⟩), (12288, ⟨1, 0, .box [.d _, .d _, .d _, .d _, .d _, .nil 2, .nil 7, .nil 7, .nil 7, .nil 9, .nil 9]⟩)] [(7, .g [.arr 32768 1]), (10, .c (.d _)), (11, .c (.un)), (4, .c (.d _)), (12, .c (.un)), (2, .c (.ptr 12288 1 0)), (13, .c (.un))] [8192, 8192, 8192] ⟨rfl, rfl, trivial⟩ ⟨rfl, rfl, rfl, rfl, rfl, rfl, rfl, trivial⟩ rfl (kBuildG rfl (kRelK rfl rfl (kLit rfl rfl rfl rfl (kMem [(53248, ⟨1, 0, .arr true _⟩), (12288, ⟨1, 0, .box [.d _, .d _, .d _, .d _, .d _, .nil 2, .nil 7, .nil 7, .nil 7, .nil 9, .nil 9]⟩)] [(4, .c (.d _)), (12, .c (.arr 53248 1)), (2, .c (.ptr 12288 1 0)), (13, .c (.un))] [8192, 8192, 8192] ⟨rfl, rfl, trivial⟩ ⟨rfl, rfl, rfl, rfl, trivial⟩ rfl (kBuildG rfl (kMem [(12288, ⟨1, 0, .box [.d _, .d _, .d _, .d _, .d _, .nil 2, .nil 7, .nil 7, .nil 7, .nil 9, .nil 9]⟩), (53248, ⟨1, 0, .arr true _⟩)] [(2, .c (.ptr 12288 1 0)), (13, .g [.d _, .d _, .d _, .d _, .d _, .arr 53248 1, .nil 7, .nil 7, .nil 7, .nil 9, .nil 9])] [8192, 8192, 8192] ⟨rfl, rfl, trivial⟩ ⟨rfl, rfl, trivial⟩ rfl (kRelF rfl rfl (kStoreP rfl rfl rfl rfl (kDone (kH (kMem [(12288, ⟨1, 0, .box [.d _, .d _, .d _, .d _, .d _, .arr 53248 1, .nil 7, .nil 7, .nil 7, .nil 9, .nil 9]⟩), (53248, ⟨1, 0, .arr true _⟩)] [(2, .c (.ptr 12288 1 0))] [] ⟨rfl, rfl, trivial⟩ ⟨rfl, trivial⟩ rfl (kRet (endRetA (ra := [.agg [(.d _), (.d _), (.d _), (.d _), (.d _), (.own true _), (.own true _), (.own true _), (.own true _), (.own true _), (.own true _)]]) rfl rfl)))))))))))))))))))))))))))))))

def c_spec_AskOf : C := (.seq (.reg false (.op 0 [] (some 1) none false (.box 1 (.t 0))
  (.op 1 [] (some 2) none false (.mov (.v (.int .i64 0)))
  (.op 2 [] (some 3) none false (.alloc 3 [(.v (.int .i64 0)), (.v (.bool false)), (.v (.int .i64 0)), (.v (.bool false)), (.v (.int .i64 0)), (.n 2), (.n 7), (.n 7), (.n 7), (.n 9), (.n 9)])
  (.op 3 [] (some 4) none false (.mov (.v (.bool false)))
  .done)))))
 (.seq (.seq (.reg false (.op 0 [] (some 5) none false (.load (some 13) (.t 1))
  (.op 1 [] (some 6) none false (.call 6 66 [(.t 5)])
  (.op 2 [] (some 7) none false (.un .not (.t 6))
  (.op 3 [] (some 8) none false (.mov (.t 7))
  (.op 4 [] (some 9) (some (8, false)) false (.fad (.t 1) 0)
  (.op 5 [] (some 10) (some (8, false)) false (.load none (.t 9))
  (.op 6 [] (some 11) (some (8, false)) false (.bin .eql (.t 10) (.v (.int .i64 1)))
  (.op 7 [] (some 12) none false (.pick (.t 8) (.v (.bool true)) (.t 11))
  .done)))))))))
 (.cond (.t 12)
 (.seq (.reg false (.op 0 [] (some 13) none false (.build [(.v (.int .i64 0)), (.v (.bool false)), (.v (.int .i64 0)), (.v (.bool false)), (.v (.int .i64 0)), (.n 2), (.n 7), (.n 7), (.n 7), (.n 9), (.n 9)] [])
  (.op 1 [] (some 2) none false (.mov (.v (.int .i64 0)))
  (.op 2 [] none none false (.store (some 11) (.t 3) (.t 13))
  (.op 3 [] (some 4) none false (.mov (.v (.bool false)))
  .done)))))
 .ret)
 .skip))
 (.seq (.reg true (.op 0 [] (some 14) none true (.fad (.t 1) 7)
  (.op 1 [] (some 15) none true (.load none (.t 14))
  (.op 2 [] (some 16) none true (.fad (.t 1) 8)
  (.op 3 [] (some 17) none true (.load none (.t 16))
  (.op 4 [] (some 18) none true (.iad 1 (.t 15) (.t 17))
  (.op 5 [] (some 19) none true (.load none (.t 18))
  (.op 6 [] (some 20) none true (.load (some 13) (.t 1))
  (.op 7 [6] (some 21) none false (.call 21 98 [(.t 20)])
  (.op 8 [] (some 2) none true (.mov (.t 19))
  (.op 9 [6, 5, 1, 3] none none false (.store (some 11) (.t 3) (.t 21))
  (.op 10 [] (some 4) none true (.mov (.v (.bool true)))
  .done))))))))))))
 .ret)))
theorem dg_spec_AskOf : Tryz.f43.body.bind (digC Tryz.prog Tryz.f43.ntmps []) = some c_spec_AskOf := by kernel_rfl
theorem rs_spec_AskOf : resSlots Tryz.prog Tryz.f43 = some [.s 2, .m 3 (some 11), .s 4] := by kernel_rfl
theorem ok_spec_AskOf (t : Task) (hs : SmallT t) :
    FnOK Tryz.prog 43 [.agg (t.cells.map .d)] (fun ra _ => ra = [.one (.d (.sc (.int .i64 (askIp t)))), .agg [.d (.sc (.int .i64 (askId t))), .d (.sc (.bool false)), .d (.sc (.int .i64 0)), .d (.sc (.bool false)), .d (.sc (.int .i64 0)), .own true (encQ (askQs t)), .own true (encR []), .own true (encR []), .own true (encR []), .own true nilW, .own true nilW], .one (.d (.sc (.bool (askOk t))))]) := by
  refine FnOK.ofK Tryz.func43 (by kernel_rfl) dg_spec_AskOf rs_spec_AskOf rfl rfl ?_
  unfold c_spec_AskOf
  have s1 := hs.s
  cases h : askOk t
  · rw [show askIp t = 0 by simp [askIp, h], show askId t = 0 by simp [askId, h], show askQs t = [] by simp [askQs, h]]
    unfold askOk at h
    refine kSeq (kReg (kBox rfl rfl rfl rfl rfl (kMovC rfl (kAlloc rfl rfl (kMovC rfl (kDone (kSeq (kSeq (kReg (kLoadP rfl rfl rfl (kCallD (ok_spec_TaskOk _ (by first | assumption | omega | solve_by_elim [List.getElem_mem] | (simp only [szOut] at *; omega))) ⟨⟨⟨rfl, rfl, rfl, rfl, rfl, rfl, rfl, rfl, rfl, rfl, rfl, rfl, rfl, trivial⟩, Nat.le_of_ble_eq_true rfl⟩, trivial⟩ rfl rfl rfl rfl rfl (kUn rfl rfl (kMovC rfl (kGN rfl (fun g0 => kMem [(8192, ⟨1, 0, .box [.d _, .d _, .d _, .d _, .d _, .d _, .d _, .d _, .d _, .d _, .d _, .d _, .d _]⟩)] [(1, .c (.ptr 8192 1 0)), (9, .c (.un)), (10, .c (.un)), (8, .c (.d _)), (11, .c (.un))] [] ⟨rfl, trivial⟩ ⟨rfl, rfl, rfl, rfl, rfl, trivial⟩ rfl (kGF rfl (kGF rfl (kGF rfl (kPickT rfl (kMovC rfl (kDone (kCondT rfl (kSeq (kReg (kMem [(16384, ⟨1, 0, .box [.d _, .d _, .d _, .d _, .d _, .nil 2, .nil 7, .nil 7, .nil 7, .nil 9, .nil 9]⟩)] [(3, .c (.ptr 16384 1 0)), (13, .c (.un))] [] ⟨rfl, trivial⟩ ⟨rfl, rfl, trivial⟩ rfl (kBuildG rfl (kMovC rfl (kMem [(16384, ⟨1, 0, .box [.d _, .d _, .d _, .d _, .d _, .nil 2, .nil 7, .nil 7, .nil 7, .nil 9, .nil 9]⟩)] [(3, .c (.ptr 16384 1 0)), (13, .g [.d _, .d _, .d _, .d _, .d _, .nil 2, .nil 7, .nil 7, .nil 7, .nil 9, .nil 9])] [] ⟨rfl, trivial⟩ ⟨rfl, rfl, trivial⟩ rfl (kStoreP rfl rfl rfl rfl (kMovC rfl (kDone (kMem [(16384, ⟨1, 0, .box [.d _, .d _, .d _, .d _, .d _, .nil 2, .nil 7, .nil 7, .nil 7, .nil 9, .nil 9]⟩)] [(2, .c (.d _)), (3, .c (.ptr 16384 1 0)), (4, .c (.d _))] [] ⟨rfl, trivial⟩ ⟨rfl, rfl, rfl, trivial⟩ rfl (kRet (endRetA (ra := [.one (.d _), .agg [(.d _), (.d _), (.d _), (.d _), (.d _), (.own true _), (.own true _), (.own true _), (.own true _), (.own true _), (.own true _)], .one (.d _)]) rfl rfl)))))))))))))))))))) (fun g0 => kMem [(8192, ⟨1, 0, .box [.d _, .d _, .d _, .d _, .d _, .d _, .d _, .d _, .d _, .d _, .d _, .d _, .d _]⟩)] [(1, .c (.ptr 8192 1 0)), (9, .c (.un)), (10, .c (.un)), (8, .c (.d _)), (11, .c (.un))] [] ⟨rfl, trivial⟩ ⟨rfl, rfl, rfl, rfl, rfl, trivial⟩ rfl (kGT rfl (kFadP rfl rfl (kGT rfl (kLoadP rfl rfl rfl (kGT rfl (kBin rfl rfl rfl (kPickF rfl (kMovC rfl (kDone (kCondP rfl (fun g1 => kSeq (kReg (kMem [(16384, ⟨1, 0, .box [.d _, .d _, .d _, .d _, .d _, .nil 2, .nil 7, .nil 7, .nil 7, .nil 9, .nil 9]⟩)] [(3, .c (.ptr 16384 1 0)), (13, .c (.un))] [] ⟨rfl, trivial⟩ ⟨rfl, rfl, trivial⟩ rfl (kBuildG rfl (kMovC rfl (kMem [(16384, ⟨1, 0, .box [.d _, .d _, .d _, .d _, .d _, .nil 2, .nil 7, .nil 7, .nil 7, .nil 9, .nil 9]⟩)] [(3, .c (.ptr 16384 1 0)), (13, .g [.d _, .d _, .d _, .d _, .d _, .nil 2, .nil 7, .nil 7, .nil 7, .nil 9, .nil 9])] [] ⟨rfl, trivial⟩ ⟨rfl, rfl, trivial⟩ rfl (kStoreP rfl rfl rfl rfl (kMovC rfl (kDone (kMem [(16384, ⟨1, 0, .box [.d _, .d _, .d _, .d _, .d _, .nil 2, .nil 7, .nil 7, .nil 7, .nil 9, .nil 9]⟩)] [(2, .c (.d _)), (3, .c (.ptr 16384 1 0)), (4, .c (.d _))] [] ⟨rfl, trivial⟩ ⟨rfl, rfl, rfl, trivial⟩ rfl (kRet (endRetA (ra := [.one (.d _), .agg [(.d _), (.d _), (.d _), (.d _), (.d _), (.own true _), (.own true _), (.own true _), (.own true _), (.own true _), (.own true _)], .one (.d _)]) rfl rfl)))))))))))) (fun g1 => kSkip (kSeq (kRegD (kFadP rfl rfl (kLoadP rfl rfl rfl (kFadP rfl rfl (kLoadP rfl rfl rfl ?_))))))))))))))))))))))))))))))))
    all_goals simp_all
  · have h' := h
    unfold askOk at h'
    simp only [Bool.and_eq_true] at h'
    obtain ⟨a1, a2⟩ := h'
    have ht := task_turn a1
    have hst : t.state ≠ 1 := by simpa using a2
    have hget : t.servers.getD t.turn.toNat 0 = t.servers[t.turn.toNat]'(by omega) := by
      rw [List.getD_eq_getElem?_getD, List.getElem?_eq_getElem (by omega)]; rfl
    rw [show askIp t = t.servers[t.turn.toNat]'(by omega) by unfold askIp; rw [h, if_pos rfl, hget], show askId t = t.id by simp [askId, h], show askQs t = [⟨t.name, t.ftype⟩] by simp [askQs, h]]
    refine kSeq (kReg (kBox rfl rfl rfl rfl rfl (kMovC rfl (kAlloc rfl rfl (kMovC rfl (kDone (kSeq (kSeq (kReg (kLoadP rfl rfl rfl (kCallD (ok_spec_TaskOk _ (by first | assumption | omega | solve_by_elim [List.getElem_mem] | (simp only [szOut] at *; omega))) ⟨⟨⟨rfl, rfl, rfl, rfl, rfl, rfl, rfl, rfl, rfl, rfl, rfl, rfl, rfl, trivial⟩, Nat.le_of_ble_eq_true rfl⟩, trivial⟩ rfl rfl rfl rfl rfl (kUn rfl rfl (kMovC rfl (kGN rfl (fun g0 => (by (simp [*] at g0))) (fun g0 => kMem [(8192, ⟨1, 0, .box [.d _, .d _, .d _, .d _, .d _, .d _, .d _, .d _, .d _, .d _, .d _, .d _, .d _]⟩)] [(1, .c (.ptr 8192 1 0)), (9, .c (.un)), (10, .c (.un)), (8, .c (.d _)), (11, .c (.un))] [] ⟨rfl, trivial⟩ ⟨rfl, rfl, rfl, rfl, rfl, trivial⟩ rfl (kGT rfl (kFadP rfl rfl (kGT rfl (kLoadP rfl rfl rfl (kGT rfl (kBin rfl rfl rfl (kPickF rfl (kMovC rfl (kDone (kCondP rfl (fun g1 => (by omega)) (fun g1 => kSkip (kSeq (kRegD (kFadP rfl rfl (kLoadP rfl rfl rfl (kFadP rfl rfl (kLoadP rfl rfl rfl (kIadT rfl rfl (by omega) (kMem [(8192, ⟨1, 0, .box [.d _, .d _, .d _, .d _, .d _, .d _, .d _, .d _, .d _, .d _, .d _, .d _, .d _]⟩), (16384, ⟨1, 0, .box [.d _, .d _, .d _, .d _, .d _, .nil 2, .nil 7, .nil 7, .nil 7, .nil 9, .nil 9]⟩)] [(1, .c (.ptr 8192 1 0)), (20, .c (.un)), (19, .c (.un)), (3, .c (.ptr 16384 1 0)), (21, .c (.un))] [8192, 8192] ⟨rfl, rfl, trivial⟩ ⟨rfl, rfl, rfl, rfl, rfl, trivial⟩ rfl (kLoadD rfl rfl (kLoadP rfl rfl rfl (kRelK rfl rfl (kCall1 true (ok_spec_l11ask _ (by first | assumption | omega | solve_by_elim [List.getElem_mem] | (simp only [szOut] at *; omega))) ⟨⟨⟨rfl, rfl, rfl, rfl, rfl, rfl, rfl, rfl, rfl, rfl, rfl, rfl, rfl, trivial⟩, Nat.le_of_ble_eq_true rfl⟩, trivial⟩ rfl rfl rfl (fun _ => (kMovC rfl (kMem [(16384, ⟨1, 0, .box [.d _, .d _, .d _, .d _, .d _, .nil 2, .nil 7, .nil 7, .nil 7, .nil 9, .nil 9]⟩), (90117, ⟨1, 0, .arr true _⟩), (90118, ⟨1, 0, .arr true _⟩), (90119, ⟨1, 0, .arr true _⟩), (90120, ⟨1, 0, .arr true _⟩), (90121, ⟨1, 0, .arr true _⟩), (90122, ⟨1, 0, .arr true _⟩)] [(3, .c (.ptr 16384 1 0)), (21, .g [.d _, .d _, .d _, .d _, .d _, .arr 90117 1, .arr 90118 1, .arr 90119 1, .arr 90120 1, .arr 90121 1, .arr 90122 1])] [8192, 8192, 8192] ⟨rfl, rfl, rfl, rfl, rfl, rfl, rfl, trivial⟩ ⟨rfl, rfl, trivial⟩ rfl (kRelF rfl rfl (kStoreP rfl rfl rfl rfl (kMovC rfl (kDone (kH (kMem [(16384, ⟨1, 0, .box [.d _, .d _, .d _, .d _, .d _, .arr 90117 1, .arr 90118 1, .arr 90119 1, .arr 90120 1, .arr 90121 1, .arr 90122 1]⟩), (90117, ⟨1, 0, .arr true _⟩), (90118, ⟨1, 0, .arr true _⟩), (90119, ⟨1, 0, .arr true _⟩), (90120, ⟨1, 0, .arr true _⟩), (90121, ⟨1, 0, .arr true _⟩), (90122, ⟨1, 0, .arr true _⟩)] [(2, .c (.d _)), (3, .c (.ptr 16384 1 0)), (4, .c (.d _))] [] ⟨rfl, rfl, rfl, rfl, rfl, rfl, rfl, trivial⟩ ⟨rfl, rfl, rfl, trivial⟩ rfl (kRet (endRetA (ra := [.one (.d _), .agg [(.d _), (.d _), (.d _), (.d _), (.d _), (.own true _), (.own true _), (.own true _), (.own true _), (.own true _), (.own true _)], .one (.d _)]) rfl rfl)))))))))))))))))))))))))))))))))))))))))))))))))

def c_laws_toByteS : C := (.seq (.reg false (.op 0 [] (some 2) none false (.mov (.n 1))
  .done))
 (.seq (.reg false (.op 0 [] (some 5) none false (.mov (.t 0))
  (.op 1 [] (some 6) none false (.len (.t 5))
  (.op 2 [] (some 7) none false (.mk 7 1 [(.v (.int .u8 0))] 1 (.t 6))
  (.op 3 [] (some 3) none false (.mov (.t 7))
  .done)))))
 (.seq (.seq (.reg false (.op 0 [] (some 4) none false (.mov (.v (.int .i64 0)))
  .done))
 (.block 0 (.loop (.seq (.seq (.reg false (.op 0 [] (some 8) none false (.mov (.t 4))
  (.op 1 [] (some 9) none false (.mov (.t 0))
  (.op 2 [] (some 10) none false (.len (.t 9))
  (.op 3 [] (some 11) none false (.bin .lss (.t 8) (.t 10))
  .done)))))
 (.cond (.t 11)
 .skip
 (.exit 0)))
 (.seq (.block 1 (.reg false (.op 0 [] (some 14) none false (.mov (.t 3))
  (.op 1 [] (some 15) none false (.mov (.t 4))
  (.op 2 [] (some 16) none false (.mov (.t 0))
  (.op 3 [] (some 17) none false (.mov (.t 4))
  (.op 4 [] (some 18) none false (.iad 1 (.t 16) (.t 17))
  (.op 5 [] (some 19) none false (.load none (.t 18))
  (.op 6 [] (some 20) none false (.iad 1 (.t 14) (.t 15))
  (.op 7 [] none none false (.store none (.t 20) (.t 19))
  .done))))))))))
 (.reg false (.op 0 [] (some 12) none false (.mov (.t 4))
  (.op 1 [] (some 13) none false (.bin .add (.t 12) (.v (.int .i64 1)))
  (.op 2 [] (some 4) none false (.mov (.t 13))
  .done)))))))))
 (.seq (.reg false (.op 0 [] (some 21) none false (.mov (.t 3))
  (.op 1 [] (some 2) none false (.mov (.t 21))
  .done)))
 .ret))))
theorem dg_laws_toByteS : Tryz.f91.body.bind (digC Tryz.prog Tryz.f91.ntmps []) = some c_laws_toByteS := by kernel_rfl
theorem rs_laws_toByteS : resSlots Tryz.prog Tryz.f91 = some [.s 2] := by kernel_rfl
theorem ok_laws_toByteS (a : List UInt8) (ha : a.length ≤ 4194304) :
    FnOK Tryz.prog 91 [.one (.d (encB a))] (fun ra _ => ra = [.one (.own true (encB a))]) := by
  refine FnOK.ofK Tryz.func91 (by kernel_rfl) dg_laws_toByteS rs_laws_toByteS rfl rfl ?_
  unfold c_laws_toByteS
  refine kSeq (kReg (kMovC rfl (kDone ?_)))
  refine kSeq (kReg (kMovC rfl (kLen rfl rfl rfl ?_)))
  rw [len_encB]
  refine kMk rfl (by omega) rfl rfl rfl rfl rfl (kMovC rfl (kDone ?_))
  rw [show (Int.toNat (a.length : Int)) = a.length from rfl, encB_zeros]
  refine kSeq (kSeq (kReg (kMovC rfl (kDone (kBlock ?_)))))
  refine kLoop (α := { i : Nat // i ≤ a.length })
    (fun y => ⟨tabSl [(0, .dv (encB a)), (3, .c (.arr (rid 7 0) 1)), (4, .i y.1)], upd (St.init [.one (.d (encB a))]).ob (rid 7 0) ⟨1, y.1, .arr true (encB (a.take y.1 ++ (List.replicate a.length 0).drop y.1))⟩, []⟩) (fun y => a.length - y.1) ⟨0, by simp⟩
    (.tab rfl ⟨.refl _, .refl _, .refl _, trivial⟩) ?_
  rintro ⟨i, hi⟩
  simp only
  refine kSeq (kSeq (kReg ?_))
  refine kMovC rfl (kMovC rfl (kLen rfl rfl rfl (kBin rfl rfl rfl (kDone ?_))))
  rw [len_encB]
  have hl1 : (a.take i).length = i := by simp; omega
  refine kCond rfl (fun h1 => ?_) (fun h1 => ?_)
  · have hlt : i < a.length := by simp at h1; omega
    refine kSkip (kSeq (kBlock (kReg ?_)))
    refine kMovC rfl (kMovC rfl (kMovC rfl (kMovC rfl (kIadD rfl rfl rfl rfl ?_ ?_))))
    · rw [len_encB]; omega
    rw [row_encB' a i hlt]
    refine kLoadD rfl rfl (kIadA rfl rfl rfl rfl ?_ ?_)
    · rw [len_encB]; simp; omega
    refine kStoreE1 rfl rfl rfl rfl (by simp [encB, DV.esz]) (kDone (kBk ?_))
    rw [setRow_encB' _ _ _ (by simp; omega)]
    refine kReg (kMovC rfl (kAdd rfl rfl ?_ (kMovC rfl (kDone (kInv ?_)))))
    · omega
    refine ⟨⟨i + 1, hlt⟩, by simp only; omega, .tab ?_ ⟨.refl _, .refl _, .refl _, trivial⟩⟩
    refine Eq.trans ?_ (upd_upd _ _ _ _).symm
    refine congrArg (upd _ _) ?_
    show _ = Ob.mk _ _ (OK.arr _ (encB ((a.take i ++ (List.replicate a.length 0).drop i).set i a[i])))
    rw [take_set_succ _ _ _ _ (by simpa using hlt) hl1, List.take_append_getElem]
    rfl
  · refine kExit (kExC (kExI (kExB ?_)))
    have hge : i = a.length := by simp at h1; omega
    subst hge
    refine kSeq (kReg (kMovC rfl (kMovC rfl (kDone (kRet ?_)))))
    refine endRet (ra := [.one (.own true _)]) rfl ⟨⟨⟨⟨_, rfl, fun _ => rfl⟩, .inl Nat.zero_lt_one⟩, trivial⟩, nodupB_sound rfl, trivial, trivial⟩ ?_
    simp

def c_laws_toByteSS : C := (.seq (.reg false (.op 0 [] (some 2) none false (.mov (.n 1))
  .done))
 (.seq (.reg false (.op 0 [] (some 5) none false (.mov (.t 0))
  (.op 1 [] (some 6) none false (.len (.t 5))
  (.op 2 [] (some 7) none false (.mk 7 1 [(.n 1)] 24 (.t 6))
  (.op 3 [] (some 3) none false (.mov (.t 7))
  .done)))))
 (.seq (.seq (.reg false (.op 0 [] (some 4) none false (.mov (.v (.int .i64 0)))
  .done))
 (.block 0 (.loop (.seq (.seq (.reg false (.op 0 [] (some 8) none false (.mov (.t 4))
  (.op 1 [] (some 9) none false (.mov (.t 0))
  (.op 2 [] (some 10) none false (.len (.t 9))
  (.op 3 [] (some 11) none false (.bin .lss (.t 8) (.t 10))
  .done)))))
 (.cond (.t 11)
 .skip
 (.exit 0)))
 (.seq (.block 1 (.reg false (.op 0 [] (some 14) none false (.mov (.t 3))
  (.op 1 [] (some 15) none false (.mov (.t 4))
  (.op 2 [] (some 16) none false (.mov (.t 0))
  (.op 3 [] (some 17) none false (.mov (.t 4))
  (.op 4 [] (some 18) none false (.iad 1 (.t 16) (.t 17))
  (.op 5 [] (some 19) none false (.load none (.t 18))
  (.op 6 [] (some 20) none false (.call 20 91 [(.t 19)])
  (.op 7 [] (some 21) none false (.iad 1 (.t 14) (.t 15))
  (.op 8 [] none none false (.store none (.t 21) (.t 20))
  .done)))))))))))
 (.reg false (.op 0 [] (some 12) none false (.mov (.t 4))
  (.op 1 [] (some 13) none false (.bin .add (.t 12) (.v (.int .i64 1)))
  (.op 2 [] (some 4) none false (.mov (.t 13))
  .done)))))))))
 (.seq (.reg false (.op 0 [] (some 22) none false (.mov (.t 3))
  (.op 1 [] (some 2) none false (.mov (.t 22))
  .done)))
 .ret))))
theorem dg_laws_toByteSS : Tryz.f83.body.bind (digC Tryz.prog Tryz.f83.ntmps []) = some c_laws_toByteSS := by kernel_rfl
theorem rs_laws_toByteSS : resSlots Tryz.prog Tryz.f83 = some [.s 2] := by kernel_rfl
theorem ok_laws_toByteSS (a : List (List UInt8)) (ha : a.length ≤ 4194304) (hb : ∀ b ∈ a, b.length ≤ 4194304) :
    FnOK Tryz.prog 83 [.one (.d (encBB a))] (fun ra _ => ra = [.one (.own true (encBB a))]) := by
  refine FnOK.ofK Tryz.func83 (by kernel_rfl) dg_laws_toByteSS rs_laws_toByteSS rfl rfl ?_
  unfold c_laws_toByteSS
  refine kSeq (kReg (kMovC rfl (kDone ?_)))
  refine kSeq (kReg (kMovC rfl (kLen rfl rfl rfl ?_)))
  rw [len_encBB]
  refine kMk rfl (by omega) rfl rfl rfl rfl rfl (kMovC rfl (kDone ?_))
  rw [show (Int.toNat (a.length : Int)) = a.length from rfl, encBB_zeros]
  refine kSeq (kSeq (kReg (kMovC rfl (kDone (kBlock ?_)))))
  refine kLoop (α := { p : Nat × Nat // p.1 ≤ a.length ∧ 1 ≤ p.2 })
    (fun y => ⟨tabSl [(0, .dv (encBB a)), (3, .c (.arr (rid 7 0) 1)), (4, .i y.1.1)], obTab y.1.2 [(rid 7 0, ⟨1, y.1.1, .arr true (encBB (a.take y.1.1 ++ (List.replicate a.length []).drop y.1.1))⟩)], []⟩) (fun y => a.length - y.1.1) ⟨(0, 2), by simp⟩
    (.canon (V := 1) (.set (VB.mono (.init _) (by omega)) (by simp)) (by simp) rfl ⟨.refl _, .refl _, .refl _, trivial⟩ ⟨rfl, trivial⟩) ?_
  rintro ⟨⟨i, V⟩, hi, hV⟩
  simp only at hi hV ⊢
  refine kSeq (kSeq (kReg ?_))
  refine kMovC rfl (kMovC rfl (kLen rfl rfl rfl (kBin rfl rfl rfl (kDone ?_))))
  rw [len_encBB]
  have hl1 : (a.take i).length = i := by simp; omega
  refine kCond rfl (fun h1 => ?_) (fun h1 => ?_)
  · have hlt : i < a.length := by simp at h1; omega
    refine kSkip (kSeq (kBlock (kReg ?_)))
    refine kMovC rfl (kMovC rfl (kMovC rfl (kMovC rfl (kIadD rfl rfl rfl rfl ?_ ?_))))
    · rw [len_encBB]; omega
    rw [show (encBB a).row (i : Int).toNat = [encB a[i]] from row_encBB a i hlt]
    refine kLoadD rfl rfl ?_
    refine kCall1 false (ok_laws_toByteS a[i] (hb _ (List.getElem_mem hlt))) ⟨rfl, trivial⟩ rfl rfl rfl fun os => ?_
    refine kIadA rfl rfl rfl rfl ?_ ?_
    · rw [len_encBB]; simp; omega
    refine kStoreEA rfl rfl rfl rfl rfl Nat.zero_lt_one (by simp [encBB, DV.esz]) (kDone (kBk ?_))
    rw [setRow_encBB _ _ _ (by simp; omega)]
    refine kReg (kMovC rfl (kAdd rfl rfl (by omega) (kMovC rfl (kDone (kInv ?_)))))
    refine ⟨⟨(i + 1, V + 3), hlt, by simp only; omega⟩, by simp only; omega, .canon (V := V + 2) (.set (.kill (.after (.tab ?_))) ?_) (by simp) rfl ⟨.refl _, .refl _, .refl _, trivial⟩ ⟨?_, trivial⟩⟩
    · simpa using hV
    · simp only; omega
    · show Ob.mk _ _ (OK.arr _ (encBB ((a.take i ++ (List.replicate a.length []).drop i).set i a[i]))) = _
      rw [take_set_succ _ _ _ _ (by simpa using hlt) hl1, List.take_append_getElem]
      rfl
  · refine kExit (kExC (kExI (kExB ?_)))
    have hge : i = a.length := by simp at h1; omega
    subst hge
    refine kSeq (kReg (kMovC rfl (kMovC rfl (kDone (kRet ?_)))))
    refine endRet (ra := [.one (.own true _)]) rfl ⟨⟨⟨⟨_, rfl, fun _ => rfl⟩, .inl Nat.zero_lt_one⟩, trivial⟩, nodupB_sound rfl, trivial, trivial⟩ ?_
    simp

def c_laws_toName : C := (.seq (.reg false (.op 0 [] (some 1) none false (.box 1 (.t 0))
  (.op 1 [] (some 2) none false (.alloc 2 [(.n 1)])
  .done)))
 (.seq (.reg false (.op 0 [] (some 3) none false (.alloc 3 [(.n 1)])
  .done))
 (.seq (.reg false (.op 0 [] (some 4) none false (.fad (.t 1) 0)
  (.op 1 [] (some 5) none false (.load none (.t 4))
  (.op 2 [] (some 6) none false (.call 6 83 [(.t 5)])
  (.op 3 [] (some 7) none false (.fad (.t 3) 0)
  (.op 4 [] none none false (.store none (.t 7) (.t 6))
  .done))))))
 (.seq (.reg false (.op 0 [] (some 8) none false (.load (some 1) (.t 3))
  (.op 1 [] none none false (.store (some 1) (.t 2) (.t 8))
  .done)))
 .ret))))
theorem dg_laws_toName : Tryz.f31.body.bind (digC Tryz.prog Tryz.f31.ntmps []) = some c_laws_toName := by kernel_rfl
theorem rs_laws_toName : resSlots Tryz.prog Tryz.f31 = some [.m 2 (some 1)] := by kernel_rfl
theorem ok_laws_toName (a : List (List UInt8)) (ha : a.length ≤ 4194304) (hb : ∀ b ∈ a, b.length ≤ 4194304) :
    FnOK Tryz.prog 31 [.agg [.d (encBB a)]] (fun ra _ => ra = [.agg [.own true (encBB a)]]) := by
  refine FnOK.ofK Tryz.func31 (by kernel_rfl) dg_laws_toName rs_laws_toName rfl rfl ?_
  unfold c_laws_toName
  refine kSeq (kReg (kBox rfl rfl rfl rfl rfl (kAlloc rfl rfl (kDone ?_))))
  refine kSeq (kReg (kAlloc rfl rfl (kDone ?_)))
  refine kSeq (kReg (kFadP rfl rfl (kLoadP rfl rfl rfl ?_)))
  refine kCall1 false (ok_laws_toByteSS a ha hb) ⟨rfl, trivial⟩ rfl rfl rfl fun os => ?_
  refine kFadP rfl rfl (kStoreP rfl rfl rfl rfl (kDone ?_))
  refine kSeq (kReg (kLoadP rfl rfl rfl (kStoreP rfl rfl rfl rfl (kDone (kRet ?_)))))
  refine endRet (ra := [.agg [.own true _]]) rfl ⟨⟨⟨⟨⟨⟨_, rfl, fun _ => rfl⟩, .inl Nat.zero_lt_one⟩, trivial⟩, Nat.le_of_ble_eq_true rfl⟩, trivial⟩, nodupB_sound rfl, ⟨trivial, trivial⟩, trivial⟩ rfl

def c_laws_toQuestion : C := (.seq (.reg false (.op 0 [] (some 1) none false (.box 1 (.t 0))
  (.op 1 [] (some 2) none false (.alloc 2 [(.n 1), (.v (.int .i64 0))])
  .done)))
 (.seq (.reg false (.op 0 [] (some 3) none false (.alloc 3 [(.n 1), (.v (.int .i64 0))])
  .done))
 (.seq (.reg false (.op 0 [] (some 4) none false (.fad (.t 1) 0)
  (.op 1 [] (some 5) none false (.load (some 1) (.t 4))
  (.op 2 [] (some 6) none false (.call 6 31 [(.t 5)])
  (.op 3 [] (some 7) none false (.fad (.t 3) 0)
  (.op 4 [] none none false (.store (some 1) (.t 7) (.t 6))
  .done))))))
 (.seq (.reg false (.op 0 [] (some 8) none false (.fad (.t 1) 1)
  (.op 1 [] (some 9) none false (.load none (.t 8))
  (.op 2 [] (some 10) none false (.fad (.t 3) 1)
  (.op 3 [] none none false (.store none (.t 10) (.t 9))
  .done)))))
 (.seq (.reg false (.op 0 [] (some 11) none false (.load (some 2) (.t 3))
  (.op 1 [] none none false (.store (some 2) (.t 2) (.t 11))
  .done)))
 .ret)))))
theorem dg_laws_toQuestion : Tryz.f69.body.bind (digC Tryz.prog Tryz.f69.ntmps []) = some c_laws_toQuestion := by kernel_rfl
theorem rs_laws_toQuestion : resSlots Tryz.prog Tryz.f69 = some [.m 2 (some 2)] := by kernel_rfl
theorem ok_laws_toQuestion (a : List (List UInt8)) (t : Int) (ha : a.length ≤ 4194304) (hb : ∀ b ∈ a, b.length ≤ 4194304) :
    FnOK Tryz.prog 69 [.agg [.d (encBB a), .d (.sc (.int .i64 t))]] (fun ra _ => ra = [.agg [.own true (encBB a), .d (.sc (.int .i64 t))]]) := by
  refine FnOK.ofK Tryz.func69 (by kernel_rfl) dg_laws_toQuestion rs_laws_toQuestion rfl rfl ?_
  unfold c_laws_toQuestion
  refine kSeq (kReg (kBox rfl rfl rfl rfl rfl (kAlloc rfl rfl (kDone (kSeq (kReg (kAlloc rfl rfl (kDone (kSeq (kReg (kFadP rfl rfl (kLoadP rfl rfl rfl (kCall1 true (ok_laws_toName _ (by first | assumption | omega | solve_by_elim [List.getElem_mem] | (simp only [szOut] at *; omega)) (by first | assumption | omega | solve_by_elim [List.getElem_mem] | (simp only [szOut] at *; omega))) ⟨⟨⟨rfl, trivial⟩, Nat.le_of_ble_eq_true rfl⟩, trivial⟩ rfl rfl rfl (fun _ => (kFadP rfl rfl (kStoreP rfl rfl rfl rfl (kDone (kSeq (kReg (kFadP rfl rfl (kLoadP rfl rfl rfl (kFadP rfl rfl (kStoreP rfl rfl rfl rfl (kDone (kSeq (kReg (kLoadP rfl rfl rfl (kStoreP rfl rfl rfl rfl (kDone (kRet (endRetA (ra := [.agg [(.own true _), (.d _)]]) rfl rfl)))))))))))))))))))))))))))))))

def c_laws_toIntS : C := (.seq (.reg false (.op 0 [] (some 2) none false (.mov (.n 1))
  .done))
 (.seq (.reg false (.op 0 [] (some 5) none false (.mov (.t 0))
  (.op 1 [] (some 6) none false (.len (.t 5))
  (.op 2 [] (some 7) none false (.mk 7 1 [(.v (.int .i64 0))] 8 (.t 6))
  (.op 3 [] (some 3) none false (.mov (.t 7))
  .done)))))
 (.seq (.seq (.reg false (.op 0 [] (some 4) none false (.mov (.v (.int .i64 0)))
  .done))
 (.block 0 (.loop (.seq (.seq (.reg false (.op 0 [] (some 8) none false (.mov (.t 4))
  (.op 1 [] (some 9) none false (.mov (.t 0))
  (.op 2 [] (some 10) none false (.len (.t 9))
  (.op 3 [] (some 11) none false (.bin .lss (.t 8) (.t 10))
  .done)))))
 (.cond (.t 11)
 .skip
 (.exit 0)))
 (.seq (.block 1 (.reg false (.op 0 [] (some 14) none false (.mov (.t 3))
  (.op 1 [] (some 15) none false (.mov (.t 4))
  (.op 2 [] (some 16) none false (.mov (.t 0))
  (.op 3 [] (some 17) none false (.mov (.t 4))
  (.op 4 [] (some 18) none false (.iad 1 (.t 16) (.t 17))
  (.op 5 [] (some 19) none false (.load none (.t 18))
  (.op 6 [] (some 20) none false (.iad 1 (.t 14) (.t 15))
  (.op 7 [] none none false (.store none (.t 20) (.t 19))
  .done))))))))))
 (.reg false (.op 0 [] (some 12) none false (.mov (.t 4))
  (.op 1 [] (some 13) none false (.bin .add (.t 12) (.v (.int .i64 1)))
  (.op 2 [] (some 4) none false (.mov (.t 13))
  .done)))))))))
 (.seq (.reg false (.op 0 [] (some 21) none false (.mov (.t 3))
  (.op 1 [] (some 2) none false (.mov (.t 21))
  .done)))
 .ret))))
theorem dg_laws_toIntS : Tryz.f70.body.bind (digC Tryz.prog Tryz.f70.ntmps []) = some c_laws_toIntS := by kernel_rfl
theorem rs_laws_toIntS : resSlots Tryz.prog Tryz.f70 = some [.s 2] := by kernel_rfl
theorem ok_laws_toIntS (a : List Int) (ha : a.length ≤ 4194304) :
    FnOK Tryz.prog 70 [.one (.d (encI a))] (fun ra _ => ra = [.one (.own true (encI a))]) := by
  refine FnOK.ofK Tryz.func70 (by kernel_rfl) dg_laws_toIntS rs_laws_toIntS rfl rfl ?_
  unfold c_laws_toIntS
  refine kSeq (kReg (kMovC rfl (kDone (kSeq (kReg (kMovC rfl (kLenR rfl rfl ?_)))))))
  refine kMk rfl (by omega) rfl rfl rfl rfl rfl ?_
  rw [show DV.sl 1 (List.replicate (Int.toNat (a.length : Int)) [.sc (.int .i64 0)]) = encI (List.replicate a.length 0) by simp [encI]]
  refine kMovC rfl (kDone (kSeq (kSeq (kReg (kMovC rfl (kDone (kBlock ?_)))))))
  refine kLoop (α := { i : Nat // i ≤ a.length })
    (fun y => ⟨tabSl [(0, .dv (encI a)), (3, .c (.arr (rid 7 0) 1)), (4, .i y.1)], obTab 1 [(rid 7 0, ⟨1, 0, .arr true (encI (a.take y.1 ++ (List.replicate a.length 0).drop y.1))⟩)], []⟩) (fun y => a.length - y.1) ⟨0, by simp⟩
    .normA ?_
  rintro ⟨i, hi⟩
  simp only
  have hl1 : (a.take i).length = i := by simp; omega
  have hl2 : (a.take i ++ (List.replicate a.length 0).drop i).length = a.length := by simp; omega
  rcases Nat.lt_or_ge i a.length with hlt | hge
  · refine kSeq (kSeq (kReg (kMovC rfl (kMovC rfl (kLenR rfl rfl (kBin rfl rfl rfl (kDone (kCondP rfl (fun g0 => kSkip (kSeq (kBlock (kReg (kMovC rfl (kMovC rfl (kMovC rfl (kMovC rfl (kIadR rfl rfl rfl (by omega) (kLoadD rfl rfl (kIadAR rfl rfl rfl rfl (by omega) (kStoreER rfl rfl rfl rfl rfl rfl rfl (by omega) rfl (kDone (kBk (kReg (kMovC rfl (kAdd rfl rfl (by omega) (kMovC rfl (kDone ?_))))))))))))))))))) (fun g0 => (by omega))))))))))
    exact kInv ⟨⟨i + 1, by omega⟩, by simp only; omega, .normA⟩
  · refine kSeq (kSeq (kReg (kMovC rfl (kMovC rfl (kLenR rfl rfl (kBin rfl rfl rfl (kDone (kCondP rfl (fun g0 => (by omega)) (fun g0 => kExit (kExC (kExI (kExB (kSeq (kReg (kMovC rfl (kMovC rfl (kDone (kRet (endRetA (ra := [.one (.own true _)]) rfl ?_)))))))))))))))))))
    rw [show i = a.length by omega]
    simp

def c_laws_toRr : C := (.seq (.reg false (.op 0 [] (some 1) none false (.box 1 (.t 0))
  (.op 1 [] (some 2) none false (.alloc 2 [(.n 1), (.v (.int .i64 0)), (.v (.int .i64 0)), (.v (.int .i64 0)), (.n 1), (.n 1), (.n 1)])
  .done)))
 (.seq (.reg false (.op 0 [] (some 3) none false (.alloc 3 [(.n 1), (.v (.int .i64 0)), (.v (.int .i64 0)), (.v (.int .i64 0)), (.n 1), (.n 1), (.n 1)])
  .done))
 (.seq (.reg false (.op 0 [] (some 4) none false (.fad (.t 1) 0)
  (.op 1 [] (some 5) none false (.load (some 1) (.t 4))
  (.op 2 [] (some 6) none false (.call 6 31 [(.t 5)])
  (.op 3 [] (some 7) none false (.fad (.t 3) 0)
  (.op 4 [] none none false (.store (some 1) (.t 7) (.t 6))
  .done))))))
 (.seq (.reg false (.op 0 [] (some 8) none false (.fad (.t 1) 1)
  (.op 1 [] (some 9) none false (.load none (.t 8))
  (.op 2 [] (some 10) none false (.fad (.t 3) 1)
  (.op 3 [] none none false (.store none (.t 10) (.t 9))
  .done)))))
 (.seq (.reg false (.op 0 [] (some 11) none false (.fad (.t 1) 2)
  (.op 1 [] (some 12) none false (.load none (.t 11))
  (.op 2 [] (some 13) none false (.fad (.t 3) 2)
  (.op 3 [] none none false (.store none (.t 13) (.t 12))
  .done)))))
 (.seq (.reg false (.op 0 [] (some 14) none false (.fad (.t 1) 3)
  (.op 1 [] (some 15) none false (.load none (.t 14))
  (.op 2 [] (some 16) none false (.fad (.t 3) 3)
  (.op 3 [] none none false (.store none (.t 16) (.t 15))
  .done)))))
 (.seq (.reg false (.op 0 [] (some 17) none false (.fad (.t 1) 4)
  (.op 1 [] (some 18) none false (.load (some 1) (.t 17))
  (.op 2 [] (some 19) none false (.call 19 31 [(.t 18)])
  (.op 3 [] (some 20) none false (.fad (.t 3) 4)
  (.op 4 [] none none false (.store (some 1) (.t 20) (.t 19))
  .done))))))
 (.seq (.reg false (.op 0 [] (some 21) none false (.fad (.t 1) 5)
  (.op 1 [] (some 22) none false (.load none (.t 21))
  (.op 2 [] (some 23) none false (.call 23 91 [(.t 22)])
  (.op 3 [] (some 24) none false (.fad (.t 3) 5)
  (.op 4 [] none none false (.store none (.t 24) (.t 23))
  .done))))))
 (.seq (.reg false (.op 0 [] (some 25) none false (.fad (.t 1) 6)
  (.op 1 [] (some 26) none false (.load none (.t 25))
  (.op 2 [] (some 27) none false (.call 27 70 [(.t 26)])
  (.op 3 [] (some 28) none false (.fad (.t 3) 6)
  (.op 4 [] none none false (.store none (.t 28) (.t 27))
  .done))))))
 (.seq (.reg false (.op 0 [] (some 29) none false (.load (some 7) (.t 3))
  (.op 1 [] none none false (.store (some 7) (.t 2) (.t 29))
  .done)))
 .ret))))))))))
theorem dg_laws_toRr : Tryz.f37.body.bind (digC Tryz.prog Tryz.f37.ntmps []) = some c_laws_toRr := by kernel_rfl
theorem rs_laws_toRr : resSlots Tryz.prog Tryz.f37 = some [.m 2 (some 7)] := by kernel_rfl
theorem ok_laws_toRr (a : Rr) (hs : SmallR a) :
    FnOK Tryz.prog 37 [.agg (a.cells.map .d)] (fun ra _ => ra = [.agg [.own true (encBB a.name), .d (.sc (.int .i64 a.ty)), .d (.sc (.int .i64 a.ttl)), .d (.sc (.int .i64 a.addr)), .own true (encBB a.to), .own true (encB a.text), .own true (encI a.nums)]]) := by
  refine FnOK.ofK Tryz.func37 (by kernel_rfl) dg_laws_toRr rs_laws_toRr rfl rfl ?_
  unfold c_laws_toRr
  have n1 := hs.n.len
  have n2 := hs.n.mem
  have t1 := hs.t.len
  have t2 := hs.t.mem
  have x1 := hs.x
  have m1 := hs.m
  refine kSeq (kCut ⟨tabSl [(1, .c (.ptr (rid 1 0) 1 0)), (2, .c (.ptr (rid 2 0) 1 0))], obTab 1 [(rid 1 0, ⟨1, 0, .box (a.cells.map .d)⟩), (rid 2 0, ⟨1, 0, .box [.nil 1, .d (.sc (.int .i64 0)), .d (.sc (.int .i64 0)), .d (.sc (.int .i64 0)), .nil 1, .nil 1, .nil 1]⟩)], []⟩ ?_ (fun x hc => ?_))
  case refine_2 => refine kReg (kBox rfl rfl rfl rfl rfl (kAlloc rfl rfl (kDone (hc _ .normA))))
  refine kSeq (kCut ⟨tabSl [(1, .c (.ptr (rid 1 0) 1 0)), (2, .c (.ptr (rid 2 0) 1 0)), (3, .c (.ptr (rid 3 0) 1 0))], obTab 1 ([(rid 1 0, ⟨1, 0, .box (a.cells.map .d)⟩), (rid 2 0, ⟨1, 0, .box [.nil 1, .d (.sc (.int .i64 0)), .d (.sc (.int .i64 0)), .d (.sc (.int .i64 0)), .nil 1, .nil 1, .nil 1]⟩), (rid 3 0, ⟨1, 0, .box [.nil 1, .d (.sc (.int .i64 0)), .d (.sc (.int .i64 0)), .d (.sc (.int .i64 0)), .nil 1, .nil 1, .nil 1]⟩)]), []⟩ ?_ (fun x hc => ?_))
  case refine_2 => refine kReg (kAlloc rfl rfl (kDone (hc _ .normA)))
  refine kSeq (kCut ⟨tabSl [(1, .c (.ptr (rid 1 0) 1 0)), (2, .c (.ptr (rid 2 0) 1 0)), (3, .c (.ptr (rid 3 0) 1 0))], obTab 1 ([(rid 1 0, ⟨1, 0, .box (a.cells.map .d)⟩), (rid 2 0, ⟨1, 0, .box [.nil 1, .d (.sc (.int .i64 0)), .d (.sc (.int .i64 0)), .d (.sc (.int .i64 0)), .nil 1, .nil 1, .nil 1]⟩), (rid 3 0, ⟨1, 0, .box [.arr (rid 6 0) 1, .d (.sc (.int .i64 0)), .d (.sc (.int .i64 0)), .d (.sc (.int .i64 0)), .nil 1, .nil 1, .nil 1]⟩), (rid 6 0, ⟨1, 0, .arr true (encBB a.name)⟩)]), []⟩ ?_ (fun x hc => ?_))
  case refine_2 => refine kReg (kFadP rfl rfl (kLoadP rfl rfl rfl (kCall1 true (ok_laws_toName _ (by first | assumption | omega | solve_by_elim [List.getElem_mem] | (simp only [szOut] at *; omega)) (by first | assumption | omega | solve_by_elim [List.getElem_mem] | (simp only [szOut] at *; omega))) ⟨⟨⟨rfl, trivial⟩, Nat.le_of_ble_eq_true rfl⟩, trivial⟩ rfl rfl rfl (fun _ => (kFadP rfl rfl (kStoreP rfl rfl rfl rfl (kDone (hc _ .normA))))))))
  refine kSeq (kCut ⟨tabSl [(1, .c (.ptr (rid 1 0) 1 0)), (2, .c (.ptr (rid 2 0) 1 0)), (3, .c (.ptr (rid 3 0) 1 0))], obTab 1 ([(rid 1 0, ⟨1, 0, .box (a.cells.map .d)⟩), (rid 2 0, ⟨1, 0, .box [.nil 1, .d (.sc (.int .i64 0)), .d (.sc (.int .i64 0)), .d (.sc (.int .i64 0)), .nil 1, .nil 1, .nil 1]⟩), (rid 3 0, ⟨1, 0, .box [.arr (rid 6 0) 1, .d (.sc (.int .i64 a.ty)), .d (.sc (.int .i64 0)), .d (.sc (.int .i64 0)), .nil 1, .nil 1, .nil 1]⟩), (rid 6 0, ⟨1, 0, .arr true (encBB a.name)⟩)]), []⟩ ?_ (fun x hc => ?_))
  case refine_2 => refine kReg (kFadP rfl rfl (kLoadP rfl rfl rfl (kFadP rfl rfl (kStoreP rfl rfl rfl rfl (kDone (hc _ .normA))))))
  refine kSeq (kCut ⟨tabSl [(1, .c (.ptr (rid 1 0) 1 0)), (2, .c (.ptr (rid 2 0) 1 0)), (3, .c (.ptr (rid 3 0) 1 0))], obTab 1 ([(rid 1 0, ⟨1, 0, .box (a.cells.map .d)⟩), (rid 2 0, ⟨1, 0, .box [.nil 1, .d (.sc (.int .i64 0)), .d (.sc (.int .i64 0)), .d (.sc (.int .i64 0)), .nil 1, .nil 1, .nil 1]⟩), (rid 3 0, ⟨1, 0, .box [.arr (rid 6 0) 1, .d (.sc (.int .i64 a.ty)), .d (.sc (.int .i64 a.ttl)), .d (.sc (.int .i64 0)), .nil 1, .nil 1, .nil 1]⟩), (rid 6 0, ⟨1, 0, .arr true (encBB a.name)⟩)]), []⟩ ?_ (fun x hc => ?_))
  case refine_2 => refine kReg (kFadP rfl rfl (kLoadP rfl rfl rfl (kFadP rfl rfl (kStoreP rfl rfl rfl rfl (kDone (hc _ .normA))))))
  refine kSeq (kCut ⟨tabSl [(1, .c (.ptr (rid 1 0) 1 0)), (2, .c (.ptr (rid 2 0) 1 0)), (3, .c (.ptr (rid 3 0) 1 0))], obTab 1 ([(rid 1 0, ⟨1, 0, .box (a.cells.map .d)⟩), (rid 2 0, ⟨1, 0, .box [.nil 1, .d (.sc (.int .i64 0)), .d (.sc (.int .i64 0)), .d (.sc (.int .i64 0)), .nil 1, .nil 1, .nil 1]⟩), (rid 3 0, ⟨1, 0, .box [.arr (rid 6 0) 1, .d (.sc (.int .i64 a.ty)), .d (.sc (.int .i64 a.ttl)), .d (.sc (.int .i64 a.addr)), .nil 1, .nil 1, .nil 1]⟩), (rid 6 0, ⟨1, 0, .arr true (encBB a.name)⟩)]), []⟩ ?_ (fun x hc => ?_))
  case refine_2 => refine kReg (kFadP rfl rfl (kLoadP rfl rfl rfl (kFadP rfl rfl (kStoreP rfl rfl rfl rfl (kDone (hc _ .normA))))))
  refine kSeq (kCut ⟨tabSl [(1, .c (.ptr (rid 1 0) 1 0)), (2, .c (.ptr (rid 2 0) 1 0)), (3, .c (.ptr (rid 3 0) 1 0))], obTab 1 ([(rid 1 0, ⟨1, 0, .box (a.cells.map .d)⟩), (rid 2 0, ⟨1, 0, .box [.nil 1, .d (.sc (.int .i64 0)), .d (.sc (.int .i64 0)), .d (.sc (.int .i64 0)), .nil 1, .nil 1, .nil 1]⟩), (rid 3 0, ⟨1, 0, .box [.arr (rid 6 0) 1, .d (.sc (.int .i64 a.ty)), .d (.sc (.int .i64 a.ttl)), .d (.sc (.int .i64 a.addr)), .arr (rid 19 0) 1, .nil 1, .nil 1]⟩), (rid 6 0, ⟨1, 0, .arr true (encBB a.name)⟩), (rid 19 0, ⟨1, 0, .arr true (encBB a.to)⟩)]), []⟩ ?_ (fun x hc => ?_))
  case refine_2 => refine kReg (kFadP rfl rfl (kLoadP rfl rfl rfl (kCall1 true (ok_laws_toName _ (by first | assumption | omega | solve_by_elim [List.getElem_mem] | (simp only [szOut] at *; omega)) (by first | assumption | omega | solve_by_elim [List.getElem_mem] | (simp only [szOut] at *; omega))) ⟨⟨⟨rfl, trivial⟩, Nat.le_of_ble_eq_true rfl⟩, trivial⟩ rfl rfl rfl (fun _ => (kFadP rfl rfl (kStoreP rfl rfl rfl rfl (kDone (hc _ .normA))))))))
  refine kSeq (kCut ⟨tabSl [(1, .c (.ptr (rid 1 0) 1 0)), (2, .c (.ptr (rid 2 0) 1 0)), (3, .c (.ptr (rid 3 0) 1 0))], obTab 1 ([(rid 1 0, ⟨1, 0, .box (a.cells.map .d)⟩), (rid 2 0, ⟨1, 0, .box [.nil 1, .d (.sc (.int .i64 0)), .d (.sc (.int .i64 0)), .d (.sc (.int .i64 0)), .nil 1, .nil 1, .nil 1]⟩), (rid 3 0, ⟨1, 0, .box [.arr (rid 6 0) 1, .d (.sc (.int .i64 a.ty)), .d (.sc (.int .i64 a.ttl)), .d (.sc (.int .i64 a.addr)), .arr (rid 19 0) 1, .arr (rid 23 0) 1, .nil 1]⟩), (rid 6 0, ⟨1, 0, .arr true (encBB a.name)⟩), (rid 19 0, ⟨1, 0, .arr true (encBB a.to)⟩), (rid 23 0, ⟨1, 0, .arr true (encB a.text)⟩)]), []⟩ ?_ (fun x hc => ?_))
  case refine_2 => refine kReg (kFadP rfl rfl (kLoadP rfl rfl rfl (kCall1 true (ok_laws_toByteS _ (by first | assumption | omega | solve_by_elim [List.getElem_mem] | (simp only [szOut] at *; omega))) ⟨rfl, trivial⟩ rfl rfl rfl (fun _ => (kFadP rfl rfl (kStoreP rfl rfl rfl rfl (kDone (hc _ .normA))))))))
  refine kSeq (kCut ⟨tabSl [(1, .c (.ptr (rid 1 0) 1 0)), (2, .c (.ptr (rid 2 0) 1 0)), (3, .c (.ptr (rid 3 0) 1 0))], obTab 1 ([(rid 1 0, ⟨1, 0, .box (a.cells.map .d)⟩), (rid 2 0, ⟨1, 0, .box [.nil 1, .d (.sc (.int .i64 0)), .d (.sc (.int .i64 0)), .d (.sc (.int .i64 0)), .nil 1, .nil 1, .nil 1]⟩), (rid 3 0, ⟨1, 0, .box [.arr (rid 6 0) 1, .d (.sc (.int .i64 a.ty)), .d (.sc (.int .i64 a.ttl)), .d (.sc (.int .i64 a.addr)), .arr (rid 19 0) 1, .arr (rid 23 0) 1, .arr (rid 27 0) 1]⟩), (rid 6 0, ⟨1, 0, .arr true (encBB a.name)⟩), (rid 19 0, ⟨1, 0, .arr true (encBB a.to)⟩), (rid 23 0, ⟨1, 0, .arr true (encB a.text)⟩), (rid 27 0, ⟨1, 0, .arr true (encI a.nums)⟩)]), []⟩ ?_ (fun x hc => ?_))
  case refine_2 => refine kReg (kFadP rfl rfl (kLoadP rfl rfl rfl (kCall1 true (ok_laws_toIntS _ (by first | assumption | omega | solve_by_elim [List.getElem_mem] | (simp only [szOut] at *; omega))) ⟨rfl, trivial⟩ rfl rfl rfl (fun _ => (kFadP rfl rfl (kStoreP rfl rfl rfl rfl (kDone (hc _ .normA))))))))
  refine kSeq (kReg (kLoadP rfl rfl rfl (kStoreP rfl rfl rfl rfl (kDone (kRet (endRetA (ra := [.agg [(.own true _), (.d _), (.d _), (.d _), (.own true _), (.own true _), (.own true _)]]) rfl rfl))))))

def c_laws_toRrS : C := (.seq (.reg false (.op 0 [] (some 2) none false (.mov (.n 7))
  .done))
 (.seq (.reg false (.op 0 [] (some 5) none false (.mov (.t 0))
  (.op 1 [] (some 6) none false (.len (.t 5))
  (.op 2 [] (some 7) none false (.mk 7 7 [(.n 1), (.v (.int .i64 0)), (.v (.int .i64 0)), (.v (.int .i64 0)), (.n 1), (.n 1), (.n 1)] 120 (.t 6))
  (.op 3 [] (some 3) none false (.mov (.t 7))
  .done)))))
 (.seq (.seq (.reg false (.op 0 [] (some 4) none false (.mov (.v (.int .i64 0)))
  .done))
 (.block 0 (.loop (.seq (.seq (.reg false (.op 0 [] (some 8) none false (.mov (.t 4))
  (.op 1 [] (some 9) none false (.mov (.t 0))
  (.op 2 [] (some 10) none false (.len (.t 9))
  (.op 3 [] (some 11) none false (.bin .lss (.t 8) (.t 10))
  .done)))))
 (.cond (.t 11)
 .skip
 (.exit 0)))
 (.seq (.block 1 (.reg false (.op 0 [] (some 14) none false (.mov (.t 3))
  (.op 1 [] (some 15) none false (.mov (.t 4))
  (.op 2 [] (some 16) none false (.mov (.t 0))
  (.op 3 [] (some 17) none false (.mov (.t 4))
  (.op 4 [] (some 18) none false (.iad 7 (.t 16) (.t 17))
  (.op 5 [] (some 19) none false (.load (some 7) (.t 18))
  (.op 6 [] (some 20) none false (.call 20 37 [(.t 19)])
  (.op 7 [] (some 21) none false (.iad 7 (.t 14) (.t 15))
  (.op 8 [] none none false (.store (some 7) (.t 21) (.t 20))
  .done)))))))))))
 (.reg false (.op 0 [] (some 12) none false (.mov (.t 4))
  (.op 1 [] (some 13) none false (.bin .add (.t 12) (.v (.int .i64 1)))
  (.op 2 [] (some 4) none false (.mov (.t 13))
  .done)))))))))
 (.seq (.reg false (.op 0 [] (some 22) none false (.mov (.t 3))
  (.op 1 [] (some 2) none false (.mov (.t 22))
  .done)))
 .ret))))
theorem dg_laws_toRrS : Tryz.f52.body.bind (digC Tryz.prog Tryz.f52.ntmps []) = some c_laws_toRrS := by kernel_rfl
theorem rs_laws_toRrS : resSlots Tryz.prog Tryz.f52 = some [.s 2] := by kernel_rfl
theorem ok_laws_toRrS (a : List Rr) (hs : SmallRs a) :
    FnOK Tryz.prog 52 [.one (.d (encR a))] (fun ra _ => ra = [.one (.own true (encR a))]) := by
  refine FnOK.ofK Tryz.func52 (by kernel_rfl) dg_laws_toRrS rs_laws_toRrS rfl rfl ?_
  unfold c_laws_toRrS
  have ha := hs.len
  refine kSeq (kReg (kMovC rfl (kDone (kSeq (kReg (kMovC rfl (kLenR rfl rfl ?_)))))))
  refine kMk rfl (by omega) rfl rfl rfl rfl rfl ?_
  rw [show DV.sl 7 (List.replicate (Int.toNat (a.length : Int)) [.sl 1 [], .sc (.int .i64 0), .sc (.int .i64 0), .sc (.int .i64 0), .sl 1 [], .sl 1 [], .sl 1 []]) = encR (List.replicate a.length ⟨[], 0, 0, 0, [], [], []⟩) by simp [encR, Rr.cells, encBB, encB, encI]]
  refine kMovC rfl (kDone (kSeq (kSeq (kReg (kMovC rfl (kDone (kBlock ?_)))))))
  refine kLoop (α := { i : Nat // i ≤ a.length })
    (fun y => ⟨tabSl [(0, .dv (encR a)), (3, .c (.arr (rid 7 0) 1)), (4, .i y.1)], obTab 1 [(rid 7 0, ⟨1, 0, .arr true (encR (a.take y.1 ++ (List.replicate a.length ⟨[], 0, 0, 0, [], [], []⟩).drop y.1))⟩)], []⟩) (fun y => a.length - y.1) ⟨0, by simp⟩
    .normA ?_
  rintro ⟨i, hi⟩
  simp only
  have hl1 : (a.take i).length = i := by simp; omega
  have hl2 : (a.take i ++ (List.replicate a.length (⟨[], 0, 0, 0, [], [], []⟩ : Rr)).drop i).length = a.length := by simp; omega
  rcases Nat.lt_or_ge i a.length with hlt | hge
  · have hbi := hs.mem _ (List.getElem_mem hlt)
    refine kSeq (kSeq (kReg (kMovC rfl (kMovC rfl (kLenR rfl rfl (kBin rfl rfl rfl (kDone (kCondP rfl (fun g0 => kSkip (kSeq (kBlock (kReg (kMovC rfl (kMovC rfl (kMovC rfl (kMovC rfl (kIadR rfl rfl rfl (by omega) (kLoadD rfl rfl (kCall1 true (ok_laws_toRr _ (by first | assumption | omega | solve_by_elim [List.getElem_mem] | (simp only [szOut] at *; omega))) ⟨⟨⟨rfl, rfl, rfl, rfl, rfl, rfl, rfl, trivial⟩, Nat.le_of_ble_eq_true rfl⟩, trivial⟩ rfl rfl rfl (fun _ => (kIadAR rfl rfl rfl rfl (by omega) (kStoreER rfl rfl rfl rfl rfl rfl rfl (by omega) rfl (kDone (kBk (kReg (kMovC rfl (kAdd rfl rfl (by omega) (kMovC rfl (kDone ?_))))))))))))))))))))) (fun g0 => (by omega))))))))))
    exact kInv ⟨⟨i + 1, by omega⟩, by simp only; omega, .normA⟩
  · refine kSeq (kSeq (kReg (kMovC rfl (kMovC rfl (kLenR rfl rfl (kBin rfl rfl rfl (kDone (kCondP rfl (fun g0 => (by omega)) (fun g0 => kExit (kExC (kExI (kExB (kSeq (kReg (kMovC rfl (kMovC rfl (kDone (kRet (endRetA (ra := [.one (.own true _)]) rfl ?_)))))))))))))))))))
    rw [show i = a.length by omega]
    simp

def c_laws_toTask : C := (.seq (.reg false (.op 0 [] (some 1) none false (.box 1 (.t 0))
  (.op 1 [] (some 2) none false (.alloc 2 [(.v (.int .i64 0)), (.v (.int .i64 0)), (.n 1), (.v (.int .i64 0)), (.n 1), (.n 1), (.n 1), (.n 1), (.v (.int .i64 0)), (.v (.int .i64 0)), (.v (.int .i64 0)), (.v (.int .i64 0)), (.n 7)])
  .done)))
 (.seq (.reg false (.op 0 [] (some 3) none false (.alloc 3 [(.v (.int .i64 0)), (.v (.int .i64 0)), (.n 1), (.v (.int .i64 0)), (.n 1), (.n 1), (.n 1), (.n 1), (.v (.int .i64 0)), (.v (.int .i64 0)), (.v (.int .i64 0)), (.v (.int .i64 0)), (.n 7)])
  .done))
 (.seq (.reg false (.op 0 [] (some 4) none false (.fad (.t 1) 0)
  (.op 1 [] (some 5) none false (.load none (.t 4))
  (.op 2 [] (some 6) none false (.fad (.t 3) 0)
  (.op 3 [] none none false (.store none (.t 6) (.t 5))
  .done)))))
 (.seq (.reg false (.op 0 [] (some 7) none false (.fad (.t 1) 1)
  (.op 1 [] (some 8) none false (.load none (.t 7))
  (.op 2 [] (some 9) none false (.fad (.t 3) 1)
  (.op 3 [] none none false (.store none (.t 9) (.t 8))
  .done)))))
 (.seq (.reg false (.op 0 [] (some 10) none false (.fad (.t 1) 2)
  (.op 1 [] (some 11) none false (.load (some 2) (.t 10))
  (.op 2 [] (some 12) none false (.call 12 69 [(.t 11)])
  (.op 3 [] (some 13) none false (.fad (.t 3) 2)
  (.op 4 [] none none false (.store (some 2) (.t 13) (.t 12))
  .done))))))
 (.seq (.reg false (.op 0 [] (some 14) none false (.fad (.t 1) 4)
  (.op 1 [] (some 15) none false (.load (some 1) (.t 14))
  (.op 2 [] (some 16) none false (.call 16 31 [(.t 15)])
  (.op 3 [] (some 17) none false (.fad (.t 3) 4)
  (.op 4 [] none none false (.store (some 1) (.t 17) (.t 16))
  .done))))))
 (.seq (.reg false (.op 0 [] (some 18) none false (.fad (.t 1) 5)
  (.op 1 [] (some 19) none false (.load (some 1) (.t 18))
  (.op 2 [] (some 20) none false (.call 20 31 [(.t 19)])
  (.op 3 [] (some 21) none false (.fad (.t 3) 5)
  (.op 4 [] none none false (.store (some 1) (.t 21) (.t 20))
  .done))))))
 (.seq (.reg false (.op 0 [] (some 22) none false (.fad (.t 1) 6)
  (.op 1 [] (some 23) none false (.load none (.t 22))
  (.op 2 [] (some 24) none false (.call 24 70 [(.t 23)])
  (.op 3 [] (some 25) none false (.fad (.t 3) 6)
  (.op 4 [] none none false (.store none (.t 25) (.t 24))
  .done))))))
 (.seq (.reg false (.op 0 [] (some 26) none false (.fad (.t 1) 7)
  (.op 1 [] (some 27) none false (.load none (.t 26))
  (.op 2 [] (some 28) none false (.call 28 70 [(.t 27)])
  (.op 3 [] (some 29) none false (.fad (.t 3) 7)
  (.op 4 [] none none false (.store none (.t 29) (.t 28))
  .done))))))
 (.seq (.reg false (.op 0 [] (some 30) none false (.fad (.t 1) 8)
  (.op 1 [] (some 31) none false (.load none (.t 30))
  (.op 2 [] (some 32) none false (.fad (.t 3) 8)
  (.op 3 [] none none false (.store none (.t 32) (.t 31))
  .done)))))
 (.seq (.reg false (.op 0 [] (some 33) none false (.fad (.t 1) 9)
  (.op 1 [] (some 34) none false (.load none (.t 33))
  (.op 2 [] (some 35) none false (.fad (.t 3) 9)
  (.op 3 [] none none false (.store none (.t 35) (.t 34))
  .done)))))
 (.seq (.reg false (.op 0 [] (some 36) none false (.fad (.t 1) 10)
  (.op 1 [] (some 37) none false (.load none (.t 36))
  (.op 2 [] (some 38) none false (.fad (.t 3) 10)
  (.op 3 [] none none false (.store none (.t 38) (.t 37))
  .done)))))
 (.seq (.reg false (.op 0 [] (some 39) none false (.fad (.t 1) 11)
  (.op 1 [] (some 40) none false (.load none (.t 39))
  (.op 2 [] (some 41) none false (.fad (.t 3) 11)
  (.op 3 [] none none false (.store none (.t 41) (.t 40))
  .done)))))
 (.seq (.reg false (.op 0 [] (some 42) none false (.fad (.t 1) 12)
  (.op 1 [] (some 43) none false (.load none (.t 42))
  (.op 2 [] (some 44) none false (.call 44 52 [(.t 43)])
  (.op 3 [] (some 45) none false (.fad (.t 3) 12)
  (.op 4 [] none none false (.store none (.t 45) (.t 44))
  .done))))))
 (.seq (.reg false (.op 0 [] (some 46) none false (.load (some 13) (.t 3))
  (.op 1 [] none none false (.store (some 13) (.t 2) (.t 46))
  .done)))
 .ret)))))))))))))))
theorem dg_laws_toTask : Tryz.f24.body.bind (digC Tryz.prog Tryz.f24.ntmps []) = some c_laws_toTask := by kernel_rfl
theorem rs_laws_toTask : resSlots Tryz.prog Tryz.f24 = some [.m 2 (some 13)] := by kernel_rfl
theorem ok_laws_toTask (a : Task) (hs : SmallT a) :
    FnOK Tryz.prog 24 [.agg (a.cells.map .d)] (fun ra _ => ra = [.agg [.d (.sc (.int .i64 a.state)), .d (.sc (.int .i64 a.id)), .own true (encBB a.fname), .d (.sc (.int .i64 a.ftype)), .own true (encBB a.name), .own true (encBB a.zone), .own true (encI a.hints), .own true (encI a.servers), .d (.sc (.int .i64 a.turn)), .d (.sc (.int .i64 a.sends)), .d (.sc (.int .i64 a.steps)), .d (.sc (.int .i64 a.code)), .own true (encR a.answers)]]) := by
  refine FnOK.ofK Tryz.func24 (by kernel_rfl) dg_laws_toTask rs_laws_toTask rfl rfl ?_
  unfold c_laws_toTask
  have n1 := hs.n.len
  have n2 := hs.n.mem
  have f1 := hs.f.len
  have f2 := hs.f.mem
  have z1 := hs.z.len
  have z2 := hs.z.mem
  have h1 := hs.h
  have s1 := hs.s
  have a1 := hs.a
  refine kSeq (kCut ⟨tabSl [(1, .c (.ptr (rid 1 0) 1 0)), (2, .c (.ptr (rid 2 0) 1 0))], obTab 1 [(rid 1 0, ⟨1, 0, .box (a.cells.map .d)⟩), (rid 2 0, ⟨1, 0, .box [.d (.sc (.int .i64 0)), .d (.sc (.int .i64 0)), .nil 1, .d (.sc (.int .i64 0)), .nil 1, .nil 1, .nil 1, .nil 1, .d (.sc (.int .i64 0)), .d (.sc (.int .i64 0)), .d (.sc (.int .i64 0)), .d (.sc (.int .i64 0)), .nil 7]⟩)], []⟩ ?_ (fun x hc => ?_))
  case refine_2 => refine kReg (kBox rfl rfl rfl rfl rfl (kAlloc rfl rfl (kDone (hc _ .normA))))
  refine kSeq (kCut ⟨tabSl [(1, .c (.ptr (rid 1 0) 1 0)), (2, .c (.ptr (rid 2 0) 1 0)), (3, .c (.ptr (rid 3 0) 1 0))], obTab 1 ([(rid 1 0, ⟨1, 0, .box (a.cells.map .d)⟩), (rid 2 0, ⟨1, 0, .box [.d (.sc (.int .i64 0)), .d (.sc (.int .i64 0)), .nil 1, .d (.sc (.int .i64 0)), .nil 1, .nil 1, .nil 1, .nil 1, .d (.sc (.int .i64 0)), .d (.sc (.int .i64 0)), .d (.sc (.int .i64 0)), .d (.sc (.int .i64 0)), .nil 7]⟩), (rid 3 0, ⟨1, 0, .box [.d (.sc (.int .i64 0)), .d (.sc (.int .i64 0)), .nil 1, .d (.sc (.int .i64 0)), .nil 1, .nil 1, .nil 1, .nil 1, .d (.sc (.int .i64 0)), .d (.sc (.int .i64 0)), .d (.sc (.int .i64 0)), .d (.sc (.int .i64 0)), .nil 7]⟩)]), []⟩ ?_ (fun x hc => ?_))
  case refine_2 => refine kReg (kAlloc rfl rfl (kDone (hc _ .normA)))
  refine kSeq (kCut ⟨tabSl [(1, .c (.ptr (rid 1 0) 1 0)), (2, .c (.ptr (rid 2 0) 1 0)), (3, .c (.ptr (rid 3 0) 1 0))], obTab 1 ([(rid 1 0, ⟨1, 0, .box (a.cells.map .d)⟩), (rid 2 0, ⟨1, 0, .box [.d (.sc (.int .i64 0)), .d (.sc (.int .i64 0)), .nil 1, .d (.sc (.int .i64 0)), .nil 1, .nil 1, .nil 1, .nil 1, .d (.sc (.int .i64 0)), .d (.sc (.int .i64 0)), .d (.sc (.int .i64 0)), .d (.sc (.int .i64 0)), .nil 7]⟩), (rid 3 0, ⟨1, 0, .box [.d (.sc (.int .i64 a.state)), .d (.sc (.int .i64 0)), .nil 1, .d (.sc (.int .i64 0)), .nil 1, .nil 1, .nil 1, .nil 1, .d (.sc (.int .i64 0)), .d (.sc (.int .i64 0)), .d (.sc (.int .i64 0)), .d (.sc (.int .i64 0)), .nil 7]⟩)]), []⟩ ?_ (fun x hc => ?_))
  case refine_2 => refine kReg (kFadP rfl rfl (kLoadP rfl rfl rfl (kFadP rfl rfl (kStoreP rfl rfl rfl rfl (kDone (hc _ .normA))))))
  refine kSeq (kCut ⟨tabSl [(1, .c (.ptr (rid 1 0) 1 0)), (2, .c (.ptr (rid 2 0) 1 0)), (3, .c (.ptr (rid 3 0) 1 0))], obTab 1 ([(rid 1 0, ⟨1, 0, .box (a.cells.map .d)⟩), (rid 2 0, ⟨1, 0, .box [.d (.sc (.int .i64 0)), .d (.sc (.int .i64 0)), .nil 1, .d (.sc (.int .i64 0)), .nil 1, .nil 1, .nil 1, .nil 1, .d (.sc (.int .i64 0)), .d (.sc (.int .i64 0)), .d (.sc (.int .i64 0)), .d (.sc (.int .i64 0)), .nil 7]⟩), (rid 3 0, ⟨1, 0, .box [.d (.sc (.int .i64 a.state)), .d (.sc (.int .i64 a.id)), .nil 1, .d (.sc (.int .i64 0)), .nil 1, .nil 1, .nil 1, .nil 1, .d (.sc (.int .i64 0)), .d (.sc (.int .i64 0)), .d (.sc (.int .i64 0)), .d (.sc (.int .i64 0)), .nil 7]⟩)]), []⟩ ?_ (fun x hc => ?_))
  case refine_2 => refine kReg (kFadP rfl rfl (kLoadP rfl rfl rfl (kFadP rfl rfl (kStoreP rfl rfl rfl rfl (kDone (hc _ .normA))))))
  refine kSeq (kCut ⟨tabSl [(1, .c (.ptr (rid 1 0) 1 0)), (2, .c (.ptr (rid 2 0) 1 0)), (3, .c (.ptr (rid 3 0) 1 0))], obTab 1 ([(rid 1 0, ⟨1, 0, .box (a.cells.map .d)⟩), (rid 2 0, ⟨1, 0, .box [.d (.sc (.int .i64 0)), .d (.sc (.int .i64 0)), .nil 1, .d (.sc (.int .i64 0)), .nil 1, .nil 1, .nil 1, .nil 1, .d (.sc (.int .i64 0)), .d (.sc (.int .i64 0)), .d (.sc (.int .i64 0)), .d (.sc (.int .i64 0)), .nil 7]⟩), (rid 3 0, ⟨1, 0, .box [.d (.sc (.int .i64 a.state)), .d (.sc (.int .i64 a.id)), .arr (rid 12 0) 1, .d (.sc (.int .i64 a.ftype)), .nil 1, .nil 1, .nil 1, .nil 1, .d (.sc (.int .i64 0)), .d (.sc (.int .i64 0)), .d (.sc (.int .i64 0)), .d (.sc (.int .i64 0)), .nil 7]⟩), (rid 12 0, ⟨1, 0, .arr true (encBB a.fname)⟩)]), []⟩ ?_ (fun x hc => ?_))
  case refine_2 => refine kReg (kFadP rfl rfl (kLoadP rfl rfl rfl (kCall1 true (ok_laws_toQuestion _ _ (by first | assumption | omega | solve_by_elim [List.getElem_mem] | (simp only [szOut] at *; omega)) (by first | assumption | omega | solve_by_elim [List.getElem_mem] | (simp only [szOut] at *; omega))) ⟨⟨⟨rfl, rfl, trivial⟩, Nat.le_of_ble_eq_true rfl⟩, trivial⟩ rfl rfl rfl (fun _ => (kFadP rfl rfl (kStoreP rfl rfl rfl rfl (kDone (hc _ .normA))))))))
  refine kSeq (kCut ⟨tabSl [(1, .c (.ptr (rid 1 0) 1 0)), (2, .c (.ptr (rid 2 0) 1 0)), (3, .c (.ptr (rid 3 0) 1 0))], obTab 1 ([(rid 1 0, ⟨1, 0, .box (a.cells.map .d)⟩), (rid 2 0, ⟨1, 0, .box [.d (.sc (.int .i64 0)), .d (.sc (.int .i64 0)), .nil 1, .d (.sc (.int .i64 0)), .nil 1, .nil 1, .nil 1, .nil 1, .d (.sc (.int .i64 0)), .d (.sc (.int .i64 0)), .d (.sc (.int .i64 0)), .d (.sc (.int .i64 0)), .nil 7]⟩), (rid 3 0, ⟨1, 0, .box [.d (.sc (.int .i64 a.state)), .d (.sc (.int .i64 a.id)), .arr (rid 12 0) 1, .d (.sc (.int .i64 a.ftype)), .arr (rid 16 0) 1, .nil 1, .nil 1, .nil 1, .d (.sc (.int .i64 0)), .d (.sc (.int .i64 0)), .d (.sc (.int .i64 0)), .d (.sc (.int .i64 0)), .nil 7]⟩), (rid 12 0, ⟨1, 0, .arr true (encBB a.fname)⟩), (rid 16 0, ⟨1, 0, .arr true (encBB a.name)⟩)]), []⟩ ?_ (fun x hc => ?_))
  case refine_2 => refine kReg (kFadP rfl rfl (kLoadP rfl rfl rfl (kCall1 true (ok_laws_toName _ (by first | assumption | omega | solve_by_elim [List.getElem_mem] | (simp only [szOut] at *; omega)) (by first | assumption | omega | solve_by_elim [List.getElem_mem] | (simp only [szOut] at *; omega))) ⟨⟨⟨rfl, trivial⟩, Nat.le_of_ble_eq_true rfl⟩, trivial⟩ rfl rfl rfl (fun _ => (kFadP rfl rfl (kStoreP rfl rfl rfl rfl (kDone (hc _ .normA))))))))
  refine kSeq (kCut ⟨tabSl [(1, .c (.ptr (rid 1 0) 1 0)), (2, .c (.ptr (rid 2 0) 1 0)), (3, .c (.ptr (rid 3 0) 1 0))], obTab 1 ([(rid 1 0, ⟨1, 0, .box (a.cells.map .d)⟩), (rid 2 0, ⟨1, 0, .box [.d (.sc (.int .i64 0)), .d (.sc (.int .i64 0)), .nil 1, .d (.sc (.int .i64 0)), .nil 1, .nil 1, .nil 1, .nil 1, .d (.sc (.int .i64 0)), .d (.sc (.int .i64 0)), .d (.sc (.int .i64 0)), .d (.sc (.int .i64 0)), .nil 7]⟩), (rid 3 0, ⟨1, 0, .box [.d (.sc (.int .i64 a.state)), .d (.sc (.int .i64 a.id)), .arr (rid 12 0) 1, .d (.sc (.int .i64 a.ftype)), .arr (rid 16 0) 1, .arr (rid 20 0) 1, .nil 1, .nil 1, .d (.sc (.int .i64 0)), .d (.sc (.int .i64 0)), .d (.sc (.int .i64 0)), .d (.sc (.int .i64 0)), .nil 7]⟩), (rid 12 0, ⟨1, 0, .arr true (encBB a.fname)⟩), (rid 16 0, ⟨1, 0, .arr true (encBB a.name)⟩), (rid 20 0, ⟨1, 0, .arr true (encBB a.zone)⟩)]), []⟩ ?_ (fun x hc => ?_))
  case refine_2 => refine kReg (kFadP rfl rfl (kLoadP rfl rfl rfl (kCall1 true (ok_laws_toName _ (by first | assumption | omega | solve_by_elim [List.getElem_mem] | (simp only [szOut] at *; omega)) (by first | assumption | omega | solve_by_elim [List.getElem_mem] | (simp only [szOut] at *; omega))) ⟨⟨⟨rfl, trivial⟩, Nat.le_of_ble_eq_true rfl⟩, trivial⟩ rfl rfl rfl (fun _ => (kFadP rfl rfl (kStoreP rfl rfl rfl rfl (kDone (hc _ .normA))))))))
  refine kSeq (kCut ⟨tabSl [(1, .c (.ptr (rid 1 0) 1 0)), (2, .c (.ptr (rid 2 0) 1 0)), (3, .c (.ptr (rid 3 0) 1 0))], obTab 1 ([(rid 1 0, ⟨1, 0, .box (a.cells.map .d)⟩), (rid 2 0, ⟨1, 0, .box [.d (.sc (.int .i64 0)), .d (.sc (.int .i64 0)), .nil 1, .d (.sc (.int .i64 0)), .nil 1, .nil 1, .nil 1, .nil 1, .d (.sc (.int .i64 0)), .d (.sc (.int .i64 0)), .d (.sc (.int .i64 0)), .d (.sc (.int .i64 0)), .nil 7]⟩), (rid 3 0, ⟨1, 0, .box [.d (.sc (.int .i64 a.state)), .d (.sc (.int .i64 a.id)), .arr (rid 12 0) 1, .d (.sc (.int .i64 a.ftype)), .arr (rid 16 0) 1, .arr (rid 20 0) 1, .arr (rid 24 0) 1, .nil 1, .d (.sc (.int .i64 0)), .d (.sc (.int .i64 0)), .d (.sc (.int .i64 0)), .d (.sc (.int .i64 0)), .nil 7]⟩), (rid 12 0, ⟨1, 0, .arr true (encBB a.fname)⟩), (rid 16 0, ⟨1, 0, .arr true (encBB a.name)⟩), (rid 20 0, ⟨1, 0, .arr true (encBB a.zone)⟩), (rid 24 0, ⟨1, 0, .arr true (encI a.hints)⟩)]), []⟩ ?_ (fun x hc => ?_))
  case refine_2 => refine kReg (kFadP rfl rfl (kLoadP rfl rfl rfl (kCall1 true (ok_laws_toIntS _ (by first | assumption | omega | solve_by_elim [List.getElem_mem] | (simp only [szOut] at *; omega))) ⟨rfl, trivial⟩ rfl rfl rfl (fun _ => (kFadP rfl rfl (kStoreP rfl rfl rfl rfl (kDone (hc _ .normA))))))))
  refine kSeq (kCut ⟨tabSl [(1, .c (.ptr (rid 1 0) 1 0)), (2, .c (.ptr (rid 2 0) 1 0)), (3, .c (.ptr (rid 3 0) 1 0))], obTab 1 ([(rid 1 0, ⟨1, 0, .box (a.cells.map .d)⟩), (rid 2 0, ⟨1, 0, .box [.d (.sc (.int .i64 0)), .d (.sc (.int .i64 0)), .nil 1, .d (.sc (.int .i64 0)), .nil 1, .nil 1, .nil 1, .nil 1, .d (.sc (.int .i64 0)), .d (.sc (.int .i64 0)), .d (.sc (.int .i64 0)), .d (.sc (.int .i64 0)), .nil 7]⟩), (rid 3 0, ⟨1, 0, .box [.d (.sc (.int .i64 a.state)), .d (.sc (.int .i64 a.id)), .arr (rid 12 0) 1, .d (.sc (.int .i64 a.ftype)), .arr (rid 16 0) 1, .arr (rid 20 0) 1, .arr (rid 24 0) 1, .arr (rid 28 0) 1, .d (.sc (.int .i64 0)), .d (.sc (.int .i64 0)), .d (.sc (.int .i64 0)), .d (.sc (.int .i64 0)), .nil 7]⟩), (rid 12 0, ⟨1, 0, .arr true (encBB a.fname)⟩), (rid 16 0, ⟨1, 0, .arr true (encBB a.name)⟩), (rid 20 0, ⟨1, 0, .arr true (encBB a.zone)⟩), (rid 24 0, ⟨1, 0, .arr true (encI a.hints)⟩), (rid 28 0, ⟨1, 0, .arr true (encI a.servers)⟩)]), []⟩ ?_ (fun x hc => ?_))
  case refine_2 => refine kReg (kFadP rfl rfl (kLoadP rfl rfl rfl (kCall1 true (ok_laws_toIntS _ (by first | assumption | omega | solve_by_elim [List.getElem_mem] | (simp only [szOut] at *; omega))) ⟨rfl, trivial⟩ rfl rfl rfl (fun _ => (kFadP rfl rfl (kStoreP rfl rfl rfl rfl (kDone (hc _ .normA))))))))
  refine kSeq (kCut ⟨tabSl [(1, .c (.ptr (rid 1 0) 1 0)), (2, .c (.ptr (rid 2 0) 1 0)), (3, .c (.ptr (rid 3 0) 1 0))], obTab 1 ([(rid 1 0, ⟨1, 0, .box (a.cells.map .d)⟩), (rid 2 0, ⟨1, 0, .box [.d (.sc (.int .i64 0)), .d (.sc (.int .i64 0)), .nil 1, .d (.sc (.int .i64 0)), .nil 1, .nil 1, .nil 1, .nil 1, .d (.sc (.int .i64 0)), .d (.sc (.int .i64 0)), .d (.sc (.int .i64 0)), .d (.sc (.int .i64 0)), .nil 7]⟩), (rid 3 0, ⟨1, 0, .box [.d (.sc (.int .i64 a.state)), .d (.sc (.int .i64 a.id)), .arr (rid 12 0) 1, .d (.sc (.int .i64 a.ftype)), .arr (rid 16 0) 1, .arr (rid 20 0) 1, .arr (rid 24 0) 1, .arr (rid 28 0) 1, .d (.sc (.int .i64 a.turn)), .d (.sc (.int .i64 0)), .d (.sc (.int .i64 0)), .d (.sc (.int .i64 0)), .nil 7]⟩), (rid 12 0, ⟨1, 0, .arr true (encBB a.fname)⟩), (rid 16 0, ⟨1, 0, .arr true (encBB a.name)⟩), (rid 20 0, ⟨1, 0, .arr true (encBB a.zone)⟩), (rid 24 0, ⟨1, 0, .arr true (encI a.hints)⟩), (rid 28 0, ⟨1, 0, .arr true (encI a.servers)⟩)]), []⟩ ?_ (fun x hc => ?_))
  case refine_2 => refine kReg (kFadP rfl rfl (kLoadP rfl rfl rfl (kFadP rfl rfl (kStoreP rfl rfl rfl rfl (kDone (hc _ .normA))))))
  refine kSeq (kCut ⟨tabSl [(1, .c (.ptr (rid 1 0) 1 0)), (2, .c (.ptr (rid 2 0) 1 0)), (3, .c (.ptr (rid 3 0) 1 0))], obTab 1 ([(rid 1 0, ⟨1, 0, .box (a.cells.map .d)⟩), (rid 2 0, ⟨1, 0, .box [.d (.sc (.int .i64 0)), .d (.sc (.int .i64 0)), .nil 1, .d (.sc (.int .i64 0)), .nil 1, .nil 1, .nil 1, .nil 1, .d (.sc (.int .i64 0)), .d (.sc (.int .i64 0)), .d (.sc (.int .i64 0)), .d (.sc (.int .i64 0)), .nil 7]⟩), (rid 3 0, ⟨1, 0, .box [.d (.sc (.int .i64 a.state)), .d (.sc (.int .i64 a.id)), .arr (rid 12 0) 1, .d (.sc (.int .i64 a.ftype)), .arr (rid 16 0) 1, .arr (rid 20 0) 1, .arr (rid 24 0) 1, .arr (rid 28 0) 1, .d (.sc (.int .i64 a.turn)), .d (.sc (.int .i64 a.sends)), .d (.sc (.int .i64 0)), .d (.sc (.int .i64 0)), .nil 7]⟩), (rid 12 0, ⟨1, 0, .arr true (encBB a.fname)⟩), (rid 16 0, ⟨1, 0, .arr true (encBB a.name)⟩), (rid 20 0, ⟨1, 0, .arr true (encBB a.zone)⟩), (rid 24 0, ⟨1, 0, .arr true (encI a.hints)⟩), (rid 28 0, ⟨1, 0, .arr true (encI a.servers)⟩)]), []⟩ ?_ (fun x hc => ?_))
  case refine_2 => refine kReg (kFadP rfl rfl (kLoadP rfl rfl rfl (kFadP rfl rfl (kStoreP rfl rfl rfl rfl (kDone (hc _ .normA))))))
  refine kSeq (kCut ⟨tabSl [(1, .c (.ptr (rid 1 0) 1 0)), (2, .c (.ptr (rid 2 0) 1 0)), (3, .c (.ptr (rid 3 0) 1 0))], obTab 1 ([(rid 1 0, ⟨1, 0, .box (a.cells.map .d)⟩), (rid 2 0, ⟨1, 0, .box [.d (.sc (.int .i64 0)), .d (.sc (.int .i64 0)), .nil 1, .d (.sc (.int .i64 0)), .nil 1, .nil 1, .nil 1, .nil 1, .d (.sc (.int .i64 0)), .d (.sc (.int .i64 0)), .d (.sc (.int .i64 0)), .d (.sc (.int .i64 0)), .nil 7]⟩), (rid 3 0, ⟨1, 0, .box [.d (.sc (.int .i64 a.state)), .d (.sc (.int .i64 a.id)), .arr (rid 12 0) 1, .d (.sc (.int .i64 a.ftype)), .arr (rid 16 0) 1, .arr (rid 20 0) 1, .arr (rid 24 0) 1, .arr (rid 28 0) 1, .d (.sc (.int .i64 a.turn)), .d (.sc (.int .i64 a.sends)), .d (.sc (.int .i64 a.steps)), .d (.sc (.int .i64 0)), .nil 7]⟩), (rid 12 0, ⟨1, 0, .arr true (encBB a.fname)⟩), (rid 16 0, ⟨1, 0, .arr true (encBB a.name)⟩), (rid 20 0, ⟨1, 0, .arr true (encBB a.zone)⟩), (rid 24 0, ⟨1, 0, .arr true (encI a.hints)⟩), (rid 28 0, ⟨1, 0, .arr true (encI a.servers)⟩)]), []⟩ ?_ (fun x hc => ?_))
  case refine_2 => refine kReg (kFadP rfl rfl (kLoadP rfl rfl rfl (kFadP rfl rfl (kStoreP rfl rfl rfl rfl (kDone (hc _ .normA))))))
  refine kSeq (kCut ⟨tabSl [(1, .c (.ptr (rid 1 0) 1 0)), (2, .c (.ptr (rid 2 0) 1 0)), (3, .c (.ptr (rid 3 0) 1 0))], obTab 1 ([(rid 1 0, ⟨1, 0, .box (a.cells.map .d)⟩), (rid 2 0, ⟨1, 0, .box [.d (.sc (.int .i64 0)), .d (.sc (.int .i64 0)), .nil 1, .d (.sc (.int .i64 0)), .nil 1, .nil 1, .nil 1, .nil 1, .d (.sc (.int .i64 0)), .d (.sc (.int .i64 0)), .d (.sc (.int .i64 0)), .d (.sc (.int .i64 0)), .nil 7]⟩), (rid 3 0, ⟨1, 0, .box [.d (.sc (.int .i64 a.state)), .d (.sc (.int .i64 a.id)), .arr (rid 12 0) 1, .d (.sc (.int .i64 a.ftype)), .arr (rid 16 0) 1, .arr (rid 20 0) 1, .arr (rid 24 0) 1, .arr (rid 28 0) 1, .d (.sc (.int .i64 a.turn)), .d (.sc (.int .i64 a.sends)), .d (.sc (.int .i64 a.steps)), .d (.sc (.int .i64 a.code)), .nil 7]⟩), (rid 12 0, ⟨1, 0, .arr true (encBB a.fname)⟩), (rid 16 0, ⟨1, 0, .arr true (encBB a.name)⟩), (rid 20 0, ⟨1, 0, .arr true (encBB a.zone)⟩), (rid 24 0, ⟨1, 0, .arr true (encI a.hints)⟩), (rid 28 0, ⟨1, 0, .arr true (encI a.servers)⟩)]), []⟩ ?_ (fun x hc => ?_))
  case refine_2 => refine kReg (kFadP rfl rfl (kLoadP rfl rfl rfl (kFadP rfl rfl (kStoreP rfl rfl rfl rfl (kDone (hc _ .normA))))))
  refine kSeq (kCut ⟨tabSl [(1, .c (.ptr (rid 1 0) 1 0)), (2, .c (.ptr (rid 2 0) 1 0)), (3, .c (.ptr (rid 3 0) 1 0))], obTab 1 ([(rid 1 0, ⟨1, 0, .box (a.cells.map .d)⟩), (rid 2 0, ⟨1, 0, .box [.d (.sc (.int .i64 0)), .d (.sc (.int .i64 0)), .nil 1, .d (.sc (.int .i64 0)), .nil 1, .nil 1, .nil 1, .nil 1, .d (.sc (.int .i64 0)), .d (.sc (.int .i64 0)), .d (.sc (.int .i64 0)), .d (.sc (.int .i64 0)), .nil 7]⟩), (rid 3 0, ⟨1, 0, .box [.d (.sc (.int .i64 a.state)), .d (.sc (.int .i64 a.id)), .arr (rid 12 0) 1, .d (.sc (.int .i64 a.ftype)), .arr (rid 16 0) 1, .arr (rid 20 0) 1, .arr (rid 24 0) 1, .arr (rid 28 0) 1, .d (.sc (.int .i64 a.turn)), .d (.sc (.int .i64 a.sends)), .d (.sc (.int .i64 a.steps)), .d (.sc (.int .i64 a.code)), .arr (rid 44 0) 1]⟩), (rid 12 0, ⟨1, 0, .arr true (encBB a.fname)⟩), (rid 16 0, ⟨1, 0, .arr true (encBB a.name)⟩), (rid 20 0, ⟨1, 0, .arr true (encBB a.zone)⟩), (rid 24 0, ⟨1, 0, .arr true (encI a.hints)⟩), (rid 28 0, ⟨1, 0, .arr true (encI a.servers)⟩), (rid 44 0, ⟨1, 0, .arr true (encR a.answers)⟩)]), []⟩ ?_ (fun x hc => ?_))
  case refine_2 => refine kReg (kFadP rfl rfl (kLoadP rfl rfl rfl (kCall1 true (ok_laws_toRrS _ (by first | assumption | omega | solve_by_elim [List.getElem_mem] | (simp only [szOut] at *; omega))) ⟨rfl, trivial⟩ rfl rfl rfl (fun _ => (kFadP rfl rfl (kStoreP rfl rfl rfl rfl (kDone (hc _ .normA))))))))
  refine kSeq (kReg (kLoadP rfl rfl rfl (kStoreP rfl rfl rfl rfl (kDone (kRet (endRetA (ra := [.agg [(.d _), (.d _), (.own true _), (.d _), (.own true _), (.own true _), (.own true _), (.own true _), (.d _), (.d _), (.d _), (.d _), (.own true _)]]) rfl rfl))))))

def c_impl_within : C := (.seq (.reg false (.op 0 [] (some 6) none false (.mov (.v (.bool false)))
  .done))
 (.seq (.reg false (.op 0 [] (some 7) none false (.mov (.t 1))
  (.op 1 [] (some 8) none false (.mov (.t 0))
  (.op 2 [] (some 9) none false (.bin .leq (.t 7) (.t 8))
  (.op 3 [] (some 10) none false (.mov (.t 9))
  (.op 4 [] (some 11) (some (10, true)) false (.mov (.t 0))
  (.op 5 [] (some 12) (some (10, true)) false (.mov (.t 2))
  (.op 6 [] (some 13) (some (10, true)) false (.bin .leq (.t 11) (.t 12))
  (.op 7 [] (some 14) none false (.pick (.t 10) (.t 13) (.v (.bool false)))
  (.op 8 [] (some 6) none false (.mov (.t 14))
  .done))))))))))
 .ret))
theorem dg_impl_within : Tryz.f127.body.bind (digC Tryz.prog Tryz.f127.ntmps []) = some c_impl_within := by kernel_rfl
theorem rs_impl_within : resSlots Tryz.prog Tryz.f127 = some [.s 6] := by kernel_rfl
theorem ok_impl_within (n lo hi : Int) : FnOK Tryz.prog 127 [.one (.d (.sc (.int .i64 n))), .one (.d (.sc (.int .i64 lo))), .one (.d (.sc (.int .i64 hi)))] (fun ra _ => ra = [.one (.d (.sc (.bool (decide (lo ≤ n ∧ n ≤ hi)))))]) := by
  refine FnOK.ofK Tryz.func127 (by kernel_rfl) dg_impl_within rs_impl_within rfl rfl ?_
  unfold c_impl_within
  repeat' first
    | refine kSeq ?_ | refine kReg ?_ | refine kDone ?_ | refine kMovC rfl ?_ | refine kBin rfl rfl rfl ?_
    | refine kGT rfl ?_ | refine kGF rfl ?_ | refine kGU rfl ?_ | refine kG rfl (fun h => ?_) (fun h => ?_)
    | refine kPickT rfl ?_ | refine kPickF rfl ?_ | refine kPick rfl (fun h => ?_) (fun h => ?_) | refine kRet ?_
  all_goals refine endRet (ra := [.one (.d _)]) rfl ⟨⟨⟨rfl, .inl rfl⟩, trivial⟩, .nil, trivial, trivial, trivial, trivial⟩ ?_
  all_goals simp_all
  all_goals omega

def c_impl_all_byte_1 : C := (.seq (.reg false (.op 0 [] (some 3) none false (.mov (.v (.bool false)))
  .done))
 (.seq (.reg false (.op 0 [] (some 4) none false (.load none (.t 1))
  (.op 1 [] (some 5) none false (.mov (.t 0))
  (.op 2 [] (some 6) none false (.callv 6 (.t 4) [(.t 5)])
  (.op 3 [] (some 7) none false (.un .not (.t 6))
  (.op 4 [] (some 3) none false (.mov (.t 7))
  .done))))))
 .ret))
theorem dg_impl_all_byte_1 : Tryz.f188.body.bind (digC Tryz.prog Tryz.f188.ntmps []) = some c_impl_all_byte_1 := by kernel_rfl
theorem rs_impl_all_byte_1 : resSlots Tryz.prog Tryz.f188 = some [.s 3] := by kernel_rfl
theorem ok_impl_all_byte_1 (x : DV) (D : DV → Prop) (g : DV → Bool) (hx : D x) :
    FnOK Tryz.prog 188 [.one (.d x), .one (.ptr [.fv false (fcPred D g)])] (fun ra _ => ra = [.one (.d (.sc (.bool (!g x))))]) := by
  refine FnOK.ofK Tryz.func188 (by kernel_rfl) dg_impl_all_byte_1 rs_impl_all_byte_1 rfl rfl ?_
  unfold c_impl_all_byte_1
  refine kSeq (kReg (kMovC rfl (kDone ?_)))
  refine kSeq (kReg (kLoadC rfl rfl (kMovC rfl (kCallv rfl ⟨x, hx, rfl, rfl⟩ ⟨rfl, trivial⟩ (.inr ?_) rfl ?_ rfl ?_))))
  · rintro _ rfl; rfl
  · rintro _ rfl; exact Nat.le_of_ble_eq_true rfl
  rintro _ rfl
  refine kUn rfl rfl (kMovC rfl (kDone (kRet ?_)))
  exact endRet (ra := [.one (.d _)]) rfl ⟨⟨⟨rfl, .inl rfl⟩, trivial⟩, .nil, trivial, trivial, trivial⟩ rfl

def c_slices_IndexFunc_Lbyte_byte : C := (.seq (.reg false (.op 0 [] (some 4) none false (.mov (.v (.int .i64 0)))
  .done))
 (.seq (.seq (.reg false (.op 0 [] (some 6) none false (.mov (.t 0))
  (.op 1 [] (some 7) none false (.len (.t 6))
  (.op 2 [] (some 8) none false (.mov (.v (.int .i64 0)))
  .done))))
 (.block 0 (.loop (.seq (.reg false (.op 0 [] (some 9) none false (.bin .lss (.t 8) (.t 7))
  .done))
 (.seq (.cond (.t 9)
 .skip
 (.exit 0))
 (.seq (.block 1 (.seq (.reg false (.op 0 [] (some 10) none false (.mov (.t 8))
  (.op 1 [] (some 5) none false (.mov (.t 10))
  .done)))
 (.seq (.reg false (.op 0 [] (some 11) none false (.mov (.t 1))
  (.op 1 [] (some 12) none false (.mov (.t 0))
  (.op 2 [] (some 13) none false (.mov (.t 5))
  (.op 3 [] (some 14) none false (.iad 1 (.t 12) (.t 13))
  (.op 4 [] (some 15) none false (.load none (.t 14))
  (.op 5 [] (some 16) none false (.callv 16 (.t 11) [(.t 15)])
  .done)))))))
 (.cond (.t 16)
 (.seq (.reg false (.op 0 [] (some 17) none false (.mov (.t 5))
  (.op 1 [] (some 4) none false (.mov (.t 17))
  .done)))
 .ret)
 .skip))))
 (.reg false (.op 0 [] (some 18) none false (.bin .add (.t 8) (.v (.int .i64 1)))
  (.op 1 [] (some 8) none false (.mov (.t 18))
  .done)))))))))
 (.seq (.reg false (.op 0 [] (some 4) none false (.mov (.v (.int .i64 (-1))))
  .done))
 .ret)))
theorem dg_slices_IndexFunc_Lbyte_byte : Tryz.f191.body.bind (digC Tryz.prog Tryz.f191.ntmps []) = some c_slices_IndexFunc_Lbyte_byte := by kernel_rfl
theorem rs_slices_IndexFunc_Lbyte_byte : resSlots Tryz.prog Tryz.f191 = some [.s 4] := by kernel_rfl
theorem ok_slices_IndexFunc_Lbyte_byte (l : List DV) (D : DV → Prop) (g : DV → Bool) (hl : (l.length : Int) ≤ 9223372036854775807) (hD : ∀ x ∈ l, D x) :
    FnOK Tryz.prog 191 [.one (.d (lst l)), .one (.fv false (fcPred D g))] (fun ra _ => ra = [.one (.d (.sc (.int .i64 (idxF g l))))]) := by
  refine FnOK.ofK Tryz.func191 (by kernel_rfl) dg_slices_IndexFunc_Lbyte_byte rs_slices_IndexFunc_Lbyte_byte rfl rfl ?_
  unfold c_slices_IndexFunc_Lbyte_byte
  refine kSeq (kReg (kMovC rfl (kDone ?_)))
  refine kSeq (kSeq (kReg (kMovC rfl (kLen rfl rfl rfl (kMovC rfl (kDone (kBlock ?_)))))))
  rw [len_lst]
  refine kLoop (α := { i : Nat // i ≤ l.length ∧ ∀ x ∈ l.take i, g x = false })
    (fun y => ⟨tabSl [(0, .dv (lst l)), (1, .c (.fv false (fcPred D g))), (7, .i l.length), (8, .i y.1)], (St.init [.one (.d (lst l)), .one (.fv false (fcPred D g))]).ob, []⟩) (fun y => l.length - y.1) ⟨0, by simp⟩
    (.tab rfl ⟨.refl _, .refl _, .refl _, .refl _, trivial⟩) ?_
  rintro ⟨i, hi, hg⟩
  simp only
  refine kSeq (kReg (kBin rfl rfl rfl (kDone ?_)))
  refine kSeq (kCond rfl (fun h1 => ?_) (fun h1 => ?_))
  · have hlt : i < l.length := by simp at h1; omega
    refine kSkip (kSeq (kBlock (kSeq (kReg (kMovC rfl (kMovC rfl (kDone ?_)))))))
    refine kSeq (kReg (kMovC rfl (kMovC rfl (kMovC rfl (kIadD rfl rfl rfl rfl ?_ ?_)))))
    · rw [len_lst]; omega
    rw [show (lst l).row (i : Int).toNat = [l[i]] from row_lst l i hlt]
    refine kLoadD rfl rfl (kCallv rfl ⟨l[i], hD _ (List.getElem_mem hlt), rfl, rfl⟩ ⟨rfl, trivial⟩ (.inr ?_) rfl ?_ rfl ?_)
    · rintro _ rfl; rfl
    · rintro _ rfl; exact Nat.le_of_ble_eq_true rfl
    rintro _ rfl
    refine kDone (kCond rfl (fun h2 => ?_) (fun h2 => ?_))
    · refine kSeq (kReg (kMovC rfl (kMovC rfl (kDone (kRet ?_)))))
      refine endRet (ra := [.one (.d _)]) rfl ⟨⟨⟨rfl, .inl rfl⟩, trivial⟩, .nil, trivial, trivial, trivial⟩ ?_
      have : l.findIdx? g = some i := by
        rw [List.findIdx?_eq_some_iff_getElem]
        refine ⟨hlt, h2, fun j hj => ?_⟩
        simpa using hg _ (by rw [List.mem_take_iff_getElem]; exact ⟨j, by omega, rfl⟩)
      simp [idxF, this]
    · refine kSkip (kBk (kReg (kAdd rfl rfl ?_ (kMovC rfl (kDone (kInv ?_))))))
      · omega
      refine ⟨⟨i + 1, hlt, ?_⟩, by simp only; omega, .tab rfl ⟨.refl _, .refl _, .refl _, .refl _, trivial⟩⟩
      intro x hx
      rw [← List.take_append_getElem hlt, List.mem_append] at hx
      rcases hx with hx | hx
      · exact hg x hx
      · simp at hx; rw [hx]; exact h2
  · refine kExit (kExC (kExI (kExB ?_)))
    have hge : i = l.length := by simp at h1; omega
    refine kSeq (kReg (kMovC rfl (kDone (kRet ?_))))
    refine endRet (ra := [.one (.d _)]) rfl ⟨⟨⟨rfl, .inl rfl⟩, trivial⟩, .nil, trivial, trivial, trivial⟩ ?_
    have : l.findIdx? g = none := by
      rw [List.findIdx?_eq_none_iff]
      intro x hx
      rw [hge, List.take_length] at hg
      exact hg x hx
    simp [idxF, this]

def c_slices_ContainsFunc_Lbyte_byte : C := (.seq (.reg false (.op 0 [] (some 4) none false (.mov (.v (.bool false)))
  .done))
 (.seq (.reg false (.op 0 [] (some 5) none false (.mov (.t 0))
  (.op 1 [] (some 6) none false (.mov (.t 1))
  (.op 2 [] (some 7) none false (.call 7 191 [(.t 5), (.t 6)])
  (.op 3 [] (some 8) none false (.bin .geq (.t 7) (.v (.int .i64 0)))
  (.op 4 [] (some 4) none false (.mov (.t 8))
  .done))))))
 .ret))
theorem dg_slices_ContainsFunc_Lbyte_byte : Tryz.f187.body.bind (digC Tryz.prog Tryz.f187.ntmps []) = some c_slices_ContainsFunc_Lbyte_byte := by kernel_rfl
theorem rs_slices_ContainsFunc_Lbyte_byte : resSlots Tryz.prog Tryz.f187 = some [.s 4] := by kernel_rfl
theorem ok_slices_ContainsFunc_Lbyte_byte (l : List DV) (D : DV → Prop) (g : DV → Bool) (hl : (l.length : Int) ≤ 9223372036854775807) (hD : ∀ x ∈ l, D x) :
    FnOK Tryz.prog 187 [.one (.d (lst l)), .one (.fv false (fcPred D g))] (fun ra _ => ra = [.one (.d (.sc (.bool (l.any g))))]) := by
  refine FnOK.ofK Tryz.func187 (by kernel_rfl) dg_slices_ContainsFunc_Lbyte_byte rs_slices_ContainsFunc_Lbyte_byte rfl rfl ?_
  unfold c_slices_ContainsFunc_Lbyte_byte
  refine kSeq (kReg (kMovC rfl (kDone ?_)))
  refine kSeq (kReg (kMovC rfl (kMovC rfl ?_)))
  refine kCall1 true (ok_slices_IndexFunc_Lbyte_byte l D g hl hD) ⟨rfl, ⟨fun h => h, fun _ _ h => h⟩, trivial⟩ rfl rfl rfl fun os => ?_
  refine kBin rfl rfl rfl (kMovC rfl (kDone (kRet ?_)))
  refine endRet (ra := [.one (.d _)]) rfl ⟨⟨⟨rfl, .inl rfl⟩, trivial⟩, .nil, trivial, trivial, trivial⟩ ?_
  have : decide (idxF g l ≥ 0) = l.any g := by
    unfold idxF
    cases h : l.findIdx? g with
    | none =>
      rw [List.findIdx?_eq_none_iff] at h
      have : l.any g = false := by rw [List.any_eq_false]; intro x hx; simp [h x hx]
      rw [this]; rfl
    | some i =>
      rw [List.findIdx?_eq_some_iff_getElem] at h
      obtain ⟨h1, h2, _⟩ := h
      have : l.any g = true := by rw [List.any_eq_true]; exact ⟨_, List.getElem_mem h1, h2⟩
      rw [this]; simp
  rw [this]

def c_impl_all_byte : C := (.seq (.reg false (.op 0 [] (some 3) none false (.box 3 (.t 1))
  (.op 1 [] (some 4) none false (.mov (.v (.bool false)))
  .done)))
 (.seq (.reg false (.op 0 [] (some 5) none false (.mov (.t 0))
  (.op 1 [] (some 6) none false (.clo 188 [] [(.t 3)])
  (.op 2 [] (some 7) none false (.call 7 187 [(.t 5), (.t 6)])
  (.op 3 [] (some 8) none false (.un .not (.t 7))
  (.op 4 [] (some 4) none false (.mov (.t 8))
  .done))))))
 .ret))
theorem dg_impl_all_byte : Tryz.f173.body.bind (digC Tryz.prog Tryz.f173.ntmps []) = some c_impl_all_byte := by kernel_rfl
theorem rs_impl_all_byte : resSlots Tryz.prog Tryz.f173 = some [.s 4] := by kernel_rfl
theorem ok_impl_all_byte (l : List DV) (D : DV → Prop) (g : DV → Bool) (hl : (l.length : Int) ≤ 9223372036854775807) (hD : ∀ x ∈ l, D x) :
    FnOK Tryz.prog 173 [.one (.d (lst l)), .one (.fv false (fcPred D g))] (fun ra _ => ra = [.one (.d (.sc (.bool (l.all g))))]) := by
  refine FnOK.ofK Tryz.func173 (by kernel_rfl) dg_impl_all_byte rs_impl_all_byte rfl rfl ?_
  unfold c_impl_all_byte
  refine kSeq (kReg (kBox rfl rfl rfl rfl rfl (kMovC rfl (kDone ?_))))
  refine kSeq (kReg (kMovC rfl (kClo rfl rfl ?_)))
  refine kCall1 true (ok_slices_ContainsFunc_Lbyte_byte l D (fun x => !g x) hl hD) ⟨rfl, ⟨rfl, ⟨_, Tryz.func188, rfl, by kernel_rfl⟩, _, rfl, ?_⟩, trivial⟩ rfl rfl rfl fun os => ?_
  · rintro l R ⟨x, hx, rfl, rfl⟩
    exact ⟨by rintro _ rfl; rfl, ok_impl_all_byte_1 x D g hx⟩
  refine kUn rfl rfl (kMovC rfl (kDone (kRet ?_)))
  refine endRet (ra := [.one (.d _)]) rfl ⟨⟨⟨rfl, .inl rfl⟩, trivial⟩, .nil, trivial, trivial, trivial⟩ ?_
  simp [List.all_eq_not_any_not]

def c_impl_LabelOk_1 : C := (.seq (.reg false (.op 0 [] (some 2) none false (.mov (.v (.bool false)))
  .done))
 (.seq (.reg false (.op 0 [] (some 3) none false (.mov (.t 0))
  (.op 1 [] (some 4) none false (.bin .geq (.t 3) (.v (.int .u8 97)))
  (.op 2 [] (some 5) none false (.mov (.t 4))
  (.op 3 [] (some 6) (some (5, true)) false (.mov (.t 0))
  (.op 4 [] (some 7) (some (5, true)) false (.bin .leq (.t 6) (.v (.int .u8 122)))
  (.op 5 [] (some 8) none false (.pick (.t 5) (.t 7) (.v (.bool false)))
  (.op 6 [] (some 9) none false (.mov (.t 8))
  (.op 7 [] (some 10) (some (9, false)) false (.mov (.t 0))
  (.op 8 [] (some 11) (some (9, false)) false (.bin .geq (.t 10) (.v (.int .u8 48)))
  (.op 9 [] (some 12) (some (9, false)) false (.mov (.t 11))
  (.op 10 [] (some 13) (some (12, true)) false (.mov (.t 0))
  (.op 11 [] (some 14) (some (12, true)) false (.bin .leq (.t 13) (.v (.int .u8 57)))
  (.op 12 [] (some 15) (some (9, false)) false (.pick (.t 12) (.t 14) (.v (.bool false)))
  (.op 13 [] (some 16) none false (.pick (.t 9) (.v (.bool true)) (.t 15))
  (.op 14 [] (some 17) none false (.mov (.t 16))
  (.op 15 [] (some 18) (some (17, false)) false (.mov (.t 0))
  (.op 16 [] (some 19) (some (17, false)) false (.bin .eql (.t 18) (.v (.int .u8 45)))
  (.op 17 [] (some 20) none false (.pick (.t 17) (.v (.bool true)) (.t 19))
  (.op 18 [] (some 2) none false (.mov (.t 20))
  .done))))))))))))))))))))
 .ret))
theorem dg_impl_LabelOk_1 : Tryz.f174.body.bind (digC Tryz.prog Tryz.f174.ntmps []) = some c_impl_LabelOk_1 := by kernel_rfl
theorem rs_impl_LabelOk_1 : resSlots Tryz.prog Tryz.f174 = some [.s 2] := by kernel_rfl
theorem ok_impl_LabelOk_1 (b : UInt8) : FnOK Tryz.prog 174 [.one (.d (.sc (.int .u8 b.toNat)))] (fun ra _ => ra = [.one (.d (.sc (.bool (okLetter b))))]) := by
  refine FnOK.ofK Tryz.func174 (by kernel_rfl) dg_impl_LabelOk_1 rs_impl_LabelOk_1 rfl rfl ?_
  unfold c_impl_LabelOk_1
  repeat' first
    | refine kSeq ?_ | refine kReg ?_ | refine kDone ?_ | refine kMovC rfl ?_ | refine kBin rfl rfl rfl ?_
    | refine kGT rfl ?_ | refine kGF rfl ?_ | refine kGU rfl ?_ | refine kG rfl (fun h => ?_) (fun h => ?_)
    | refine kPickT rfl ?_ | refine kPickF rfl ?_ | refine kPick rfl (fun h => ?_) (fun h => ?_) | refine kRet ?_
  all_goals refine endRet (ra := [.one (.d _)]) rfl ⟨⟨⟨rfl, .inl rfl⟩, trivial⟩, .nil, trivial, trivial⟩ ?_
  all_goals simp_all [okLetter]
  all_goals first | omega | (rw [Bool.eq_iff_iff]; simp; omega)

def c_impl_LabelOk : C := (.seq (.reg false (.op 0 [] (some 2) none false (.mov (.v (.bool false)))
  .done))
 (.seq (.reg false (.op 0 [] (some 3) none false (.mov (.t 0))
  (.op 1 [] (some 4) none false (.len (.t 3))
  (.op 2 [] (some 5) none false (.call 5 127 [(.t 4), (.v (.int .i64 1)), (.v (.int .i64 15))])
  (.op 3 [] (some 6) none false (.mov (.t 5))
  (.op 4 [] (some 7) (some (6, true)) false (.mov (.t 0))
  (.op 5 [] (some 8) (some (6, true)) false (.call 8 173 [(.t 7), (.fn 174)])
  (.op 6 [] (some 9) none false (.pick (.t 6) (.t 8) (.v (.bool false)))
  (.op 7 [] (some 2) none false (.mov (.t 9))
  .done)))))))))
 .ret))
theorem dg_impl_LabelOk : Tryz.f140.body.bind (digC Tryz.prog Tryz.f140.ntmps []) = some c_impl_LabelOk := by kernel_rfl
theorem rs_impl_LabelOk : resSlots Tryz.prog Tryz.f140 = some [.s 2] := by kernel_rfl
theorem ok_impl_LabelOk (b : List UInt8) (hb : b.length ≤ 4194304) :
    FnOK Tryz.prog 140 [.one (.d (encB b))] (fun ra _ => ra = [.one (.d (.sc (.bool (labelOk b))))]) := by
  refine FnOK.ofK Tryz.func140 (by kernel_rfl) dg_impl_LabelOk rs_impl_LabelOk rfl rfl ?_
  unfold c_impl_LabelOk
  refine kSeq (kReg (kMovC rfl (kDone (kSeq (kReg (kMovC rfl (kLenR rfl rfl (kCallD (ok_impl_within _ _ _) ⟨rfl, rfl, rfl, trivial⟩ rfl rfl rfl rfl rfl (kMovC rfl (kGP rfl (fun g0 => kGT rfl (kMovC rfl (kGT rfl ?_))) (fun g0 => kGF rfl (kGF rfl (kPickF rfl (kMovC rfl (kMovC rfl (kDone (kRet (endRetA (ra := [.one (.d _)]) rfl ?_))))))))))))))))))
  · refine kCall1 true (ok_impl_all_byte (b.map fun b : UInt8 => .sc (.int .u8 b.toNat)) is8 (fun x => okLetter (dec8 x)) (by simp; omega) (fun x hx => by obtain ⟨c, _, rfl⟩ := List.mem_map.1 hx; exact ⟨c, rfl⟩)) ⟨congrArg some (encB_lst b), ⟨rfl, rfl, ⟨_, Tryz.func174, rfl, by kernel_rfl⟩, ?_⟩, trivial⟩ rfl rfl rfl (fun _ => ?_)
    · rintro _ R ⟨x, ⟨c, rfl⟩, rfl, rfl⟩
      have := ok_impl_LabelOk_1 c
      simp only [dec8_enc]
      exact this
    refine kPickT rfl (kMovC rfl (kMovC rfl (kDone (kRet (endRetA (ra := [.one (.d _)]) rfl ?_)))))
    rw [all_dec8, show labelOk b = b.all okLetter by simp only [labelOk]; rw [decide_eq_true (by omega), decide_eq_true (by omega)]; rfl]
  · rw [show labelOk b = false by simp only [labelOk]; rw [show (decide (1 ≤ b.length) && decide (b.length ≤ 15)) = false by simp; omega]; rfl]

def c_impl_all_Lbyte_1 : C := (.seq (.reg false (.op 0 [] (some 3) none false (.mov (.v (.bool false)))
  .done))
 (.seq (.reg false (.op 0 [] (some 4) none false (.load none (.t 1))
  (.op 1 [] (some 5) none false (.mov (.t 0))
  (.op 2 [] (some 6) none false (.callv 6 (.t 4) [(.t 5)])
  (.op 3 [] (some 7) none false (.un .not (.t 6))
  (.op 4 [] (some 3) none false (.mov (.t 7))
  .done))))))
 .ret))
theorem dg_impl_all_Lbyte_1 : Tryz.f172.body.bind (digC Tryz.prog Tryz.f172.ntmps []) = some c_impl_all_Lbyte_1 := by kernel_rfl
theorem rs_impl_all_Lbyte_1 : resSlots Tryz.prog Tryz.f172 = some [.s 3] := by kernel_rfl
theorem ok_impl_all_Lbyte_1 (x : DV) (D : DV → Prop) (g : DV → Bool) (hx : D x) :
    FnOK Tryz.prog 172 [.one (.d x), .one (.ptr [.fv false (fcPred D g)])] (fun ra _ => ra = [.one (.d (.sc (.bool (!g x))))]) := by
  refine FnOK.ofK Tryz.func172 (by kernel_rfl) dg_impl_all_Lbyte_1 rs_impl_all_Lbyte_1 rfl rfl ?_
  unfold c_impl_all_Lbyte_1
  refine kSeq (kReg (kMovC rfl (kDone ?_)))
  refine kSeq (kReg (kLoadC rfl rfl (kMovC rfl (kCallv rfl ⟨x, hx, rfl, rfl⟩ ⟨rfl, trivial⟩ (.inr ?_) rfl ?_ rfl ?_))))
  · rintro _ rfl; rfl
  · rintro _ rfl; exact Nat.le_of_ble_eq_true rfl
  rintro _ rfl
  refine kUn rfl rfl (kMovC rfl (kDone (kRet ?_)))
  exact endRet (ra := [.one (.d _)]) rfl ⟨⟨⟨rfl, .inl rfl⟩, trivial⟩, .nil, trivial, trivial, trivial⟩ rfl

def c_slices_IndexFunc_LLbyte_Lbyte : C := (.seq (.reg false (.op 0 [] (some 4) none false (.mov (.v (.int .i64 0)))
  .done))
 (.seq (.seq (.reg false (.op 0 [] (some 6) none false (.mov (.t 0))
  (.op 1 [] (some 7) none false (.len (.t 6))
  (.op 2 [] (some 8) none false (.mov (.v (.int .i64 0)))
  .done))))
 (.block 0 (.loop (.seq (.reg false (.op 0 [] (some 9) none false (.bin .lss (.t 8) (.t 7))
  .done))
 (.seq (.cond (.t 9)
 .skip
 (.exit 0))
 (.seq (.block 1 (.seq (.reg false (.op 0 [] (some 10) none false (.mov (.t 8))
  (.op 1 [] (some 5) none false (.mov (.t 10))
  .done)))
 (.seq (.reg false (.op 0 [] (some 11) none false (.mov (.t 1))
  (.op 1 [] (some 12) none false (.mov (.t 0))
  (.op 2 [] (some 13) none false (.mov (.t 5))
  (.op 3 [] (some 14) none false (.iad 1 (.t 12) (.t 13))
  (.op 4 [] (some 15) none false (.load none (.t 14))
  (.op 5 [] (some 16) none false (.callv 16 (.t 11) [(.t 15)])
  .done)))))))
 (.cond (.t 16)
 (.seq (.reg false (.op 0 [] (some 17) none false (.mov (.t 5))
  (.op 1 [] (some 4) none false (.mov (.t 17))
  .done)))
 .ret)
 .skip))))
 (.reg false (.op 0 [] (some 18) none false (.bin .add (.t 8) (.v (.int .i64 1)))
  (.op 1 [] (some 8) none false (.mov (.t 18))
  .done)))))))))
 (.seq (.reg false (.op 0 [] (some 4) none false (.mov (.v (.int .i64 (-1))))
  .done))
 .ret)))
theorem dg_slices_IndexFunc_LLbyte_Lbyte : Tryz.f186.body.bind (digC Tryz.prog Tryz.f186.ntmps []) = some c_slices_IndexFunc_LLbyte_Lbyte := by kernel_rfl
theorem rs_slices_IndexFunc_LLbyte_Lbyte : resSlots Tryz.prog Tryz.f186 = some [.s 4] := by kernel_rfl
theorem ok_slices_IndexFunc_LLbyte_Lbyte (l : List DV) (D : DV → Prop) (g : DV → Bool) (hl : (l.length : Int) ≤ 9223372036854775807) (hD : ∀ x ∈ l, D x) :
    FnOK Tryz.prog 186 [.one (.d (lst l)), .one (.fv false (fcPred D g))] (fun ra _ => ra = [.one (.d (.sc (.int .i64 (idxF g l))))]) := by
  refine FnOK.ofK Tryz.func186 (by kernel_rfl) dg_slices_IndexFunc_LLbyte_Lbyte rs_slices_IndexFunc_LLbyte_Lbyte rfl rfl ?_
  unfold c_slices_IndexFunc_LLbyte_Lbyte
  refine kSeq (kReg (kMovC rfl (kDone ?_)))
  refine kSeq (kSeq (kReg (kMovC rfl (kLen rfl rfl rfl (kMovC rfl (kDone (kBlock ?_)))))))
  rw [len_lst]
  refine kLoop (α := { i : Nat // i ≤ l.length ∧ ∀ x ∈ l.take i, g x = false })
    (fun y => ⟨tabSl [(0, .dv (lst l)), (1, .c (.fv false (fcPred D g))), (7, .i l.length), (8, .i y.1)], (St.init [.one (.d (lst l)), .one (.fv false (fcPred D g))]).ob, []⟩) (fun y => l.length - y.1) ⟨0, by simp⟩
    (.tab rfl ⟨.refl _, .refl _, .refl _, .refl _, trivial⟩) ?_
  rintro ⟨i, hi, hg⟩
  simp only
  refine kSeq (kReg (kBin rfl rfl rfl (kDone ?_)))
  refine kSeq (kCond rfl (fun h1 => ?_) (fun h1 => ?_))
  · have hlt : i < l.length := by simp at h1; omega
    refine kSkip (kSeq (kBlock (kSeq (kReg (kMovC rfl (kMovC rfl (kDone ?_)))))))
    refine kSeq (kReg (kMovC rfl (kMovC rfl (kMovC rfl (kIadD rfl rfl rfl rfl ?_ ?_)))))
    · rw [len_lst]; omega
    rw [show (lst l).row (i : Int).toNat = [l[i]] from row_lst l i hlt]
    refine kLoadD rfl rfl (kCallv rfl ⟨l[i], hD _ (List.getElem_mem hlt), rfl, rfl⟩ ⟨rfl, trivial⟩ (.inr ?_) rfl ?_ rfl ?_)
    · rintro _ rfl; rfl
    · rintro _ rfl; exact Nat.le_of_ble_eq_true rfl
    rintro _ rfl
    refine kDone (kCond rfl (fun h2 => ?_) (fun h2 => ?_))
    · refine kSeq (kReg (kMovC rfl (kMovC rfl (kDone (kRet ?_)))))
      refine endRet (ra := [.one (.d _)]) rfl ⟨⟨⟨rfl, .inl rfl⟩, trivial⟩, .nil, trivial, trivial, trivial⟩ ?_
      have : l.findIdx? g = some i := by
        rw [List.findIdx?_eq_some_iff_getElem]
        refine ⟨hlt, h2, fun j hj => ?_⟩
        simpa using hg _ (by rw [List.mem_take_iff_getElem]; exact ⟨j, by omega, rfl⟩)
      simp [idxF, this]
    · refine kSkip (kBk (kReg (kAdd rfl rfl ?_ (kMovC rfl (kDone (kInv ?_))))))
      · omega
      refine ⟨⟨i + 1, hlt, ?_⟩, by simp only; omega, .tab rfl ⟨.refl _, .refl _, .refl _, .refl _, trivial⟩⟩
      intro x hx
      rw [← List.take_append_getElem hlt, List.mem_append] at hx
      rcases hx with hx | hx
      · exact hg x hx
      · simp at hx; rw [hx]; exact h2
  · refine kExit (kExC (kExI (kExB ?_)))
    have hge : i = l.length := by simp at h1; omega
    refine kSeq (kReg (kMovC rfl (kDone (kRet ?_))))
    refine endRet (ra := [.one (.d _)]) rfl ⟨⟨⟨rfl, .inl rfl⟩, trivial⟩, .nil, trivial, trivial, trivial⟩ ?_
    have : l.findIdx? g = none := by
      rw [List.findIdx?_eq_none_iff]
      intro x hx
      rw [hge, List.take_length] at hg
      exact hg x hx
    simp [idxF, this]

end Go.Proofs.YtmecljfkakjmbaaGreat.FnExactAskOfFn
