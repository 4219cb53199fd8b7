/- What the functions that FnExactBump reaches compute, one contract each; each with the bounds that it states. -/
import Derived.Test.YtmecljfkakjmbaaGreatHearth3
import Derived.Test.YtmecljfkakjmbaaGreatProg
import Derived.KernelRfl
set_option maxRecDepth 100000
set_option maxHeartbeats 8000000
set_option linter.unusedVariables false
set_option linter.unusedSimpArgs false
namespace Go.Proofs.YtmecljfkakjmbaaGreat.FnExactBumpFn
open Go Hearth Go.Proofs

def c_laws_szByteS : C := (.seq (.reg false (.op 0 [] (some 4) none false (.mov (.v (.int .i64 0)))
  .done))
 (.seq (.reg false (.op 0 [] (some 5) none false (.mov (.t 1))
  (.op 1 [] (some 6) none false (.mov (.t 0))
  (.op 2 [] (some 7) none false (.len (.t 6))
  (.op 3 [] (some 8) none false (.bin .sub (.t 5) (.t 7))
  (.op 4 [] (some 1) none false (.mov (.t 8))
  .done))))))
 (.seq (.seq (.reg false (.op 0 [] (some 9) none false (.mov (.t 1))
  (.op 1 [] (some 10) none false (.bin .lss (.t 9) (.v (.int .i64 0)))
  .done)))
 (.cond (.t 10)
 (.seq (.reg false (.op 0 [] (some 4) none false (.mov (.v (.int .i64 (-1))))
  .done))
 .ret)
 .skip))
 (.seq (.reg false (.op 0 [] (some 11) none false (.mov (.t 1))
  (.op 1 [] (some 4) none false (.mov (.t 11))
  .done)))
 .ret))))
theorem dg_laws_szByteS : Tryz.f89.body.bind (digC Tryz.prog Tryz.f89.ntmps []) = some c_laws_szByteS := by kernel_rfl
theorem rs_laws_szByteS : resSlots Tryz.prog Tryz.f89 = some [.s 4] := by kernel_rfl
theorem ok_laws_szByteS (b : List UInt8) (n : Int) (hb : (b.length : Int) ≤ 9223372036854775807) (h0 : 0 ≤ n) (h1 : n ≤ 4194304) :
    FnOK Tryz.prog 89 [.one (.d (encB b)), .one (.d (.sc (.int .i64 n)))] (fun ra _ => ra = [.one (.d (.sc (.int .i64 (szOut n b.length))))]) := by
  refine FnOK.ofK Tryz.func89 (by kernel_rfl) dg_laws_szByteS rs_laws_szByteS rfl rfl ?_
  unfold c_laws_szByteS
  refine kSeq (kReg (kMovC rfl (kDone ?_)))
  refine kSeq (kReg ?_)
  refine kMovC rfl (kMovC rfl (kLen rfl rfl rfl ?_))
  refine kDif rfl rfl ?_ ?_
  · simp [encB, DV.len] at *; omega
  refine kMovC rfl (kDone ?_)
  refine kSeq (kSeq (kReg (kMovC rfl (kBin rfl rfl rfl (kDone ?_)))))
  refine kCond rfl (fun h => ?_) (fun h => ?_)
  · refine kSeq (kReg (kMovC rfl (kDone (kRet ⟨nofun, ?_⟩))))
    refine ⟨[.one (.d _)], _, ?_, rfl, ⟨⟨⟨rfl, .inl rfl⟩, trivial⟩, .nil, trivial, trivial, trivial⟩⟩
    unfold szOut
    simp [encB, DV.len] at h ⊢
    omega
  · refine kSkip (kSeq (kReg (kMovC rfl (kMovC rfl (kDone (kRet ⟨nofun, ?_⟩))))))
    refine ⟨[.one (.d _)], _, ?_, rfl, ⟨⟨⟨rfl, .inl rfl⟩, trivial⟩, .nil, trivial, trivial, trivial⟩⟩
    unfold szOut
    simp [encB, DV.len] at h ⊢
    omega

def c_laws_szByteSS : C := (.seq (.reg false (.op 0 [] (some 4) none false (.mov (.v (.int .i64 0)))
  .done))
 (.seq (.reg false (.op 0 [] (some 6) none false (.mov (.t 1))
  (.op 1 [] (some 7) none false (.mov (.t 0))
  (.op 2 [] (some 8) none false (.len (.t 7))
  (.op 3 [] (some 9) none false (.bin .sub (.t 6) (.t 8))
  (.op 4 [] (some 1) none false (.mov (.t 9))
  .done))))))
 (.seq (.seq (.reg false (.op 0 [] (some 10) none false (.mov (.t 1))
  (.op 1 [] (some 11) none false (.bin .lss (.t 10) (.v (.int .i64 0)))
  .done)))
 (.cond (.t 11)
 (.seq (.reg false (.op 0 [] (some 4) none false (.mov (.v (.int .i64 (-1))))
  .done))
 .ret)
 .skip))
 (.seq (.seq (.reg false (.op 0 [] (some 5) none false (.mov (.v (.int .i64 0)))
  .done))
 (.block 0 (.loop (.seq (.seq (.reg false (.op 0 [] (some 12) none false (.mov (.t 5))
  (.op 1 [] (some 13) none false (.mov (.t 0))
  (.op 2 [] (some 14) none false (.len (.t 13))
  (.op 3 [] (some 15) none false (.bin .lss (.t 12) (.t 14))
  .done)))))
 (.cond (.t 15)
 .skip
 (.exit 0)))
 (.seq (.block 1 (.seq (.reg false (.op 0 [] (some 18) none false (.mov (.t 0))
  (.op 1 [] (some 19) none false (.mov (.t 5))
  (.op 2 [] (some 20) none false (.iad 1 (.t 18) (.t 19))
  (.op 3 [] (some 21) none false (.load none (.t 20))
  (.op 4 [] (some 22) none false (.mov (.t 1))
  (.op 5 [] (some 23) none false (.call 23 89 [(.t 21), (.t 22)])
  (.op 6 [] (some 1) none false (.mov (.t 23))
  .done))))))))
 (.seq (.reg false (.op 0 [] (some 24) none false (.mov (.t 1))
  (.op 1 [] (some 25) none false (.bin .lss (.t 24) (.v (.int .i64 0)))
  .done)))
 (.cond (.t 25)
 (.seq (.reg false (.op 0 [] (some 4) none false (.mov (.v (.int .i64 (-1))))
  .done))
 .ret)
 .skip))))
 (.reg false (.op 0 [] (some 16) none false (.mov (.t 5))
  (.op 1 [] (some 17) none false (.bin .add (.t 16) (.v (.int .i64 1)))
  (.op 2 [] (some 5) none false (.mov (.t 17))
  .done)))))))))
 (.seq (.reg false (.op 0 [] (some 26) none false (.mov (.t 1))
  (.op 1 [] (some 4) none false (.mov (.t 26))
  .done)))
 .ret)))))
theorem dg_laws_szByteSS : Tryz.f78.body.bind (digC Tryz.prog Tryz.f78.ntmps []) = some c_laws_szByteSS := by kernel_rfl
theorem rs_laws_szByteSS : resSlots Tryz.prog Tryz.f78 = some [.s 4] := by kernel_rfl
theorem ok_laws_szByteSS (a : List (List UInt8)) (n : Int) (ha : (a.length : Int) ≤ 9223372036854775807) (hb : ∀ b ∈ a, (b.length : Int) ≤ 9223372036854775807) (h0 : 0 ≤ n) (h1 : n ≤ 4194304) :
    FnOK Tryz.prog 78 [.one (.d (encBB a)), .one (.d (.sc (.int .i64 n)))] (fun ra _ => ra = [.one (.d (.sc (.int .i64 (szOut n (a.length + a.flatten.length)))))]) := by
  refine FnOK.ofK Tryz.func78 (by kernel_rfl) dg_laws_szByteSS rs_laws_szByteSS rfl rfl ?_
  unfold c_laws_szByteSS
  refine kSeq (kReg (kMovC rfl (kDone ?_)))
  refine kSeq (kReg (kMovC rfl (kMovC rfl (kLen rfl rfl rfl ?_))))
  rw [len_encBB]
  refine kDif rfl rfl (by omega) (kMovC rfl (kDone ?_))
  refine kSeq (kSeq (kReg (kMovC rfl (kBin rfl rfl rfl (kDone ?_)))))
  refine kCond rfl (fun h => ?_) (fun h => ?_)
  · refine kSeq (kReg (kMovC rfl (kDone (kRet ?_))))
    refine endRet (ra := [.one (.d _)]) rfl ⟨⟨⟨rfl, .inl rfl⟩, trivial⟩, .nil, trivial, trivial, trivial⟩ ?_
    simp only [decide_eq_true_eq] at h
    rw [szOut, if_pos (by omega)]
  have hn : 0 ≤ n - a.length := by simp only [decide_eq_false_iff_not] at h; omega
  refine kSkip (kSeq (kSeq (kReg (kMovC rfl (kDone (kBlock ?_))))))
  refine kLoop (α := { i : Nat // i ≤ a.length ∧ 0 ≤ n - a.length - (a.take i).flatten.length })
    (fun y => ⟨tabSl [(0, .dv (encBB a)), (1, .i (n - a.length - (a.take y.1).flatten.length)), (5, .i y.1)], (St.init [.one (.d (encBB a)), .one (.d (.sc (.int .i64 n)))]).ob, []⟩) (fun y => a.length - y.1) ⟨0, by simpa using hn⟩
    (.tab rfl ⟨.refl _, by simpa using .refl _, .refl _, trivial⟩) ?_
  rintro ⟨i, hi, hs⟩
  simp only
  refine kSeq (kSeq (kReg ?_))
  refine kMovC rfl (kMovC rfl (kLen rfl rfl rfl (kBin rfl rfl rfl (kDone ?_))))
  rw [len_encBB]
  refine kCond rfl (fun h1 => ?_) (fun h1 => ?_)
  · have hlt : i < a.length := by simp at h1; omega
    have hfl := take_flat a i hlt
    have hle := flat_le a (i + 1)
    have hbi := hb _ (List.getElem_mem hlt)
    refine kSkip (kSeq (kBlock (kSeq (kReg (kMovC rfl (kMovC rfl (kIadD rfl rfl rfl rfl ?_ ?_)))))))
    · rw [len_encBB]; omega
    rw [show (encBB a).row (i : Int).toNat = [encB a[i]] from row_encBB a i hlt]
    refine kLoadD rfl rfl (kMovC rfl ?_)
    refine kCall1 true (ok_laws_szByteS a[i] (n - a.length - (a.take i).flatten.length) hbi hs (by omega)) ⟨rfl, rfl, trivial⟩ rfl rfl rfl fun os => ?_
    refine kMovC rfl (kDone (kSeq (kReg (kMovC rfl (kBin rfl rfl rfl (kDone ?_))))))
    refine kCond rfl (fun h2 => ?_) (fun h2 => ?_)
    · refine kSeq (kReg (kMovC rfl (kDone (kRet ?_))))
      refine endRet (ra := [.one (.d _)]) rfl ⟨⟨⟨rfl, .inl rfl⟩, trivial⟩, .nil, trivial, trivial, trivial⟩ ?_
      replace h2 := of_decide_eq_true h2
      unfold szOut at h2
      rw [szOut, if_pos (by split at h2 <;> omega)]
    · replace h2 := of_decide_eq_false h2
      unfold szOut at h2
      have hs' : 0 ≤ n - a.length - (a.take (i + 1)).flatten.length := by split at h2 <;> omega
      refine kSkip (kBk (kReg (kMovC rfl (kAdd rfl rfl (by omega) (kMovC rfl (kDone (kInv ?_)))))))
      refine ⟨⟨i + 1, hlt, hs'⟩, by simp only; omega, .tab rfl ⟨.refl _, ?_, .refl _, trivial⟩⟩
      show WkV (.i (szOut _ _)) (.i (n - a.length - ((a.take (i + 1)).flatten.length : Int)))
      rw [szOut, if_neg (by omega), show n - (a.length : Int) - ((a.take (i + 1)).flatten.length : Int) = n - a.length - (a.take i).flatten.length - a[i].length by omega]
      exact .refl _
  · refine kExit (kExC (kExI (kExB ?_)))
    have hge : i = a.length := by simp at h1; omega
    subst hge
    rw [List.take_length] at hs
    refine kSeq (kReg (kMovC rfl (kMovC rfl (kDone (kRet ?_)))))
    refine endRet (ra := [.one (.d _)]) rfl ⟨⟨⟨rfl, .inl rfl⟩, trivial⟩, .nil, trivial, trivial, trivial⟩ ?_
    rw [szOut, if_neg (by omega), List.take_length, show n - (a.length : Int) - (a.flatten.length : Int) = n - ((a.length + a.flatten.length : Nat) : Int) by omega]

def c_laws_szName : C := (.seq (.reg false (.op 0 [] (some 2) none false (.box 2 (.t 0))
  (.op 1 [] (some 4) none false (.mov (.v (.int .i64 0)))
  .done)))
 (.seq (.reg false (.op 0 [] (some 5) none false (.fad (.t 2) 0)
  (.op 1 [] (some 6) none false (.load none (.t 5))
  (.op 2 [] (some 7) none false (.mov (.t 1))
  (.op 3 [] (some 8) none false (.call 8 78 [(.t 6), (.t 7)])
  (.op 4 [] (some 1) none false (.mov (.t 8))
  .done))))))
 (.seq (.seq (.reg false (.op 0 [] (some 9) none false (.mov (.t 1))
  (.op 1 [] (some 10) none false (.bin .lss (.t 9) (.v (.int .i64 0)))
  .done)))
 (.cond (.t 10)
 (.seq (.reg false (.op 0 [] (some 4) none false (.mov (.v (.int .i64 (-1))))
  .done))
 .ret)
 .skip))
 (.seq (.reg false (.op 0 [] (some 11) none false (.mov (.t 1))
  (.op 1 [] (some 4) none false (.mov (.t 11))
  .done)))
 .ret))))
theorem dg_laws_szName : Tryz.f29.body.bind (digC Tryz.prog Tryz.f29.ntmps []) = some c_laws_szName := by kernel_rfl
theorem rs_laws_szName : resSlots Tryz.prog Tryz.f29 = some [.s 4] := by kernel_rfl
theorem ok_laws_szName (a : List (List UInt8)) (n : Int) (ha : (a.length : Int) ≤ 9223372036854775807) (hb : ∀ b ∈ a, (b.length : Int) ≤ 9223372036854775807) (h0 : 0 ≤ n) (h1 : n ≤ 4194304) :
    FnOK Tryz.prog 29 [.agg [.d (encBB a)], .one (.d (.sc (.int .i64 n)))] (fun ra _ => ra = [.one (.d (.sc (.int .i64 (szOut n (a.length + a.flatten.length)))))]) := by
  refine FnOK.ofK Tryz.func29 (by kernel_rfl) dg_laws_szName rs_laws_szName rfl rfl ?_
  unfold c_laws_szName
  refine kSeq (kReg (kBox rfl rfl rfl rfl rfl (kMovC rfl (kDone ?_))))
  refine kSeq (kReg (kFadP rfl rfl (kLoadP rfl rfl rfl (kMovC rfl ?_))))
  refine kCall1 true (ok_laws_szByteSS a n ha hb h0 h1) ⟨rfl, rfl, trivial⟩ rfl rfl rfl fun os => ?_
  refine kMovC rfl (kDone (kSeq (kSeq (kReg (kMovC rfl (kBin rfl rfl rfl (kDone ?_)))))))
  refine kCond rfl (fun h => ?_) (fun h => ?_)
  · refine kSeq (kReg (kMovC rfl (kDone (kRet ?_))))
    refine endRet (ra := [.one (.d _)]) rfl ⟨⟨⟨rfl, .inl rfl⟩, trivial⟩, .nil, ⟨trivial, trivial⟩, trivial, trivial⟩ ?_
    replace h := of_decide_eq_true h
    unfold szOut at h
    rw [szOut, if_pos (by split at h <;> omega)]
  · refine kSkip (kSeq (kReg (kMovC rfl (kMovC rfl (kDone (kRet ?_))))))
    exact endRet (ra := [.one (.d _)]) rfl ⟨⟨⟨rfl, .inl rfl⟩, trivial⟩, .nil, ⟨trivial, trivial⟩, trivial, trivial⟩ rfl

def c_laws_szIntS : C := (.seq (.reg false (.op 0 [] (some 4) none false (.mov (.v (.int .i64 0)))
  .done))
 (.seq (.reg false (.op 0 [] (some 5) none false (.mov (.t 1))
  (.op 1 [] (some 6) none false (.mov (.t 0))
  (.op 2 [] (some 7) none false (.len (.t 6))
  (.op 3 [] (some 8) none false (.bin .sub (.t 5) (.t 7))
  (.op 4 [] (some 1) none false (.mov (.t 8))
  .done))))))
 (.seq (.seq (.reg false (.op 0 [] (some 9) none false (.mov (.t 1))
  (.op 1 [] (some 10) none false (.bin .lss (.t 9) (.v (.int .i64 0)))
  .done)))
 (.cond (.t 10)
 (.seq (.reg false (.op 0 [] (some 4) none false (.mov (.v (.int .i64 (-1))))
  .done))
 .ret)
 .skip))
 (.seq (.reg false (.op 0 [] (some 11) none false (.mov (.t 1))
  (.op 1 [] (some 4) none false (.mov (.t 11))
  .done)))
 .ret))))
theorem dg_laws_szIntS : Tryz.f65.body.bind (digC Tryz.prog Tryz.f65.ntmps []) = some c_laws_szIntS := by kernel_rfl
theorem rs_laws_szIntS : resSlots Tryz.prog Tryz.f65 = some [.s 4] := by kernel_rfl
theorem ok_laws_szIntS (l : List Int) (n : Int) (hb : (l.length : Int) ≤ 9223372036854775807) (h0 : 0 ≤ n) (h1 : n ≤ 4194304) :
    FnOK Tryz.prog 65 [.one (.d (encI l)), .one (.d (.sc (.int .i64 n)))] (fun ra _ => ra = [.one (.d (.sc (.int .i64 (szOut n l.length))))]) := by
  refine FnOK.ofK Tryz.func65 (by kernel_rfl) dg_laws_szIntS rs_laws_szIntS rfl rfl ?_
  unfold c_laws_szIntS
  refine kSeq (kReg (kMovC rfl (kDone (kSeq (kReg (kMovC rfl (kMovC rfl (kLenR rfl rfl (kDif rfl rfl (by omega) (kMovC rfl (kDone (kSeq (kSeq (kReg (kMovC rfl (kBin rfl rfl rfl (kDone (kCondP rfl (fun g0 => kSeq (kReg (kMovC rfl (kDone (kRet (endRetA (ra := [.one (.d _)]) rfl ?_)))))) (fun g0 => kSkip (kSeq (kReg (kMovC rfl (kMovC rfl (kDone (kRet (endRetA (ra := [.one (.d _)]) rfl ?_))))))))))))))))))))))))))
  · rw [szOut, if_pos (by omega)]
  · rw [szOut, if_neg (by omega)]

def c_laws_szRr : C := (.seq (.reg false (.op 0 [] (some 2) none false (.box 2 (.t 0))
  (.op 1 [] (some 4) none false (.mov (.v (.int .i64 0)))
  .done)))
 (.seq (.reg false (.op 0 [] (some 5) none false (.fad (.t 2) 0)
  (.op 1 [] (some 6) none false (.load (some 1) (.t 5))
  (.op 2 [] (some 7) none false (.mov (.t 1))
  (.op 3 [] (some 8) none false (.call 8 29 [(.t 6), (.t 7)])
  (.op 4 [] (some 1) none false (.mov (.t 8))
  .done))))))
 (.seq (.seq (.reg false (.op 0 [] (some 9) none false (.mov (.t 1))
  (.op 1 [] (some 10) none false (.bin .lss (.t 9) (.v (.int .i64 0)))
  .done)))
 (.cond (.t 10)
 (.seq (.reg false (.op 0 [] (some 4) none false (.mov (.v (.int .i64 (-1))))
  .done))
 .ret)
 .skip))
 (.seq (.reg false (.op 0 [] (some 11) none false (.fad (.t 2) 4)
  (.op 1 [] (some 12) none false (.load (some 1) (.t 11))
  (.op 2 [] (some 13) none false (.mov (.t 1))
  (.op 3 [] (some 14) none false (.call 14 29 [(.t 12), (.t 13)])
  (.op 4 [] (some 1) none false (.mov (.t 14))
  .done))))))
 (.seq (.seq (.reg false (.op 0 [] (some 15) none false (.mov (.t 1))
  (.op 1 [] (some 16) none false (.bin .lss (.t 15) (.v (.int .i64 0)))
  .done)))
 (.cond (.t 16)
 (.seq (.reg false (.op 0 [] (some 4) none false (.mov (.v (.int .i64 (-1))))
  .done))
 .ret)
 .skip))
 (.seq (.reg false (.op 0 [] (some 17) none false (.fad (.t 2) 5)
  (.op 1 [] (some 18) none false (.load none (.t 17))
  (.op 2 [] (some 19) none false (.mov (.t 1))
  (.op 3 [] (some 20) none false (.call 20 89 [(.t 18), (.t 19)])
  (.op 4 [] (some 1) none false (.mov (.t 20))
  .done))))))
 (.seq (.seq (.reg false (.op 0 [] (some 21) none false (.mov (.t 1))
  (.op 1 [] (some 22) none false (.bin .lss (.t 21) (.v (.int .i64 0)))
  .done)))
 (.cond (.t 22)
 (.seq (.reg false (.op 0 [] (some 4) none false (.mov (.v (.int .i64 (-1))))
  .done))
 .ret)
 .skip))
 (.seq (.reg false (.op 0 [] (some 23) none false (.fad (.t 2) 6)
  (.op 1 [] (some 24) none false (.load none (.t 23))
  (.op 2 [] (some 25) none false (.mov (.t 1))
  (.op 3 [] (some 26) none false (.call 26 65 [(.t 24), (.t 25)])
  (.op 4 [] (some 1) none false (.mov (.t 26))
  .done))))))
 (.seq (.seq (.reg false (.op 0 [] (some 27) none false (.mov (.t 1))
  (.op 1 [] (some 28) none false (.bin .lss (.t 27) (.v (.int .i64 0)))
  .done)))
 (.cond (.t 28)
 (.seq (.reg false (.op 0 [] (some 4) none false (.mov (.v (.int .i64 (-1))))
  .done))
 .ret)
 .skip))
 (.seq (.reg false (.op 0 [] (some 29) none false (.mov (.t 1))
  (.op 1 [] (some 4) none false (.mov (.t 29))
  .done)))
 .ret))))))))))
theorem dg_laws_szRr : Tryz.f35.body.bind (digC Tryz.prog Tryz.f35.ntmps []) = some c_laws_szRr := by kernel_rfl
theorem rs_laws_szRr : resSlots Tryz.prog Tryz.f35 = some [.s 4] := by kernel_rfl
theorem ok_laws_szRr (r : Rr) (n : Int) (hb : BigR r) (h0 : 0 ≤ n) (h1 : n ≤ 4194304) :
    FnOK Tryz.prog 35 [.agg (r.cells.map .d), .one (.d (.sc (.int .i64 n)))] (fun ra _ => ra = [.one (.d (.sc (.int .i64 (szOut n (costR r)))))]) := by
  refine FnOK.ofK Tryz.func35 (by kernel_rfl) dg_laws_szRr rs_laws_szRr rfl rfl ?_
  unfold c_laws_szRr
  have b1 := hb.n.len
  have b2 := hb.n.mem
  have b3 := hb.t.len
  have b4 := hb.t.mem
  have b5 := hb.x
  have b6 := hb.m
  refine kSeq (kReg (kBox rfl rfl rfl rfl rfl (kMovC rfl (kDone (kSeq (kReg (kFadP rfl rfl (kLoadP rfl rfl rfl (kMovC rfl (kCallD (ok_laws_szName _ _ (by first | assumption | omega | solve_by_elim [List.getElem_mem] | (simp only [szOut] at *; omega)) (by first | assumption | omega | solve_by_elim [List.getElem_mem] | (simp only [szOut] at *; omega)) (by first | assumption | omega | solve_by_elim [List.getElem_mem] | (simp only [szOut] at *; omega)) (by first | assumption | omega | solve_by_elim [List.getElem_mem] | (simp only [szOut] at *; omega))) ⟨⟨⟨rfl, trivial⟩, Nat.le_of_ble_eq_true rfl⟩, rfl, trivial⟩ rfl rfl rfl rfl rfl (kMovC rfl (kDone (kSeq (kSeq (kReg (kMovC rfl (kBin rfl rfl rfl (kDone (kCondP rfl (fun g0 => kSeq (kReg (kMovC rfl (kDone (kRet (endRetA (ra := [.one (.d _)]) rfl ?_)))))) (fun g0 => kSkip (kSeq (kReg (kFadP rfl rfl (kLoadP rfl rfl rfl (kMovC rfl (kCallD (ok_laws_szName _ _ (by first | assumption | omega | solve_by_elim [List.getElem_mem] | (simp only [szOut] at *; omega)) (by first | assumption | omega | solve_by_elim [List.getElem_mem] | (simp only [szOut] at *; omega)) (by first | assumption | omega | solve_by_elim [List.getElem_mem] | (simp only [szOut] at *; omega)) (by first | assumption | omega | solve_by_elim [List.getElem_mem] | (simp only [szOut] at *; omega))) ⟨⟨⟨rfl, trivial⟩, Nat.le_of_ble_eq_true rfl⟩, rfl, trivial⟩ rfl rfl rfl rfl rfl (kMovC rfl (kDone (kSeq (kSeq (kReg (kMovC rfl (kBin rfl rfl rfl (kDone (kCondP rfl (fun g1 => kSeq (kReg (kMovC rfl (kDone (kRet (endRetA (ra := [.one (.d _)]) rfl ?_)))))) (fun g1 => kSkip (kSeq (kReg (kFadP rfl rfl (kLoadP rfl rfl rfl (kMovC rfl (kCallD (ok_laws_szByteS _ _ (by first | assumption | omega | solve_by_elim [List.getElem_mem] | (simp only [szOut] at *; omega)) (by first | assumption | omega | solve_by_elim [List.getElem_mem] | (simp only [szOut] at *; omega)) (by first | assumption | omega | solve_by_elim [List.getElem_mem] | (simp only [szOut] at *; omega))) ⟨rfl, rfl, trivial⟩ rfl rfl rfl rfl rfl (kMovC rfl (kDone (kSeq (kSeq (kReg (kMovC rfl (kBin rfl rfl rfl (kDone (kCondP rfl (fun g2 => kSeq (kReg (kMovC rfl (kDone (kRet (endRetA (ra := [.one (.d _)]) rfl ?_)))))) (fun g2 => kSkip (kSeq (kReg (kFadP rfl rfl (kLoadP rfl rfl rfl (kMovC rfl (kCallD (ok_laws_szIntS _ _ (by first | assumption | omega | solve_by_elim [List.getElem_mem] | (simp only [szOut] at *; omega)) (by first | assumption | omega | solve_by_elim [List.getElem_mem] | (simp only [szOut] at *; omega)) (by first | assumption | omega | solve_by_elim [List.getElem_mem] | (simp only [szOut] at *; omega))) ⟨rfl, rfl, trivial⟩ rfl rfl rfl rfl rfl (kMovC rfl (kDone (kSeq (kSeq (kReg (kMovC rfl (kBin rfl rfl rfl (kDone (kCondP rfl (fun g3 => kSeq (kReg (kMovC rfl (kDone (kRet (endRetA (ra := [.one (.d _)]) rfl ?_)))))) (fun g3 => kSkip (kSeq (kReg (kMovC rfl (kMovC rfl (kDone (kRet (endRetA (ra := [.one (.d _)]) rfl ?_)))))))))))))))))))))))))))))))))))))))))))))))))))))))))))))))))))))))))))
  all_goals (refine congrArg (fun z : Int => [RA.one (RV.d (DV.sc (Value.int IntKind.i64 z)))]) ?_; simp only [costR, costBB, szOut] at *; omega)

def c_laws_szRrS : C := (.seq (.reg false (.op 0 [] (some 4) none false (.mov (.v (.int .i64 0)))
  .done))
 (.seq (.reg false (.op 0 [] (some 6) none false (.mov (.t 1))
  (.op 1 [] (some 7) none false (.mov (.t 0))
  (.op 2 [] (some 8) none false (.len (.t 7))
  (.op 3 [] (some 9) none false (.bin .sub (.t 6) (.t 8))
  (.op 4 [] (some 1) none false (.mov (.t 9))
  .done))))))
 (.seq (.seq (.reg false (.op 0 [] (some 10) none false (.mov (.t 1))
  (.op 1 [] (some 11) none false (.bin .lss (.t 10) (.v (.int .i64 0)))
  .done)))
 (.cond (.t 11)
 (.seq (.reg false (.op 0 [] (some 4) none false (.mov (.v (.int .i64 (-1))))
  .done))
 .ret)
 .skip))
 (.seq (.seq (.reg false (.op 0 [] (some 5) none false (.mov (.v (.int .i64 0)))
  .done))
 (.block 0 (.loop (.seq (.seq (.reg false (.op 0 [] (some 12) none false (.mov (.t 5))
  (.op 1 [] (some 13) none false (.mov (.t 0))
  (.op 2 [] (some 14) none false (.len (.t 13))
  (.op 3 [] (some 15) none false (.bin .lss (.t 12) (.t 14))
  .done)))))
 (.cond (.t 15)
 .skip
 (.exit 0)))
 (.seq (.block 1 (.seq (.reg false (.op 0 [] (some 18) none false (.mov (.t 0))
  (.op 1 [] (some 19) none false (.mov (.t 5))
  (.op 2 [] (some 20) none false (.iad 7 (.t 18) (.t 19))
  (.op 3 [] (some 21) none false (.load (some 7) (.t 20))
  (.op 4 [] (some 22) none false (.mov (.t 1))
  (.op 5 [] (some 23) none false (.call 23 35 [(.t 21), (.t 22)])
  (.op 6 [] (some 1) none false (.mov (.t 23))
  .done))))))))
 (.seq (.reg false (.op 0 [] (some 24) none false (.mov (.t 1))
  (.op 1 [] (some 25) none false (.bin .lss (.t 24) (.v (.int .i64 0)))
  .done)))
 (.cond (.t 25)
 (.seq (.reg false (.op 0 [] (some 4) none false (.mov (.v (.int .i64 (-1))))
  .done))
 .ret)
 .skip))))
 (.reg false (.op 0 [] (some 16) none false (.mov (.t 5))
  (.op 1 [] (some 17) none false (.bin .add (.t 16) (.v (.int .i64 1)))
  (.op 2 [] (some 5) none false (.mov (.t 17))
  .done)))))))))
 (.seq (.reg false (.op 0 [] (some 26) none false (.mov (.t 1))
  (.op 1 [] (some 4) none false (.mov (.t 26))
  .done)))
 .ret)))))
theorem dg_laws_szRrS : Tryz.f48.body.bind (digC Tryz.prog Tryz.f48.ntmps []) = some c_laws_szRrS := by kernel_rfl
theorem rs_laws_szRrS : resSlots Tryz.prog Tryz.f48 = some [.s 4] := by kernel_rfl
theorem ok_laws_szRrS (a : List Rr) (n : Int) (hb : BigRs a) (h0 : 0 ≤ n) (h1 : n ≤ 4194304) :
    FnOK Tryz.prog 48 [.one (.d (encR a)), .one (.d (.sc (.int .i64 n)))] (fun ra _ => ra = [.one (.d (.sc (.int .i64 (szOut n (a.length + costRs a)))))]) := by
  refine FnOK.ofK Tryz.func48 (by kernel_rfl) dg_laws_szRrS rs_laws_szRrS rfl rfl ?_
  unfold c_laws_szRrS
  have ha := hb.len
  refine kSeq (kReg (kMovC rfl (kDone (kSeq (kReg (kMovC rfl (kMovC rfl (kLenR rfl rfl (kDif rfl rfl (by omega) (kMovC rfl (kDone (kSeq (kSeq (kReg (kMovC rfl (kBin rfl rfl rfl (kDone (kCondP rfl (fun g0 => kSeq (kReg (kMovC rfl (kDone (kRet (endRetA (ra := [.one (.d _)]) rfl ?_)))))) (fun g0 => kSkip (kSeq (kSeq (kReg (kMovC rfl (kDone (kBlock ?_)))))))))))))))))))))))))
  · rw [szOut, if_pos (by omega)]
  refine kLoop (α := { i : Nat // i ≤ a.length ∧ 0 ≤ n - a.length - costRs (a.take i) })
    (fun y => ⟨tabSl [(0, .dv (encR a)), (1, .i (n - a.length - costRs (a.take y.1))), (5, .i y.1)], obTab 1 [], []⟩) (fun y => a.length - y.1) ⟨0, by simp [costRs]; omega⟩
    .normA ?_
  rintro ⟨i, hi, hs⟩
  simp only
  rcases Nat.lt_or_ge i a.length with hlt | hge
  · have hbi := hb.mem _ (List.getElem_mem hlt)
    have e1 := costRs_take a i hlt
    have e2 := costRs_le a (i + 1)
    refine kSeq (kSeq (kReg (kMovC rfl (kMovC rfl (kLenR rfl rfl (kBin rfl rfl rfl (kDone (kCondP rfl (fun g0 => kSkip (kSeq (kBlock (kSeq (kReg (kMovC rfl (kMovC rfl (kIadR rfl rfl rfl (by omega) (kLoadD rfl rfl (kMovC rfl (kCallD (ok_laws_szRr _ _ (by first | assumption | omega | solve_by_elim [List.getElem_mem] | (simp only [szOut] at *; omega)) (by first | assumption | omega | solve_by_elim [List.getElem_mem] | (simp only [szOut] at *; omega)) (by first | assumption | omega | solve_by_elim [List.getElem_mem] | (simp only [szOut] at *; omega))) ⟨⟨⟨rfl, rfl, rfl, rfl, rfl, rfl, rfl, trivial⟩, Nat.le_of_ble_eq_true rfl⟩, rfl, trivial⟩ rfl rfl rfl rfl rfl (kMovC rfl (kDone (kSeq (kReg (kMovC rfl (kBin rfl rfl rfl (kDone (kCondP rfl (fun g1 => kSeq (kReg (kMovC rfl (kDone (kRet (endRetA (ra := [.one (.d _)]) rfl ?_)))))) (fun g1 => kSkip (kBk (kReg (kMovC rfl (kAdd rfl rfl (by omega) (kMovC rfl (kDone ?_)))))))))))))))))))))))))) (fun g0 => (by omega))))))))))
    · rw [szOut_lt_iff] at g1
      rw [szOut_one (by omega)]
    · rw [szOut_lt_iff] at g1
      refine kInv ⟨⟨i + 1, by omega, by omega⟩, by simp only; omega, .norm ?_ ?_⟩
      · refine ⟨⟨_, rfl, .inl rfl⟩, ⟨_, rfl, .inl (congrArg (fun z : Int => AC.d (.sc (.int .i64 z))) ?_)⟩, ⟨_, rfl, .inl rfl⟩, trivial⟩
        rw [szOut_pos (by omega)]; simp only; omega
      · exact trivial
  · refine kSeq (kSeq (kReg (kMovC rfl (kMovC rfl (kLenR rfl rfl (kBin rfl rfl rfl (kDone (kCondP rfl (fun g0 => (by omega)) (fun g0 => kExit (kExC (kExI (kExB (kSeq (kReg (kMovC rfl (kMovC rfl (kDone (kRet (endRetA (ra := [.one (.d _)]) rfl ?_)))))))))))))))))))
    have e : i = a.length := by omega
    subst e
    rw [List.take_length] at *
    refine congrArg (fun z : Int => [RA.one (RV.d (DV.sc (Value.int IntKind.i64 z)))]) ?_
    rw [szOut_pos (by omega)]; omega

def c_laws_szZone : C := (.seq (.reg false (.op 0 [] (some 2) none false (.box 2 (.t 0))
  (.op 1 [] (some 4) none false (.mov (.v (.int .i64 0)))
  .done)))
 (.seq (.reg false (.op 0 [] (some 5) none false (.fad (.t 2) 0)
  (.op 1 [] (some 6) none false (.load (some 1) (.t 5))
  (.op 2 [] (some 7) none false (.mov (.t 1))
  (.op 3 [] (some 8) none false (.call 8 29 [(.t 6), (.t 7)])
  (.op 4 [] (some 1) none false (.mov (.t 8))
  .done))))))
 (.seq (.seq (.reg false (.op 0 [] (some 9) none false (.mov (.t 1))
  (.op 1 [] (some 10) none false (.bin .lss (.t 9) (.v (.int .i64 0)))
  .done)))
 (.cond (.t 10)
 (.seq (.reg false (.op 0 [] (some 4) none false (.mov (.v (.int .i64 (-1))))
  .done))
 .ret)
 .skip))
 (.seq (.reg false (.op 0 [] (some 11) none false (.fad (.t 2) 1)
  (.op 1 [] (some 12) none false (.load none (.t 11))
  (.op 2 [] (some 13) none false (.mov (.t 1))
  (.op 3 [] (some 14) none false (.call 14 48 [(.t 12), (.t 13)])
  (.op 4 [] (some 1) none false (.mov (.t 14))
  .done))))))
 (.seq (.seq (.reg false (.op 0 [] (some 15) none false (.mov (.t 1))
  (.op 1 [] (some 16) none false (.bin .lss (.t 15) (.v (.int .i64 0)))
  .done)))
 (.cond (.t 16)
 (.seq (.reg false (.op 0 [] (some 4) none false (.mov (.v (.int .i64 (-1))))
  .done))
 .ret)
 .skip))
 (.seq (.reg false (.op 0 [] (some 17) none false (.mov (.t 1))
  (.op 1 [] (some 4) none false (.mov (.t 17))
  .done)))
 .ret))))))
theorem dg_laws_szZone : Tryz.f10.body.bind (digC Tryz.prog Tryz.f10.ntmps []) = some c_laws_szZone := by kernel_rfl
theorem rs_laws_szZone : resSlots Tryz.prog Tryz.f10 = some [.s 4] := by kernel_rfl
theorem ok_laws_szZone (z : Zone) (n : Int) (hb : BigZ z) (h0 : 0 ≤ n) (h1 : n ≤ 4194304) :
    FnOK Tryz.prog 10 [.agg (z.cells.map .d), .one (.d (.sc (.int .i64 n)))] (fun ra _ => ra = [.one (.d (.sc (.int .i64 (szOut n (costZ z)))))]) := by
  refine FnOK.ofK Tryz.func10 (by kernel_rfl) dg_laws_szZone rs_laws_szZone rfl rfl ?_
  unfold c_laws_szZone
  have b1 := hb.o.len
  have b2 := hb.o.mem
  have b3 := hb.r
  refine kSeq (kReg (kBox rfl rfl rfl rfl rfl (kMovC rfl (kDone (kSeq (kReg (kFadP rfl rfl (kLoadP rfl rfl rfl (kMovC rfl (kCallD (ok_laws_szName _ _ (by first | assumption | omega | solve_by_elim [List.getElem_mem] | (simp only [szOut] at *; omega)) (by first | assumption | omega | solve_by_elim [List.getElem_mem] | (simp only [szOut] at *; omega)) (by first | assumption | omega | solve_by_elim [List.getElem_mem] | (simp only [szOut] at *; omega)) (by first | assumption | omega | solve_by_elim [List.getElem_mem] | (simp only [szOut] at *; omega))) ⟨⟨⟨rfl, trivial⟩, Nat.le_of_ble_eq_true rfl⟩, rfl, trivial⟩ rfl rfl rfl rfl rfl (kMovC rfl (kDone (kSeq (kSeq (kReg (kMovC rfl (kBin rfl rfl rfl (kDone (kCondP rfl (fun g0 => kSeq (kReg (kMovC rfl (kDone (kRet (endRetA (ra := [.one (.d _)]) rfl ?_)))))) (fun g0 => kSkip (kSeq (kReg (kFadP rfl rfl (kMem [(12288, ⟨1, 0, .box [.d _, .d _]⟩)] [(11, .c (.ptr 12288 1 1)), (1, .c (.d _)), (12, .c (.un)), (13, .c (.un)), (14, .c (.un))] [] ⟨rfl, trivial⟩ ⟨rfl, rfl, rfl, rfl, rfl, trivial⟩ rfl (kLoadP rfl rfl rfl (kMovC rfl (kCallD (ok_laws_szRrS _ _ (by first | assumption | omega | solve_by_elim [List.getElem_mem] | (simp only [szOut] at *; omega)) (by first | assumption | omega | solve_by_elim [List.getElem_mem] | (simp only [szOut] at *; omega)) (by first | assumption | omega | solve_by_elim [List.getElem_mem] | (simp only [szOut] at *; omega))) ⟨rfl, rfl, trivial⟩ rfl rfl rfl rfl rfl (kMovC rfl (kDone (kSeq (kSeq (kReg (kMovC rfl (kBin rfl rfl rfl (kDone (kCondP rfl (fun g1 => kSeq (kReg (kMovC rfl (kDone (kRet (endRetA (ra := [.one (.d _)]) rfl ?_)))))) (fun g1 => kSkip (kSeq (kReg (kMovC rfl (kMovC rfl (kDone (kRet (endRetA (ra := [.one (.d _)]) rfl ?_))))))))))))))))))))))))))))))))))))))))))))
  all_goals (refine congrArg (fun z : Int => [RA.one (RV.d (DV.sc (Value.int IntKind.i64 z)))]) ?_; clear b1 b2 b3 hb; simp only [costZ, costBB, szOut] at *; omega)

def c_spec_LabelOk : C := (.seq (.reg false (.op 0 [] (some 2) none false (.mov (.v (.bool false)))
  .done))
 (.seq (.seq (.reg false (.op 0 [] (some 4) none false (.mov (.t 0))
  (.op 1 [] (some 5) none false (.len (.t 4))
  (.op 2 [] (some 6) none false (.bin .lss (.t 5) (.v (.int .i64 1)))
  (.op 3 [] (some 7) none false (.mov (.t 6))
  (.op 4 [] (some 8) (some (7, false)) false (.mov (.t 0))
  (.op 5 [] (some 9) (some (7, false)) false (.len (.t 8))
  (.op 6 [] (some 10) (some (7, false)) false (.bin .gtr (.t 9) (.v (.int .i64 15)))
  (.op 7 [] (some 11) none false (.pick (.t 7) (.v (.bool true)) (.t 10))
  .done)))))))))
 (.cond (.t 11)
 (.seq (.reg false (.op 0 [] (some 2) none false (.mov (.v (.bool false)))
  .done))
 .ret)
 .skip))
 (.seq (.seq (.reg false (.op 0 [] (some 3) none false (.mov (.v (.int .i64 0)))
  .done))
 (.block 0 (.loop (.seq (.seq (.reg false (.op 0 [] (some 12) none false (.mov (.t 3))
  (.op 1 [] (some 13) none false (.mov (.t 0))
  (.op 2 [] (some 14) none false (.len (.t 13))
  (.op 3 [] (some 15) none false (.bin .lss (.t 12) (.t 14))
  .done)))))
 (.cond (.t 15)
 .skip
 (.exit 0)))
 (.seq (.block 1 (.seq (.reg false (.op 0 [] (some 18) none false (.mov (.t 0))
  (.op 1 [] (some 19) none false (.mov (.t 3))
  (.op 2 [] (some 20) none false (.iad 1 (.t 18) (.t 19))
  (.op 3 [] (some 21) none false (.load none (.t 20))
  (.op 4 [] (some 22) none false (.bin .geq (.t 21) (.v (.int .u8 97)))
  (.op 5 [] (some 23) none false (.mov (.t 22))
  (.op 6 [] (some 24) (some (23, true)) false (.mov (.t 0))
  (.op 7 [] (some 25) (some (23, true)) false (.mov (.t 3))
  (.op 8 [] (some 26) (some (23, true)) false (.iad 1 (.t 24) (.t 25))
  (.op 9 [] (some 27) (some (23, true)) false (.load none (.t 26))
  (.op 10 [] (some 28) (some (23, true)) false (.bin .leq (.t 27) (.v (.int .u8 122)))
  (.op 11 [] (some 29) none false (.pick (.t 23) (.t 28) (.v (.bool false)))
  (.op 12 [] (some 30) none false (.un .not (.t 29))
  (.op 13 [] (some 31) none false (.mov (.t 30))
  (.op 14 [] (some 32) (some (31, true)) false (.mov (.t 0))
  (.op 15 [] (some 33) (some (31, true)) false (.mov (.t 3))
  (.op 16 [] (some 34) (some (31, true)) false (.iad 1 (.t 32) (.t 33))
  (.op 17 [] (some 35) (some (31, true)) false (.load none (.t 34))
  (.op 18 [] (some 36) (some (31, true)) false (.bin .geq (.t 35) (.v (.int .u8 48)))
  (.op 19 [] (some 37) (some (31, true)) false (.mov (.t 36))
  (.op 20 [] (some 38) (some (37, true)) false (.mov (.t 0))
  (.op 21 [] (some 39) (some (37, true)) false (.mov (.t 3))
  (.op 22 [] (some 40) (some (37, true)) false (.iad 1 (.t 38) (.t 39))
  (.op 23 [] (some 41) (some (37, true)) false (.load none (.t 40))
  (.op 24 [] (some 42) (some (37, true)) false (.bin .leq (.t 41) (.v (.int .u8 57)))
  (.op 25 [] (some 43) (some (31, true)) false (.pick (.t 37) (.t 42) (.v (.bool false)))
  (.op 26 [] (some 44) (some (31, true)) false (.un .not (.t 43))
  (.op 27 [] (some 45) none false (.pick (.t 31) (.t 44) (.v (.bool false)))
  (.op 28 [] (some 46) none false (.mov (.t 45))
  (.op 29 [] (some 47) (some (46, true)) false (.mov (.t 0))
  (.op 30 [] (some 48) (some (46, true)) false (.mov (.t 3))
  (.op 31 [] (some 49) (some (46, true)) false (.iad 1 (.t 47) (.t 48))
  (.op 32 [] (some 50) (some (46, true)) false (.load none (.t 49))
  (.op 33 [] (some 51) (some (46, true)) false (.bin .neq (.t 50) (.v (.int .u8 45)))
  (.op 34 [] (some 52) none false (.pick (.t 46) (.t 51) (.v (.bool false)))
  .done))))))))))))))))))))))))))))))))))))
 (.cond (.t 52)
 (.seq (.reg false (.op 0 [] (some 2) none false (.mov (.v (.bool false)))
  .done))
 .ret)
 .skip)))
 (.reg false (.op 0 [] (some 16) none false (.mov (.t 3))
  (.op 1 [] (some 17) none false (.bin .add (.t 16) (.v (.int .i64 1)))
  (.op 2 [] (some 3) none false (.mov (.t 17))
  .done)))))))))
 (.seq (.reg false (.op 0 [] (some 2) none false (.mov (.v (.bool true)))
  .done))
 .ret))))
theorem dg_spec_LabelOk : Tryz.f137.body.bind (digC Tryz.prog Tryz.f137.ntmps []) = some c_spec_LabelOk := by kernel_rfl
theorem rs_spec_LabelOk : resSlots Tryz.prog Tryz.f137 = some [.s 2] := by kernel_rfl
theorem ok_spec_LabelOk (b : List UInt8) (hb : b.length ≤ 4194304) :
    FnOK Tryz.prog 137 [.one (.d (encB b))] (fun ra _ => ra = [.one (.d (.sc (.bool (labelOk b))))]) := by
  refine FnOK.ofK Tryz.func137 (by kernel_rfl) dg_spec_LabelOk rs_spec_LabelOk rfl rfl ?_
  unfold c_spec_LabelOk
  refine kSeq (kReg (kMovC rfl (kDone (kSeq (kSeq (kReg (kMovC rfl (kLenR rfl rfl (kBin rfl rfl rfl (kMovC rfl (kGP rfl (fun g0 => kGF rfl (kGF rfl (kGF rfl (kPickT rfl (kMovC rfl (kDone (kCondT rfl (kSeq (kReg (kMovC rfl (kDone (kRet (endRetA (ra := [.one (.d _)]) rfl ?_))))))))))))) (fun g0 => kGT rfl (kMovC rfl (kGT rfl (kLenR rfl rfl (kGT rfl (kBin rfl rfl rfl (kPickF rfl (kMovC rfl (kDone (kCondP rfl (fun g1 => kSeq (kReg (kMovC rfl (kDone (kRet (endRetA (ra := [.one (.d _)]) rfl ?_)))))) (fun g1 => kSkip (kSeq (kSeq (kReg (kMovC rfl (kDone (kBlock ?_))))))))))))))))))))))))))))
  · rw [show labelOk b = false by simp only [labelOk]; rw [decide_eq_false (by omega)]; rfl]
  · rw [show labelOk b = false by simp only [labelOk]; rw [decide_eq_false (p := b.length ≤ 15) (by omega)]; simp]
  refine kLoop (α := { i : Nat // i ≤ b.length ∧ (b.take i).all okLetter = true })
    (fun y => ⟨tabSl [(0, .dv (encB b)), (3, .i y.1)], (St.init [.one (.d (encB b))]).ob, []⟩) (fun y => b.length - y.1) ⟨0, by simp⟩
    (.tab rfl ⟨.refl _, .refl _, trivial⟩) ?_
  rintro ⟨i, hi, hl⟩
  simp only
  refine kSeq (kSeq (kReg (kMovC rfl (kMovC rfl (kLenR rfl rfl (kBin rfl rfl rfl (kDone (kCondP rfl (fun g0 => kSkip (kSeq (kBlock (kSeq (kReg (kMovC rfl (kMovC rfl (kIadR rfl rfl rfl (by omega) (kLoadD rfl rfl (kBin rfl rfl rfl (kMovC rfl (kGP rfl (fun g1 => kGT rfl (kMovC rfl (kGT rfl (kMovC rfl (kGT rfl (kIadR rfl rfl rfl (by omega) (kGT rfl (kLoadD rfl rfl (kGT rfl (kBin rfl rfl rfl (kPickT rfl (kMovC rfl (kUn rfl rfl (kMovC rfl (kGN rfl (fun g2 => kGT rfl (kMovC rfl (kGT rfl (kMovC rfl (kGT rfl (kIadR rfl rfl rfl (by omega) (kGT rfl (kLoadD rfl rfl (kGT rfl (kBin rfl rfl rfl (kGT rfl (kMovC rfl (kGP rfl (fun g3 => kGT rfl (kMovC rfl (kGT rfl (kMovC rfl (kGT rfl (kIadR rfl rfl rfl (by omega) (kGT rfl (kLoadD rfl rfl (kGT rfl (kBin rfl rfl rfl (kGT rfl (kPickT rfl (kMovC rfl (kGT rfl (kUn rfl rfl (kPickT rfl (kMovC rfl (kMovC rfl (kGN rfl (fun g4 => kGT rfl (kMovC rfl (kGT rfl (kMovC rfl (kGT rfl (kIadR rfl rfl rfl (by omega) (kGT rfl (kLoadD rfl rfl (kGT rfl (kBin rfl rfl rfl (kPickT rfl (kMovC rfl (kDone (kCondN rfl (fun g5 => kSeq (kReg (kMovC rfl (kDone (kRet (endRetA (ra := [.one (.d _)]) rfl ?_)))))) (fun g5 => kSkip (kBk (kReg (kMovC rfl (kAdd rfl rfl (by omega) (kMovC rfl (kDone ?_))))))))))))))))))))) (fun g4 => kGF rfl (kGF rfl (kGF rfl (kGF rfl (kGF rfl (kPickF rfl (kMovC rfl (kDone (kCondF rfl (kSkip (kBk (kReg (kMovC rfl (kAdd rfl rfl (by omega) (kMovC rfl (kDone ?_))))))))))))))))))))))))))))))))))) (fun g3 => (by omega))))))))))))))) (fun g2 => kGF rfl (kGF rfl (kGF rfl (kGF rfl (kGF rfl (kGF rfl (kGU rfl (kGU rfl (kGU rfl (kGU rfl (kGU rfl (kGF rfl (kGF rfl (kPickF rfl (kMovC rfl (kMovC rfl (kGF rfl (kGF rfl (kGF rfl (kGF rfl (kGF rfl (kPickF rfl (kMovC rfl (kDone (kCondF rfl (kSkip (kBk (kReg (kMovC rfl (kAdd rfl rfl (by omega) (kMovC rfl (kDone ?_))))))))))))))))))))))))))))))))))))))))))))))) (fun g1 => kGF rfl (kGF rfl (kGF rfl (kGF rfl (kGF rfl (kPickF rfl (kMovC rfl (kUn rfl rfl (kMovC rfl (kGT rfl (kMovC rfl (kGT rfl (kMovC rfl (kGT rfl (kIadR rfl rfl rfl (by omega) (kGT rfl (kLoadD rfl rfl (kGT rfl (kBin rfl rfl rfl (kGT rfl (kMovC rfl (kGP rfl (fun g6 => kGT rfl (kMovC rfl (kGT rfl (kMovC rfl (kGT rfl (kIadR rfl rfl rfl (by omega) (kGT rfl (kLoadD rfl rfl (kGT rfl (kBin rfl rfl rfl (kGT rfl (kPickT rfl (kMovC rfl (kGT rfl (kUn rfl rfl (kPickT rfl (kMovC rfl (kMovC rfl (kGN rfl (fun g7 => kGT rfl (kMovC rfl (kGT rfl (kMovC rfl (kGT rfl (kIadR rfl rfl rfl (by omega) (kGT rfl (kLoadD rfl rfl (kGT rfl (kBin rfl rfl rfl (kPickT rfl (kMovC rfl (kDone (kCondN rfl (fun g8 => kSeq (kReg (kMovC rfl (kDone (kRet (endRetA (ra := [.one (.d _)]) rfl ?_)))))) (fun g8 => kSkip (kBk (kReg (kMovC rfl (kAdd rfl rfl (by omega) (kMovC rfl (kDone ?_))))))))))))))))))))) (fun g7 => kGF rfl (kGF rfl (kGF rfl (kGF rfl (kGF rfl (kPickF rfl (kMovC rfl (kDone (kCondF rfl (kSkip (kBk (kReg (kMovC rfl (kAdd rfl rfl (by omega) (kMovC rfl (kDone ?_))))))))))))))))))))))))))))))))))) (fun g6 => kGF rfl (kGF rfl (kGF rfl (kGF rfl (kGF rfl (kGT rfl (kPickF rfl (kMovC rfl (kGT rfl (kUn rfl rfl (kPickT rfl (kMovC rfl (kMovC rfl (kGT rfl (kMovC rfl (kGT rfl (kMovC rfl (kGT rfl (kIadR rfl rfl rfl (by omega) (kGT rfl (kLoadD rfl rfl (kGT rfl (kBin rfl rfl rfl (kPickT rfl (kMovC rfl (kDone (kCondN rfl (fun g9 => kSeq (kReg (kMovC rfl (kDone (kRet (endRetA (ra := [.one (.d _)]) rfl ?_)))))) (fun g9 => kSkip (kBk (kReg (kMovC rfl (kAdd rfl rfl (by omega) (kMovC rfl (kDone ?_)))))))))))))))))))))))))))))))))))))))))))))))))))))))))))))))))))) (fun g0 => kExit (kExC (kExI (kExB (kSeq (kReg (kMovC rfl (kDone (kRet (endRetA (ra := [.one (.d _)]) rfl ?_))))))))))))))))))
  all_goals try simp only [decide_eq_true_eq, decide_eq_false_iff_not, beq_iff_eq, beq_eq_false_iff_ne] at *
  all_goals first
    | exact kInv ⟨⟨i + 1, by omega, labelOk_step (by omega) hl (by rw [okLetter_iff]; omega)⟩, by simp only; omega, .tab rfl ⟨.refl _, .refl _, trivial⟩⟩
    | rw [labelOk_no (b := b) (i := i) (by omega) (by rw [okLetter_iff]; omega)]
    | skip
  have hge : i = b.length := by omega
  subst hge
  rw [List.take_length] at hl
  rw [show labelOk b = true by simp only [labelOk]; rw [decide_eq_true (by omega), decide_eq_true (by omega), hl]; rfl]

def c_spec_NameOk : C := (.seq (.reg false (.op 0 [] (some 1) none false (.box 1 (.t 0))
  (.op 1 [] (some 2) none false (.mov (.v (.bool false)))
  .done)))
 (.seq (.seq (.reg false (.op 0 [] (some 4) none false (.fad (.t 1) 0)
  (.op 1 [] (some 5) none false (.load none (.t 4))
  (.op 2 [] (some 6) none false (.len (.t 5))
  (.op 3 [] (some 7) none false (.bin .gtr (.t 6) (.v (.int .i64 6)))
  .done)))))
 (.cond (.t 7)
 (.seq (.reg false (.op 0 [] (some 2) none false (.mov (.v (.bool false)))
  .done))
 .ret)
 .skip))
 (.seq (.seq (.reg false (.op 0 [] (some 3) none false (.mov (.v (.int .i64 0)))
  .done))
 (.block 0 (.loop (.seq (.seq (.reg false (.op 0 [] (some 8) none false (.mov (.t 3))
  (.op 1 [] (some 9) none false (.fad (.t 1) 0)
  (.op 2 [] (some 10) none false (.load none (.t 9))
  (.op 3 [] (some 11) none false (.len (.t 10))
  (.op 4 [] (some 12) none false (.bin .lss (.t 8) (.t 11))
  .done))))))
 (.cond (.t 12)
 .skip
 (.exit 0)))
 (.seq (.block 1 (.seq (.reg false (.op 0 [] (some 15) none false (.fad (.t 1) 0)
  (.op 1 [] (some 16) none false (.load none (.t 15))
  (.op 2 [] (some 17) none false (.mov (.t 3))
  (.op 3 [] (some 18) none false (.iad 1 (.t 16) (.t 17))
  (.op 4 [] (some 19) none false (.load none (.t 18))
  (.op 5 [] (some 20) none false (.call 20 137 [(.t 19)])
  (.op 6 [] (some 21) none false (.un .not (.t 20))
  .done))))))))
 (.cond (.t 21)
 (.seq (.reg false (.op 0 [] (some 2) none false (.mov (.v (.bool false)))
  .done))
 .ret)
 .skip)))
 (.reg false (.op 0 [] (some 13) none false (.mov (.t 3))
  (.op 1 [] (some 14) none false (.bin .add (.t 13) (.v (.int .i64 1)))
  (.op 2 [] (some 3) none false (.mov (.t 14))
  .done)))))))))
 (.seq (.reg false (.op 0 [] (some 2) none false (.mov (.v (.bool true)))
  .done))
 .ret))))
theorem dg_spec_NameOk : Tryz.f79.body.bind (digC Tryz.prog Tryz.f79.ntmps []) = some c_spec_NameOk := by kernel_rfl
theorem rs_spec_NameOk : resSlots Tryz.prog Tryz.f79 = some [.s 2] := by kernel_rfl
theorem ok_spec_NameOk (a : List (List UInt8)) (ha : a.length ≤ 4194304) (hb : ∀ b ∈ a, b.length ≤ 4194304) :
    FnOK Tryz.prog 79 [.agg [.d (encBB a)]] (fun ra _ => ra = [.one (.d (.sc (.bool (nameOk a))))]) := by
  refine FnOK.ofK Tryz.func79 (by kernel_rfl) dg_spec_NameOk rs_spec_NameOk rfl rfl ?_
  unfold c_spec_NameOk
  refine kSeq (kReg (kBox rfl rfl rfl rfl rfl (kMovC rfl (kDone (kSeq (kSeq (kReg (kFadP rfl rfl (kLoadP rfl rfl rfl (kLenR rfl rfl (kBin rfl rfl rfl (kDone (kCondP rfl (fun g0 => kSeq (kReg (kMovC rfl (kDone (kRet (endRetA (ra := [.one (.d _)]) rfl ?_)))))) (fun g0 => kSkip (kSeq (kSeq (kReg (kMovC rfl (kDone (kBlock ?_))))))))))))))))))))
  · rw [show nameOk a = false by simp only [nameOk]; rw [decide_eq_false (by omega)]; rfl]
  refine kLoop (α := { i : Nat // i ≤ a.length ∧ (a.take i).all labelOk = true })
    (fun y => ⟨tabSl [(1, .c (.ptr (rid 1 0) 1 0)), (3, .i y.1)], obTab 1 [(rid 1 0, ⟨1, 0, .box [.d (encBB a)]⟩)], []⟩) (fun y => a.length - y.1) ⟨0, by simp⟩
    .normA ?_
  rintro ⟨i, hi, hl⟩
  simp only
  refine kSeq (kSeq (kReg (kMovC rfl (kFadP rfl rfl (kLoadP rfl rfl rfl (kLenR rfl rfl (kBin rfl rfl rfl (kDone (kCondP rfl (fun g0 => kSkip (kSeq (kBlock (kSeq (kReg (kFadP rfl rfl (kLoadP rfl rfl rfl (kMovC rfl (kIadR rfl rfl rfl (by omega) (kLoadD rfl rfl (kCallD (ok_spec_LabelOk _ (by first | assumption | omega | solve_by_elim [List.getElem_mem])) ⟨rfl, trivial⟩ rfl rfl rfl rfl rfl (kUn rfl rfl (kDone (kCondN rfl (fun g1 => kSeq (kReg (kMovC rfl (kDone (kRet (endRetA (ra := [.one (.d _)]) rfl ?_)))))) (fun g1 => kSkip (kBk (kReg (kMovC rfl (kAdd rfl rfl (by omega) (kMovC rfl (kDone ?_))))))))))))))))))))) (fun g0 => kExit (kExC (kExI (kExB (kSeq (kReg (kMovC rfl (kDone (kRet (endRetA (ra := [.one (.d _)]) rfl ?_)))))))))))))))))))
  · rename_i h
    rw [show nameOk a = false by simp only [nameOk]; rw [all_no (i := i) (by omega) (by assumption), Bool.and_false]]
  · exact kInv ⟨⟨i + 1, by omega, all_step (by omega) hl (by assumption)⟩, by simp only; omega, .normA⟩
  · have hge : i = a.length := by omega
    subst hge
    rw [List.take_length] at hl
    rw [show nameOk a = true by simp only [nameOk]; rw [decide_eq_true (by omega), hl]; rfl]

def c_spec_TypeOk : C := (.seq (.reg false (.op 0 [] (some 2) none false (.mov (.v (.bool false)))
  .done))
 (.seq (.seq (.reg false (.op 0 [] (some 3) none false (.mov (.t 0))
  .done))
 (.block 0 (.seq (.seq (.reg false (.op 0 [] (some 5) none false (.bin .eql (.t 3) (.v (.int .i64 1)))
  (.op 1 [] (some 4) none false (.mov (.t 5))
  .done)))
 (.cond (.t 4)
 .skip
 (.seq (.reg false (.op 0 [] (some 6) none false (.bin .eql (.t 3) (.v (.int .i64 2)))
  (.op 1 [] (some 4) none false (.mov (.t 6))
  .done)))
 (.cond (.t 4)
 .skip
 (.seq (.reg false (.op 0 [] (some 7) none false (.bin .eql (.t 3) (.v (.int .i64 5)))
  (.op 1 [] (some 4) none false (.mov (.t 7))
  .done)))
 (.cond (.t 4)
 .skip
 (.seq (.reg false (.op 0 [] (some 8) none false (.bin .eql (.t 3) (.v (.int .i64 6)))
  (.op 1 [] (some 4) none false (.mov (.t 8))
  .done)))
 (.cond (.t 4)
 .skip
 (.seq (.reg false (.op 0 [] (some 9) none false (.bin .eql (.t 3) (.v (.int .i64 12)))
  (.op 1 [] (some 4) none false (.mov (.t 9))
  .done)))
 (.cond (.t 4)
 .skip
 (.seq (.reg false (.op 0 [] (some 10) none false (.bin .eql (.t 3) (.v (.int .i64 16)))
  (.op 1 [] (some 4) none false (.mov (.t 10))
  .done)))
 (.cond (.t 4)
 .skip
 (.reg false (.op 0 [] (some 11) none false (.bin .eql (.t 3) (.v (.int .i64 49)))
  (.op 1 [] (some 4) none false (.mov (.t 11))
  .done)))))))))))))))
 (.cond (.t 4)
 (.seq (.reg false (.op 0 [] (some 2) none false (.mov (.v (.bool true)))
  .done))
 .ret)
 .skip))))
 (.seq (.reg false (.op 0 [] (some 2) none false (.mov (.v (.bool false)))
  .done))
 .ret)))
theorem dg_spec_TypeOk : Tryz.f138.body.bind (digC Tryz.prog Tryz.f138.ntmps []) = some c_spec_TypeOk := by kernel_rfl
theorem rs_spec_TypeOk : resSlots Tryz.prog Tryz.f138 = some [.s 2] := by kernel_rfl
theorem ok_spec_TypeOk (n : Int) : FnOK Tryz.prog 138 [.one (.d (.sc (.int .i64 n)))] (fun ra _ => ra = [.one (.d (.sc (.bool (tyOk n))))]) := by
  refine FnOK.ofK Tryz.func138 (by kernel_rfl) dg_spec_TypeOk rs_spec_TypeOk rfl rfl ?_
  unfold c_spec_TypeOk
  refine kSeq (kReg (kMovC rfl (kDone (kSeq (kSeq (kReg (kMovC rfl (kDone (kBlock (kSeq (kSeq (kReg (kBin rfl rfl rfl (kMovC rfl (kDone (kCondP rfl (fun g0 => kSkip (kCondP rfl (fun g1 => kSeq (kReg (kMovC rfl (kDone (kRet (endRetA (ra := [.one (.d _)]) rfl ?_)))))) (fun g1 => (by omega)))) (fun g0 => kSeq (kReg (kBin rfl rfl rfl (kMovC rfl (kDone (kCondP rfl (fun g2 => kSkip (kCondP rfl (fun g3 => kSeq (kReg (kMovC rfl (kDone (kRet (endRetA (ra := [.one (.d _)]) rfl ?_)))))) (fun g3 => (by omega)))) (fun g2 => kSeq (kReg (kBin rfl rfl rfl (kMovC rfl (kDone (kCondP rfl (fun g4 => kSkip (kCondP rfl (fun g5 => kSeq (kReg (kMovC rfl (kDone (kRet (endRetA (ra := [.one (.d _)]) rfl ?_)))))) (fun g5 => (by omega)))) (fun g4 => kSeq (kReg (kBin rfl rfl rfl (kMovC rfl (kDone (kCondP rfl (fun g6 => kSkip (kCondP rfl (fun g7 => kSeq (kReg (kMovC rfl (kDone (kRet (endRetA (ra := [.one (.d _)]) rfl ?_)))))) (fun g7 => (by omega)))) (fun g6 => kSeq (kReg (kBin rfl rfl rfl (kMovC rfl (kDone (kCondP rfl (fun g8 => kSkip (kCondP rfl (fun g9 => kSeq (kReg (kMovC rfl (kDone (kRet (endRetA (ra := [.one (.d _)]) rfl ?_)))))) (fun g9 => (by omega)))) (fun g8 => kSeq (kReg (kBin rfl rfl rfl (kMovC rfl (kDone (kCondP rfl (fun g10 => kSkip (kCondP rfl (fun g11 => kSeq (kReg (kMovC rfl (kDone (kRet (endRetA (ra := [.one (.d _)]) rfl ?_)))))) (fun g11 => (by omega)))) (fun g10 => kReg (kBin rfl rfl rfl (kMovC rfl (kDone (kCondP rfl (fun g12 => kSeq (kReg (kMovC rfl (kDone (kRet (endRetA (ra := [.one (.d _)]) rfl ?_)))))) (fun g12 => kSkip (kBk (kSeq (kReg (kMovC rfl (kDone (kRet (endRetA (ra := [.one (.d _)]) rfl ?_)))))))))))))))))))))))))))))))))))))))))))))))))))))))))))
  all_goals simp_all [tyOk]

def c_spec_l3named : C := (.seq (.reg false (.op 0 [] (some 2) none false (.mov (.v (.bool false)))
  .done))
 (.seq (.reg false (.op 0 [] (some 3) none false (.mov (.t 0))
  (.op 1 [] (some 4) none false (.bin .eql (.t 3) (.v (.int .i64 2)))
  (.op 2 [] (some 5) none false (.mov (.t 4))
  (.op 3 [] (some 6) (some (5, false)) false (.mov (.t 0))
  (.op 4 [] (some 7) (some (5, false)) false (.bin .eql (.t 6) (.v (.int .i64 5)))
  (.op 5 [] (some 8) none false (.pick (.t 5) (.v (.bool true)) (.t 7))
  (.op 6 [] (some 9) none false (.mov (.t 8))
  (.op 7 [] (some 10) (some (9, false)) false (.mov (.t 0))
  (.op 8 [] (some 11) (some (9, false)) false (.bin .eql (.t 10) (.v (.int .i64 6)))
  (.op 9 [] (some 12) none false (.pick (.t 9) (.v (.bool true)) (.t 11))
  (.op 10 [] (some 13) none false (.mov (.t 12))
  (.op 11 [] (some 14) (some (13, false)) false (.mov (.t 0))
  (.op 12 [] (some 15) (some (13, false)) false (.bin .eql (.t 14) (.v (.int .i64 12)))
  (.op 13 [] (some 16) none false (.pick (.t 13) (.v (.bool true)) (.t 15))
  (.op 14 [] (some 2) none false (.mov (.t 16))
  .done))))))))))))))))
 .ret))
theorem dg_spec_l3named : Tryz.f175.body.bind (digC Tryz.prog Tryz.f175.ntmps []) = some c_spec_l3named := by kernel_rfl
theorem rs_spec_l3named : resSlots Tryz.prog Tryz.f175 = some [.s 2] := by kernel_rfl
theorem ok_spec_l3named (n : Int) : FnOK Tryz.prog 175 [.one (.d (.sc (.int .i64 n)))] (fun ra _ => ra = [.one (.d (.sc (.bool (hasTo n))))]) := by
  refine FnOK.ofK Tryz.func175 (by kernel_rfl) dg_spec_l3named rs_spec_l3named rfl rfl ?_
  unfold c_spec_l3named
  refine kSeq (kReg (kMovC rfl (kDone (kSeq (kReg (kMovC rfl (kBin rfl rfl rfl (kMovC rfl (kGP rfl (fun g0 => kGF rfl (kGF rfl (kPickT rfl (kMovC rfl (kMovC rfl (kGF rfl (kGF rfl (kPickT rfl (kMovC rfl (kMovC rfl (kGF rfl (kGF rfl (kPickT rfl (kMovC rfl (kMovC rfl (kDone (kRet (endRetA (ra := [.one (.d _)]) rfl ?_)))))))))))))))))) (fun g0 => kGT rfl (kMovC rfl (kGT rfl (kBin rfl rfl rfl (kPickF rfl (kMovC rfl (kMovC rfl (kGP rfl (fun g1 => kGF rfl (kGF rfl (kPickT rfl (kMovC rfl (kMovC rfl (kGF rfl (kGF rfl (kPickT rfl (kMovC rfl (kMovC rfl (kDone (kRet (endRetA (ra := [.one (.d _)]) rfl ?_))))))))))))) (fun g1 => kGT rfl (kMovC rfl (kGT rfl (kBin rfl rfl rfl (kPickF rfl (kMovC rfl (kMovC rfl (kGP rfl (fun g2 => kGF rfl (kGF rfl (kPickT rfl (kMovC rfl (kMovC rfl (kDone (kRet (endRetA (ra := [.one (.d _)]) rfl ?_)))))))) (fun g2 => kGT rfl (kMovC rfl (kGT rfl (kBin rfl rfl rfl (kPickF rfl (kMovC rfl (kMovC rfl (kDone (kRet (endRetA (ra := [.one (.d _)]) rfl ?_)))))))))))))))))))))))))))))))))))
  all_goals simp_all [hasTo]

def c_spec_l3texted : C := (.seq (.reg false (.op 0 [] (some 2) none false (.mov (.v (.bool false)))
  .done))
 (.seq (.reg false (.op 0 [] (some 3) none false (.mov (.t 0))
  (.op 1 [] (some 4) none false (.bin .eql (.t 3) (.v (.int .i64 16)))
  (.op 2 [] (some 5) none false (.mov (.t 4))
  (.op 3 [] (some 6) (some (5, false)) false (.mov (.t 0))
  (.op 4 [] (some 7) (some (5, false)) false (.bin .eql (.t 6) (.v (.int .i64 49)))
  (.op 5 [] (some 8) none false (.pick (.t 5) (.v (.bool true)) (.t 7))
  (.op 6 [] (some 2) none false (.mov (.t 8))
  .done))))))))
 .ret))
theorem dg_spec_l3texted : Tryz.f176.body.bind (digC Tryz.prog Tryz.f176.ntmps []) = some c_spec_l3texted := by kernel_rfl
theorem rs_spec_l3texted : resSlots Tryz.prog Tryz.f176 = some [.s 2] := by kernel_rfl
theorem ok_spec_l3texted (n : Int) : FnOK Tryz.prog 176 [.one (.d (.sc (.int .i64 n)))] (fun ra _ => ra = [.one (.d (.sc (.bool (hasText n))))]) := by
  refine FnOK.ofK Tryz.func176 (by kernel_rfl) dg_spec_l3texted rs_spec_l3texted rfl rfl ?_
  unfold c_spec_l3texted
  refine kSeq (kReg (kMovC rfl (kDone (kSeq (kReg (kMovC rfl (kBin rfl rfl rfl (kMovC rfl (kGP rfl (fun g0 => kGF rfl (kGF rfl (kPickT rfl (kMovC rfl (kMovC rfl (kDone (kRet (endRetA (ra := [.one (.d _)]) rfl ?_)))))))) (fun g0 => kGT rfl (kMovC rfl (kGT rfl (kBin rfl rfl rfl (kPickF rfl (kMovC rfl (kMovC rfl (kDone (kRet (endRetA (ra := [.one (.d _)]) rfl ?_)))))))))))))))))))
  all_goals simp_all [hasText]

def c_spec_l3data : C := (.seq (.reg false (.op 0 [] (some 1) none false (.box 1 (.t 0))
  (.op 1 [] (some 2) none false (.mov (.v (.bool false)))
  .done)))
 (.seq (.seq (.reg false (.op 0 [] (some 3) none false (.fad (.t 1) 1)
  (.op 1 [] (some 4) none false (.load none (.t 3))
  (.op 2 [] (some 5) none false (.bin .eql (.t 4) (.v (.int .i64 1)))
  .done))))
 (.cond (.t 5)
 (.seq (.reg false (.op 0 [] (some 6) none false (.fad (.t 1) 3)
  (.op 1 [] (some 7) none false (.load none (.t 6))
  (.op 2 [] (some 8) none false (.bin .lss (.t 7) (.v (.int .i64 0)))
  (.op 3 [] (some 9) none false (.mov (.t 8))
  (.op 4 [] (some 10) (some (9, false)) false (.fad (.t 1) 3)
  (.op 5 [] (some 11) (some (9, false)) false (.load none (.t 10))
  (.op 6 [] (some 12) (some (9, false)) false (.bin .geq (.t 11) (.v (.int .i64 4294967296)))
  (.op 7 [] (some 13) none false (.pick (.t 9) (.v (.bool true)) (.t 12))
  .done)))))))))
 (.cond (.t 13)
 (.seq (.reg false (.op 0 [] (some 2) none false (.mov (.v (.bool false)))
  .done))
 .ret)
 .skip))
 (.seq (.reg false (.op 0 [] (some 14) none false (.fad (.t 1) 3)
  (.op 1 [] (some 15) none false (.load none (.t 14))
  (.op 2 [] (some 16) none false (.bin .neq (.t 15) (.v (.int .i64 0)))
  .done))))
 (.cond (.t 16)
 (.seq (.reg false (.op 0 [] (some 2) none false (.mov (.v (.bool false)))
  .done))
 .ret)
 .skip))))
 (.seq (.seq (.reg false (.op 0 [] (some 17) none false (.fad (.t 1) 1)
  (.op 1 [] (some 18) none false (.load none (.t 17))
  (.op 2 [] (some 19) none false (.call 19 175 [(.t 18)])
  .done))))
 (.cond (.t 19)
 (.seq (.reg false (.op 0 [] (some 20) none false (.fad (.t 1) 4)
  (.op 1 [] (some 21) none false (.load (some 1) (.t 20))
  (.op 2 [] (some 22) none false (.call 22 79 [(.t 21)])
  (.op 3 [] (some 23) none false (.un .not (.t 22))
  .done)))))
 (.cond (.t 23)
 (.seq (.reg false (.op 0 [] (some 2) none false (.mov (.v (.bool false)))
  .done))
 .ret)
 .skip))
 (.seq (.reg false (.op 0 [] (some 24) none false (.fad (.t 1) 4)
  (.op 1 [] (some 25) none false (.fad (.t 24) 0)
  (.op 2 [] (some 26) none false (.load none (.t 25))
  (.op 3 [] (some 27) none false (.len (.t 26))
  (.op 4 [] (some 28) none false (.bin .gtr (.t 27) (.v (.int .i64 0)))
  .done))))))
 (.cond (.t 28)
 (.seq (.reg false (.op 0 [] (some 2) none false (.mov (.v (.bool false)))
  .done))
 .ret)
 .skip))))
 (.seq (.seq (.reg false (.op 0 [] (some 29) none false (.fad (.t 1) 1)
  (.op 1 [] (some 30) none false (.load none (.t 29))
  (.op 2 [] (some 31) none false (.call 31 176 [(.t 30)])
  .done))))
 (.cond (.t 31)
 (.seq (.reg false (.op 0 [] (some 32) none false (.fad (.t 1) 5)
  (.op 1 [] (some 33) none false (.load none (.t 32))
  (.op 2 [] (some 34) none false (.len (.t 33))
  (.op 3 [] (some 35) none false (.bin .gtr (.t 34) (.v (.int .i64 40)))
  .done)))))
 (.cond (.t 35)
 (.seq (.reg false (.op 0 [] (some 2) none false (.mov (.v (.bool false)))
  .done))
 .ret)
 .skip))
 (.seq (.reg false (.op 0 [] (some 36) none false (.fad (.t 1) 5)
  (.op 1 [] (some 37) none false (.load none (.t 36))
  (.op 2 [] (some 38) none false (.len (.t 37))
  (.op 3 [] (some 39) none false (.bin .gtr (.t 38) (.v (.int .i64 0)))
  .done)))))
 (.cond (.t 39)
 (.seq (.reg false (.op 0 [] (some 2) none false (.mov (.v (.bool false)))
  .done))
 .ret)
 .skip))))
 (.seq (.seq (.reg false (.op 0 [] (some 40) none false (.fad (.t 1) 1)
  (.op 1 [] (some 41) none false (.load none (.t 40))
  (.op 2 [] (some 42) none false (.bin .neq (.t 41) (.v (.int .i64 6)))
  .done))))
 (.cond (.t 42)
 (.seq (.reg false (.op 0 [] (some 43) none false (.fad (.t 1) 6)
  (.op 1 [] (some 44) none false (.load none (.t 43))
  (.op 2 [] (some 45) none false (.len (.t 44))
  (.op 3 [] (some 46) none false (.bin .eql (.t 45) (.v (.int .i64 0)))
  (.op 4 [] (some 2) none false (.mov (.t 46))
  .done))))))
 .ret)
 .skip))
 (.seq (.seq (.reg false (.op 0 [] (some 47) none false (.fad (.t 1) 6)
  (.op 1 [] (some 48) none false (.load none (.t 47))
  (.op 2 [] (some 49) none false (.len (.t 48))
  (.op 3 [] (some 50) none false (.bin .neq (.t 49) (.v (.int .i64 2)))
  (.op 4 [] (some 51) none false (.mov (.t 50))
  (.op 5 [] (some 52) (some (51, false)) false (.fad (.t 1) 6)
  (.op 6 [] (some 53) (some (51, false)) false (.load none (.t 52))
  (.op 7 [] (some 54) (some (51, false)) false (.iad 1 (.t 53) (.v (.int .i64 0)))
  (.op 8 [] (some 55) (some (51, false)) false (.load none (.t 54))
  (.op 9 [] (some 56) (some (51, false)) false (.bin .lss (.t 55) (.v (.int .i64 0)))
  (.op 10 [] (some 57) none false (.pick (.t 51) (.v (.bool true)) (.t 56))
  (.op 11 [] (some 58) none false (.mov (.t 57))
  (.op 12 [] (some 59) (some (58, false)) false (.fad (.t 1) 6)
  (.op 13 [] (some 60) (some (58, false)) false (.load none (.t 59))
  (.op 14 [] (some 61) (some (58, false)) false (.iad 1 (.t 60) (.v (.int .i64 0)))
  (.op 15 [] (some 62) (some (58, false)) false (.load none (.t 61))
  (.op 16 [] (some 63) (some (58, false)) false (.bin .geq (.t 62) (.v (.int .i64 4294967296)))
  (.op 17 [] (some 64) none false (.pick (.t 58) (.v (.bool true)) (.t 63))
  .done)))))))))))))))))))
 (.cond (.t 64)
 (.seq (.reg false (.op 0 [] (some 2) none false (.mov (.v (.bool false)))
  .done))
 .ret)
 .skip))
 (.seq (.reg false (.op 0 [] (some 65) none false (.fad (.t 1) 6)
  (.op 1 [] (some 66) none false (.load none (.t 65))
  (.op 2 [] (some 67) none false (.iad 1 (.t 66) (.v (.int .i64 1)))
  (.op 3 [] (some 68) none false (.load none (.t 67))
  (.op 4 [] (some 69) none false (.bin .geq (.t 68) (.v (.int .i64 0)))
  (.op 5 [] (some 70) none false (.mov (.t 69))
  (.op 6 [] (some 71) (some (70, true)) false (.fad (.t 1) 6)
  (.op 7 [] (some 72) (some (70, true)) false (.load none (.t 71))
  (.op 8 [] (some 73) (some (70, true)) false (.iad 1 (.t 72) (.v (.int .i64 1)))
  (.op 9 [] (some 74) (some (70, true)) false (.load none (.t 73))
  (.op 10 [] (some 75) (some (70, true)) false (.bin .leq (.t 74) (.v (.int .i64 100000)))
  (.op 11 [] (some 76) none false (.pick (.t 70) (.t 75) (.v (.bool false)))
  (.op 12 [] (some 2) none false (.mov (.t 76))
  .done))))))))))))))
 .ret)))))))
theorem dg_spec_l3data : Tryz.f142.body.bind (digC Tryz.prog Tryz.f142.ntmps []) = some c_spec_l3data := by kernel_rfl
theorem rs_spec_l3data : resSlots Tryz.prog Tryz.f142 = some [.s 2] := by kernel_rfl
theorem ok_spec_l3data (r : Rr) (hs : SmallR r) :
    FnOK Tryz.prog 142 [.agg (r.cells.map .d)] (fun ra _ => ra = [.one (.d (.sc (.bool (dataOk r))))]) := by
  refine FnOK.ofK Tryz.func142 (by kernel_rfl) dg_spec_l3data rs_spec_l3data rfl rfl ?_
  unfold c_spec_l3data
  have t1 := hs.t.len
  have t2 := hs.t.mem
  have x1 := hs.x
  have m1 := hs.m
  refine kSeq (kReg (kBox rfl rfl rfl rfl rfl (kMovC rfl (kDone ?_))))
  by_cases hA : (r.ty = 1 ∧ 0 ≤ r.addr ∧ r.addr < 4294967296) ∨ (r.ty ≠ 1 ∧ r.addr = 0)
  case neg =>
    have e : (if r.ty == 1 then isW r.addr else r.addr == 0) = false := by
      by_cases h : r.ty = 1
      · simp [h, isW]; omega
      · simp [h]; omega
    rw [show dataOk r = false by simp only [dataOk, e, Bool.and_false, Bool.false_and]]
    refine kSeq ?_
    refine kSeq (kReg (kFadP rfl rfl (kLoadP rfl rfl rfl (kBin rfl rfl rfl (kDone (kCondP rfl (fun g0 => kSeq (kReg (kFadP rfl rfl (kLoadP rfl rfl rfl (kBin rfl rfl rfl (kMovC rfl (kGP rfl (fun g1 => kGF rfl (kGF rfl (kGF rfl (kPickT rfl (kMovC rfl (kDone (kCondT rfl (kSeq (kReg (kMovC rfl (kDone (kRet (endRetA (ra := [.one (.d _)]) rfl rfl))))))))))))) (fun g1 => kGT rfl (kFadP rfl rfl (kGT rfl (kLoadP rfl rfl rfl (kGT rfl (kBin rfl rfl rfl (kPickF rfl (kMovC rfl (kDone (kCondP rfl (fun g2 => kSeq (kReg (kMovC rfl (kDone (kRet (endRetA (ra := [.one (.d _)]) rfl rfl)))))) (fun g2 => (by omega))))))))))))))))))) (fun g0 => kSeq (kReg (kFadP rfl rfl (kLoadP rfl rfl rfl (kBin rfl rfl rfl (kDone (kCondIN rfl (fun g3 => kSeq (kReg (kMovC rfl (kDone (kRet (endRetA (ra := [.one (.d _)]) rfl rfl)))))) (fun g3 => (by omega)))))))))))))))
  have eA : (if r.ty == 1 then isW r.addr else r.addr == 0) = true := by
    rcases hA with ⟨h, _, _⟩ | ⟨h, h'⟩
    · simp [h, isW]; omega
    · simp [h, h']
  refine kSeq (kCut ⟨tabSl [(1, .c (.ptr (rid 1 0) 1 0))], obTab 1 [(rid 1 0, ⟨1, 0, .box (r.cells.map .d)⟩)], []⟩ ?_ (fun x hc => ?_))
  case refine_2 =>
    refine kSeq (kReg (kFadP rfl rfl (kLoadP rfl rfl rfl (kBin rfl rfl rfl (kDone (kCondP rfl (fun g0 => kSeq (kReg (kFadP rfl rfl (kLoadP rfl rfl rfl (kBin rfl rfl rfl (kMovC rfl (kGP rfl (fun g1 => (by omega)) (fun g1 => kGT rfl (kFadP rfl rfl (kGT rfl (kLoadP rfl rfl rfl (kGT rfl (kBin rfl rfl rfl (kPickF rfl (kMovC rfl (kDone (kCondP rfl (fun g2 => (by omega)) (fun g2 => kSkip (hc _ .normA))))))))))))))))))) (fun g0 => kSeq (kReg (kFadP rfl rfl (kLoadP rfl rfl rfl (kBin rfl rfl rfl (kDone (kCondIN rfl (fun g3 => (by omega)) (fun g3 => kSkip (hc _ .normA)))))))))))))))
  by_cases eB : (if hasTo r.ty then nameOk r.to else ((r.to.length : Int) == 0)) = true
  case neg =>
    rw [show dataOk r = false by simp only [dataOk, Bool.eq_false_iff.2 eB, Bool.and_false, Bool.false_and]]
    refine kSeq ?_
    cases hT : hasTo r.ty
    case false =>
      have hN : ¬ (r.to.length : Int) = 0 := by simpa [hT] using eB
      have hN' : ¬ r.to.length = 0 := by omega
      refine kSeq (kReg (kFadP rfl rfl (kLoadP rfl rfl rfl (kCallD (ok_spec_l3named _) ⟨rfl, trivial⟩ rfl rfl rfl rfl rfl (kDone (kCond rfl (fun g0 => (by (simp [*] at g0))) (fun g0 => kSeq (kReg (kFadP rfl rfl (kFadP rfl rfl (kLoadP rfl rfl rfl (kLenR rfl rfl (kBin rfl rfl rfl (kDone (kCondP rfl (fun g1 => kSeq (kReg (kMovC rfl (kDone (kRet (endRetA (ra := [.one (.d _)]) rfl rfl)))))) (fun g1 => (by omega)))))))))))))))))
    case true =>
      have hN : nameOk r.to = false := by simpa [hT] using eB
      refine kSeq (kReg (kFadP rfl rfl (kLoadP rfl rfl rfl (kCallD (ok_spec_l3named _) ⟨rfl, trivial⟩ rfl rfl rfl rfl rfl (kDone (kCond rfl (fun g0 => kSeq (kReg (kFadP rfl rfl (kLoadP rfl rfl rfl (kCallD (ok_spec_NameOk _ (by first | assumption | omega | solve_by_elim [List.getElem_mem] | (simp only [szOut] at *; omega)) (by first | assumption | omega | solve_by_elim [List.getElem_mem] | (simp only [szOut] at *; omega))) ⟨⟨⟨rfl, trivial⟩, Nat.le_of_ble_eq_true rfl⟩, trivial⟩ rfl rfl rfl rfl rfl (kUn rfl rfl (kDone (kCondN rfl (fun g1 => kSeq (kReg (kMovC rfl (kDone (kRet (endRetA (ra := [.one (.d _)]) rfl rfl)))))) (fun g1 => (by (simp [*] at g1))))))))))) (fun g0 => (by (simp [*] at g0)))))))))
  refine kSeq (kCut ⟨tabSl [(1, .c (.ptr (rid 1 0) 1 0))], obTab 1 [(rid 1 0, ⟨1, 0, .box (r.cells.map .d)⟩)], []⟩ ?_ (fun x hc => ?_))
  case refine_2 =>
    cases hT : hasTo r.ty
    case false =>
      have hN : (r.to.length : Int) = 0 := by rw [hT] at eB; simpa using eB
      have hN' : r.to.length = 0 := by omega
      clear hN
      refine kSeq (kReg (kFadP rfl rfl (kLoadP rfl rfl rfl (kCallD (ok_spec_l3named _) ⟨rfl, trivial⟩ rfl rfl rfl rfl rfl (kDone (kCond rfl (fun g0 => (by (simp [*] at g0))) (fun g0 => kSeq (kReg (kFadP rfl rfl (kFadP rfl rfl (kLoadP rfl rfl rfl (kLenR rfl rfl (kBin rfl rfl rfl (kDone (kCondP rfl (fun g1 => (by omega)) (fun g1 => kSkip (hc _ .normA)))))))))))))))))
    case true =>
      have hN : nameOk r.to = true := by simpa [hT] using eB
      refine kSeq (kReg (kFadP rfl rfl (kLoadP rfl rfl rfl (kCallD (ok_spec_l3named _) ⟨rfl, trivial⟩ rfl rfl rfl rfl rfl (kDone (kCond rfl (fun g0 => kSeq (kReg (kFadP rfl rfl (kLoadP rfl rfl rfl (kCallD (ok_spec_NameOk _ (by first | assumption | omega | solve_by_elim [List.getElem_mem] | (simp only [szOut] at *; omega)) (by first | assumption | omega | solve_by_elim [List.getElem_mem] | (simp only [szOut] at *; omega))) ⟨⟨⟨rfl, trivial⟩, Nat.le_of_ble_eq_true rfl⟩, trivial⟩ rfl rfl rfl rfl rfl (kUn rfl rfl (kDone (kCondN rfl (fun g1 => (by (simp [*] at g1))) (fun g1 => kSkip (hc _ .normA)))))))))) (fun g0 => (by (simp [*] at g0)))))))))
  by_cases eC : (if hasText r.ty then decide ((r.text.length : Int) ≤ 40) else ((r.text.length : Int) == 0)) = true
  case neg =>
    rw [show dataOk r = false by simp only [dataOk, Bool.eq_false_iff.2 eC, Bool.and_false]]
    refine kSeq ?_
    cases hT : hasText r.ty
    case false =>
      have hN' : ¬ r.text.length = 0 := by rw [hT] at eC; simp at eC; simpa using eC
      refine kSeq (kReg (kFadP rfl rfl (kLoadP rfl rfl rfl (kCallD (ok_spec_l3texted _) ⟨rfl, trivial⟩ rfl rfl rfl rfl rfl (kDone (kCond rfl (fun g0 => (by (simp [*] at g0))) (fun g0 => kSeq (kReg (kFadP rfl rfl (kLoadP rfl rfl rfl (kLenR rfl rfl (kBin rfl rfl rfl (kDone (kCondP rfl (fun g1 => kSeq (kReg (kMovC rfl (kDone (kRet (endRetA (ra := [.one (.d _)]) rfl rfl)))))) (fun g1 => (by omega))))))))))))))))
    case true =>
      have hN' : ¬ r.text.length ≤ 40 := by rw [hT] at eC; simp at eC; omega
      refine kSeq (kReg (kFadP rfl rfl (kLoadP rfl rfl rfl (kCallD (ok_spec_l3texted _) ⟨rfl, trivial⟩ rfl rfl rfl rfl rfl (kDone (kCond rfl (fun g0 => kSeq (kReg (kFadP rfl rfl (kLoadP rfl rfl rfl (kLenR rfl rfl (kBin rfl rfl rfl (kDone (kCondP rfl (fun g1 => kSeq (kReg (kMovC rfl (kDone (kRet (endRetA (ra := [.one (.d _)]) rfl rfl)))))) (fun g1 => (by omega)))))))))) (fun g0 => (by (simp [*] at g0)))))))))
  refine kSeq (kCut ⟨tabSl [(1, .c (.ptr (rid 1 0) 1 0))], obTab 1 [(rid 1 0, ⟨1, 0, .box (r.cells.map .d)⟩)], []⟩ ?_ (fun x hc => ?_))
  case refine_2 =>
    cases hT : hasText r.ty
    case false =>
      have hN' : r.text.length = 0 := by rw [hT] at eC; simp at eC; rw [eC]; rfl
      refine kSeq (kReg (kFadP rfl rfl (kLoadP rfl rfl rfl (kCallD (ok_spec_l3texted _) ⟨rfl, trivial⟩ rfl rfl rfl rfl rfl (kDone (kCond rfl (fun g0 => (by (simp [*] at g0))) (fun g0 => kSeq (kReg (kFadP rfl rfl (kLoadP rfl rfl rfl (kLenR rfl rfl (kBin rfl rfl rfl (kDone (kCondP rfl (fun g1 => (by omega)) (fun g1 => kSkip (hc _ .normA))))))))))))))))
    case true =>
      have hN' : r.text.length ≤ 40 := by rw [hT] at eC; simp at eC; omega
      refine kSeq (kReg (kFadP rfl rfl (kLoadP rfl rfl rfl (kCallD (ok_spec_l3texted _) ⟨rfl, trivial⟩ rfl rfl rfl rfl rfl (kDone (kCond rfl (fun g0 => kSeq (kReg (kFadP rfl rfl (kLoadP rfl rfl rfl (kLenR rfl rfl (kBin rfl rfl rfl (kDone (kCondP rfl (fun g1 => (by omega)) (fun g1 => kSkip (hc _ .normA)))))))))) (fun g0 => (by (simp [*] at g0)))))))))
  rw [show dataOk r = (if r.ty == 6 then numsOk r.nums else ((r.nums.length : Int) == 0)) by simp only [dataOk, eA, eB, eC, Bool.and_true]]
  clear eA eB eC hA
  refine kSeq (kSeq (kReg (kFadP rfl rfl (kLoadP rfl rfl rfl (kBin rfl rfl rfl (kDone (kCondIN rfl (fun g0 => kSeq (kReg (kFadP rfl rfl (kLoadP rfl rfl rfl (kLenR rfl rfl (kBin rfl rfl rfl (kMovC rfl (kDone (kRet (endRetA (ra := [.one (.d _)]) rfl ?_)))))))))) (fun g0 => kSkip (kSeq (kSeq (kReg (kFadP rfl rfl (kLoadP rfl rfl rfl (kLenR rfl rfl (kBin rfl rfl rfl (kMovC rfl (kGIN rfl (fun g1 => kGF rfl (kGF rfl (kGF rfl (kGF rfl (kGF rfl (kPickT rfl (kMovC rfl (kMovC rfl (kGF rfl (kGF rfl (kGF rfl (kGF rfl (kGF rfl (kPickT rfl (kMovC rfl (kDone (kCondT rfl (kSeq (kReg (kMovC rfl (kDone (kRet (endRetA (ra := [.one (.d _)]) rfl ?_))))))))))))))))))))))) (fun g1 => kGT rfl (kFadP rfl rfl (kGT rfl (kLoadP rfl rfl rfl (kGT rfl (kIadR (m := 0) rfl rfl rfl (by omega) (kGT rfl (kLoadD rfl rfl (kGT rfl (kBin rfl rfl rfl (kPickF rfl (kMovC rfl (kMovC rfl (kGP rfl (fun g2 => kGF rfl (kGF rfl (kGF rfl (kGF rfl (kGF rfl (kPickT rfl (kMovC rfl (kDone (kCondT rfl (kSeq (kReg (kMovC rfl (kDone (kRet (endRetA (ra := [.one (.d _)]) rfl ?_))))))))))))))) (fun g2 => kGT rfl (kFadP rfl rfl (kGT rfl (kLoadP rfl rfl rfl (kGT rfl (kIadR (m := 0) rfl rfl rfl (by omega) (kGT rfl (kLoadD rfl rfl (kGT rfl (kBin rfl rfl rfl (kPickF rfl (kMovC rfl (kDone (kCondP rfl (fun g3 => kSeq (kReg (kMovC rfl (kDone (kRet (endRetA (ra := [.one (.d _)]) rfl ?_)))))) (fun g3 => kSkip (kSeq (kReg (kFadP rfl rfl (kLoadP rfl rfl rfl (kIadR (m := 1) rfl rfl rfl (by omega) (kLoadD rfl rfl (kBin rfl rfl rfl (kMovC rfl (kGP rfl (fun g4 => kGT rfl (kFadP rfl rfl (kGT rfl (kLoadP rfl rfl rfl (kGT rfl (kIadR (m := 1) rfl rfl rfl (by omega) (kGT rfl (kLoadD rfl rfl (kGT rfl (kBin rfl rfl rfl (kPickT rfl (kMovC rfl (kMovC rfl (kDone (kRet (endRetA (ra := [.one (.d _)]) rfl ?_)))))))))))))))) (fun g4 => kGF rfl (kGF rfl (kGF rfl (kGF rfl (kGF rfl (kPickF rfl (kMovC rfl (kMovC rfl (kDone (kRet (endRetA (ra := [.one (.d _)]) rfl ?_))))))))))))))))))))))))))))))))))))))))))))))))))))))))))))))))))
  all_goals first
    | (simp [*]; done)
    | (rw [if_pos (by simpa using (by assumption : r.ty = 6)), numsOk, dif_pos (by assumption)]
       simp only [isW]
       refine congrArg (fun b : Bool => [RA.one (RV.d (DV.sc (Value.bool b)))]) ?_
       rw [Bool.eq_iff_iff]
       simp
       omega)

def c_spec_RrOk : C := (.seq (.reg false (.op 0 [] (some 1) none false (.box 1 (.t 0))
  (.op 1 [] (some 2) none false (.mov (.v (.bool false)))
  .done)))
 (.seq (.reg false (.op 0 [] (some 3) none false (.fad (.t 1) 0)
  (.op 1 [] (some 4) none false (.load (some 1) (.t 3))
  (.op 2 [] (some 5) none false (.call 5 79 [(.t 4)])
  (.op 3 [] (some 6) none false (.mov (.t 5))
  (.op 4 [] (some 7) (some (6, true)) false (.fad (.t 1) 1)
  (.op 5 [] (some 8) (some (6, true)) false (.load none (.t 7))
  (.op 6 [] (some 9) (some (6, true)) false (.call 9 138 [(.t 8)])
  (.op 7 [] (some 10) none false (.pick (.t 6) (.t 9) (.v (.bool false)))
  (.op 8 [] (some 11) none false (.mov (.t 10))
  (.op 9 [] (some 12) (some (11, true)) false (.fad (.t 1) 2)
  (.op 10 [] (some 13) (some (11, true)) false (.load none (.t 12))
  (.op 11 [] (some 14) (some (11, true)) false (.bin .geq (.t 13) (.v (.int .i64 0)))
  (.op 12 [] (some 15) none false (.pick (.t 11) (.t 14) (.v (.bool false)))
  (.op 13 [] (some 16) none false (.mov (.t 15))
  (.op 14 [] (some 17) (some (16, true)) false (.fad (.t 1) 2)
  (.op 15 [] (some 18) (some (16, true)) false (.load none (.t 17))
  (.op 16 [] (some 19) (some (16, true)) false (.bin .leq (.t 18) (.v (.int .i64 100000)))
  (.op 17 [] (some 20) none false (.pick (.t 16) (.t 19) (.v (.bool false)))
  (.op 18 [] (some 21) none false (.mov (.t 20))
  (.op 19 [] (some 22) (some (21, true)) false (.load (some 7) (.t 1))
  (.op 20 [] (some 23) (some (21, true)) false (.call 23 142 [(.t 22)])
  (.op 21 [] (some 24) none false (.pick (.t 21) (.t 23) (.v (.bool false)))
  (.op 22 [] (some 2) none false (.mov (.t 24))
  .done))))))))))))))))))))))))
 .ret))
theorem dg_spec_RrOk : Tryz.f90.body.bind (digC Tryz.prog Tryz.f90.ntmps []) = some c_spec_RrOk := by kernel_rfl
theorem rs_spec_RrOk : resSlots Tryz.prog Tryz.f90 = some [.s 2] := by kernel_rfl
theorem ok_spec_RrOk (r : Rr) (hs : SmallR r) :
    FnOK Tryz.prog 90 [.agg (r.cells.map .d)] (fun ra _ => ra = [.one (.d (.sc (.bool (rrOk r))))]) := by
  refine FnOK.ofK Tryz.func90 (by kernel_rfl) dg_spec_RrOk rs_spec_RrOk rfl rfl ?_
  unfold c_spec_RrOk
  have n1 := hs.n.len
  have n2 := hs.n.mem
  refine kSeq (kReg (kBox rfl rfl rfl rfl rfl (kMovC rfl (kDone (kSeq (kReg (kFadP rfl rfl (kLoadP rfl rfl rfl (kCallD (ok_spec_NameOk _ (by first | assumption | omega | solve_by_elim [List.getElem_mem] | (simp only [szOut] at *; omega)) (by first | assumption | omega | solve_by_elim [List.getElem_mem] | (simp only [szOut] at *; omega))) ⟨⟨⟨rfl, trivial⟩, Nat.le_of_ble_eq_true rfl⟩, trivial⟩ rfl rfl rfl rfl rfl (kMovC rfl (kGS rfl (fun g0 => kGT rfl (kFadP rfl rfl (kGT rfl (kLoadP rfl rfl rfl (kGT rfl (kCallD (ok_spec_TypeOk _) ⟨rfl, trivial⟩ rfl rfl rfl rfl rfl (kPickT rfl (kMovC rfl (kMovC rfl (kGS rfl (fun g1 => kGT rfl (kFadP rfl rfl (kGT rfl (kLoadP rfl rfl rfl (kGT rfl (kBin rfl rfl rfl (kPickT rfl (kMovC rfl (kMovC rfl (kGP rfl (fun g2 => kGT rfl (kFadP rfl rfl (kGT rfl (kLoadP rfl rfl rfl (kGT rfl (kBin rfl rfl rfl (kPickT rfl (kMovC rfl (kMovC rfl (kGP rfl (fun g3 => kGT rfl (kLoadP rfl rfl rfl (kGT rfl (kCallD (ok_spec_l3data _ (by first | assumption | omega | solve_by_elim [List.getElem_mem] | (simp only [szOut] at *; omega))) ⟨⟨⟨rfl, rfl, rfl, rfl, rfl, rfl, rfl, trivial⟩, Nat.le_of_ble_eq_true rfl⟩, trivial⟩ rfl rfl rfl rfl rfl (kPickT rfl (kMovC rfl (kMovC rfl (kDone (kRet (endRetA (ra := [.one (.d _)]) rfl ?_)))))))))) (fun g3 => kGF rfl (kGF rfl (kPickF rfl (kMovC rfl (kMovC rfl (kDone (kRet (endRetA (ra := [.one (.d _)]) rfl ?_)))))))))))))))))) (fun g2 => kGF rfl (kGF rfl (kGF rfl (kPickF rfl (kMovC rfl (kMovC rfl (kGF rfl (kGF rfl (kPickF rfl (kMovC rfl (kMovC rfl (kDone (kRet (endRetA (ra := [.one (.d _)]) rfl ?_)))))))))))))))))))))))) (fun g1 => kGF rfl (kGF rfl (kGF rfl (kPickF rfl (kMovC rfl (kMovC rfl (kGF rfl (kGF rfl (kGF rfl (kPickF rfl (kMovC rfl (kMovC rfl (kGF rfl (kGF rfl (kPickF rfl (kMovC rfl (kMovC rfl (kDone (kRet (endRetA (ra := [.one (.d _)]) rfl ?_)))))))))))))))))))))))))))))) (fun g0 => kGF rfl (kGF rfl (kGF rfl (kPickF rfl (kMovC rfl (kMovC rfl (kGF rfl (kGF rfl (kGF rfl (kPickF rfl (kMovC rfl (kMovC rfl (kGF rfl (kGF rfl (kGF rfl (kPickF rfl (kMovC rfl (kMovC rfl (kGF rfl (kGF rfl (kPickF rfl (kMovC rfl (kMovC rfl (kDone (kRet (endRetA (ra := [.one (.d _)]) rfl ?_)))))))))))))))))))))))))))))))))))))
  all_goals (simp only [rrOk, *]; first | rfl | (simp; done) | (simp; omega))

def c_spec_l2bytes : C := (.seq (.reg false (.op 0 [] (some 4) none false (.mov (.v (.int .i64 0)))
  .done))
 (.seq (.seq (.reg false (.op 0 [] (some 5) none false (.mov (.t 0))
  (.op 1 [] (some 6) none false (.b2s (.t 5))
  (.op 2 [] (some 7) none false (.mov (.t 1))
  (.op 3 [] (some 8) none false (.b2s (.t 7))
  (.op 4 [] (some 9) none false (.bin .lss (.t 6) (.t 8))
  .done))))))
 (.cond (.t 9)
 (.seq (.reg false (.op 0 [] (some 4) none false (.mov (.v (.int .i64 (-1))))
  .done))
 .ret)
 .skip))
 (.seq (.seq (.reg false (.op 0 [] (some 10) none false (.mov (.t 0))
  (.op 1 [] (some 11) none false (.b2s (.t 10))
  (.op 2 [] (some 12) none false (.mov (.t 1))
  (.op 3 [] (some 13) none false (.b2s (.t 12))
  (.op 4 [] (some 14) none false (.bin .gtr (.t 11) (.t 13))
  .done))))))
 (.cond (.t 14)
 (.seq (.reg false (.op 0 [] (some 4) none false (.mov (.v (.int .i64 1)))
  .done))
 .ret)
 .skip))
 (.seq (.reg false (.op 0 [] (some 4) none false (.mov (.v (.int .i64 0)))
  .done))
 .ret))))
theorem dg_spec_l2bytes : Tryz.f154.body.bind (digC Tryz.prog Tryz.f154.ntmps []) = some c_spec_l2bytes := by kernel_rfl
theorem rs_spec_l2bytes : resSlots Tryz.prog Tryz.f154 = some [.s 4] := by kernel_rfl
theorem ok_spec_l2bytes (a b : List UInt8) :
    FnOK Tryz.prog 154 [.one (.d (encB a)), .one (.d (encB b))] (fun ra _ => ra = [.one (.d (.sc (.int .i64 (cmpB a b))))]) := by
  refine FnOK.ofK Tryz.func154 (by kernel_rfl) dg_spec_l2bytes rs_spec_l2bytes rfl rfl ?_
  unfold c_spec_l2bytes
  refine kSeq (kReg (kMovC rfl (kDone (kSeq (kSeq (kReg (kMovC rfl (kB2s rfl rfl (kMovC rfl (kB2s rfl rfl (kBin rfl rfl rfl (kDone (kCond rfl (fun g0 => kSeq (kReg (kMovC rfl (kDone (kRet (endRetA (ra := [.one (.d _)]) rfl ?_)))))) (fun g0 => kSkip (kSeq (kSeq (kReg (kMovC rfl (kB2s rfl rfl (kMovC rfl (kB2s rfl rfl (kBin rfl rfl rfl (kDone (kCondN rfl (fun g1 => kSeq (kReg (kMovC rfl (kDone (kRet (endRetA (ra := [.one (.d _)]) rfl ?_)))))) (fun g1 => kSkip (kSeq (kReg (kMovC rfl (kDone (kRet (endRetA (ra := [.one (.d _)]) rfl ?_)))))))))))))))))))))))))))))))
  all_goals simp_all [cmpB]

def c_spec_l2cmp : C := (.seq (.reg false (.op 0 [] (some 2) none false (.box 2 (.t 0))
  (.op 1 [] (some 3) none false (.box 3 (.t 1))
  (.op 2 [] (some 4) none false (.mov (.v (.int .i64 0)))
  .done))))
 (.seq (.seq (.reg false (.op 0 [] (some 5) none false (.mov (.v (.int .i64 1)))
  .done))
 (.block 0 (.loop (.seq (.seq (.reg false (.op 0 [] (some 7) none false (.mov (.t 5))
  (.op 1 [] (some 8) none false (.fad (.t 2) 0)
  (.op 2 [] (some 9) none false (.load none (.t 8))
  (.op 3 [] (some 10) none false (.len (.t 9))
  (.op 4 [] (some 11) none false (.bin .leq (.t 7) (.t 10))
  (.op 5 [] (some 12) none false (.mov (.t 11))
  (.op 6 [] (some 13) (some (12, true)) false (.mov (.t 5))
  (.op 7 [] (some 14) (some (12, true)) false (.fad (.t 3) 0)
  (.op 8 [] (some 15) (some (12, true)) false (.load none (.t 14))
  (.op 9 [] (some 16) (some (12, true)) false (.len (.t 15))
  (.op 10 [] (some 17) (some (12, true)) false (.bin .leq (.t 13) (.t 16))
  (.op 11 [] (some 18) none false (.pick (.t 12) (.t 17) (.v (.bool false)))
  .done)))))))))))))
 (.cond (.t 18)
 .skip
 (.exit 0)))
 (.seq (.block 1 (.seq (.reg true (.op 0 [] (some 21) none true (.fad (.t 2) 0)
  (.op 1 [] (some 22) none true (.load none (.t 21))
  (.op 2 [] (some 23) none true (.fad (.t 2) 0)
  (.op 3 [] (some 24) none true (.load none (.t 23))
  (.op 4 [] (some 25) none true (.len (.t 24))
  (.op 5 [] (some 26) none true (.mov (.t 5))
  (.op 6 [] (some 27) none true (.bin .sub (.t 25) (.t 26))
  (.op 7 [] (some 28) none true (.iad 1 (.t 22) (.t 27))
  (.op 8 [] (some 29) none true (.load none (.t 28))
  (.op 9 [] (some 30) none true (.fad (.t 3) 0)
  (.op 10 [] (some 31) none true (.load none (.t 30))
  (.op 11 [] (some 32) none true (.fad (.t 3) 0)
  (.op 12 [] (some 33) none true (.load none (.t 32))
  (.op 13 [] (some 34) none true (.len (.t 33))
  (.op 14 [] (some 35) none true (.mov (.t 5))
  (.op 15 [] (some 36) none true (.bin .sub (.t 34) (.t 35))
  (.op 16 [] (some 37) none true (.iad 1 (.t 31) (.t 36))
  (.op 17 [] (some 38) none true (.load none (.t 37))
  (.op 18 [8, 1, 3, 17, 10, 12] (some 39) none false (.call 39 154 [(.t 29), (.t 38)])
  (.op 19 [] (some 6) none true (.mov (.t 39))
  .done)))))))))))))))))))))
 (.seq (.reg false (.op 0 [] (some 40) none false (.mov (.t 6))
  (.op 1 [] (some 41) none false (.bin .neq (.t 40) (.v (.int .i64 0)))
  .done)))
 (.cond (.t 41)
 (.seq (.reg false (.op 0 [] (some 42) none false (.mov (.t 6))
  (.op 1 [] (some 4) none false (.mov (.t 42))
  .done)))
 .ret)
 .skip))))
 (.reg false (.op 0 [] (some 19) none false (.mov (.t 5))
  (.op 1 [] (some 20) none false (.bin .add (.t 19) (.v (.int .i64 1)))
  (.op 2 [] (some 5) none false (.mov (.t 20))
  .done)))))))))
 (.seq (.seq (.reg false (.op 0 [] (some 43) none false (.fad (.t 2) 0)
  (.op 1 [] (some 44) none false (.load none (.t 43))
  (.op 2 [] (some 45) none false (.len (.t 44))
  (.op 3 [] (some 46) none false (.fad (.t 3) 0)
  (.op 4 [] (some 47) none false (.load none (.t 46))
  (.op 5 [] (some 48) none false (.len (.t 47))
  (.op 6 [] (some 49) none false (.bin .neq (.t 45) (.t 48))
  .done))))))))
 (.cond (.t 49)
 (.seq (.seq (.reg false (.op 0 [] (some 50) none false (.fad (.t 2) 0)
  (.op 1 [] (some 51) none false (.load none (.t 50))
  (.op 2 [] (some 52) none false (.len (.t 51))
  (.op 3 [] (some 53) none false (.fad (.t 3) 0)
  (.op 4 [] (some 54) none false (.load none (.t 53))
  (.op 5 [] (some 55) none false (.len (.t 54))
  (.op 6 [] (some 56) none false (.bin .lss (.t 52) (.t 55))
  .done))))))))
 (.cond (.t 56)
 (.seq (.reg false (.op 0 [] (some 4) none false (.mov (.v (.int .i64 (-1))))
  .done))
 .ret)
 .skip))
 (.seq (.reg false (.op 0 [] (some 4) none false (.mov (.v (.int .i64 1)))
  .done))
 .ret))
 .skip))
 (.seq (.reg false (.op 0 [] (some 4) none false (.mov (.v (.int .i64 0)))
  .done))
 .ret))))
theorem dg_spec_l2cmp : Tryz.f109.body.bind (digC Tryz.prog Tryz.f109.ntmps []) = some c_spec_l2cmp := by kernel_rfl
theorem rs_spec_l2cmp : resSlots Tryz.prog Tryz.f109 = some [.s 4] := by kernel_rfl
theorem ok_spec_l2cmp (a b : List (List UInt8)) (ha : a.length ≤ 4194304) (hb : b.length ≤ 4194304) :
    FnOK Tryz.prog 109 [.agg [.d (encBB a)], .agg [.d (encBB b)]] (fun ra _ => ra = [.one (.d (.sc (.int .i64 (cmpN a b))))]) := by
  refine FnOK.ofK Tryz.func109 (by kernel_rfl) dg_spec_l2cmp rs_spec_l2cmp rfl rfl ?_
  unfold c_spec_l2cmp
  refine kSeq (kReg (kBox rfl rfl rfl rfl rfl (kBox rfl rfl rfl rfl rfl (kMovC rfl (kDone (kSeq (kSeq (kReg (kMovC rfl (kDone (kBlock ?_)))))))))))
  refine kLoop (α := { k : Nat // k ≤ a.length ∧ k ≤ b.length ∧ cmpN a b = cmpL (a.reverse.drop k) (b.reverse.drop k) })
    (fun y => ⟨tabSl [(2, .c (.ptr (rid 2 0) 1 0)), (3, .c (.ptr (rid 3 0) 1 0)), (5, .i (y.1 + 1))], obTab 1 [(rid 2 0, ⟨1, 0, .box [.d (encBB a)]⟩), (rid 3 0, ⟨1, 0, .box [.d (encBB b)]⟩)], []⟩) (fun y => a.length - y.1) ⟨0, by simp [cmpN]⟩
    .normA ?_
  rintro ⟨k, h1, h2, h3⟩
  simp only
  rcases Nat.lt_or_ge k a.length with hla | hga
  · rcases Nat.lt_or_ge k b.length with hlb | hgb
    · have hst := cmpL_step a b k hla hlb (a.length - (k + 1) : Int).toNat (b.length - (k + 1) : Int).toNat (by omega) (by omega)
      refine kSeq (kSeq (kReg (kMovC rfl (kFadP rfl rfl (kLoadP rfl rfl rfl (kLenR rfl rfl (kBin rfl rfl rfl (kMovC rfl (kGP rfl (fun g0 => kGT rfl (kMovC rfl (kGT rfl (kFadP rfl rfl (kGT rfl (kLoadP rfl rfl rfl (kGT rfl (kLenR rfl rfl (kGT rfl (kBin rfl rfl rfl (kPickT rfl (kMovC rfl (kDone (kCondP rfl (fun g1 => kSkip (kSeq (kBlock (kSeq (kRegD (kFadP rfl rfl (kLoadP rfl rfl rfl (kFadP rfl rfl (kLoadP rfl rfl rfl (kLenR rfl rfl (kMovC rfl (kDif rfl rfl (by omega) (kIadT rfl rfl (by omega) (kLoadD rfl rfl (kFadP rfl rfl (kLoadP rfl rfl rfl (kFadP rfl rfl (kLoadP rfl rfl rfl (kLenR rfl rfl (kMovC rfl (kDif rfl rfl (by omega) (kIadT rfl rfl (by omega) (kLoadD rfl rfl (kRelF rfl rfl (kCallD (ok_spec_l2bytes _ _) ⟨rfl, rfl, trivial⟩ rfl rfl rfl rfl rfl (kMovC rfl (kDone (kH (kSeq (kReg (kMovC rfl (kBin rfl rfl rfl (kDone (kCondIN rfl (fun g2 => kSeq (kReg (kMovC rfl (kMovC rfl (kDone (kRet (endRetA (ra := [.one (.d _)]) rfl ?_))))))) (fun g2 => kSkip (kBk (kReg (kMovC rfl (kAdd rfl rfl (by omega) (kMovC rfl (kDone ?_))))))))))))))))))))))))))))))))))))))))) (fun g1 => (by omega)))))))))))))))) (fun g0 => (by omega)))))))))))
      · rw [h3, hst, if_neg (by assumption)]
      · refine kInv ⟨⟨k + 1, hla, hlb, ?_⟩, by simp only; omega, .normA⟩
        rw [h3, hst, if_pos (by assumption)]
    · rw [cmpL_end a b k h1 h2 (by omega)] at h3
      refine kSeq (kSeq (kReg (kMovC rfl (kFadP rfl rfl (kLoadP rfl rfl rfl (kLenR rfl rfl (kBin rfl rfl rfl (kMovC rfl (kGP rfl (fun g0 => kGT rfl (kMovC rfl (kGT rfl (kFadP rfl rfl (kGT rfl (kLoadP rfl rfl rfl (kGT rfl (kLenR rfl rfl (kGT rfl (kBin rfl rfl rfl (kPickT rfl (kMovC rfl (kDone (kCondP rfl (fun g1 => (by omega)) (fun g1 => kExit (kExC (kExI (kExB (kSeq (kSeq (kReg (kFadP rfl rfl (kLoadP rfl rfl rfl (kLenR rfl rfl (kFadP rfl rfl (kLoadP rfl rfl rfl (kLenR rfl rfl (kBin rfl rfl rfl (kDone (kCondIN rfl (fun g2 => kSeq (kSeq (kReg (kFadP rfl rfl (kLoadP rfl rfl rfl (kLenR rfl rfl (kFadP rfl rfl (kLoadP rfl rfl rfl (kLenR rfl rfl (kBin rfl rfl rfl (kDone (kCondP rfl (fun g3 => (by omega)) (fun g3 => kSkip (kSeq (kReg (kMovC rfl (kDone (kRet (endRetA (ra := [.one (.d _)]) rfl ?_))))))))))))))))))) (fun g2 => (by omega)))))))))))))))))))))))))))))))) (fun g0 => (by omega)))))))))))
      all_goals (rw [h3]; first | (rw [if_pos (by omega)]; done) | (rw [if_neg (by omega), if_pos (by omega)]; done) | rw [if_neg (by omega), if_neg (by omega)])
  · rw [cmpL_end a b k h1 h2 (by omega)] at h3
    refine kSeq (kSeq (kReg (kMovC rfl (kFadP rfl rfl (kLoadP rfl rfl rfl (kLenR rfl rfl (kBin rfl rfl rfl (kMovC rfl (kGP rfl (fun g0 => (by omega)) (fun g0 => kGF rfl (kGF rfl (kGF rfl (kGF rfl (kGF rfl (kPickF rfl (kMovC rfl (kDone (kCondF rfl (kExit (kExC (kExI (kExB (kSeq (kSeq (kReg (kFadP rfl rfl (kLoadP rfl rfl rfl (kLenR rfl rfl (kFadP rfl rfl (kLoadP rfl rfl rfl (kLenR rfl rfl (kBin rfl rfl rfl (kDone (kCondIN rfl (fun g1 => kSeq (kSeq (kReg (kFadP rfl rfl (kLoadP rfl rfl rfl (kLenR rfl rfl (kFadP rfl rfl (kLoadP rfl rfl rfl (kLenR rfl rfl (kBin rfl rfl rfl (kDone (kCondP rfl (fun g2 => kSeq (kReg (kMovC rfl (kDone (kRet (endRetA (ra := [.one (.d _)]) rfl ?_)))))) (fun g2 => (by omega)))))))))))))) (fun g1 => kSkip (kSeq (kReg (kMovC rfl (kDone (kRet (endRetA (ra := [.one (.d _)]) rfl ?_)))))))))))))))))))))))))))))))))))))))))
    all_goals (rw [h3]; first | (rw [if_pos (by omega)]; done) | (rw [if_neg (by omega), if_pos (by omega)]; done) | rw [if_neg (by omega), if_neg (by omega)])

def c_spec_l2under : C := (.seq (.reg false (.op 0 [] (some 2) none false (.box 2 (.t 0))
  (.op 1 [] (some 3) none false (.box 3 (.t 1))
  (.op 2 [] (some 4) none false (.mov (.v (.bool false)))
  .done))))
 (.seq (.reg false (.op 0 [] (some 6) none false (.fad (.t 2) 0)
  (.op 1 [] (some 7) none false (.load none (.t 6))
  (.op 2 [] (some 8) none false (.len (.t 7))
  (.op 3 [] (some 9) none false (.fad (.t 3) 0)
  (.op 4 [] (some 10) none false (.load none (.t 9))
  (.op 5 [] (some 11) none false (.len (.t 10))
  (.op 6 [] (some 12) none false (.bin .sub (.t 8) (.t 11))
  (.op 7 [] (some 5) none false (.mov (.t 12))
  .done)))))))))
 (.seq (.reg true (.op 0 [] (some 13) none true (.mov (.t 5))
  (.op 1 [] (some 14) none true (.bin .geq (.t 13) (.v (.int .i64 0)))
  (.op 2 [] (some 15) none true (.mov (.t 14))
  (.op 3 [] (some 16) (some (15, true)) true (.fad (.t 2) 0)
  (.op 4 [] (some 17) (some (15, true)) true (.load none (.t 16))
  (.op 5 [] (some 18) (some (15, true)) true (.mov (.t 5))
  (.op 6 [] (some 19) (some (15, true)) true (.cut 1 (.t 17) (some (.t 18)) none)
  (.op 7 [] (some 20) (some (15, true)) true (.build [(.n 1)] [(0, 1, (.t 19))])
  (.op 8 [] (some 21) (some (15, true)) true (.load (some 1) (.t 3))
  (.op 9 [4, 8] (some 22) (some (15, true)) false (.call 22 109 [(.t 20), (.t 21)])
  (.op 10 [] (some 23) (some (15, true)) true (.bin .eql (.t 22) (.v (.int .i64 0)))
  (.op 11 [] (some 24) none true (.pick (.t 15) (.t 23) (.v (.bool false)))
  (.op 12 [] (some 4) none true (.mov (.t 24))
  .done))))))))))))))
 .ret)))
theorem dg_spec_l2under : Tryz.f106.body.bind (digC Tryz.prog Tryz.f106.ntmps []) = some c_spec_l2under := by kernel_rfl
theorem rs_spec_l2under : resSlots Tryz.prog Tryz.f106 = some [.s 4] := by kernel_rfl
theorem ok_spec_l2under (n z : List (List UInt8)) (hn : n.length ≤ 4194304) (hz : z.length ≤ 4194304) :
    FnOK Tryz.prog 106 [.agg [.d (encBB n)], .agg [.d (encBB z)]] (fun ra _ => ra = [.one (.d (.sc (.bool (underN n z))))]) := by
  refine FnOK.ofK Tryz.func106 (by kernel_rfl) dg_spec_l2under rs_spec_l2under rfl rfl ?_
  unfold c_spec_l2under
  have hd : (n.drop (n.length - z.length : Int).toNat).length ≤ 4194304 := by simp; omega
  refine kSeq (kReg (kBox rfl rfl rfl rfl rfl (kBox rfl rfl rfl rfl rfl (kMovC rfl (kDone (kSeq (kReg (kFadP rfl rfl (kLoadP rfl rfl rfl (kLenR rfl rfl (kFadP rfl rfl (kLoadP rfl rfl rfl (kLenR rfl rfl (kDif rfl rfl (by omega) (kMovC rfl (kDone (kSeq (kRegD (kMovC rfl (kBin rfl rfl rfl (kMovC rfl (kGP rfl (fun g0 => kGT rfl (kFadP rfl rfl (kGT rfl (kLoadP rfl rfl rfl (kGT rfl (kMovC rfl (kGT rfl (kCutLT rfl rfl (by omega) (kGT rfl (kBuild rfl (kGT rfl (kLoadP rfl rfl rfl (kRelF rfl rfl (kGT rfl (kCallD (ok_spec_l2cmp _ _ (by first | assumption | omega | solve_by_elim [List.getElem_mem] | (simp only [szOut] at *; omega)) (by first | assumption | omega | solve_by_elim [List.getElem_mem] | (simp only [szOut] at *; omega))) ⟨⟨⟨rfl, trivial⟩, Nat.le_of_ble_eq_true rfl⟩, ⟨⟨rfl, trivial⟩, Nat.le_of_ble_eq_true rfl⟩, trivial⟩ rfl rfl rfl rfl rfl (kGT rfl (kBin rfl rfl rfl (kPickT rfl (kMovC rfl (kMovC rfl (kDone (kH (kRet (endRetA (ra := [.one (.d _)]) rfl ?_)))))))))))))))))))))))) (fun g0 => kGF rfl (kGF rfl (kGF rfl (kGF rfl (kGF rfl (kGF rfl (kRelF rfl rfl (kGF rfl (kGF rfl (kPickF rfl (kMovC rfl (kMovC rfl (kDone (kH (kRet (endRetA (ra := [.one (.d _)]) rfl ?_))))))))))))))))))))))))))))))))))))))
  · rw [cmpN_zero, show (n.length - z.length : Int).toNat = n.length - z.length by omega]
    simp only [underN]
    rw [decide_eq_true (show z.length ≤ n.length by omega), Bool.true_and]
  · rw [show underN n z = false by simp only [underN]; rw [decide_eq_false (by omega)]; rfl]

def c_spec_l3num : C := (.seq (.reg false (.op 0 [] (some 4) none false (.mov (.v (.int .i64 0)))
  .done))
 (.seq (.seq (.reg false (.op 0 [] (some 5) none false (.mov (.t 0))
  (.op 1 [] (some 6) none false (.mov (.t 1))
  (.op 2 [] (some 7) none false (.bin .lss (.t 5) (.t 6))
  .done))))
 (.cond (.t 7)
 (.seq (.reg false (.op 0 [] (some 4) none false (.mov (.v (.int .i64 (-1))))
  .done))
 .ret)
 .skip))
 (.seq (.seq (.reg false (.op 0 [] (some 8) none false (.mov (.t 0))
  (.op 1 [] (some 9) none false (.mov (.t 1))
  (.op 2 [] (some 10) none false (.bin .gtr (.t 8) (.t 9))
  .done))))
 (.cond (.t 10)
 (.seq (.reg false (.op 0 [] (some 4) none false (.mov (.v (.int .i64 1)))
  .done))
 .ret)
 .skip))
 (.seq (.reg false (.op 0 [] (some 4) none false (.mov (.v (.int .i64 0)))
  .done))
 .ret))))
theorem dg_spec_l3num : Tryz.f153.body.bind (digC Tryz.prog Tryz.f153.ntmps []) = some c_spec_l3num := by kernel_rfl
theorem rs_spec_l3num : resSlots Tryz.prog Tryz.f153 = some [.s 4] := by kernel_rfl
theorem ok_spec_l3num (a b : Int) :
    FnOK Tryz.prog 153 [.one (.d (.sc (.int .i64 a))), .one (.d (.sc (.int .i64 b)))] (fun ra _ => ra = [.one (.d (.sc (.int .i64 (cmpI a b))))]) := by
  refine FnOK.ofK Tryz.func153 (by kernel_rfl) dg_spec_l3num rs_spec_l3num rfl rfl ?_
  unfold c_spec_l3num
  refine kSeq (kReg (kMovC rfl (kDone (kSeq (kSeq (kReg (kMovC rfl (kMovC rfl (kBin rfl rfl rfl (kDone (kCondP rfl (fun g0 => kSeq (kReg (kMovC rfl (kDone (kRet (endRetA (ra := [.one (.d _)]) rfl ?_)))))) (fun g0 => kSkip (kSeq (kSeq (kReg (kMovC rfl (kMovC rfl (kBin rfl rfl rfl (kDone (kCondP rfl (fun g1 => kSeq (kReg (kMovC rfl (kDone (kRet (endRetA (ra := [.one (.d _)]) rfl ?_)))))) (fun g1 => kSkip (kSeq (kReg (kMovC rfl (kDone (kRet (endRetA (ra := [.one (.d _)]) rfl ?_)))))))))))))))))))))))))))
  all_goals (refine congrArg (fun z : Int => [RA.one (RV.d (DV.sc (Value.int IntKind.i64 z)))]) ?_; unfold cmpI; split <;> first | omega | (split <;> omega))

def c_spec_Put32 : C := (.seq (.reg false (.op 0 [] (some 4) none false (.mov (.n 1))
  .done))
 (.seq (.reg false (.op 0 [] (some 6) none false (.lit 6 1 [(.v (.int .u8 0))] 0 [])
  (.op 1 [] (some 7) none false (.mov (.t 0))
  (.op 2 [] (some 8) none false (.app 8 1 1 (.t 6) (.t 7))
  (.op 3 [] (some 5) none false (.mov (.t 8))
  .done)))))
 (.seq (.seq (.reg false (.op 0 [] (some 9) none false (.mov (.t 1))
  (.op 1 [] (some 10) none false (.bin .lss (.t 9) (.v (.int .i64 0)))
  (.op 2 [] (some 11) none false (.mov (.t 10))
  (.op 3 [] (some 12) (some (11, false)) false (.mov (.t 1))
  (.op 4 [] (some 13) (some (11, false)) false (.bin .geq (.t 12) (.v (.int .i64 4294967296)))
  (.op 5 [] (some 14) none false (.pick (.t 11) (.v (.bool true)) (.t 13))
  .done)))))))
 (.cond (.t 14)
 (.seq (.reg false (.op 0 [] (some 15) none false (.mov (.t 5))
  (.op 1 [] (some 4) none false (.mov (.t 15))
  .done)))
 .ret)
 .skip))
 (.seq (.reg false (.op 0 [] (some 16) none false (.mov (.t 5))
  (.op 1 [] (some 17) none false (.mov (.t 1))
  (.op 2 [] (some 18) none false (.bin .shr (.t 17) (.v (.int .u64 24)))
  (.op 3 [] (some 19) none false (.conv .u8 (.t 18))
  (.op 4 [] (some 20) none false (.mov (.t 1))
  (.op 5 [] (some 21) none false (.bin .shr (.t 20) (.v (.int .u64 16)))
  (.op 6 [] (some 22) none false (.conv .u8 (.t 21))
  (.op 7 [] (some 23) none false (.mov (.t 1))
  (.op 8 [] (some 24) none false (.bin .shr (.t 23) (.v (.int .u64 8)))
  (.op 9 [] (some 25) none false (.conv .u8 (.t 24))
  (.op 10 [] (some 26) none false (.mov (.t 1))
  (.op 11 [] (some 27) none false (.conv .u8 (.t 26))
  (.op 12 [] (some 28) none false (.lit 28 1 [(.v (.int .u8 0))] 4 [(0, 1, (.t 19)), (1, 1, (.t 22)), (2, 1, (.t 25)), (3, 1, (.t 27))])
  (.op 13 [] (some 29) none false (.app 29 1 1 (.t 16) (.t 28))
  (.op 14 [] (some 4) none false (.mov (.t 29))
  .done))))))))))))))))
 .ret))))
theorem dg_spec_Put32 : Tryz.f178.body.bind (digC Tryz.prog Tryz.f178.ntmps []) = some c_spec_Put32 := by kernel_rfl
theorem rs_spec_Put32 : resSlots Tryz.prog Tryz.f178 = some [.s 4] := by kernel_rfl
theorem ok_spec_Put32 (b : List UInt8) (n : Int) (hb : b.length ≤ 16777216) (h0 : 0 ≤ n) (h1 : n < 4294967296) :
    FnOK Tryz.prog 178 [.one (.d (encB b)), .one (.d (.sc (.int .i64 n)))] (fun ra _ => ra = [.one (.own true (encB (b ++ w4 n)))]) := by
  refine FnOK.ofK Tryz.func178 (by kernel_rfl) dg_spec_Put32 rs_spec_Put32 rfl rfl ?_
  unfold c_spec_Put32
  refine kSeq (kReg (kMovC rfl (kDone (kSeq (kReg (kLit rfl rfl rfl rfl (kMovC rfl (kAppN rfl rfl rfl (src_encB _ _) rfl rfl rfl rfl (by omega) (kMovC rfl (kDone (kSeq (kSeq (kReg (kMovC rfl (kBin rfl rfl rfl (kMovC rfl (kGP rfl (fun g0 => (by omega)) (fun g0 => kGT rfl (kMovC rfl (kGT rfl (kBin rfl rfl rfl (kPickF rfl (kMovC rfl (kDone (kCondP rfl (fun g1 => (by omega)) (fun g1 => kSkip (kSeq (kReg (kMem [(28672, ⟨2, 0, .arr true _⟩)] [(5, .c (.arr 28672 2)), (1, .c (.d _)), (17, .c (.un)), (18, .c (.un)), (20, .c (.un)), (21, .c (.un)), (23, .c (.un)), (24, .c (.un)), (26, .c (.un)), (19, .c (.un)), (22, .c (.un)), (25, .c (.un)), (27, .c (.un)), (16, .c (.un)), (28, .c (.un)), (29, .c (.un))] [] ⟨rfl, trivial⟩ ⟨rfl, rfl, rfl, rfl, rfl, rfl, rfl, rfl, rfl, rfl, rfl, rfl, rfl, rfl, rfl, rfl, trivial⟩ rfl (kMovC rfl (kMovC rfl (kShr (m := 24) rfl rfl rfl (kConvU8 rfl (kMovC rfl (kShr (m := 16) rfl rfl rfl (kConvU8 rfl (kMovC rfl (kShr (m := 8) rfl rfl rfl (kConvU8 rfl (kMovC rfl (kConvU8 rfl (kMem [(28672, ⟨2, 0, .arr true _⟩)] [(19, .c (.d _)), (22, .c (.d _)), (25, .c (.d _)), (27, .c (.d _)), (16, .c (.arr 28672 2)), (28, .c (.un)), (29, .c (.un))] [] ⟨rfl, trivial⟩ ⟨rfl, rfl, rfl, rfl, rfl, rfl, rfl, trivial⟩ rfl (kLit rfl rfl rfl rfl (kAppR4 rfl rfl rfl rfl rfl rfl rfl rfl (by omega) (kMovC rfl (kDone (kMem [(28672, ⟨3, 0, .arr true _⟩)] [(4, .c (.arr 28672 3))] [] ⟨rfl, trivial⟩ ⟨rfl, trivial⟩ rfl (kRet (endRetA (ra := [.one (.own true _)]) rfl rfl)))))))))))))))))))))))))))))))))))))))))))))))))
theorem ok_spec_Put32_nil (n : Int) (h0 : 0 ≤ n) (h1 : n < 4294967296) :
    FnOK Tryz.prog 178 [.one (.d (.sl 1 [])), .one (.d (.sc (.int .i64 n)))] (fun ra _ => ra = [.one (.own true (encB (w4 n)))]) := ok_spec_Put32 [] n (Nat.zero_le _) h0 h1

def c_spec_l2put : C := (.seq (.reg false (.op 0 [] (some 3) none false (.box 3 (.t 1))
  (.op 1 [] (some 4) none false (.mov (.n 1))
  .done)))
 (.seq (.seq (.reg false (.op 0 [] (some 5) none false (.mov (.v (.int .i64 0)))
  .done))
 (.block 0 (.loop (.seq (.seq (.reg false (.op 0 [] (some 6) none false (.mov (.t 5))
  (.op 1 [] (some 7) none false (.fad (.t 3) 0)
  (.op 2 [] (some 8) none false (.load none (.t 7))
  (.op 3 [] (some 9) none false (.len (.t 8))
  (.op 4 [] (some 10) none false (.bin .lss (.t 6) (.t 9))
  .done))))))
 (.cond (.t 10)
 .skip
 (.exit 0)))
 (.seq (.block 1 (.reg true (.op 0 [] (some 13) none true (.mov (.t 0))
  (.op 1 [] (some 14) none true (.fad (.t 3) 0)
  (.op 2 [] (some 15) none true (.load none (.t 14))
  (.op 3 [] (some 16) none true (.mov (.t 5))
  (.op 4 [] (some 17) none true (.iad 1 (.t 15) (.t 16))
  (.op 5 [] (some 18) none true (.load none (.t 17))
  (.op 6 [] (some 19) none true (.len (.t 18))
  (.op 7 [] (some 20) none true (.conv .u8 (.t 19))
  (.op 10 [] (some 23) none true (.fad (.t 3) 0)
  (.op 11 [] (some 24) none true (.load none (.t 23))
  (.op 12 [] (some 25) none true (.mov (.t 5))
  (.op 13 [] (some 26) none true (.iad 1 (.t 24) (.t 25))
  (.op 14 [] (some 27) none true (.load none (.t 26))
  (.op 8 [5, 2] (some 21) none false (.lit 21 1 [(.v (.int .u8 0))] 1 [(0, 1, (.t 20))])
  (.op 9 [5, 2] (some 22) none false (.app 22 1 1 (.t 13) (.t 21))
  (.op 15 [5, 14, 11] (some 28) none false (.app 28 1 1 (.t 22) (.t 27))
  (.op 16 [] (some 0) none true (.mov (.t 28))
  .done)))))))))))))))))))
 (.reg false (.op 0 [] (some 11) none false (.mov (.t 5))
  (.op 1 [] (some 12) none false (.bin .add (.t 11) (.v (.int .i64 1)))
  (.op 2 [] (some 5) none false (.mov (.t 12))
  .done)))))))))
 (.seq (.reg false (.op 0 [] (some 29) none false (.mov (.t 0))
  (.op 1 [] (some 30) none false (.lit 30 1 [(.v (.int .u8 0))] 1 [(0, 1, (.v (.int .u8 0)))])
  (.op 2 [] (some 31) none false (.app 31 1 1 (.t 29) (.t 30))
  (.op 3 [] (some 4) none false (.mov (.t 31))
  .done)))))
 .ret)))
theorem dg_spec_l2put : Tryz.f179.body.bind (digC Tryz.prog Tryz.f179.ntmps []) = some c_spec_l2put := by kernel_rfl
theorem rs_spec_l2put : resSlots Tryz.prog Tryz.f179 = some [.s 4] := by kernel_rfl
theorem ok_spec_l2put (b : List UInt8) (a : List (List UInt8)) (hs : SmallBB a) (hb : b.length ≤ 16777216) :
    FnOK Tryz.prog 179 [.one (.arr true true (encB b)), .agg [.d (encBB a)]] (fun ra _ => ra = [.one (.own true (encB (b ++ wireN a)))]) := by
  refine FnOK.ofK Tryz.func179 (by kernel_rfl) dg_spec_l2put rs_spec_l2put rfl rfl ?_
  unfold c_spec_l2put
  have h1 := hs.len
  have h2 := hs.flat
  refine kSeq (kReg (kBox rfl rfl rfl rfl rfl (kMovC rfl (kDone (kSeq (kSeq (kReg (kMovC rfl (kDone (kBlock ?_))))))))))
  refine kLoop (α := { i : Nat // i ≤ a.length }) (fun y => ⟨tabSl [(0, .c (.arr 0 1)), (3, .c (.ptr (rid 3 0) 1 0)), (5, .i y.1)], obTab 1 [(0, ⟨1, 0, .arr true (encB (b ++ wireL (a.take y.1)))⟩), (rid 3 0, ⟨1, 0, .box [.d (encBB a)]⟩)], []⟩) (fun y => a.length - y.1) ⟨0, by simp⟩ (by simp only [List.take_zero, wireL, List.flatMap_nil, List.append_nil]; exact .normA) ?_
  rintro ⟨i, hi⟩
  simp only
  have hl := wireL_le a i
  have hl2 : (b ++ wireL (a.take i)).length = b.length + (wireL (a.take i)).length := by simp
  rcases Nat.lt_or_ge i a.length with hlt | hge
  · have hst : b ++ wireL (a.take (i + 1)) = b ++ wireL (a.take i) ++ [u8 a[i].length] ++ a[i] := by rw [wireL_take a i hlt]; simp
    have hm := hs.mem _ (List.getElem_mem hlt)
    have hlen : (b ++ wireL (a.take i) ++ [u8 a[i].length]).length = (b ++ wireL (a.take i)).length + 1 := by simp only [List.length_append, List.length_cons, List.length_nil]
    refine kSeq (kSeq (kReg (kMovC rfl (kFadP rfl rfl (kLoadP rfl rfl rfl (kLenR rfl rfl (kBin rfl rfl rfl (kDone (kCondP rfl (fun g0 => kSkip (kSeq (kBlock (kRegD (kMovC rfl (kFadP rfl rfl (kLoadP rfl rfl rfl (kMovC rfl (kIadR rfl rfl rfl (by omega) (kMem [(16384, ⟨1, 0, .box [.d _]⟩), (0, ⟨1, 0, .arr true _⟩)] [(3, .c (.ptr 16384 1 0)), (5, .c (.d _)), (13, .c (.arr 0 1))] [16384] ⟨rfl, rfl, trivial⟩ ⟨rfl, rfl, rfl, trivial⟩ rfl (kLoadD rfl rfl (kLenR rfl rfl (kConvU8 rfl (kFadP rfl rfl (kLoadP rfl rfl rfl (kMovC rfl (kIadR rfl rfl rfl (by omega) (kLoadD rfl rfl (kRelK rfl rfl (kLit rfl rfl rfl rfl (kMem [(0, ⟨1, 0, .arr true _⟩), (90112, ⟨2, 0, .arr true _⟩)] [(13, .c (.arr 0 1)), (21, .c (.arr 90112 2)), (27, .c (.d _))] [16384, 16384] ⟨rfl, rfl, trivial⟩ ⟨rfl, rfl, rfl, trivial⟩ rfl (kRelK rfl rfl (kAppR1 rfl rfl rfl rfl rfl rfl rfl rfl (by omega) (kRelF rfl rfl (kAppR rfl rfl rfl (src_encB _ _) rfl rfl rfl rfl (by omega) (kMovC rfl (kDone (kH (kBk (kReg (kMovC rfl (kAdd rfl rfl (by omega) (kMovC rfl (kDone ?_)))))))))))))))))))))))))))))))))) (fun g0 => (by omega)))))))))))
    refine kInv ⟨⟨i + 1, by omega⟩, by simp only; omega, ?_⟩
    simp only [hst]
    exact .normA
  · have he : b ++ wireN a = b ++ wireL (a.take i) ++ [0] := by rw [show i = a.length by omega, List.take_length]; simp [wireN]
    rw [he]
    refine kSeq (kSeq (kReg (kMovC rfl (kFadP rfl rfl (kLoadP rfl rfl rfl (kLenR rfl rfl (kBin rfl rfl rfl (kDone (kCondP rfl (fun g0 => (by omega)) (fun g0 => kExit (kExC (kExI (kExB (kSeq (kReg (kMovC rfl (kLit rfl rfl rfl rfl (kAppR1 (z := (0 : UInt8)) rfl rfl rfl rfl rfl rfl rfl rfl (by omega) (kMem [(0, ⟨2, 0, .arr true _⟩)] [(31, .c (.arr 0 2))] [] ⟨rfl, trivial⟩ ⟨rfl, trivial⟩ rfl (kMovC rfl (kDone (kMem [(0, ⟨2, 0, .arr true _⟩)] [(4, .c (.arr 0 2))] [] ⟨rfl, trivial⟩ ⟨rfl, trivial⟩ rfl (kRet (endRetA (ra := [.one (.own true _)]) rfl rfl))))))))))))))))))))))))
theorem ok_spec_l2put_nil (a : List (List UInt8)) (hs : SmallBB a) :
    FnOK Tryz.prog 179 [.one (.arr true true (.sl 1 [])), .agg [.d (encBB a)]] (fun ra _ => ra = [.one (.own true (encB (wireN a)))]) := ok_spec_l2put [] a hs (Nat.zero_le _)

def c_spec_l3put : C := (.seq (.reg false (.op 0 [] (some 1) none false (.box 1 (.t 0))
  (.op 1 [] (some 2) none false (.mov (.n 1))
  .done)))
 (.seq (.block 0 (.seq (.reg false (.op 0 [] (some 4) none false (.fad (.t 1) 1)
  (.op 1 [] (some 5) none false (.load none (.t 4))
  (.op 2 [] (some 6) none false (.bin .eql (.t 5) (.v (.int .i64 1)))
  (.op 3 [] (some 3) none false (.mov (.t 6))
  .done)))))
 (.cond (.t 3)
 (.seq (.reg false (.op 0 [] (some 7) none false (.fad (.t 1) 3)
  (.op 1 [] (some 8) none false (.load none (.t 7))
  (.op 2 [] (some 9) none false (.call 9 178 [(.n 1), (.t 8)])
  (.op 3 [] (some 2) none false (.mov (.t 9))
  .done)))))
 .ret)
 (.seq (.reg false (.op 0 [] (some 11) none false (.fad (.t 1) 1)
  (.op 1 [] (some 12) none false (.load none (.t 11))
  (.op 2 [] (some 13) none false (.bin .eql (.t 12) (.v (.int .i64 6)))
  (.op 3 [] (some 10) none false (.mov (.t 13))
  .done)))))
 (.cond (.t 10)
 (.seq (.reg true (.op 0 [] (some 14) none true (.fad (.t 1) 4)
  (.op 1 [] (some 15) none true (.load (some 1) (.t 14))
  (.op 3 [] (some 17) none true (.fad (.t 1) 6)
  (.op 4 [] (some 18) none true (.load none (.t 17))
  (.op 5 [] (some 19) none true (.iad 1 (.t 18) (.v (.int .i64 0)))
  (.op 6 [] (some 20) none true (.load none (.t 19))
  (.op 8 [] (some 22) none true (.fad (.t 1) 6)
  (.op 9 [] (some 23) none true (.load none (.t 22))
  (.op 10 [] (some 24) none true (.iad 1 (.t 23) (.v (.int .i64 1)))
  (.op 11 [] (some 25) none true (.load none (.t 24))
  (.op 2 [1] (some 16) none false (.call 16 179 [(.n 1), (.t 15)])
  (.op 7 [1, 6, 4] (some 21) none false (.call 21 178 [(.t 16), (.t 20)])
  (.op 12 [1, 6, 4, 11, 9] (some 26) none false (.call 26 178 [(.t 21), (.t 25)])
  (.op 13 [] (some 2) none true (.mov (.t 26))
  .done)))))))))))))))
 .ret)
 (.seq (.reg false (.op 0 [] (some 28) none false (.fad (.t 1) 1)
  (.op 1 [] (some 29) none false (.load none (.t 28))
  (.op 2 [] (some 30) none false (.call 30 175 [(.t 29)])
  (.op 3 [] (some 27) none false (.mov (.t 30))
  .done)))))
 (.cond (.t 27)
 (.seq (.reg false (.op 0 [] (some 31) none false (.fad (.t 1) 4)
  (.op 1 [] (some 32) none false (.load (some 1) (.t 31))
  (.op 2 [] (some 33) none false (.call 33 179 [(.n 1), (.t 32)])
  (.op 3 [] (some 2) none false (.mov (.t 33))
  .done)))))
 .ret)
 .skip)))))))
 (.seq (.reg false (.op 0 [] (some 34) none false (.fad (.t 1) 5)
  (.op 1 [] (some 35) none false (.load none (.t 34))
  (.op 2 [] (some 36) none false (.len (.t 35))
  (.op 3 [] (some 37) none false (.conv .u8 (.t 36))
  (.op 4 [] (some 38) none false (.lit 38 1 [(.v (.int .u8 0))] 1 [(0, 1, (.t 37))])
  (.op 5 [] (some 39) none false (.fad (.t 1) 5)
  (.op 6 [] (some 40) none false (.load none (.t 39))
  (.op 7 [] (some 41) none false (.app 41 1 1 (.t 38) (.t 40))
  (.op 8 [] (some 2) none false (.mov (.t 41))
  .done))))))))))
 .ret)))
theorem dg_spec_l3put : Tryz.f155.body.bind (digC Tryz.prog Tryz.f155.ntmps []) = some c_spec_l3put := by kernel_rfl
theorem rs_spec_l3put : resSlots Tryz.prog Tryz.f155 = some [.s 2] := by kernel_rfl
theorem ok_spec_l3put (r : Rr) (hs : SmallR r) (hk : rrOk r = true) :
    FnOK Tryz.prog 155 [.agg (r.cells.map .d)] (fun ra _ => ra = [.one (.own true (encB (rdata r)))]) := by
  refine FnOK.ofK Tryz.func155 (by kernel_rfl) dg_spec_l3put rs_spec_l3put rfl rfl ?_
  unfold c_spec_l3put
  have ht := hs.t
  have t1 := hs.t.len
  have t2 := hs.t.flat
  have x1 := hs.x
  have m1 := hs.m
  by_cases h1 : r.ty = 1
  · rw [rdata_A h1]
    have ha := rdata_ad hk h1
    refine kSeq (kReg (kBox rfl rfl rfl rfl rfl (kMovC rfl (kDone (kSeq (kBlock (kSeq (kReg (kFadP rfl rfl (kLoadP rfl rfl rfl (kBin rfl rfl rfl (kMovC rfl (kDone (kCondP rfl (fun g0 => kSeq (kReg (kFadP rfl rfl (kLoadP rfl rfl rfl (kCall1 true (ok_spec_Put32_nil _ (by first | assumption | omega | solve_by_elim [List.getElem_mem] | (simp only [szOut] at *; omega)) (by first | assumption | omega | solve_by_elim [List.getElem_mem] | (simp only [szOut] at *; omega))) ⟨rfl, rfl, trivial⟩ rfl rfl rfl (fun _ => (kMem [(40960, ⟨1, 0, .arr true _⟩)] [(9, .c (.arr 40960 1))] [] ⟨rfl, trivial⟩ ⟨rfl, trivial⟩ rfl (kMovC rfl (kDone (kMem [(40960, ⟨1, 0, .arr true _⟩)] [(2, .c (.arr 40960 1))] [] ⟨rfl, trivial⟩ ⟨rfl, trivial⟩ rfl (kRet (endRetA (ra := [.one (.own true _)]) rfl rfl)))))))))))) (fun g0 => (by omega))))))))))))))))
  by_cases h6 : r.ty = 6
  · obtain ⟨h2, h3, h4, h5⟩ := rdata_soa hk h6
    rw [h5]
    have w1 := wireN_len r.to
    have w2 : (wireN r.to ++ w4 (r.nums[0]'(by omega))).length = (wireN r.to).length + 4 := by rw [List.length_append, w4_len]
    refine kSeq (kReg (kBox rfl rfl rfl rfl rfl (kMovC rfl (kDone (kSeq (kBlock (kSeq (kReg (kFadP rfl rfl (kLoadP rfl rfl rfl (kBin rfl rfl rfl (kMovC rfl (kDone (kCondP rfl (fun g0 => (by omega)) (fun g0 => kSeq (kReg (kFadP rfl rfl (kLoadP rfl rfl rfl (kBin rfl rfl rfl (kMovC rfl (kDone (kCondP rfl (fun g1 => kSeq (kRegD (kMem [(8192, ⟨1, 0, .box [.d _, .d _, .d _, .d _, .d _, .d _, .d _]⟩)] [(1, .c (.ptr 8192 1 0)), (14, .c (.un)), (17, .c (.un)), (18, .c (.un)), (19, .c (.un)), (22, .c (.un)), (23, .c (.un)), (24, .c (.un)), (15, .c (.un)), (16, .c (.un)), (20, .c (.un)), (21, .c (.un)), (25, .c (.un)), (26, .c (.un))] [] ⟨rfl, trivial⟩ ⟨rfl, rfl, rfl, rfl, rfl, rfl, rfl, rfl, rfl, rfl, rfl, rfl, rfl, rfl, trivial⟩ rfl (kFadP rfl rfl (kLoadP rfl rfl rfl (kFadP rfl rfl (kLoadP rfl rfl rfl (kIadR (m := 0) rfl rfl rfl (by omega) (kLoadD rfl rfl (kFadP rfl rfl (kLoadP rfl rfl rfl (kIadR (m := 1) rfl rfl rfl (by omega) (kLoadD rfl rfl (kRelK rfl rfl (kCall1 true (ok_spec_l2put_nil _ (by first | assumption | omega | solve_by_elim [List.getElem_mem] | (simp only [szOut] at *; omega))) ⟨⟨rfl, rfl⟩, ⟨⟨rfl, trivial⟩, Nat.le_of_ble_eq_true rfl⟩, trivial⟩ rfl rfl rfl (fun _ => (kMem [(69632, ⟨1, 0, .arr true _⟩)] [(16, .c (.arr 69632 1)), (20, .c (.d _)), (21, .c (.un)), (25, .c (.d _)), (26, .c (.un))] [8192, 8192, 8192] ⟨rfl, trivial⟩ ⟨rfl, rfl, rfl, rfl, rfl, trivial⟩ rfl (kRelK rfl rfl (kCall1 true (ok_spec_Put32 _ _ (by first | assumption | omega | solve_by_elim [List.getElem_mem] | (simp only [szOut] at *; omega)) (by first | assumption | omega | solve_by_elim [List.getElem_mem] | (simp only [szOut] at *; omega)) (by first | assumption | omega | solve_by_elim [List.getElem_mem] | (simp only [szOut] at *; omega))) ⟨rfl, rfl, trivial⟩ rfl rfl rfl (fun _ => (kRelF rfl rfl (kCall1 true (ok_spec_Put32 _ _ (by first | assumption | omega | solve_by_elim [List.getElem_mem] | (simp only [szOut] at *; omega)) (by first | assumption | omega | solve_by_elim [List.getElem_mem] | (simp only [szOut] at *; omega)) (by first | assumption | omega | solve_by_elim [List.getElem_mem] | (simp only [szOut] at *; omega))) ⟨rfl, rfl, trivial⟩ rfl rfl rfl (fun _ => (kMovC rfl (kDone (kH (kMem [(110592, ⟨1, 0, .arr true _⟩)] [(2, .c (.arr 110592 1))] [] ⟨rfl, trivial⟩ ⟨rfl, trivial⟩ rfl (kRet (endRetA (ra := [.one (.own true _)]) rfl rfl))))))))))))))))))))))))))))) (fun g1 => (by omega))))))))))))))))))))))))
  have hn := rdata_nm hk h6
  cases h2 : hasTo r.ty
  · rw [rdata_text h1 h2]
    refine kSeq (kReg (kBox rfl rfl rfl rfl rfl (kMovC rfl (kDone (kSeq (kBlock (kSeq (kReg (kFadP rfl rfl (kLoadP rfl rfl rfl (kBin rfl rfl rfl (kMovC rfl (kDone (kCondP rfl (fun g0 => (by omega)) (fun g0 => kSeq (kReg (kFadP rfl rfl (kLoadP rfl rfl rfl (kBin rfl rfl rfl (kMovC rfl (kDone (kCondP rfl (fun g1 => (by omega)) (fun g1 => kSeq (kReg (kMem [(8192, ⟨1, 0, .box [.d _, .d _, .d _, .d _, .d _, .d _, .d _]⟩)] [(1, .c (.ptr 8192 1 0)), (28, .c (.un)), (29, .c (.un)), (30, .c (.un))] [] ⟨rfl, trivial⟩ ⟨rfl, rfl, rfl, rfl, trivial⟩ rfl (kFadP rfl rfl (kLoadP rfl rfl rfl (kCallD (ok_spec_l3named _) ⟨rfl, trivial⟩ rfl rfl rfl rfl rfl (kMovC rfl (kDone (kCond rfl (fun g2 => (by (simp [*] at g2))) (fun g2 => kSkip (kBk (kSeq (kReg (kFadP rfl rfl (kLoadP rfl rfl rfl (kLenR rfl rfl (kConvU8 rfl (kLit rfl rfl rfl rfl (kMem [(8192, ⟨1, 0, .box [.d _, .d _, .d _, .d _, .d _, .d _, .d _]⟩), (159744, ⟨1, 0, .arr true _⟩)] [(1, .c (.ptr 8192 1 0)), (39, .c (.un)), (38, .c (.arr 159744 1)), (40, .c (.un)), (41, .c (.un))] [] ⟨rfl, rfl, trivial⟩ ⟨rfl, rfl, rfl, rfl, rfl, trivial⟩ rfl (kFadP rfl rfl (kLoadP rfl rfl rfl (kApp1R rfl rfl (src_encB _ _) rfl rfl rfl rfl rfl (by omega) (kMovC rfl (kDone (kMem [(159744, ⟨2, 0, .arr true _⟩)] [(2, .c (.arr 159744 2))] [] ⟨rfl, trivial⟩ ⟨rfl, trivial⟩ rfl (kRet (endRetA (ra := [.one (.own true _)]) rfl rfl)))))))))))))))))))))))))))))))))))))))))))))))))
  · rw [rdata_to h1 h2, hn, List.flatMap_nil, List.append_nil]
    refine kSeq (kReg (kBox rfl rfl rfl rfl rfl (kMovC rfl (kDone (kSeq (kBlock (kSeq (kReg (kFadP rfl rfl (kLoadP rfl rfl rfl (kBin rfl rfl rfl (kMovC rfl (kDone (kCondP rfl (fun g0 => (by omega)) (fun g0 => kSeq (kReg (kFadP rfl rfl (kLoadP rfl rfl rfl (kBin rfl rfl rfl (kMovC rfl (kDone (kCondP rfl (fun g1 => (by omega)) (fun g1 => kSeq (kReg (kMem [(8192, ⟨1, 0, .box [.d _, .d _, .d _, .d _, .d _, .d _, .d _]⟩)] [(1, .c (.ptr 8192 1 0)), (28, .c (.un)), (29, .c (.un)), (30, .c (.un))] [] ⟨rfl, trivial⟩ ⟨rfl, rfl, rfl, rfl, trivial⟩ rfl (kFadP rfl rfl (kLoadP rfl rfl rfl (kCallD (ok_spec_l3named _) ⟨rfl, trivial⟩ rfl rfl rfl rfl rfl (kMovC rfl (kDone (kCond rfl (fun g2 => kSeq (kReg (kFadP rfl rfl (kLoadP rfl rfl rfl (kCall1 true (ok_spec_l2put_nil _ (by first | assumption | omega | solve_by_elim [List.getElem_mem] | (simp only [szOut] at *; omega))) ⟨⟨rfl, rfl⟩, ⟨⟨rfl, trivial⟩, Nat.le_of_ble_eq_true rfl⟩, trivial⟩ rfl rfl rfl (fun _ => (kMovC rfl (kDone (kMem [(139264, ⟨1, 0, .arr true _⟩)] [(2, .c (.arr 139264 1))] [] ⟨rfl, trivial⟩ ⟨rfl, trivial⟩ rfl (kRet (endRetA (ra := [.one (.own true _)]) rfl rfl))))))))))) (fun g2 => (by (simp [*] at g2))))))))))))))))))))))))))))))))))

def c_spec_l3cmp : C := (.seq (.reg false (.op 0 [] (some 2) none false (.box 2 (.t 0))
  (.op 1 [] (some 3) none false (.box 3 (.t 1))
  (.op 2 [] (some 4) none false (.mov (.v (.int .i64 0)))
  .done))))
 (.seq (.reg false (.op 0 [] (some 6) none false (.fad (.t 2) 0)
  (.op 1 [] (some 7) none false (.load (some 1) (.t 6))
  (.op 2 [] (some 8) none false (.fad (.t 3) 0)
  (.op 3 [] (some 9) none false (.load (some 1) (.t 8))
  (.op 4 [] (some 10) none false (.call 10 109 [(.t 7), (.t 9)])
  (.op 5 [] (some 5) none false (.mov (.t 10))
  .done)))))))
 (.seq (.seq (.reg false (.op 0 [] (some 11) none false (.mov (.t 5))
  (.op 1 [] (some 12) none false (.bin .eql (.t 11) (.v (.int .i64 0)))
  .done)))
 (.cond (.t 12)
 (.reg false (.op 0 [] (some 13) none false (.fad (.t 2) 1)
  (.op 1 [] (some 14) none false (.load none (.t 13))
  (.op 2 [] (some 15) none false (.fad (.t 3) 1)
  (.op 3 [] (some 16) none false (.load none (.t 15))
  (.op 4 [] (some 17) none false (.call 17 153 [(.t 14), (.t 16)])
  (.op 5 [] (some 5) none false (.mov (.t 17))
  .done)))))))
 .skip))
 (.seq (.seq (.reg false (.op 0 [] (some 18) none false (.mov (.t 5))
  (.op 1 [] (some 19) none false (.bin .eql (.t 18) (.v (.int .i64 0)))
  .done)))
 (.cond (.t 19)
 (.reg true (.op 0 [] (some 20) none true (.load (some 7) (.t 2))
  (.op 2 [] (some 22) none true (.load (some 7) (.t 3))
  (.op 1 [0] (some 21) none false (.call 21 155 [(.t 20)])
  (.op 3 [2, 0] (some 23) none false (.call 23 155 [(.t 22)])
  (.op 4 [0, 2] (some 24) none false (.call 24 154 [(.t 21), (.t 23)])
  (.op 5 [] (some 5) none true (.mov (.t 24))
  .done)))))))
 .skip))
 (.seq (.reg false (.op 0 [] (some 25) none false (.mov (.t 5))
  (.op 1 [] (some 4) none false (.mov (.t 25))
  .done)))
 .ret)))))
theorem dg_spec_l3cmp : Tryz.f107.body.bind (digC Tryz.prog Tryz.f107.ntmps []) = some c_spec_l3cmp := by kernel_rfl
theorem rs_spec_l3cmp : resSlots Tryz.prog Tryz.f107 = some [.s 4] := by kernel_rfl
theorem ok_spec_l3cmp (a b : Rr) (ha : SmallR a) (hb : SmallR b) (ka : rrOk a = true) (kb : rrOk b = true) :
    FnOK Tryz.prog 107 [.agg (a.cells.map .d), .agg (b.cells.map .d)] (fun ra _ => ra = [.one (.d (.sc (.int .i64 (cmpR a b))))]) := by
  refine FnOK.ofK Tryz.func107 (by kernel_rfl) dg_spec_l3cmp rs_spec_l3cmp rfl rfl ?_
  unfold c_spec_l3cmp
  have n1 := ha.n.len
  have n2 := hb.n.len
  by_cases h1 : cmpN a.name b.name = 0
  · by_cases h2 : cmpI a.ty b.ty = 0
    · rw [show cmpR a b = cmpB (rdata a) (rdata b) by unfold cmpR; rw [if_pos h1, if_pos h2]]
      refine kSeq (kReg (kBox rfl rfl rfl rfl rfl (kBox rfl rfl rfl rfl rfl (kMovC rfl (kDone (kSeq (kReg (kFadP rfl rfl (kLoadP rfl rfl rfl (kFadP rfl rfl (kLoadP rfl rfl rfl (kCallD (ok_spec_l2cmp _ _ (by first | assumption | omega | solve_by_elim [List.getElem_mem] | (simp only [szOut] at *; omega)) (by first | assumption | omega | solve_by_elim [List.getElem_mem] | (simp only [szOut] at *; omega))) ⟨⟨⟨rfl, trivial⟩, Nat.le_of_ble_eq_true rfl⟩, ⟨⟨rfl, trivial⟩, Nat.le_of_ble_eq_true rfl⟩, trivial⟩ rfl rfl rfl rfl rfl (kMovC rfl (kDone (kSeq (kSeq (kReg (kMovC rfl (kBin rfl rfl rfl (kDone (kCondP rfl (fun g0 => kReg (kMem [(12288, ⟨1, 0, .box [.d _, .d _, .d _, .d _, .d _, .d _, .d _]⟩), (16384, ⟨1, 0, .box [.d _, .d _, .d _, .d _, .d _, .d _, .d _]⟩)] [(2, .c (.ptr 12288 1 0)), (13, .c (.un)), (3, .c (.ptr 16384 1 0)), (15, .c (.un)), (14, .c (.un)), (16, .c (.un)), (17, .c (.un))] [] ⟨rfl, rfl, trivial⟩ ⟨rfl, rfl, rfl, rfl, rfl, rfl, rfl, trivial⟩ rfl (kFadP rfl rfl (kLoadP rfl rfl rfl (kFadP rfl rfl (kLoadP rfl rfl rfl (kCallD (ok_spec_l3num _ _) ⟨rfl, rfl, trivial⟩ rfl rfl rfl rfl rfl (kMovC rfl (kDone (kSeq (kSeq (kReg (kMovC rfl (kBin rfl rfl rfl (kDone (kCondP rfl (fun g1 => kRegD (kLoadP rfl rfl rfl (kMem [(16384, ⟨1, 0, .box [.d _, .d _, .d _, .d _, .d _, .d _, .d _]⟩)] [(3, .c (.ptr 16384 1 0)), (20, .g [.d _, .d _, .d _, .d _, .d _, .d _, .d _]), (22, .c (.un)), (21, .c (.un)), (23, .c (.un)), (24, .c (.un))] [12288] ⟨rfl, trivial⟩ ⟨rfl, rfl, rfl, rfl, rfl, rfl, trivial⟩ rfl (kLoadP rfl rfl rfl (kRelK rfl rfl (kCall1 true (ok_spec_l3put _ (by first | assumption | omega | solve_by_elim [List.getElem_mem] | (simp only [szOut] at *; omega)) (by first | assumption | omega | solve_by_elim [List.getElem_mem] | (simp only [szOut] at *; omega))) ⟨⟨⟨rfl, rfl, rfl, rfl, rfl, rfl, rfl, trivial⟩, Nat.le_of_ble_eq_true rfl⟩, trivial⟩ rfl rfl rfl (fun _ => (kRelF rfl rfl (kCall1 true (ok_spec_l3put _ (by first | assumption | omega | solve_by_elim [List.getElem_mem] | (simp only [szOut] at *; omega)) (by first | assumption | omega | solve_by_elim [List.getElem_mem] | (simp only [szOut] at *; omega))) ⟨⟨⟨rfl, rfl, rfl, rfl, rfl, rfl, rfl, trivial⟩, Nat.le_of_ble_eq_true rfl⟩, trivial⟩ rfl rfl rfl (fun _ => (kRelF rfl rfl (kCallD (ok_spec_l2bytes _ _) ⟨rfl, rfl, trivial⟩ rfl rfl rfl rfl rfl (kMovC rfl (kDone (kH (kSeq (kReg (kMovC rfl (kMovC rfl (kDone (kRet (endRetA (ra := [.one (.d _)]) rfl rfl)))))))))))))))))))))) (fun g1 => (by omega)))))))))))))))))) (fun g0 => (by omega)))))))))))))))))))))))
    · rw [show cmpR a b = cmpI a.ty b.ty by unfold cmpR; rw [if_pos h1, if_neg h2]]
      refine kSeq (kReg (kBox rfl rfl rfl rfl rfl (kBox rfl rfl rfl rfl rfl (kMovC rfl (kDone (kSeq (kReg (kFadP rfl rfl (kLoadP rfl rfl rfl (kFadP rfl rfl (kLoadP rfl rfl rfl (kCallD (ok_spec_l2cmp _ _ (by first | assumption | omega | solve_by_elim [List.getElem_mem] | (simp only [szOut] at *; omega)) (by first | assumption | omega | solve_by_elim [List.getElem_mem] | (simp only [szOut] at *; omega))) ⟨⟨⟨rfl, trivial⟩, Nat.le_of_ble_eq_true rfl⟩, ⟨⟨rfl, trivial⟩, Nat.le_of_ble_eq_true rfl⟩, trivial⟩ rfl rfl rfl rfl rfl (kMovC rfl (kDone (kSeq (kSeq (kReg (kMovC rfl (kBin rfl rfl rfl (kDone (kCondP rfl (fun g0 => kReg (kMem [(12288, ⟨1, 0, .box [.d _, .d _, .d _, .d _, .d _, .d _, .d _]⟩), (16384, ⟨1, 0, .box [.d _, .d _, .d _, .d _, .d _, .d _, .d _]⟩)] [(2, .c (.ptr 12288 1 0)), (13, .c (.un)), (3, .c (.ptr 16384 1 0)), (15, .c (.un)), (14, .c (.un)), (16, .c (.un)), (17, .c (.un))] [] ⟨rfl, rfl, trivial⟩ ⟨rfl, rfl, rfl, rfl, rfl, rfl, rfl, trivial⟩ rfl (kFadP rfl rfl (kLoadP rfl rfl rfl (kFadP rfl rfl (kLoadP rfl rfl rfl (kCallD (ok_spec_l3num _ _) ⟨rfl, rfl, trivial⟩ rfl rfl rfl rfl rfl (kMovC rfl (kDone (kSeq (kSeq (kReg (kMovC rfl (kBin rfl rfl rfl (kDone (kCondP rfl (fun g1 => (by omega)) (fun g1 => kSkip (kSeq (kReg (kMovC rfl (kMovC rfl (kDone (kRet (endRetA (ra := [.one (.d _)]) rfl rfl)))))))))))))))))))))))) (fun g0 => (by omega)))))))))))))))))))))))
  · rw [show cmpR a b = cmpN a.name b.name by unfold cmpR; rw [if_neg h1]]
    refine kSeq (kReg (kBox rfl rfl rfl rfl rfl (kBox rfl rfl rfl rfl rfl (kMovC rfl (kDone (kSeq (kReg (kFadP rfl rfl (kLoadP rfl rfl rfl (kFadP rfl rfl (kLoadP rfl rfl rfl (kCallD (ok_spec_l2cmp _ _ (by first | assumption | omega | solve_by_elim [List.getElem_mem] | (simp only [szOut] at *; omega)) (by first | assumption | omega | solve_by_elim [List.getElem_mem] | (simp only [szOut] at *; omega))) ⟨⟨⟨rfl, trivial⟩, Nat.le_of_ble_eq_true rfl⟩, ⟨⟨rfl, trivial⟩, Nat.le_of_ble_eq_true rfl⟩, trivial⟩ rfl rfl rfl rfl rfl (kMovC rfl (kDone (kSeq (kSeq (kReg (kMovC rfl (kBin rfl rfl rfl (kDone (kCondP rfl (fun g0 => (by omega)) (fun g0 => kSkip (kSeq (kSeq (kReg (kMovC rfl (kBin rfl rfl rfl (kDone (kCondP rfl (fun g1 => (by omega)) (fun g1 => kSkip (kSeq (kReg (kMovC rfl (kMovC rfl (kDone (kRet (endRetA (ra := [.one (.d _)]) rfl rfl)))))))))))))))))))))))))))))))))))))

def c_spec_l5alone : C := (.seq (.reg false (.op 0 [] (some 4) none false (.mov (.v (.bool false)))
  .done))
 (.seq (.seq (.reg false (.op 0 [] (some 6) none false (.mov (.t 0))
  (.op 1 [] (some 7) none false (.mov (.t 1))
  (.op 2 [] (some 8) none false (.iad 7 (.t 6) (.t 7))
  (.op 3 [] (some 9) none false (.fad (.t 8) 1)
  (.op 4 [] (some 10) none false (.load none (.t 9))
  (.op 5 [] (some 11) none false (.bin .neq (.t 10) (.v (.int .i64 5)))
  .done)))))))
 (.cond (.t 11)
 (.seq (.reg false (.op 0 [] (some 4) none false (.mov (.v (.bool true)))
  .done))
 .ret)
 .skip))
 (.seq (.seq (.reg false (.op 0 [] (some 5) none false (.mov (.v (.int .i64 0)))
  .done))
 (.block 0 (.loop (.seq (.seq (.reg false (.op 0 [] (some 12) none false (.mov (.t 5))
  (.op 1 [] (some 13) none false (.mov (.t 0))
  (.op 2 [] (some 14) none false (.len (.t 13))
  (.op 3 [] (some 15) none false (.bin .lss (.t 12) (.t 14))
  .done)))))
 (.cond (.t 15)
 .skip
 (.exit 0)))
 (.seq (.block 1 (.seq (.reg true (.op 0 [] (some 18) none true (.mov (.t 5))
  (.op 1 [] (some 19) none true (.mov (.t 1))
  (.op 2 [] (some 20) none true (.bin .neq (.t 18) (.t 19))
  (.op 3 [] (some 21) none true (.mov (.t 20))
  (.op 4 [] (some 22) (some (21, true)) true (.mov (.t 0))
  (.op 5 [] (some 23) (some (21, true)) true (.mov (.t 5))
  (.op 6 [] (some 24) (some (21, true)) true (.iad 7 (.t 22) (.t 23))
  (.op 7 [] (some 25) (some (21, true)) true (.fad (.t 24) 0)
  (.op 8 [] (some 26) (some (21, true)) true (.load (some 1) (.t 25))
  (.op 9 [] (some 27) (some (21, true)) true (.mov (.t 0))
  (.op 10 [] (some 28) (some (21, true)) true (.mov (.t 1))
  (.op 11 [] (some 29) (some (21, true)) true (.iad 7 (.t 27) (.t 28))
  (.op 12 [] (some 30) (some (21, true)) true (.fad (.t 29) 0)
  (.op 13 [] (some 31) (some (21, true)) true (.load (some 1) (.t 30))
  (.op 14 [8, 13] (some 32) (some (21, true)) false (.call 32 109 [(.t 26), (.t 31)])
  (.op 15 [] (some 33) (some (21, true)) true (.bin .eql (.t 32) (.v (.int .i64 0)))
  (.op 16 [] (some 34) none true (.pick (.t 21) (.t 33) (.v (.bool false)))
  .done))))))))))))))))))
 (.cond (.t 34)
 (.seq (.reg false (.op 0 [] (some 4) none false (.mov (.v (.bool false)))
  .done))
 .ret)
 .skip)))
 (.reg false (.op 0 [] (some 16) none false (.mov (.t 5))
  (.op 1 [] (some 17) none false (.bin .add (.t 16) (.v (.int .i64 1)))
  (.op 2 [] (some 5) none false (.mov (.t 17))
  .done)))))))))
 (.seq (.reg false (.op 0 [] (some 4) none false (.mov (.v (.bool true)))
  .done))
 .ret))))
theorem dg_spec_l5alone : Tryz.f108.body.bind (digC Tryz.prog Tryz.f108.ntmps []) = some c_spec_l5alone := by kernel_rfl
theorem rs_spec_l5alone : resSlots Tryz.prog Tryz.f108 = some [.s 4] := by kernel_rfl
theorem ok_spec_l5alone (l : List Rr) (i : Nat) (hs : SmallRs l) (hi : i < l.length) :
    FnOK Tryz.prog 108 [.one (.d (encR l)), .one (.d (.sc (.int .i64 i)))] (fun ra _ => ra = [.one (.d (.sc (.bool (aloneR l i))))]) := by
  refine FnOK.ofK Tryz.func108 (by kernel_rfl) dg_spec_l5alone rs_spec_l5alone rfl rfl ?_
  unfold c_spec_l5alone
  have h1 := hs.len
  have hbi := hs.mem _ (List.getElem_mem hi)
  have n1 := hbi.n.len
  by_cases p : l[i].ty = 5
  · refine kSeq (kReg (kMovC rfl (kDone (kSeq (kSeq (kReg (kMovC rfl (kMovC rfl (kIadR rfl rfl rfl (by omega) (kFadD rfl (kLoadD rfl rfl (kBin rfl rfl rfl (kDone (kCondIN rfl (fun g0 => (by omega)) (fun g0 => kSkip (kSeq (kSeq (kReg (kMovC rfl (kDone (kBlock ?_)))))))))))))))))))))
    refine kLoop (α := { k : Nat // k ≤ l.length ∧ ∀ j, (h : j < k) → (h' : j < l.length) → j ≠ i → l[j].name ≠ l[i].name }) (fun y => ⟨tabSl [(0, .dv (encR l)), (1, .i i), (5, .i y.1)], obTab 1 [], []⟩) (fun y => l.length - y.1) ⟨0, by simp, fun _ h => by omega⟩ .normA ?_
    rintro ⟨k, hk, hn⟩
    simp only
    rcases Nat.lt_or_ge k l.length with hlt | hge
    · have hbk := hs.mem _ (List.getElem_mem hlt)
      have n2 := hbk.n.len
      have hz := cmpN_zero l[k].name l[i].name
      by_cases p1 : k = i
      · refine kSeq (kSeq (kReg (kMovC rfl (kMovC rfl (kLenR rfl rfl (kBin rfl rfl rfl (kDone (kCondP rfl (fun g0 => kSkip (kSeq (kBlock (kSeq (kRegD (kMovC rfl (kMovC rfl (kBin rfl rfl rfl (kMovC rfl (kGIN rfl (fun g1 => (by omega)) (fun g1 => kGF rfl (kGF rfl (kGF rfl (kGF rfl (kGF rfl (kGF rfl (kGF rfl (kGF rfl (kGF rfl (kGF rfl (kRelF rfl rfl (kGF rfl (kGF rfl (kPickF rfl (kMovC rfl (kDone (kH (kCondF rfl (kSkip (kBk (kReg (kMovC rfl (kAdd rfl rfl (by omega) (kMovC rfl (kDone ?_))))))))))))))))))))))))))))))))))) (fun g0 => (by omega))))))))))
        refine kInv ⟨⟨k + 1, by omega, fun j h h' hne => hn j (by omega) h' hne⟩, by simp only; omega, .normA⟩
      · by_cases p2 : l[k].name = l[i].name
        · have hc : cmpN l[k].name l[i].name = 0 := by simpa [p2] using hz
          rw [show aloneR l i = false by rw [aloneR_no hi p hlt p1 p2]]
          refine kSeq (kSeq (kReg (kMovC rfl (kMovC rfl (kLenR rfl rfl (kBin rfl rfl rfl (kDone (kCondP rfl (fun g0 => kSkip (kSeq (kBlock (kSeq (kRegD (kMovC rfl (kMovC rfl (kBin rfl rfl rfl (kMovC rfl (kGIN rfl (fun g1 => kGT rfl (kMovC rfl (kGT rfl (kMovC rfl (kGT rfl (kIadR rfl rfl rfl (by omega) (kGT rfl (kFadD rfl (kGT rfl (kLoadD rfl rfl (kGT rfl (kMovC rfl (kGT rfl (kMovC rfl (kGT rfl (kIadR rfl rfl rfl (by omega) (kGT rfl (kFadD rfl (kGT rfl (kLoadD rfl rfl (kRelF rfl rfl (kGT rfl (kCallD (ok_spec_l2cmp _ _ (by first | assumption | omega | solve_by_elim [List.getElem_mem] | (simp only [szOut] at *; omega)) (by first | assumption | omega | solve_by_elim [List.getElem_mem] | (simp only [szOut] at *; omega))) ⟨⟨⟨rfl, trivial⟩, Nat.le_of_ble_eq_true rfl⟩, ⟨⟨rfl, trivial⟩, Nat.le_of_ble_eq_true rfl⟩, trivial⟩ rfl rfl rfl rfl rfl (kGT rfl (kBin rfl rfl rfl (kPickT rfl (kMovC rfl (kDone (kH (kCondP rfl (fun g2 => kSeq (kReg (kMovC rfl (kDone (kRet (endRetA (ra := [.one (.d _)]) rfl rfl)))))) (fun g2 => (by omega)))))))))))))))))))))))))))))))) (fun g1 => (by omega)))))))))))) (fun g0 => (by omega))))))))))
        · have hc : cmpN l[k].name l[i].name ≠ 0 := by simpa [p2] using hz
          refine kSeq (kSeq (kReg (kMovC rfl (kMovC rfl (kLenR rfl rfl (kBin rfl rfl rfl (kDone (kCondP rfl (fun g0 => kSkip (kSeq (kBlock (kSeq (kRegD (kMovC rfl (kMovC rfl (kBin rfl rfl rfl (kMovC rfl (kGIN rfl (fun g1 => kGT rfl (kMovC rfl (kGT rfl (kMovC rfl (kGT rfl (kIadR rfl rfl rfl (by omega) (kGT rfl (kFadD rfl (kGT rfl (kLoadD rfl rfl (kGT rfl (kMovC rfl (kGT rfl (kMovC rfl (kGT rfl (kIadR rfl rfl rfl (by omega) (kGT rfl (kFadD rfl (kGT rfl (kLoadD rfl rfl (kRelF rfl rfl (kGT rfl (kCallD (ok_spec_l2cmp _ _ (by first | assumption | omega | solve_by_elim [List.getElem_mem] | (simp only [szOut] at *; omega)) (by first | assumption | omega | solve_by_elim [List.getElem_mem] | (simp only [szOut] at *; omega))) ⟨⟨⟨rfl, trivial⟩, Nat.le_of_ble_eq_true rfl⟩, ⟨⟨rfl, trivial⟩, Nat.le_of_ble_eq_true rfl⟩, trivial⟩ rfl rfl rfl rfl rfl (kGT rfl (kBin rfl rfl rfl (kPickT rfl (kMovC rfl (kDone (kH (kCondP rfl (fun g2 => (by omega)) (fun g2 => kSkip (kBk (kReg (kMovC rfl (kAdd rfl rfl (by omega) (kMovC rfl (kDone ?_))))))))))))))))))))))))))))))))))))) (fun g1 => (by omega)))))))))))) (fun g0 => (by omega))))))))))
          refine kInv ⟨⟨k + 1, by omega, fun j h h' hne => ?_⟩, by simp only; omega, .normA⟩
          by_cases e : j = k
          · subst e; exact p2
          · exact hn j (by omega) h' hne
    · rw [show aloneR l i = true by exact aloneR_yes hi fun j h' hne => hn j (by omega) h' hne]
      refine kSeq (kSeq (kReg (kMovC rfl (kMovC rfl (kLenR rfl rfl (kBin rfl rfl rfl (kDone (kCondP rfl (fun g0 => (by omega)) (fun g0 => kExit (kExC (kExI (kExB (kSeq (kReg (kMovC rfl (kDone (kRet (endRetA (ra := [.one (.d _)]) rfl rfl))))))))))))))))))
  · rw [show aloneR l i = true by exact aloneR_ty hi p]
    refine kSeq (kReg (kMovC rfl (kDone (kSeq (kSeq (kReg (kMovC rfl (kMovC rfl (kIadR rfl rfl rfl (by omega) (kFadD rfl (kLoadD rfl rfl (kBin rfl rfl rfl (kDone (kCondIN rfl (fun g0 => kSeq (kReg (kMovC rfl (kDone (kRet (endRetA (ra := [.one (.d _)]) rfl rfl)))))) (fun g0 => (by omega))))))))))))))))

def c_spec_ZoneOk : C := (.seq (.reg false (.op 0 [] (some 1) none false (.box 1 (.t 0))
  (.op 1 [] (some 2) none false (.mov (.v (.bool false)))
  .done)))
 (.seq (.seq (.reg false (.op 0 [] (some 6) none false (.fad (.t 1) 0)
  (.op 1 [] (some 7) none false (.load (some 1) (.t 6))
  (.op 2 [] (some 8) none false (.call 8 79 [(.t 7)])
  (.op 3 [] (some 9) none false (.un .not (.t 8))
  (.op 4 [] (some 10) none false (.mov (.t 9))
  (.op 5 [] (some 11) (some (10, false)) false (.fad (.t 1) 1)
  (.op 6 [] (some 12) (some (10, false)) false (.load none (.t 11))
  (.op 7 [] (some 13) (some (10, false)) false (.len (.t 12))
  (.op 8 [] (some 14) (some (10, false)) false (.bin .gtr (.t 13) (.v (.int .i64 60)))
  (.op 9 [] (some 15) none false (.pick (.t 10) (.v (.bool true)) (.t 14))
  .done)))))))))))
 (.cond (.t 15)
 (.seq (.reg false (.op 0 [] (some 2) none false (.mov (.v (.bool false)))
  .done))
 .ret)
 .skip))
 (.seq (.reg false (.op 0 [] (some 3) none false (.mov (.v (.int .i64 0)))
  .done))
 (.seq (.seq (.reg false (.op 0 [] (some 4) none false (.mov (.v (.int .i64 0)))
  .done))
 (.block 0 (.loop (.seq (.seq (.reg false (.op 0 [] (some 16) none false (.mov (.t 4))
  (.op 1 [] (some 17) none false (.fad (.t 1) 1)
  (.op 2 [] (some 18) none false (.load none (.t 17))
  (.op 3 [] (some 19) none false (.len (.t 18))
  (.op 4 [] (some 20) none false (.bin .lss (.t 16) (.t 19))
  .done))))))
 (.cond (.t 20)
 .skip
 (.exit 0)))
 (.seq (.block 1 (.seq (.reg false (.op 0 [] (some 23) none false (.fad (.t 1) 1)
  (.op 1 [] (some 24) none false (.load none (.t 23))
  (.op 2 [] (some 25) none false (.mov (.t 4))
  (.op 3 [] (some 26) none false (.iad 7 (.t 24) (.t 25))
  (.op 4 [] (some 27) none false (.load (some 7) (.t 26))
  (.op 5 [] (some 5) none false (.alloc 5 [(.n 1), (.v (.int .i64 0)), (.v (.int .i64 0)), (.v (.int .i64 0)), (.n 1), (.n 1), (.n 1)])
  (.op 6 [] none none false (.store (some 7) (.t 5) (.t 27))
  .done))))))))
 (.seq (.seq (.reg true (.op 0 [] (some 28) none true (.load (some 7) (.t 5))
  (.op 1 [0] (some 29) none false (.call 29 90 [(.t 28)])
  (.op 2 [] (some 30) none true (.un .not (.t 29))
  (.op 3 [] (some 31) none true (.mov (.t 30))
  (.op 4 [] (some 32) (some (31, false)) true (.fad (.t 5) 0)
  (.op 5 [] (some 33) (some (31, false)) true (.load (some 1) (.t 32))
  (.op 6 [] (some 34) (some (31, false)) true (.fad (.t 1) 0)
  (.op 7 [] (some 35) (some (31, false)) true (.load (some 1) (.t 34))
  (.op 8 [5, 0, 7] (some 36) (some (31, false)) false (.call 36 106 [(.t 33), (.t 35)])
  (.op 9 [] (some 37) (some (31, false)) true (.un .not (.t 36))
  (.op 10 [] (some 38) none true (.pick (.t 31) (.v (.bool true)) (.t 37))
  (.op 11 [] (some 39) none true (.mov (.t 38))
  (.op 12 [] (some 40) (some (39, false)) true (.mov (.t 4))
  (.op 13 [] (some 41) (some (39, false)) true (.bin .gtr (.t 40) (.v (.int .i64 0)))
  (.op 14 [] (some 42) (some (39, false)) true (.mov (.t 41))
  (.op 15 [] (some 43) (some (42, true)) true (.fad (.t 1) 1)
  (.op 16 [] (some 44) (some (42, true)) true (.load none (.t 43))
  (.op 17 [] (some 45) (some (42, true)) true (.mov (.t 4))
  (.op 18 [] (some 46) (some (42, true)) true (.bin .sub (.t 45) (.v (.int .i64 1)))
  (.op 19 [] (some 47) (some (42, true)) true (.iad 7 (.t 44) (.t 46))
  (.op 20 [] (some 48) (some (42, true)) true (.load (some 7) (.t 47))
  (.op 21 [] (some 49) (some (42, true)) true (.load (some 7) (.t 5))
  (.op 22 [20, 16, 5, 7, 21, 0] (some 50) (some (42, true)) false (.call 50 107 [(.t 48), (.t 49)])
  (.op 23 [] (some 51) (some (42, true)) true (.bin .geq (.t 50) (.v (.int .i64 0)))
  (.op 24 [] (some 52) (some (39, false)) true (.pick (.t 42) (.t 51) (.v (.bool false)))
  (.op 25 [] (some 53) none true (.pick (.t 39) (.v (.bool true)) (.t 52))
  (.op 26 [] (some 54) none true (.mov (.t 53))
  (.op 27 [] (some 55) (some (54, false)) true (.fad (.t 1) 1)
  (.op 28 [] (some 56) (some (54, false)) true (.load none (.t 55))
  (.op 29 [] (some 57) (some (54, false)) true (.mov (.t 4))
  (.op 30 [28, 20, 21, 5, 7, 16] (some 58) (some (54, false)) false (.call 58 108 [(.t 56), (.t 57)])
  (.op 31 [] (some 59) (some (54, false)) true (.un .not (.t 58))
  (.op 32 [] (some 60) none true (.pick (.t 54) (.v (.bool true)) (.t 59))
  .done))))))))))))))))))))))))))))))))))
 (.cond (.t 60)
 (.seq (.reg false (.op 0 [] (some 2) none false (.mov (.v (.bool false)))
  .done))
 .ret)
 .skip))
 (.seq (.reg false (.op 0 [] (some 61) none false (.fad (.t 5) 1)
  (.op 1 [] (some 62) none false (.load none (.t 61))
  (.op 2 [] (some 63) none false (.bin .eql (.t 62) (.v (.int .i64 6)))
  .done))))
 (.cond (.t 63)
 (.seq (.reg false (.op 0 [] (some 64) none false (.mov (.t 3))
  (.op 1 [] (some 65) none false (.bin .add (.t 64) (.v (.int .i64 1)))
  (.op 2 [] (some 3) none false (.mov (.t 65))
  .done))))
 (.seq (.reg false (.op 0 [] (some 66) none false (.fad (.t 5) 0)
  (.op 1 [] (some 67) none false (.load (some 1) (.t 66))
  (.op 2 [] (some 68) none false (.fad (.t 1) 0)
  (.op 3 [] (some 69) none false (.load (some 1) (.t 68))
  (.op 4 [] (some 70) none false (.call 70 109 [(.t 67), (.t 69)])
  (.op 5 [] (some 71) none false (.bin .neq (.t 70) (.v (.int .i64 0)))
  .done)))))))
 (.cond (.t 71)
 (.seq (.reg false (.op 0 [] (some 2) none false (.mov (.v (.bool false)))
  .done))
 .ret)
 .skip)))
 .skip)))))
 (.reg false (.op 0 [] (some 21) none false (.mov (.t 4))
  (.op 1 [] (some 22) none false (.bin .add (.t 21) (.v (.int .i64 1)))
  (.op 2 [] (some 4) none false (.mov (.t 22))
  .done)))))))))
 (.seq (.reg false (.op 0 [] (some 72) none false (.mov (.t 3))
  (.op 1 [] (some 73) none false (.bin .eql (.t 72) (.v (.int .i64 1)))
  (.op 2 [] (some 2) none false (.mov (.t 73))
  .done))))
 .ret)))))
theorem dg_spec_ZoneOk : Tryz.f49.body.bind (digC Tryz.prog Tryz.f49.ntmps []) = some c_spec_ZoneOk := by kernel_rfl
theorem rs_spec_ZoneOk : resSlots Tryz.prog Tryz.f49 = some [.s 2] := by kernel_rfl
theorem ok_spec_ZoneOk (z : Zone) (hs : SmallZ z) :
    FnOK Tryz.prog 49 [.agg (z.cells.map .d)] (fun ra _ => ra = [.one (.d (.sc (.bool (zoneOk z))))]) := by
  refine FnOK.ofK Tryz.func49 (by kernel_rfl) dg_spec_ZoneOk rs_spec_ZoneOk rfl rfl ?_
  unfold c_spec_ZoneOk
  have o1 := hs.o.len
  have o2 := hs.o.mem
  have h1 := hs.r.len
  have hm := hs.r.mem
  have hr := hs.r
  cases a1 : nameOk z.origin
  · rw [show zoneOk z = false by unfold zoneOk; rw [a1]; rfl]
    refine kSeq (kReg (kBox rfl rfl rfl rfl rfl (kMovC rfl (kDone (kSeq (kSeq (kReg (kFadP rfl rfl (kLoadP rfl rfl rfl (kCallD (ok_spec_NameOk _ (by first | assumption | omega | solve_by_elim [List.getElem_mem] | (simp only [szOut] at *; omega)) (by first | assumption | omega | solve_by_elim [List.getElem_mem] | (simp only [szOut] at *; omega))) ⟨⟨⟨rfl, trivial⟩, Nat.le_of_ble_eq_true rfl⟩, trivial⟩ rfl rfl rfl rfl rfl (kUn rfl rfl (kMovC rfl (kGN rfl (fun g0 => kGF rfl (kGF rfl (kGF rfl (kGF rfl (kPickT rfl (kMovC rfl (kDone (kCondT rfl (kSeq (kReg (kMovC rfl (kDone (kRet (endRetA (ra := [.one (.d _)]) rfl rfl)))))))))))))) (fun g0 => (by (simp [*] at g0))))))))))))))))
  by_cases a2 : z.rrs.length ≤ 60
  case neg =>
    rw [show zoneOk z = false by unfold zoneOk; rw [decide_eq_false a2]; simp]
    refine kSeq (kReg (kBox rfl rfl rfl rfl rfl (kMovC rfl (kDone (kSeq (kSeq (kReg (kFadP rfl rfl (kLoadP rfl rfl rfl (kCallD (ok_spec_NameOk _ (by first | assumption | omega | solve_by_elim [List.getElem_mem] | (simp only [szOut] at *; omega)) (by first | assumption | omega | solve_by_elim [List.getElem_mem] | (simp only [szOut] at *; omega))) ⟨⟨⟨rfl, trivial⟩, Nat.le_of_ble_eq_true rfl⟩, trivial⟩ rfl rfl rfl rfl rfl (kUn rfl rfl (kMovC rfl (kGN rfl (fun g0 => (by (simp [*] at g0))) (fun g0 => kGT rfl (kFadP rfl rfl (kGT rfl (kLoadP rfl rfl rfl (kGT rfl (kLenR rfl rfl (kGT rfl (kBin rfl rfl rfl (kPickF rfl (kMovC rfl (kDone (kCondP rfl (fun g1 => kSeq (kReg (kMovC rfl (kDone (kRet (endRetA (ra := [.one (.d _)]) rfl rfl)))))) (fun g1 => (by omega)))))))))))))))))))))))))))
  refine kSeq (kReg (kBox rfl rfl rfl rfl rfl (kMovC rfl (kDone (kSeq (kSeq (kReg (kFadP rfl rfl (kLoadP rfl rfl rfl (kCallD (ok_spec_NameOk _ (by first | assumption | omega | solve_by_elim [List.getElem_mem] | (simp only [szOut] at *; omega)) (by first | assumption | omega | solve_by_elim [List.getElem_mem] | (simp only [szOut] at *; omega))) ⟨⟨⟨rfl, trivial⟩, Nat.le_of_ble_eq_true rfl⟩, trivial⟩ rfl rfl rfl rfl rfl (kUn rfl rfl (kMovC rfl (kGN rfl (fun g0 => (by (simp [*] at g0))) (fun g0 => kGT rfl (kFadP rfl rfl (kGT rfl (kLoadP rfl rfl rfl (kGT rfl (kLenR rfl rfl (kGT rfl (kBin rfl rfl rfl (kPickF rfl (kMovC rfl (kDone (kCondP rfl (fun g1 => (by omega)) (fun g1 => kSkip (kSeq (kReg (kMovC rfl (kDone (kSeq (kSeq (kReg (kMovC rfl (kDone (kBlock ?_))))))))))))))))))))))))))))))))))))
  refine kLoop (α := { i : Nat // i ≤ z.rrs.length ∧ (List.range i).all (zAt z) = true ∧ (z.rrs.take i).all rrOk = true }) (fun y => ⟨tabSl [(1, .c (.ptr (rid 1 0) 1 0)), (3, .i (zTops (z.rrs.take y.1))), (4, .i y.1)], obTab 1 [(rid 1 0, ⟨1, 0, .box (z.cells.map .d)⟩)], []⟩) (fun y => z.rrs.length - y.1) ⟨0, by simp⟩ .normA ?_
  rintro ⟨i, hi, hz, hal⟩
  simp only
  have ht := zTops_le z.rrs i
  rcases Nat.lt_or_ge i z.rrs.length with hlt | hge
  · have hbi := hm _ (List.getElem_mem hlt)
    have n1 := hbi.n.len
    have n2 := hbi.n.mem
    have hts := zTops_succ z.rrs i hlt
    have hq := zAt_eq hlt
    have hcz := cmpN_zero z.rrs[i].name z.origin
    cases hk : rrOk z.rrs[i]
    · rw [show zoneOk z = false by unfold zoneOk; rw [all_no hlt hk]; simp]
      refine kSeq (kSeq (kReg (kMovC rfl (kFadP rfl rfl (kLoadP rfl rfl rfl (kLenR rfl rfl (kBin rfl rfl rfl (kDone (kCondP rfl (fun g0 => kSkip (kSeq (kBlock (kSeq (kReg (kFadP rfl rfl (kLoadP rfl rfl rfl (kMovC rfl (kIadR rfl rfl rfl (by omega) (kLoadD rfl rfl (kAlloc rfl rfl (kMem [(24576, ⟨2, 0, .box [.nil 1, .d _, .d _, .d _, .nil 1, .nil 1, .nil 1]⟩)] [(5, .c (.ptr 24576 2 0)), (27, .g [.d _, .d _, .d _, .d _, .d _, .d _, .d _])] [] ⟨rfl, trivial⟩ ⟨rfl, rfl, trivial⟩ rfl (kStoreP rfl rfl rfl rfl (kDone (kSeq (kSeq (kRegD (kLoadP rfl rfl rfl (kRelF rfl rfl (kCallD (ok_spec_RrOk _ (by first | assumption | omega | solve_by_elim [List.getElem_mem] | (simp only [szOut] at *; omega))) ⟨⟨⟨rfl, rfl, rfl, rfl, rfl, rfl, rfl, trivial⟩, Nat.le_of_ble_eq_true rfl⟩, trivial⟩ rfl rfl rfl rfl rfl (kUn rfl rfl (kMovC rfl (kGN rfl (fun g1 => kGF rfl (kGF rfl (kGF rfl (kGF rfl (kRelF rfl rfl (kGF rfl (kGF rfl (kPickT rfl (kMovC rfl (kMovC rfl (kGF rfl (kGF rfl (kGF rfl (kGU rfl (kGU rfl (kGU rfl (kGU rfl (kGU rfl (kMem [(24576, ⟨2, 0, .box [.d _, .d _, .d _, .d _, .d _, .d _, .d _]⟩), (8192, ⟨1, 0, .box [.d _, .d _]⟩)] [(47, .c (.un)), (5, .c (.ptr 24576 2 0)), (42, .c (.un)), (39, .c (.d _)), (1, .c (.ptr 8192 1 0)), (4, .c (.d _))] [] ⟨rfl, rfl, trivial⟩ ⟨rfl, rfl, rfl, rfl, rfl, rfl, trivial⟩ rfl (kGU rfl (kGU rfl (kRelF rfl rfl (kGU rfl (kGU rfl (kGF rfl (kPickT rfl (kMovC rfl (kMovC rfl (kGF rfl (kGF rfl (kGF rfl (kRelF rfl rfl (kGF rfl (kGF rfl (kPickT rfl (kMovC rfl (kDone (kH (kCondT rfl (kSeq (kReg (kMovC rfl (kDone (kRet (endRetA (ra := [.one (.d _)]) rfl rfl))))))))))))))))))))))))))))))))))))))))))))) (fun g1 => (by (simp [*] at g1)))))))))))))))))))))))))) (fun g0 => (by omega)))))))))))
    have kp : rrOk (z.rrs[((i : Int) - 1).toNat]'(by omega)) = true := by
      rcases Nat.eq_zero_or_pos i with h0 | h0
      · have e : ((i : Int) - 1).toNat = i := by omega
        simp only [e]; exact hk
      · have e : ((i : Int) - 1).toNat = i - 1 := by omega
        simp only [e]
        exact List.all_eq_true.1 hal _ (by rw [List.mem_take_iff_getElem]; exact ⟨i - 1, by omega, rfl⟩)
    refine kSeq ?_
    refine kSeq (kReg (kMovC rfl (kFadP rfl rfl (kLoadP rfl rfl rfl (kLenR rfl rfl (kBin rfl rfl rfl (kDone (kCondP rfl (fun g0 => kSkip (kSeq (kBlock (kSeq (kReg (kFadP rfl rfl (kLoadP rfl rfl rfl (kMovC rfl (kIadR rfl rfl rfl (by omega) (kLoadD rfl rfl (kAlloc rfl rfl (kMem [(24576, ⟨2, 0, .box [.nil 1, .d _, .d _, .d _, .nil 1, .nil 1, .nil 1]⟩)] [(5, .c (.ptr 24576 2 0)), (27, .g [.d _, .d _, .d _, .d _, .d _, .d _, .d _])] [] ⟨rfl, trivial⟩ ⟨rfl, rfl, trivial⟩ rfl (kStoreP rfl rfl rfl rfl (kDone (kSeq (kSeq (kRegD (kLoadP rfl rfl rfl (kRelF rfl rfl (kCallD (ok_spec_RrOk _ (by first | assumption | omega | solve_by_elim [List.getElem_mem] | (simp only [szOut] at *; omega))) ⟨⟨⟨rfl, rfl, rfl, rfl, rfl, rfl, rfl, trivial⟩, Nat.le_of_ble_eq_true rfl⟩, trivial⟩ rfl rfl rfl rfl rfl (kUn rfl rfl (kMovC rfl (kGN rfl (fun g1 => (by (simp [*] at g1))) (fun g1 => kGT rfl (kFadP rfl rfl (kGT rfl (kLoadP rfl rfl rfl (kGT rfl (kFadP rfl rfl (kGT rfl (kLoadP rfl rfl rfl (kRelF rfl rfl (kGT rfl (kCallD (ok_spec_l2under _ _ (by first | assumption | omega | solve_by_elim [List.getElem_mem] | (simp only [szOut] at *; omega)) (by first | assumption | omega | solve_by_elim [List.getElem_mem] | (simp only [szOut] at *; omega))) ⟨⟨⟨rfl, trivial⟩, Nat.le_of_ble_eq_true rfl⟩, ⟨⟨rfl, trivial⟩, Nat.le_of_ble_eq_true rfl⟩, trivial⟩ rfl rfl rfl rfl rfl (kGT rfl (kUn rfl rfl (kPickF rfl (kMovC rfl (kMovC rfl (kGN rfl (fun g2 => kGF rfl (kGF rfl (kGF rfl (kGU rfl (kGU rfl (kGU rfl (kGU rfl (kMem [(24576, ⟨2, 0, .box [.d _, .d _, .d _, .d _, .d _, .d _, .d _]⟩), (8192, ⟨1, 0, .box [.d _, .d _]⟩)] [(44, .c (.un)), (46, .c (.un)), (5, .c (.ptr 24576 2 0)), (42, .c (.un)), (39, .c (.d _)), (1, .c (.ptr 8192 1 0)), (4, .c (.d _))] [] ⟨rfl, rfl, trivial⟩ ⟨rfl, rfl, rfl, rfl, rfl, rfl, rfl, trivial⟩ rfl (kGU rfl (kGU rfl (kGU rfl (kRelF rfl rfl (kGU rfl (kGU rfl (kGF rfl (kPickT rfl (kMovC rfl (kMovC rfl (kGF rfl (kGF rfl (kGF rfl (kRelF rfl rfl (kGF rfl (kGF rfl (kPickT rfl (kMovC rfl (kDone (kH (kCondT rfl (kSeq (kReg (kMovC rfl (kDone (kRet (endRetA (ra := [.one (.d _)]) rfl ?_))))))))))))))))))))))))))))))))))) (fun g2 => kGT rfl (kMovC rfl (kGT rfl (kBin rfl rfl rfl (kGT rfl (kMovC rfl (kGP rfl (fun g3 => kGT rfl (kFadP rfl rfl (kGT rfl (kLoadP rfl rfl rfl (kMem [(24576, ⟨2, 0, .box [.d _, .d _, .d _, .d _, .d _, .d _, .d _]⟩), (8192, ⟨1, 0, .box [.d _, .d _]⟩)] [(4, .c (.d _)), (44, .c (.d _)), (5, .c (.ptr 24576 2 0)), (42, .c (.d _)), (39, .c (.d _)), (1, .c (.ptr 8192 1 0))] [8192] ⟨rfl, rfl, trivial⟩ ⟨rfl, rfl, rfl, rfl, rfl, rfl, trivial⟩ rfl (kGT rfl (kMovC rfl (kGT rfl (kDif rfl rfl (by omega) (kGT rfl (kIadT rfl rfl (by omega) (kGT rfl (kLoadD rfl rfl (kGT rfl (kLoadP rfl rfl rfl (kRelF rfl rfl (kGT rfl (kCallD (ok_spec_l3cmp _ _ (by first | assumption | omega | solve_by_elim [List.getElem_mem] | (simp only [szOut] at *; omega)) (by first | assumption | omega | solve_by_elim [List.getElem_mem] | (simp only [szOut] at *; omega)) (by first | assumption | omega | solve_by_elim [List.getElem_mem] | (simp only [szOut] at *; omega)) (by first | assumption | omega | solve_by_elim [List.getElem_mem] | (simp only [szOut] at *; omega))) ⟨⟨⟨rfl, rfl, rfl, rfl, rfl, rfl, rfl, trivial⟩, Nat.le_of_ble_eq_true rfl⟩, ⟨⟨rfl, rfl, rfl, rfl, rfl, rfl, rfl, trivial⟩, Nat.le_of_ble_eq_true rfl⟩, trivial⟩ rfl rfl rfl rfl rfl (kGT rfl (kBin rfl rfl rfl (kGT rfl (kPickT rfl (kMovC rfl (kPickF rfl (kMovC rfl (kMovC rfl (kGP rfl (fun g4 => kGF rfl (kGF rfl (kGF rfl (kRelF rfl rfl (kGF rfl (kGF rfl (kPickT rfl (kMovC rfl (kDone (kH (kCondT rfl (kSeq (kReg (kMovC rfl (kDone (kRet (endRetA (ra := [.one (.d _)]) rfl ?_))))))))))))))))) (fun g4 => kGT rfl (kFadP rfl rfl (kGT rfl (kLoadP rfl rfl rfl (kGT rfl (kMovC rfl (kRelF rfl rfl (kGT rfl (kCallD (ok_spec_l5alone _ _ (by first | assumption | omega | solve_by_elim [List.getElem_mem] | (simp only [szOut] at *; omega)) (by first | assumption | omega | solve_by_elim [List.getElem_mem] | (simp only [szOut] at *; omega))) ⟨rfl, rfl, trivial⟩ rfl rfl rfl rfl rfl (kGT rfl (kUn rfl rfl (kPickF rfl (kMovC rfl (kDone (kH (kCondN rfl (fun g5 => kSeq (kReg (kMovC rfl (kDone (kRet (endRetA (ra := [.one (.d _)]) rfl ?_)))))) (fun g5 => kSkip (kSeq (kReg (kFadP rfl rfl (kLoadP rfl rfl rfl (kBin rfl rfl rfl (kDone (kCondP rfl (fun g6 => kSeq (kReg (kMovC rfl (kAdd rfl rfl (by omega) (kMovC rfl (kDone (kSeq (kReg (kFadP rfl rfl (kLoadP rfl rfl rfl (kFadP rfl rfl (kLoadP rfl rfl rfl (kCallD (ok_spec_l2cmp _ _ (by first | assumption | omega | solve_by_elim [List.getElem_mem] | (simp only [szOut] at *; omega)) (by first | assumption | omega | solve_by_elim [List.getElem_mem] | (simp only [szOut] at *; omega))) ⟨⟨⟨rfl, trivial⟩, Nat.le_of_ble_eq_true rfl⟩, ⟨⟨rfl, trivial⟩, Nat.le_of_ble_eq_true rfl⟩, trivial⟩ rfl rfl rfl rfl rfl (kBin rfl rfl rfl (kDone (kCondIN rfl (fun g7 => kSeq (kReg (kMovC rfl (kDone (kRet (endRetA (ra := [.one (.d _)]) rfl ?_)))))) (fun g7 => kSkip (kBk (kReg (kMovC rfl (kAdd rfl rfl (by omega) (kMovC rfl (kDone ?_))))))))))))))))))))))) (fun g6 => kSkip (kBk (kReg (kMovC rfl (kAdd rfl rfl (by omega) (kMovC rfl (kDone ?_)))))))))))))))))))))))))))))))))))))))))))))))))))))))))) (fun g3 => kGF rfl (kGF rfl (kGF rfl (kMem [(24576, ⟨2, 0, .box [.d _, .d _, .d _, .d _, .d _, .d _, .d _]⟩), (8192, ⟨1, 0, .box [.d _, .d _]⟩)] [(45, .c (.un)), (44, .c (.un)), (5, .c (.ptr 24576 2 0)), (42, .c (.d _)), (39, .c (.d _)), (1, .c (.ptr 8192 1 0)), (4, .c (.d _))] [] ⟨rfl, rfl, trivial⟩ ⟨rfl, rfl, rfl, rfl, rfl, rfl, rfl, trivial⟩ rfl (kGF rfl (kGF rfl (kGF rfl (kGF rfl (kRelF rfl rfl (kGF rfl (kGF rfl (kGT rfl (kPickF rfl (kMovC rfl (kPickF rfl (kMovC rfl (kMovC rfl (kGT rfl (kFadP rfl rfl (kGT rfl (kLoadP rfl rfl rfl (kGT rfl (kMovC rfl (kRelF rfl rfl (kGT rfl (kCallD (ok_spec_l5alone _ _ (by first | assumption | omega | solve_by_elim [List.getElem_mem] | (simp only [szOut] at *; omega)) (by first | assumption | omega | solve_by_elim [List.getElem_mem] | (simp only [szOut] at *; omega))) ⟨rfl, rfl, trivial⟩ rfl rfl rfl rfl rfl (kGT rfl (kUn rfl rfl (kPickF rfl (kMovC rfl (kDone (kH (kCondN rfl (fun g8 => kSeq (kReg (kMovC rfl (kDone (kRet (endRetA (ra := [.one (.d _)]) rfl ?_)))))) (fun g8 => kSkip (kSeq (kReg (kFadP rfl rfl (kLoadP rfl rfl rfl (kBin rfl rfl rfl (kDone (kCondP rfl (fun g9 => kSeq (kReg (kMovC rfl (kAdd rfl rfl (by omega) (kMovC rfl (kDone (kSeq (kReg (kFadP rfl rfl (kLoadP rfl rfl rfl (kFadP rfl rfl (kLoadP rfl rfl rfl (kCallD (ok_spec_l2cmp _ _ (by first | assumption | omega | solve_by_elim [List.getElem_mem] | (simp only [szOut] at *; omega)) (by first | assumption | omega | solve_by_elim [List.getElem_mem] | (simp only [szOut] at *; omega))) ⟨⟨⟨rfl, trivial⟩, Nat.le_of_ble_eq_true rfl⟩, ⟨⟨rfl, trivial⟩, Nat.le_of_ble_eq_true rfl⟩, trivial⟩ rfl rfl rfl rfl rfl (kBin rfl rfl rfl (kDone (kCondIN rfl (fun g10 => kSeq (kReg (kMovC rfl (kDone (kRet (endRetA (ra := [.one (.d _)]) rfl ?_)))))) (fun g10 => kSkip (kBk (kReg (kMovC rfl (kAdd rfl rfl (by omega) (kMovC rfl (kDone ?_))))))))))))))))))))))) (fun g9 => kSkip (kBk (kReg (kMovC rfl (kAdd rfl rfl (by omega) (kMovC rfl (kDone ?_))))))))))))))))))))))))))))))))))))))))))))))))))))))))))))))))))))))))))))))))))))))))))))))) (fun g0 => (by omega))))))))))
    all_goals first
      | (refine congrArg (fun z : Bool => [RA.one (RV.d (DV.sc (Value.bool z)))]) (zone_no hlt (Bool.eq_false_iff.2 fun h => ?_)).symm
         rw [hq] at h
         simp only [Bool.and_eq_true, decide_eq_true_eq, Bool.or_eq_true, Bool.not_eq_true', beq_eq_false_iff_ne] at h
         obtain ⟨⟨⟨k1, k2⟩, k3⟩, k4⟩ := h
         first
           | (rw [prevB_pos (by omega) hlt (by omega), decide_eq_true_eq] at k2; omega)
           | (simp_all; done)
           | (simp_all; omega))
      | (have e1 : prevB z.rrs i = true := by
           first
             | (rw [prevB_pos (by omega) hlt (by omega)]; exact decide_eq_true (by omega))
             | (have : i = 0 := by omega
                subst this; exact prevB_zero)
         have e2 : aloneR z.rrs i = true := by
           first
             | assumption
             | (simp [*]; done)
             | (rw [decide_eq_true (by omega)]; simp)
         have e3 : (!(z.rrs[i].ty == 6) || decide (z.rrs[i].name = z.origin)) = true := by
           first
             | (simp [*]; done)
             | (simp_all; done)
         first
           | rw [if_pos (by assumption)] at hts
           | rw [if_neg (by assumption)] at hts
         have hz' : zAt z i = true := by rw [hq, e1, e2, e3]; simp [*]
         exact kInv ⟨⟨i + 1, by omega, range_all hz hz', all_step hlt hal hk⟩, by simp only; omega, .normA⟩)
  · rw [show zoneOk z = decide (zTops z.rrs = 1) by unfold zoneOk; rw [a1, decide_eq_true a2, show (List.range z.rrs.length).all (zAt z) = true by rw [show z.rrs.length = i by omega]; exact hz, show z.rrs.all rrOk = true by rw [show i = z.rrs.length by omega, List.take_length] at hal; exact hal]; rfl]
    refine kSeq (kSeq (kReg (kMovC rfl (kFadP rfl rfl (kLoadP rfl rfl rfl (kLenR rfl rfl (kBin rfl rfl rfl (kDone (kCondP rfl (fun g0 => (by omega)) (fun g0 => kExit (kExC (kExI (kExB (kSeq (kReg (kMovC rfl (kBin rfl rfl rfl (kMovC rfl (kDone (kRet (endRetA (ra := [.one (.d _)]) rfl ?_)))))))))))))))))))))
    rw [show i = z.rrs.length by omega, List.take_length]
    rfl

def c_spec_l2own : C := (.seq (.reg false (.op 0 [] (some 1) none false (.box 1 (.t 0))
  (.op 1 [] (some 2) none false (.alloc 2 [(.n 1)])
  .done)))
 (.seq (.reg false (.op 0 [] (some 3) none false (.alloc 3 [(.n 1)])
  .done))
 (.seq (.seq (.reg false (.op 0 [] (some 4) none false (.mov (.v (.int .i64 0)))
  .done))
 (.block 0 (.loop (.seq (.seq (.reg false (.op 0 [] (some 5) none false (.mov (.t 4))
  (.op 1 [] (some 6) none false (.fad (.t 1) 0)
  (.op 2 [] (some 7) none false (.load none (.t 6))
  (.op 3 [] (some 8) none false (.len (.t 7))
  (.op 4 [] (some 9) none false (.bin .lss (.t 5) (.t 8))
  .done))))))
 (.cond (.t 9)
 .skip
 (.exit 0)))
 (.seq (.block 1 (.reg true (.op 0 [] (some 12) none true (.fad (.t 3) 0)
  (.op 1 [] (some 13) none true (.load none (.t 12))
  (.op 3 [] (some 15) none true (.fad (.t 1) 0)
  (.op 4 [] (some 16) none true (.load none (.t 15))
  (.op 5 [] (some 17) none true (.mov (.t 4))
  (.op 6 [] (some 18) none true (.iad 1 (.t 16) (.t 17))
  (.op 7 [] (some 19) none true (.load none (.t 18))
  (.op 2 [] (some 14) none false (.lit 14 1 [(.v (.int .u8 0))] 0 [])
  (.op 8 [7, 4] (some 20) none false (.app 20 1 1 (.t 14) (.t 19))
  (.op 9 [7, 4] (some 21) none false (.lit 21 1 [(.n 1)] 1 [(0, 1, (.t 20))])
  (.op 10 [1, 7, 4] (some 22) none false (.app 22 1 24 (.t 13) (.t 21))
  (.op 11 [] (some 23) none true (.fad (.t 3) 0)
  (.op 12 [1, 4, 7] none none false (.store none (.t 23) (.t 22))
  .done)))))))))))))))
 (.reg false (.op 0 [] (some 10) none false (.mov (.t 4))
  (.op 1 [] (some 11) none false (.bin .add (.t 10) (.v (.int .i64 1)))
  (.op 2 [] (some 4) none false (.mov (.t 11))
  .done)))))))))
 (.seq (.reg false (.op 0 [] (some 24) none false (.load (some 1) (.t 3))
  (.op 1 [] none none false (.store (some 1) (.t 2) (.t 24))
  .done)))
 .ret))))
theorem dg_spec_l2own : Tryz.f125.body.bind (digC Tryz.prog Tryz.f125.ntmps []) = some c_spec_l2own := by kernel_rfl
theorem rs_spec_l2own : resSlots Tryz.prog Tryz.f125 = some [.m 2 (some 1)] := by kernel_rfl
theorem ok_spec_l2own (a : List (List UInt8)) (ha : a.length ≤ 4194304) (hb : ∀ b ∈ a, b.length ≤ 4194304) :
    FnOK Tryz.prog 125 [.agg [.d (encBB a)]] (fun ra _ => ra = [.agg [.own true (encBB a)]]) := by
  refine FnOK.ofK Tryz.func125 (by kernel_rfl) dg_spec_l2own rs_spec_l2own rfl rfl ?_
  unfold c_spec_l2own
  refine kSeq (kReg (kBox rfl rfl rfl rfl rfl (kAlloc rfl rfl (kDone (kSeq (kReg (kAlloc rfl rfl (kDone (kSeq (kSeq (kReg (kMovC rfl (kDone (kBlock ?_))))))))))))))
  refine kSub (Sub.nilBox (id := rid 3 0) (id2 := rid 5000 0) (j := 0) rfl rfl rfl (by decide) (by decide)) ?_
  refine kLoop (α := { i : Nat // i ≤ a.length })
    (fun y => ⟨tabSl [(1, .c (.ptr (rid 1 0) 1 0)), (2, .c (.ptr (rid 2 0) 1 0)), (3, .c (.ptr (rid 3 0) 1 0)), (4, .i y.1)],
      obTab 1 [(rid 1 0, ⟨1, 0, .box [.d (encBB a)]⟩), (rid 2 0, ⟨1, 0, .box [.nil 1]⟩), (rid 3 0, ⟨1, 0, .box [.arr (rid 5000 0) 1]⟩), (rid 5000 0, ⟨1, 0, .arr true (encBB (a.take y.1))⟩)], []⟩) (fun y => a.length - y.1) ⟨0, by simp⟩
    .normA ?_
  rintro ⟨i, hi⟩
  simp only
  have hlen : (a.take i).length = i := by simp; omega
  rcases Nat.lt_or_ge i a.length with hlt | hge
  · have hbi := hb _ (List.getElem_mem hlt)
    refine kSeq (kSeq (kReg (kMovC rfl (kFadP rfl rfl (kLoadP rfl rfl rfl (kLenR rfl rfl (kBin rfl rfl rfl (kDone (kCondP rfl (fun g0 => kSkip (kSeq (kBlock (kRegD (kFadP rfl rfl (kLoadP rfl rfl rfl (kFadP rfl rfl (kLoadP rfl rfl rfl (kMovC rfl (kIadR rfl rfl rfl (by omega) (kLoadD rfl rfl (kLit rfl rfl rfl rfl (kRelK rfl rfl (kAppN rfl rfl rfl (src_encB _ _) rfl rfl rfl rfl (by omega) (kRelK rfl rfl (kLit rfl rfl rfl rfl (kRelF rfl rfl (kAppR1 rfl rfl rfl rfl rfl rfl rfl rfl (by omega) (kFadP rfl rfl (kRelF rfl rfl (kStoreP rfl rfl rfl rfl (kDone (kH (kBk (kReg (kMovC rfl (kAdd rfl rfl (by omega) (kMovC rfl (kDone ?_))))))))))))))))))))))))))))) (fun g0 => (by omega)))))))))))
    exact kInv ⟨⟨i + 1, by omega⟩, by simp only; omega, .normA⟩
  · refine kSeq (kSeq (kReg (kMovC rfl (kFadP rfl rfl (kLoadP rfl rfl rfl (kLenR rfl rfl (kBin rfl rfl rfl (kDone (kCondP rfl (fun g0 => (by omega)) (fun g0 => kExit (kExC (kExI (kExB (kSeq (kReg (kLoadP rfl rfl rfl (kStoreP rfl rfl rfl rfl (kDone (kRet (endRetA (ra := [.agg [(.own true _)]]) rfl ?_))))))))))))))))))))
    rw [show i = a.length by omega, List.take_length]

def c_spec_l3own : C := (.seq (.reg false (.op 0 [] (some 1) none false (.box 1 (.t 0))
  (.op 1 [] (some 2) none false (.alloc 2 [(.n 1), (.v (.int .i64 0)), (.v (.int .i64 0)), (.v (.int .i64 0)), (.n 1), (.n 1), (.n 1)])
  .done)))
 (.seq (.reg true (.op 0 [] (some 3) none true (.fad (.t 1) 0)
  (.op 1 [] (some 4) none true (.load (some 1) (.t 3))
  (.op 3 [] (some 6) none true (.fad (.t 1) 1)
  (.op 4 [] (some 7) none true (.load none (.t 6))
  (.op 5 [] (some 8) none true (.fad (.t 1) 2)
  (.op 6 [] (some 9) none true (.load none (.t 8))
  (.op 7 [] (some 10) none true (.fad (.t 1) 3)
  (.op 8 [] (some 11) none true (.load none (.t 10))
  (.op 9 [] (some 12) none true (.fad (.t 1) 4)
  (.op 10 [] (some 13) none true (.load (some 1) (.t 12))
  (.op 13 [] (some 16) none true (.fad (.t 1) 5)
  (.op 14 [] (some 17) none true (.load none (.t 16))
  (.op 17 [] (some 20) none true (.fad (.t 1) 6)
  (.op 18 [] (some 21) none true (.load none (.t 20))
  (.alt (.op 2 [1] (some 5) none false (.call 5 125 [(.t 4)])
  (.alt (.op 11 [10, 1] (some 14) none false (.call 14 125 [(.t 13)])
  (.alt (.op 12 [] (some 15) none false (.lit 15 1 [(.v (.int .u8 0))] 0 [])
  (.alt (.op 15 [14, 10, 1] (some 18) none false (.app 18 1 1 (.t 15) (.t 17))
  (.op 16 [] (some 19) none false (.lit 19 1 [(.v (.int .i64 0))] 0 [])
  (.op 19 [18, 14, 10, 1] (some 22) none false (.app 22 1 8 (.t 19) (.t 21))
  (.op 20 [] (some 23) none true (.build [(.n 1), (.v (.int .i64 0)), (.v (.int .i64 0)), (.v (.int .i64 0)), (.n 1), (.n 1), (.n 1)] [(0, 1, (.t 5)), (1, 1, (.t 7)), (2, 1, (.t 9)), (3, 1, (.t 11)), (4, 1, (.t 14)), (5, 1, (.t 18)), (6, 1, (.t 22))])
  (.op 21 [1, 4, 6, 8, 10, 14, 18] none none false (.store (some 7) (.t 2) (.t 23))
  .done)))))
  (.op 16 [] (some 19) none false (.lit 19 1 [(.v (.int .i64 0))] 0 [])
  (.op 15 [14, 10, 1] (some 18) none false (.app 18 1 1 (.t 15) (.t 17))
  (.op 19 [18, 14, 10, 1] (some 22) none false (.app 22 1 8 (.t 19) (.t 21))
  (.op 20 [] (some 23) none true (.build [(.n 1), (.v (.int .i64 0)), (.v (.int .i64 0)), (.v (.int .i64 0)), (.n 1), (.n 1), (.n 1)] [(0, 1, (.t 5)), (1, 1, (.t 7)), (2, 1, (.t 9)), (3, 1, (.t 11)), (4, 1, (.t 14)), (5, 1, (.t 18)), (6, 1, (.t 22))])
  (.op 21 [1, 4, 6, 8, 10, 14, 18] none none false (.store (some 7) (.t 2) (.t 23))
  .done)))))))
  (.op 16 [] (some 19) none false (.lit 19 1 [(.v (.int .i64 0))] 0 [])
  (.op 12 [] (some 15) none false (.lit 15 1 [(.v (.int .u8 0))] 0 [])
  (.op 15 [14, 10, 1] (some 18) none false (.app 18 1 1 (.t 15) (.t 17))
  (.op 19 [18, 14, 10, 1] (some 22) none false (.app 22 1 8 (.t 19) (.t 21))
  (.op 20 [] (some 23) none true (.build [(.n 1), (.v (.int .i64 0)), (.v (.int .i64 0)), (.v (.int .i64 0)), (.n 1), (.n 1), (.n 1)] [(0, 1, (.t 5)), (1, 1, (.t 7)), (2, 1, (.t 9)), (3, 1, (.t 11)), (4, 1, (.t 14)), (5, 1, (.t 18)), (6, 1, (.t 22))])
  (.op 21 [1, 4, 6, 8, 10, 14, 18] none none false (.store (some 7) (.t 2) (.t 23))
  .done))))))))
  (.alt (.op 12 [] (some 15) none false (.lit 15 1 [(.v (.int .u8 0))] 0 [])
  (.alt (.op 11 [10, 1] (some 14) none false (.call 14 125 [(.t 13)])
  (.alt (.op 15 [14, 10, 1] (some 18) none false (.app 18 1 1 (.t 15) (.t 17))
  (.op 16 [] (some 19) none false (.lit 19 1 [(.v (.int .i64 0))] 0 [])
  (.op 19 [18, 14, 10, 1] (some 22) none false (.app 22 1 8 (.t 19) (.t 21))
  (.op 20 [] (some 23) none true (.build [(.n 1), (.v (.int .i64 0)), (.v (.int .i64 0)), (.v (.int .i64 0)), (.n 1), (.n 1), (.n 1)] [(0, 1, (.t 5)), (1, 1, (.t 7)), (2, 1, (.t 9)), (3, 1, (.t 11)), (4, 1, (.t 14)), (5, 1, (.t 18)), (6, 1, (.t 22))])
  (.op 21 [1, 4, 6, 8, 10, 14, 18] none none false (.store (some 7) (.t 2) (.t 23))
  .done)))))
  (.op 16 [] (some 19) none false (.lit 19 1 [(.v (.int .i64 0))] 0 [])
  (.op 15 [14, 10, 1] (some 18) none false (.app 18 1 1 (.t 15) (.t 17))
  (.op 19 [18, 14, 10, 1] (some 22) none false (.app 22 1 8 (.t 19) (.t 21))
  (.op 20 [] (some 23) none true (.build [(.n 1), (.v (.int .i64 0)), (.v (.int .i64 0)), (.v (.int .i64 0)), (.n 1), (.n 1), (.n 1)] [(0, 1, (.t 5)), (1, 1, (.t 7)), (2, 1, (.t 9)), (3, 1, (.t 11)), (4, 1, (.t 14)), (5, 1, (.t 18)), (6, 1, (.t 22))])
  (.op 21 [1, 4, 6, 8, 10, 14, 18] none none false (.store (some 7) (.t 2) (.t 23))
  .done)))))))
  (.op 16 [] (some 19) none false (.lit 19 1 [(.v (.int .i64 0))] 0 [])
  (.op 11 [10, 1] (some 14) none false (.call 14 125 [(.t 13)])
  (.op 15 [14, 10, 1] (some 18) none false (.app 18 1 1 (.t 15) (.t 17))
  (.op 19 [18, 14, 10, 1] (some 22) none false (.app 22 1 8 (.t 19) (.t 21))
  (.op 20 [] (some 23) none true (.build [(.n 1), (.v (.int .i64 0)), (.v (.int .i64 0)), (.v (.int .i64 0)), (.n 1), (.n 1), (.n 1)] [(0, 1, (.t 5)), (1, 1, (.t 7)), (2, 1, (.t 9)), (3, 1, (.t 11)), (4, 1, (.t 14)), (5, 1, (.t 18)), (6, 1, (.t 22))])
  (.op 21 [1, 4, 6, 8, 10, 14, 18] none none false (.store (some 7) (.t 2) (.t 23))
  .done))))))))
  (.op 16 [] (some 19) none false (.lit 19 1 [(.v (.int .i64 0))] 0 [])
  (.alt (.op 11 [10, 1] (some 14) none false (.call 14 125 [(.t 13)])
  (.op 12 [] (some 15) none false (.lit 15 1 [(.v (.int .u8 0))] 0 [])
  (.op 15 [14, 10, 1] (some 18) none false (.app 18 1 1 (.t 15) (.t 17))
  (.op 19 [18, 14, 10, 1] (some 22) none false (.app 22 1 8 (.t 19) (.t 21))
  (.op 20 [] (some 23) none true (.build [(.n 1), (.v (.int .i64 0)), (.v (.int .i64 0)), (.v (.int .i64 0)), (.n 1), (.n 1), (.n 1)] [(0, 1, (.t 5)), (1, 1, (.t 7)), (2, 1, (.t 9)), (3, 1, (.t 11)), (4, 1, (.t 14)), (5, 1, (.t 18)), (6, 1, (.t 22))])
  (.op 21 [1, 4, 6, 8, 10, 14, 18] none none false (.store (some 7) (.t 2) (.t 23))
  .done))))))
  (.op 12 [] (some 15) none false (.lit 15 1 [(.v (.int .u8 0))] 0 [])
  (.op 11 [10, 1] (some 14) none false (.call 14 125 [(.t 13)])
  (.op 15 [14, 10, 1] (some 18) none false (.app 18 1 1 (.t 15) (.t 17))
  (.op 19 [18, 14, 10, 1] (some 22) none false (.app 22 1 8 (.t 19) (.t 21))
  (.op 20 [] (some 23) none true (.build [(.n 1), (.v (.int .i64 0)), (.v (.int .i64 0)), (.v (.int .i64 0)), (.n 1), (.n 1), (.n 1)] [(0, 1, (.t 5)), (1, 1, (.t 7)), (2, 1, (.t 9)), (3, 1, (.t 11)), (4, 1, (.t 14)), (5, 1, (.t 18)), (6, 1, (.t 22))])
  (.op 21 [1, 4, 6, 8, 10, 14, 18] none none false (.store (some 7) (.t 2) (.t 23))
  .done)))))))))))
  (.alt (.op 12 [] (some 15) none false (.lit 15 1 [(.v (.int .u8 0))] 0 [])
  (.alt (.op 2 [1] (some 5) none false (.call 5 125 [(.t 4)])
  (.alt (.op 11 [10, 1] (some 14) none false (.call 14 125 [(.t 13)])
  (.alt (.op 15 [14, 10, 1] (some 18) none false (.app 18 1 1 (.t 15) (.t 17))
  (.op 16 [] (some 19) none false (.lit 19 1 [(.v (.int .i64 0))] 0 [])
  (.op 19 [18, 14, 10, 1] (some 22) none false (.app 22 1 8 (.t 19) (.t 21))
  (.op 20 [] (some 23) none true (.build [(.n 1), (.v (.int .i64 0)), (.v (.int .i64 0)), (.v (.int .i64 0)), (.n 1), (.n 1), (.n 1)] [(0, 1, (.t 5)), (1, 1, (.t 7)), (2, 1, (.t 9)), (3, 1, (.t 11)), (4, 1, (.t 14)), (5, 1, (.t 18)), (6, 1, (.t 22))])
  (.op 21 [1, 4, 6, 8, 10, 14, 18] none none false (.store (some 7) (.t 2) (.t 23))
  .done)))))
  (.op 16 [] (some 19) none false (.lit 19 1 [(.v (.int .i64 0))] 0 [])
  (.op 15 [14, 10, 1] (some 18) none false (.app 18 1 1 (.t 15) (.t 17))
  (.op 19 [18, 14, 10, 1] (some 22) none false (.app 22 1 8 (.t 19) (.t 21))
  (.op 20 [] (some 23) none true (.build [(.n 1), (.v (.int .i64 0)), (.v (.int .i64 0)), (.v (.int .i64 0)), (.n 1), (.n 1), (.n 1)] [(0, 1, (.t 5)), (1, 1, (.t 7)), (2, 1, (.t 9)), (3, 1, (.t 11)), (4, 1, (.t 14)), (5, 1, (.t 18)), (6, 1, (.t 22))])
  (.op 21 [1, 4, 6, 8, 10, 14, 18] none none false (.store (some 7) (.t 2) (.t 23))
  .done)))))))
  (.op 16 [] (some 19) none false (.lit 19 1 [(.v (.int .i64 0))] 0 [])
  (.op 11 [10, 1] (some 14) none false (.call 14 125 [(.t 13)])
  (.op 15 [14, 10, 1] (some 18) none false (.app 18 1 1 (.t 15) (.t 17))
  (.op 19 [18, 14, 10, 1] (some 22) none false (.app 22 1 8 (.t 19) (.t 21))
  (.op 20 [] (some 23) none true (.build [(.n 1), (.v (.int .i64 0)), (.v (.int .i64 0)), (.v (.int .i64 0)), (.n 1), (.n 1), (.n 1)] [(0, 1, (.t 5)), (1, 1, (.t 7)), (2, 1, (.t 9)), (3, 1, (.t 11)), (4, 1, (.t 14)), (5, 1, (.t 18)), (6, 1, (.t 22))])
  (.op 21 [1, 4, 6, 8, 10, 14, 18] none none false (.store (some 7) (.t 2) (.t 23))
  .done))))))))
  (.op 16 [] (some 19) none false (.lit 19 1 [(.v (.int .i64 0))] 0 [])
  (.op 2 [1] (some 5) none false (.call 5 125 [(.t 4)])
  (.op 11 [10, 1] (some 14) none false (.call 14 125 [(.t 13)])
  (.op 15 [14, 10, 1] (some 18) none false (.app 18 1 1 (.t 15) (.t 17))
  (.op 19 [18, 14, 10, 1] (some 22) none false (.app 22 1 8 (.t 19) (.t 21))
  (.op 20 [] (some 23) none true (.build [(.n 1), (.v (.int .i64 0)), (.v (.int .i64 0)), (.v (.int .i64 0)), (.n 1), (.n 1), (.n 1)] [(0, 1, (.t 5)), (1, 1, (.t 7)), (2, 1, (.t 9)), (3, 1, (.t 11)), (4, 1, (.t 14)), (5, 1, (.t 18)), (6, 1, (.t 22))])
  (.op 21 [1, 4, 6, 8, 10, 14, 18] none none false (.store (some 7) (.t 2) (.t 23))
  .done)))))))))
  (.op 16 [] (some 19) none false (.lit 19 1 [(.v (.int .i64 0))] 0 [])
  (.alt (.op 2 [1] (some 5) none false (.call 5 125 [(.t 4)])
  (.alt (.op 11 [10, 1] (some 14) none false (.call 14 125 [(.t 13)])
  (.op 12 [] (some 15) none false (.lit 15 1 [(.v (.int .u8 0))] 0 [])
  (.op 15 [14, 10, 1] (some 18) none false (.app 18 1 1 (.t 15) (.t 17))
  (.op 19 [18, 14, 10, 1] (some 22) none false (.app 22 1 8 (.t 19) (.t 21))
  (.op 20 [] (some 23) none true (.build [(.n 1), (.v (.int .i64 0)), (.v (.int .i64 0)), (.v (.int .i64 0)), (.n 1), (.n 1), (.n 1)] [(0, 1, (.t 5)), (1, 1, (.t 7)), (2, 1, (.t 9)), (3, 1, (.t 11)), (4, 1, (.t 14)), (5, 1, (.t 18)), (6, 1, (.t 22))])
  (.op 21 [1, 4, 6, 8, 10, 14, 18] none none false (.store (some 7) (.t 2) (.t 23))
  .done))))))
  (.op 12 [] (some 15) none false (.lit 15 1 [(.v (.int .u8 0))] 0 [])
  (.op 11 [10, 1] (some 14) none false (.call 14 125 [(.t 13)])
  (.op 15 [14, 10, 1] (some 18) none false (.app 18 1 1 (.t 15) (.t 17))
  (.op 19 [18, 14, 10, 1] (some 22) none false (.app 22 1 8 (.t 19) (.t 21))
  (.op 20 [] (some 23) none true (.build [(.n 1), (.v (.int .i64 0)), (.v (.int .i64 0)), (.v (.int .i64 0)), (.n 1), (.n 1), (.n 1)] [(0, 1, (.t 5)), (1, 1, (.t 7)), (2, 1, (.t 9)), (3, 1, (.t 11)), (4, 1, (.t 14)), (5, 1, (.t 18)), (6, 1, (.t 22))])
  (.op 21 [1, 4, 6, 8, 10, 14, 18] none none false (.store (some 7) (.t 2) (.t 23))
  .done))))))))
  (.op 12 [] (some 15) none false (.lit 15 1 [(.v (.int .u8 0))] 0 [])
  (.op 2 [1] (some 5) none false (.call 5 125 [(.t 4)])
  (.op 11 [10, 1] (some 14) none false (.call 14 125 [(.t 13)])
  (.op 15 [14, 10, 1] (some 18) none false (.app 18 1 1 (.t 15) (.t 17))
  (.op 19 [18, 14, 10, 1] (some 22) none false (.app 22 1 8 (.t 19) (.t 21))
  (.op 20 [] (some 23) none true (.build [(.n 1), (.v (.int .i64 0)), (.v (.int .i64 0)), (.v (.int .i64 0)), (.n 1), (.n 1), (.n 1)] [(0, 1, (.t 5)), (1, 1, (.t 7)), (2, 1, (.t 9)), (3, 1, (.t 11)), (4, 1, (.t 14)), (5, 1, (.t 18)), (6, 1, (.t 22))])
  (.op 21 [1, 4, 6, 8, 10, 14, 18] none none false (.store (some 7) (.t 2) (.t 23))
  .done))))))))))))))))))))))))))
 .ret))
theorem dg_spec_l3own : Tryz.f110.body.bind (digC Tryz.prog Tryz.f110.ntmps []) = some c_spec_l3own := by kernel_rfl
theorem rs_spec_l3own : resSlots Tryz.prog Tryz.f110 = some [.m 2 (some 7)] := by kernel_rfl
theorem ok_spec_l3own (r : Rr) (hs : SmallR r) :
    FnOK Tryz.prog 110 [.agg (r.cells.map .d)] (fun ra _ => ra = [.agg [.own true (encBB r.name), .d (.sc (.int .i64 r.ty)), .d (.sc (.int .i64 r.ttl)), .d (.sc (.int .i64 r.addr)), .own true (encBB r.to), .own true (encB r.text), .own true (encI r.nums)]]) := by
  refine FnOK.ofK Tryz.func110 (by kernel_rfl) dg_spec_l3own rs_spec_l3own rfl rfl ?_
  unfold c_spec_l3own
  have n1 := hs.n.len
  have n2 := hs.n.mem
  have t1 := hs.t.len
  have t2 := hs.t.mem
  have x1 := hs.x
  have m1 := hs.m
  refine kSeq (kCut ⟨tabSl [(1, .c (.ptr (rid 1 0) 1 0)), (2, .c (.ptr (rid 2 0) 1 0))], obTab 1 [(rid 1 0, ⟨1, 0, .box (r.cells.map .d)⟩), (rid 2 0, ⟨1, 0, .box [.nil 1, .d (.sc (.int .i64 0)), .d (.sc (.int .i64 0)), .d (.sc (.int .i64 0)), .nil 1, .nil 1, .nil 1]⟩)], []⟩ ?_ (fun x hc => ?_))
  case refine_2 => refine kReg (kBox rfl rfl rfl rfl rfl (kAlloc rfl rfl (kDone (kMem [(8192, ⟨1, 0, .box [.d _, .d _, .d _, .d _, .d _, .d _, .d _]⟩), (12288, ⟨1, 0, .box [.nil 1, .d _, .d _, .d _, .nil 1, .nil 1, .nil 1]⟩)] [(1, .c (.ptr 8192 1 0)), (2, .c (.ptr 12288 1 0))] [] ⟨rfl, rfl, trivial⟩ ⟨rfl, rfl, trivial⟩ rfl (hc _ .normA)))))
  refine kSeq (kCut ⟨tabSl [(2, .c (.ptr (rid 2 0) 1 0))], obTab 1 [(rid 2 0, ⟨1, 0, .box [.arr (rid 5 0) 1, .d (.sc (.int .i64 r.ty)), .d (.sc (.int .i64 r.ttl)), .d (.sc (.int .i64 r.addr)), .arr (rid 14 0) 1, .arr (rid 15 0) 1, .arr (rid 19 0) 1]⟩), (rid 5 0, ⟨1, 0, .arr true (encBB r.name)⟩), (rid 14 0, ⟨1, 0, .arr true (encBB r.to)⟩), (rid 15 0, ⟨1, 0, .arr true (encB r.text)⟩), (rid 19 0, ⟨1, 0, .arr true (encI r.nums)⟩)], []⟩ ?_ (fun x hc => ?_))
  case refine_2 => refine kRegD (kFadP rfl rfl (kLoadP rfl rfl rfl (kFadP rfl rfl (kLoadP rfl rfl rfl (kFadP rfl rfl (kLoadP rfl rfl rfl (kFadP rfl rfl (kLoadP rfl rfl rfl (kMem [(8192, ⟨1, 0, .box [.d _, .d _, .d _, .d _, .d _, .d _, .d _]⟩), (12288, ⟨1, 0, .box [.nil 1, .d _, .d _, .d _, .nil 1, .nil 1, .nil 1]⟩)] [(1, .c (.ptr 8192 1 0)), (4, .g [.d _]), (7, .c (.d _)), (9, .c (.d _)), (11, .c (.d _)), (2, .c (.ptr 12288 1 0))] [8192, 8192, 8192, 8192] ⟨rfl, rfl, trivial⟩ ⟨rfl, rfl, rfl, rfl, rfl, rfl, trivial⟩ rfl (kFadP rfl rfl (kLoadP rfl rfl rfl (kFadP rfl rfl (kLoadP rfl rfl rfl (kFadP rfl rfl (kLoadP rfl rfl rfl (kAlt (kRelK rfl rfl (kCall1 true (ok_spec_l2own _ (by first | assumption | omega | solve_by_elim [List.getElem_mem] | (simp only [szOut] at *; omega)) (by first | assumption | omega | solve_by_elim [List.getElem_mem] | (simp only [szOut] at *; omega))) ⟨⟨⟨rfl, trivial⟩, Nat.le_of_ble_eq_true rfl⟩, trivial⟩ rfl rfl rfl (fun _ => (kAlt (kRelK rfl rfl (kCall1 true (ok_spec_l2own _ (by first | assumption | omega | solve_by_elim [List.getElem_mem] | (simp only [szOut] at *; omega)) (by first | assumption | omega | solve_by_elim [List.getElem_mem] | (simp only [szOut] at *; omega))) ⟨⟨⟨rfl, trivial⟩, Nat.le_of_ble_eq_true rfl⟩, trivial⟩ rfl rfl rfl (fun _ => (kMem [(24576, ⟨2, 0, .arr true _⟩), (61440, ⟨2, 0, .arr true _⟩), (12288, ⟨1, 0, .box [.nil 1, .d _, .d _, .d _, .nil 1, .nil 1, .nil 1]⟩)] [(17, .c (.d _)), (21, .c (.d _)), (5, .g [.arr 24576 2]), (7, .c (.d _)), (9, .c (.d _)), (11, .c (.d _)), (14, .g [.arr 61440 2]), (2, .c (.ptr 12288 1 0))] [8192, 8192, 8192, 8192, 8192, 8192, 8192] ⟨rfl, rfl, rfl, trivial⟩ ⟨rfl, rfl, rfl, rfl, rfl, rfl, rfl, rfl, trivial⟩ rfl (kAlt (kLit rfl rfl rfl rfl (kAlt (kRelK rfl rfl (kAppN rfl rfl rfl (src_encB _ _) rfl rfl rfl rfl (by omega) (kLit rfl rfl rfl rfl (kRelK rfl rfl (kAppN rfl rfl rfl (src_encI _ _) rfl rfl rfl rfl (by omega) (kMem [(24576, ⟨2, 0, .arr true _⟩), (61440, ⟨2, 0, .arr true _⟩), (65536, ⟨3, 0, .arr true _⟩), (81920, ⟨3, 0, .arr true _⟩), (12288, ⟨1, 0, .box [.nil 1, .d _, .d _, .d _, .nil 1, .nil 1, .nil 1]⟩)] [(5, .g [.arr 24576 2]), (7, .c (.d _)), (9, .c (.d _)), (11, .c (.d _)), (14, .g [.arr 61440 2]), (18, .c (.arr 65536 3)), (22, .c (.arr 81920 3)), (2, .c (.ptr 12288 1 0))] [8192, 8192, 8192, 8192, 8192, 8192, 8192] ⟨rfl, rfl, rfl, rfl, rfl, trivial⟩ ⟨rfl, rfl, rfl, rfl, rfl, rfl, rfl, rfl, trivial⟩ rfl (kBuildG rfl (kMem [(12288, ⟨1, 0, .box [.nil 1, .d _, .d _, .d _, .nil 1, .nil 1, .nil 1]⟩), (24576, ⟨2, 0, .arr true _⟩), (61440, ⟨2, 0, .arr true _⟩), (65536, ⟨3, 0, .arr true _⟩), (81920, ⟨3, 0, .arr true _⟩)] [(2, .c (.ptr 12288 1 0)), (23, .g [.arr 24576 2, .d _, .d _, .d _, .arr 61440 2, .arr 65536 3, .arr 81920 3])] [8192, 8192, 8192, 8192, 8192, 8192, 8192] ⟨rfl, rfl, rfl, rfl, rfl, trivial⟩ ⟨rfl, rfl, trivial⟩ rfl (kRelF rfl rfl (kStoreP rfl rfl rfl rfl (kDone (kH (kMem [(12288, ⟨1, 0, .box [.arr 24576 2, .d _, .d _, .d _, .arr 61440 2, .arr 65536 3, .arr 81920 3]⟩), (24576, ⟨2, 0, .arr true _⟩), (61440, ⟨2, 0, .arr true _⟩), (65536, ⟨3, 0, .arr true _⟩), (81920, ⟨3, 0, .arr true _⟩)] [(2, .c (.ptr 12288 1 0))] [] ⟨rfl, rfl, rfl, rfl, rfl, trivial⟩ ⟨rfl, trivial⟩ rfl (hc _ .normA)))))))))))))) (kLit rfl rfl rfl rfl (kRelK rfl rfl (kAppN rfl rfl rfl (src_encB _ _) rfl rfl rfl rfl (by omega) (kRelK rfl rfl (kAppN rfl rfl rfl (src_encI _ _) rfl rfl rfl rfl (by omega) (kMem [(24576, ⟨2, 0, .arr true _⟩), (61440, ⟨2, 0, .arr true _⟩), (65536, ⟨3, 0, .arr true _⟩), (81920, ⟨3, 0, .arr true _⟩), (12288, ⟨1, 0, .box [.nil 1, .d _, .d _, .d _, .nil 1, .nil 1, .nil 1]⟩)] [(5, .g [.arr 24576 2]), (7, .c (.d _)), (9, .c (.d _)), (11, .c (.d _)), (14, .g [.arr 61440 2]), (18, .c (.arr 65536 3)), (22, .c (.arr 81920 3)), (2, .c (.ptr 12288 1 0))] [8192, 8192, 8192, 8192, 8192, 8192, 8192] ⟨rfl, rfl, rfl, rfl, rfl, trivial⟩ ⟨rfl, rfl, rfl, rfl, rfl, rfl, rfl, rfl, trivial⟩ rfl (kBuildG rfl (kMem [(12288, ⟨1, 0, .box [.nil 1, .d _, .d _, .d _, .nil 1, .nil 1, .nil 1]⟩), (24576, ⟨2, 0, .arr true _⟩), (61440, ⟨2, 0, .arr true _⟩), (65536, ⟨3, 0, .arr true _⟩), (81920, ⟨3, 0, .arr true _⟩)] [(2, .c (.ptr 12288 1 0)), (23, .g [.arr 24576 2, .d _, .d _, .d _, .arr 61440 2, .arr 65536 3, .arr 81920 3])] [8192, 8192, 8192, 8192, 8192, 8192, 8192] ⟨rfl, rfl, rfl, rfl, rfl, trivial⟩ ⟨rfl, rfl, trivial⟩ rfl (kRelF rfl rfl (kStoreP rfl rfl rfl rfl (kDone (kH (kMem [(12288, ⟨1, 0, .box [.arr 24576 2, .d _, .d _, .d _, .arr 61440 2, .arr 65536 3, .arr 81920 3]⟩), (24576, ⟨2, 0, .arr true _⟩), (61440, ⟨2, 0, .arr true _⟩), (65536, ⟨3, 0, .arr true _⟩), (81920, ⟨3, 0, .arr true _⟩)] [(2, .c (.ptr 12288 1 0))] [] ⟨rfl, rfl, rfl, rfl, rfl, trivial⟩ ⟨rfl, trivial⟩ rfl (hc _ .normA)))))))))))))))) (kLit rfl rfl rfl rfl (kLit rfl rfl rfl rfl (kRelK rfl rfl (kAppN rfl rfl rfl (src_encB _ _) rfl rfl rfl rfl (by omega) (kRelK rfl rfl (kAppN rfl rfl rfl (src_encI _ _) rfl rfl rfl rfl (by omega) (kMem [(24576, ⟨2, 0, .arr true _⟩), (61440, ⟨2, 0, .arr true _⟩), (65536, ⟨3, 0, .arr true _⟩), (81920, ⟨3, 0, .arr true _⟩), (12288, ⟨1, 0, .box [.nil 1, .d _, .d _, .d _, .nil 1, .nil 1, .nil 1]⟩)] [(5, .g [.arr 24576 2]), (7, .c (.d _)), (9, .c (.d _)), (11, .c (.d _)), (14, .g [.arr 61440 2]), (18, .c (.arr 65536 3)), (22, .c (.arr 81920 3)), (2, .c (.ptr 12288 1 0))] [8192, 8192, 8192, 8192, 8192, 8192, 8192] ⟨rfl, rfl, rfl, rfl, rfl, trivial⟩ ⟨rfl, rfl, rfl, rfl, rfl, rfl, rfl, rfl, trivial⟩ rfl (kBuildG rfl (kMem [(12288, ⟨1, 0, .box [.nil 1, .d _, .d _, .d _, .nil 1, .nil 1, .nil 1]⟩), (24576, ⟨2, 0, .arr true _⟩), (61440, ⟨2, 0, .arr true _⟩), (65536, ⟨3, 0, .arr true _⟩), (81920, ⟨3, 0, .arr true _⟩)] [(2, .c (.ptr 12288 1 0)), (23, .g [.arr 24576 2, .d _, .d _, .d _, .arr 61440 2, .arr 65536 3, .arr 81920 3])] [8192, 8192, 8192, 8192, 8192, 8192, 8192] ⟨rfl, rfl, rfl, rfl, rfl, trivial⟩ ⟨rfl, rfl, trivial⟩ rfl (kRelF rfl rfl (kStoreP rfl rfl rfl rfl (kDone (kH (kMem [(12288, ⟨1, 0, .box [.arr 24576 2, .d _, .d _, .d _, .arr 61440 2, .arr 65536 3, .arr 81920 3]⟩), (24576, ⟨2, 0, .arr true _⟩), (61440, ⟨2, 0, .arr true _⟩), (65536, ⟨3, 0, .arr true _⟩), (81920, ⟨3, 0, .arr true _⟩)] [(2, .c (.ptr 12288 1 0))] [] ⟨rfl, rfl, rfl, rfl, rfl, trivial⟩ ⟨rfl, trivial⟩ rfl (hc _ .normA)))))))))))))))))))) (kAlt (kLit rfl rfl rfl rfl (kMem [(65536, ⟨2, 0, .arr true _⟩), (24576, ⟨2, 0, .arr true _⟩), (12288, ⟨1, 0, .box [.nil 1, .d _, .d _, .d _, .nil 1, .nil 1, .nil 1]⟩)] [(13, .g [.d _]), (15, .c (.arr 65536 2)), (17, .c (.d _)), (21, .c (.d _)), (5, .g [.arr 24576 2]), (7, .c (.d _)), (9, .c (.d _)), (11, .c (.d _)), (2, .c (.ptr 12288 1 0))] [8192, 8192, 8192, 8192, 8192, 8192, 8192] ⟨rfl, rfl, rfl, trivial⟩ ⟨rfl, rfl, rfl, rfl, rfl, rfl, rfl, rfl, rfl, trivial⟩ rfl (kAlt (kRelK rfl rfl (kCall1 true (ok_spec_l2own _ (by first | assumption | omega | solve_by_elim [List.getElem_mem] | (simp only [szOut] at *; omega)) (by first | assumption | omega | solve_by_elim [List.getElem_mem] | (simp only [szOut] at *; omega))) ⟨⟨⟨rfl, trivial⟩, Nat.le_of_ble_eq_true rfl⟩, trivial⟩ rfl rfl rfl (fun _ => (kAlt (kRelK rfl rfl (kAppN rfl rfl rfl (src_encB _ _) rfl rfl rfl rfl (by omega) (kLit rfl rfl rfl rfl (kRelK rfl rfl (kAppN rfl rfl rfl (src_encI _ _) rfl rfl rfl rfl (by omega) (kMem [(24576, ⟨2, 0, .arr true _⟩), (61440, ⟨2, 0, .arr true _⟩), (65536, ⟨3, 0, .arr true _⟩), (81920, ⟨3, 0, .arr true _⟩), (12288, ⟨1, 0, .box [.nil 1, .d _, .d _, .d _, .nil 1, .nil 1, .nil 1]⟩)] [(5, .g [.arr 24576 2]), (7, .c (.d _)), (9, .c (.d _)), (11, .c (.d _)), (14, .g [.arr 61440 2]), (18, .c (.arr 65536 3)), (22, .c (.arr 81920 3)), (2, .c (.ptr 12288 1 0))] [8192, 8192, 8192, 8192, 8192, 8192, 8192] ⟨rfl, rfl, rfl, rfl, rfl, trivial⟩ ⟨rfl, rfl, rfl, rfl, rfl, rfl, rfl, rfl, trivial⟩ rfl (kBuildG rfl (kMem [(12288, ⟨1, 0, .box [.nil 1, .d _, .d _, .d _, .nil 1, .nil 1, .nil 1]⟩), (24576, ⟨2, 0, .arr true _⟩), (61440, ⟨2, 0, .arr true _⟩), (65536, ⟨3, 0, .arr true _⟩), (81920, ⟨3, 0, .arr true _⟩)] [(2, .c (.ptr 12288 1 0)), (23, .g [.arr 24576 2, .d _, .d _, .d _, .arr 61440 2, .arr 65536 3, .arr 81920 3])] [8192, 8192, 8192, 8192, 8192, 8192, 8192] ⟨rfl, rfl, rfl, rfl, rfl, trivial⟩ ⟨rfl, rfl, trivial⟩ rfl (kRelF rfl rfl (kStoreP rfl rfl rfl rfl (kDone (kH (kMem [(12288, ⟨1, 0, .box [.arr 24576 2, .d _, .d _, .d _, .arr 61440 2, .arr 65536 3, .arr 81920 3]⟩), (24576, ⟨2, 0, .arr true _⟩), (61440, ⟨2, 0, .arr true _⟩), (65536, ⟨3, 0, .arr true _⟩), (81920, ⟨3, 0, .arr true _⟩)] [(2, .c (.ptr 12288 1 0))] [] ⟨rfl, rfl, rfl, rfl, rfl, trivial⟩ ⟨rfl, trivial⟩ rfl (hc _ .normA)))))))))))))) (kLit rfl rfl rfl rfl (kRelK rfl rfl (kAppN rfl rfl rfl (src_encB _ _) rfl rfl rfl rfl (by omega) (kRelK rfl rfl (kAppN rfl rfl rfl (src_encI _ _) rfl rfl rfl rfl (by omega) (kMem [(24576, ⟨2, 0, .arr true _⟩), (61440, ⟨2, 0, .arr true _⟩), (65536, ⟨3, 0, .arr true _⟩), (81920, ⟨3, 0, .arr true _⟩), (12288, ⟨1, 0, .box [.nil 1, .d _, .d _, .d _, .nil 1, .nil 1, .nil 1]⟩)] [(5, .g [.arr 24576 2]), (7, .c (.d _)), (9, .c (.d _)), (11, .c (.d _)), (14, .g [.arr 61440 2]), (18, .c (.arr 65536 3)), (22, .c (.arr 81920 3)), (2, .c (.ptr 12288 1 0))] [8192, 8192, 8192, 8192, 8192, 8192, 8192] ⟨rfl, rfl, rfl, rfl, rfl, trivial⟩ ⟨rfl, rfl, rfl, rfl, rfl, rfl, rfl, rfl, trivial⟩ rfl (kBuildG rfl (kMem [(12288, ⟨1, 0, .box [.nil 1, .d _, .d _, .d _, .nil 1, .nil 1, .nil 1]⟩), (24576, ⟨2, 0, .arr true _⟩), (61440, ⟨2, 0, .arr true _⟩), (65536, ⟨3, 0, .arr true _⟩), (81920, ⟨3, 0, .arr true _⟩)] [(2, .c (.ptr 12288 1 0)), (23, .g [.arr 24576 2, .d _, .d _, .d _, .arr 61440 2, .arr 65536 3, .arr 81920 3])] [8192, 8192, 8192, 8192, 8192, 8192, 8192] ⟨rfl, rfl, rfl, rfl, rfl, trivial⟩ ⟨rfl, rfl, trivial⟩ rfl (kRelF rfl rfl (kStoreP rfl rfl rfl rfl (kDone (kH (kMem [(12288, ⟨1, 0, .box [.arr 24576 2, .d _, .d _, .d _, .arr 61440 2, .arr 65536 3, .arr 81920 3]⟩), (24576, ⟨2, 0, .arr true _⟩), (61440, ⟨2, 0, .arr true _⟩), (65536, ⟨3, 0, .arr true _⟩), (81920, ⟨3, 0, .arr true _⟩)] [(2, .c (.ptr 12288 1 0))] [] ⟨rfl, rfl, rfl, rfl, rfl, trivial⟩ ⟨rfl, trivial⟩ rfl (hc _ .normA)))))))))))))))))) (kLit rfl rfl rfl rfl (kRelK rfl rfl (kCall1 true (ok_spec_l2own _ (by first | assumption | omega | solve_by_elim [List.getElem_mem] | (simp only [szOut] at *; omega)) (by first | assumption | omega | solve_by_elim [List.getElem_mem] | (simp only [szOut] at *; omega))) ⟨⟨⟨rfl, trivial⟩, Nat.le_of_ble_eq_true rfl⟩, trivial⟩ rfl rfl rfl (fun _ => (kRelK rfl rfl (kAppN rfl rfl rfl (src_encB _ _) rfl rfl rfl rfl (by omega) (kRelK rfl rfl (kAppN rfl rfl rfl (src_encI _ _) rfl rfl rfl rfl (by omega) (kMem [(24576, ⟨2, 0, .arr true _⟩), (61440, ⟨2, 0, .arr true _⟩), (65536, ⟨3, 0, .arr true _⟩), (81920, ⟨3, 0, .arr true _⟩), (12288, ⟨1, 0, .box [.nil 1, .d _, .d _, .d _, .nil 1, .nil 1, .nil 1]⟩)] [(5, .g [.arr 24576 2]), (7, .c (.d _)), (9, .c (.d _)), (11, .c (.d _)), (14, .g [.arr 61440 2]), (18, .c (.arr 65536 3)), (22, .c (.arr 81920 3)), (2, .c (.ptr 12288 1 0))] [8192, 8192, 8192, 8192, 8192, 8192, 8192] ⟨rfl, rfl, rfl, rfl, rfl, trivial⟩ ⟨rfl, rfl, rfl, rfl, rfl, rfl, rfl, rfl, trivial⟩ rfl (kBuildG rfl (kMem [(12288, ⟨1, 0, .box [.nil 1, .d _, .d _, .d _, .nil 1, .nil 1, .nil 1]⟩), (24576, ⟨2, 0, .arr true _⟩), (61440, ⟨2, 0, .arr true _⟩), (65536, ⟨3, 0, .arr true _⟩), (81920, ⟨3, 0, .arr true _⟩)] [(2, .c (.ptr 12288 1 0)), (23, .g [.arr 24576 2, .d _, .d _, .d _, .arr 61440 2, .arr 65536 3, .arr 81920 3])] [8192, 8192, 8192, 8192, 8192, 8192, 8192] ⟨rfl, rfl, rfl, rfl, rfl, trivial⟩ ⟨rfl, rfl, trivial⟩ rfl (kRelF rfl rfl (kStoreP rfl rfl rfl rfl (kDone (kH (kMem [(12288, ⟨1, 0, .box [.arr 24576 2, .d _, .d _, .d _, .arr 61440 2, .arr 65536 3, .arr 81920 3]⟩), (24576, ⟨2, 0, .arr true _⟩), (61440, ⟨2, 0, .arr true _⟩), (65536, ⟨3, 0, .arr true _⟩), (81920, ⟨3, 0, .arr true _⟩)] [(2, .c (.ptr 12288 1 0))] [] ⟨rfl, rfl, rfl, rfl, rfl, trivial⟩ ⟨rfl, trivial⟩ rfl (hc _ .normA)))))))))))))))))))) (kLit rfl rfl rfl rfl (kMem [(81920, ⟨2, 0, .arr true _⟩), (24576, ⟨2, 0, .arr true _⟩), (12288, ⟨1, 0, .box [.nil 1, .d _, .d _, .d _, .nil 1, .nil 1, .nil 1]⟩)] [(13, .g [.d _]), (17, .c (.d _)), (19, .c (.arr 81920 2)), (21, .c (.d _)), (5, .g [.arr 24576 2]), (7, .c (.d _)), (9, .c (.d _)), (11, .c (.d _)), (2, .c (.ptr 12288 1 0))] [8192, 8192, 8192, 8192, 8192, 8192, 8192] ⟨rfl, rfl, rfl, trivial⟩ ⟨rfl, rfl, rfl, rfl, rfl, rfl, rfl, rfl, rfl, trivial⟩ rfl (kAlt (kRelK rfl rfl (kCall1 true (ok_spec_l2own _ (by first | assumption | omega | solve_by_elim [List.getElem_mem] | (simp only [szOut] at *; omega)) (by first | assumption | omega | solve_by_elim [List.getElem_mem] | (simp only [szOut] at *; omega))) ⟨⟨⟨rfl, trivial⟩, Nat.le_of_ble_eq_true rfl⟩, trivial⟩ rfl rfl rfl (fun _ => (kLit rfl rfl rfl rfl (kRelK rfl rfl (kAppN rfl rfl rfl (src_encB _ _) rfl rfl rfl rfl (by omega) (kRelK rfl rfl (kAppN rfl rfl rfl (src_encI _ _) rfl rfl rfl rfl (by omega) (kMem [(24576, ⟨2, 0, .arr true _⟩), (61440, ⟨2, 0, .arr true _⟩), (65536, ⟨3, 0, .arr true _⟩), (81920, ⟨3, 0, .arr true _⟩), (12288, ⟨1, 0, .box [.nil 1, .d _, .d _, .d _, .nil 1, .nil 1, .nil 1]⟩)] [(5, .g [.arr 24576 2]), (7, .c (.d _)), (9, .c (.d _)), (11, .c (.d _)), (14, .g [.arr 61440 2]), (18, .c (.arr 65536 3)), (22, .c (.arr 81920 3)), (2, .c (.ptr 12288 1 0))] [8192, 8192, 8192, 8192, 8192, 8192, 8192] ⟨rfl, rfl, rfl, rfl, rfl, trivial⟩ ⟨rfl, rfl, rfl, rfl, rfl, rfl, rfl, rfl, trivial⟩ rfl (kBuildG rfl (kMem [(12288, ⟨1, 0, .box [.nil 1, .d _, .d _, .d _, .nil 1, .nil 1, .nil 1]⟩), (24576, ⟨2, 0, .arr true _⟩), (61440, ⟨2, 0, .arr true _⟩), (65536, ⟨3, 0, .arr true _⟩), (81920, ⟨3, 0, .arr true _⟩)] [(2, .c (.ptr 12288 1 0)), (23, .g [.arr 24576 2, .d _, .d _, .d _, .arr 61440 2, .arr 65536 3, .arr 81920 3])] [8192, 8192, 8192, 8192, 8192, 8192, 8192] ⟨rfl, rfl, rfl, rfl, rfl, trivial⟩ ⟨rfl, rfl, trivial⟩ rfl (kRelF rfl rfl (kStoreP rfl rfl rfl rfl (kDone (kH (kMem [(12288, ⟨1, 0, .box [.arr 24576 2, .d _, .d _, .d _, .arr 61440 2, .arr 65536 3, .arr 81920 3]⟩), (24576, ⟨2, 0, .arr true _⟩), (61440, ⟨2, 0, .arr true _⟩), (65536, ⟨3, 0, .arr true _⟩), (81920, ⟨3, 0, .arr true _⟩)] [(2, .c (.ptr 12288 1 0))] [] ⟨rfl, rfl, rfl, rfl, rfl, trivial⟩ ⟨rfl, trivial⟩ rfl (hc _ .normA))))))))))))))))) (kLit rfl rfl rfl rfl (kRelK rfl rfl (kCall1 true (ok_spec_l2own _ (by first | assumption | omega | solve_by_elim [List.getElem_mem] | (simp only [szOut] at *; omega)) (by first | assumption | omega | solve_by_elim [List.getElem_mem] | (simp only [szOut] at *; omega))) ⟨⟨⟨rfl, trivial⟩, Nat.le_of_ble_eq_true rfl⟩, trivial⟩ rfl rfl rfl (fun _ => (kRelK rfl rfl (kAppN rfl rfl rfl (src_encB _ _) rfl rfl rfl rfl (by omega) (kRelK rfl rfl (kAppN rfl rfl rfl (src_encI _ _) rfl rfl rfl rfl (by omega) (kMem [(24576, ⟨2, 0, .arr true _⟩), (61440, ⟨2, 0, .arr true _⟩), (65536, ⟨3, 0, .arr true _⟩), (81920, ⟨3, 0, .arr true _⟩), (12288, ⟨1, 0, .box [.nil 1, .d _, .d _, .d _, .nil 1, .nil 1, .nil 1]⟩)] [(5, .g [.arr 24576 2]), (7, .c (.d _)), (9, .c (.d _)), (11, .c (.d _)), (14, .g [.arr 61440 2]), (18, .c (.arr 65536 3)), (22, .c (.arr 81920 3)), (2, .c (.ptr 12288 1 0))] [8192, 8192, 8192, 8192, 8192, 8192, 8192] ⟨rfl, rfl, rfl, rfl, rfl, trivial⟩ ⟨rfl, rfl, rfl, rfl, rfl, rfl, rfl, rfl, trivial⟩ rfl (kBuildG rfl (kMem [(12288, ⟨1, 0, .box [.nil 1, .d _, .d _, .d _, .nil 1, .nil 1, .nil 1]⟩), (24576, ⟨2, 0, .arr true _⟩), (61440, ⟨2, 0, .arr true _⟩), (65536, ⟨3, 0, .arr true _⟩), (81920, ⟨3, 0, .arr true _⟩)] [(2, .c (.ptr 12288 1 0)), (23, .g [.arr 24576 2, .d _, .d _, .d _, .arr 61440 2, .arr 65536 3, .arr 81920 3])] [8192, 8192, 8192, 8192, 8192, 8192, 8192] ⟨rfl, rfl, rfl, rfl, rfl, trivial⟩ ⟨rfl, rfl, trivial⟩ rfl (kRelF rfl rfl (kStoreP rfl rfl rfl rfl (kDone (kH (kMem [(12288, ⟨1, 0, .box [.arr 24576 2, .d _, .d _, .d _, .arr 61440 2, .arr 65536 3, .arr 81920 3]⟩), (24576, ⟨2, 0, .arr true _⟩), (61440, ⟨2, 0, .arr true _⟩), (65536, ⟨3, 0, .arr true _⟩), (81920, ⟨3, 0, .arr true _⟩)] [(2, .c (.ptr 12288 1 0))] [] ⟨rfl, rfl, rfl, rfl, rfl, trivial⟩ ⟨rfl, trivial⟩ rfl (hc _ .normA))))))))))))))))))))))))) (kAlt (kLit rfl rfl rfl rfl (kMem [(65536, ⟨2, 0, .arr true _⟩), (12288, ⟨1, 0, .box [.nil 1, .d _, .d _, .d _, .nil 1, .nil 1, .nil 1]⟩)] [(4, .g [.d _]), (13, .g [.d _]), (15, .c (.arr 65536 2)), (17, .c (.d _)), (21, .c (.d _)), (7, .c (.d _)), (9, .c (.d _)), (11, .c (.d _)), (2, .c (.ptr 12288 1 0))] [8192, 8192, 8192, 8192, 8192, 8192, 8192] ⟨rfl, rfl, trivial⟩ ⟨rfl, rfl, rfl, rfl, rfl, rfl, rfl, rfl, rfl, trivial⟩ rfl (kAlt (kRelK rfl rfl (kCall1 true (ok_spec_l2own _ (by first | assumption | omega | solve_by_elim [List.getElem_mem] | (simp only [szOut] at *; omega)) (by first | assumption | omega | solve_by_elim [List.getElem_mem] | (simp only [szOut] at *; omega))) ⟨⟨⟨rfl, trivial⟩, Nat.le_of_ble_eq_true rfl⟩, trivial⟩ rfl rfl rfl (fun _ => (kAlt (kRelK rfl rfl (kCall1 true (ok_spec_l2own _ (by first | assumption | omega | solve_by_elim [List.getElem_mem] | (simp only [szOut] at *; omega)) (by first | assumption | omega | solve_by_elim [List.getElem_mem] | (simp only [szOut] at *; omega))) ⟨⟨⟨rfl, trivial⟩, Nat.le_of_ble_eq_true rfl⟩, trivial⟩ rfl rfl rfl (fun _ => (kAlt (kRelK rfl rfl (kAppN rfl rfl rfl (src_encB _ _) rfl rfl rfl rfl (by omega) (kLit rfl rfl rfl rfl (kRelK rfl rfl (kAppN rfl rfl rfl (src_encI _ _) rfl rfl rfl rfl (by omega) (kMem [(24576, ⟨2, 0, .arr true _⟩), (61440, ⟨2, 0, .arr true _⟩), (65536, ⟨3, 0, .arr true _⟩), (81920, ⟨3, 0, .arr true _⟩), (12288, ⟨1, 0, .box [.nil 1, .d _, .d _, .d _, .nil 1, .nil 1, .nil 1]⟩)] [(5, .g [.arr 24576 2]), (7, .c (.d _)), (9, .c (.d _)), (11, .c (.d _)), (14, .g [.arr 61440 2]), (18, .c (.arr 65536 3)), (22, .c (.arr 81920 3)), (2, .c (.ptr 12288 1 0))] [8192, 8192, 8192, 8192, 8192, 8192, 8192] ⟨rfl, rfl, rfl, rfl, rfl, trivial⟩ ⟨rfl, rfl, rfl, rfl, rfl, rfl, rfl, rfl, trivial⟩ rfl (kBuildG rfl (kMem [(12288, ⟨1, 0, .box [.nil 1, .d _, .d _, .d _, .nil 1, .nil 1, .nil 1]⟩), (24576, ⟨2, 0, .arr true _⟩), (61440, ⟨2, 0, .arr true _⟩), (65536, ⟨3, 0, .arr true _⟩), (81920, ⟨3, 0, .arr true _⟩)] [(2, .c (.ptr 12288 1 0)), (23, .g [.arr 24576 2, .d _, .d _, .d _, .arr 61440 2, .arr 65536 3, .arr 81920 3])] [8192, 8192, 8192, 8192, 8192, 8192, 8192] ⟨rfl, rfl, rfl, rfl, rfl, trivial⟩ ⟨rfl, rfl, trivial⟩ rfl (kRelF rfl rfl (kStoreP rfl rfl rfl rfl (kDone (kH (kMem [(12288, ⟨1, 0, .box [.arr 24576 2, .d _, .d _, .d _, .arr 61440 2, .arr 65536 3, .arr 81920 3]⟩), (24576, ⟨2, 0, .arr true _⟩), (61440, ⟨2, 0, .arr true _⟩), (65536, ⟨3, 0, .arr true _⟩), (81920, ⟨3, 0, .arr true _⟩)] [(2, .c (.ptr 12288 1 0))] [] ⟨rfl, rfl, rfl, rfl, rfl, trivial⟩ ⟨rfl, trivial⟩ rfl (hc _ .normA)))))))))))))) (kLit rfl rfl rfl rfl (kRelK rfl rfl (kAppN rfl rfl rfl (src_encB _ _) rfl rfl rfl rfl (by omega) (kRelK rfl rfl (kAppN rfl rfl rfl (src_encI _ _) rfl rfl rfl rfl (by omega) (kMem [(24576, ⟨2, 0, .arr true _⟩), (61440, ⟨2, 0, .arr true _⟩), (65536, ⟨3, 0, .arr true _⟩), (81920, ⟨3, 0, .arr true _⟩), (12288, ⟨1, 0, .box [.nil 1, .d _, .d _, .d _, .nil 1, .nil 1, .nil 1]⟩)] [(5, .g [.arr 24576 2]), (7, .c (.d _)), (9, .c (.d _)), (11, .c (.d _)), (14, .g [.arr 61440 2]), (18, .c (.arr 65536 3)), (22, .c (.arr 81920 3)), (2, .c (.ptr 12288 1 0))] [8192, 8192, 8192, 8192, 8192, 8192, 8192] ⟨rfl, rfl, rfl, rfl, rfl, trivial⟩ ⟨rfl, rfl, rfl, rfl, rfl, rfl, rfl, rfl, trivial⟩ rfl (kBuildG rfl (kMem [(12288, ⟨1, 0, .box [.nil 1, .d _, .d _, .d _, .nil 1, .nil 1, .nil 1]⟩), (24576, ⟨2, 0, .arr true _⟩), (61440, ⟨2, 0, .arr true _⟩), (65536, ⟨3, 0, .arr true _⟩), (81920, ⟨3, 0, .arr true _⟩)] [(2, .c (.ptr 12288 1 0)), (23, .g [.arr 24576 2, .d _, .d _, .d _, .arr 61440 2, .arr 65536 3, .arr 81920 3])] [8192, 8192, 8192, 8192, 8192, 8192, 8192] ⟨rfl, rfl, rfl, rfl, rfl, trivial⟩ ⟨rfl, rfl, trivial⟩ rfl (kRelF rfl rfl (kStoreP rfl rfl rfl rfl (kDone (kH (kMem [(12288, ⟨1, 0, .box [.arr 24576 2, .d _, .d _, .d _, .arr 61440 2, .arr 65536 3, .arr 81920 3]⟩), (24576, ⟨2, 0, .arr true _⟩), (61440, ⟨2, 0, .arr true _⟩), (65536, ⟨3, 0, .arr true _⟩), (81920, ⟨3, 0, .arr true _⟩)] [(2, .c (.ptr 12288 1 0))] [] ⟨rfl, rfl, rfl, rfl, rfl, trivial⟩ ⟨rfl, trivial⟩ rfl (hc _ .normA)))))))))))))))))) (kLit rfl rfl rfl rfl (kRelK rfl rfl (kCall1 true (ok_spec_l2own _ (by first | assumption | omega | solve_by_elim [List.getElem_mem] | (simp only [szOut] at *; omega)) (by first | assumption | omega | solve_by_elim [List.getElem_mem] | (simp only [szOut] at *; omega))) ⟨⟨⟨rfl, trivial⟩, Nat.le_of_ble_eq_true rfl⟩, trivial⟩ rfl rfl rfl (fun _ => (kRelK rfl rfl (kAppN rfl rfl rfl (src_encB _ _) rfl rfl rfl rfl (by omega) (kRelK rfl rfl (kAppN rfl rfl rfl (src_encI _ _) rfl rfl rfl rfl (by omega) (kMem [(24576, ⟨2, 0, .arr true _⟩), (61440, ⟨2, 0, .arr true _⟩), (65536, ⟨3, 0, .arr true _⟩), (81920, ⟨3, 0, .arr true _⟩), (12288, ⟨1, 0, .box [.nil 1, .d _, .d _, .d _, .nil 1, .nil 1, .nil 1]⟩)] [(5, .g [.arr 24576 2]), (7, .c (.d _)), (9, .c (.d _)), (11, .c (.d _)), (14, .g [.arr 61440 2]), (18, .c (.arr 65536 3)), (22, .c (.arr 81920 3)), (2, .c (.ptr 12288 1 0))] [8192, 8192, 8192, 8192, 8192, 8192, 8192] ⟨rfl, rfl, rfl, rfl, rfl, trivial⟩ ⟨rfl, rfl, rfl, rfl, rfl, rfl, rfl, rfl, trivial⟩ rfl (kBuildG rfl (kMem [(12288, ⟨1, 0, .box [.nil 1, .d _, .d _, .d _, .nil 1, .nil 1, .nil 1]⟩), (24576, ⟨2, 0, .arr true _⟩), (61440, ⟨2, 0, .arr true _⟩), (65536, ⟨3, 0, .arr true _⟩), (81920, ⟨3, 0, .arr true _⟩)] [(2, .c (.ptr 12288 1 0)), (23, .g [.arr 24576 2, .d _, .d _, .d _, .arr 61440 2, .arr 65536 3, .arr 81920 3])] [8192, 8192, 8192, 8192, 8192, 8192, 8192] ⟨rfl, rfl, rfl, rfl, rfl, trivial⟩ ⟨rfl, rfl, trivial⟩ rfl (kRelF rfl rfl (kStoreP rfl rfl rfl rfl (kDone (kH (kMem [(12288, ⟨1, 0, .box [.arr 24576 2, .d _, .d _, .d _, .arr 61440 2, .arr 65536 3, .arr 81920 3]⟩), (24576, ⟨2, 0, .arr true _⟩), (61440, ⟨2, 0, .arr true _⟩), (65536, ⟨3, 0, .arr true _⟩), (81920, ⟨3, 0, .arr true _⟩)] [(2, .c (.ptr 12288 1 0))] [] ⟨rfl, rfl, rfl, rfl, rfl, trivial⟩ ⟨rfl, trivial⟩ rfl (hc _ .normA))))))))))))))))))))) (kLit rfl rfl rfl rfl (kRelK rfl rfl (kCall1 true (ok_spec_l2own _ (by first | assumption | omega | solve_by_elim [List.getElem_mem] | (simp only [szOut] at *; omega)) (by first | assumption | omega | solve_by_elim [List.getElem_mem] | (simp only [szOut] at *; omega))) ⟨⟨⟨rfl, trivial⟩, Nat.le_of_ble_eq_true rfl⟩, trivial⟩ rfl rfl rfl (fun _ => (kRelK rfl rfl (kCall1 true (ok_spec_l2own _ (by first | assumption | omega | solve_by_elim [List.getElem_mem] | (simp only [szOut] at *; omega)) (by first | assumption | omega | solve_by_elim [List.getElem_mem] | (simp only [szOut] at *; omega))) ⟨⟨⟨rfl, trivial⟩, Nat.le_of_ble_eq_true rfl⟩, trivial⟩ rfl rfl rfl (fun _ => (kRelK rfl rfl (kAppN rfl rfl rfl (src_encB _ _) rfl rfl rfl rfl (by omega) (kRelK rfl rfl (kAppN rfl rfl rfl (src_encI _ _) rfl rfl rfl rfl (by omega) (kMem [(24576, ⟨2, 0, .arr true _⟩), (61440, ⟨2, 0, .arr true _⟩), (65536, ⟨3, 0, .arr true _⟩), (81920, ⟨3, 0, .arr true _⟩), (12288, ⟨1, 0, .box [.nil 1, .d _, .d _, .d _, .nil 1, .nil 1, .nil 1]⟩)] [(5, .g [.arr 24576 2]), (7, .c (.d _)), (9, .c (.d _)), (11, .c (.d _)), (14, .g [.arr 61440 2]), (18, .c (.arr 65536 3)), (22, .c (.arr 81920 3)), (2, .c (.ptr 12288 1 0))] [8192, 8192, 8192, 8192, 8192, 8192, 8192] ⟨rfl, rfl, rfl, rfl, rfl, trivial⟩ ⟨rfl, rfl, rfl, rfl, rfl, rfl, rfl, rfl, trivial⟩ rfl (kBuildG rfl (kMem [(12288, ⟨1, 0, .box [.nil 1, .d _, .d _, .d _, .nil 1, .nil 1, .nil 1]⟩), (24576, ⟨2, 0, .arr true _⟩), (61440, ⟨2, 0, .arr true _⟩), (65536, ⟨3, 0, .arr true _⟩), (81920, ⟨3, 0, .arr true _⟩)] [(2, .c (.ptr 12288 1 0)), (23, .g [.arr 24576 2, .d _, .d _, .d _, .arr 61440 2, .arr 65536 3, .arr 81920 3])] [8192, 8192, 8192, 8192, 8192, 8192, 8192] ⟨rfl, rfl, rfl, rfl, rfl, trivial⟩ ⟨rfl, rfl, trivial⟩ rfl (kRelF rfl rfl (kStoreP rfl rfl rfl rfl (kDone (kH (kMem [(12288, ⟨1, 0, .box [.arr 24576 2, .d _, .d _, .d _, .arr 61440 2, .arr 65536 3, .arr 81920 3]⟩), (24576, ⟨2, 0, .arr true _⟩), (61440, ⟨2, 0, .arr true _⟩), (65536, ⟨3, 0, .arr true _⟩), (81920, ⟨3, 0, .arr true _⟩)] [(2, .c (.ptr 12288 1 0))] [] ⟨rfl, rfl, rfl, rfl, rfl, trivial⟩ ⟨rfl, trivial⟩ rfl (hc _ .normA))))))))))))))))))))))) (kLit rfl rfl rfl rfl (kMem [(81920, ⟨2, 0, .arr true _⟩), (12288, ⟨1, 0, .box [.nil 1, .d _, .d _, .d _, .nil 1, .nil 1, .nil 1]⟩)] [(4, .g [.d _]), (13, .g [.d _]), (17, .c (.d _)), (19, .c (.arr 81920 2)), (21, .c (.d _)), (7, .c (.d _)), (9, .c (.d _)), (11, .c (.d _)), (2, .c (.ptr 12288 1 0))] [8192, 8192, 8192, 8192, 8192, 8192, 8192] ⟨rfl, rfl, trivial⟩ ⟨rfl, rfl, rfl, rfl, rfl, rfl, rfl, rfl, rfl, trivial⟩ rfl (kAlt (kRelK rfl rfl (kCall1 true (ok_spec_l2own _ (by first | assumption | omega | solve_by_elim [List.getElem_mem] | (simp only [szOut] at *; omega)) (by first | assumption | omega | solve_by_elim [List.getElem_mem] | (simp only [szOut] at *; omega))) ⟨⟨⟨rfl, trivial⟩, Nat.le_of_ble_eq_true rfl⟩, trivial⟩ rfl rfl rfl (fun _ => (kAlt (kRelK rfl rfl (kCall1 true (ok_spec_l2own _ (by first | assumption | omega | solve_by_elim [List.getElem_mem] | (simp only [szOut] at *; omega)) (by first | assumption | omega | solve_by_elim [List.getElem_mem] | (simp only [szOut] at *; omega))) ⟨⟨⟨rfl, trivial⟩, Nat.le_of_ble_eq_true rfl⟩, trivial⟩ rfl rfl rfl (fun _ => (kLit rfl rfl rfl rfl (kRelK rfl rfl (kAppN rfl rfl rfl (src_encB _ _) rfl rfl rfl rfl (by omega) (kRelK rfl rfl (kAppN rfl rfl rfl (src_encI _ _) rfl rfl rfl rfl (by omega) (kMem [(24576, ⟨2, 0, .arr true _⟩), (61440, ⟨2, 0, .arr true _⟩), (65536, ⟨3, 0, .arr true _⟩), (81920, ⟨3, 0, .arr true _⟩), (12288, ⟨1, 0, .box [.nil 1, .d _, .d _, .d _, .nil 1, .nil 1, .nil 1]⟩)] [(5, .g [.arr 24576 2]), (7, .c (.d _)), (9, .c (.d _)), (11, .c (.d _)), (14, .g [.arr 61440 2]), (18, .c (.arr 65536 3)), (22, .c (.arr 81920 3)), (2, .c (.ptr 12288 1 0))] [8192, 8192, 8192, 8192, 8192, 8192, 8192] ⟨rfl, rfl, rfl, rfl, rfl, trivial⟩ ⟨rfl, rfl, rfl, rfl, rfl, rfl, rfl, rfl, trivial⟩ rfl (kBuildG rfl (kMem [(12288, ⟨1, 0, .box [.nil 1, .d _, .d _, .d _, .nil 1, .nil 1, .nil 1]⟩), (24576, ⟨2, 0, .arr true _⟩), (61440, ⟨2, 0, .arr true _⟩), (65536, ⟨3, 0, .arr true _⟩), (81920, ⟨3, 0, .arr true _⟩)] [(2, .c (.ptr 12288 1 0)), (23, .g [.arr 24576 2, .d _, .d _, .d _, .arr 61440 2, .arr 65536 3, .arr 81920 3])] [8192, 8192, 8192, 8192, 8192, 8192, 8192] ⟨rfl, rfl, rfl, rfl, rfl, trivial⟩ ⟨rfl, rfl, trivial⟩ rfl (kRelF rfl rfl (kStoreP rfl rfl rfl rfl (kDone (kH (kMem [(12288, ⟨1, 0, .box [.arr 24576 2, .d _, .d _, .d _, .arr 61440 2, .arr 65536 3, .arr 81920 3]⟩), (24576, ⟨2, 0, .arr true _⟩), (61440, ⟨2, 0, .arr true _⟩), (65536, ⟨3, 0, .arr true _⟩), (81920, ⟨3, 0, .arr true _⟩)] [(2, .c (.ptr 12288 1 0))] [] ⟨rfl, rfl, rfl, rfl, rfl, trivial⟩ ⟨rfl, trivial⟩ rfl (hc _ .normA))))))))))))))))) (kLit rfl rfl rfl rfl (kRelK rfl rfl (kCall1 true (ok_spec_l2own _ (by first | assumption | omega | solve_by_elim [List.getElem_mem] | (simp only [szOut] at *; omega)) (by first | assumption | omega | solve_by_elim [List.getElem_mem] | (simp only [szOut] at *; omega))) ⟨⟨⟨rfl, trivial⟩, Nat.le_of_ble_eq_true rfl⟩, trivial⟩ rfl rfl rfl (fun _ => (kRelK rfl rfl (kAppN rfl rfl rfl (src_encB _ _) rfl rfl rfl rfl (by omega) (kRelK rfl rfl (kAppN rfl rfl rfl (src_encI _ _) rfl rfl rfl rfl (by omega) (kMem [(24576, ⟨2, 0, .arr true _⟩), (61440, ⟨2, 0, .arr true _⟩), (65536, ⟨3, 0, .arr true _⟩), (81920, ⟨3, 0, .arr true _⟩), (12288, ⟨1, 0, .box [.nil 1, .d _, .d _, .d _, .nil 1, .nil 1, .nil 1]⟩)] [(5, .g [.arr 24576 2]), (7, .c (.d _)), (9, .c (.d _)), (11, .c (.d _)), (14, .g [.arr 61440 2]), (18, .c (.arr 65536 3)), (22, .c (.arr 81920 3)), (2, .c (.ptr 12288 1 0))] [8192, 8192, 8192, 8192, 8192, 8192, 8192] ⟨rfl, rfl, rfl, rfl, rfl, trivial⟩ ⟨rfl, rfl, rfl, rfl, rfl, rfl, rfl, rfl, trivial⟩ rfl (kBuildG rfl (kMem [(12288, ⟨1, 0, .box [.nil 1, .d _, .d _, .d _, .nil 1, .nil 1, .nil 1]⟩), (24576, ⟨2, 0, .arr true _⟩), (61440, ⟨2, 0, .arr true _⟩), (65536, ⟨3, 0, .arr true _⟩), (81920, ⟨3, 0, .arr true _⟩)] [(2, .c (.ptr 12288 1 0)), (23, .g [.arr 24576 2, .d _, .d _, .d _, .arr 61440 2, .arr 65536 3, .arr 81920 3])] [8192, 8192, 8192, 8192, 8192, 8192, 8192] ⟨rfl, rfl, rfl, rfl, rfl, trivial⟩ ⟨rfl, rfl, trivial⟩ rfl (kRelF rfl rfl (kStoreP rfl rfl rfl rfl (kDone (kH (kMem [(12288, ⟨1, 0, .box [.arr 24576 2, .d _, .d _, .d _, .arr 61440 2, .arr 65536 3, .arr 81920 3]⟩), (24576, ⟨2, 0, .arr true _⟩), (61440, ⟨2, 0, .arr true _⟩), (65536, ⟨3, 0, .arr true _⟩), (81920, ⟨3, 0, .arr true _⟩)] [(2, .c (.ptr 12288 1 0))] [] ⟨rfl, rfl, rfl, rfl, rfl, trivial⟩ ⟨rfl, trivial⟩ rfl (hc _ .normA))))))))))))))))))))) (kLit rfl rfl rfl rfl (kRelK rfl rfl (kCall1 true (ok_spec_l2own _ (by first | assumption | omega | solve_by_elim [List.getElem_mem] | (simp only [szOut] at *; omega)) (by first | assumption | omega | solve_by_elim [List.getElem_mem] | (simp only [szOut] at *; omega))) ⟨⟨⟨rfl, trivial⟩, Nat.le_of_ble_eq_true rfl⟩, trivial⟩ rfl rfl rfl (fun _ => (kRelK rfl rfl (kCall1 true (ok_spec_l2own _ (by first | assumption | omega | solve_by_elim [List.getElem_mem] | (simp only [szOut] at *; omega)) (by first | assumption | omega | solve_by_elim [List.getElem_mem] | (simp only [szOut] at *; omega))) ⟨⟨⟨rfl, trivial⟩, Nat.le_of_ble_eq_true rfl⟩, trivial⟩ rfl rfl rfl (fun _ => (kRelK rfl rfl (kAppN rfl rfl rfl (src_encB _ _) rfl rfl rfl rfl (by omega) (kRelK rfl rfl (kAppN rfl rfl rfl (src_encI _ _) rfl rfl rfl rfl (by omega) (kMem [(24576, ⟨2, 0, .arr true _⟩), (61440, ⟨2, 0, .arr true _⟩), (65536, ⟨3, 0, .arr true _⟩), (81920, ⟨3, 0, .arr true _⟩), (12288, ⟨1, 0, .box [.nil 1, .d _, .d _, .d _, .nil 1, .nil 1, .nil 1]⟩)] [(5, .g [.arr 24576 2]), (7, .c (.d _)), (9, .c (.d _)), (11, .c (.d _)), (14, .g [.arr 61440 2]), (18, .c (.arr 65536 3)), (22, .c (.arr 81920 3)), (2, .c (.ptr 12288 1 0))] [8192, 8192, 8192, 8192, 8192, 8192, 8192] ⟨rfl, rfl, rfl, rfl, rfl, trivial⟩ ⟨rfl, rfl, rfl, rfl, rfl, rfl, rfl, rfl, trivial⟩ rfl (kBuildG rfl (kMem [(12288, ⟨1, 0, .box [.nil 1, .d _, .d _, .d _, .nil 1, .nil 1, .nil 1]⟩), (24576, ⟨2, 0, .arr true _⟩), (61440, ⟨2, 0, .arr true _⟩), (65536, ⟨3, 0, .arr true _⟩), (81920, ⟨3, 0, .arr true _⟩)] [(2, .c (.ptr 12288 1 0)), (23, .g [.arr 24576 2, .d _, .d _, .d _, .arr 61440 2, .arr 65536 3, .arr 81920 3])] [8192, 8192, 8192, 8192, 8192, 8192, 8192] ⟨rfl, rfl, rfl, rfl, rfl, trivial⟩ ⟨rfl, rfl, trivial⟩ rfl (kRelF rfl rfl (kStoreP rfl rfl rfl rfl (kDone (kH (kMem [(12288, ⟨1, 0, .box [.arr 24576 2, .d _, .d _, .d _, .arr 61440 2, .arr 65536 3, .arr 81920 3]⟩), (24576, ⟨2, 0, .arr true _⟩), (61440, ⟨2, 0, .arr true _⟩), (65536, ⟨3, 0, .arr true _⟩), (81920, ⟨3, 0, .arr true _⟩)] [(2, .c (.ptr 12288 1 0))] [] ⟨rfl, rfl, rfl, rfl, rfl, trivial⟩ ⟨rfl, trivial⟩ rfl (hc _ .normA))))))))))))))))))))))))))))))))))))))))
  refine kMem [(12288, ⟨1, 0, .box [.arr 24576 1, .d _, .d _, .d _, .arr 61440 1, .arr 65536 1, .arr 81920 1]⟩), (24576, ⟨1, 0, .arr true _⟩), (61440, ⟨1, 0, .arr true _⟩), (65536, ⟨1, 0, .arr true _⟩), (81920, ⟨1, 0, .arr true _⟩)] [(2, .c (.ptr 12288 1 0))] [] ⟨rfl, rfl, rfl, rfl, rfl, trivial⟩ ⟨rfl, trivial⟩ rfl (kRet (endRetA (ra := [.agg [(.own true _), (.d _), (.d _), (.d _), (.own true _), (.own true _), (.own true _)]]) rfl rfl))

def c_spec_l3ownAll : C := (.seq (.reg false (.op 0 [] (some 2) none false (.mov (.n 7))
  .done))
 (.seq (.reg false (.op 0 [] (some 3) none false (.mov (.n 7))
  .done))
 (.seq (.seq (.reg false (.op 0 [] (some 4) none false (.mov (.v (.int .i64 0)))
  .done))
 (.block 0 (.loop (.seq (.seq (.reg false (.op 0 [] (some 5) none false (.mov (.t 4))
  (.op 1 [] (some 6) none false (.mov (.t 0))
  (.op 2 [] (some 7) none false (.len (.t 6))
  (.op 3 [] (some 8) none false (.bin .lss (.t 5) (.t 7))
  .done)))))
 (.cond (.t 8)
 .skip
 (.exit 0)))
 (.seq (.block 1 (.reg false (.op 0 [] (some 11) none false (.mov (.t 3))
  (.op 1 [] (some 12) none false (.mov (.t 0))
  (.op 2 [] (some 13) none false (.mov (.t 4))
  (.op 3 [] (some 14) none false (.iad 7 (.t 12) (.t 13))
  (.op 4 [] (some 15) none false (.load (some 7) (.t 14))
  (.op 5 [] (some 16) none false (.call 16 110 [(.t 15)])
  (.op 6 [] (some 17) none false (.lit 17 7 [(.n 1), (.v (.int .i64 0)), (.v (.int .i64 0)), (.v (.int .i64 0)), (.n 1), (.n 1), (.n 1)] 1 [(0, 7, (.t 16))])
  (.op 7 [] (some 18) none false (.app 18 7 120 (.t 11) (.t 17))
  (.op 8 [] (some 3) none false (.mov (.t 18))
  .done)))))))))))
 (.reg false (.op 0 [] (some 9) none false (.mov (.t 4))
  (.op 1 [] (some 10) none false (.bin .add (.t 9) (.v (.int .i64 1)))
  (.op 2 [] (some 4) none false (.mov (.t 10))
  .done)))))))))
 (.seq (.reg false (.op 0 [] (some 19) none false (.mov (.t 3))
  (.op 1 [] (some 2) none false (.mov (.t 19))
  .done)))
 .ret))))
theorem dg_spec_l3ownAll : Tryz.f51.body.bind (digC Tryz.prog Tryz.f51.ntmps []) = some c_spec_l3ownAll := by kernel_rfl
theorem rs_spec_l3ownAll : resSlots Tryz.prog Tryz.f51 = some [.s 2] := by kernel_rfl
theorem ok_spec_l3ownAll (l : List Rr) (hs : SmallRs l) :
    FnOK Tryz.prog 51 [.one (.d (encR l))] (fun ra _ => ra = [.one (.own true (encR l))]) := by
  refine FnOK.ofK Tryz.func51 (by kernel_rfl) dg_spec_l3ownAll rs_spec_l3ownAll rfl rfl ?_
  unfold c_spec_l3ownAll
  have h1 := hs.len
  refine kSeq (kReg (kMovC rfl (kDone (kSeq (kReg (kMovC rfl (kDone (kSeq (kSeq (kReg (kMovC rfl (kDone (kBlock ?_)))))))))))))
  refine kSub (Sub.nilArr (j := 3) (id := rid 5000 0) (sz := 7) rfl (by decide)) ?_
  refine kLoop (α := { i : Nat // i ≤ l.length }) (fun y => ⟨tabSl [(0, .dv (encR l)), (3, .c (.arr (rid 5000 0) 1)), (4, .i y.1)], obTab 1 [(rid 5000 0, ⟨1, 0, .arr true (encR (l.take y.1))⟩)], []⟩) (fun y => l.length - y.1) ⟨0, by simp⟩ .normA ?_
  rintro ⟨i, hi⟩
  simp only
  have hlen : (l.take i).length = i := by simp; omega
  rcases Nat.lt_or_ge i l.length with hlt | hge
  · have hbi := hs.mem _ (List.getElem_mem hlt)
    refine kSeq (kSeq (kReg (kMovC rfl (kMovC rfl (kLenR rfl rfl (kBin rfl rfl rfl (kDone (kCondP rfl (fun g0 => kSkip (kSeq (kBlock (kReg (kMovC rfl (kMovC rfl (kMovC rfl (kIadR rfl rfl rfl (by omega) (kLoadD rfl rfl (kCall1 true (ok_spec_l3own _ (by first | assumption | omega | solve_by_elim [List.getElem_mem] | (simp only [szOut] at *; omega))) ⟨⟨⟨rfl, rfl, rfl, rfl, rfl, rfl, rfl, trivial⟩, Nat.le_of_ble_eq_true rfl⟩, trivial⟩ rfl rfl rfl (fun _ => (kLit rfl rfl rfl rfl (kMem [(20484096, ⟨1, 0, .arr true _⟩), (73728, ⟨2, 0, .arr true _⟩)] [(11, .c (.arr 20484096 1)), (17, .c (.arr 73728 2))] [] ⟨rfl, rfl, trivial⟩ ⟨rfl, rfl, trivial⟩ rfl (kAppRec rfl rfl rfl rfl rfl rfl rfl (by omega) (kMovC rfl (kDone (kBk (kReg (kMovC rfl (kAdd rfl rfl (by omega) (kMovC rfl (kDone ?_)))))))))))))))))))))) (fun g0 => (by omega))))))))))
    exact kInv ⟨⟨i + 1, by omega⟩, by simp only; omega, .normA⟩
  · refine kSeq (kSeq (kReg (kMovC rfl (kMovC rfl (kLenR rfl rfl (kBin rfl rfl rfl (kDone (kCondP rfl (fun g0 => (by omega)) (fun g0 => kExit (kExC (kExI (kExB (kSeq (kReg (kMovC rfl (kMovC rfl (kDone (kMem [(20484096, ⟨1, 0, .arr true _⟩)] [(2, .c (.arr 20484096 1))] [] ⟨rfl, trivial⟩ ⟨rfl, trivial⟩ rfl (kRet (endRetA (ra := [.one (.own true _)]) rfl ?_))))))))))))))))))))
    rw [show i = l.length by omega, List.take_length]

def c_spec_l5own : C := (.seq (.reg false (.op 0 [] (some 1) none false (.box 1 (.t 0))
  (.op 1 [] (some 2) none false (.alloc 2 [(.n 1), (.n 7)])
  .done)))
 (.seq (.reg true (.op 0 [] (some 3) none true (.fad (.t 1) 0)
  (.op 1 [] (some 4) none true (.load (some 1) (.t 3))
  (.op 3 [] (some 6) none true (.fad (.t 1) 1)
  (.op 4 [] (some 7) none true (.load none (.t 6))
  (.op 2 [1] (some 5) none false (.call 5 125 [(.t 4)])
  (.op 5 [4, 1] (some 8) none false (.call 8 51 [(.t 7)])
  (.op 6 [] (some 9) none true (.build [(.n 1), (.n 7)] [(0, 1, (.t 5)), (1, 1, (.t 8))])
  (.op 7 [1, 4] none none false (.store (some 2) (.t 2) (.t 9))
  .done)))))))))
 .ret))
theorem dg_spec_l5own : Tryz.f82.body.bind (digC Tryz.prog Tryz.f82.ntmps []) = some c_spec_l5own := by kernel_rfl
theorem rs_spec_l5own : resSlots Tryz.prog Tryz.f82 = some [.m 2 (some 2)] := by kernel_rfl
theorem ok_spec_l5own (z : Zone) (hs : SmallZ z) :
    FnOK Tryz.prog 82 [.agg (z.cells.map .d)] (fun ra _ => ra = [.agg [.own true (encBB z.origin), .own true (encR z.rrs)]]) := by
  refine FnOK.ofK Tryz.func82 (by kernel_rfl) dg_spec_l5own rs_spec_l5own rfl rfl ?_
  unfold c_spec_l5own
  have o1 := hs.o.len
  have o2 := hs.o.mem
  have h1 := hs.r
  refine kSeq (kReg (kBox rfl rfl rfl rfl rfl (kAlloc rfl rfl (kDone (kSeq (kRegD (kFadP rfl rfl (kLoadP rfl rfl rfl (kFadP rfl rfl (kLoadP rfl rfl rfl (kRelK rfl rfl (kCall1 true (ok_spec_l2own _ (by first | assumption | omega | solve_by_elim [List.getElem_mem] | (simp only [szOut] at *; omega)) (by first | assumption | omega | solve_by_elim [List.getElem_mem] | (simp only [szOut] at *; omega))) ⟨⟨⟨rfl, trivial⟩, Nat.le_of_ble_eq_true rfl⟩, trivial⟩ rfl rfl rfl (fun _ => (kMem [(24576, ⟨1, 0, .arr true _⟩), (12288, ⟨1, 0, .box [.nil 1, .nil 7]⟩)] [(7, .c (.d _)), (5, .g [.arr 24576 1]), (8, .c (.un)), (2, .c (.ptr 12288 1 0)), (9, .c (.un))] [8192, 8192] ⟨rfl, rfl, trivial⟩ ⟨rfl, rfl, rfl, rfl, rfl, trivial⟩ rfl (kRelF rfl rfl (kCall1 true (ok_spec_l3ownAll _ (by first | assumption | omega | solve_by_elim [List.getElem_mem] | (simp only [szOut] at *; omega))) ⟨rfl, trivial⟩ rfl rfl rfl (fun _ => (kBuildG rfl (kMem [(12288, ⟨1, 0, .box [.nil 1, .nil 7]⟩), (24576, ⟨1, 0, .arr true _⟩), (36864, ⟨1, 0, .arr true _⟩)] [(2, .c (.ptr 12288 1 0)), (9, .g [.arr 24576 1, .arr 36864 1])] [] ⟨rfl, rfl, rfl, trivial⟩ ⟨rfl, rfl, trivial⟩ rfl (kRelF rfl rfl (kStoreP rfl rfl rfl rfl (kDone (kH (kMem [(12288, ⟨1, 0, .box [.arr 24576 1, .arr 36864 1]⟩), (24576, ⟨1, 0, .arr true _⟩), (36864, ⟨1, 0, .arr true _⟩)] [(2, .c (.ptr 12288 1 0))] [] ⟨rfl, rfl, rfl, trivial⟩ ⟨rfl, trivial⟩ rfl (kRet (endRetA (ra := [.agg [(.own true _), (.own true _)]]) rfl rfl))))))))))))))))))))))))))

def c_spec_l5bump : C := (.seq (.reg false (.op 0 [] (some 1) none false (.box 1 (.t 0))
  (.op 1 [] (some 2) none false (.alloc 2 [(.n 1), (.n 7)])
  .done)))
 (.seq (.reg false (.op 0 [] (some 5) none false (.load (some 2) (.t 1))
  (.op 1 [] (some 6) none false (.call 6 82 [(.t 5)])
  (.op 2 [] (some 3) none false (.alloc 3 [(.n 1), (.n 7)])
  (.op 3 [] none none false (.store (some 2) (.t 3) (.t 6))
  .done)))))
 (.seq (.seq (.reg false (.op 0 [] (some 4) none false (.mov (.v (.int .i64 0)))
  .done))
 (.block 0 (.loop (.seq (.seq (.reg false (.op 0 [] (some 7) none false (.mov (.t 4))
  (.op 1 [] (some 8) none false (.fad (.t 3) 1)
  (.op 2 [] (some 9) none false (.load none (.t 8))
  (.op 3 [] (some 10) none false (.len (.t 9))
  (.op 4 [] (some 11) none false (.bin .lss (.t 7) (.t 10))
  .done))))))
 (.cond (.t 11)
 .skip
 (.exit 0)))
 (.seq (.block 1 (.seq (.reg false (.op 0 [] (some 14) none false (.fad (.t 3) 1)
  (.op 1 [] (some 15) none false (.load none (.t 14))
  (.op 2 [] (some 16) none false (.mov (.t 4))
  (.op 3 [] (some 17) none false (.iad 7 (.t 15) (.t 16))
  (.op 4 [] (some 18) none false (.fad (.t 17) 1)
  (.op 5 [] (some 19) none false (.load none (.t 18))
  (.op 6 [] (some 20) none false (.bin .eql (.t 19) (.v (.int .i64 6)))
  .done))))))))
 (.cond (.t 20)
 (.reg true (.op 0 [] (some 21) none true (.fad (.t 3) 1)
  (.op 1 [] (some 22) none true (.load none (.t 21))
  (.op 2 [] (some 23) none true (.mov (.t 4))
  (.op 3 [] (some 24) none true (.iad 7 (.t 22) (.t 23))
  (.op 4 [] (some 25) none true (.fad (.t 24) 6)
  (.op 5 [] (some 26) none true (.load none (.t 25))
  (.op 6 [] (some 27) none true (.fad (.t 3) 1)
  (.op 7 [] (some 28) none true (.load none (.t 27))
  (.op 8 [] (some 29) none true (.mov (.t 4))
  (.op 9 [] (some 30) none true (.iad 7 (.t 28) (.t 29))
  (.op 10 [] (some 31) none true (.fad (.t 30) 6)
  (.op 11 [] (some 32) none true (.load none (.t 31))
  (.op 12 [] (some 33) none true (.iad 1 (.t 32) (.v (.int .i64 0)))
  (.op 13 [] (some 34) none true (.load none (.t 33))
  (.op 14 [] (some 35) none true (.bin .add (.t 34) (.v (.int .i64 1)))
  (.op 15 [] (some 36) none true (.bin .and (.t 35) (.v (.int .i64 4294967295)))
  (.op 16 [] (some 37) none true (.iad 1 (.t 26) (.v (.int .i64 0)))
  (.op 17 [5, 1, 7, 11, 13] none none false (.store none (.t 37) (.t 36))
  .done)))))))))))))))))))
 .skip)))
 (.reg false (.op 0 [] (some 12) none false (.mov (.t 4))
  (.op 1 [] (some 13) none false (.bin .add (.t 12) (.v (.int .i64 1)))
  (.op 2 [] (some 4) none false (.mov (.t 13))
  .done)))))))))
 (.seq (.reg false (.op 0 [] (some 38) none false (.load (some 2) (.t 3))
  (.op 1 [] none none false (.store (some 2) (.t 2) (.t 38))
  .done)))
 .ret))))
theorem dg_spec_l5bump : Tryz.f61.body.bind (digC Tryz.prog Tryz.f61.ntmps []) = some c_spec_l5bump := by kernel_rfl
theorem rs_spec_l5bump : resSlots Tryz.prog Tryz.f61 = some [.m 2 (some 2)] := by kernel_rfl
theorem ok_spec_l5bump (z : Zone) (hs : SmallZ z) (hz : zoneOk z = true) :
    FnOK Tryz.prog 61 [.agg (z.cells.map .d)] (fun ra _ => ra = [.agg [.own true (encBB z.origin), .own true (encR (bumpZ z).rrs)]]) := by
  refine FnOK.ofK Tryz.func61 (by kernel_rfl) dg_spec_l5bump rs_spec_l5bump rfl rfl ?_
  unfold c_spec_l5bump
  have h1 := hs.r.len
  have hall := zone_rrs hz
  rw [← bump_all hz]
  refine kSeq (kReg (kBox rfl rfl rfl rfl rfl (kAlloc rfl rfl (kDone (kSeq (kReg (kLoadP rfl rfl rfl (kCall1 true (ok_spec_l5own _ (by first | assumption | omega | solve_by_elim [List.getElem_mem] | (simp only [szOut] at *; omega))) ⟨⟨⟨rfl, rfl, trivial⟩, Nat.le_of_ble_eq_true rfl⟩, trivial⟩ rfl rfl rfl (fun _ => (kAlloc rfl rfl (kMem [(16384, ⟨1, 0, .box [.nil 1, .nil 7]⟩), (28672, ⟨1, 0, .arr true _⟩), (28673, ⟨1, 0, .arr true _⟩)] [(3, .c (.ptr 16384 1 0)), (6, .g [.arr 28672 1, .arr 28673 1])] [] ⟨rfl, rfl, rfl, trivial⟩ ⟨rfl, rfl, trivial⟩ rfl (kStoreP rfl rfl rfl rfl (kDone (kSeq (kSeq (kReg (kMovC rfl (kDone (kBlock ?_)))))))))))))))))))
  refine kLoop (α := { i : Nat // i ≤ z.rrs.length }) (fun y => ⟨tabSl [(2, .c (.ptr (rid 2 0) 1 0)), (3, .c (.ptr (rid 3 0) 1 0)), (4, .i y.1)], obTab 1 [(rid 2 0, ⟨1, 0, .box [.nil 1, .nil 7]⟩), (rid 3 0, ⟨1, 0, .box [.arr (rid 6 0) 1, .arr (rid 6 1) 1]⟩), (rid 6 0, ⟨1, 0, .arr true (encBB z.origin)⟩), (rid 6 1, ⟨1, 0, .arr true (encR ((z.rrs.take y.1).map bump1 ++ z.rrs.drop y.1))⟩)], []⟩) (fun y => z.rrs.length - y.1) ⟨0, by simp⟩ .normA ?_
  rintro ⟨i, hi⟩
  simp only
  have hlen0 : ((z.rrs.take i).map bump1).length = i := by simp; omega
  have hlen : ((z.rrs.take i).map bump1 ++ z.rrs.drop i).length = z.rrs.length := by simp; omega
  rcases Nat.lt_or_ge i z.rrs.length with hlt | hge
  · have hget : ((z.rrs.take i).map bump1 ++ z.rrs.drop i)[i]'(by omega) = z.rrs[i] := by
      rw [List.getElem_append_right (by omega)]
      have e0 : i - ((z.rrs.take i).map bump1).length = 0 := by omega
      simp only [e0]
      simp
    have hget2 : ((z.rrs.take i).map bump1 ++ z.rrs.drop i)[i]? = some z.rrs[i] := by rw [List.getElem?_eq_getElem (by omega), hget]
    have hst : (z.rrs.take (i + 1)).map bump1 ++ z.rrs.drop (i + 1) = ((z.rrs.take i).map bump1 ++ z.rrs.drop i).set i (bump1 z.rrs[i]) := by
      rw [take_set_succ _ _ _ _ hlt hlen0, ← List.take_append_getElem hlt, List.map_append]; rfl
    by_cases p : z.rrs[i].ty = 6
    · obtain ⟨s1, s2, s3, s4⟩ := rdata_soa (hall _ (List.getElem_mem hlt)) p
      rw [show bump1 z.rrs[i] = bumpR z.rrs[i] by simp [bump1, p]] at hst
      clear hget
      revert hget2 hst hlen
      generalize (z.rrs.take i).map bump1 ++ z.rrs.drop i = L
      intro hlen hget2 hst
      have hiL : i < L.length := by omega
      have hget : L[i] = z.rrs[i] := by rw [List.getElem?_eq_getElem hiL] at hget2; simpa using hget2
      have hn0 : 0 < (L[i]).nums.length := by rw [hget]; omega
      have hw : 0 ≤ (L[i]).nums[0] ∧ (L[i]).nums[0] < 4294967296 := by simp only [hget]; exact s2
      have hty : (L[i]).ty = 6 := by rw [hget]; exact p
      have hat : (encR L).at i 6 = encI (L[i]).nums := by rw [at_encR _ _ _ hiL]; rfl
      refine kSeq (kSeq (kReg (kMovC rfl (kFadP rfl rfl (kLoadP rfl rfl rfl (kLenR rfl rfl (kBin rfl rfl rfl (kDone (kCondP rfl (fun g0 => kSkip (kSeq (kBlock (kSeq (kReg (kFadP rfl rfl (kLoadP rfl rfl rfl (kMovC rfl (kIadAR rfl rfl rfl rfl (by omega) (kFadE rfl rfl (kLoadER rfl rfl (by omega) rfl (kBin rfl rfl rfl (kDone (kCondP rfl (fun g1 => kRegD (kMem [(16384, ⟨1, 0, .box [.arr 28672 1, .arr 28673 1]⟩), (28672, ⟨1, 0, .arr true _⟩), (28673, ⟨1, 0, .arr true _⟩)] [(3, .c (.ptr 16384 1 0)), (4, .c (.d _))] [] ⟨rfl, rfl, rfl, trivial⟩ ⟨rfl, rfl, trivial⟩ rfl (kFadP rfl rfl (kLoadP rfl rfl rfl (kMovC rfl (kIadAR rfl rfl rfl rfl (by omega) (kFadE rfl rfl (kLoadER rfl rfl (by omega) rfl (kFadP rfl rfl (kLoadP rfl rfl rfl (kMovC rfl (kMem [(28673, ⟨1, 0, .arr true _⟩)] [(28, .c (.arr 28673 1)), (29, .c (.d _))] [16384, 28673, 16384] ⟨rfl, trivial⟩ ⟨rfl, rfl, trivial⟩ rfl (kIadAR rfl rfl rfl rfl (by omega) (kFadE rfl rfl (kLoadER rfl rfl (by omega) rfl ?_))))))))))))))) (fun g1 => (by omega)))))))))))))))) (fun g0 => (by omega)))))))))))
      refine kIadS rfl rfl rfl (by rw [hat]; rfl) (by rw [hat]; rfl) ⟨by decide, by rw [hat, len_encI]; exact hn0⟩ ?_
      refine kLoadS (u := .int .i64 (L[i]).nums[0]) rfl rfl (by rw [hat]; show (DV.row _ 0)[0]? = _; rw [row_encI _ _ hn0]; rfl) ?_
      refine kAdd rfl rfl (by omega) (kBin rfl rfl rfl ?_)
      refine kIadS rfl rfl rfl (by rw [hat]; rfl) (by rw [hat]; rfl) ⟨by decide, by rw [hat, len_encI]; exact hn0⟩ ?_
      refine kRelF rfl rfl ?_
      refine kStoreS rfl rfl rfl rfl (by rw [hat]; exact Nat.zero_lt_one) (by rw [hat]; show ((DV.row _ 0).getD 0 _).isSc = true; rw [row_encI _ _ hn0]; rfl) ?_
      have key : (encR L).setCell i 6 (((encR L).at i 6).setCell (Int.toNat 0) 0 (.sc (.int .i64 (IntKind.i64.wrap ((BitVec.ofInt IntKind.i64.bits ((L[i]).nums[0] + 1) &&& BitVec.ofInt IntKind.i64.bits 4294967295).toNat : Int))))) = encR (L.set i (bumpR z.rrs[i])) := by
        have a32 : IntKind.i64.wrap ((BitVec.ofInt IntKind.i64.bits ((L[i]).nums[0] + 1) &&& BitVec.ofInt IntKind.i64.bits 4294967295).toNat : Int) = ((L[i]).nums[0] + 1) % 4294967296 := and32 _ (by omega)
        rw [hat, show Int.toNat 0 = 0 from rfl, a32, setCell_encI _ _ _ hn0]
        have e2 : (L[i]).nums.getD 0 0 = (L[i]).nums[0] := by rw [List.getD_eq_getElem?_getD, List.getElem?_eq_getElem hn0]; rfl
        rw [setCell_encR _ _ _ (bumpR L[i]) _ hiL (by simp only [bumpR, e2]; rfl), hget]
      rw [key]
      refine kDone (kH (kBk (kReg (kMovC rfl (kAdd rfl rfl (by omega) (kMovC rfl (kDone ?_)))))))
      refine kInv ⟨⟨i + 1, by omega⟩, by simp only; omega, ?_⟩
      simp only [hst]
      exact .normA
    · have hst2 : (z.rrs.take (i + 1)).map bump1 ++ z.rrs.drop (i + 1) = (z.rrs.take i).map bump1 ++ z.rrs.drop i := by
        rw [hst, show bump1 z.rrs[i] = z.rrs[i] by simp [bump1, p]]
        have := set_self ((z.rrs.take i).map bump1 ++ z.rrs.drop i) i (by omega)
        rw [hget] at this
        exact this
      clear hst
      clear hget
      revert hget2 hst2 hlen
      generalize (z.rrs.take i).map bump1 ++ z.rrs.drop i = L
      intro hlen hget2 hst2
      have hiL : i < L.length := by omega
      have hget : L[i] = z.rrs[i] := by rw [List.getElem?_eq_getElem hiL] at hget2; simpa using hget2
      have hty : (L[i]).ty ≠ 6 := by rw [hget]; exact p
      refine kSeq (kSeq (kReg (kMovC rfl (kFadP rfl rfl (kLoadP rfl rfl rfl (kLenR rfl rfl (kBin rfl rfl rfl (kDone (kCondP rfl (fun g0 => kSkip (kSeq (kBlock (kSeq (kReg (kFadP rfl rfl (kLoadP rfl rfl rfl (kMovC rfl (kIadAR rfl rfl rfl rfl (by omega) (kFadE rfl rfl (kLoadER rfl rfl (by omega) rfl (kBin rfl rfl rfl (kDone (kCondP rfl (fun g1 => (by omega)) (fun g1 => kSkip (kBk (kReg (kMovC rfl (kAdd rfl rfl (by omega) (kMovC rfl (kDone ?_))))))))))))))))))))) (fun g0 => (by omega)))))))))))
      refine kInv ⟨⟨i + 1, by omega⟩, by simp only; omega, ?_⟩
      simp only [hst2]
      exact .normA
  · have he : (z.rrs.take i).map bump1 ++ z.rrs.drop i = z.rrs.map bump1 := by rw [show i = z.rrs.length by omega, List.take_length, List.drop_length, List.append_nil]
    rw [he]
    have hm : (z.rrs.map bump1).length = z.rrs.length := by simp
    refine kSeq (kSeq (kReg (kMovC rfl (kFadP rfl rfl (kLoadP rfl rfl rfl (kLenR rfl rfl (kBin rfl rfl rfl (kDone (kCondP rfl (fun g0 => (by omega)) (fun g0 => kExit (kExC (kExI (kExB (kSeq (kReg (kLoadP rfl rfl rfl (kMem [(12288, ⟨1, 0, .box [.nil 1, .nil 7]⟩), (28672, ⟨1, 0, .arr true _⟩), (28673, ⟨1, 0, .arr true _⟩)] [(2, .c (.ptr 12288 1 0)), (38, .g [.arr 28672 1, .arr 28673 1])] [] ⟨rfl, rfl, rfl, trivial⟩ ⟨rfl, rfl, trivial⟩ rfl (kStoreP rfl rfl rfl rfl (kDone (kMem [(12288, ⟨1, 0, .box [.arr 28672 1, .arr 28673 1]⟩), (28672, ⟨1, 0, .arr true _⟩), (28673, ⟨1, 0, .arr true _⟩)] [(2, .c (.ptr 12288 1 0))] [] ⟨rfl, rfl, rfl, trivial⟩ ⟨rfl, trivial⟩ rfl (kRet (endRetA (ra := [.agg [(.own true _), (.own true _)]]) rfl rfl))))))))))))))))))))))

def c_spec_Bump : C := (.seq (.reg false (.op 0 [] (some 1) none false (.box 1 (.t 0))
  (.op 1 [] (some 2) none false (.alloc 2 [(.n 1), (.n 7)])
  (.op 2 [] (some 3) none false (.mov (.v (.bool false)))
  .done))))
 (.seq (.seq (.reg false (.op 0 [] (some 4) none false (.load (some 2) (.t 1))
  (.op 1 [] (some 5) none false (.call 5 49 [(.t 4)])
  (.op 2 [] (some 6) none false (.un .not (.t 5))
  .done))))
 (.cond (.t 6)
 (.seq (.reg false (.op 0 [] (some 7) none false (.build [(.n 1), (.n 7)] [])
  (.op 1 [] none none false (.store (some 2) (.t 2) (.t 7))
  (.op 2 [] (some 3) none false (.mov (.v (.bool false)))
  .done))))
 .ret)
 .skip))
 (.seq (.reg false (.op 0 [] (some 8) none false (.load (some 2) (.t 1))
  (.op 1 [] (some 9) none false (.call 9 61 [(.t 8)])
  (.op 2 [] none none false (.store (some 2) (.t 2) (.t 9))
  (.op 3 [] (some 3) none false (.mov (.v (.bool true)))
  .done)))))
 .ret)))
theorem dg_spec_Bump : Tryz.f19.body.bind (digC Tryz.prog Tryz.f19.ntmps []) = some c_spec_Bump := by kernel_rfl
theorem rs_spec_Bump : resSlots Tryz.prog Tryz.f19 = some [.m 2 (some 2), .s 3] := by kernel_rfl
theorem ok_spec_Bump (z : Zone) (hs : SmallZ z) :
    FnOK Tryz.prog 19 [.agg (z.cells.map .d)] (fun ra _ => ra = [.agg [.own true (encBB (bumpN z).origin), .own true (encR (bumpN z).rrs)], .one (.d (.sc (.bool (zoneOk z))))]) := by
  refine FnOK.ofK Tryz.func19 (by kernel_rfl) dg_spec_Bump rs_spec_Bump rfl rfl ?_
  unfold c_spec_Bump
  cases h : zoneOk z
  · rw [show bumpN z = zeroZ by unfold bumpN; rw [h]; rfl]
    refine kSeq (kReg (kBox rfl rfl rfl rfl rfl (kAlloc rfl rfl (kMovC rfl (kDone (kSeq (kSeq (kReg (kLoadP rfl rfl rfl (kCallD (ok_spec_ZoneOk _ (by first | assumption | omega | solve_by_elim [List.getElem_mem] | (simp only [szOut] at *; omega))) ⟨⟨⟨rfl, rfl, trivial⟩, Nat.le_of_ble_eq_true rfl⟩, trivial⟩ rfl rfl rfl rfl rfl (kUn rfl rfl (kDone (kCondN rfl (fun g0 => kSeq (kReg (kMem [(12288, ⟨1, 0, .box [.nil 1, .nil 7]⟩)] [(2, .c (.ptr 12288 1 0)), (7, .c (.un))] [] ⟨rfl, trivial⟩ ⟨rfl, rfl, trivial⟩ rfl (kBuildG rfl (kMem [(12288, ⟨1, 0, .box [.nil 1, .nil 7]⟩)] [(2, .c (.ptr 12288 1 0)), (7, .g [.nil 1, .nil 7])] [] ⟨rfl, trivial⟩ ⟨rfl, rfl, trivial⟩ rfl (kStoreP rfl rfl rfl rfl (kMovC rfl (kDone (kMem [(12288, ⟨1, 0, .box [.nil 1, .nil 7]⟩)] [(2, .c (.ptr 12288 1 0)), (3, .c (.d _))] [] ⟨rfl, trivial⟩ ⟨rfl, rfl, trivial⟩ rfl (kRet (endRetA (ra := [.agg [(.own true _), (.own true _)], .one (.d _)]) rfl rfl))))))))))) (fun g0 => (by (simp [*] at g0))))))))))))))))
  · rw [show bumpN z = bumpZ z by unfold bumpN; rw [h]; rfl]
    have ho : (bumpZ z).origin = z.origin := rfl
    rw [ho]
    refine kSeq (kReg (kBox rfl rfl rfl rfl rfl (kAlloc rfl rfl (kMovC rfl (kDone (kSeq (kSeq (kReg (kLoadP rfl rfl rfl (kCallD (ok_spec_ZoneOk _ (by first | assumption | omega | solve_by_elim [List.getElem_mem] | (simp only [szOut] at *; omega))) ⟨⟨⟨rfl, rfl, trivial⟩, Nat.le_of_ble_eq_true rfl⟩, trivial⟩ rfl rfl rfl rfl rfl (kUn rfl rfl (kDone (kCondN rfl (fun g0 => (by (simp [*] at g0))) (fun g0 => kSkip (kSeq (kReg (kLoadP rfl rfl rfl (kCall1 true (ok_spec_l5bump _ (by first | assumption | omega | solve_by_elim [List.getElem_mem] | (simp only [szOut] at *; omega)) (by first | assumption | omega | solve_by_elim [List.getElem_mem] | (simp only [szOut] at *; omega))) ⟨⟨⟨rfl, rfl, trivial⟩, Nat.le_of_ble_eq_true rfl⟩, trivial⟩ rfl rfl rfl (fun _ => (kMem [(12288, ⟨1, 0, .box [.nil 1, .nil 7]⟩), (40960, ⟨1, 0, .arr true _⟩), (40961, ⟨1, 0, .arr true _⟩)] [(2, .c (.ptr 12288 1 0)), (9, .g [.arr 40960 1, .arr 40961 1])] [] ⟨rfl, rfl, rfl, trivial⟩ ⟨rfl, rfl, trivial⟩ rfl (kStoreP rfl rfl rfl rfl (kMovC rfl (kDone (kMem [(12288, ⟨1, 0, .box [.arr 40960 1, .arr 40961 1]⟩), (40960, ⟨1, 0, .arr true _⟩), (40961, ⟨1, 0, .arr true _⟩)] [(2, .c (.ptr 12288 1 0)), (3, .c (.d _))] [] ⟨rfl, rfl, rfl, trivial⟩ ⟨rfl, rfl, trivial⟩ rfl (kRet (endRetA (ra := [.agg [(.own true _), (.own true _)], .one (.d _)]) rfl rfl))))))))))))))))))))))))))

def c_laws_toByteS : C := (.seq (.reg false (.op 0 [] (some 2) none false (.mov (.n 1))
  .done))
 (.seq (.reg false (.op 0 [] (some 5) none false (.mov (.t 0))
  (.op 1 [] (some 6) none false (.len (.t 5))
  (.op 2 [] (some 7) none false (.mk 7 1 [(.v (.int .u8 0))] 1 (.t 6))
  (.op 3 [] (some 3) none false (.mov (.t 7))
  .done)))))
 (.seq (.seq (.reg false (.op 0 [] (some 4) none false (.mov (.v (.int .i64 0)))
  .done))
 (.block 0 (.loop (.seq (.seq (.reg false (.op 0 [] (some 8) none false (.mov (.t 4))
  (.op 1 [] (some 9) none false (.mov (.t 0))
  (.op 2 [] (some 10) none false (.len (.t 9))
  (.op 3 [] (some 11) none false (.bin .lss (.t 8) (.t 10))
  .done)))))
 (.cond (.t 11)
 .skip
 (.exit 0)))
 (.seq (.block 1 (.reg false (.op 0 [] (some 14) none false (.mov (.t 3))
  (.op 1 [] (some 15) none false (.mov (.t 4))
  (.op 2 [] (some 16) none false (.mov (.t 0))
  (.op 3 [] (some 17) none false (.mov (.t 4))
  (.op 4 [] (some 18) none false (.iad 1 (.t 16) (.t 17))
  (.op 5 [] (some 19) none false (.load none (.t 18))
  (.op 6 [] (some 20) none false (.iad 1 (.t 14) (.t 15))
  (.op 7 [] none none false (.store none (.t 20) (.t 19))
  .done))))))))))
 (.reg false (.op 0 [] (some 12) none false (.mov (.t 4))
  (.op 1 [] (some 13) none false (.bin .add (.t 12) (.v (.int .i64 1)))
  (.op 2 [] (some 4) none false (.mov (.t 13))
  .done)))))))))
 (.seq (.reg false (.op 0 [] (some 21) none false (.mov (.t 3))
  (.op 1 [] (some 2) none false (.mov (.t 21))
  .done)))
 .ret))))
theorem dg_laws_toByteS : Tryz.f91.body.bind (digC Tryz.prog Tryz.f91.ntmps []) = some c_laws_toByteS := by kernel_rfl
theorem rs_laws_toByteS : resSlots Tryz.prog Tryz.f91 = some [.s 2] := by kernel_rfl
theorem ok_laws_toByteS (a : List UInt8) (ha : a.length ≤ 4194304) :
    FnOK Tryz.prog 91 [.one (.d (encB a))] (fun ra _ => ra = [.one (.own true (encB a))]) := by
  refine FnOK.ofK Tryz.func91 (by kernel_rfl) dg_laws_toByteS rs_laws_toByteS rfl rfl ?_
  unfold c_laws_toByteS
  refine kSeq (kReg (kMovC rfl (kDone ?_)))
  refine kSeq (kReg (kMovC rfl (kLen rfl rfl rfl ?_)))
  rw [len_encB]
  refine kMk rfl (by omega) rfl rfl rfl rfl rfl (kMovC rfl (kDone ?_))
  rw [show (Int.toNat (a.length : Int)) = a.length from rfl, encB_zeros]
  refine kSeq (kSeq (kReg (kMovC rfl (kDone (kBlock ?_)))))
  refine kLoop (α := { i : Nat // i ≤ a.length })
    (fun y => ⟨tabSl [(0, .dv (encB a)), (3, .c (.arr (rid 7 0) 1)), (4, .i y.1)], upd (St.init [.one (.d (encB a))]).ob (rid 7 0) ⟨1, y.1, .arr true (encB (a.take y.1 ++ (List.replicate a.length 0).drop y.1))⟩, []⟩) (fun y => a.length - y.1) ⟨0, by simp⟩
    (.tab rfl ⟨.refl _, .refl _, .refl _, trivial⟩) ?_
  rintro ⟨i, hi⟩
  simp only
  refine kSeq (kSeq (kReg ?_))
  refine kMovC rfl (kMovC rfl (kLen rfl rfl rfl (kBin rfl rfl rfl (kDone ?_))))
  rw [len_encB]
  have hl1 : (a.take i).length = i := by simp; omega
  refine kCond rfl (fun h1 => ?_) (fun h1 => ?_)
  · have hlt : i < a.length := by simp at h1; omega
    refine kSkip (kSeq (kBlock (kReg ?_)))
    refine kMovC rfl (kMovC rfl (kMovC rfl (kMovC rfl (kIadD rfl rfl rfl rfl ?_ ?_))))
    · rw [len_encB]; omega
    rw [row_encB' a i hlt]
    refine kLoadD rfl rfl (kIadA rfl rfl rfl rfl ?_ ?_)
    · rw [len_encB]; simp; omega
    refine kStoreE1 rfl rfl rfl rfl (by simp [encB, DV.esz]) (kDone (kBk ?_))
    rw [setRow_encB' _ _ _ (by simp; omega)]
    refine kReg (kMovC rfl (kAdd rfl rfl ?_ (kMovC rfl (kDone (kInv ?_)))))
    · omega
    refine ⟨⟨i + 1, hlt⟩, by simp only; omega, .tab ?_ ⟨.refl _, .refl _, .refl _, trivial⟩⟩
    refine Eq.trans ?_ (upd_upd _ _ _ _).symm
    refine congrArg (upd _ _) ?_
    show _ = Ob.mk _ _ (OK.arr _ (encB ((a.take i ++ (List.replicate a.length 0).drop i).set i a[i])))
    rw [take_set_succ _ _ _ _ (by simpa using hlt) hl1, List.take_append_getElem]
    rfl
  · refine kExit (kExC (kExI (kExB ?_)))
    have hge : i = a.length := by simp at h1; omega
    subst hge
    refine kSeq (kReg (kMovC rfl (kMovC rfl (kDone (kRet ?_)))))
    refine endRet (ra := [.one (.own true _)]) rfl ⟨⟨⟨⟨_, rfl, fun _ => rfl⟩, .inl Nat.zero_lt_one⟩, trivial⟩, nodupB_sound rfl, trivial, trivial⟩ ?_
    simp

def c_laws_toByteSS : C := (.seq (.reg false (.op 0 [] (some 2) none false (.mov (.n 1))
  .done))
 (.seq (.reg false (.op 0 [] (some 5) none false (.mov (.t 0))
  (.op 1 [] (some 6) none false (.len (.t 5))
  (.op 2 [] (some 7) none false (.mk 7 1 [(.n 1)] 24 (.t 6))
  (.op 3 [] (some 3) none false (.mov (.t 7))
  .done)))))
 (.seq (.seq (.reg false (.op 0 [] (some 4) none false (.mov (.v (.int .i64 0)))
  .done))
 (.block 0 (.loop (.seq (.seq (.reg false (.op 0 [] (some 8) none false (.mov (.t 4))
  (.op 1 [] (some 9) none false (.mov (.t 0))
  (.op 2 [] (some 10) none false (.len (.t 9))
  (.op 3 [] (some 11) none false (.bin .lss (.t 8) (.t 10))
  .done)))))
 (.cond (.t 11)
 .skip
 (.exit 0)))
 (.seq (.block 1 (.reg false (.op 0 [] (some 14) none false (.mov (.t 3))
  (.op 1 [] (some 15) none false (.mov (.t 4))
  (.op 2 [] (some 16) none false (.mov (.t 0))
  (.op 3 [] (some 17) none false (.mov (.t 4))
  (.op 4 [] (some 18) none false (.iad 1 (.t 16) (.t 17))
  (.op 5 [] (some 19) none false (.load none (.t 18))
  (.op 6 [] (some 20) none false (.call 20 91 [(.t 19)])
  (.op 7 [] (some 21) none false (.iad 1 (.t 14) (.t 15))
  (.op 8 [] none none false (.store none (.t 21) (.t 20))
  .done)))))))))))
 (.reg false (.op 0 [] (some 12) none false (.mov (.t 4))
  (.op 1 [] (some 13) none false (.bin .add (.t 12) (.v (.int .i64 1)))
  (.op 2 [] (some 4) none false (.mov (.t 13))
  .done)))))))))
 (.seq (.reg false (.op 0 [] (some 22) none false (.mov (.t 3))
  (.op 1 [] (some 2) none false (.mov (.t 22))
  .done)))
 .ret))))
theorem dg_laws_toByteSS : Tryz.f83.body.bind (digC Tryz.prog Tryz.f83.ntmps []) = some c_laws_toByteSS := by kernel_rfl
theorem rs_laws_toByteSS : resSlots Tryz.prog Tryz.f83 = some [.s 2] := by kernel_rfl
theorem ok_laws_toByteSS (a : List (List UInt8)) (ha : a.length ≤ 4194304) (hb : ∀ b ∈ a, b.length ≤ 4194304) :
    FnOK Tryz.prog 83 [.one (.d (encBB a))] (fun ra _ => ra = [.one (.own true (encBB a))]) := by
  refine FnOK.ofK Tryz.func83 (by kernel_rfl) dg_laws_toByteSS rs_laws_toByteSS rfl rfl ?_
  unfold c_laws_toByteSS
  refine kSeq (kReg (kMovC rfl (kDone ?_)))
  refine kSeq (kReg (kMovC rfl (kLen rfl rfl rfl ?_)))
  rw [len_encBB]
  refine kMk rfl (by omega) rfl rfl rfl rfl rfl (kMovC rfl (kDone ?_))
  rw [show (Int.toNat (a.length : Int)) = a.length from rfl, encBB_zeros]
  refine kSeq (kSeq (kReg (kMovC rfl (kDone (kBlock ?_)))))
  refine kLoop (α := { p : Nat × Nat // p.1 ≤ a.length ∧ 1 ≤ p.2 })
    (fun y => ⟨tabSl [(0, .dv (encBB a)), (3, .c (.arr (rid 7 0) 1)), (4, .i y.1.1)], obTab y.1.2 [(rid 7 0, ⟨1, y.1.1, .arr true (encBB (a.take y.1.1 ++ (List.replicate a.length []).drop y.1.1))⟩)], []⟩) (fun y => a.length - y.1.1) ⟨(0, 2), by simp⟩
    (.canon (V := 1) (.set (VB.mono (.init _) (by omega)) (by simp)) (by simp) rfl ⟨.refl _, .refl _, .refl _, trivial⟩ ⟨rfl, trivial⟩) ?_
  rintro ⟨⟨i, V⟩, hi, hV⟩
  simp only at hi hV ⊢
  refine kSeq (kSeq (kReg ?_))
  refine kMovC rfl (kMovC rfl (kLen rfl rfl rfl (kBin rfl rfl rfl (kDone ?_))))
  rw [len_encBB]
  have hl1 : (a.take i).length = i := by simp; omega
  refine kCond rfl (fun h1 => ?_) (fun h1 => ?_)
  · have hlt : i < a.length := by simp at h1; omega
    refine kSkip (kSeq (kBlock (kReg ?_)))
    refine kMovC rfl (kMovC rfl (kMovC rfl (kMovC rfl (kIadD rfl rfl rfl rfl ?_ ?_))))
    · rw [len_encBB]; omega
    rw [show (encBB a).row (i : Int).toNat = [encB a[i]] from row_encBB a i hlt]
    refine kLoadD rfl rfl ?_
    refine kCall1 false (ok_laws_toByteS a[i] (hb _ (List.getElem_mem hlt))) ⟨rfl, trivial⟩ rfl rfl rfl fun os => ?_
    refine kIadA rfl rfl rfl rfl ?_ ?_
    · rw [len_encBB]; simp; omega
    refine kStoreEA rfl rfl rfl rfl rfl Nat.zero_lt_one (by simp [encBB, DV.esz]) (kDone (kBk ?_))
    rw [setRow_encBB _ _ _ (by simp; omega)]
    refine kReg (kMovC rfl (kAdd rfl rfl (by omega) (kMovC rfl (kDone (kInv ?_)))))
    refine ⟨⟨(i + 1, V + 3), hlt, by simp only; omega⟩, by simp only; omega, .canon (V := V + 2) (.set (.kill (.after (.tab ?_))) ?_) (by simp) rfl ⟨.refl _, .refl _, .refl _, trivial⟩ ⟨?_, trivial⟩⟩
    · simpa using hV
    · simp only; omega
    · show Ob.mk _ _ (OK.arr _ (encBB ((a.take i ++ (List.replicate a.length []).drop i).set i a[i]))) = _
      rw [take_set_succ _ _ _ _ (by simpa using hlt) hl1, List.take_append_getElem]
      rfl
  · refine kExit (kExC (kExI (kExB ?_)))
    have hge : i = a.length := by simp at h1; omega
    subst hge
    refine kSeq (kReg (kMovC rfl (kMovC rfl (kDone (kRet ?_)))))
    refine endRet (ra := [.one (.own true _)]) rfl ⟨⟨⟨⟨_, rfl, fun _ => rfl⟩, .inl Nat.zero_lt_one⟩, trivial⟩, nodupB_sound rfl, trivial, trivial⟩ ?_
    simp

def c_laws_toName : C := (.seq (.reg false (.op 0 [] (some 1) none false (.box 1 (.t 0))
  (.op 1 [] (some 2) none false (.alloc 2 [(.n 1)])
  .done)))
 (.seq (.reg false (.op 0 [] (some 3) none false (.alloc 3 [(.n 1)])
  .done))
 (.seq (.reg false (.op 0 [] (some 4) none false (.fad (.t 1) 0)
  (.op 1 [] (some 5) none false (.load none (.t 4))
  (.op 2 [] (some 6) none false (.call 6 83 [(.t 5)])
  (.op 3 [] (some 7) none false (.fad (.t 3) 0)
  (.op 4 [] none none false (.store none (.t 7) (.t 6))
  .done))))))
 (.seq (.reg false (.op 0 [] (some 8) none false (.load (some 1) (.t 3))
  (.op 1 [] none none false (.store (some 1) (.t 2) (.t 8))
  .done)))
 .ret))))
theorem dg_laws_toName : Tryz.f31.body.bind (digC Tryz.prog Tryz.f31.ntmps []) = some c_laws_toName := by kernel_rfl
theorem rs_laws_toName : resSlots Tryz.prog Tryz.f31 = some [.m 2 (some 1)] := by kernel_rfl
theorem ok_laws_toName (a : List (List UInt8)) (ha : a.length ≤ 4194304) (hb : ∀ b ∈ a, b.length ≤ 4194304) :
    FnOK Tryz.prog 31 [.agg [.d (encBB a)]] (fun ra _ => ra = [.agg [.own true (encBB a)]]) := by
  refine FnOK.ofK Tryz.func31 (by kernel_rfl) dg_laws_toName rs_laws_toName rfl rfl ?_
  unfold c_laws_toName
  refine kSeq (kReg (kBox rfl rfl rfl rfl rfl (kAlloc rfl rfl (kDone ?_))))
  refine kSeq (kReg (kAlloc rfl rfl (kDone ?_)))
  refine kSeq (kReg (kFadP rfl rfl (kLoadP rfl rfl rfl ?_)))
  refine kCall1 false (ok_laws_toByteSS a ha hb) ⟨rfl, trivial⟩ rfl rfl rfl fun os => ?_
  refine kFadP rfl rfl (kStoreP rfl rfl rfl rfl (kDone ?_))
  refine kSeq (kReg (kLoadP rfl rfl rfl (kStoreP rfl rfl rfl rfl (kDone (kRet ?_)))))
  refine endRet (ra := [.agg [.own true _]]) rfl ⟨⟨⟨⟨⟨⟨_, rfl, fun _ => rfl⟩, .inl Nat.zero_lt_one⟩, trivial⟩, Nat.le_of_ble_eq_true rfl⟩, trivial⟩, nodupB_sound rfl, ⟨trivial, trivial⟩, trivial⟩ rfl

end Go.Proofs.YtmecljfkakjmbaaGreat.FnExactBumpFn
