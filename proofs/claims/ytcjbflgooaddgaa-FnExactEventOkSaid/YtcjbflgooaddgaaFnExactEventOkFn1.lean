/- What the functions that FnExactEventOk reaches compute, one contract each; each with the bounds that it states. -/
import Derived.Test.YtcjbflgooaddgaaHearth3
import Derived.Test.YtcjbflgooaddgaaProg
import Derived.KernelRfl
set_option maxRecDepth 100000
set_option maxHeartbeats 8000000
set_option linter.unusedVariables false
set_option linter.unusedSimpArgs false
namespace Go.Proofs.Ytcjbflgooaddgaa.FnExactEventOkFn
open Go Hearth Go.Proofs

def c_laws_szByteS : C := (.seq (.reg false (.op 0 [] (some 4) none false (.mov (.v (.int .i64 0)))
  .done))
 (.seq (.reg false (.op 0 [] (some 5) none false (.mov (.t 1))
  (.op 1 [] (some 6) none false (.mov (.t 0))
  (.op 2 [] (some 7) none false (.len (.t 6))
  (.op 3 [] (some 8) none false (.bin .sub (.t 5) (.t 7))
  (.op 4 [] (some 1) none false (.mov (.t 8))
  .done))))))
 (.seq (.seq (.reg false (.op 0 [] (some 9) none false (.mov (.t 1))
  (.op 1 [] (some 10) none false (.bin .lss (.t 9) (.v (.int .i64 0)))
  .done)))
 (.cond (.t 10)
 (.seq (.reg false (.op 0 [] (some 4) none false (.mov (.v (.int .i64 (-1))))
  .done))
 .ret)
 .skip))
 (.seq (.reg false (.op 0 [] (some 11) none false (.mov (.t 1))
  (.op 1 [] (some 4) none false (.mov (.t 11))
  .done)))
 .ret))))
theorem dg_laws_szByteS : Try.f89.body.bind (digC Try.prog Try.f89.ntmps []) = some c_laws_szByteS := by kernel_rfl
theorem rs_laws_szByteS : resSlots Try.prog Try.f89 = some [.s 4] := by kernel_rfl
theorem ok_laws_szByteS (b : List UInt8) (n : Int) (hb : (b.length : Int) ≤ 9223372036854775807) (h0 : 0 ≤ n) (h1 : n ≤ 4194304) :
    FnOK Try.prog 89 [.one (.d (encB b)), .one (.d (.sc (.int .i64 n)))] (fun ra _ => ra = [.one (.d (.sc (.int .i64 (szOut n b.length))))]) := by
  refine FnOK.ofK Try.func89 (by kernel_rfl) dg_laws_szByteS rs_laws_szByteS rfl rfl ?_
  unfold c_laws_szByteS
  refine kSeq (kReg (kMovC rfl (kDone ?_)))
  refine kSeq (kReg ?_)
  refine kMovC rfl (kMovC rfl (kLen rfl rfl rfl ?_))
  refine kDif rfl rfl ?_ ?_
  · simp [encB, DV.len] at *; omega
  refine kMovC rfl (kDone ?_)
  refine kSeq (kSeq (kReg (kMovC rfl (kBin rfl rfl rfl (kDone ?_)))))
  refine kCond rfl (fun h => ?_) (fun h => ?_)
  · refine kSeq (kReg (kMovC rfl (kDone (kRet ⟨nofun, ?_⟩))))
    refine ⟨[.one (.d _)], _, ?_, rfl, ⟨⟨⟨rfl, .inl rfl⟩, trivial⟩, .nil, trivial, trivial, trivial⟩⟩
    unfold szOut
    simp [encB, DV.len] at h ⊢
    omega
  · refine kSkip (kSeq (kReg (kMovC rfl (kMovC rfl (kDone (kRet ⟨nofun, ?_⟩))))))
    refine ⟨[.one (.d _)], _, ?_, rfl, ⟨⟨⟨rfl, .inl rfl⟩, trivial⟩, .nil, trivial, trivial, trivial⟩⟩
    unfold szOut
    simp [encB, DV.len] at h ⊢
    omega

def c_laws_szBoolS : C := (.seq (.reg false (.op 0 [] (some 4) none false (.mov (.v (.int .i64 0)))
  .done))
 (.seq (.reg false (.op 0 [] (some 5) none false (.mov (.t 1))
  (.op 1 [] (some 6) none false (.mov (.t 0))
  (.op 2 [] (some 7) none false (.len (.t 6))
  (.op 3 [] (some 8) none false (.bin .sub (.t 5) (.t 7))
  (.op 4 [] (some 1) none false (.mov (.t 8))
  .done))))))
 (.seq (.seq (.reg false (.op 0 [] (some 9) none false (.mov (.t 1))
  (.op 1 [] (some 10) none false (.bin .lss (.t 9) (.v (.int .i64 0)))
  .done)))
 (.cond (.t 10)
 (.seq (.reg false (.op 0 [] (some 4) none false (.mov (.v (.int .i64 (-1))))
  .done))
 .ret)
 .skip))
 (.seq (.reg false (.op 0 [] (some 11) none false (.mov (.t 1))
  (.op 1 [] (some 4) none false (.mov (.t 11))
  .done)))
 .ret))))
theorem dg_laws_szBoolS : Try.f90.body.bind (digC Try.prog Try.f90.ntmps []) = some c_laws_szBoolS := by kernel_rfl
theorem rs_laws_szBoolS : resSlots Try.prog Try.f90 = some [.s 4] := by kernel_rfl
theorem ok_laws_szBoolS (l : List Bool) (n : Int) (hb : (l.length : Int) ≤ 9223372036854775807) (h0 : 0 ≤ n) (h1 : n ≤ 4194304) :
    FnOK Try.prog 90 [.one (.d (encBo l)), .one (.d (.sc (.int .i64 n)))] (fun ra _ => ra = [.one (.d (.sc (.int .i64 (szOut n l.length))))]) := by
  refine FnOK.ofK Try.func90 (by kernel_rfl) dg_laws_szBoolS rs_laws_szBoolS rfl rfl ?_
  unfold c_laws_szBoolS
  refine kSeq (kReg (kMovC rfl (kDone (kSeq (kReg (kMovC rfl (kMovC rfl (kLenR rfl rfl (kDif rfl rfl (by omega) (kMovC rfl (kDone (kSeq (kSeq (kReg (kMovC rfl (kBin rfl rfl rfl (kDone (kCondP rfl (fun g0 => kSeq (kReg (kMovC rfl (kDone (kRet (endRetA (ra := [.one (.d _)]) rfl ?_)))))) (fun g0 => kSkip (kSeq (kReg (kMovC rfl (kMovC rfl (kDone (kRet (endRetA (ra := [.one (.d _)]) rfl ?_))))))))))))))))))))))))))
  · rw [szOut, if_pos (by omega)]
  · rw [szOut, if_neg (by omega)]

def c_laws_szEvent : C := (.seq (.reg false (.op 0 [] (some 2) none false (.box 2 (.t 0))
  (.op 1 [] (some 4) none false (.mov (.v (.int .i64 0)))
  .done)))
 (.seq (.reg false (.op 0 [] (some 5) none false (.fad (.t 2) 1)
  (.op 1 [] (some 6) none false (.load none (.t 5))
  (.op 2 [] (some 7) none false (.mov (.t 1))
  (.op 3 [] (some 8) none false (.call 8 89 [(.t 6), (.t 7)])
  (.op 4 [] (some 1) none false (.mov (.t 8))
  .done))))))
 (.seq (.seq (.reg false (.op 0 [] (some 9) none false (.mov (.t 1))
  (.op 1 [] (some 10) none false (.bin .lss (.t 9) (.v (.int .i64 0)))
  .done)))
 (.cond (.t 10)
 (.seq (.reg false (.op 0 [] (some 4) none false (.mov (.v (.int .i64 (-1))))
  .done))
 .ret)
 .skip))
 (.seq (.reg false (.op 0 [] (some 11) none false (.fad (.t 2) 3)
  (.op 1 [] (some 12) none false (.load none (.t 11))
  (.op 2 [] (some 13) none false (.mov (.t 1))
  (.op 3 [] (some 14) none false (.call 14 89 [(.t 12), (.t 13)])
  (.op 4 [] (some 1) none false (.mov (.t 14))
  .done))))))
 (.seq (.seq (.reg false (.op 0 [] (some 15) none false (.mov (.t 1))
  (.op 1 [] (some 16) none false (.bin .lss (.t 15) (.v (.int .i64 0)))
  .done)))
 (.cond (.t 16)
 (.seq (.reg false (.op 0 [] (some 4) none false (.mov (.v (.int .i64 (-1))))
  .done))
 .ret)
 .skip))
 (.seq (.reg false (.op 0 [] (some 17) none false (.fad (.t 2) 4)
  (.op 1 [] (some 18) none false (.load none (.t 17))
  (.op 2 [] (some 19) none false (.mov (.t 1))
  (.op 3 [] (some 20) none false (.call 20 89 [(.t 18), (.t 19)])
  (.op 4 [] (some 1) none false (.mov (.t 20))
  .done))))))
 (.seq (.seq (.reg false (.op 0 [] (some 21) none false (.mov (.t 1))
  (.op 1 [] (some 22) none false (.bin .lss (.t 21) (.v (.int .i64 0)))
  .done)))
 (.cond (.t 22)
 (.seq (.reg false (.op 0 [] (some 4) none false (.mov (.v (.int .i64 (-1))))
  .done))
 .ret)
 .skip))
 (.seq (.reg false (.op 0 [] (some 23) none false (.fad (.t 2) 6)
  (.op 1 [] (some 24) none false (.load none (.t 23))
  (.op 2 [] (some 25) none false (.mov (.t 1))
  (.op 3 [] (some 26) none false (.call 26 90 [(.t 24), (.t 25)])
  (.op 4 [] (some 1) none false (.mov (.t 26))
  .done))))))
 (.seq (.seq (.reg false (.op 0 [] (some 27) none false (.mov (.t 1))
  (.op 1 [] (some 28) none false (.bin .lss (.t 27) (.v (.int .i64 0)))
  .done)))
 (.cond (.t 28)
 (.seq (.reg false (.op 0 [] (some 4) none false (.mov (.v (.int .i64 (-1))))
  .done))
 .ret)
 .skip))
 (.seq (.reg false (.op 0 [] (some 29) none false (.mov (.t 1))
  (.op 1 [] (some 4) none false (.mov (.t 29))
  .done)))
 .ret))))))))))
theorem dg_laws_szEvent : Try.f29.body.bind (digC Try.prog Try.f29.ntmps []) = some c_laws_szEvent := by kernel_rfl
theorem rs_laws_szEvent : resSlots Try.prog Try.f29 = some [.s 4] := by kernel_rfl
theorem ok_laws_szEvent (e : Evt) (n : Int) (hs : BigE e) (h0 : 0 ≤ n) (h1 : n ≤ 4194304) :
    FnOK Try.prog 29 [.agg (e.cells.map .d), .one (.d (.sc (.int .i64 n)))] (fun ra _ => ra = [.one (.d (.sc (.int .i64 (szOut n (costE e)))))]) := by
  refine FnOK.ofK Try.func29 (by kernel_rfl) dg_laws_szEvent rs_laws_szEvent rfl rfl ?_
  unfold c_laws_szEvent
  have b1 := hs.b
  have c1 := hs.c
  have d1 := hs.h
  have l1 := hs.l
  refine kSeq (kReg (kBox rfl rfl rfl rfl rfl (kMovC rfl (kDone (kSeq (kReg (kFadP rfl rfl (kLoadP rfl rfl rfl (kMovC rfl (kCallD (ok_laws_szByteS _ _ (by first | assumption | omega | solve_by_elim [List.getElem_mem] | (simp only [szOut] at *; omega)) (by first | assumption | omega | solve_by_elim [List.getElem_mem] | (simp only [szOut] at *; omega)) (by first | assumption | omega | solve_by_elim [List.getElem_mem] | (simp only [szOut] at *; omega))) ⟨rfl, rfl, trivial⟩ rfl rfl rfl rfl rfl (kMovC rfl (kDone (kSeq (kSeq (kReg (kMovC rfl (kBin rfl rfl rfl (kDone (kCondP rfl (fun g0 => kSeq (kReg (kMovC rfl (kDone (kRet (endRetA (ra := [.one (.d _)]) rfl ?_)))))) (fun g0 => kSkip (kSeq (kReg (kFadP rfl rfl (kMem [(12288, ⟨1, 0, .box [.d _, .d _, .d _, .d _, .d _, .d _, .d _]⟩)] [(11, .c (.ptr 12288 1 3)), (1, .c (.d _)), (12, .c (.un)), (13, .c (.un)), (14, .c (.un))] [] ⟨rfl, trivial⟩ ⟨rfl, rfl, rfl, rfl, rfl, trivial⟩ rfl (kLoadP rfl rfl rfl (kMovC rfl (kCallD (ok_laws_szByteS _ _ (by first | assumption | omega | solve_by_elim [List.getElem_mem] | (simp only [szOut] at *; omega)) (by first | assumption | omega | solve_by_elim [List.getElem_mem] | (simp only [szOut] at *; omega)) (by first | assumption | omega | solve_by_elim [List.getElem_mem] | (simp only [szOut] at *; omega))) ⟨rfl, rfl, trivial⟩ rfl rfl rfl rfl rfl (kMovC rfl (kDone (kSeq (kSeq (kReg (kMovC rfl (kBin rfl rfl rfl (kDone (kCondP rfl (fun g1 => kSeq (kReg (kMovC rfl (kDone (kRet (endRetA (ra := [.one (.d _)]) rfl ?_)))))) (fun g1 => kSkip (kSeq (kReg (kFadP rfl rfl (kLoadP rfl rfl rfl (kMovC rfl (kCallD (ok_laws_szByteS _ _ (by first | assumption | omega | solve_by_elim [List.getElem_mem] | (simp only [szOut] at *; omega)) (by first | assumption | omega | solve_by_elim [List.getElem_mem] | (simp only [szOut] at *; omega)) (by first | assumption | omega | solve_by_elim [List.getElem_mem] | (simp only [szOut] at *; omega))) ⟨rfl, rfl, trivial⟩ rfl rfl rfl rfl rfl (kMovC rfl (kDone (kSeq (kSeq (kReg (kMovC rfl (kBin rfl rfl rfl (kDone (kCondP rfl (fun g2 => kSeq (kReg (kMovC rfl (kDone (kRet (endRetA (ra := [.one (.d _)]) rfl ?_)))))) (fun g2 => kSkip (kSeq (kReg (kMem [(12288, ⟨1, 0, .box [.d _, .d _, .d _, .d _, .d _, .d _, .d _]⟩)] [(2, .c (.ptr 12288 1 0)), (23, .c (.un)), (1, .c (.d _)), (24, .c (.un)), (25, .c (.un)), (26, .c (.un))] [] ⟨rfl, trivial⟩ ⟨rfl, rfl, rfl, rfl, rfl, rfl, trivial⟩ rfl (kFadP rfl rfl (kLoadP rfl rfl rfl (kMovC rfl (kCallD (ok_laws_szBoolS _ _ (by first | assumption | omega | solve_by_elim [List.getElem_mem] | (simp only [szOut] at *; omega)) (by first | assumption | omega | solve_by_elim [List.getElem_mem] | (simp only [szOut] at *; omega)) (by first | assumption | omega | solve_by_elim [List.getElem_mem] | (simp only [szOut] at *; omega))) ⟨rfl, rfl, trivial⟩ rfl rfl rfl rfl rfl (kMovC rfl (kDone (kSeq (kSeq (kReg (kMovC rfl (kBin rfl rfl rfl (kDone (kCondP rfl (fun g3 => kSeq (kReg (kMovC rfl (kDone (kRet (endRetA (ra := [.one (.d _)]) rfl ?_)))))) (fun g3 => kSkip (kSeq (kReg (kMovC rfl (kMovC rfl (kDone (kRet (endRetA (ra := [.one (.d _)]) rfl ?_)))))))))))))))))))))))))))))))))))))))))))))))))))))))))))))))))))))))))))))
  all_goals (refine congrArg (fun z : Int => [RA.one (RV.d (DV.sc (Value.int IntKind.i64 z)))]) ?_; clear hs; simp only [costE, szOut] at *; omega)

def c_spec_l12txn : C := (.seq (.reg false (.op 0 [] (some 1) none false (.box 1 (.t 0))
  (.op 1 [] (some 2) none false (.alloc 2 [(.v (.int .i64 0)), (.v (.int .i64 0)), (.v (.bool false)), (.v (.int .i64 0)), (.v (.bool false)), (.v (.int .i64 0)), (.n 2), (.n 7), (.n 7), (.n 7), (.n 9), (.n 9), (.v (.int .i64 0)), (.n 1), (.n 1), (.v (.int .i64 0))])
  .done)))
 (.seq (.seq (.reg false (.op 0 [] (some 3) none false (.fad (.t 1) 0)
  (.op 1 [] (some 4) none false (.load none (.t 3))
  .done)))
 (.block 0 (.seq (.reg false (.op 0 [] (some 6) none false (.bin .eql (.t 4) (.v (.int .i64 1)))
  (.op 1 [] (some 5) none false (.mov (.t 6))
  .done)))
 (.cond (.t 5)
 (.seq (.reg false (.op 0 [] (some 7) none false (.fad (.t 1) 2)
  (.op 1 [] (some 8) none false (.load none (.t 7))
  (.op 2 [] (some 9) none false (.fad (.t 1) 3)
  (.op 3 [] (some 10) none false (.load none (.t 9))
  (.op 4 [] (some 11) none false (.fad (.t 1) 4)
  (.op 5 [] (some 12) none false (.load none (.t 11))
  (.op 6 [] (some 13) none false (.fad (.t 1) 5)
  (.op 7 [] (some 14) none false (.load none (.t 13))
  (.op 8 [] (some 15) none false (.build [(.v (.int .i64 0)), (.v (.int .i64 0)), (.v (.bool false)), (.v (.int .i64 0)), (.v (.bool false)), (.v (.int .i64 0)), (.n 2), (.n 7), (.n 7), (.n 7), (.n 9), (.n 9), (.v (.int .i64 0)), (.n 1), (.n 1), (.v (.int .i64 0))] [(0, 1, (.v (.int .i64 1))), (12, 1, (.t 8)), (13, 1, (.t 10)), (14, 1, (.t 12)), (15, 1, (.t 14))])
  (.op 9 [] none none false (.store (some 16) (.t 2) (.t 15))
  .done)))))))))))
 .ret)
 (.seq (.reg false (.op 0 [] (some 17) none false (.bin .eql (.t 4) (.v (.int .i64 2)))
  (.op 1 [] (some 16) none false (.mov (.t 17))
  .done)))
 (.cond (.t 16)
 (.seq (.reg false (.op 0 [] (some 18) none false (.fad (.t 1) 2)
  (.op 1 [] (some 19) none false (.load none (.t 18))
  (.op 2 [] (some 20) none false (.fad (.t 1) 3)
  (.op 3 [] (some 21) none false (.load none (.t 20))
  (.op 4 [] (some 22) none false (.build [(.v (.int .i64 0)), (.v (.int .i64 0)), (.v (.bool false)), (.v (.int .i64 0)), (.v (.bool false)), (.v (.int .i64 0)), (.n 2), (.n 7), (.n 7), (.n 7), (.n 9), (.n 9), (.v (.int .i64 0)), (.n 1), (.n 1), (.v (.int .i64 0))] [(0, 1, (.v (.int .i64 2))), (12, 1, (.t 19)), (13, 1, (.t 21))])
  (.op 5 [] none none false (.store (some 16) (.t 2) (.t 22))
  .done)))))))
 .ret)
 .skip))))))
 (.seq (.reg false (.op 0 [] (some 23) none false (.fad (.t 1) 5)
  (.op 1 [] (some 24) none false (.load none (.t 23))
  (.op 2 [] (some 25) none false (.build [(.v (.int .i64 0)), (.v (.int .i64 0)), (.v (.bool false)), (.v (.int .i64 0)), (.v (.bool false)), (.v (.int .i64 0)), (.n 2), (.n 7), (.n 7), (.n 7), (.n 9), (.n 9), (.v (.int .i64 0)), (.n 1), (.n 1), (.v (.int .i64 0))] [(0, 1, (.v (.int .i64 3))), (15, 1, (.t 24))])
  (.op 3 [] none none false (.store (some 16) (.t 2) (.t 25))
  .done)))))
 .ret)))
theorem dg_spec_l12txn : Try.f92.body.bind (digC Try.prog Try.f92.ntmps []) = some c_spec_l12txn := by kernel_rfl
theorem rs_spec_l12txn : resSlots Try.prog Try.f92 = some [.m 2 (some 16)] := by kernel_rfl
theorem ok_spec_l12txn (e : Evt) (hk : 1 ≤ e.kind ∧ e.kind ≤ 3) :
    FnOK Try.prog 92 [.agg (e.cells.map .d)] (fun ra _ => ra = [.agg [.d (.sc (.int .i64 e.kind)), .d (.sc (.int .i64 0)), .d (.sc (.bool false)), .d (.sc (.int .i64 0)), .d (.sc (.bool false)), .d (.sc (.int .i64 0)), .d (.sl 2 []), .d (.sl 7 []), .d (.sl 7 []), .d (.sl 7 []), .d (.sl 9 []), .d (.sl 9 []), .d (.sc (.int .i64 (txIp e))), .d (encB (txClient e)), .d (encB (txHost e)), .d (.sc (.int .i64 (txAt e)))]]) := by
  refine FnOK.ofK Try.func92 (by kernel_rfl) dg_spec_l12txn rs_spec_l12txn rfl rfl ?_
  unfold c_spec_l12txn
  have hcase : e.kind = 1 ∨ e.kind = 2 ∨ e.kind = 3 := by omega
  rcases hcase with h | h | h
  · rw [show txIp e = e.ip by simp [txIp, h], show txClient e = e.client by simp [txClient, h], show txHost e = e.host by simp [txHost, h], show txAt e = e.at_ by simp [txAt, h], h]
    refine kSeq (kReg (kBox rfl rfl rfl rfl rfl (kAlloc rfl rfl (kDone (kSeq (kSeq (kReg (kFadP rfl rfl (kLoadP rfl rfl rfl (kDone (kBlock (kSeq (kReg (kBin rfl rfl rfl (kMovC rfl (kDone (kCondP rfl (fun g0 => kSeq (kReg (kFadP rfl rfl (kLoadP rfl rfl rfl (kMem [(8192, ⟨1, 0, .box [.d _, .d _, .d _, .d _, .d _, .d _, .d _]⟩), (12288, ⟨1, 0, .box [.d _, .d _, .d _, .d _, .d _, .d _, .nil 2, .nil 7, .nil 7, .nil 7, .nil 9, .nil 9, .d _, .nil 1, .nil 1, .d _]⟩)] [(1, .c (.ptr 8192 1 0)), (9, .c (.un)), (11, .c (.un)), (13, .c (.un)), (8, .c (.d _)), (10, .c (.un)), (12, .c (.un)), (14, .c (.un)), (2, .c (.ptr 12288 1 0)), (15, .c (.un))] [] ⟨rfl, rfl, trivial⟩ ⟨rfl, rfl, rfl, rfl, rfl, rfl, rfl, rfl, rfl, rfl, trivial⟩ rfl (kFadP rfl rfl (kLoadP rfl rfl rfl (kFadP rfl rfl (kLoadP rfl rfl rfl (kFadP rfl rfl (kLoadP rfl rfl rfl (kMem [(12288, ⟨1, 0, .box [.d _, .d _, .d _, .d _, .d _, .d _, .nil 2, .nil 7, .nil 7, .nil 7, .nil 9, .nil 9, .d _, .nil 1, .nil 1, .d _]⟩)] [(8, .c (.d _)), (10, .c (.d _)), (12, .c (.d _)), (14, .c (.d _)), (2, .c (.ptr 12288 1 0)), (15, .c (.un))] [] ⟨rfl, trivial⟩ ⟨rfl, rfl, rfl, rfl, rfl, rfl, trivial⟩ rfl (kBuildG rfl (kMem [(12288, ⟨1, 0, .box [.d _, .d _, .d _, .d _, .d _, .d _, .nil 2, .nil 7, .nil 7, .nil 7, .nil 9, .nil 9, .d _, .nil 1, .nil 1, .d _]⟩)] [(2, .c (.ptr 12288 1 0)), (15, .g [.d _, .d _, .d _, .d _, .d _, .d _, .nil 2, .nil 7, .nil 7, .nil 7, .nil 9, .nil 9, .d _, .d _, .d _, .d _])] [] ⟨rfl, trivial⟩ ⟨rfl, rfl, trivial⟩ rfl (kStoreP rfl rfl rfl rfl (kDone (kMem [(12288, ⟨1, 0, .box [.d _, .d _, .d _, .d _, .d _, .d _, .nil 2, .nil 7, .nil 7, .nil 7, .nil 9, .nil 9, .d _, .d _, .d _, .d _]⟩)] [(2, .c (.ptr 12288 1 0))] [] ⟨rfl, trivial⟩ ⟨rfl, trivial⟩ rfl (kRet (endRetA (ra := [.agg [(.d _), (.d _), (.d _), (.d _), (.d _), (.d _), (.d _), (.d _), (.d _), (.d _), (.d _), (.d _), (.d _), (.d _), (.d _), (.d _)]]) rfl rfl))))))))))))))))))) (fun g0 => (by omega)))))))))))))))))))
  · rw [show txIp e = e.ip by simp [txIp, h], show txClient e = e.client by simp [txClient, h], show txHost e = [] by simp [txHost, h], show txAt e = 0 by simp [txAt, h], h]
    refine kSeq (kReg (kBox rfl rfl rfl rfl rfl (kAlloc rfl rfl (kDone (kSeq (kSeq (kReg (kFadP rfl rfl (kLoadP rfl rfl rfl (kDone (kBlock (kSeq (kReg (kBin rfl rfl rfl (kMovC rfl (kDone (kCondP rfl (fun g0 => (by omega)) (fun g0 => kSeq (kReg (kBin rfl rfl rfl (kMovC rfl (kDone (kCondP rfl (fun g1 => kSeq (kReg (kFadP rfl rfl (kMem [(8192, ⟨1, 0, .box [.d _, .d _, .d _, .d _, .d _, .d _, .d _]⟩), (12288, ⟨1, 0, .box [.d _, .d _, .d _, .d _, .d _, .d _, .nil 2, .nil 7, .nil 7, .nil 7, .nil 9, .nil 9, .d _, .nil 1, .nil 1, .d _]⟩)] [(18, .c (.ptr 8192 1 2)), (1, .c (.ptr 8192 1 0)), (20, .c (.un)), (19, .c (.un)), (21, .c (.un)), (2, .c (.ptr 12288 1 0)), (22, .c (.un))] [] ⟨rfl, rfl, trivial⟩ ⟨rfl, rfl, rfl, rfl, rfl, rfl, rfl, trivial⟩ rfl (kLoadP rfl rfl rfl (kFadP rfl rfl (kLoadP rfl rfl rfl (kMem [(12288, ⟨1, 0, .box [.d _, .d _, .d _, .d _, .d _, .d _, .nil 2, .nil 7, .nil 7, .nil 7, .nil 9, .nil 9, .d _, .nil 1, .nil 1, .d _]⟩)] [(19, .c (.d _)), (21, .c (.d _)), (2, .c (.ptr 12288 1 0)), (22, .c (.un))] [] ⟨rfl, trivial⟩ ⟨rfl, rfl, rfl, rfl, trivial⟩ rfl (kBuildG rfl (kMem [(12288, ⟨1, 0, .box [.d _, .d _, .d _, .d _, .d _, .d _, .nil 2, .nil 7, .nil 7, .nil 7, .nil 9, .nil 9, .d _, .nil 1, .nil 1, .d _]⟩)] [(2, .c (.ptr 12288 1 0)), (22, .g [.d _, .d _, .d _, .d _, .d _, .d _, .nil 2, .nil 7, .nil 7, .nil 7, .nil 9, .nil 9, .d _, .d _, .nil 1, .d _])] [] ⟨rfl, trivial⟩ ⟨rfl, rfl, trivial⟩ rfl (kStoreP rfl rfl rfl rfl (kDone (kMem [(12288, ⟨1, 0, .box [.d _, .d _, .d _, .d _, .d _, .d _, .nil 2, .nil 7, .nil 7, .nil 7, .nil 9, .nil 9, .d _, .d _, .nil 1, .d _]⟩)] [(2, .c (.ptr 12288 1 0))] [] ⟨rfl, trivial⟩ ⟨rfl, trivial⟩ rfl (kRet (endRetA (ra := [.agg [(.d _), (.d _), (.d _), (.d _), (.d _), (.d _), (.d _), (.d _), (.d _), (.d _), (.d _), (.d _), (.d _), (.d _), (.d _), (.d _)]]) rfl rfl))))))))))))))) (fun g1 => (by omega)))))))))))))))))))))))))
  · rw [show txIp e = 0 by simp [txIp, h], show txClient e = [] by simp [txClient, h], show txHost e = [] by simp [txHost, h], show txAt e = e.at_ by simp [txAt, h], h]
    refine kSeq (kReg (kBox rfl rfl rfl rfl rfl (kAlloc rfl rfl (kDone (kSeq (kSeq (kReg (kFadP rfl rfl (kLoadP rfl rfl rfl (kDone (kBlock (kSeq (kReg (kBin rfl rfl rfl (kMovC rfl (kDone (kCondP rfl (fun g0 => (by omega)) (fun g0 => kSeq (kReg (kBin rfl rfl rfl (kMovC rfl (kDone (kCondP rfl (fun g1 => (by omega)) (fun g1 => kSkip (kBk (kSeq (kReg (kFadP rfl rfl (kMem [(8192, ⟨1, 0, .box [.d _, .d _, .d _, .d _, .d _, .d _, .d _]⟩), (12288, ⟨1, 0, .box [.d _, .d _, .d _, .d _, .d _, .d _, .nil 2, .nil 7, .nil 7, .nil 7, .nil 9, .nil 9, .d _, .nil 1, .nil 1, .d _]⟩)] [(23, .c (.ptr 8192 1 5)), (24, .c (.un)), (2, .c (.ptr 12288 1 0)), (25, .c (.un))] [] ⟨rfl, rfl, trivial⟩ ⟨rfl, rfl, rfl, rfl, trivial⟩ rfl (kLoadP rfl rfl rfl (kBuildG rfl (kMem [(12288, ⟨1, 0, .box [.d _, .d _, .d _, .d _, .d _, .d _, .nil 2, .nil 7, .nil 7, .nil 7, .nil 9, .nil 9, .d _, .nil 1, .nil 1, .d _]⟩)] [(2, .c (.ptr 12288 1 0)), (25, .g [.d _, .d _, .d _, .d _, .d _, .d _, .nil 2, .nil 7, .nil 7, .nil 7, .nil 9, .nil 9, .d _, .nil 1, .nil 1, .d _])] [] ⟨rfl, trivial⟩ ⟨rfl, rfl, trivial⟩ rfl (kStoreP rfl rfl rfl rfl (kDone (kMem [(12288, ⟨1, 0, .box [.d _, .d _, .d _, .d _, .d _, .d _, .nil 2, .nil 7, .nil 7, .nil 7, .nil 9, .nil 9, .d _, .nil 1, .nil 1, .d _]⟩)] [(2, .c (.ptr 12288 1 0))] [] ⟨rfl, trivial⟩ ⟨rfl, trivial⟩ rfl (kRet (endRetA (ra := [.agg [(.d _), (.d _), (.d _), (.d _), (.d _), (.d _), (.d _), (.d _), (.d _), (.d _), (.d _), (.d _), (.d _), (.d _), (.d _), (.d _)]]) rfl rfl)))))))))))))))))))))))))))))))))))))

def c_spec_l9emptyMsg : C := (.seq (.reg false (.op 0 [] (some 1) none false (.box 1 (.t 0))
  (.op 1 [] (some 2) none false (.mov (.v (.bool false)))
  .done)))
 (.seq (.reg false (.op 0 [] (some 3) none false (.fad (.t 1) 0)
  (.op 1 [] (some 4) none false (.load none (.t 3))
  (.op 2 [] (some 5) none false (.bin .eql (.t 4) (.v (.int .i64 0)))
  (.op 3 [] (some 6) none false (.mov (.t 5))
  (.op 4 [] (some 7) (some (6, true)) false (.fad (.t 1) 1)
  (.op 5 [] (some 8) (some (6, true)) false (.load none (.t 7))
  (.op 6 [] (some 9) (some (6, true)) false (.un .not (.t 8))
  (.op 7 [] (some 10) none false (.pick (.t 6) (.t 9) (.v (.bool false)))
  (.op 8 [] (some 11) none false (.mov (.t 10))
  (.op 9 [] (some 12) (some (11, true)) false (.fad (.t 1) 2)
  (.op 10 [] (some 13) (some (11, true)) false (.load none (.t 12))
  (.op 11 [] (some 14) (some (11, true)) false (.bin .eql (.t 13) (.v (.int .i64 0)))
  (.op 12 [] (some 15) none false (.pick (.t 11) (.t 14) (.v (.bool false)))
  (.op 13 [] (some 16) none false (.mov (.t 15))
  (.op 14 [] (some 17) (some (16, true)) false (.fad (.t 1) 3)
  (.op 15 [] (some 18) (some (16, true)) false (.load none (.t 17))
  (.op 16 [] (some 19) (some (16, true)) false (.un .not (.t 18))
  (.op 17 [] (some 20) none false (.pick (.t 16) (.t 19) (.v (.bool false)))
  (.op 18 [] (some 21) none false (.mov (.t 20))
  (.op 19 [] (some 22) (some (21, true)) false (.fad (.t 1) 4)
  (.op 20 [] (some 23) (some (21, true)) false (.load none (.t 22))
  (.op 21 [] (some 24) (some (21, true)) false (.bin .eql (.t 23) (.v (.int .i64 0)))
  (.op 22 [] (some 25) none false (.pick (.t 21) (.t 24) (.v (.bool false)))
  (.op 23 [] (some 26) none false (.mov (.t 25))
  (.op 24 [] (some 27) (some (26, true)) false (.fad (.t 1) 5)
  (.op 25 [] (some 28) (some (26, true)) false (.load none (.t 27))
  (.op 26 [] (some 29) (some (26, true)) false (.len (.t 28))
  (.op 27 [] (some 30) (some (26, true)) false (.fad (.t 1) 6)
  (.op 28 [] (some 31) (some (26, true)) false (.load none (.t 30))
  (.op 29 [] (some 32) (some (26, true)) false (.len (.t 31))
  (.op 30 [] (some 33) (some (26, true)) false (.bin .add (.t 29) (.t 32))
  (.op 31 [] (some 34) (some (26, true)) false (.fad (.t 1) 7)
  (.op 32 [] (some 35) (some (26, true)) false (.load none (.t 34))
  (.op 33 [] (some 36) (some (26, true)) false (.len (.t 35))
  (.op 34 [] (some 37) (some (26, true)) false (.bin .add (.t 33) (.t 36))
  (.op 35 [] (some 38) (some (26, true)) false (.fad (.t 1) 8)
  (.op 36 [] (some 39) (some (26, true)) false (.load none (.t 38))
  (.op 37 [] (some 40) (some (26, true)) false (.len (.t 39))
  (.op 38 [] (some 41) (some (26, true)) false (.bin .add (.t 37) (.t 40))
  (.op 39 [] (some 42) (some (26, true)) false (.fad (.t 1) 9)
  (.op 40 [] (some 43) (some (26, true)) false (.load none (.t 42))
  (.op 41 [] (some 44) (some (26, true)) false (.len (.t 43))
  (.op 42 [] (some 45) (some (26, true)) false (.bin .add (.t 41) (.t 44))
  (.op 43 [] (some 46) (some (26, true)) false (.fad (.t 1) 10)
  (.op 44 [] (some 47) (some (26, true)) false (.load none (.t 46))
  (.op 45 [] (some 48) (some (26, true)) false (.len (.t 47))
  (.op 46 [] (some 49) (some (26, true)) false (.bin .add (.t 45) (.t 48))
  (.op 47 [] (some 50) (some (26, true)) false (.bin .eql (.t 49) (.v (.int .i64 0)))
  (.op 48 [] (some 51) none false (.pick (.t 26) (.t 50) (.v (.bool false)))
  (.op 49 [] (some 2) none false (.mov (.t 51))
  .done)))))))))))))))))))))))))))))))))))))))))))))))))))
 .ret))
theorem dg_spec_l9emptyMsg : Try.f136.body.bind (digC Try.prog Try.f136.ntmps []) = some c_spec_l9emptyMsg := by kernel_rfl
theorem rs_spec_l9emptyMsg : resSlots Try.prog Try.f136 = some [.s 2] := by kernel_rfl
theorem ok_spec_l9emptyMsg :
    FnOK Try.prog 136 [.agg [.d (.sc (.int .i64 0)), .d (.sc (.bool false)), .d (.sc (.int .i64 0)), .d (.sc (.bool false)), .d (.sc (.int .i64 0)), .d (.sl 2 []), .d (.sl 7 []), .d (.sl 7 []), .d (.sl 7 []), .d (.sl 9 []), .d (.sl 9 [])]] (fun ra _ => ra = [.one (.d (.sc (.bool (true))))]) := by
  refine FnOK.ofK Try.func136 (by kernel_rfl) dg_spec_l9emptyMsg rs_spec_l9emptyMsg rfl rfl ?_
  unfold c_spec_l9emptyMsg
  refine kSeq (kReg (kBox rfl rfl rfl rfl rfl (kMovC rfl (kDone (kSeq (kReg (kFadP rfl rfl (kLoadP rfl rfl rfl (kBin rfl rfl rfl (kMovC rfl (kGT rfl (kFadP rfl rfl (kGT rfl (kLoadP rfl rfl rfl (kGT rfl (kUn rfl rfl (kMem [(8192, ⟨1, 0, .box [.d _, .d _, .d _, .d _, .d _, .d _, .d _, .d _, .d _, .d _, .d _]⟩)] [(6, .c (.d _)), (9, .c (.d _)), (10, .c (.un)), (1, .c (.ptr 8192 1 0)), (12, .c (.un)), (13, .c (.un)), (11, .c (.un)), (14, .c (.un)), (15, .c (.un)), (17, .c (.un)), (18, .c (.un)), (16, .c (.un)), (19, .c (.un)), (20, .c (.un)), (22, .c (.un)), (23, .c (.un)), (21, .c (.un)), (24, .c (.un)), (25, .c (.un)), (27, .c (.un)), (28, .c (.un)), (30, .c (.un)), (31, .c (.un)), (29, .c (.un)), (32, .c (.un)), (34, .c (.un)), (35, .c (.un)), (33, .c (.un)), (36, .c (.un)), (38, .c (.un)), (39, .c (.un)), (37, .c (.un)), (40, .c (.un)), (42, .c (.un)), (43, .c (.un)), (41, .c (.un)), (44, .c (.un)), (46, .c (.un)), (47, .c (.un)), (45, .c (.un)), (48, .c (.un)), (49, .c (.un)), (26, .c (.un)), (50, .c (.un)), (51, .c (.un))] [] ⟨rfl, trivial⟩ ⟨rfl, rfl, rfl, rfl, rfl, rfl, rfl, rfl, rfl, rfl, rfl, rfl, rfl, rfl, rfl, rfl, rfl, rfl, rfl, rfl, rfl, rfl, rfl, rfl, rfl, rfl, rfl, rfl, rfl, rfl, rfl, rfl, rfl, rfl, rfl, rfl, rfl, rfl, rfl, rfl, rfl, rfl, rfl, rfl, rfl, trivial⟩ rfl (kPickT rfl (kMovC rfl (kMovC rfl (kGT rfl (kFadP rfl rfl (kGT rfl (kLoadP rfl rfl rfl (kGT rfl (kBin rfl rfl rfl (kPickT rfl (kMovC rfl (kMovC rfl (kGT rfl (kFadP rfl rfl (kGT rfl (kLoadP rfl rfl rfl (kGT rfl (kUn rfl rfl (kMem [(8192, ⟨1, 0, .box [.d _, .d _, .d _, .d _, .d _, .d _, .d _, .d _, .d _, .d _, .d _]⟩)] [(16, .c (.d _)), (19, .c (.d _)), (20, .c (.un)), (1, .c (.ptr 8192 1 0)), (22, .c (.un)), (23, .c (.un)), (21, .c (.un)), (24, .c (.un)), (25, .c (.un)), (27, .c (.un)), (28, .c (.un)), (30, .c (.un)), (31, .c (.un)), (29, .c (.un)), (32, .c (.un)), (34, .c (.un)), (35, .c (.un)), (33, .c (.un)), (36, .c (.un)), (38, .c (.un)), (39, .c (.un)), (37, .c (.un)), (40, .c (.un)), (42, .c (.un)), (43, .c (.un)), (41, .c (.un)), (44, .c (.un)), (46, .c (.un)), (47, .c (.un)), (45, .c (.un)), (48, .c (.un)), (49, .c (.un)), (26, .c (.un)), (50, .c (.un)), (51, .c (.un))] [] ⟨rfl, trivial⟩ ⟨rfl, rfl, rfl, rfl, rfl, rfl, rfl, rfl, rfl, rfl, rfl, rfl, rfl, rfl, rfl, rfl, rfl, rfl, rfl, rfl, rfl, rfl, rfl, rfl, rfl, rfl, rfl, rfl, rfl, rfl, rfl, rfl, rfl, rfl, rfl, trivial⟩ rfl (kPickT rfl (kMovC rfl (kMovC rfl (kGT rfl (kFadP rfl rfl (kGT rfl (kLoadP rfl rfl rfl (kGT rfl (kBin rfl rfl rfl (kPickT rfl (kMovC rfl (kMovC rfl (kGT rfl (kFadP rfl rfl (kGT rfl (kLoadP rfl rfl rfl (kGT rfl (kLen0 rfl (kMem [(8192, ⟨1, 0, .box [.d _, .d _, .d _, .d _, .d _, .d _, .d _, .d _, .d _, .d _, .d _]⟩)] [(1, .c (.ptr 8192 1 0)), (30, .c (.un)), (31, .c (.un)), (29, .c (.d _)), (32, .c (.un)), (34, .c (.un)), (35, .c (.un)), (33, .c (.un)), (36, .c (.un)), (38, .c (.un)), (39, .c (.un)), (37, .c (.un)), (40, .c (.un)), (42, .c (.un)), (43, .c (.un)), (41, .c (.un)), (44, .c (.un)), (46, .c (.un)), (47, .c (.un)), (45, .c (.un)), (48, .c (.un)), (49, .c (.un)), (26, .c (.d _)), (50, .c (.un)), (51, .c (.un))] [] ⟨rfl, trivial⟩ ⟨rfl, rfl, rfl, rfl, rfl, rfl, rfl, rfl, rfl, rfl, rfl, rfl, rfl, rfl, rfl, rfl, rfl, rfl, rfl, rfl, rfl, rfl, rfl, rfl, rfl, trivial⟩ rfl (kGT rfl (kFadP rfl rfl (kGT rfl (kLoadP rfl rfl rfl (kGT rfl (kLen0 rfl (kGT rfl (kAdd rfl rfl (by omega) (kGT rfl (kFadP rfl rfl (kGT rfl (kLoadP rfl rfl rfl (kGT rfl (kLen0 rfl (kGT rfl (kAdd rfl rfl (by omega) (kGT rfl (kFadP rfl rfl (kGT rfl (kLoadP rfl rfl rfl (kMem [(8192, ⟨1, 0, .box [.d _, .d _, .d _, .d _, .d _, .d _, .d _, .d _, .d _, .d _, .d _]⟩)] [(39, .c (.d _)), (37, .c (.d _)), (40, .c (.un)), (1, .c (.ptr 8192 1 0)), (42, .c (.un)), (43, .c (.un)), (41, .c (.un)), (44, .c (.un)), (46, .c (.un)), (47, .c (.un)), (45, .c (.un)), (48, .c (.un)), (49, .c (.un)), (26, .c (.d _)), (50, .c (.un)), (51, .c (.un))] [] ⟨rfl, trivial⟩ ⟨rfl, rfl, rfl, rfl, rfl, rfl, rfl, rfl, rfl, rfl, rfl, rfl, rfl, rfl, rfl, rfl, trivial⟩ rfl (kGT rfl (kLen0 rfl (kGT rfl (kAdd rfl rfl (by omega) (kGT rfl (kFadP rfl rfl (kGT rfl (kLoadP rfl rfl rfl (kGT rfl (kLen0 rfl (kGT rfl (kAdd rfl rfl (by omega) (kGT rfl (kFadP rfl rfl (kGT rfl (kLoadP rfl rfl rfl (kGT rfl (kLen0 rfl (kGT rfl (kAdd rfl rfl (by omega) (kGT rfl (kBin rfl rfl rfl (kPickT rfl (kMovC rfl (kMovC rfl (kDone (kRet (endRetA (ra := [.one (.d _)]) rfl rfl))))))))))))))))))))))))))))))))))))))))))))))))))))))))))))))))))))))))))))))))))))))))))))))))))))))))

def c_spec_l8ip : C := (.seq (.reg false (.op 0 [] (some 2) none false (.mov (.v (.bool false)))
  .done))
 (.seq (.reg false (.op 0 [] (some 3) none false (.mov (.t 0))
  (.op 1 [] (some 4) none false (.bin .gtr (.t 3) (.v (.int .i64 167772160)))
  (.op 2 [] (some 5) none false (.mov (.t 4))
  (.op 3 [] (some 6) (some (5, true)) false (.mov (.t 0))
  (.op 4 [] (some 7) (some (5, true)) false (.bin .lss (.t 6) (.v (.int .i64 167772415)))
  (.op 5 [] (some 8) none false (.pick (.t 5) (.t 7) (.v (.bool false)))
  (.op 6 [] (some 2) none false (.mov (.t 8))
  .done))))))))
 .ret))
theorem dg_spec_l8ip : Try.f137.body.bind (digC Try.prog Try.f137.ntmps []) = some c_spec_l8ip := by kernel_rfl
theorem rs_spec_l8ip : resSlots Try.prog Try.f137 = some [.s 2] := by kernel_rfl
theorem ok_spec_l8ip (n : Int) :
    FnOK Try.prog 137 [.one (.d (.sc (.int .i64 n)))] (fun ra _ => ra = [.one (.d (.sc (.bool (ipOk n))))]) := by
  refine FnOK.ofK Try.func137 (by kernel_rfl) dg_spec_l8ip rs_spec_l8ip rfl rfl ?_
  unfold c_spec_l8ip
  refine kSeq (kReg (kMovC rfl (kDone (kSeq (kReg (kMovC rfl (kBin rfl rfl rfl (kMovC rfl (kGP rfl (fun g0 => kGT rfl (kMovC rfl (kGT rfl (kBin rfl rfl rfl (kPickT rfl (kMovC rfl (kMovC rfl (kDone (kRet (endRetA (ra := [.one (.d _)]) rfl ?_)))))))))) (fun g0 => kGF rfl (kGF rfl (kPickF rfl (kMovC rfl (kMovC rfl (kDone (kRet (endRetA (ra := [.one (.d _)]) rfl ?_)))))))))))))))))
  all_goals (refine congrArg (fun z : Bool => [RA.one (RV.d (DV.sc (Value.bool z)))]) ?_)
  all_goals first
    | (simp [ipOk, *]; done)
    | (simp [ipOk, *]; omega)
    | (rw [Bool.eq_iff_iff]; simp [ipOk, *]; done)
    | (rw [Bool.eq_iff_iff]; simp [ipOk, *]; omega)
    | (simp_all [ipOk]; done)
    | (simp_all [ipOk]; omega)

def c_spec_l7client : C := (.seq (.reg false (.op 0 [] (some 2) none false (.mov (.v (.bool false)))
  .done))
 (.seq (.reg false (.op 0 [] (some 3) none false (.mov (.t 0))
  (.op 1 [] (some 4) none false (.len (.t 3))
  (.op 2 [] (some 5) none false (.bin .geq (.t 4) (.v (.int .i64 1)))
  (.op 3 [] (some 6) none false (.mov (.t 5))
  (.op 4 [] (some 7) (some (6, true)) false (.mov (.t 0))
  (.op 5 [] (some 8) (some (6, true)) false (.len (.t 7))
  (.op 6 [] (some 9) (some (6, true)) false (.bin .leq (.t 8) (.v (.int .i64 16)))
  (.op 7 [] (some 10) none false (.pick (.t 6) (.t 9) (.v (.bool false)))
  (.op 8 [] (some 2) none false (.mov (.t 10))
  .done))))))))))
 .ret))
theorem dg_spec_l7client : Try.f138.body.bind (digC Try.prog Try.f138.ntmps []) = some c_spec_l7client := by kernel_rfl
theorem rs_spec_l7client : resSlots Try.prog Try.f138 = some [.s 2] := by kernel_rfl
theorem ok_spec_l7client (b : List UInt8) :
    FnOK Try.prog 138 [.one (.d (encB b))] (fun ra _ => ra = [.one (.d (.sc (.bool (clientOk b))))]) := by
  refine FnOK.ofK Try.func138 (by kernel_rfl) dg_spec_l7client rs_spec_l7client rfl rfl ?_
  unfold c_spec_l7client
  refine kSeq (kReg (kMovC rfl (kDone (kSeq (kReg (kMovC rfl (kLenR rfl rfl (kBin rfl rfl rfl (kMovC rfl (kGP rfl (fun g0 => kGT rfl (kMovC rfl (kGT rfl (kLenR rfl rfl (kGT rfl (kBin rfl rfl rfl (kPickT rfl (kMovC rfl (kMovC rfl (kDone (kRet (endRetA (ra := [.one (.d _)]) rfl ?_)))))))))))) (fun g0 => kGF rfl (kGF rfl (kGF rfl (kPickF rfl (kMovC rfl (kMovC rfl (kDone (kRet (endRetA (ra := [.one (.d _)]) rfl ?_)))))))))))))))))))
  all_goals (refine congrArg (fun z : Bool => [RA.one (RV.d (DV.sc (Value.bool z)))]) ?_)
  all_goals first
    | (simp [clientOk, *]; done)
    | (simp [clientOk, *]; omega)
    | (rw [Bool.eq_iff_iff]; simp [clientOk, *]; done)
    | (rw [Bool.eq_iff_iff]; simp [clientOk, *]; omega)
    | (simp_all [clientOk]; done)
    | (simp_all [clientOk]; omega)

def c_spec_LabelOk : C := (.seq (.reg false (.op 0 [] (some 2) none false (.mov (.v (.bool false)))
  .done))
 (.seq (.seq (.reg false (.op 0 [] (some 4) none false (.mov (.t 0))
  (.op 1 [] (some 5) none false (.len (.t 4))
  (.op 2 [] (some 6) none false (.bin .lss (.t 5) (.v (.int .i64 1)))
  (.op 3 [] (some 7) none false (.mov (.t 6))
  (.op 4 [] (some 8) (some (7, false)) false (.mov (.t 0))
  (.op 5 [] (some 9) (some (7, false)) false (.len (.t 8))
  (.op 6 [] (some 10) (some (7, false)) false (.bin .gtr (.t 9) (.v (.int .i64 15)))
  (.op 7 [] (some 11) none false (.pick (.t 7) (.v (.bool true)) (.t 10))
  .done)))))))))
 (.cond (.t 11)
 (.seq (.reg false (.op 0 [] (some 2) none false (.mov (.v (.bool false)))
  .done))
 .ret)
 .skip))
 (.seq (.seq (.reg false (.op 0 [] (some 3) none false (.mov (.v (.int .i64 0)))
  .done))
 (.block 0 (.loop (.seq (.seq (.reg false (.op 0 [] (some 12) none false (.mov (.t 3))
  (.op 1 [] (some 13) none false (.mov (.t 0))
  (.op 2 [] (some 14) none false (.len (.t 13))
  (.op 3 [] (some 15) none false (.bin .lss (.t 12) (.t 14))
  .done)))))
 (.cond (.t 15)
 .skip
 (.exit 0)))
 (.seq (.block 1 (.seq (.reg false (.op 0 [] (some 18) none false (.mov (.t 0))
  (.op 1 [] (some 19) none false (.mov (.t 3))
  (.op 2 [] (some 20) none false (.iad 1 (.t 18) (.t 19))
  (.op 3 [] (some 21) none false (.load none (.t 20))
  (.op 4 [] (some 22) none false (.bin .geq (.t 21) (.v (.int .u8 97)))
  (.op 5 [] (some 23) none false (.mov (.t 22))
  (.op 6 [] (some 24) (some (23, true)) false (.mov (.t 0))
  (.op 7 [] (some 25) (some (23, true)) false (.mov (.t 3))
  (.op 8 [] (some 26) (some (23, true)) false (.iad 1 (.t 24) (.t 25))
  (.op 9 [] (some 27) (some (23, true)) false (.load none (.t 26))
  (.op 10 [] (some 28) (some (23, true)) false (.bin .leq (.t 27) (.v (.int .u8 122)))
  (.op 11 [] (some 29) none false (.pick (.t 23) (.t 28) (.v (.bool false)))
  (.op 12 [] (some 30) none false (.un .not (.t 29))
  (.op 13 [] (some 31) none false (.mov (.t 30))
  (.op 14 [] (some 32) (some (31, true)) false (.mov (.t 0))
  (.op 15 [] (some 33) (some (31, true)) false (.mov (.t 3))
  (.op 16 [] (some 34) (some (31, true)) false (.iad 1 (.t 32) (.t 33))
  (.op 17 [] (some 35) (some (31, true)) false (.load none (.t 34))
  (.op 18 [] (some 36) (some (31, true)) false (.bin .geq (.t 35) (.v (.int .u8 48)))
  (.op 19 [] (some 37) (some (31, true)) false (.mov (.t 36))
  (.op 20 [] (some 38) (some (37, true)) false (.mov (.t 0))
  (.op 21 [] (some 39) (some (37, true)) false (.mov (.t 3))
  (.op 22 [] (some 40) (some (37, true)) false (.iad 1 (.t 38) (.t 39))
  (.op 23 [] (some 41) (some (37, true)) false (.load none (.t 40))
  (.op 24 [] (some 42) (some (37, true)) false (.bin .leq (.t 41) (.v (.int .u8 57)))
  (.op 25 [] (some 43) (some (31, true)) false (.pick (.t 37) (.t 42) (.v (.bool false)))
  (.op 26 [] (some 44) (some (31, true)) false (.un .not (.t 43))
  (.op 27 [] (some 45) none false (.pick (.t 31) (.t 44) (.v (.bool false)))
  (.op 28 [] (some 46) none false (.mov (.t 45))
  (.op 29 [] (some 47) (some (46, true)) false (.mov (.t 0))
  (.op 30 [] (some 48) (some (46, true)) false (.mov (.t 3))
  (.op 31 [] (some 49) (some (46, true)) false (.iad 1 (.t 47) (.t 48))
  (.op 32 [] (some 50) (some (46, true)) false (.load none (.t 49))
  (.op 33 [] (some 51) (some (46, true)) false (.bin .neq (.t 50) (.v (.int .u8 45)))
  (.op 34 [] (some 52) none false (.pick (.t 46) (.t 51) (.v (.bool false)))
  .done))))))))))))))))))))))))))))))))))))
 (.cond (.t 52)
 (.seq (.reg false (.op 0 [] (some 2) none false (.mov (.v (.bool false)))
  .done))
 .ret)
 .skip)))
 (.reg false (.op 0 [] (some 16) none false (.mov (.t 3))
  (.op 1 [] (some 17) none false (.bin .add (.t 16) (.v (.int .i64 1)))
  (.op 2 [] (some 3) none false (.mov (.t 17))
  .done)))))))))
 (.seq (.reg false (.op 0 [] (some 2) none false (.mov (.v (.bool true)))
  .done))
 .ret))))
theorem dg_spec_LabelOk : Try.f130.body.bind (digC Try.prog Try.f130.ntmps []) = some c_spec_LabelOk := by kernel_rfl
theorem rs_spec_LabelOk : resSlots Try.prog Try.f130 = some [.s 2] := by kernel_rfl
theorem ok_spec_LabelOk (b : List UInt8) (hb : b.length ≤ 4194304) :
    FnOK Try.prog 130 [.one (.d (encB b))] (fun ra _ => ra = [.one (.d (.sc (.bool (labelOk b))))]) := by
  refine FnOK.ofK Try.func130 (by kernel_rfl) dg_spec_LabelOk rs_spec_LabelOk rfl rfl ?_
  unfold c_spec_LabelOk
  refine kSeq (kReg (kMovC rfl (kDone (kSeq (kSeq (kReg (kMovC rfl (kLenR rfl rfl (kBin rfl rfl rfl (kMovC rfl (kGP rfl (fun g0 => kGF rfl (kGF rfl (kGF rfl (kPickT rfl (kMovC rfl (kDone (kCondT rfl (kSeq (kReg (kMovC rfl (kDone (kRet (endRetA (ra := [.one (.d _)]) rfl ?_))))))))))))) (fun g0 => kGT rfl (kMovC rfl (kGT rfl (kLenR rfl rfl (kGT rfl (kBin rfl rfl rfl (kPickF rfl (kMovC rfl (kDone (kCondP rfl (fun g1 => kSeq (kReg (kMovC rfl (kDone (kRet (endRetA (ra := [.one (.d _)]) rfl ?_)))))) (fun g1 => kSkip (kSeq (kSeq (kReg (kMovC rfl (kDone (kBlock ?_))))))))))))))))))))))))))))
  · rw [show labelOk b = false by simp only [labelOk]; rw [decide_eq_false (by omega)]; rfl]
  · rw [show labelOk b = false by simp only [labelOk]; rw [decide_eq_false (p := b.length ≤ 15) (by omega)]; simp]
  refine kLoop (α := { i : Nat // i ≤ b.length ∧ (b.take i).all okLetter = true })
    (fun y => ⟨tabSl [(0, .dv (encB b)), (3, .i y.1)], (St.init [.one (.d (encB b))]).ob, []⟩) (fun y => b.length - y.1) ⟨0, by simp⟩
    (.tab rfl ⟨.refl _, .refl _, trivial⟩) ?_
  rintro ⟨i, hi, hl⟩
  simp only
  refine kSeq (kSeq (kReg (kMovC rfl (kMovC rfl (kLenR rfl rfl (kBin rfl rfl rfl (kDone (kCondP rfl (fun g0 => kSkip (kSeq (kBlock (kSeq (kReg (kMovC rfl (kMovC rfl (kIadR rfl rfl rfl (by omega) (kLoadD rfl rfl (kBin rfl rfl rfl (kMovC rfl (kGP rfl (fun g1 => kGT rfl (kMovC rfl (kGT rfl (kMovC rfl (kGT rfl (kIadR rfl rfl rfl (by omega) (kGT rfl (kLoadD rfl rfl (kGT rfl (kBin rfl rfl rfl (kPickT rfl (kMovC rfl (kUn rfl rfl (kMovC rfl (kGN rfl (fun g2 => kGT rfl (kMovC rfl (kGT rfl (kMovC rfl (kGT rfl (kIadR rfl rfl rfl (by omega) (kGT rfl (kLoadD rfl rfl (kGT rfl (kBin rfl rfl rfl (kGT rfl (kMovC rfl (kGP rfl (fun g3 => kGT rfl (kMovC rfl (kGT rfl (kMovC rfl (kGT rfl (kIadR rfl rfl rfl (by omega) (kGT rfl (kLoadD rfl rfl (kGT rfl (kBin rfl rfl rfl (kGT rfl (kPickT rfl (kMovC rfl (kGT rfl (kUn rfl rfl (kPickT rfl (kMovC rfl (kMovC rfl (kGN rfl (fun g4 => kGT rfl (kMovC rfl (kGT rfl (kMovC rfl (kGT rfl (kIadR rfl rfl rfl (by omega) (kGT rfl (kLoadD rfl rfl (kGT rfl (kBin rfl rfl rfl (kPickT rfl (kMovC rfl (kDone (kCondN rfl (fun g5 => kSeq (kReg (kMovC rfl (kDone (kRet (endRetA (ra := [.one (.d _)]) rfl ?_)))))) (fun g5 => kSkip (kBk (kReg (kMovC rfl (kAdd rfl rfl (by omega) (kMovC rfl (kDone ?_))))))))))))))))))))) (fun g4 => kGF rfl (kGF rfl (kGF rfl (kGF rfl (kGF rfl (kPickF rfl (kMovC rfl (kDone (kCondF rfl (kSkip (kBk (kReg (kMovC rfl (kAdd rfl rfl (by omega) (kMovC rfl (kDone ?_))))))))))))))))))))))))))))))))))) (fun g3 => (by omega))))))))))))))) (fun g2 => kGF rfl (kGF rfl (kGF rfl (kGF rfl (kGF rfl (kGF rfl (kGU rfl (kGU rfl (kGU rfl (kGU rfl (kGU rfl (kGF rfl (kGF rfl (kPickF rfl (kMovC rfl (kMovC rfl (kGF rfl (kGF rfl (kGF rfl (kGF rfl (kGF rfl (kPickF rfl (kMovC rfl (kDone (kCondF rfl (kSkip (kBk (kReg (kMovC rfl (kAdd rfl rfl (by omega) (kMovC rfl (kDone ?_))))))))))))))))))))))))))))))))))))))))))))))) (fun g1 => kGF rfl (kGF rfl (kGF rfl (kGF rfl (kGF rfl (kPickF rfl (kMovC rfl (kUn rfl rfl (kMovC rfl (kGT rfl (kMovC rfl (kGT rfl (kMovC rfl (kGT rfl (kIadR rfl rfl rfl (by omega) (kGT rfl (kLoadD rfl rfl (kGT rfl (kBin rfl rfl rfl (kGT rfl (kMovC rfl (kGP rfl (fun g6 => kGT rfl (kMovC rfl (kGT rfl (kMovC rfl (kGT rfl (kIadR rfl rfl rfl (by omega) (kGT rfl (kLoadD rfl rfl (kGT rfl (kBin rfl rfl rfl (kGT rfl (kPickT rfl (kMovC rfl (kGT rfl (kUn rfl rfl (kPickT rfl (kMovC rfl (kMovC rfl (kGN rfl (fun g7 => kGT rfl (kMovC rfl (kGT rfl (kMovC rfl (kGT rfl (kIadR rfl rfl rfl (by omega) (kGT rfl (kLoadD rfl rfl (kGT rfl (kBin rfl rfl rfl (kPickT rfl (kMovC rfl (kDone (kCondN rfl (fun g8 => kSeq (kReg (kMovC rfl (kDone (kRet (endRetA (ra := [.one (.d _)]) rfl ?_)))))) (fun g8 => kSkip (kBk (kReg (kMovC rfl (kAdd rfl rfl (by omega) (kMovC rfl (kDone ?_))))))))))))))))))))) (fun g7 => kGF rfl (kGF rfl (kGF rfl (kGF rfl (kGF rfl (kPickF rfl (kMovC rfl (kDone (kCondF rfl (kSkip (kBk (kReg (kMovC rfl (kAdd rfl rfl (by omega) (kMovC rfl (kDone ?_))))))))))))))))))))))))))))))))))) (fun g6 => kGF rfl (kGF rfl (kGF rfl (kGF rfl (kGF rfl (kGT rfl (kPickF rfl (kMovC rfl (kGT rfl (kUn rfl rfl (kPickT rfl (kMovC rfl (kMovC rfl (kGT rfl (kMovC rfl (kGT rfl (kMovC rfl (kGT rfl (kIadR rfl rfl rfl (by omega) (kGT rfl (kLoadD rfl rfl (kGT rfl (kBin rfl rfl rfl (kPickT rfl (kMovC rfl (kDone (kCondN rfl (fun g9 => kSeq (kReg (kMovC rfl (kDone (kRet (endRetA (ra := [.one (.d _)]) rfl ?_)))))) (fun g9 => kSkip (kBk (kReg (kMovC rfl (kAdd rfl rfl (by omega) (kMovC rfl (kDone ?_)))))))))))))))))))))))))))))))))))))))))))))))))))))))))))))))))))) (fun g0 => kExit (kExC (kExI (kExB (kSeq (kReg (kMovC rfl (kDone (kRet (endRetA (ra := [.one (.d _)]) rfl ?_))))))))))))))))))
  all_goals try simp only [decide_eq_true_eq, decide_eq_false_iff_not, beq_iff_eq, beq_eq_false_iff_ne] at *
  all_goals first
    | exact kInv ⟨⟨i + 1, by omega, labelOk_step (by omega) hl (by rw [okLetter_iff]; omega)⟩, by simp only; omega, .tab rfl ⟨.refl _, .refl _, trivial⟩⟩
    | rw [labelOk_no (b := b) (i := i) (by omega) (by rw [okLetter_iff]; omega)]
    | skip
  have hge : i = b.length := by omega
  subst hge
  rw [List.take_length] at hl
  rw [show labelOk b = true by simp only [labelOk]; rw [decide_eq_true (by omega), decide_eq_true (by omega), hl]; rfl]

def c_spec_TxnOk : C := (.seq (.reg false (.op 0 [] (some 1) none false (.box 1 (.t 0))
  (.op 1 [] (some 2) none false (.mov (.v (.bool false)))
  .done)))
 (.seq (.seq (.reg false (.op 0 [] (some 3) none false (.fad (.t 1) 0)
  (.op 1 [] (some 4) none false (.load none (.t 3))
  .done)))
 (.block 0 (.seq (.reg false (.op 0 [] (some 6) none false (.bin .eql (.t 4) (.v (.int .i64 0)))
  (.op 1 [] (some 5) none false (.mov (.t 6))
  .done)))
 (.cond (.t 5)
 (.seq (.reg false (.op 0 [] (some 7) none false (.fad (.t 1) 1)
  (.op 1 [] (some 8) none false (.load (some 11) (.t 7))
  (.op 2 [] (some 9) none false (.call 9 135 [(.t 8)])
  (.op 3 [] (some 10) none false (.mov (.t 9))
  (.op 4 [] (some 11) (some (10, true)) false (.fad (.t 1) 1)
  (.op 5 [] (some 12) (some (10, true)) false (.fad (.t 11) 2)
  (.op 6 [] (some 13) (some (10, true)) false (.load none (.t 12))
  (.op 7 [] (some 14) (some (10, true)) false (.bin .eql (.t 13) (.v (.int .i64 5)))
  (.op 8 [] (some 15) none false (.pick (.t 10) (.t 14) (.v (.bool false)))
  (.op 9 [] (some 16) none false (.mov (.t 15))
  (.op 10 [] (some 17) (some (16, true)) false (.fad (.t 1) 1)
  (.op 11 [] (some 18) (some (16, true)) false (.fad (.t 17) 1)
  (.op 12 [] (some 19) (some (16, true)) false (.load none (.t 18))
  (.op 13 [] (some 20) (some (16, true)) false (.un .not (.t 19))
  (.op 14 [] (some 21) none false (.pick (.t 16) (.t 20) (.v (.bool false)))
  (.op 15 [] (some 22) none false (.mov (.t 21))
  (.op 16 [] (some 23) (some (22, true)) false (.fad (.t 1) 12)
  (.op 17 [] (some 24) (some (22, true)) false (.load none (.t 23))
  (.op 18 [] (some 25) (some (22, true)) false (.bin .eql (.t 24) (.v (.int .i64 0)))
  (.op 19 [] (some 26) none false (.pick (.t 22) (.t 25) (.v (.bool false)))
  (.op 20 [] (some 27) none false (.mov (.t 26))
  (.op 21 [] (some 28) (some (27, true)) false (.fad (.t 1) 13)
  (.op 22 [] (some 29) (some (27, true)) false (.load none (.t 28))
  (.op 23 [] (some 30) (some (27, true)) false (.len (.t 29))
  (.op 24 [] (some 31) (some (27, true)) false (.bin .eql (.t 30) (.v (.int .i64 0)))
  (.op 25 [] (some 32) none false (.pick (.t 27) (.t 31) (.v (.bool false)))
  (.op 26 [] (some 33) none false (.mov (.t 32))
  (.op 27 [] (some 34) (some (33, true)) false (.fad (.t 1) 14)
  (.op 28 [] (some 35) (some (33, true)) false (.load none (.t 34))
  (.op 29 [] (some 36) (some (33, true)) false (.len (.t 35))
  (.op 30 [] (some 37) (some (33, true)) false (.bin .eql (.t 36) (.v (.int .i64 0)))
  (.op 31 [] (some 38) none false (.pick (.t 33) (.t 37) (.v (.bool false)))
  (.op 32 [] (some 39) none false (.mov (.t 38))
  (.op 33 [] (some 40) (some (39, true)) false (.fad (.t 1) 15)
  (.op 34 [] (some 41) (some (39, true)) false (.load none (.t 40))
  (.op 35 [] (some 42) (some (39, true)) false (.bin .eql (.t 41) (.v (.int .i64 0)))
  (.op 36 [] (some 43) none false (.pick (.t 39) (.t 42) (.v (.bool false)))
  (.op 37 [] (some 2) none false (.mov (.t 43))
  .done)))))))))))))))))))))))))))))))))))))))
 .ret)
 (.seq (.reg false (.op 0 [] (some 45) none false (.bin .eql (.t 4) (.v (.int .i64 1)))
  (.op 1 [] (some 44) none false (.mov (.t 45))
  .done)))
 (.cond (.t 44)
 (.seq (.reg false (.op 0 [] (some 46) none false (.fad (.t 1) 1)
  (.op 1 [] (some 47) none false (.load (some 11) (.t 46))
  (.op 2 [] (some 48) none false (.call 48 136 [(.t 47)])
  (.op 3 [] (some 49) none false (.mov (.t 48))
  (.op 4 [] (some 50) (some (49, true)) false (.fad (.t 1) 12)
  (.op 5 [] (some 51) (some (49, true)) false (.load none (.t 50))
  (.op 6 [] (some 52) (some (49, true)) false (.call 52 137 [(.t 51)])
  (.op 7 [] (some 53) none false (.pick (.t 49) (.t 52) (.v (.bool false)))
  (.op 8 [] (some 54) none false (.mov (.t 53))
  (.op 9 [] (some 55) (some (54, true)) false (.fad (.t 1) 13)
  (.op 10 [] (some 56) (some (54, true)) false (.load none (.t 55))
  (.op 11 [] (some 57) (some (54, true)) false (.call 57 138 [(.t 56)])
  (.op 12 [] (some 58) none false (.pick (.t 54) (.t 57) (.v (.bool false)))
  (.op 13 [] (some 59) none false (.mov (.t 58))
  (.op 14 [] (some 60) (some (59, true)) false (.fad (.t 1) 14)
  (.op 15 [] (some 61) (some (59, true)) false (.load none (.t 60))
  (.op 16 [] (some 62) (some (59, true)) false (.call 62 130 [(.t 61)])
  (.op 17 [] (some 63) none false (.pick (.t 59) (.t 62) (.v (.bool false)))
  (.op 18 [] (some 64) none false (.mov (.t 63))
  (.op 19 [] (some 65) (some (64, true)) false (.fad (.t 1) 15)
  (.op 20 [] (some 66) (some (64, true)) false (.load none (.t 65))
  (.op 21 [] (some 67) (some (64, true)) false (.bin .geq (.t 66) (.v (.int .i64 0)))
  (.op 22 [] (some 68) none false (.pick (.t 64) (.t 67) (.v (.bool false)))
  (.op 23 [] (some 69) none false (.mov (.t 68))
  (.op 24 [] (some 70) (some (69, true)) false (.fad (.t 1) 15)
  (.op 25 [] (some 71) (some (69, true)) false (.load none (.t 70))
  (.op 26 [] (some 72) (some (69, true)) false (.bin .leq (.t 71) (.v (.int .i64 2000000)))
  (.op 27 [] (some 73) none false (.pick (.t 69) (.t 72) (.v (.bool false)))
  (.op 28 [] (some 2) none false (.mov (.t 73))
  .done))))))))))))))))))))))))))))))
 .ret)
 (.seq (.reg false (.op 0 [] (some 75) none false (.bin .eql (.t 4) (.v (.int .i64 2)))
  (.op 1 [] (some 74) none false (.mov (.t 75))
  .done)))
 (.cond (.t 74)
 (.seq (.reg false (.op 0 [] (some 76) none false (.fad (.t 1) 1)
  (.op 1 [] (some 77) none false (.load (some 11) (.t 76))
  (.op 2 [] (some 78) none false (.call 78 136 [(.t 77)])
  (.op 3 [] (some 79) none false (.mov (.t 78))
  (.op 4 [] (some 80) (some (79, true)) false (.fad (.t 1) 12)
  (.op 5 [] (some 81) (some (79, true)) false (.load none (.t 80))
  (.op 6 [] (some 82) (some (79, true)) false (.call 82 137 [(.t 81)])
  (.op 7 [] (some 83) none false (.pick (.t 79) (.t 82) (.v (.bool false)))
  (.op 8 [] (some 84) none false (.mov (.t 83))
  (.op 9 [] (some 85) (some (84, true)) false (.fad (.t 1) 13)
  (.op 10 [] (some 86) (some (84, true)) false (.load none (.t 85))
  (.op 11 [] (some 87) (some (84, true)) false (.call 87 138 [(.t 86)])
  (.op 12 [] (some 88) none false (.pick (.t 84) (.t 87) (.v (.bool false)))
  (.op 13 [] (some 89) none false (.mov (.t 88))
  (.op 14 [] (some 90) (some (89, true)) false (.fad (.t 1) 14)
  (.op 15 [] (some 91) (some (89, true)) false (.load none (.t 90))
  (.op 16 [] (some 92) (some (89, true)) false (.len (.t 91))
  (.op 17 [] (some 93) (some (89, true)) false (.bin .eql (.t 92) (.v (.int .i64 0)))
  (.op 18 [] (some 94) none false (.pick (.t 89) (.t 93) (.v (.bool false)))
  (.op 19 [] (some 95) none false (.mov (.t 94))
  (.op 20 [] (some 96) (some (95, true)) false (.fad (.t 1) 15)
  (.op 21 [] (some 97) (some (95, true)) false (.load none (.t 96))
  (.op 22 [] (some 98) (some (95, true)) false (.bin .eql (.t 97) (.v (.int .i64 0)))
  (.op 23 [] (some 99) none false (.pick (.t 95) (.t 98) (.v (.bool false)))
  (.op 24 [] (some 2) none false (.mov (.t 99))
  .done))))))))))))))))))))))))))
 .ret)
 (.seq (.reg false (.op 0 [] (some 101) none false (.bin .eql (.t 4) (.v (.int .i64 3)))
  (.op 1 [] (some 100) none false (.mov (.t 101))
  .done)))
 (.cond (.t 100)
 (.seq (.reg false (.op 0 [] (some 102) none false (.fad (.t 1) 1)
  (.op 1 [] (some 103) none false (.load (some 11) (.t 102))
  (.op 2 [] (some 104) none false (.call 104 136 [(.t 103)])
  (.op 3 [] (some 105) none false (.mov (.t 104))
  (.op 4 [] (some 106) (some (105, true)) false (.fad (.t 1) 12)
  (.op 5 [] (some 107) (some (105, true)) false (.load none (.t 106))
  (.op 6 [] (some 108) (some (105, true)) false (.bin .eql (.t 107) (.v (.int .i64 0)))
  (.op 7 [] (some 109) none false (.pick (.t 105) (.t 108) (.v (.bool false)))
  (.op 8 [] (some 110) none false (.mov (.t 109))
  (.op 9 [] (some 111) (some (110, true)) false (.fad (.t 1) 13)
  (.op 10 [] (some 112) (some (110, true)) false (.load none (.t 111))
  (.op 11 [] (some 113) (some (110, true)) false (.len (.t 112))
  (.op 12 [] (some 114) (some (110, true)) false (.bin .eql (.t 113) (.v (.int .i64 0)))
  (.op 13 [] (some 115) none false (.pick (.t 110) (.t 114) (.v (.bool false)))
  (.op 14 [] (some 116) none false (.mov (.t 115))
  (.op 15 [] (some 117) (some (116, true)) false (.fad (.t 1) 14)
  (.op 16 [] (some 118) (some (116, true)) false (.load none (.t 117))
  (.op 17 [] (some 119) (some (116, true)) false (.len (.t 118))
  (.op 18 [] (some 120) (some (116, true)) false (.bin .eql (.t 119) (.v (.int .i64 0)))
  (.op 19 [] (some 121) none false (.pick (.t 116) (.t 120) (.v (.bool false)))
  (.op 20 [] (some 122) none false (.mov (.t 121))
  (.op 21 [] (some 123) (some (122, true)) false (.fad (.t 1) 15)
  (.op 22 [] (some 124) (some (122, true)) false (.load none (.t 123))
  (.op 23 [] (some 125) (some (122, true)) false (.bin .geq (.t 124) (.v (.int .i64 0)))
  (.op 24 [] (some 126) none false (.pick (.t 122) (.t 125) (.v (.bool false)))
  (.op 25 [] (some 127) none false (.mov (.t 126))
  (.op 26 [] (some 128) (some (127, true)) false (.fad (.t 1) 15)
  (.op 27 [] (some 129) (some (127, true)) false (.load none (.t 128))
  (.op 28 [] (some 130) (some (127, true)) false (.bin .leq (.t 129) (.v (.int .i64 1000000)))
  (.op 29 [] (some 131) none false (.pick (.t 127) (.t 130) (.v (.bool false)))
  (.op 30 [] (some 2) none false (.mov (.t 131))
  .done))))))))))))))))))))))))))))))))
 .ret)
 .skip))))))))))
 (.seq (.reg false (.op 0 [] (some 2) none false (.mov (.v (.bool false)))
  .done))
 .ret)))
theorem dg_spec_TxnOk : Try.f91.body.bind (digC Try.prog Try.f91.ntmps []) = some c_spec_TxnOk := by kernel_rfl
theorem rs_spec_TxnOk : resSlots Try.prog Try.f91 = some [.s 2] := by kernel_rfl
theorem ok_spec_TxnOk (k ip : Int) (c h : List UInt8) (w : Int) (hk : 1 ≤ k ∧ k ≤ 3) (hc : c.length ≤ 4194304) (hh : h.length ≤ 4194304) :
    FnOK Try.prog 91 [.agg [.d (.sc (.int .i64 k)), .d (.sc (.int .i64 0)), .d (.sc (.bool false)), .d (.sc (.int .i64 0)), .d (.sc (.bool false)), .d (.sc (.int .i64 0)), .d (.sl 2 []), .d (.sl 7 []), .d (.sl 7 []), .d (.sl 7 []), .d (.sl 9 []), .d (.sl 9 []), .d (.sc (.int .i64 ip)), .d (encB c), .d (encB h), .d (.sc (.int .i64 w))]] (fun ra _ => ra = [.one (.d (.sc (.bool (txnOkE k ip c h w))))]) := by
  refine FnOK.ofK Try.func91 (by kernel_rfl) dg_spec_TxnOk rs_spec_TxnOk rfl rfl ?_
  unfold c_spec_TxnOk
  have hcase : k = 1 ∨ k = 2 ∨ k = 3 := by omega
  have fh : h = [] ∧ h.length = 0 ∨ h ≠ [] ∧ 0 < h.length := by cases h <;> simp
  have fc : c = [] ∧ c.length = 0 ∨ c ≠ [] ∧ 0 < c.length := by cases c <;> simp
  rcases fh with ⟨fh1, fh2⟩ | ⟨fh1, fh2⟩ <;> rcases fc with ⟨fc1, fc2⟩ | ⟨fc1, fc2⟩ <;> rcases hcase with rfl | rfl | rfl
  · refine kSeq (kReg (kBox rfl rfl rfl rfl rfl (kMovC rfl (kDone (kSeq (kSeq (kReg (kFadP rfl rfl (kLoadP rfl rfl rfl (kDone (kBlock (kSeq (kReg (kBin rfl rfl rfl (kMovC rfl (kDone (kCondF rfl (kSeq (kReg (kBin rfl rfl rfl (kMovC rfl (kDone (kCondT rfl (kSeq (kReg (kFadP rfl rfl (kLoadP rfl rfl rfl (kMem [(8192, ⟨1, 0, .box [.d _, .d _, .d _, .d _, .d _, .d _, .d _, .d _, .d _, .d _, .d _, .d _, .d _, .d _, .d _, .d _]⟩)] [(47, .g [.d _, .d _, .d _, .d _, .d _, .d _, .d _, .d _, .d _, .d _, .d _]), (48, .c (.un)), (1, .c (.ptr 8192 1 0)), (50, .c (.un)), (51, .c (.un)), (49, .c (.un)), (52, .c (.un)), (53, .c (.un)), (55, .c (.un)), (56, .c (.un)), (54, .c (.un)), (57, .c (.un)), (58, .c (.un)), (60, .c (.un)), (61, .c (.un)), (59, .c (.un)), (62, .c (.un)), (63, .c (.un)), (65, .c (.un)), (66, .c (.un)), (64, .c (.un)), (67, .c (.un)), (68, .c (.un)), (70, .c (.un)), (71, .c (.un)), (69, .c (.un)), (72, .c (.un)), (73, .c (.un))] [] ⟨rfl, trivial⟩ ⟨rfl, rfl, rfl, rfl, rfl, rfl, rfl, rfl, rfl, rfl, rfl, rfl, rfl, rfl, rfl, rfl, rfl, rfl, rfl, rfl, rfl, rfl, rfl, rfl, rfl, rfl, rfl, rfl, trivial⟩ rfl (kCallD (ok_spec_l9emptyMsg) ⟨⟨⟨rfl, rfl, rfl, rfl, rfl, rfl, rfl, rfl, rfl, rfl, rfl, trivial⟩, Nat.le_of_ble_eq_true rfl⟩, trivial⟩ rfl rfl rfl rfl rfl (kMovC rfl (kGT rfl (kFadP rfl rfl (kGT rfl (kLoadP rfl rfl rfl (kGT rfl (kCallD (ok_spec_l8ip _) ⟨rfl, trivial⟩ rfl rfl rfl rfl rfl (kPickT rfl (kMovC rfl (kMovC rfl (kGP rfl (fun g0 => kGT rfl (kFadP rfl rfl (kGT rfl (kLoadP rfl rfl rfl (kMem [(8192, ⟨1, 0, .box [.d _, .d _, .d _, .d _, .d _, .d _, .d _, .d _, .d _, .d _, .d _, .d _, .d _, .d _, .d _, .d _]⟩)] [(56, .c (.d _)), (54, .c (.d _)), (57, .c (.un)), (58, .c (.un)), (1, .c (.ptr 8192 1 0)), (60, .c (.un)), (61, .c (.un)), (59, .c (.un)), (62, .c (.un)), (63, .c (.un)), (65, .c (.un)), (66, .c (.un)), (64, .c (.un)), (67, .c (.un)), (68, .c (.un)), (70, .c (.un)), (71, .c (.un)), (69, .c (.un)), (72, .c (.un)), (73, .c (.un))] [] ⟨rfl, trivial⟩ ⟨rfl, rfl, rfl, rfl, rfl, rfl, rfl, rfl, rfl, rfl, rfl, rfl, rfl, rfl, rfl, rfl, rfl, rfl, rfl, rfl, trivial⟩ rfl (kGT rfl (kCallD (ok_spec_l7client _) ⟨rfl, trivial⟩ rfl rfl rfl rfl rfl (kPickT rfl (kMovC rfl (kMovC rfl (kGP rfl (fun g1 => (by omega)) (fun g1 => kGF rfl (kGF rfl (kGF rfl (kPickF rfl (kMovC rfl (kMovC rfl (kGF rfl (kGF rfl (kGF rfl (kMem [(8192, ⟨1, 0, .box [.d _, .d _, .d _, .d _, .d _, .d _, .d _, .d _, .d _, .d _, .d _, .d _, .d _, .d _, .d _, .d _]⟩)] [(64, .c (.d _)), (67, .c (.un)), (68, .c (.un)), (1, .c (.ptr 8192 1 0)), (70, .c (.un)), (71, .c (.un)), (69, .c (.un)), (72, .c (.un)), (73, .c (.un))] [] ⟨rfl, trivial⟩ ⟨rfl, rfl, rfl, rfl, rfl, rfl, rfl, rfl, rfl, trivial⟩ rfl (kPickF rfl (kMovC rfl (kMovC rfl (kGF rfl (kGF rfl (kGF rfl (kPickF rfl (kMovC rfl (kMovC rfl (kDone (kRet (endRetA (ra := [.one (.d _)]) rfl ?_))))))))))))))))))))))))))))))))) (fun g0 => kGF rfl (kGF rfl (kGF rfl (kMem [(8192, ⟨1, 0, .box [.d _, .d _, .d _, .d _, .d _, .d _, .d _, .d _, .d _, .d _, .d _, .d _, .d _, .d _, .d _, .d _]⟩)] [(54, .c (.d _)), (57, .c (.un)), (58, .c (.un)), (1, .c (.ptr 8192 1 0)), (60, .c (.un)), (61, .c (.un)), (59, .c (.un)), (62, .c (.un)), (63, .c (.un)), (65, .c (.un)), (66, .c (.un)), (64, .c (.un)), (67, .c (.un)), (68, .c (.un)), (70, .c (.un)), (71, .c (.un)), (69, .c (.un)), (72, .c (.un)), (73, .c (.un))] [] ⟨rfl, trivial⟩ ⟨rfl, rfl, rfl, rfl, rfl, rfl, rfl, rfl, rfl, rfl, rfl, rfl, rfl, rfl, rfl, rfl, rfl, rfl, rfl, trivial⟩ rfl (kPickF rfl (kMovC rfl (kMovC rfl (kGF rfl (kGF rfl (kGF rfl (kPickF rfl (kMovC rfl (kMovC rfl (kGF rfl (kGF rfl (kGF rfl (kPickF rfl (kMovC rfl (kMovC rfl (kMem [(8192, ⟨1, 0, .box [.d _, .d _, .d _, .d _, .d _, .d _, .d _, .d _, .d _, .d _, .d _, .d _, .d _, .d _, .d _, .d _]⟩)] [(1, .c (.ptr 8192 1 0)), (70, .c (.un)), (71, .c (.un)), (69, .c (.d _)), (72, .c (.un)), (73, .c (.un))] [] ⟨rfl, trivial⟩ ⟨rfl, rfl, rfl, rfl, rfl, rfl, trivial⟩ rfl (kGF rfl (kGF rfl (kGF rfl (kPickF rfl (kMovC rfl (kMovC rfl (kDone (kRet (endRetA (ra := [.one (.d _)]) rfl ?_)))))))))))))))))))))))))))))))))))))))))))))))))))))))))))))))))))))
    all_goals (refine congrArg (fun z : Bool => [RA.one (RV.d (DV.sc (Value.bool z)))]) ?_)
    all_goals first
      | (simp [txnOkE, ipOk, clientOk, *]; done)
      | (simp [txnOkE, ipOk, clientOk, *]; omega)
      | (rw [Bool.eq_iff_iff]; simp [txnOkE, ipOk, clientOk, *]; done)
      | (rw [Bool.eq_iff_iff]; simp [txnOkE, ipOk, clientOk, *]; omega)
      | (simp_all [txnOkE, ipOk, clientOk]; done)
      | (simp_all [txnOkE, ipOk, clientOk]; omega)
  · refine kSeq (kReg (kBox rfl rfl rfl rfl rfl (kMovC rfl (kDone (kSeq (kSeq (kReg (kFadP rfl rfl (kLoadP rfl rfl rfl (kDone (kBlock (kSeq (kReg (kBin rfl rfl rfl (kMovC rfl (kDone (kCondF rfl (kSeq (kReg (kBin rfl rfl rfl (kMovC rfl (kDone (kCondF rfl (kSeq (kReg (kBin rfl rfl rfl (kMovC rfl (kDone (kCondT rfl (kSeq (kReg (kMem [(8192, ⟨1, 0, .box [.d _, .d _, .d _, .d _, .d _, .d _, .d _, .d _, .d _, .d _, .d _, .d _, .d _, .d _, .d _, .d _]⟩)] [(1, .c (.ptr 8192 1 0)), (76, .c (.un)), (77, .c (.un)), (78, .c (.un)), (80, .c (.un)), (81, .c (.un)), (79, .c (.un)), (82, .c (.un)), (83, .c (.un)), (85, .c (.un)), (86, .c (.un)), (84, .c (.un)), (87, .c (.un)), (88, .c (.un)), (90, .c (.un)), (91, .c (.un)), (92, .c (.un)), (89, .c (.un)), (93, .c (.un)), (94, .c (.un)), (96, .c (.un)), (97, .c (.un)), (95, .c (.un)), (98, .c (.un)), (99, .c (.un))] [] ⟨rfl, trivial⟩ ⟨rfl, rfl, rfl, rfl, rfl, rfl, rfl, rfl, rfl, rfl, rfl, rfl, rfl, rfl, rfl, rfl, rfl, rfl, rfl, rfl, rfl, rfl, rfl, rfl, rfl, trivial⟩ rfl (kFadP rfl rfl (kLoadP rfl rfl rfl (kCallD (ok_spec_l9emptyMsg) ⟨⟨⟨rfl, rfl, rfl, rfl, rfl, rfl, rfl, rfl, rfl, rfl, rfl, trivial⟩, Nat.le_of_ble_eq_true rfl⟩, trivial⟩ rfl rfl rfl rfl rfl (kMovC rfl (kGT rfl (kFadP rfl rfl (kGT rfl (kLoadP rfl rfl rfl (kGT rfl (kCallD (ok_spec_l8ip _) ⟨rfl, trivial⟩ rfl rfl rfl rfl rfl (kPickT rfl (kMovC rfl (kMovC rfl (kGP rfl (fun g0 => kMem [(8192, ⟨1, 0, .box [.d _, .d _, .d _, .d _, .d _, .d _, .d _, .d _, .d _, .d _, .d _, .d _, .d _, .d _, .d _, .d _]⟩)] [(1, .c (.ptr 8192 1 0)), (85, .c (.un)), (86, .c (.un)), (84, .c (.d _)), (87, .c (.un)), (88, .c (.un)), (90, .c (.un)), (91, .c (.un)), (92, .c (.un)), (89, .c (.un)), (93, .c (.un)), (94, .c (.un)), (96, .c (.un)), (97, .c (.un)), (95, .c (.un)), (98, .c (.un)), (99, .c (.un))] [] ⟨rfl, trivial⟩ ⟨rfl, rfl, rfl, rfl, rfl, rfl, rfl, rfl, rfl, rfl, rfl, rfl, rfl, rfl, rfl, rfl, rfl, trivial⟩ rfl (kGT rfl (kFadP rfl rfl (kGT rfl (kLoadP rfl rfl rfl (kGT rfl (kCallD (ok_spec_l7client _) ⟨rfl, trivial⟩ rfl rfl rfl rfl rfl (kPickT rfl (kMovC rfl (kMovC rfl (kGP rfl (fun g1 => (by omega)) (fun g1 => kGF rfl (kGF rfl (kGF rfl (kGF rfl (kPickF rfl (kMovC rfl (kMem [(8192, ⟨1, 0, .box [.d _, .d _, .d _, .d _, .d _, .d _, .d _, .d _, .d _, .d _, .d _, .d _, .d _, .d _, .d _, .d _]⟩)] [(94, .c (.d _)), (1, .c (.ptr 8192 1 0)), (96, .c (.un)), (97, .c (.un)), (95, .c (.un)), (98, .c (.un)), (99, .c (.un))] [] ⟨rfl, trivial⟩ ⟨rfl, rfl, rfl, rfl, rfl, rfl, rfl, trivial⟩ rfl (kMovC rfl (kGF rfl (kGF rfl (kGF rfl (kPickF rfl (kMovC rfl (kMovC rfl (kDone (kRet (endRetA (ra := [.one (.d _)]) rfl ?_)))))))))))))))))))))))))))) (fun g0 => kMem [(8192, ⟨1, 0, .box [.d _, .d _, .d _, .d _, .d _, .d _, .d _, .d _, .d _, .d _, .d _, .d _, .d _, .d _, .d _, .d _]⟩)] [(1, .c (.ptr 8192 1 0)), (85, .c (.un)), (86, .c (.un)), (84, .c (.d _)), (87, .c (.un)), (88, .c (.un)), (90, .c (.un)), (91, .c (.un)), (92, .c (.un)), (89, .c (.un)), (93, .c (.un)), (94, .c (.un)), (96, .c (.un)), (97, .c (.un)), (95, .c (.un)), (98, .c (.un)), (99, .c (.un))] [] ⟨rfl, trivial⟩ ⟨rfl, rfl, rfl, rfl, rfl, rfl, rfl, rfl, rfl, rfl, rfl, rfl, rfl, rfl, rfl, rfl, rfl, trivial⟩ rfl (kGF rfl (kGF rfl (kGF rfl (kPickF rfl (kMovC rfl (kMovC rfl (kGF rfl (kGF rfl (kGF rfl (kGF rfl (kPickF rfl (kMovC rfl (kMovC rfl (kGF rfl (kGF rfl (kGF rfl (kPickF rfl (kMovC rfl (kMovC rfl (kDone (kRet (endRetA (ra := [.one (.d _)]) rfl ?_)))))))))))))))))))))))))))))))))))))))))))))))))))))))))))))))))))))
    all_goals (refine congrArg (fun z : Bool => [RA.one (RV.d (DV.sc (Value.bool z)))]) ?_)
    all_goals first
      | (simp [txnOkE, ipOk, clientOk, *]; done)
      | (simp [txnOkE, ipOk, clientOk, *]; omega)
      | (rw [Bool.eq_iff_iff]; simp [txnOkE, ipOk, clientOk, *]; done)
      | (rw [Bool.eq_iff_iff]; simp [txnOkE, ipOk, clientOk, *]; omega)
      | (simp_all [txnOkE, ipOk, clientOk]; done)
      | (simp_all [txnOkE, ipOk, clientOk]; omega)
  · refine kSeq (kReg (kBox rfl rfl rfl rfl rfl (kMovC rfl (kDone (kSeq (kSeq (kReg (kFadP rfl rfl (kLoadP rfl rfl rfl (kDone (kBlock (kSeq (kReg (kBin rfl rfl rfl (kMovC rfl (kDone (kCondF rfl (kSeq (kReg (kBin rfl rfl rfl (kMovC rfl (kDone (kCondF rfl (kSeq (kReg (kBin rfl rfl rfl (kMovC rfl (kDone (kCondF rfl (kSeq (kReg (kBin rfl rfl rfl (kMovC rfl (kDone (kCondT rfl (kSeq (kReg (kMem [(8192, ⟨1, 0, .box [.d _, .d _, .d _, .d _, .d _, .d _, .d _, .d _, .d _, .d _, .d _, .d _, .d _, .d _, .d _, .d _]⟩)] [(1, .c (.ptr 8192 1 0)), (102, .c (.un)), (103, .c (.un)), (104, .c (.un)), (106, .c (.un)), (107, .c (.un)), (105, .c (.un)), (108, .c (.un)), (109, .c (.un)), (111, .c (.un)), (112, .c (.un)), (113, .c (.un)), (110, .c (.un)), (114, .c (.un)), (115, .c (.un)), (117, .c (.un)), (118, .c (.un)), (119, .c (.un)), (116, .c (.un)), (120, .c (.un)), (121, .c (.un)), (123, .c (.un)), (124, .c (.un)), (122, .c (.un)), (125, .c (.un)), (126, .c (.un)), (128, .c (.un)), (129, .c (.un)), (127, .c (.un)), (130, .c (.un)), (131, .c (.un))] [] ⟨rfl, trivial⟩ ⟨rfl, rfl, rfl, rfl, rfl, rfl, rfl, rfl, rfl, rfl, rfl, rfl, rfl, rfl, rfl, rfl, rfl, rfl, rfl, rfl, rfl, rfl, rfl, rfl, rfl, rfl, rfl, rfl, rfl, rfl, rfl, trivial⟩ rfl (kFadP rfl rfl (kLoadP rfl rfl rfl (kCallD (ok_spec_l9emptyMsg) ⟨⟨⟨rfl, rfl, rfl, rfl, rfl, rfl, rfl, rfl, rfl, rfl, rfl, trivial⟩, Nat.le_of_ble_eq_true rfl⟩, trivial⟩ rfl rfl rfl rfl rfl (kMovC rfl (kGT rfl (kFadP rfl rfl (kGT rfl (kLoadP rfl rfl rfl (kGT rfl (kBin rfl rfl rfl (kPickT rfl (kMovC rfl (kMovC rfl (kGP rfl (fun g0 => kMem [(8192, ⟨1, 0, .box [.d _, .d _, .d _, .d _, .d _, .d _, .d _, .d _, .d _, .d _, .d _, .d _, .d _, .d _, .d _, .d _]⟩)] [(1, .c (.ptr 8192 1 0)), (111, .c (.un)), (112, .c (.un)), (113, .c (.un)), (110, .c (.d _)), (114, .c (.un)), (115, .c (.un)), (117, .c (.un)), (118, .c (.un)), (119, .c (.un)), (116, .c (.un)), (120, .c (.un)), (121, .c (.un)), (123, .c (.un)), (124, .c (.un)), (122, .c (.un)), (125, .c (.un)), (126, .c (.un)), (128, .c (.un)), (129, .c (.un)), (127, .c (.un)), (130, .c (.un)), (131, .c (.un))] [] ⟨rfl, trivial⟩ ⟨rfl, rfl, rfl, rfl, rfl, rfl, rfl, rfl, rfl, rfl, rfl, rfl, rfl, rfl, rfl, rfl, rfl, rfl, rfl, rfl, rfl, rfl, rfl, trivial⟩ rfl (kGT rfl (kFadP rfl rfl (kGT rfl (kLoadP rfl rfl rfl (kGT rfl (kLenR rfl rfl (kGT rfl (kBin rfl rfl rfl (kPickT rfl (kMovC rfl (kMovC rfl (kGP rfl (fun g1 => kGT rfl (kFadP rfl rfl (kGT rfl (kLoadP rfl rfl rfl (kGT rfl (kLenR rfl rfl (kMem [(8192, ⟨1, 0, .box [.d _, .d _, .d _, .d _, .d _, .d _, .d _, .d _, .d _, .d _, .d _, .d _, .d _, .d _, .d _, .d _]⟩)] [(119, .c (.d _)), (116, .c (.d _)), (120, .c (.un)), (121, .c (.un)), (1, .c (.ptr 8192 1 0)), (123, .c (.un)), (124, .c (.un)), (122, .c (.un)), (125, .c (.un)), (126, .c (.un)), (128, .c (.un)), (129, .c (.un)), (127, .c (.un)), (130, .c (.un)), (131, .c (.un))] [] ⟨rfl, trivial⟩ ⟨rfl, rfl, rfl, rfl, rfl, rfl, rfl, rfl, rfl, rfl, rfl, rfl, rfl, rfl, rfl, trivial⟩ rfl (kGT rfl (kBin rfl rfl rfl (kPickT rfl (kMovC rfl (kMovC rfl (kGP rfl (fun g2 => kGT rfl (kFadP rfl rfl (kGT rfl (kLoadP rfl rfl rfl (kGT rfl (kBin rfl rfl rfl (kPickT rfl (kMovC rfl (kMovC rfl (kGP rfl (fun g3 => kGT rfl (kFadP rfl rfl (kMem [(8192, ⟨1, 0, .box [.d _, .d _, .d _, .d _, .d _, .d _, .d _, .d _, .d _, .d _, .d _, .d _, .d _, .d _, .d _, .d _]⟩)] [(128, .c (.ptr 8192 1 15)), (129, .c (.un)), (127, .c (.d _)), (130, .c (.un)), (131, .c (.un))] [] ⟨rfl, trivial⟩ ⟨rfl, rfl, rfl, rfl, rfl, trivial⟩ rfl (kGT rfl (kLoadP rfl rfl rfl (kGT rfl (kBin rfl rfl rfl (kPickT rfl (kMovC rfl (kMovC rfl (kDone (kRet (endRetA (ra := [.one (.d _)]) rfl ?_))))))))))))) (fun g3 => kGF rfl (kGF rfl (kGF rfl (kPickF rfl (kMovC rfl (kMovC rfl (kDone (kRet (endRetA (ra := [.one (.d _)]) rfl ?_))))))))))))))))))) (fun g2 => (by omega))))))))))))))) (fun g1 => (by omega))))))))))))))) (fun g0 => kMem [(8192, ⟨1, 0, .box [.d _, .d _, .d _, .d _, .d _, .d _, .d _, .d _, .d _, .d _, .d _, .d _, .d _, .d _, .d _, .d _]⟩)] [(1, .c (.ptr 8192 1 0)), (111, .c (.un)), (112, .c (.un)), (113, .c (.un)), (110, .c (.d _)), (114, .c (.un)), (115, .c (.un)), (117, .c (.un)), (118, .c (.un)), (119, .c (.un)), (116, .c (.un)), (120, .c (.un)), (121, .c (.un)), (123, .c (.un)), (124, .c (.un)), (122, .c (.un)), (125, .c (.un)), (126, .c (.un)), (128, .c (.un)), (129, .c (.un)), (127, .c (.un)), (130, .c (.un)), (131, .c (.un))] [] ⟨rfl, trivial⟩ ⟨rfl, rfl, rfl, rfl, rfl, rfl, rfl, rfl, rfl, rfl, rfl, rfl, rfl, rfl, rfl, rfl, rfl, rfl, rfl, rfl, rfl, rfl, rfl, trivial⟩ rfl (kGF rfl (kGF rfl (kGF rfl (kGF rfl (kPickF rfl (kMovC rfl (kMovC rfl (kGF rfl (kGF rfl (kGF rfl (kGF rfl (kPickF rfl (kMovC rfl (kMovC rfl (kMem [(8192, ⟨1, 0, .box [.d _, .d _, .d _, .d _, .d _, .d _, .d _, .d _, .d _, .d _, .d _, .d _, .d _, .d _, .d _, .d _]⟩)] [(1, .c (.ptr 8192 1 0)), (123, .c (.un)), (124, .c (.un)), (122, .c (.d _)), (125, .c (.un)), (126, .c (.un)), (128, .c (.un)), (129, .c (.un)), (127, .c (.un)), (130, .c (.un)), (131, .c (.un))] [] ⟨rfl, trivial⟩ ⟨rfl, rfl, rfl, rfl, rfl, rfl, rfl, rfl, rfl, rfl, rfl, trivial⟩ rfl (kGF rfl (kGF rfl (kGF rfl (kPickF rfl (kMovC rfl (kMovC rfl (kGF rfl (kGF rfl (kGF rfl (kPickF rfl (kMovC rfl (kMovC rfl (kDone (kRet (endRetA (ra := [.one (.d _)]) rfl ?_)))))))))))))))))))))))))))))))))))))))))))))))))))))))))))))))))))))))))))))))))))
    all_goals (refine congrArg (fun z : Bool => [RA.one (RV.d (DV.sc (Value.bool z)))]) ?_)
    all_goals first
      | (simp [txnOkE, ipOk, clientOk, *]; done)
      | (simp [txnOkE, ipOk, clientOk, *]; omega)
      | (rw [Bool.eq_iff_iff]; simp [txnOkE, ipOk, clientOk, *]; done)
      | (rw [Bool.eq_iff_iff]; simp [txnOkE, ipOk, clientOk, *]; omega)
      | (simp_all [txnOkE, ipOk, clientOk]; done)
      | (simp_all [txnOkE, ipOk, clientOk]; omega)
  · refine kSeq (kReg (kBox rfl rfl rfl rfl rfl (kMovC rfl (kDone (kSeq (kSeq (kReg (kFadP rfl rfl (kLoadP rfl rfl rfl (kDone (kBlock (kSeq (kReg (kBin rfl rfl rfl (kMovC rfl (kDone (kCondF rfl (kSeq (kReg (kBin rfl rfl rfl (kMovC rfl (kDone (kCondT rfl (kSeq (kReg (kFadP rfl rfl (kLoadP rfl rfl rfl (kMem [(8192, ⟨1, 0, .box [.d _, .d _, .d _, .d _, .d _, .d _, .d _, .d _, .d _, .d _, .d _, .d _, .d _, .d _, .d _, .d _]⟩)] [(47, .g [.d _, .d _, .d _, .d _, .d _, .d _, .d _, .d _, .d _, .d _, .d _]), (48, .c (.un)), (1, .c (.ptr 8192 1 0)), (50, .c (.un)), (51, .c (.un)), (49, .c (.un)), (52, .c (.un)), (53, .c (.un)), (55, .c (.un)), (56, .c (.un)), (54, .c (.un)), (57, .c (.un)), (58, .c (.un)), (60, .c (.un)), (61, .c (.un)), (59, .c (.un)), (62, .c (.un)), (63, .c (.un)), (65, .c (.un)), (66, .c (.un)), (64, .c (.un)), (67, .c (.un)), (68, .c (.un)), (70, .c (.un)), (71, .c (.un)), (69, .c (.un)), (72, .c (.un)), (73, .c (.un))] [] ⟨rfl, trivial⟩ ⟨rfl, rfl, rfl, rfl, rfl, rfl, rfl, rfl, rfl, rfl, rfl, rfl, rfl, rfl, rfl, rfl, rfl, rfl, rfl, rfl, rfl, rfl, rfl, rfl, rfl, rfl, rfl, rfl, trivial⟩ rfl (kCallD (ok_spec_l9emptyMsg) ⟨⟨⟨rfl, rfl, rfl, rfl, rfl, rfl, rfl, rfl, rfl, rfl, rfl, trivial⟩, Nat.le_of_ble_eq_true rfl⟩, trivial⟩ rfl rfl rfl rfl rfl (kMovC rfl (kGT rfl (kFadP rfl rfl (kGT rfl (kLoadP rfl rfl rfl (kGT rfl (kCallD (ok_spec_l8ip _) ⟨rfl, trivial⟩ rfl rfl rfl rfl rfl (kPickT rfl (kMovC rfl (kMovC rfl (kGP rfl (fun g0 => kGT rfl (kFadP rfl rfl (kGT rfl (kLoadP rfl rfl rfl (kMem [(8192, ⟨1, 0, .box [.d _, .d _, .d _, .d _, .d _, .d _, .d _, .d _, .d _, .d _, .d _, .d _, .d _, .d _, .d _, .d _]⟩)] [(56, .c (.d _)), (54, .c (.d _)), (57, .c (.un)), (58, .c (.un)), (1, .c (.ptr 8192 1 0)), (60, .c (.un)), (61, .c (.un)), (59, .c (.un)), (62, .c (.un)), (63, .c (.un)), (65, .c (.un)), (66, .c (.un)), (64, .c (.un)), (67, .c (.un)), (68, .c (.un)), (70, .c (.un)), (71, .c (.un)), (69, .c (.un)), (72, .c (.un)), (73, .c (.un))] [] ⟨rfl, trivial⟩ ⟨rfl, rfl, rfl, rfl, rfl, rfl, rfl, rfl, rfl, rfl, rfl, rfl, rfl, rfl, rfl, rfl, rfl, rfl, rfl, rfl, trivial⟩ rfl (kGT rfl (kCallD (ok_spec_l7client _) ⟨rfl, trivial⟩ rfl rfl rfl rfl rfl (kPickT rfl (kMovC rfl (kMovC rfl (kGP rfl (fun g1 => kGT rfl (kFadP rfl rfl (kGT rfl (kLoadP rfl rfl rfl (kGT rfl (kCallD (ok_spec_LabelOk _ (by first | assumption | omega | solve_by_elim [List.getElem_mem] | (simp only [szOut] at *; omega))) ⟨rfl, trivial⟩ rfl rfl rfl rfl rfl (kPickT rfl (kMovC rfl (kMovC rfl (kGS rfl (fun g2 => kGT rfl (kFadP rfl rfl (kMem [(8192, ⟨1, 0, .box [.d _, .d _, .d _, .d _, .d _, .d _, .d _, .d _, .d _, .d _, .d _, .d _, .d _, .d _, .d _, .d _]⟩)] [(65, .c (.ptr 8192 1 15)), (66, .c (.un)), (64, .c (.d _)), (67, .c (.un)), (68, .c (.un)), (1, .c (.ptr 8192 1 0)), (70, .c (.un)), (71, .c (.un)), (69, .c (.un)), (72, .c (.un)), (73, .c (.un))] [] ⟨rfl, trivial⟩ ⟨rfl, rfl, rfl, rfl, rfl, rfl, rfl, rfl, rfl, rfl, rfl, trivial⟩ rfl (kGT rfl (kLoadP rfl rfl rfl (kGT rfl (kBin rfl rfl rfl (kPickT rfl (kMovC rfl (kMovC rfl (kGP rfl (fun g3 => kGT rfl (kFadP rfl rfl (kGT rfl (kLoadP rfl rfl rfl (kGT rfl (kBin rfl rfl rfl (kPickT rfl (kMovC rfl (kMovC rfl (kDone (kRet (endRetA (ra := [.one (.d _)]) rfl ?_)))))))))))) (fun g3 => kGF rfl (kGF rfl (kGF rfl (kPickF rfl (kMovC rfl (kMovC rfl (kDone (kRet (endRetA (ra := [.one (.d _)]) rfl ?_)))))))))))))))))))) (fun g2 => kGF rfl (kMem [(8192, ⟨1, 0, .box [.d _, .d _, .d _, .d _, .d _, .d _, .d _, .d _, .d _, .d _, .d _, .d _, .d _, .d _, .d _, .d _]⟩)] [(65, .c (.un)), (66, .c (.un)), (64, .c (.d _)), (67, .c (.un)), (68, .c (.un)), (1, .c (.ptr 8192 1 0)), (70, .c (.un)), (71, .c (.un)), (69, .c (.un)), (72, .c (.un)), (73, .c (.un))] [] ⟨rfl, trivial⟩ ⟨rfl, rfl, rfl, rfl, rfl, rfl, rfl, rfl, rfl, rfl, rfl, trivial⟩ rfl (kGF rfl (kGF rfl (kPickF rfl (kMovC rfl (kMovC rfl (kGF rfl (kGF rfl (kGF rfl (kPickF rfl (kMovC rfl (kMovC rfl (kDone (kRet (endRetA (ra := [.one (.d _)]) rfl ?_)))))))))))))))))))))))))) (fun g1 => kGF rfl (kGF rfl (kGF rfl (kPickF rfl (kMovC rfl (kMovC rfl (kGF rfl (kGF rfl (kGF rfl (kMem [(8192, ⟨1, 0, .box [.d _, .d _, .d _, .d _, .d _, .d _, .d _, .d _, .d _, .d _, .d _, .d _, .d _, .d _, .d _, .d _]⟩)] [(64, .c (.d _)), (67, .c (.un)), (68, .c (.un)), (1, .c (.ptr 8192 1 0)), (70, .c (.un)), (71, .c (.un)), (69, .c (.un)), (72, .c (.un)), (73, .c (.un))] [] ⟨rfl, trivial⟩ ⟨rfl, rfl, rfl, rfl, rfl, rfl, rfl, rfl, rfl, trivial⟩ rfl (kPickF rfl (kMovC rfl (kMovC rfl (kGF rfl (kGF rfl (kGF rfl (kPickF rfl (kMovC rfl (kMovC rfl (kDone (kRet (endRetA (ra := [.one (.d _)]) rfl ?_))))))))))))))))))))))))))))))))) (fun g0 => kGF rfl (kGF rfl (kGF rfl (kMem [(8192, ⟨1, 0, .box [.d _, .d _, .d _, .d _, .d _, .d _, .d _, .d _, .d _, .d _, .d _, .d _, .d _, .d _, .d _, .d _]⟩)] [(54, .c (.d _)), (57, .c (.un)), (58, .c (.un)), (1, .c (.ptr 8192 1 0)), (60, .c (.un)), (61, .c (.un)), (59, .c (.un)), (62, .c (.un)), (63, .c (.un)), (65, .c (.un)), (66, .c (.un)), (64, .c (.un)), (67, .c (.un)), (68, .c (.un)), (70, .c (.un)), (71, .c (.un)), (69, .c (.un)), (72, .c (.un)), (73, .c (.un))] [] ⟨rfl, trivial⟩ ⟨rfl, rfl, rfl, rfl, rfl, rfl, rfl, rfl, rfl, rfl, rfl, rfl, rfl, rfl, rfl, rfl, rfl, rfl, rfl, trivial⟩ rfl (kPickF rfl (kMovC rfl (kMovC rfl (kGF rfl (kGF rfl (kGF rfl (kPickF rfl (kMovC rfl (kMovC rfl (kGF rfl (kGF rfl (kGF rfl (kPickF rfl (kMovC rfl (kMovC rfl (kMem [(8192, ⟨1, 0, .box [.d _, .d _, .d _, .d _, .d _, .d _, .d _, .d _, .d _, .d _, .d _, .d _, .d _, .d _, .d _, .d _]⟩)] [(1, .c (.ptr 8192 1 0)), (70, .c (.un)), (71, .c (.un)), (69, .c (.d _)), (72, .c (.un)), (73, .c (.un))] [] ⟨rfl, trivial⟩ ⟨rfl, rfl, rfl, rfl, rfl, rfl, trivial⟩ rfl (kGF rfl (kGF rfl (kGF rfl (kPickF rfl (kMovC rfl (kMovC rfl (kDone (kRet (endRetA (ra := [.one (.d _)]) rfl ?_)))))))))))))))))))))))))))))))))))))))))))))))))))))))))))))))))))))
    all_goals (refine congrArg (fun z : Bool => [RA.one (RV.d (DV.sc (Value.bool z)))]) ?_)
    all_goals first
      | (simp [txnOkE, ipOk, clientOk, *]; done)
      | (simp [txnOkE, ipOk, clientOk, *]; omega)
      | (rw [Bool.eq_iff_iff]; simp [txnOkE, ipOk, clientOk, *]; done)
      | (rw [Bool.eq_iff_iff]; simp [txnOkE, ipOk, clientOk, *]; omega)
      | (simp_all [txnOkE, ipOk, clientOk]; done)
      | (simp_all [txnOkE, ipOk, clientOk]; omega)
  · refine kSeq (kReg (kBox rfl rfl rfl rfl rfl (kMovC rfl (kDone (kSeq (kSeq (kReg (kFadP rfl rfl (kLoadP rfl rfl rfl (kDone (kBlock (kSeq (kReg (kBin rfl rfl rfl (kMovC rfl (kDone (kCondF rfl (kSeq (kReg (kBin rfl rfl rfl (kMovC rfl (kDone (kCondF rfl (kSeq (kReg (kBin rfl rfl rfl (kMovC rfl (kDone (kCondT rfl (kSeq (kReg (kMem [(8192, ⟨1, 0, .box [.d _, .d _, .d _, .d _, .d _, .d _, .d _, .d _, .d _, .d _, .d _, .d _, .d _, .d _, .d _, .d _]⟩)] [(1, .c (.ptr 8192 1 0)), (76, .c (.un)), (77, .c (.un)), (78, .c (.un)), (80, .c (.un)), (81, .c (.un)), (79, .c (.un)), (82, .c (.un)), (83, .c (.un)), (85, .c (.un)), (86, .c (.un)), (84, .c (.un)), (87, .c (.un)), (88, .c (.un)), (90, .c (.un)), (91, .c (.un)), (92, .c (.un)), (89, .c (.un)), (93, .c (.un)), (94, .c (.un)), (96, .c (.un)), (97, .c (.un)), (95, .c (.un)), (98, .c (.un)), (99, .c (.un))] [] ⟨rfl, trivial⟩ ⟨rfl, rfl, rfl, rfl, rfl, rfl, rfl, rfl, rfl, rfl, rfl, rfl, rfl, rfl, rfl, rfl, rfl, rfl, rfl, rfl, rfl, rfl, rfl, rfl, rfl, trivial⟩ rfl (kFadP rfl rfl (kLoadP rfl rfl rfl (kCallD (ok_spec_l9emptyMsg) ⟨⟨⟨rfl, rfl, rfl, rfl, rfl, rfl, rfl, rfl, rfl, rfl, rfl, trivial⟩, Nat.le_of_ble_eq_true rfl⟩, trivial⟩ rfl rfl rfl rfl rfl (kMovC rfl (kGT rfl (kFadP rfl rfl (kGT rfl (kLoadP rfl rfl rfl (kGT rfl (kCallD (ok_spec_l8ip _) ⟨rfl, trivial⟩ rfl rfl rfl rfl rfl (kPickT rfl (kMovC rfl (kMovC rfl (kGP rfl (fun g0 => kMem [(8192, ⟨1, 0, .box [.d _, .d _, .d _, .d _, .d _, .d _, .d _, .d _, .d _, .d _, .d _, .d _, .d _, .d _, .d _, .d _]⟩)] [(1, .c (.ptr 8192 1 0)), (85, .c (.un)), (86, .c (.un)), (84, .c (.d _)), (87, .c (.un)), (88, .c (.un)), (90, .c (.un)), (91, .c (.un)), (92, .c (.un)), (89, .c (.un)), (93, .c (.un)), (94, .c (.un)), (96, .c (.un)), (97, .c (.un)), (95, .c (.un)), (98, .c (.un)), (99, .c (.un))] [] ⟨rfl, trivial⟩ ⟨rfl, rfl, rfl, rfl, rfl, rfl, rfl, rfl, rfl, rfl, rfl, rfl, rfl, rfl, rfl, rfl, rfl, trivial⟩ rfl (kGT rfl (kFadP rfl rfl (kGT rfl (kLoadP rfl rfl rfl (kGT rfl (kCallD (ok_spec_l7client _) ⟨rfl, trivial⟩ rfl rfl rfl rfl rfl (kPickT rfl (kMovC rfl (kMovC rfl (kGP rfl (fun g1 => kGT rfl (kFadP rfl rfl (kGT rfl (kLoadP rfl rfl rfl (kGT rfl (kLenR rfl rfl (kGT rfl (kBin rfl rfl rfl (kMem [(8192, ⟨1, 0, .box [.d _, .d _, .d _, .d _, .d _, .d _, .d _, .d _, .d _, .d _, .d _, .d _, .d _, .d _, .d _, .d _]⟩)] [(89, .c (.d _)), (93, .c (.d _)), (94, .c (.un)), (1, .c (.ptr 8192 1 0)), (96, .c (.un)), (97, .c (.un)), (95, .c (.un)), (98, .c (.un)), (99, .c (.un))] [] ⟨rfl, trivial⟩ ⟨rfl, rfl, rfl, rfl, rfl, rfl, rfl, rfl, rfl, trivial⟩ rfl (kPickT rfl (kMovC rfl (kMovC rfl (kGP rfl (fun g2 => kGT rfl (kFadP rfl rfl (kGT rfl (kLoadP rfl rfl rfl (kGT rfl (kBin rfl rfl rfl (kPickT rfl (kMovC rfl (kMovC rfl (kDone (kRet (endRetA (ra := [.one (.d _)]) rfl ?_)))))))))))) (fun g2 => (by omega))))))))))))))) (fun g1 => kGF rfl (kGF rfl (kGF rfl (kGF rfl (kPickF rfl (kMovC rfl (kMem [(8192, ⟨1, 0, .box [.d _, .d _, .d _, .d _, .d _, .d _, .d _, .d _, .d _, .d _, .d _, .d _, .d _, .d _, .d _, .d _]⟩)] [(94, .c (.d _)), (1, .c (.ptr 8192 1 0)), (96, .c (.un)), (97, .c (.un)), (95, .c (.un)), (98, .c (.un)), (99, .c (.un))] [] ⟨rfl, trivial⟩ ⟨rfl, rfl, rfl, rfl, rfl, rfl, rfl, trivial⟩ rfl (kMovC rfl (kGF rfl (kGF rfl (kGF rfl (kPickF rfl (kMovC rfl (kMovC rfl (kDone (kRet (endRetA (ra := [.one (.d _)]) rfl ?_)))))))))))))))))))))))))))) (fun g0 => kMem [(8192, ⟨1, 0, .box [.d _, .d _, .d _, .d _, .d _, .d _, .d _, .d _, .d _, .d _, .d _, .d _, .d _, .d _, .d _, .d _]⟩)] [(1, .c (.ptr 8192 1 0)), (85, .c (.un)), (86, .c (.un)), (84, .c (.d _)), (87, .c (.un)), (88, .c (.un)), (90, .c (.un)), (91, .c (.un)), (92, .c (.un)), (89, .c (.un)), (93, .c (.un)), (94, .c (.un)), (96, .c (.un)), (97, .c (.un)), (95, .c (.un)), (98, .c (.un)), (99, .c (.un))] [] ⟨rfl, trivial⟩ ⟨rfl, rfl, rfl, rfl, rfl, rfl, rfl, rfl, rfl, rfl, rfl, rfl, rfl, rfl, rfl, rfl, rfl, trivial⟩ rfl (kGF rfl (kGF rfl (kGF rfl (kPickF rfl (kMovC rfl (kMovC rfl (kGF rfl (kGF rfl (kGF rfl (kGF rfl (kPickF rfl (kMovC rfl (kMovC rfl (kGF rfl (kGF rfl (kGF rfl (kPickF rfl (kMovC rfl (kMovC rfl (kDone (kRet (endRetA (ra := [.one (.d _)]) rfl ?_)))))))))))))))))))))))))))))))))))))))))))))))))))))))))))))))))))))
    all_goals (refine congrArg (fun z : Bool => [RA.one (RV.d (DV.sc (Value.bool z)))]) ?_)
    all_goals first
      | (simp [txnOkE, ipOk, clientOk, *]; done)
      | (simp [txnOkE, ipOk, clientOk, *]; omega)
      | (rw [Bool.eq_iff_iff]; simp [txnOkE, ipOk, clientOk, *]; done)
      | (rw [Bool.eq_iff_iff]; simp [txnOkE, ipOk, clientOk, *]; omega)
      | (simp_all [txnOkE, ipOk, clientOk]; done)
      | (simp_all [txnOkE, ipOk, clientOk]; omega)
  · refine kSeq (kReg (kBox rfl rfl rfl rfl rfl (kMovC rfl (kDone (kSeq (kSeq (kReg (kFadP rfl rfl (kLoadP rfl rfl rfl (kDone (kBlock (kSeq (kReg (kBin rfl rfl rfl (kMovC rfl (kDone (kCondF rfl (kSeq (kReg (kBin rfl rfl rfl (kMovC rfl (kDone (kCondF rfl (kSeq (kReg (kBin rfl rfl rfl (kMovC rfl (kDone (kCondF rfl (kSeq (kReg (kBin rfl rfl rfl (kMovC rfl (kDone (kCondT rfl (kSeq (kReg (kMem [(8192, ⟨1, 0, .box [.d _, .d _, .d _, .d _, .d _, .d _, .d _, .d _, .d _, .d _, .d _, .d _, .d _, .d _, .d _, .d _]⟩)] [(1, .c (.ptr 8192 1 0)), (102, .c (.un)), (103, .c (.un)), (104, .c (.un)), (106, .c (.un)), (107, .c (.un)), (105, .c (.un)), (108, .c (.un)), (109, .c (.un)), (111, .c (.un)), (112, .c (.un)), (113, .c (.un)), (110, .c (.un)), (114, .c (.un)), (115, .c (.un)), (117, .c (.un)), (118, .c (.un)), (119, .c (.un)), (116, .c (.un)), (120, .c (.un)), (121, .c (.un)), (123, .c (.un)), (124, .c (.un)), (122, .c (.un)), (125, .c (.un)), (126, .c (.un)), (128, .c (.un)), (129, .c (.un)), (127, .c (.un)), (130, .c (.un)), (131, .c (.un))] [] ⟨rfl, trivial⟩ ⟨rfl, rfl, rfl, rfl, rfl, rfl, rfl, rfl, rfl, rfl, rfl, rfl, rfl, rfl, rfl, rfl, rfl, rfl, rfl, rfl, rfl, rfl, rfl, rfl, rfl, rfl, rfl, rfl, rfl, rfl, rfl, trivial⟩ rfl (kFadP rfl rfl (kLoadP rfl rfl rfl (kCallD (ok_spec_l9emptyMsg) ⟨⟨⟨rfl, rfl, rfl, rfl, rfl, rfl, rfl, rfl, rfl, rfl, rfl, trivial⟩, Nat.le_of_ble_eq_true rfl⟩, trivial⟩ rfl rfl rfl rfl rfl (kMovC rfl (kGT rfl (kFadP rfl rfl (kGT rfl (kLoadP rfl rfl rfl (kGT rfl (kBin rfl rfl rfl (kPickT rfl (kMovC rfl (kMovC rfl (kGP rfl (fun g0 => kMem [(8192, ⟨1, 0, .box [.d _, .d _, .d _, .d _, .d _, .d _, .d _, .d _, .d _, .d _, .d _, .d _, .d _, .d _, .d _, .d _]⟩)] [(1, .c (.ptr 8192 1 0)), (111, .c (.un)), (112, .c (.un)), (113, .c (.un)), (110, .c (.d _)), (114, .c (.un)), (115, .c (.un)), (117, .c (.un)), (118, .c (.un)), (119, .c (.un)), (116, .c (.un)), (120, .c (.un)), (121, .c (.un)), (123, .c (.un)), (124, .c (.un)), (122, .c (.un)), (125, .c (.un)), (126, .c (.un)), (128, .c (.un)), (129, .c (.un)), (127, .c (.un)), (130, .c (.un)), (131, .c (.un))] [] ⟨rfl, trivial⟩ ⟨rfl, rfl, rfl, rfl, rfl, rfl, rfl, rfl, rfl, rfl, rfl, rfl, rfl, rfl, rfl, rfl, rfl, rfl, rfl, rfl, rfl, rfl, rfl, trivial⟩ rfl (kGT rfl (kFadP rfl rfl (kGT rfl (kLoadP rfl rfl rfl (kGT rfl (kLenR rfl rfl (kGT rfl (kBin rfl rfl rfl (kPickT rfl (kMovC rfl (kMovC rfl (kGP rfl (fun g1 => (by omega)) (fun g1 => kGF rfl (kGF rfl (kGF rfl (kGF rfl (kMem [(8192, ⟨1, 0, .box [.d _, .d _, .d _, .d _, .d _, .d _, .d _, .d _, .d _, .d _, .d _, .d _, .d _, .d _, .d _, .d _]⟩)] [(116, .c (.d _)), (120, .c (.un)), (121, .c (.un)), (1, .c (.ptr 8192 1 0)), (123, .c (.un)), (124, .c (.un)), (122, .c (.un)), (125, .c (.un)), (126, .c (.un)), (128, .c (.un)), (129, .c (.un)), (127, .c (.un)), (130, .c (.un)), (131, .c (.un))] [] ⟨rfl, trivial⟩ ⟨rfl, rfl, rfl, rfl, rfl, rfl, rfl, rfl, rfl, rfl, rfl, rfl, rfl, rfl, trivial⟩ rfl (kPickF rfl (kMovC rfl (kMovC rfl (kGF rfl (kGF rfl (kGF rfl (kPickF rfl (kMovC rfl (kMovC rfl (kGF rfl (kGF rfl (kGF rfl (kPickF rfl (kMovC rfl (kMovC rfl (kDone (kRet (endRetA (ra := [.one (.d _)]) rfl ?_)))))))))))))))))))))))))))))))))))) (fun g0 => kMem [(8192, ⟨1, 0, .box [.d _, .d _, .d _, .d _, .d _, .d _, .d _, .d _, .d _, .d _, .d _, .d _, .d _, .d _, .d _, .d _]⟩)] [(1, .c (.ptr 8192 1 0)), (111, .c (.un)), (112, .c (.un)), (113, .c (.un)), (110, .c (.d _)), (114, .c (.un)), (115, .c (.un)), (117, .c (.un)), (118, .c (.un)), (119, .c (.un)), (116, .c (.un)), (120, .c (.un)), (121, .c (.un)), (123, .c (.un)), (124, .c (.un)), (122, .c (.un)), (125, .c (.un)), (126, .c (.un)), (128, .c (.un)), (129, .c (.un)), (127, .c (.un)), (130, .c (.un)), (131, .c (.un))] [] ⟨rfl, trivial⟩ ⟨rfl, rfl, rfl, rfl, rfl, rfl, rfl, rfl, rfl, rfl, rfl, rfl, rfl, rfl, rfl, rfl, rfl, rfl, rfl, rfl, rfl, rfl, rfl, trivial⟩ rfl (kGF rfl (kGF rfl (kGF rfl (kGF rfl (kPickF rfl (kMovC rfl (kMovC rfl (kGF rfl (kGF rfl (kGF rfl (kGF rfl (kPickF rfl (kMovC rfl (kMovC rfl (kMem [(8192, ⟨1, 0, .box [.d _, .d _, .d _, .d _, .d _, .d _, .d _, .d _, .d _, .d _, .d _, .d _, .d _, .d _, .d _, .d _]⟩)] [(1, .c (.ptr 8192 1 0)), (123, .c (.un)), (124, .c (.un)), (122, .c (.d _)), (125, .c (.un)), (126, .c (.un)), (128, .c (.un)), (129, .c (.un)), (127, .c (.un)), (130, .c (.un)), (131, .c (.un))] [] ⟨rfl, trivial⟩ ⟨rfl, rfl, rfl, rfl, rfl, rfl, rfl, rfl, rfl, rfl, rfl, trivial⟩ rfl (kGF rfl (kGF rfl (kGF rfl (kPickF rfl (kMovC rfl (kMovC rfl (kGF rfl (kGF rfl (kGF rfl (kPickF rfl (kMovC rfl (kMovC rfl (kDone (kRet (endRetA (ra := [.one (.d _)]) rfl ?_)))))))))))))))))))))))))))))))))))))))))))))))))))))))))))))))))))))))))))))))))))
    all_goals (refine congrArg (fun z : Bool => [RA.one (RV.d (DV.sc (Value.bool z)))]) ?_)
    all_goals first
      | (simp [txnOkE, ipOk, clientOk, *]; done)
      | (simp [txnOkE, ipOk, clientOk, *]; omega)
      | (rw [Bool.eq_iff_iff]; simp [txnOkE, ipOk, clientOk, *]; done)
      | (rw [Bool.eq_iff_iff]; simp [txnOkE, ipOk, clientOk, *]; omega)
      | (simp_all [txnOkE, ipOk, clientOk]; done)
      | (simp_all [txnOkE, ipOk, clientOk]; omega)
  · refine kSeq (kReg (kBox rfl rfl rfl rfl rfl (kMovC rfl (kDone (kSeq (kSeq (kReg (kFadP rfl rfl (kLoadP rfl rfl rfl (kDone (kBlock (kSeq (kReg (kBin rfl rfl rfl (kMovC rfl (kDone (kCondF rfl (kSeq (kReg (kBin rfl rfl rfl (kMovC rfl (kDone (kCondT rfl (kSeq (kReg (kFadP rfl rfl (kLoadP rfl rfl rfl (kMem [(8192, ⟨1, 0, .box [.d _, .d _, .d _, .d _, .d _, .d _, .d _, .d _, .d _, .d _, .d _, .d _, .d _, .d _, .d _, .d _]⟩)] [(47, .g [.d _, .d _, .d _, .d _, .d _, .d _, .d _, .d _, .d _, .d _, .d _]), (48, .c (.un)), (1, .c (.ptr 8192 1 0)), (50, .c (.un)), (51, .c (.un)), (49, .c (.un)), (52, .c (.un)), (53, .c (.un)), (55, .c (.un)), (56, .c (.un)), (54, .c (.un)), (57, .c (.un)), (58, .c (.un)), (60, .c (.un)), (61, .c (.un)), (59, .c (.un)), (62, .c (.un)), (63, .c (.un)), (65, .c (.un)), (66, .c (.un)), (64, .c (.un)), (67, .c (.un)), (68, .c (.un)), (70, .c (.un)), (71, .c (.un)), (69, .c (.un)), (72, .c (.un)), (73, .c (.un))] [] ⟨rfl, trivial⟩ ⟨rfl, rfl, rfl, rfl, rfl, rfl, rfl, rfl, rfl, rfl, rfl, rfl, rfl, rfl, rfl, rfl, rfl, rfl, rfl, rfl, rfl, rfl, rfl, rfl, rfl, rfl, rfl, rfl, trivial⟩ rfl (kCallD (ok_spec_l9emptyMsg) ⟨⟨⟨rfl, rfl, rfl, rfl, rfl, rfl, rfl, rfl, rfl, rfl, rfl, trivial⟩, Nat.le_of_ble_eq_true rfl⟩, trivial⟩ rfl rfl rfl rfl rfl (kMovC rfl (kGT rfl (kFadP rfl rfl (kGT rfl (kLoadP rfl rfl rfl (kGT rfl (kCallD (ok_spec_l8ip _) ⟨rfl, trivial⟩ rfl rfl rfl rfl rfl (kPickT rfl (kMovC rfl (kMovC rfl (kGP rfl (fun g0 => kGT rfl (kFadP rfl rfl (kGT rfl (kLoadP rfl rfl rfl (kMem [(8192, ⟨1, 0, .box [.d _, .d _, .d _, .d _, .d _, .d _, .d _, .d _, .d _, .d _, .d _, .d _, .d _, .d _, .d _, .d _]⟩)] [(56, .c (.d _)), (54, .c (.d _)), (57, .c (.un)), (58, .c (.un)), (1, .c (.ptr 8192 1 0)), (60, .c (.un)), (61, .c (.un)), (59, .c (.un)), (62, .c (.un)), (63, .c (.un)), (65, .c (.un)), (66, .c (.un)), (64, .c (.un)), (67, .c (.un)), (68, .c (.un)), (70, .c (.un)), (71, .c (.un)), (69, .c (.un)), (72, .c (.un)), (73, .c (.un))] [] ⟨rfl, trivial⟩ ⟨rfl, rfl, rfl, rfl, rfl, rfl, rfl, rfl, rfl, rfl, rfl, rfl, rfl, rfl, rfl, rfl, rfl, rfl, rfl, rfl, trivial⟩ rfl (kGT rfl (kCallD (ok_spec_l7client _) ⟨rfl, trivial⟩ rfl rfl rfl rfl rfl (kPickT rfl (kMovC rfl (kMovC rfl (kGP rfl (fun g1 => (by omega)) (fun g1 => kGF rfl (kGF rfl (kGF rfl (kPickF rfl (kMovC rfl (kMovC rfl (kGF rfl (kGF rfl (kGF rfl (kMem [(8192, ⟨1, 0, .box [.d _, .d _, .d _, .d _, .d _, .d _, .d _, .d _, .d _, .d _, .d _, .d _, .d _, .d _, .d _, .d _]⟩)] [(64, .c (.d _)), (67, .c (.un)), (68, .c (.un)), (1, .c (.ptr 8192 1 0)), (70, .c (.un)), (71, .c (.un)), (69, .c (.un)), (72, .c (.un)), (73, .c (.un))] [] ⟨rfl, trivial⟩ ⟨rfl, rfl, rfl, rfl, rfl, rfl, rfl, rfl, rfl, trivial⟩ rfl (kPickF rfl (kMovC rfl (kMovC rfl (kGF rfl (kGF rfl (kGF rfl (kPickF rfl (kMovC rfl (kMovC rfl (kDone (kRet (endRetA (ra := [.one (.d _)]) rfl ?_))))))))))))))))))))))))))))))))) (fun g0 => kGF rfl (kGF rfl (kGF rfl (kMem [(8192, ⟨1, 0, .box [.d _, .d _, .d _, .d _, .d _, .d _, .d _, .d _, .d _, .d _, .d _, .d _, .d _, .d _, .d _, .d _]⟩)] [(54, .c (.d _)), (57, .c (.un)), (58, .c (.un)), (1, .c (.ptr 8192 1 0)), (60, .c (.un)), (61, .c (.un)), (59, .c (.un)), (62, .c (.un)), (63, .c (.un)), (65, .c (.un)), (66, .c (.un)), (64, .c (.un)), (67, .c (.un)), (68, .c (.un)), (70, .c (.un)), (71, .c (.un)), (69, .c (.un)), (72, .c (.un)), (73, .c (.un))] [] ⟨rfl, trivial⟩ ⟨rfl, rfl, rfl, rfl, rfl, rfl, rfl, rfl, rfl, rfl, rfl, rfl, rfl, rfl, rfl, rfl, rfl, rfl, rfl, trivial⟩ rfl (kPickF rfl (kMovC rfl (kMovC rfl (kGF rfl (kGF rfl (kGF rfl (kPickF rfl (kMovC rfl (kMovC rfl (kGF rfl (kGF rfl (kGF rfl (kPickF rfl (kMovC rfl (kMovC rfl (kMem [(8192, ⟨1, 0, .box [.d _, .d _, .d _, .d _, .d _, .d _, .d _, .d _, .d _, .d _, .d _, .d _, .d _, .d _, .d _, .d _]⟩)] [(1, .c (.ptr 8192 1 0)), (70, .c (.un)), (71, .c (.un)), (69, .c (.d _)), (72, .c (.un)), (73, .c (.un))] [] ⟨rfl, trivial⟩ ⟨rfl, rfl, rfl, rfl, rfl, rfl, trivial⟩ rfl (kGF rfl (kGF rfl (kGF rfl (kPickF rfl (kMovC rfl (kMovC rfl (kDone (kRet (endRetA (ra := [.one (.d _)]) rfl ?_)))))))))))))))))))))))))))))))))))))))))))))))))))))))))))))))))))))
    all_goals (refine congrArg (fun z : Bool => [RA.one (RV.d (DV.sc (Value.bool z)))]) ?_)
    all_goals first
      | (simp [txnOkE, ipOk, clientOk, *]; done)
      | (simp [txnOkE, ipOk, clientOk, *]; omega)
      | (rw [Bool.eq_iff_iff]; simp [txnOkE, ipOk, clientOk, *]; done)
      | (rw [Bool.eq_iff_iff]; simp [txnOkE, ipOk, clientOk, *]; omega)
      | (simp_all [txnOkE, ipOk, clientOk]; done)
      | (simp_all [txnOkE, ipOk, clientOk]; omega)
  · refine kSeq (kReg (kBox rfl rfl rfl rfl rfl (kMovC rfl (kDone (kSeq (kSeq (kReg (kFadP rfl rfl (kLoadP rfl rfl rfl (kDone (kBlock (kSeq (kReg (kBin rfl rfl rfl (kMovC rfl (kDone (kCondF rfl (kSeq (kReg (kBin rfl rfl rfl (kMovC rfl (kDone (kCondF rfl (kSeq (kReg (kBin rfl rfl rfl (kMovC rfl (kDone (kCondT rfl (kSeq (kReg (kMem [(8192, ⟨1, 0, .box [.d _, .d _, .d _, .d _, .d _, .d _, .d _, .d _, .d _, .d _, .d _, .d _, .d _, .d _, .d _, .d _]⟩)] [(1, .c (.ptr 8192 1 0)), (76, .c (.un)), (77, .c (.un)), (78, .c (.un)), (80, .c (.un)), (81, .c (.un)), (79, .c (.un)), (82, .c (.un)), (83, .c (.un)), (85, .c (.un)), (86, .c (.un)), (84, .c (.un)), (87, .c (.un)), (88, .c (.un)), (90, .c (.un)), (91, .c (.un)), (92, .c (.un)), (89, .c (.un)), (93, .c (.un)), (94, .c (.un)), (96, .c (.un)), (97, .c (.un)), (95, .c (.un)), (98, .c (.un)), (99, .c (.un))] [] ⟨rfl, trivial⟩ ⟨rfl, rfl, rfl, rfl, rfl, rfl, rfl, rfl, rfl, rfl, rfl, rfl, rfl, rfl, rfl, rfl, rfl, rfl, rfl, rfl, rfl, rfl, rfl, rfl, rfl, trivial⟩ rfl (kFadP rfl rfl (kLoadP rfl rfl rfl (kCallD (ok_spec_l9emptyMsg) ⟨⟨⟨rfl, rfl, rfl, rfl, rfl, rfl, rfl, rfl, rfl, rfl, rfl, trivial⟩, Nat.le_of_ble_eq_true rfl⟩, trivial⟩ rfl rfl rfl rfl rfl (kMovC rfl (kGT rfl (kFadP rfl rfl (kGT rfl (kLoadP rfl rfl rfl (kGT rfl (kCallD (ok_spec_l8ip _) ⟨rfl, trivial⟩ rfl rfl rfl rfl rfl (kPickT rfl (kMovC rfl (kMovC rfl (kGP rfl (fun g0 => kMem [(8192, ⟨1, 0, .box [.d _, .d _, .d _, .d _, .d _, .d _, .d _, .d _, .d _, .d _, .d _, .d _, .d _, .d _, .d _, .d _]⟩)] [(1, .c (.ptr 8192 1 0)), (85, .c (.un)), (86, .c (.un)), (84, .c (.d _)), (87, .c (.un)), (88, .c (.un)), (90, .c (.un)), (91, .c (.un)), (92, .c (.un)), (89, .c (.un)), (93, .c (.un)), (94, .c (.un)), (96, .c (.un)), (97, .c (.un)), (95, .c (.un)), (98, .c (.un)), (99, .c (.un))] [] ⟨rfl, trivial⟩ ⟨rfl, rfl, rfl, rfl, rfl, rfl, rfl, rfl, rfl, rfl, rfl, rfl, rfl, rfl, rfl, rfl, rfl, trivial⟩ rfl (kGT rfl (kFadP rfl rfl (kGT rfl (kLoadP rfl rfl rfl (kGT rfl (kCallD (ok_spec_l7client _) ⟨rfl, trivial⟩ rfl rfl rfl rfl rfl (kPickT rfl (kMovC rfl (kMovC rfl (kGP rfl (fun g1 => (by omega)) (fun g1 => kGF rfl (kGF rfl (kGF rfl (kGF rfl (kPickF rfl (kMovC rfl (kMem [(8192, ⟨1, 0, .box [.d _, .d _, .d _, .d _, .d _, .d _, .d _, .d _, .d _, .d _, .d _, .d _, .d _, .d _, .d _, .d _]⟩)] [(94, .c (.d _)), (1, .c (.ptr 8192 1 0)), (96, .c (.un)), (97, .c (.un)), (95, .c (.un)), (98, .c (.un)), (99, .c (.un))] [] ⟨rfl, trivial⟩ ⟨rfl, rfl, rfl, rfl, rfl, rfl, rfl, trivial⟩ rfl (kMovC rfl (kGF rfl (kGF rfl (kGF rfl (kPickF rfl (kMovC rfl (kMovC rfl (kDone (kRet (endRetA (ra := [.one (.d _)]) rfl ?_)))))))))))))))))))))))))))) (fun g0 => kMem [(8192, ⟨1, 0, .box [.d _, .d _, .d _, .d _, .d _, .d _, .d _, .d _, .d _, .d _, .d _, .d _, .d _, .d _, .d _, .d _]⟩)] [(1, .c (.ptr 8192 1 0)), (85, .c (.un)), (86, .c (.un)), (84, .c (.d _)), (87, .c (.un)), (88, .c (.un)), (90, .c (.un)), (91, .c (.un)), (92, .c (.un)), (89, .c (.un)), (93, .c (.un)), (94, .c (.un)), (96, .c (.un)), (97, .c (.un)), (95, .c (.un)), (98, .c (.un)), (99, .c (.un))] [] ⟨rfl, trivial⟩ ⟨rfl, rfl, rfl, rfl, rfl, rfl, rfl, rfl, rfl, rfl, rfl, rfl, rfl, rfl, rfl, rfl, rfl, trivial⟩ rfl (kGF rfl (kGF rfl (kGF rfl (kPickF rfl (kMovC rfl (kMovC rfl (kGF rfl (kGF rfl (kGF rfl (kGF rfl (kPickF rfl (kMovC rfl (kMovC rfl (kGF rfl (kGF rfl (kGF rfl (kPickF rfl (kMovC rfl (kMovC rfl (kDone (kRet (endRetA (ra := [.one (.d _)]) rfl ?_)))))))))))))))))))))))))))))))))))))))))))))))))))))))))))))))))))))
    all_goals (refine congrArg (fun z : Bool => [RA.one (RV.d (DV.sc (Value.bool z)))]) ?_)
    all_goals first
      | (simp [txnOkE, ipOk, clientOk, *]; done)
      | (simp [txnOkE, ipOk, clientOk, *]; omega)
      | (rw [Bool.eq_iff_iff]; simp [txnOkE, ipOk, clientOk, *]; done)
      | (rw [Bool.eq_iff_iff]; simp [txnOkE, ipOk, clientOk, *]; omega)
      | (simp_all [txnOkE, ipOk, clientOk]; done)
      | (simp_all [txnOkE, ipOk, clientOk]; omega)
  · refine kSeq (kReg (kBox rfl rfl rfl rfl rfl (kMovC rfl (kDone (kSeq (kSeq (kReg (kFadP rfl rfl (kLoadP rfl rfl rfl (kDone (kBlock (kSeq (kReg (kBin rfl rfl rfl (kMovC rfl (kDone (kCondF rfl (kSeq (kReg (kBin rfl rfl rfl (kMovC rfl (kDone (kCondF rfl (kSeq (kReg (kBin rfl rfl rfl (kMovC rfl (kDone (kCondF rfl (kSeq (kReg (kBin rfl rfl rfl (kMovC rfl (kDone (kCondT rfl (kSeq (kReg (kMem [(8192, ⟨1, 0, .box [.d _, .d _, .d _, .d _, .d _, .d _, .d _, .d _, .d _, .d _, .d _, .d _, .d _, .d _, .d _, .d _]⟩)] [(1, .c (.ptr 8192 1 0)), (102, .c (.un)), (103, .c (.un)), (104, .c (.un)), (106, .c (.un)), (107, .c (.un)), (105, .c (.un)), (108, .c (.un)), (109, .c (.un)), (111, .c (.un)), (112, .c (.un)), (113, .c (.un)), (110, .c (.un)), (114, .c (.un)), (115, .c (.un)), (117, .c (.un)), (118, .c (.un)), (119, .c (.un)), (116, .c (.un)), (120, .c (.un)), (121, .c (.un)), (123, .c (.un)), (124, .c (.un)), (122, .c (.un)), (125, .c (.un)), (126, .c (.un)), (128, .c (.un)), (129, .c (.un)), (127, .c (.un)), (130, .c (.un)), (131, .c (.un))] [] ⟨rfl, trivial⟩ ⟨rfl, rfl, rfl, rfl, rfl, rfl, rfl, rfl, rfl, rfl, rfl, rfl, rfl, rfl, rfl, rfl, rfl, rfl, rfl, rfl, rfl, rfl, rfl, rfl, rfl, rfl, rfl, rfl, rfl, rfl, rfl, trivial⟩ rfl (kFadP rfl rfl (kLoadP rfl rfl rfl (kCallD (ok_spec_l9emptyMsg) ⟨⟨⟨rfl, rfl, rfl, rfl, rfl, rfl, rfl, rfl, rfl, rfl, rfl, trivial⟩, Nat.le_of_ble_eq_true rfl⟩, trivial⟩ rfl rfl rfl rfl rfl (kMovC rfl (kGT rfl (kFadP rfl rfl (kGT rfl (kLoadP rfl rfl rfl (kGT rfl (kBin rfl rfl rfl (kPickT rfl (kMovC rfl (kMovC rfl (kGP rfl (fun g0 => kMem [(8192, ⟨1, 0, .box [.d _, .d _, .d _, .d _, .d _, .d _, .d _, .d _, .d _, .d _, .d _, .d _, .d _, .d _, .d _, .d _]⟩)] [(1, .c (.ptr 8192 1 0)), (111, .c (.un)), (112, .c (.un)), (113, .c (.un)), (110, .c (.d _)), (114, .c (.un)), (115, .c (.un)), (117, .c (.un)), (118, .c (.un)), (119, .c (.un)), (116, .c (.un)), (120, .c (.un)), (121, .c (.un)), (123, .c (.un)), (124, .c (.un)), (122, .c (.un)), (125, .c (.un)), (126, .c (.un)), (128, .c (.un)), (129, .c (.un)), (127, .c (.un)), (130, .c (.un)), (131, .c (.un))] [] ⟨rfl, trivial⟩ ⟨rfl, rfl, rfl, rfl, rfl, rfl, rfl, rfl, rfl, rfl, rfl, rfl, rfl, rfl, rfl, rfl, rfl, rfl, rfl, rfl, rfl, rfl, rfl, trivial⟩ rfl (kGT rfl (kFadP rfl rfl (kGT rfl (kLoadP rfl rfl rfl (kGT rfl (kLenR rfl rfl (kGT rfl (kBin rfl rfl rfl (kPickT rfl (kMovC rfl (kMovC rfl (kGP rfl (fun g1 => kGT rfl (kFadP rfl rfl (kGT rfl (kLoadP rfl rfl rfl (kGT rfl (kLenR rfl rfl (kMem [(8192, ⟨1, 0, .box [.d _, .d _, .d _, .d _, .d _, .d _, .d _, .d _, .d _, .d _, .d _, .d _, .d _, .d _, .d _, .d _]⟩)] [(119, .c (.d _)), (116, .c (.d _)), (120, .c (.un)), (121, .c (.un)), (1, .c (.ptr 8192 1 0)), (123, .c (.un)), (124, .c (.un)), (122, .c (.un)), (125, .c (.un)), (126, .c (.un)), (128, .c (.un)), (129, .c (.un)), (127, .c (.un)), (130, .c (.un)), (131, .c (.un))] [] ⟨rfl, trivial⟩ ⟨rfl, rfl, rfl, rfl, rfl, rfl, rfl, rfl, rfl, rfl, rfl, rfl, rfl, rfl, rfl, trivial⟩ rfl (kGT rfl (kBin rfl rfl rfl (kPickT rfl (kMovC rfl (kMovC rfl (kGP rfl (fun g2 => (by omega)) (fun g2 => kGF rfl (kGF rfl (kGF rfl (kPickF rfl (kMovC rfl (kMovC rfl (kGF rfl (kGF rfl (kGF rfl (kPickF rfl (kMovC rfl (kMovC rfl (kDone (kRet (endRetA (ra := [.one (.d _)]) rfl ?_)))))))))))))))))))))))))))) (fun g1 => (by omega))))))))))))))) (fun g0 => kMem [(8192, ⟨1, 0, .box [.d _, .d _, .d _, .d _, .d _, .d _, .d _, .d _, .d _, .d _, .d _, .d _, .d _, .d _, .d _, .d _]⟩)] [(1, .c (.ptr 8192 1 0)), (111, .c (.un)), (112, .c (.un)), (113, .c (.un)), (110, .c (.d _)), (114, .c (.un)), (115, .c (.un)), (117, .c (.un)), (118, .c (.un)), (119, .c (.un)), (116, .c (.un)), (120, .c (.un)), (121, .c (.un)), (123, .c (.un)), (124, .c (.un)), (122, .c (.un)), (125, .c (.un)), (126, .c (.un)), (128, .c (.un)), (129, .c (.un)), (127, .c (.un)), (130, .c (.un)), (131, .c (.un))] [] ⟨rfl, trivial⟩ ⟨rfl, rfl, rfl, rfl, rfl, rfl, rfl, rfl, rfl, rfl, rfl, rfl, rfl, rfl, rfl, rfl, rfl, rfl, rfl, rfl, rfl, rfl, rfl, trivial⟩ rfl (kGF rfl (kGF rfl (kGF rfl (kGF rfl (kPickF rfl (kMovC rfl (kMovC rfl (kGF rfl (kGF rfl (kGF rfl (kGF rfl (kPickF rfl (kMovC rfl (kMovC rfl (kMem [(8192, ⟨1, 0, .box [.d _, .d _, .d _, .d _, .d _, .d _, .d _, .d _, .d _, .d _, .d _, .d _, .d _, .d _, .d _, .d _]⟩)] [(1, .c (.ptr 8192 1 0)), (123, .c (.un)), (124, .c (.un)), (122, .c (.d _)), (125, .c (.un)), (126, .c (.un)), (128, .c (.un)), (129, .c (.un)), (127, .c (.un)), (130, .c (.un)), (131, .c (.un))] [] ⟨rfl, trivial⟩ ⟨rfl, rfl, rfl, rfl, rfl, rfl, rfl, rfl, rfl, rfl, rfl, trivial⟩ rfl (kGF rfl (kGF rfl (kGF rfl (kPickF rfl (kMovC rfl (kMovC rfl (kGF rfl (kGF rfl (kGF rfl (kPickF rfl (kMovC rfl (kMovC rfl (kDone (kRet (endRetA (ra := [.one (.d _)]) rfl ?_)))))))))))))))))))))))))))))))))))))))))))))))))))))))))))))))))))))))))))))))))))
    all_goals (refine congrArg (fun z : Bool => [RA.one (RV.d (DV.sc (Value.bool z)))]) ?_)
    all_goals first
      | (simp [txnOkE, ipOk, clientOk, *]; done)
      | (simp [txnOkE, ipOk, clientOk, *]; omega)
      | (rw [Bool.eq_iff_iff]; simp [txnOkE, ipOk, clientOk, *]; done)
      | (rw [Bool.eq_iff_iff]; simp [txnOkE, ipOk, clientOk, *]; omega)
      | (simp_all [txnOkE, ipOk, clientOk]; done)
      | (simp_all [txnOkE, ipOk, clientOk]; omega)
  · refine kSeq (kReg (kBox rfl rfl rfl rfl rfl (kMovC rfl (kDone (kSeq (kSeq (kReg (kFadP rfl rfl (kLoadP rfl rfl rfl (kDone (kBlock (kSeq (kReg (kBin rfl rfl rfl (kMovC rfl (kDone (kCondF rfl (kSeq (kReg (kBin rfl rfl rfl (kMovC rfl (kDone (kCondT rfl (kSeq (kReg (kFadP rfl rfl (kLoadP rfl rfl rfl (kMem [(8192, ⟨1, 0, .box [.d _, .d _, .d _, .d _, .d _, .d _, .d _, .d _, .d _, .d _, .d _, .d _, .d _, .d _, .d _, .d _]⟩)] [(47, .g [.d _, .d _, .d _, .d _, .d _, .d _, .d _, .d _, .d _, .d _, .d _]), (48, .c (.un)), (1, .c (.ptr 8192 1 0)), (50, .c (.un)), (51, .c (.un)), (49, .c (.un)), (52, .c (.un)), (53, .c (.un)), (55, .c (.un)), (56, .c (.un)), (54, .c (.un)), (57, .c (.un)), (58, .c (.un)), (60, .c (.un)), (61, .c (.un)), (59, .c (.un)), (62, .c (.un)), (63, .c (.un)), (65, .c (.un)), (66, .c (.un)), (64, .c (.un)), (67, .c (.un)), (68, .c (.un)), (70, .c (.un)), (71, .c (.un)), (69, .c (.un)), (72, .c (.un)), (73, .c (.un))] [] ⟨rfl, trivial⟩ ⟨rfl, rfl, rfl, rfl, rfl, rfl, rfl, rfl, rfl, rfl, rfl, rfl, rfl, rfl, rfl, rfl, rfl, rfl, rfl, rfl, rfl, rfl, rfl, rfl, rfl, rfl, rfl, rfl, trivial⟩ rfl (kCallD (ok_spec_l9emptyMsg) ⟨⟨⟨rfl, rfl, rfl, rfl, rfl, rfl, rfl, rfl, rfl, rfl, rfl, trivial⟩, Nat.le_of_ble_eq_true rfl⟩, trivial⟩ rfl rfl rfl rfl rfl (kMovC rfl (kGT rfl (kFadP rfl rfl (kGT rfl (kLoadP rfl rfl rfl (kGT rfl (kCallD (ok_spec_l8ip _) ⟨rfl, trivial⟩ rfl rfl rfl rfl rfl (kPickT rfl (kMovC rfl (kMovC rfl (kGP rfl (fun g0 => kGT rfl (kFadP rfl rfl (kGT rfl (kLoadP rfl rfl rfl (kMem [(8192, ⟨1, 0, .box [.d _, .d _, .d _, .d _, .d _, .d _, .d _, .d _, .d _, .d _, .d _, .d _, .d _, .d _, .d _, .d _]⟩)] [(56, .c (.d _)), (54, .c (.d _)), (57, .c (.un)), (58, .c (.un)), (1, .c (.ptr 8192 1 0)), (60, .c (.un)), (61, .c (.un)), (59, .c (.un)), (62, .c (.un)), (63, .c (.un)), (65, .c (.un)), (66, .c (.un)), (64, .c (.un)), (67, .c (.un)), (68, .c (.un)), (70, .c (.un)), (71, .c (.un)), (69, .c (.un)), (72, .c (.un)), (73, .c (.un))] [] ⟨rfl, trivial⟩ ⟨rfl, rfl, rfl, rfl, rfl, rfl, rfl, rfl, rfl, rfl, rfl, rfl, rfl, rfl, rfl, rfl, rfl, rfl, rfl, rfl, trivial⟩ rfl (kGT rfl (kCallD (ok_spec_l7client _) ⟨rfl, trivial⟩ rfl rfl rfl rfl rfl (kPickT rfl (kMovC rfl (kMovC rfl (kGP rfl (fun g1 => kGT rfl (kFadP rfl rfl (kGT rfl (kLoadP rfl rfl rfl (kGT rfl (kCallD (ok_spec_LabelOk _ (by first | assumption | omega | solve_by_elim [List.getElem_mem] | (simp only [szOut] at *; omega))) ⟨rfl, trivial⟩ rfl rfl rfl rfl rfl (kPickT rfl (kMovC rfl (kMovC rfl (kGS rfl (fun g2 => kGT rfl (kFadP rfl rfl (kMem [(8192, ⟨1, 0, .box [.d _, .d _, .d _, .d _, .d _, .d _, .d _, .d _, .d _, .d _, .d _, .d _, .d _, .d _, .d _, .d _]⟩)] [(65, .c (.ptr 8192 1 15)), (66, .c (.un)), (64, .c (.d _)), (67, .c (.un)), (68, .c (.un)), (1, .c (.ptr 8192 1 0)), (70, .c (.un)), (71, .c (.un)), (69, .c (.un)), (72, .c (.un)), (73, .c (.un))] [] ⟨rfl, trivial⟩ ⟨rfl, rfl, rfl, rfl, rfl, rfl, rfl, rfl, rfl, rfl, rfl, trivial⟩ rfl (kGT rfl (kLoadP rfl rfl rfl (kGT rfl (kBin rfl rfl rfl (kPickT rfl (kMovC rfl (kMovC rfl (kGP rfl (fun g3 => kGT rfl (kFadP rfl rfl (kGT rfl (kLoadP rfl rfl rfl (kGT rfl (kBin rfl rfl rfl (kPickT rfl (kMovC rfl (kMovC rfl (kDone (kRet (endRetA (ra := [.one (.d _)]) rfl ?_)))))))))))) (fun g3 => kGF rfl (kGF rfl (kGF rfl (kPickF rfl (kMovC rfl (kMovC rfl (kDone (kRet (endRetA (ra := [.one (.d _)]) rfl ?_)))))))))))))))))))) (fun g2 => kGF rfl (kMem [(8192, ⟨1, 0, .box [.d _, .d _, .d _, .d _, .d _, .d _, .d _, .d _, .d _, .d _, .d _, .d _, .d _, .d _, .d _, .d _]⟩)] [(65, .c (.un)), (66, .c (.un)), (64, .c (.d _)), (67, .c (.un)), (68, .c (.un)), (1, .c (.ptr 8192 1 0)), (70, .c (.un)), (71, .c (.un)), (69, .c (.un)), (72, .c (.un)), (73, .c (.un))] [] ⟨rfl, trivial⟩ ⟨rfl, rfl, rfl, rfl, rfl, rfl, rfl, rfl, rfl, rfl, rfl, trivial⟩ rfl (kGF rfl (kGF rfl (kPickF rfl (kMovC rfl (kMovC rfl (kGF rfl (kGF rfl (kGF rfl (kPickF rfl (kMovC rfl (kMovC rfl (kDone (kRet (endRetA (ra := [.one (.d _)]) rfl ?_)))))))))))))))))))))))))) (fun g1 => kGF rfl (kGF rfl (kGF rfl (kPickF rfl (kMovC rfl (kMovC rfl (kGF rfl (kGF rfl (kGF rfl (kMem [(8192, ⟨1, 0, .box [.d _, .d _, .d _, .d _, .d _, .d _, .d _, .d _, .d _, .d _, .d _, .d _, .d _, .d _, .d _, .d _]⟩)] [(64, .c (.d _)), (67, .c (.un)), (68, .c (.un)), (1, .c (.ptr 8192 1 0)), (70, .c (.un)), (71, .c (.un)), (69, .c (.un)), (72, .c (.un)), (73, .c (.un))] [] ⟨rfl, trivial⟩ ⟨rfl, rfl, rfl, rfl, rfl, rfl, rfl, rfl, rfl, trivial⟩ rfl (kPickF rfl (kMovC rfl (kMovC rfl (kGF rfl (kGF rfl (kGF rfl (kPickF rfl (kMovC rfl (kMovC rfl (kDone (kRet (endRetA (ra := [.one (.d _)]) rfl ?_))))))))))))))))))))))))))))))))) (fun g0 => kGF rfl (kGF rfl (kGF rfl (kMem [(8192, ⟨1, 0, .box [.d _, .d _, .d _, .d _, .d _, .d _, .d _, .d _, .d _, .d _, .d _, .d _, .d _, .d _, .d _, .d _]⟩)] [(54, .c (.d _)), (57, .c (.un)), (58, .c (.un)), (1, .c (.ptr 8192 1 0)), (60, .c (.un)), (61, .c (.un)), (59, .c (.un)), (62, .c (.un)), (63, .c (.un)), (65, .c (.un)), (66, .c (.un)), (64, .c (.un)), (67, .c (.un)), (68, .c (.un)), (70, .c (.un)), (71, .c (.un)), (69, .c (.un)), (72, .c (.un)), (73, .c (.un))] [] ⟨rfl, trivial⟩ ⟨rfl, rfl, rfl, rfl, rfl, rfl, rfl, rfl, rfl, rfl, rfl, rfl, rfl, rfl, rfl, rfl, rfl, rfl, rfl, trivial⟩ rfl (kPickF rfl (kMovC rfl (kMovC rfl (kGF rfl (kGF rfl (kGF rfl (kPickF rfl (kMovC rfl (kMovC rfl (kGF rfl (kGF rfl (kGF rfl (kPickF rfl (kMovC rfl (kMovC rfl (kMem [(8192, ⟨1, 0, .box [.d _, .d _, .d _, .d _, .d _, .d _, .d _, .d _, .d _, .d _, .d _, .d _, .d _, .d _, .d _, .d _]⟩)] [(1, .c (.ptr 8192 1 0)), (70, .c (.un)), (71, .c (.un)), (69, .c (.d _)), (72, .c (.un)), (73, .c (.un))] [] ⟨rfl, trivial⟩ ⟨rfl, rfl, rfl, rfl, rfl, rfl, trivial⟩ rfl (kGF rfl (kGF rfl (kGF rfl (kPickF rfl (kMovC rfl (kMovC rfl (kDone (kRet (endRetA (ra := [.one (.d _)]) rfl ?_)))))))))))))))))))))))))))))))))))))))))))))))))))))))))))))))))))))
    all_goals (refine congrArg (fun z : Bool => [RA.one (RV.d (DV.sc (Value.bool z)))]) ?_)
    all_goals first
      | (simp [txnOkE, ipOk, clientOk, *]; done)
      | (simp [txnOkE, ipOk, clientOk, *]; omega)
      | (rw [Bool.eq_iff_iff]; simp [txnOkE, ipOk, clientOk, *]; done)
      | (rw [Bool.eq_iff_iff]; simp [txnOkE, ipOk, clientOk, *]; omega)
      | (simp_all [txnOkE, ipOk, clientOk]; done)
      | (simp_all [txnOkE, ipOk, clientOk]; omega)
  · refine kSeq (kReg (kBox rfl rfl rfl rfl rfl (kMovC rfl (kDone (kSeq (kSeq (kReg (kFadP rfl rfl (kLoadP rfl rfl rfl (kDone (kBlock (kSeq (kReg (kBin rfl rfl rfl (kMovC rfl (kDone (kCondF rfl (kSeq (kReg (kBin rfl rfl rfl (kMovC rfl (kDone (kCondF rfl (kSeq (kReg (kBin rfl rfl rfl (kMovC rfl (kDone (kCondT rfl (kSeq (kReg (kMem [(8192, ⟨1, 0, .box [.d _, .d _, .d _, .d _, .d _, .d _, .d _, .d _, .d _, .d _, .d _, .d _, .d _, .d _, .d _, .d _]⟩)] [(1, .c (.ptr 8192 1 0)), (76, .c (.un)), (77, .c (.un)), (78, .c (.un)), (80, .c (.un)), (81, .c (.un)), (79, .c (.un)), (82, .c (.un)), (83, .c (.un)), (85, .c (.un)), (86, .c (.un)), (84, .c (.un)), (87, .c (.un)), (88, .c (.un)), (90, .c (.un)), (91, .c (.un)), (92, .c (.un)), (89, .c (.un)), (93, .c (.un)), (94, .c (.un)), (96, .c (.un)), (97, .c (.un)), (95, .c (.un)), (98, .c (.un)), (99, .c (.un))] [] ⟨rfl, trivial⟩ ⟨rfl, rfl, rfl, rfl, rfl, rfl, rfl, rfl, rfl, rfl, rfl, rfl, rfl, rfl, rfl, rfl, rfl, rfl, rfl, rfl, rfl, rfl, rfl, rfl, rfl, trivial⟩ rfl (kFadP rfl rfl (kLoadP rfl rfl rfl (kCallD (ok_spec_l9emptyMsg) ⟨⟨⟨rfl, rfl, rfl, rfl, rfl, rfl, rfl, rfl, rfl, rfl, rfl, trivial⟩, Nat.le_of_ble_eq_true rfl⟩, trivial⟩ rfl rfl rfl rfl rfl (kMovC rfl (kGT rfl (kFadP rfl rfl (kGT rfl (kLoadP rfl rfl rfl (kGT rfl (kCallD (ok_spec_l8ip _) ⟨rfl, trivial⟩ rfl rfl rfl rfl rfl (kPickT rfl (kMovC rfl (kMovC rfl (kGP rfl (fun g0 => kMem [(8192, ⟨1, 0, .box [.d _, .d _, .d _, .d _, .d _, .d _, .d _, .d _, .d _, .d _, .d _, .d _, .d _, .d _, .d _, .d _]⟩)] [(1, .c (.ptr 8192 1 0)), (85, .c (.un)), (86, .c (.un)), (84, .c (.d _)), (87, .c (.un)), (88, .c (.un)), (90, .c (.un)), (91, .c (.un)), (92, .c (.un)), (89, .c (.un)), (93, .c (.un)), (94, .c (.un)), (96, .c (.un)), (97, .c (.un)), (95, .c (.un)), (98, .c (.un)), (99, .c (.un))] [] ⟨rfl, trivial⟩ ⟨rfl, rfl, rfl, rfl, rfl, rfl, rfl, rfl, rfl, rfl, rfl, rfl, rfl, rfl, rfl, rfl, rfl, trivial⟩ rfl (kGT rfl (kFadP rfl rfl (kGT rfl (kLoadP rfl rfl rfl (kGT rfl (kCallD (ok_spec_l7client _) ⟨rfl, trivial⟩ rfl rfl rfl rfl rfl (kPickT rfl (kMovC rfl (kMovC rfl (kGP rfl (fun g1 => kGT rfl (kFadP rfl rfl (kGT rfl (kLoadP rfl rfl rfl (kGT rfl (kLenR rfl rfl (kGT rfl (kBin rfl rfl rfl (kMem [(8192, ⟨1, 0, .box [.d _, .d _, .d _, .d _, .d _, .d _, .d _, .d _, .d _, .d _, .d _, .d _, .d _, .d _, .d _, .d _]⟩)] [(89, .c (.d _)), (93, .c (.d _)), (94, .c (.un)), (1, .c (.ptr 8192 1 0)), (96, .c (.un)), (97, .c (.un)), (95, .c (.un)), (98, .c (.un)), (99, .c (.un))] [] ⟨rfl, trivial⟩ ⟨rfl, rfl, rfl, rfl, rfl, rfl, rfl, rfl, rfl, trivial⟩ rfl (kPickT rfl (kMovC rfl (kMovC rfl (kGP rfl (fun g2 => (by omega)) (fun g2 => kGF rfl (kGF rfl (kGF rfl (kPickF rfl (kMovC rfl (kMovC rfl (kDone (kRet (endRetA (ra := [.one (.d _)]) rfl ?_)))))))))))))))))))))) (fun g1 => kGF rfl (kGF rfl (kGF rfl (kGF rfl (kPickF rfl (kMovC rfl (kMem [(8192, ⟨1, 0, .box [.d _, .d _, .d _, .d _, .d _, .d _, .d _, .d _, .d _, .d _, .d _, .d _, .d _, .d _, .d _, .d _]⟩)] [(94, .c (.d _)), (1, .c (.ptr 8192 1 0)), (96, .c (.un)), (97, .c (.un)), (95, .c (.un)), (98, .c (.un)), (99, .c (.un))] [] ⟨rfl, trivial⟩ ⟨rfl, rfl, rfl, rfl, rfl, rfl, rfl, trivial⟩ rfl (kMovC rfl (kGF rfl (kGF rfl (kGF rfl (kPickF rfl (kMovC rfl (kMovC rfl (kDone (kRet (endRetA (ra := [.one (.d _)]) rfl ?_)))))))))))))))))))))))))))) (fun g0 => kMem [(8192, ⟨1, 0, .box [.d _, .d _, .d _, .d _, .d _, .d _, .d _, .d _, .d _, .d _, .d _, .d _, .d _, .d _, .d _, .d _]⟩)] [(1, .c (.ptr 8192 1 0)), (85, .c (.un)), (86, .c (.un)), (84, .c (.d _)), (87, .c (.un)), (88, .c (.un)), (90, .c (.un)), (91, .c (.un)), (92, .c (.un)), (89, .c (.un)), (93, .c (.un)), (94, .c (.un)), (96, .c (.un)), (97, .c (.un)), (95, .c (.un)), (98, .c (.un)), (99, .c (.un))] [] ⟨rfl, trivial⟩ ⟨rfl, rfl, rfl, rfl, rfl, rfl, rfl, rfl, rfl, rfl, rfl, rfl, rfl, rfl, rfl, rfl, rfl, trivial⟩ rfl (kGF rfl (kGF rfl (kGF rfl (kPickF rfl (kMovC rfl (kMovC rfl (kGF rfl (kGF rfl (kGF rfl (kGF rfl (kPickF rfl (kMovC rfl (kMovC rfl (kGF rfl (kGF rfl (kGF rfl (kPickF rfl (kMovC rfl (kMovC rfl (kDone (kRet (endRetA (ra := [.one (.d _)]) rfl ?_)))))))))))))))))))))))))))))))))))))))))))))))))))))))))))))))))))))
    all_goals (refine congrArg (fun z : Bool => [RA.one (RV.d (DV.sc (Value.bool z)))]) ?_)
    all_goals first
      | (simp [txnOkE, ipOk, clientOk, *]; done)
      | (simp [txnOkE, ipOk, clientOk, *]; omega)
      | (rw [Bool.eq_iff_iff]; simp [txnOkE, ipOk, clientOk, *]; done)
      | (rw [Bool.eq_iff_iff]; simp [txnOkE, ipOk, clientOk, *]; omega)
      | (simp_all [txnOkE, ipOk, clientOk]; done)
      | (simp_all [txnOkE, ipOk, clientOk]; omega)
  · refine kSeq (kReg (kBox rfl rfl rfl rfl rfl (kMovC rfl (kDone (kSeq (kSeq (kReg (kFadP rfl rfl (kLoadP rfl rfl rfl (kDone (kBlock (kSeq (kReg (kBin rfl rfl rfl (kMovC rfl (kDone (kCondF rfl (kSeq (kReg (kBin rfl rfl rfl (kMovC rfl (kDone (kCondF rfl (kSeq (kReg (kBin rfl rfl rfl (kMovC rfl (kDone (kCondF rfl (kSeq (kReg (kBin rfl rfl rfl (kMovC rfl (kDone (kCondT rfl (kSeq (kReg (kMem [(8192, ⟨1, 0, .box [.d _, .d _, .d _, .d _, .d _, .d _, .d _, .d _, .d _, .d _, .d _, .d _, .d _, .d _, .d _, .d _]⟩)] [(1, .c (.ptr 8192 1 0)), (102, .c (.un)), (103, .c (.un)), (104, .c (.un)), (106, .c (.un)), (107, .c (.un)), (105, .c (.un)), (108, .c (.un)), (109, .c (.un)), (111, .c (.un)), (112, .c (.un)), (113, .c (.un)), (110, .c (.un)), (114, .c (.un)), (115, .c (.un)), (117, .c (.un)), (118, .c (.un)), (119, .c (.un)), (116, .c (.un)), (120, .c (.un)), (121, .c (.un)), (123, .c (.un)), (124, .c (.un)), (122, .c (.un)), (125, .c (.un)), (126, .c (.un)), (128, .c (.un)), (129, .c (.un)), (127, .c (.un)), (130, .c (.un)), (131, .c (.un))] [] ⟨rfl, trivial⟩ ⟨rfl, rfl, rfl, rfl, rfl, rfl, rfl, rfl, rfl, rfl, rfl, rfl, rfl, rfl, rfl, rfl, rfl, rfl, rfl, rfl, rfl, rfl, rfl, rfl, rfl, rfl, rfl, rfl, rfl, rfl, rfl, trivial⟩ rfl (kFadP rfl rfl (kLoadP rfl rfl rfl (kCallD (ok_spec_l9emptyMsg) ⟨⟨⟨rfl, rfl, rfl, rfl, rfl, rfl, rfl, rfl, rfl, rfl, rfl, trivial⟩, Nat.le_of_ble_eq_true rfl⟩, trivial⟩ rfl rfl rfl rfl rfl (kMovC rfl (kGT rfl (kFadP rfl rfl (kGT rfl (kLoadP rfl rfl rfl (kGT rfl (kBin rfl rfl rfl (kPickT rfl (kMovC rfl (kMovC rfl (kGP rfl (fun g0 => kMem [(8192, ⟨1, 0, .box [.d _, .d _, .d _, .d _, .d _, .d _, .d _, .d _, .d _, .d _, .d _, .d _, .d _, .d _, .d _, .d _]⟩)] [(1, .c (.ptr 8192 1 0)), (111, .c (.un)), (112, .c (.un)), (113, .c (.un)), (110, .c (.d _)), (114, .c (.un)), (115, .c (.un)), (117, .c (.un)), (118, .c (.un)), (119, .c (.un)), (116, .c (.un)), (120, .c (.un)), (121, .c (.un)), (123, .c (.un)), (124, .c (.un)), (122, .c (.un)), (125, .c (.un)), (126, .c (.un)), (128, .c (.un)), (129, .c (.un)), (127, .c (.un)), (130, .c (.un)), (131, .c (.un))] [] ⟨rfl, trivial⟩ ⟨rfl, rfl, rfl, rfl, rfl, rfl, rfl, rfl, rfl, rfl, rfl, rfl, rfl, rfl, rfl, rfl, rfl, rfl, rfl, rfl, rfl, rfl, rfl, trivial⟩ rfl (kGT rfl (kFadP rfl rfl (kGT rfl (kLoadP rfl rfl rfl (kGT rfl (kLenR rfl rfl (kGT rfl (kBin rfl rfl rfl (kPickT rfl (kMovC rfl (kMovC rfl (kGP rfl (fun g1 => (by omega)) (fun g1 => kGF rfl (kGF rfl (kGF rfl (kGF rfl (kMem [(8192, ⟨1, 0, .box [.d _, .d _, .d _, .d _, .d _, .d _, .d _, .d _, .d _, .d _, .d _, .d _, .d _, .d _, .d _, .d _]⟩)] [(116, .c (.d _)), (120, .c (.un)), (121, .c (.un)), (1, .c (.ptr 8192 1 0)), (123, .c (.un)), (124, .c (.un)), (122, .c (.un)), (125, .c (.un)), (126, .c (.un)), (128, .c (.un)), (129, .c (.un)), (127, .c (.un)), (130, .c (.un)), (131, .c (.un))] [] ⟨rfl, trivial⟩ ⟨rfl, rfl, rfl, rfl, rfl, rfl, rfl, rfl, rfl, rfl, rfl, rfl, rfl, rfl, trivial⟩ rfl (kPickF rfl (kMovC rfl (kMovC rfl (kGF rfl (kGF rfl (kGF rfl (kPickF rfl (kMovC rfl (kMovC rfl (kGF rfl (kGF rfl (kGF rfl (kPickF rfl (kMovC rfl (kMovC rfl (kDone (kRet (endRetA (ra := [.one (.d _)]) rfl ?_)))))))))))))))))))))))))))))))))))) (fun g0 => kMem [(8192, ⟨1, 0, .box [.d _, .d _, .d _, .d _, .d _, .d _, .d _, .d _, .d _, .d _, .d _, .d _, .d _, .d _, .d _, .d _]⟩)] [(1, .c (.ptr 8192 1 0)), (111, .c (.un)), (112, .c (.un)), (113, .c (.un)), (110, .c (.d _)), (114, .c (.un)), (115, .c (.un)), (117, .c (.un)), (118, .c (.un)), (119, .c (.un)), (116, .c (.un)), (120, .c (.un)), (121, .c (.un)), (123, .c (.un)), (124, .c (.un)), (122, .c (.un)), (125, .c (.un)), (126, .c (.un)), (128, .c (.un)), (129, .c (.un)), (127, .c (.un)), (130, .c (.un)), (131, .c (.un))] [] ⟨rfl, trivial⟩ ⟨rfl, rfl, rfl, rfl, rfl, rfl, rfl, rfl, rfl, rfl, rfl, rfl, rfl, rfl, rfl, rfl, rfl, rfl, rfl, rfl, rfl, rfl, rfl, trivial⟩ rfl (kGF rfl (kGF rfl (kGF rfl (kGF rfl (kPickF rfl (kMovC rfl (kMovC rfl (kGF rfl (kGF rfl (kGF rfl (kGF rfl (kPickF rfl (kMovC rfl (kMovC rfl (kMem [(8192, ⟨1, 0, .box [.d _, .d _, .d _, .d _, .d _, .d _, .d _, .d _, .d _, .d _, .d _, .d _, .d _, .d _, .d _, .d _]⟩)] [(1, .c (.ptr 8192 1 0)), (123, .c (.un)), (124, .c (.un)), (122, .c (.d _)), (125, .c (.un)), (126, .c (.un)), (128, .c (.un)), (129, .c (.un)), (127, .c (.un)), (130, .c (.un)), (131, .c (.un))] [] ⟨rfl, trivial⟩ ⟨rfl, rfl, rfl, rfl, rfl, rfl, rfl, rfl, rfl, rfl, rfl, trivial⟩ rfl (kGF rfl (kGF rfl (kGF rfl (kPickF rfl (kMovC rfl (kMovC rfl (kGF rfl (kGF rfl (kGF rfl (kPickF rfl (kMovC rfl (kMovC rfl (kDone (kRet (endRetA (ra := [.one (.d _)]) rfl ?_)))))))))))))))))))))))))))))))))))))))))))))))))))))))))))))))))))))))))))))))))))
    all_goals (refine congrArg (fun z : Bool => [RA.one (RV.d (DV.sc (Value.bool z)))]) ?_)
    all_goals first
      | (simp [txnOkE, ipOk, clientOk, *]; done)
      | (simp [txnOkE, ipOk, clientOk, *]; omega)
      | (rw [Bool.eq_iff_iff]; simp [txnOkE, ipOk, clientOk, *]; done)
      | (rw [Bool.eq_iff_iff]; simp [txnOkE, ipOk, clientOk, *]; omega)
      | (simp_all [txnOkE, ipOk, clientOk]; done)
      | (simp_all [txnOkE, ipOk, clientOk]; omega)

def c_spec_EventOk : C := (.seq (.reg false (.op 0 [] (some 1) none false (.box 1 (.t 0))
  (.op 1 [] (some 2) none false (.mov (.v (.bool false)))
  .done)))
 (.seq (.seq (.reg false (.op 0 [] (some 4) none false (.fad (.t 1) 0)
  (.op 1 [] (some 5) none false (.load none (.t 4))
  (.op 2 [] (some 6) none false (.bin .lss (.t 5) (.v (.int .i64 0)))
  (.op 3 [] (some 7) none false (.mov (.t 6))
  (.op 4 [] (some 8) (some (7, false)) false (.fad (.t 1) 0)
  (.op 5 [] (some 9) (some (7, false)) false (.load none (.t 8))
  (.op 6 [] (some 10) (some (7, false)) false (.bin .gtr (.t 9) (.v (.int .i64 5)))
  (.op 7 [] (some 11) none false (.pick (.t 7) (.v (.bool true)) (.t 10))
  (.op 8 [] (some 12) none false (.mov (.t 11))
  (.op 9 [] (some 13) (some (12, false)) false (.fad (.t 1) 6)
  (.op 10 [] (some 14) (some (12, false)) false (.load none (.t 13))
  (.op 11 [] (some 15) (some (12, false)) false (.len (.t 14))
  (.op 12 [] (some 16) (some (12, false)) false (.bin .gtr (.t 15) (.v (.int .i64 24)))
  (.op 13 [] (some 17) none false (.pick (.t 12) (.v (.bool true)) (.t 16))
  (.op 14 [] (some 18) none false (.mov (.t 17))
  (.op 15 [] (some 19) (some (18, false)) false (.fad (.t 1) 1)
  (.op 16 [] (some 20) (some (18, false)) false (.load none (.t 19))
  (.op 17 [] (some 21) (some (18, false)) false (.len (.t 20))
  (.op 18 [] (some 22) (some (18, false)) false (.bin .gtr (.t 21) (.v (.int .i64 512)))
  (.op 19 [] (some 23) none false (.pick (.t 18) (.v (.bool true)) (.t 22))
  .done)))))))))))))))))))))
 (.cond (.t 23)
 (.seq (.reg false (.op 0 [] (some 2) none false (.mov (.v (.bool false)))
  .done))
 .ret)
 .skip))
 (.seq (.seq (.reg false (.op 0 [] (some 24) none false (.fad (.t 1) 0)
  (.op 1 [] (some 25) none false (.load none (.t 24))
  (.op 2 [] (some 26) none false (.bin .neq (.t 25) (.v (.int .i64 0)))
  (.op 3 [] (some 27) none false (.mov (.t 26))
  (.op 4 [] (some 28) (some (27, true)) false (.fad (.t 1) 1)
  (.op 5 [] (some 29) (some (27, true)) false (.load none (.t 28))
  (.op 6 [] (some 30) (some (27, true)) false (.len (.t 29))
  (.op 7 [] (some 31) (some (27, true)) false (.bin .gtr (.t 30) (.v (.int .i64 0)))
  (.op 8 [] (some 32) (some (27, true)) false (.mov (.t 31))
  (.op 9 [] (some 33) (some (32, false)) false (.fad (.t 1) 6)
  (.op 10 [] (some 34) (some (32, false)) false (.load none (.t 33))
  (.op 11 [] (some 35) (some (32, false)) false (.len (.t 34))
  (.op 12 [] (some 36) (some (32, false)) false (.bin .gtr (.t 35) (.v (.int .i64 0)))
  (.op 13 [] (some 37) (some (27, true)) false (.pick (.t 32) (.v (.bool true)) (.t 36))
  (.op 14 [] (some 38) none false (.pick (.t 27) (.t 37) (.v (.bool false)))
  .done))))))))))))))))
 (.cond (.t 38)
 (.seq (.reg false (.op 0 [] (some 2) none false (.mov (.v (.bool false)))
  .done))
 .ret)
 .skip))
 (.seq (.reg false (.op 0 [] (some 39) none false (.fad (.t 1) 2)
  (.op 1 [] (some 40) none false (.load none (.t 39))
  (.op 2 [] (some 41) none false (.bin .eql (.t 40) (.v (.int .i64 0)))
  (.op 3 [] (some 42) none false (.mov (.t 41))
  (.op 4 [] (some 43) (some (42, true)) false (.fad (.t 1) 3)
  (.op 5 [] (some 44) (some (42, true)) false (.load none (.t 43))
  (.op 6 [] (some 45) (some (42, true)) false (.len (.t 44))
  (.op 7 [] (some 46) (some (42, true)) false (.bin .eql (.t 45) (.v (.int .i64 0)))
  (.op 8 [] (some 47) none false (.pick (.t 42) (.t 46) (.v (.bool false)))
  (.op 9 [] (some 48) none false (.mov (.t 47))
  (.op 10 [] (some 49) (some (48, true)) false (.fad (.t 1) 4)
  (.op 11 [] (some 50) (some (48, true)) false (.load none (.t 49))
  (.op 12 [] (some 51) (some (48, true)) false (.len (.t 50))
  (.op 13 [] (some 52) (some (48, true)) false (.bin .eql (.t 51) (.v (.int .i64 0)))
  (.op 14 [] (some 53) none false (.pick (.t 48) (.t 52) (.v (.bool false)))
  (.op 15 [] (some 3) none false (.mov (.t 53))
  .done)))))))))))))))))
 (.seq (.seq (.reg false (.op 0 [] (some 54) none false (.fad (.t 1) 0)
  (.op 1 [] (some 55) none false (.load none (.t 54))
  .done)))
 (.block 0 (.seq (.reg false (.op 0 [] (some 57) none false (.bin .eql (.t 55) (.v (.int .i64 1)))
  (.op 1 [] (some 56) none false (.mov (.t 57))
  .done)))
 (.cond (.t 56)
 (.seq (.reg false (.op 0 [] (some 58) none false (.load (some 7) (.t 1))
  (.op 1 [] (some 59) none false (.call 59 92 [(.t 58)])
  (.op 2 [] (some 60) none false (.call 60 91 [(.t 59)])
  (.op 3 [] (some 2) none false (.mov (.t 60))
  .done)))))
 .ret)
 (.seq (.reg false (.op 0 [] (some 62) none false (.bin .eql (.t 55) (.v (.int .i64 2)))
  (.op 1 [] (some 61) none false (.mov (.t 62))
  .done)))
 (.cond (.t 61)
 (.seq (.reg false (.op 0 [] (some 63) none false (.fad (.t 1) 5)
  (.op 1 [] (some 64) none false (.load none (.t 63))
  (.op 2 [] (some 65) none false (.bin .eql (.t 64) (.v (.int .i64 0)))
  (.op 3 [] (some 66) none false (.mov (.t 65))
  (.op 4 [] (some 67) (some (66, true)) false (.fad (.t 1) 4)
  (.op 5 [] (some 68) (some (66, true)) false (.load none (.t 67))
  (.op 6 [] (some 69) (some (66, true)) false (.len (.t 68))
  (.op 7 [] (some 70) (some (66, true)) false (.bin .eql (.t 69) (.v (.int .i64 0)))
  (.op 8 [] (some 71) none false (.pick (.t 66) (.t 70) (.v (.bool false)))
  (.op 9 [] (some 72) none false (.mov (.t 71))
  (.op 10 [] (some 73) (some (72, true)) false (.load (some 7) (.t 1))
  (.op 11 [] (some 74) (some (72, true)) false (.call 74 92 [(.t 73)])
  (.op 12 [] (some 75) (some (72, true)) false (.call 75 91 [(.t 74)])
  (.op 13 [] (some 76) none false (.pick (.t 72) (.t 75) (.v (.bool false)))
  (.op 14 [] (some 2) none false (.mov (.t 76))
  .done))))))))))))))))
 .ret)
 (.seq (.reg false (.op 0 [] (some 78) none false (.bin .eql (.t 55) (.v (.int .i64 3)))
  (.op 1 [] (some 77) none false (.mov (.t 78))
  .done)))
 (.cond (.t 77)
 (.seq (.reg false (.op 0 [] (some 79) none false (.mov (.t 3))
  (.op 1 [] (some 80) none false (.mov (.t 79))
  (.op 2 [] (some 81) (some (80, true)) false (.load (some 7) (.t 1))
  (.op 3 [] (some 82) (some (80, true)) false (.call 82 92 [(.t 81)])
  (.op 4 [] (some 83) (some (80, true)) false (.call 83 91 [(.t 82)])
  (.op 5 [] (some 84) none false (.pick (.t 80) (.t 83) (.v (.bool false)))
  (.op 6 [] (some 2) none false (.mov (.t 84))
  .done))))))))
 .ret)
 (.seq (.reg false (.op 0 [] (some 86) none false (.bin .eql (.t 55) (.v (.int .i64 4)))
  (.op 1 [] (some 85) none false (.mov (.t 86))
  .done)))
 (.cond (.t 85)
 (.seq (.reg false (.op 0 [] (some 87) none false (.mov (.t 3))
  (.op 1 [] (some 88) none false (.mov (.t 87))
  (.op 2 [] (some 89) (some (88, true)) false (.fad (.t 1) 5)
  (.op 3 [] (some 90) (some (88, true)) false (.load none (.t 89))
  (.op 4 [] (some 91) (some (88, true)) false (.bin .geq (.t 90) (.v (.int .i64 0)))
  (.op 5 [] (some 92) none false (.pick (.t 88) (.t 91) (.v (.bool false)))
  (.op 6 [] (some 93) none false (.mov (.t 92))
  (.op 7 [] (some 94) (some (93, true)) false (.fad (.t 1) 5)
  (.op 8 [] (some 95) (some (93, true)) false (.load none (.t 94))
  (.op 9 [] (some 96) (some (93, true)) false (.bin .leq (.t 95) (.v (.int .i64 60)))
  (.op 10 [] (some 97) none false (.pick (.t 93) (.t 96) (.v (.bool false)))
  (.op 11 [] (some 2) none false (.mov (.t 97))
  .done)))))))))))))
 .ret)
 .skip))))))))))
 (.seq (.reg false (.op 0 [] (some 98) none false (.mov (.t 3))
  (.op 1 [] (some 99) none false (.mov (.t 98))
  (.op 2 [] (some 100) (some (99, true)) false (.fad (.t 1) 5)
  (.op 3 [] (some 101) (some (99, true)) false (.load none (.t 100))
  (.op 4 [] (some 102) (some (99, true)) false (.bin .eql (.t 101) (.v (.int .i64 0)))
  (.op 5 [] (some 103) none false (.pick (.t 99) (.t 102) (.v (.bool false)))
  (.op 6 [] (some 2) none false (.mov (.t 103))
  .done))))))))
 .ret))))))
theorem dg_spec_EventOk : Try.f30.body.bind (digC Try.prog Try.f30.ntmps []) = some c_spec_EventOk := by kernel_rfl
theorem rs_spec_EventOk : resSlots Try.prog Try.f30 = some [.s 2] := by kernel_rfl
theorem ok_spec_EventOk (e : Evt) (hs : SmallE e) :
    FnOK Try.prog 30 [.agg (e.cells.map .d)] (fun ra _ => ra = [.one (.d (.sc (.bool (eventOk e))))]) := by
  refine FnOK.ofK Try.func30 (by kernel_rfl) dg_spec_EventOk rs_spec_EventOk rfl rfl ?_
  unfold c_spec_EventOk
  have b1 := hs.b
  have c1 := hs.c
  have d1 := hs.h
  have l1 := hs.l
  by_cases hk : 1 ≤ e.kind ∧ e.kind ≤ 3
  · have hcase : e.kind = 1 ∨ e.kind = 2 ∨ e.kind = 3 := by omega
    have key := txnOkE_eq (ip := txIp e) (c := txClient e) (h := txHost e) (w := txAt e) hk
    have x1 : (txClient e).length ≤ 4194304 := by unfold txClient; split <;> simp_all
    have x2 : (txHost e).length ≤ 4194304 := by unfold txHost; split <;> simp_all
    rcases hcase with h | h | h
    · rw [show txIp e = e.ip by simp [txIp, h], show txClient e = e.client by simp [txClient, h], show txHost e = e.host by simp [txHost, h], show txAt e = e.at_ by simp [txAt, h]] at key
      refine kSeq (kReg (kBox rfl rfl rfl rfl rfl (kMovC rfl (kDone (kSeq (kSeq (kReg (kFadP rfl rfl (kLoadP rfl rfl rfl (kBin rfl rfl rfl (kMovC rfl (kGP rfl (fun g0 => (by omega)) (fun g0 => kGT rfl (kFadP rfl rfl (kGT rfl (kLoadP rfl rfl rfl (kMem [(8192, ⟨1, 0, .box [.d _, .d _, .d _, .d _, .d _, .d _, .d _]⟩)] [(9, .c (.d _)), (7, .c (.d _)), (10, .c (.un)), (11, .c (.un)), (1, .c (.ptr 8192 1 0)), (13, .c (.un)), (14, .c (.un)), (15, .c (.un)), (12, .c (.un)), (16, .c (.un)), (17, .c (.un)), (19, .c (.un)), (20, .c (.un)), (21, .c (.un)), (18, .c (.un)), (22, .c (.un))] [] ⟨rfl, trivial⟩ ⟨rfl, rfl, rfl, rfl, rfl, rfl, rfl, rfl, rfl, rfl, rfl, rfl, rfl, rfl, rfl, rfl, trivial⟩ rfl (kGT rfl (kBin rfl rfl rfl (kPickF rfl (kMovC rfl (kMovC rfl (kGP rfl (fun g1 => (by omega)) (fun g1 => kGT rfl (kFadP rfl rfl (kGT rfl (kLoadP rfl rfl rfl (kGT rfl (kLenR rfl rfl (kGT rfl (kBin rfl rfl rfl (kPickF rfl (kMovC rfl (kMovC rfl (kGP rfl (fun g2 => kMem [(8192, ⟨1, 0, .box [.d _, .d _, .d _, .d _, .d _, .d _, .d _]⟩)] [(1, .c (.ptr 8192 1 0)), (19, .c (.un)), (20, .c (.un)), (21, .c (.un)), (18, .c (.d _)), (22, .c (.un))] [] ⟨rfl, trivial⟩ ⟨rfl, rfl, rfl, rfl, rfl, rfl, trivial⟩ rfl (kGF rfl (kGF rfl (kGF rfl (kGF rfl (kPickT rfl (kMovC rfl (kDone (kCondT rfl (kSeq (kReg (kMovC rfl (kDone (kRet (endRetA (ra := [.one (.d _)]) rfl ?_))))))))))))))) (fun g2 => kMem [(8192, ⟨1, 0, .box [.d _, .d _, .d _, .d _, .d _, .d _, .d _]⟩)] [(1, .c (.ptr 8192 1 0)), (19, .c (.un)), (20, .c (.un)), (21, .c (.un)), (18, .c (.d _)), (22, .c (.un))] [] ⟨rfl, trivial⟩ ⟨rfl, rfl, rfl, rfl, rfl, rfl, trivial⟩ rfl (kGT rfl (kFadP rfl rfl (kGT rfl (kLoadP rfl rfl rfl (kGT rfl (kLenR rfl rfl (kGT rfl (kBin rfl rfl rfl (kPickF rfl (kMovC rfl (kDone (kCondP rfl (fun g3 => kSeq (kReg (kMovC rfl (kDone (kRet (endRetA (ra := [.one (.d _)]) rfl ?_)))))) (fun g3 => kSkip (kSeq (kSeq (kReg (kFadP rfl rfl (kLoadP rfl rfl rfl (kBin rfl rfl rfl (kMovC rfl (kGIN rfl (fun g4 => kMem [(8192, ⟨1, 0, .box [.d _, .d _, .d _, .d _, .d _, .d _, .d _]⟩)] [(1, .c (.ptr 8192 1 0)), (28, .c (.un)), (29, .c (.un)), (30, .c (.un)), (31, .c (.un)), (33, .c (.un)), (34, .c (.un)), (35, .c (.un)), (32, .c (.un)), (36, .c (.un)), (27, .c (.d _)), (37, .c (.un))] [] ⟨rfl, trivial⟩ ⟨rfl, rfl, rfl, rfl, rfl, rfl, rfl, rfl, rfl, rfl, rfl, rfl, trivial⟩ rfl (kGT rfl (kFadP rfl rfl (kGT rfl (kLoadP rfl rfl rfl (kGT rfl (kLenR rfl rfl (kGT rfl (kBin rfl rfl rfl (kGT rfl (kMovC rfl (kGP rfl (fun g5 => kGF rfl (kGF rfl (kGF rfl (kGF rfl (kGT rfl (kPickT rfl (kMovC rfl (kPickT rfl (kMovC rfl (kDone (kCondT rfl (kSeq (kReg (kMovC rfl (kDone (kRet (endRetA (ra := [.one (.d _)]) rfl ?_))))))))))))))))) (fun g5 => kGT rfl (kFadP rfl rfl (kGT rfl (kLoadP rfl rfl rfl (kGT rfl (kLenR rfl rfl (kGT rfl (kBin rfl rfl rfl (kGT rfl (kPickF rfl (kMovC rfl (kPickT rfl (kMovC rfl (kDone (kCondP rfl (fun g6 => kSeq (kReg (kMovC rfl (kDone (kRet (endRetA (ra := [.one (.d _)]) rfl ?_)))))) (fun g6 => kSkip (kSeq (kReg (kMem [(8192, ⟨1, 0, .box [.d _, .d _, .d _, .d _, .d _, .d _, .d _]⟩)] [(1, .c (.ptr 8192 1 0)), (39, .c (.un)), (40, .c (.un)), (41, .c (.un)), (43, .c (.un)), (44, .c (.un)), (45, .c (.un)), (42, .c (.un)), (46, .c (.un)), (47, .c (.un)), (49, .c (.un)), (50, .c (.un)), (51, .c (.un)), (48, .c (.un)), (52, .c (.un)), (53, .c (.un))] [] ⟨rfl, trivial⟩ ⟨rfl, rfl, rfl, rfl, rfl, rfl, rfl, rfl, rfl, rfl, rfl, rfl, rfl, rfl, rfl, rfl, trivial⟩ rfl (kFadP rfl rfl (kLoadP rfl rfl rfl (kBin rfl rfl rfl (kMovC rfl (kGP rfl (fun g7 => kGT rfl (kFadP rfl rfl (kGT rfl (kLoadP rfl rfl rfl (kGT rfl (kLenR rfl rfl (kGT rfl (kBin rfl rfl rfl (kPickT rfl (kMovC rfl (kMem [(8192, ⟨1, 0, .box [.d _, .d _, .d _, .d _, .d _, .d _, .d _]⟩)] [(47, .c (.d _)), (1, .c (.ptr 8192 1 0)), (49, .c (.un)), (50, .c (.un)), (51, .c (.un)), (48, .c (.un)), (52, .c (.un)), (53, .c (.un))] [] ⟨rfl, trivial⟩ ⟨rfl, rfl, rfl, rfl, rfl, rfl, rfl, rfl, trivial⟩ rfl (kMovC rfl (kGP rfl (fun g8 => kGT rfl (kFadP rfl rfl (kGT rfl (kLoadP rfl rfl rfl (kGT rfl (kLenR rfl rfl (kGT rfl (kBin rfl rfl rfl (kPickT rfl (kMovC rfl (kMovC rfl (kDone (kSeq (kSeq (kReg (kFadP rfl rfl (kLoadP rfl rfl rfl (kDone (kBlock (kSeq (kReg (kBin rfl rfl rfl (kMovC rfl (kDone (kCondP rfl (fun g9 => kSeq (kReg (kMem [(8192, ⟨1, 0, .box [.d _, .d _, .d _, .d _, .d _, .d _, .d _]⟩)] [(1, .c (.ptr 8192 1 0)), (58, .c (.un)), (59, .c (.un)), (60, .c (.un))] [] ⟨rfl, trivial⟩ ⟨rfl, rfl, rfl, rfl, trivial⟩ rfl (kLoadP rfl rfl rfl (kCallD2 (ok_spec_l12txn _ (by first | assumption | omega | solve_by_elim [List.getElem_mem] | (simp only [szOut] at *; omega))) ⟨⟨⟨rfl, rfl, rfl, rfl, rfl, rfl, rfl, trivial⟩, Nat.le_of_ble_eq_true rfl⟩, trivial⟩ rfl rfl rfl rfl (kCallD (ok_spec_TxnOk _ _ _ _ _ (by first | assumption | omega | solve_by_elim [List.getElem_mem] | (simp only [szOut] at *; omega)) (by first | assumption | omega | solve_by_elim [List.getElem_mem] | (simp only [szOut] at *; omega)) (by first | assumption | omega | solve_by_elim [List.getElem_mem] | (simp only [szOut] at *; omega))) ⟨⟨⟨rfl, rfl, rfl, rfl, rfl, rfl, rfl, rfl, rfl, rfl, rfl, rfl, rfl, rfl, rfl, rfl, trivial⟩, Nat.le_of_ble_eq_true rfl⟩, trivial⟩ rfl rfl rfl rfl rfl (kMovC rfl (kDone (kRet (endRetA (ra := [.one (.d _)]) rfl ?_)))))))))) (fun g9 => (by omega))))))))))))))))))))))))))) (fun g8 => kGF rfl (kGF rfl (kGF rfl (kGF rfl (kPickF rfl (kMovC rfl (kMovC rfl (kDone (kSeq (kSeq (kReg (kFadP rfl rfl (kLoadP rfl rfl rfl (kDone (kBlock (kSeq (kReg (kBin rfl rfl rfl (kMovC rfl (kDone (kCondP rfl (fun g10 => kSeq (kReg (kMem [(8192, ⟨1, 0, .box [.d _, .d _, .d _, .d _, .d _, .d _, .d _]⟩)] [(1, .c (.ptr 8192 1 0)), (58, .c (.un)), (59, .c (.un)), (60, .c (.un))] [] ⟨rfl, trivial⟩ ⟨rfl, rfl, rfl, rfl, trivial⟩ rfl (kLoadP rfl rfl rfl (kCallD2 (ok_spec_l12txn _ (by first | assumption | omega | solve_by_elim [List.getElem_mem] | (simp only [szOut] at *; omega))) ⟨⟨⟨rfl, rfl, rfl, rfl, rfl, rfl, rfl, trivial⟩, Nat.le_of_ble_eq_true rfl⟩, trivial⟩ rfl rfl rfl rfl (kCallD (ok_spec_TxnOk _ _ _ _ _ (by first | assumption | omega | solve_by_elim [List.getElem_mem] | (simp only [szOut] at *; omega)) (by first | assumption | omega | solve_by_elim [List.getElem_mem] | (simp only [szOut] at *; omega)) (by first | assumption | omega | solve_by_elim [List.getElem_mem] | (simp only [szOut] at *; omega))) ⟨⟨⟨rfl, rfl, rfl, rfl, rfl, rfl, rfl, rfl, rfl, rfl, rfl, rfl, rfl, rfl, rfl, rfl, trivial⟩, Nat.le_of_ble_eq_true rfl⟩, trivial⟩ rfl rfl rfl rfl rfl (kMovC rfl (kDone (kRet (endRetA (ra := [.one (.d _)]) rfl ?_)))))))))) (fun g10 => (by omega)))))))))))))))))))))))))))))))))))) (fun g7 => kGF rfl (kGF rfl (kGF rfl (kGF rfl (kPickF rfl (kMovC rfl (kMovC rfl (kMem [(8192, ⟨1, 0, .box [.d _, .d _, .d _, .d _, .d _, .d _, .d _]⟩)] [(1, .c (.ptr 8192 1 0)), (49, .c (.un)), (50, .c (.un)), (51, .c (.un)), (48, .c (.d _)), (52, .c (.un)), (53, .c (.un))] [] ⟨rfl, trivial⟩ ⟨rfl, rfl, rfl, rfl, rfl, rfl, rfl, trivial⟩ rfl (kGF rfl (kGF rfl (kGF rfl (kGF rfl (kPickF rfl (kMovC rfl (kMovC rfl (kDone (kSeq (kSeq (kReg (kFadP rfl rfl (kLoadP rfl rfl rfl (kDone (kBlock (kSeq (kReg (kBin rfl rfl rfl (kMovC rfl (kDone (kCondP rfl (fun g11 => kSeq (kReg (kLoadP rfl rfl rfl (kCallD2 (ok_spec_l12txn _ (by first | assumption | omega | solve_by_elim [List.getElem_mem] | (simp only [szOut] at *; omega))) ⟨⟨⟨rfl, rfl, rfl, rfl, rfl, rfl, rfl, trivial⟩, Nat.le_of_ble_eq_true rfl⟩, trivial⟩ rfl rfl rfl rfl (kCallD (ok_spec_TxnOk _ _ _ _ _ (by first | assumption | omega | solve_by_elim [List.getElem_mem] | (simp only [szOut] at *; omega)) (by first | assumption | omega | solve_by_elim [List.getElem_mem] | (simp only [szOut] at *; omega)) (by first | assumption | omega | solve_by_elim [List.getElem_mem] | (simp only [szOut] at *; omega))) ⟨⟨⟨rfl, rfl, rfl, rfl, rfl, rfl, rfl, rfl, rfl, rfl, rfl, rfl, rfl, rfl, rfl, rfl, trivial⟩, Nat.le_of_ble_eq_true rfl⟩, trivial⟩ rfl rfl rfl rfl rfl (kMovC rfl (kDone (kRet (endRetA (ra := [.one (.d _)]) rfl ?_))))))))) (fun g11 => (by omega))))))))))))))))))))))))))))))))))))))))))))))))))))))))))))))))))) (fun g4 => (by omega)))))))))))))))))))))))))))))))))))))))))))))))))))))))))))
      all_goals try rw [show txIp e = e.ip by simp [txIp, h], show txClient e = e.client by simp [txClient, h], show txHost e = e.host by simp [txHost, h], show txAt e = e.at_ by simp [txAt, h], key]
      all_goals (refine congrArg (fun z : Bool => [RA.one (RV.d (DV.sc (Value.bool z)))]) ?_; unfold eventOk)
      all_goals first
        | (refine (decide_eq_true ?_).symm; unfold EvP TxP; omega)
        | (refine (decide_eq_false ?_).symm; unfold EvP TxP; omega)
        | (refine decide_eq_decide.2 ?_; unfold EvP TxP; omega)
        | (simp only [EvP, TxP]; rw [Bool.eq_iff_iff]; simp only [beq_iff_eq, decide_eq_true_eq]; omega)
        | (rw [Bool.eq_iff_iff]; simp only [EvP, TxP, beq_iff_eq, decide_eq_true_eq, Bool.and_eq_true, Bool.or_eq_true]; omega)
    · rw [show txIp e = e.ip by simp [txIp, h], show txClient e = e.client by simp [txClient, h], show txHost e = [] by simp [txHost, h], show txAt e = 0 by simp [txAt, h]] at key
      refine kSeq (kReg (kBox rfl rfl rfl rfl rfl (kMovC rfl (kDone (kSeq (kSeq (kReg (kFadP rfl rfl (kLoadP rfl rfl rfl (kBin rfl rfl rfl (kMovC rfl (kGP rfl (fun g0 => (by omega)) (fun g0 => kGT rfl (kFadP rfl rfl (kGT rfl (kLoadP rfl rfl rfl (kMem [(8192, ⟨1, 0, .box [.d _, .d _, .d _, .d _, .d _, .d _, .d _]⟩)] [(9, .c (.d _)), (7, .c (.d _)), (10, .c (.un)), (11, .c (.un)), (1, .c (.ptr 8192 1 0)), (13, .c (.un)), (14, .c (.un)), (15, .c (.un)), (12, .c (.un)), (16, .c (.un)), (17, .c (.un)), (19, .c (.un)), (20, .c (.un)), (21, .c (.un)), (18, .c (.un)), (22, .c (.un))] [] ⟨rfl, trivial⟩ ⟨rfl, rfl, rfl, rfl, rfl, rfl, rfl, rfl, rfl, rfl, rfl, rfl, rfl, rfl, rfl, rfl, trivial⟩ rfl (kGT rfl (kBin rfl rfl rfl (kPickF rfl (kMovC rfl (kMovC rfl (kGP rfl (fun g1 => (by omega)) (fun g1 => kGT rfl (kFadP rfl rfl (kGT rfl (kLoadP rfl rfl rfl (kGT rfl (kLenR rfl rfl (kGT rfl (kBin rfl rfl rfl (kPickF rfl (kMovC rfl (kMovC rfl (kGP rfl (fun g2 => kMem [(8192, ⟨1, 0, .box [.d _, .d _, .d _, .d _, .d _, .d _, .d _]⟩)] [(1, .c (.ptr 8192 1 0)), (19, .c (.un)), (20, .c (.un)), (21, .c (.un)), (18, .c (.d _)), (22, .c (.un))] [] ⟨rfl, trivial⟩ ⟨rfl, rfl, rfl, rfl, rfl, rfl, trivial⟩ rfl (kGF rfl (kGF rfl (kGF rfl (kGF rfl (kPickT rfl (kMovC rfl (kDone (kCondT rfl (kSeq (kReg (kMovC rfl (kDone (kRet (endRetA (ra := [.one (.d _)]) rfl ?_))))))))))))))) (fun g2 => kMem [(8192, ⟨1, 0, .box [.d _, .d _, .d _, .d _, .d _, .d _, .d _]⟩)] [(1, .c (.ptr 8192 1 0)), (19, .c (.un)), (20, .c (.un)), (21, .c (.un)), (18, .c (.d _)), (22, .c (.un))] [] ⟨rfl, trivial⟩ ⟨rfl, rfl, rfl, rfl, rfl, rfl, trivial⟩ rfl (kGT rfl (kFadP rfl rfl (kGT rfl (kLoadP rfl rfl rfl (kGT rfl (kLenR rfl rfl (kGT rfl (kBin rfl rfl rfl (kPickF rfl (kMovC rfl (kDone (kCondP rfl (fun g3 => kSeq (kReg (kMovC rfl (kDone (kRet (endRetA (ra := [.one (.d _)]) rfl ?_)))))) (fun g3 => kSkip (kSeq (kSeq (kReg (kFadP rfl rfl (kLoadP rfl rfl rfl (kBin rfl rfl rfl (kMovC rfl (kGIN rfl (fun g4 => kMem [(8192, ⟨1, 0, .box [.d _, .d _, .d _, .d _, .d _, .d _, .d _]⟩)] [(1, .c (.ptr 8192 1 0)), (28, .c (.un)), (29, .c (.un)), (30, .c (.un)), (31, .c (.un)), (33, .c (.un)), (34, .c (.un)), (35, .c (.un)), (32, .c (.un)), (36, .c (.un)), (27, .c (.d _)), (37, .c (.un))] [] ⟨rfl, trivial⟩ ⟨rfl, rfl, rfl, rfl, rfl, rfl, rfl, rfl, rfl, rfl, rfl, rfl, trivial⟩ rfl (kGT rfl (kFadP rfl rfl (kGT rfl (kLoadP rfl rfl rfl (kGT rfl (kLenR rfl rfl (kGT rfl (kBin rfl rfl rfl (kGT rfl (kMovC rfl (kGP rfl (fun g5 => kGF rfl (kGF rfl (kGF rfl (kGF rfl (kGT rfl (kPickT rfl (kMovC rfl (kPickT rfl (kMovC rfl (kDone (kCondT rfl (kSeq (kReg (kMovC rfl (kDone (kRet (endRetA (ra := [.one (.d _)]) rfl ?_))))))))))))))))) (fun g5 => kGT rfl (kFadP rfl rfl (kGT rfl (kLoadP rfl rfl rfl (kGT rfl (kLenR rfl rfl (kGT rfl (kBin rfl rfl rfl (kGT rfl (kPickF rfl (kMovC rfl (kPickT rfl (kMovC rfl (kDone (kCondP rfl (fun g6 => kSeq (kReg (kMovC rfl (kDone (kRet (endRetA (ra := [.one (.d _)]) rfl ?_)))))) (fun g6 => kSkip (kSeq (kReg (kMem [(8192, ⟨1, 0, .box [.d _, .d _, .d _, .d _, .d _, .d _, .d _]⟩)] [(1, .c (.ptr 8192 1 0)), (39, .c (.un)), (40, .c (.un)), (41, .c (.un)), (43, .c (.un)), (44, .c (.un)), (45, .c (.un)), (42, .c (.un)), (46, .c (.un)), (47, .c (.un)), (49, .c (.un)), (50, .c (.un)), (51, .c (.un)), (48, .c (.un)), (52, .c (.un)), (53, .c (.un))] [] ⟨rfl, trivial⟩ ⟨rfl, rfl, rfl, rfl, rfl, rfl, rfl, rfl, rfl, rfl, rfl, rfl, rfl, rfl, rfl, rfl, trivial⟩ rfl (kFadP rfl rfl (kLoadP rfl rfl rfl (kBin rfl rfl rfl (kMovC rfl (kGP rfl (fun g7 => kGT rfl (kFadP rfl rfl (kGT rfl (kLoadP rfl rfl rfl (kGT rfl (kLenR rfl rfl (kGT rfl (kBin rfl rfl rfl (kPickT rfl (kMovC rfl (kMem [(8192, ⟨1, 0, .box [.d _, .d _, .d _, .d _, .d _, .d _, .d _]⟩)] [(47, .c (.d _)), (1, .c (.ptr 8192 1 0)), (49, .c (.un)), (50, .c (.un)), (51, .c (.un)), (48, .c (.un)), (52, .c (.un)), (53, .c (.un))] [] ⟨rfl, trivial⟩ ⟨rfl, rfl, rfl, rfl, rfl, rfl, rfl, rfl, trivial⟩ rfl (kMovC rfl (kGP rfl (fun g8 => kGT rfl (kFadP rfl rfl (kGT rfl (kLoadP rfl rfl rfl (kGT rfl (kLenR rfl rfl (kGT rfl (kBin rfl rfl rfl (kPickT rfl (kMovC rfl (kMovC rfl (kDone (kSeq (kSeq (kReg (kFadP rfl rfl (kLoadP rfl rfl rfl (kDone (kBlock (kSeq (kReg (kBin rfl rfl rfl (kMovC rfl (kDone (kCondP rfl (fun g9 => (by omega)) (fun g9 => kSeq (kReg (kBin rfl rfl rfl (kMovC rfl (kDone (kCondP rfl (fun g10 => kSeq (kReg (kMem [(8192, ⟨1, 0, .box [.d _, .d _, .d _, .d _, .d _, .d _, .d _]⟩)] [(1, .c (.ptr 8192 1 0)), (63, .c (.un)), (64, .c (.un)), (65, .c (.un)), (67, .c (.un)), (68, .c (.un)), (69, .c (.un)), (66, .c (.un)), (70, .c (.un)), (71, .c (.un)), (73, .c (.un)), (74, .c (.un)), (72, .c (.un)), (75, .c (.un)), (76, .c (.un))] [] ⟨rfl, trivial⟩ ⟨rfl, rfl, rfl, rfl, rfl, rfl, rfl, rfl, rfl, rfl, rfl, rfl, rfl, rfl, rfl, trivial⟩ rfl (kFadP rfl rfl (kLoadP rfl rfl rfl (kBin rfl rfl rfl (kMovC rfl (kGP rfl (fun g11 => kGT rfl (kFadP rfl rfl (kGT rfl (kLoadP rfl rfl rfl (kGT rfl (kLenR rfl rfl (kGT rfl (kBin rfl rfl rfl (kPickT rfl (kMovC rfl (kMem [(8192, ⟨1, 0, .box [.d _, .d _, .d _, .d _, .d _, .d _, .d _]⟩)] [(71, .c (.d _)), (1, .c (.ptr 8192 1 0)), (73, .c (.un)), (74, .c (.un)), (72, .c (.un)), (75, .c (.un)), (76, .c (.un))] [] ⟨rfl, trivial⟩ ⟨rfl, rfl, rfl, rfl, rfl, rfl, rfl, trivial⟩ rfl (kMovC rfl (kGP rfl (fun g12 => kGT rfl (kLoadP rfl rfl rfl (kGT rfl (kCallD2 (ok_spec_l12txn _ (by first | assumption | omega | solve_by_elim [List.getElem_mem] | (simp only [szOut] at *; omega))) ⟨⟨⟨rfl, rfl, rfl, rfl, rfl, rfl, rfl, trivial⟩, Nat.le_of_ble_eq_true rfl⟩, trivial⟩ rfl rfl rfl rfl (kGT rfl (kCallD (ok_spec_TxnOk _ _ _ _ _ (by first | assumption | omega | solve_by_elim [List.getElem_mem] | (simp only [szOut] at *; omega)) (by first | assumption | omega | solve_by_elim [List.getElem_mem] | (simp only [szOut] at *; omega)) (by first | assumption | omega | solve_by_elim [List.getElem_mem] | (simp only [szOut] at *; omega))) ⟨⟨⟨rfl, rfl, rfl, rfl, rfl, rfl, rfl, rfl, rfl, rfl, rfl, rfl, rfl, rfl, rfl, rfl, trivial⟩, Nat.le_of_ble_eq_true rfl⟩, trivial⟩ rfl rfl rfl rfl rfl (kPickT rfl (kMovC rfl (kMovC rfl (kDone (kRet (endRetA (ra := [.one (.d _)]) rfl ?_)))))))))))) (fun g12 => kGF rfl (kGF rfl (kGF rfl (kPickF rfl (kMovC rfl (kMovC rfl (kDone (kRet (endRetA (ra := [.one (.d _)]) rfl ?_)))))))))))))))))))))) (fun g11 => kGF rfl (kGF rfl (kGF rfl (kGF rfl (kPickF rfl (kMovC rfl (kMovC rfl (kMem [(8192, ⟨1, 0, .box [.d _, .d _, .d _, .d _, .d _, .d _, .d _]⟩)] [(1, .c (.ptr 8192 1 0)), (73, .c (.un)), (74, .c (.un)), (72, .c (.d _)), (75, .c (.un)), (76, .c (.un))] [] ⟨rfl, trivial⟩ ⟨rfl, rfl, rfl, rfl, rfl, rfl, trivial⟩ rfl (kGF rfl (kGF rfl (kGF rfl (kPickF rfl (kMovC rfl (kMovC rfl (kDone (kRet (endRetA (ra := [.one (.d _)]) rfl ?_))))))))))))))))))))))))) (fun g10 => (by omega))))))))))))))))))))))))))))))))) (fun g8 => kGF rfl (kGF rfl (kGF rfl (kGF rfl (kPickF rfl (kMovC rfl (kMovC rfl (kDone (kSeq (kSeq (kReg (kFadP rfl rfl (kLoadP rfl rfl rfl (kDone (kBlock (kSeq (kReg (kBin rfl rfl rfl (kMovC rfl (kDone (kCondP rfl (fun g13 => (by omega)) (fun g13 => kSeq (kReg (kBin rfl rfl rfl (kMovC rfl (kDone (kCondP rfl (fun g14 => kSeq (kReg (kMem [(8192, ⟨1, 0, .box [.d _, .d _, .d _, .d _, .d _, .d _, .d _]⟩)] [(1, .c (.ptr 8192 1 0)), (63, .c (.un)), (64, .c (.un)), (65, .c (.un)), (67, .c (.un)), (68, .c (.un)), (69, .c (.un)), (66, .c (.un)), (70, .c (.un)), (71, .c (.un)), (73, .c (.un)), (74, .c (.un)), (72, .c (.un)), (75, .c (.un)), (76, .c (.un))] [] ⟨rfl, trivial⟩ ⟨rfl, rfl, rfl, rfl, rfl, rfl, rfl, rfl, rfl, rfl, rfl, rfl, rfl, rfl, rfl, trivial⟩ rfl (kFadP rfl rfl (kLoadP rfl rfl rfl (kBin rfl rfl rfl (kMovC rfl (kGP rfl (fun g15 => kGT rfl (kFadP rfl rfl (kGT rfl (kLoadP rfl rfl rfl (kGT rfl (kLenR rfl rfl (kGT rfl (kBin rfl rfl rfl (kPickT rfl (kMovC rfl (kMem [(8192, ⟨1, 0, .box [.d _, .d _, .d _, .d _, .d _, .d _, .d _]⟩)] [(71, .c (.d _)), (1, .c (.ptr 8192 1 0)), (73, .c (.un)), (74, .c (.un)), (72, .c (.un)), (75, .c (.un)), (76, .c (.un))] [] ⟨rfl, trivial⟩ ⟨rfl, rfl, rfl, rfl, rfl, rfl, rfl, trivial⟩ rfl (kMovC rfl (kGP rfl (fun g16 => kGT rfl (kLoadP rfl rfl rfl (kGT rfl (kCallD2 (ok_spec_l12txn _ (by first | assumption | omega | solve_by_elim [List.getElem_mem] | (simp only [szOut] at *; omega))) ⟨⟨⟨rfl, rfl, rfl, rfl, rfl, rfl, rfl, trivial⟩, Nat.le_of_ble_eq_true rfl⟩, trivial⟩ rfl rfl rfl rfl (kGT rfl (kCallD (ok_spec_TxnOk _ _ _ _ _ (by first | assumption | omega | solve_by_elim [List.getElem_mem] | (simp only [szOut] at *; omega)) (by first | assumption | omega | solve_by_elim [List.getElem_mem] | (simp only [szOut] at *; omega)) (by first | assumption | omega | solve_by_elim [List.getElem_mem] | (simp only [szOut] at *; omega))) ⟨⟨⟨rfl, rfl, rfl, rfl, rfl, rfl, rfl, rfl, rfl, rfl, rfl, rfl, rfl, rfl, rfl, rfl, trivial⟩, Nat.le_of_ble_eq_true rfl⟩, trivial⟩ rfl rfl rfl rfl rfl (kPickT rfl (kMovC rfl (kMovC rfl (kDone (kRet (endRetA (ra := [.one (.d _)]) rfl ?_)))))))))))) (fun g16 => kGF rfl (kGF rfl (kGF rfl (kPickF rfl (kMovC rfl (kMovC rfl (kDone (kRet (endRetA (ra := [.one (.d _)]) rfl ?_)))))))))))))))))))))) (fun g15 => kGF rfl (kGF rfl (kGF rfl (kGF rfl (kPickF rfl (kMovC rfl (kMovC rfl (kMem [(8192, ⟨1, 0, .box [.d _, .d _, .d _, .d _, .d _, .d _, .d _]⟩)] [(1, .c (.ptr 8192 1 0)), (73, .c (.un)), (74, .c (.un)), (72, .c (.d _)), (75, .c (.un)), (76, .c (.un))] [] ⟨rfl, trivial⟩ ⟨rfl, rfl, rfl, rfl, rfl, rfl, trivial⟩ rfl (kGF rfl (kGF rfl (kGF rfl (kPickF rfl (kMovC rfl (kMovC rfl (kDone (kRet (endRetA (ra := [.one (.d _)]) rfl ?_))))))))))))))))))))))))) (fun g14 => (by omega)))))))))))))))))))))))))))))))))))))))))) (fun g7 => kGF rfl (kGF rfl (kGF rfl (kGF rfl (kPickF rfl (kMovC rfl (kMovC rfl (kMem [(8192, ⟨1, 0, .box [.d _, .d _, .d _, .d _, .d _, .d _, .d _]⟩)] [(1, .c (.ptr 8192 1 0)), (49, .c (.un)), (50, .c (.un)), (51, .c (.un)), (48, .c (.d _)), (52, .c (.un)), (53, .c (.un))] [] ⟨rfl, trivial⟩ ⟨rfl, rfl, rfl, rfl, rfl, rfl, rfl, trivial⟩ rfl (kGF rfl (kGF rfl (kGF rfl (kGF rfl (kPickF rfl (kMovC rfl (kMovC rfl (kDone (kSeq (kSeq (kReg (kFadP rfl rfl (kLoadP rfl rfl rfl (kDone (kBlock (kSeq (kReg (kBin rfl rfl rfl (kMovC rfl (kDone (kCondP rfl (fun g17 => (by omega)) (fun g17 => kSeq (kReg (kBin rfl rfl rfl (kMovC rfl (kDone (kCondP rfl (fun g18 => kSeq (kReg (kMem [(8192, ⟨1, 0, .box [.d _, .d _, .d _, .d _, .d _, .d _, .d _]⟩)] [(1, .c (.ptr 8192 1 0)), (63, .c (.un)), (64, .c (.un)), (65, .c (.un)), (67, .c (.un)), (68, .c (.un)), (69, .c (.un)), (66, .c (.un)), (70, .c (.un)), (71, .c (.un)), (73, .c (.un)), (74, .c (.un)), (72, .c (.un)), (75, .c (.un)), (76, .c (.un))] [] ⟨rfl, trivial⟩ ⟨rfl, rfl, rfl, rfl, rfl, rfl, rfl, rfl, rfl, rfl, rfl, rfl, rfl, rfl, rfl, trivial⟩ rfl (kFadP rfl rfl (kLoadP rfl rfl rfl (kBin rfl rfl rfl (kMovC rfl (kGP rfl (fun g19 => kGT rfl (kFadP rfl rfl (kGT rfl (kLoadP rfl rfl rfl (kGT rfl (kLenR rfl rfl (kGT rfl (kBin rfl rfl rfl (kPickT rfl (kMovC rfl (kMem [(8192, ⟨1, 0, .box [.d _, .d _, .d _, .d _, .d _, .d _, .d _]⟩)] [(71, .c (.d _)), (1, .c (.ptr 8192 1 0)), (73, .c (.un)), (74, .c (.un)), (72, .c (.un)), (75, .c (.un)), (76, .c (.un))] [] ⟨rfl, trivial⟩ ⟨rfl, rfl, rfl, rfl, rfl, rfl, rfl, trivial⟩ rfl (kMovC rfl (kGP rfl (fun g20 => kGT rfl (kLoadP rfl rfl rfl (kGT rfl (kCallD2 (ok_spec_l12txn _ (by first | assumption | omega | solve_by_elim [List.getElem_mem] | (simp only [szOut] at *; omega))) ⟨⟨⟨rfl, rfl, rfl, rfl, rfl, rfl, rfl, trivial⟩, Nat.le_of_ble_eq_true rfl⟩, trivial⟩ rfl rfl rfl rfl (kGT rfl (kCallD (ok_spec_TxnOk _ _ _ _ _ (by first | assumption | omega | solve_by_elim [List.getElem_mem] | (simp only [szOut] at *; omega)) (by first | assumption | omega | solve_by_elim [List.getElem_mem] | (simp only [szOut] at *; omega)) (by first | assumption | omega | solve_by_elim [List.getElem_mem] | (simp only [szOut] at *; omega))) ⟨⟨⟨rfl, rfl, rfl, rfl, rfl, rfl, rfl, rfl, rfl, rfl, rfl, rfl, rfl, rfl, rfl, rfl, trivial⟩, Nat.le_of_ble_eq_true rfl⟩, trivial⟩ rfl rfl rfl rfl rfl (kPickT rfl (kMovC rfl (kMovC rfl (kDone (kRet (endRetA (ra := [.one (.d _)]) rfl ?_)))))))))))) (fun g20 => kGF rfl (kGF rfl (kGF rfl (kPickF rfl (kMovC rfl (kMovC rfl (kDone (kRet (endRetA (ra := [.one (.d _)]) rfl ?_)))))))))))))))))))))) (fun g19 => kGF rfl (kGF rfl (kGF rfl (kGF rfl (kPickF rfl (kMovC rfl (kMovC rfl (kMem [(8192, ⟨1, 0, .box [.d _, .d _, .d _, .d _, .d _, .d _, .d _]⟩)] [(1, .c (.ptr 8192 1 0)), (73, .c (.un)), (74, .c (.un)), (72, .c (.d _)), (75, .c (.un)), (76, .c (.un))] [] ⟨rfl, trivial⟩ ⟨rfl, rfl, rfl, rfl, rfl, rfl, trivial⟩ rfl (kGF rfl (kGF rfl (kGF rfl (kPickF rfl (kMovC rfl (kMovC rfl (kDone (kRet (endRetA (ra := [.one (.d _)]) rfl ?_))))))))))))))))))))))))) (fun g18 => (by omega))))))))))))))))))))))))))))))))))))))))))))))))))))))))))))))))))))))))) (fun g4 => (by omega)))))))))))))))))))))))))))))))))))))))))))))))))))))))))))
      all_goals try rw [show txIp e = e.ip by simp [txIp, h], show txClient e = e.client by simp [txClient, h], show txHost e = [] by simp [txHost, h], show txAt e = 0 by simp [txAt, h], key, List.length_nil]
      all_goals (refine congrArg (fun z : Bool => [RA.one (RV.d (DV.sc (Value.bool z)))]) ?_; unfold eventOk)
      all_goals first
        | (refine (decide_eq_true ?_).symm; unfold EvP TxP; omega)
        | (refine (decide_eq_false ?_).symm; unfold EvP TxP; omega)
        | (refine decide_eq_decide.2 ?_; unfold EvP TxP; omega)
        | (simp only [EvP, TxP]; rw [Bool.eq_iff_iff]; simp only [beq_iff_eq, decide_eq_true_eq]; omega)
        | (rw [Bool.eq_iff_iff]; simp only [EvP, TxP, beq_iff_eq, decide_eq_true_eq, Bool.and_eq_true, Bool.or_eq_true]; omega)
    · rw [show txIp e = 0 by simp [txIp, h], show txClient e = [] by simp [txClient, h], show txHost e = [] by simp [txHost, h], show txAt e = e.at_ by simp [txAt, h]] at key
      refine kSeq (kReg (kBox rfl rfl rfl rfl rfl (kMovC rfl (kDone (kSeq (kSeq (kReg (kFadP rfl rfl (kLoadP rfl rfl rfl (kBin rfl rfl rfl (kMovC rfl (kGP rfl (fun g0 => (by omega)) (fun g0 => kGT rfl (kFadP rfl rfl (kGT rfl (kLoadP rfl rfl rfl (kMem [(8192, ⟨1, 0, .box [.d _, .d _, .d _, .d _, .d _, .d _, .d _]⟩)] [(9, .c (.d _)), (7, .c (.d _)), (10, .c (.un)), (11, .c (.un)), (1, .c (.ptr 8192 1 0)), (13, .c (.un)), (14, .c (.un)), (15, .c (.un)), (12, .c (.un)), (16, .c (.un)), (17, .c (.un)), (19, .c (.un)), (20, .c (.un)), (21, .c (.un)), (18, .c (.un)), (22, .c (.un))] [] ⟨rfl, trivial⟩ ⟨rfl, rfl, rfl, rfl, rfl, rfl, rfl, rfl, rfl, rfl, rfl, rfl, rfl, rfl, rfl, rfl, trivial⟩ rfl (kGT rfl (kBin rfl rfl rfl (kPickF rfl (kMovC rfl (kMovC rfl (kGP rfl (fun g1 => (by omega)) (fun g1 => kGT rfl (kFadP rfl rfl (kGT rfl (kLoadP rfl rfl rfl (kGT rfl (kLenR rfl rfl (kGT rfl (kBin rfl rfl rfl (kPickF rfl (kMovC rfl (kMovC rfl (kGP rfl (fun g2 => kMem [(8192, ⟨1, 0, .box [.d _, .d _, .d _, .d _, .d _, .d _, .d _]⟩)] [(1, .c (.ptr 8192 1 0)), (19, .c (.un)), (20, .c (.un)), (21, .c (.un)), (18, .c (.d _)), (22, .c (.un))] [] ⟨rfl, trivial⟩ ⟨rfl, rfl, rfl, rfl, rfl, rfl, trivial⟩ rfl (kGF rfl (kGF rfl (kGF rfl (kGF rfl (kPickT rfl (kMovC rfl (kDone (kCondT rfl (kSeq (kReg (kMovC rfl (kDone (kRet (endRetA (ra := [.one (.d _)]) rfl ?_))))))))))))))) (fun g2 => kMem [(8192, ⟨1, 0, .box [.d _, .d _, .d _, .d _, .d _, .d _, .d _]⟩)] [(1, .c (.ptr 8192 1 0)), (19, .c (.un)), (20, .c (.un)), (21, .c (.un)), (18, .c (.d _)), (22, .c (.un))] [] ⟨rfl, trivial⟩ ⟨rfl, rfl, rfl, rfl, rfl, rfl, trivial⟩ rfl (kGT rfl (kFadP rfl rfl (kGT rfl (kLoadP rfl rfl rfl (kGT rfl (kLenR rfl rfl (kGT rfl (kBin rfl rfl rfl (kPickF rfl (kMovC rfl (kDone (kCondP rfl (fun g3 => kSeq (kReg (kMovC rfl (kDone (kRet (endRetA (ra := [.one (.d _)]) rfl ?_)))))) (fun g3 => kSkip (kSeq (kSeq (kReg (kFadP rfl rfl (kLoadP rfl rfl rfl (kBin rfl rfl rfl (kMovC rfl (kGIN rfl (fun g4 => kMem [(8192, ⟨1, 0, .box [.d _, .d _, .d _, .d _, .d _, .d _, .d _]⟩)] [(1, .c (.ptr 8192 1 0)), (28, .c (.un)), (29, .c (.un)), (30, .c (.un)), (31, .c (.un)), (33, .c (.un)), (34, .c (.un)), (35, .c (.un)), (32, .c (.un)), (36, .c (.un)), (27, .c (.d _)), (37, .c (.un))] [] ⟨rfl, trivial⟩ ⟨rfl, rfl, rfl, rfl, rfl, rfl, rfl, rfl, rfl, rfl, rfl, rfl, trivial⟩ rfl (kGT rfl (kFadP rfl rfl (kGT rfl (kLoadP rfl rfl rfl (kGT rfl (kLenR rfl rfl (kGT rfl (kBin rfl rfl rfl (kGT rfl (kMovC rfl (kGP rfl (fun g5 => kGF rfl (kGF rfl (kGF rfl (kGF rfl (kGT rfl (kPickT rfl (kMovC rfl (kPickT rfl (kMovC rfl (kDone (kCondT rfl (kSeq (kReg (kMovC rfl (kDone (kRet (endRetA (ra := [.one (.d _)]) rfl ?_))))))))))))))))) (fun g5 => kGT rfl (kFadP rfl rfl (kGT rfl (kLoadP rfl rfl rfl (kGT rfl (kLenR rfl rfl (kGT rfl (kBin rfl rfl rfl (kGT rfl (kPickF rfl (kMovC rfl (kPickT rfl (kMovC rfl (kDone (kCondP rfl (fun g6 => kSeq (kReg (kMovC rfl (kDone (kRet (endRetA (ra := [.one (.d _)]) rfl ?_)))))) (fun g6 => kSkip (kSeq (kReg (kMem [(8192, ⟨1, 0, .box [.d _, .d _, .d _, .d _, .d _, .d _, .d _]⟩)] [(1, .c (.ptr 8192 1 0)), (39, .c (.un)), (40, .c (.un)), (41, .c (.un)), (43, .c (.un)), (44, .c (.un)), (45, .c (.un)), (42, .c (.un)), (46, .c (.un)), (47, .c (.un)), (49, .c (.un)), (50, .c (.un)), (51, .c (.un)), (48, .c (.un)), (52, .c (.un)), (53, .c (.un))] [] ⟨rfl, trivial⟩ ⟨rfl, rfl, rfl, rfl, rfl, rfl, rfl, rfl, rfl, rfl, rfl, rfl, rfl, rfl, rfl, rfl, trivial⟩ rfl (kFadP rfl rfl (kLoadP rfl rfl rfl (kBin rfl rfl rfl (kMovC rfl (kGP rfl (fun g7 => kGT rfl (kFadP rfl rfl (kGT rfl (kLoadP rfl rfl rfl (kGT rfl (kLenR rfl rfl (kGT rfl (kBin rfl rfl rfl (kPickT rfl (kMovC rfl (kMem [(8192, ⟨1, 0, .box [.d _, .d _, .d _, .d _, .d _, .d _, .d _]⟩)] [(47, .c (.d _)), (1, .c (.ptr 8192 1 0)), (49, .c (.un)), (50, .c (.un)), (51, .c (.un)), (48, .c (.un)), (52, .c (.un)), (53, .c (.un))] [] ⟨rfl, trivial⟩ ⟨rfl, rfl, rfl, rfl, rfl, rfl, rfl, rfl, trivial⟩ rfl (kMovC rfl (kGP rfl (fun g8 => kGT rfl (kFadP rfl rfl (kGT rfl (kLoadP rfl rfl rfl (kGT rfl (kLenR rfl rfl (kGT rfl (kBin rfl rfl rfl (kPickT rfl (kMovC rfl (kMovC rfl (kDone (kSeq (kSeq (kReg (kFadP rfl rfl (kLoadP rfl rfl rfl (kDone (kBlock (kSeq (kReg (kBin rfl rfl rfl (kMovC rfl (kDone (kCondP rfl (fun g9 => (by omega)) (fun g9 => kSeq (kReg (kBin rfl rfl rfl (kMovC rfl (kDone (kCondP rfl (fun g10 => (by omega)) (fun g10 => kSeq (kReg (kBin rfl rfl rfl (kMovC rfl (kDone (kCondP rfl (fun g11 => kSeq (kReg (kMem [(8192, ⟨1, 0, .box [.d _, .d _, .d _, .d _, .d _, .d _, .d _]⟩)] [(3, .c (.d _)), (79, .c (.un)), (1, .c (.ptr 8192 1 0)), (81, .c (.un)), (82, .c (.un)), (80, .c (.un)), (83, .c (.un)), (84, .c (.un))] [] ⟨rfl, trivial⟩ ⟨rfl, rfl, rfl, rfl, rfl, rfl, rfl, rfl, trivial⟩ rfl (kMovC rfl (kMovC rfl (kGP rfl (fun g12 => kGT rfl (kLoadP rfl rfl rfl (kGT rfl (kCallD2 (ok_spec_l12txn _ (by first | assumption | omega | solve_by_elim [List.getElem_mem] | (simp only [szOut] at *; omega))) ⟨⟨⟨rfl, rfl, rfl, rfl, rfl, rfl, rfl, trivial⟩, Nat.le_of_ble_eq_true rfl⟩, trivial⟩ rfl rfl rfl rfl (kGT rfl (kCallD (ok_spec_TxnOk _ _ _ _ _ (by first | assumption | omega | solve_by_elim [List.getElem_mem] | (simp only [szOut] at *; omega)) (by first | assumption | omega | solve_by_elim [List.getElem_mem] | (simp only [szOut] at *; omega)) (by first | assumption | omega | solve_by_elim [List.getElem_mem] | (simp only [szOut] at *; omega))) ⟨⟨⟨rfl, rfl, rfl, rfl, rfl, rfl, rfl, rfl, rfl, rfl, rfl, rfl, rfl, rfl, rfl, rfl, trivial⟩, Nat.le_of_ble_eq_true rfl⟩, trivial⟩ rfl rfl rfl rfl rfl (kPickT rfl (kMovC rfl (kMovC rfl (kDone (kRet (endRetA (ra := [.one (.d _)]) rfl ?_)))))))))))) (fun g12 => kGF rfl (kGF rfl (kGF rfl (kPickF rfl (kMovC rfl (kMovC rfl (kDone (kRet (endRetA (ra := [.one (.d _)]) rfl ?_))))))))))))))) (fun g11 => (by omega))))))))))))))))))))))))))))))))))))))) (fun g8 => kGF rfl (kGF rfl (kGF rfl (kGF rfl (kPickF rfl (kMovC rfl (kMovC rfl (kDone (kSeq (kSeq (kReg (kFadP rfl rfl (kLoadP rfl rfl rfl (kDone (kBlock (kSeq (kReg (kBin rfl rfl rfl (kMovC rfl (kDone (kCondP rfl (fun g13 => (by omega)) (fun g13 => kSeq (kReg (kBin rfl rfl rfl (kMovC rfl (kDone (kCondP rfl (fun g14 => (by omega)) (fun g14 => kSeq (kReg (kBin rfl rfl rfl (kMovC rfl (kDone (kCondP rfl (fun g15 => kSeq (kReg (kMem [(8192, ⟨1, 0, .box [.d _, .d _, .d _, .d _, .d _, .d _, .d _]⟩)] [(3, .c (.d _)), (79, .c (.un)), (1, .c (.ptr 8192 1 0)), (81, .c (.un)), (82, .c (.un)), (80, .c (.un)), (83, .c (.un)), (84, .c (.un))] [] ⟨rfl, trivial⟩ ⟨rfl, rfl, rfl, rfl, rfl, rfl, rfl, rfl, trivial⟩ rfl (kMovC rfl (kMovC rfl (kGF rfl (kGF rfl (kGF rfl (kPickF rfl (kMovC rfl (kMovC rfl (kDone (kRet (endRetA (ra := [.one (.d _)]) rfl ?_)))))))))))))) (fun g15 => (by omega)))))))))))))))))))))))))))))))))))))))))))))))) (fun g7 => kGF rfl (kGF rfl (kGF rfl (kGF rfl (kPickF rfl (kMovC rfl (kMovC rfl (kMem [(8192, ⟨1, 0, .box [.d _, .d _, .d _, .d _, .d _, .d _, .d _]⟩)] [(1, .c (.ptr 8192 1 0)), (49, .c (.un)), (50, .c (.un)), (51, .c (.un)), (48, .c (.d _)), (52, .c (.un)), (53, .c (.un))] [] ⟨rfl, trivial⟩ ⟨rfl, rfl, rfl, rfl, rfl, rfl, rfl, trivial⟩ rfl (kGF rfl (kGF rfl (kGF rfl (kGF rfl (kPickF rfl (kMovC rfl (kMovC rfl (kDone (kSeq (kSeq (kReg (kFadP rfl rfl (kLoadP rfl rfl rfl (kDone (kBlock (kSeq (kReg (kBin rfl rfl rfl (kMovC rfl (kDone (kCondP rfl (fun g16 => (by omega)) (fun g16 => kSeq (kReg (kBin rfl rfl rfl (kMovC rfl (kDone (kCondP rfl (fun g17 => (by omega)) (fun g17 => kSeq (kReg (kBin rfl rfl rfl (kMovC rfl (kDone (kCondP rfl (fun g18 => kSeq (kReg (kMem [(8192, ⟨1, 0, .box [.d _, .d _, .d _, .d _, .d _, .d _, .d _]⟩)] [(3, .c (.d _)), (79, .c (.un)), (1, .c (.ptr 8192 1 0)), (81, .c (.un)), (82, .c (.un)), (80, .c (.un)), (83, .c (.un)), (84, .c (.un))] [] ⟨rfl, trivial⟩ ⟨rfl, rfl, rfl, rfl, rfl, rfl, rfl, rfl, trivial⟩ rfl (kMovC rfl (kMovC rfl (kGF rfl (kGF rfl (kGF rfl (kPickF rfl (kMovC rfl (kMovC rfl (kDone (kRet (endRetA (ra := [.one (.d _)]) rfl ?_)))))))))))))) (fun g18 => (by omega))))))))))))))))))))))))))))))))))))))))))))))))))))))))))))))))))))))))))))))) (fun g4 => (by omega)))))))))))))))))))))))))))))))))))))))))))))))))))))))))))
      all_goals try rw [show txIp e = 0 by simp [txIp, h], show txClient e = [] by simp [txClient, h], show txHost e = [] by simp [txHost, h], show txAt e = e.at_ by simp [txAt, h], key, List.length_nil]
      all_goals (refine congrArg (fun z : Bool => [RA.one (RV.d (DV.sc (Value.bool z)))]) ?_; unfold eventOk)
      all_goals first
        | (refine (decide_eq_true ?_).symm; unfold EvP TxP; omega)
        | (refine (decide_eq_false ?_).symm; unfold EvP TxP; omega)
        | (refine decide_eq_decide.2 ?_; unfold EvP TxP; omega)
        | (simp only [EvP, TxP]; rw [Bool.eq_iff_iff]; simp only [beq_iff_eq, decide_eq_true_eq]; omega)
        | (rw [Bool.eq_iff_iff]; simp only [EvP, TxP, beq_iff_eq, decide_eq_true_eq, Bool.and_eq_true, Bool.or_eq_true]; omega)
  · refine kSeq (kReg (kBox rfl rfl rfl rfl rfl (kMovC rfl (kDone (kSeq (kSeq (kReg (kFadP rfl rfl (kLoadP rfl rfl rfl (kBin rfl rfl rfl (kMovC rfl (kGP rfl (fun g0 => kGF rfl (kGF rfl (kGF rfl (kMem [(8192, ⟨1, 0, .box [.d _, .d _, .d _, .d _, .d _, .d _, .d _]⟩)] [(7, .c (.d _)), (10, .c (.un)), (11, .c (.un)), (1, .c (.ptr 8192 1 0)), (13, .c (.un)), (14, .c (.un)), (15, .c (.un)), (12, .c (.un)), (16, .c (.un)), (17, .c (.un)), (19, .c (.un)), (20, .c (.un)), (21, .c (.un)), (18, .c (.un)), (22, .c (.un))] [] ⟨rfl, trivial⟩ ⟨rfl, rfl, rfl, rfl, rfl, rfl, rfl, rfl, rfl, rfl, rfl, rfl, rfl, rfl, rfl, trivial⟩ rfl (kPickT rfl (kMovC rfl (kMovC rfl (kGF rfl (kGF rfl (kGF rfl (kGF rfl (kPickT rfl (kMovC rfl (kMovC rfl (kGF rfl (kGF rfl (kGF rfl (kGF rfl (kPickT rfl (kMovC rfl (kDone (kCondT rfl (kSeq (kReg (kMovC rfl (kDone (kRet (endRetA (ra := [.one (.d _)]) rfl ?_)))))))))))))))))))))))))))) (fun g0 => kGT rfl (kFadP rfl rfl (kGT rfl (kLoadP rfl rfl rfl (kMem [(8192, ⟨1, 0, .box [.d _, .d _, .d _, .d _, .d _, .d _, .d _]⟩)] [(9, .c (.d _)), (7, .c (.d _)), (10, .c (.un)), (11, .c (.un)), (1, .c (.ptr 8192 1 0)), (13, .c (.un)), (14, .c (.un)), (15, .c (.un)), (12, .c (.un)), (16, .c (.un)), (17, .c (.un)), (19, .c (.un)), (20, .c (.un)), (21, .c (.un)), (18, .c (.un)), (22, .c (.un))] [] ⟨rfl, trivial⟩ ⟨rfl, rfl, rfl, rfl, rfl, rfl, rfl, rfl, rfl, rfl, rfl, rfl, rfl, rfl, rfl, rfl, trivial⟩ rfl (kGT rfl (kBin rfl rfl rfl (kPickF rfl (kMovC rfl (kMovC rfl (kGP rfl (fun g1 => kGF rfl (kGF rfl (kGF rfl (kGF rfl (kPickT rfl (kMovC rfl (kMovC rfl (kGF rfl (kGF rfl (kGF rfl (kGF rfl (kPickT rfl (kMovC rfl (kDone (kCondT rfl (kSeq (kReg (kMovC rfl (kDone (kRet (endRetA (ra := [.one (.d _)]) rfl ?_))))))))))))))))))))) (fun g1 => kGT rfl (kFadP rfl rfl (kGT rfl (kLoadP rfl rfl rfl (kGT rfl (kLenR rfl rfl (kGT rfl (kBin rfl rfl rfl (kPickF rfl (kMovC rfl (kMovC rfl (kGP rfl (fun g2 => kMem [(8192, ⟨1, 0, .box [.d _, .d _, .d _, .d _, .d _, .d _, .d _]⟩)] [(1, .c (.ptr 8192 1 0)), (19, .c (.un)), (20, .c (.un)), (21, .c (.un)), (18, .c (.d _)), (22, .c (.un))] [] ⟨rfl, trivial⟩ ⟨rfl, rfl, rfl, rfl, rfl, rfl, trivial⟩ rfl (kGF rfl (kGF rfl (kGF rfl (kGF rfl (kPickT rfl (kMovC rfl (kDone (kCondT rfl (kSeq (kReg (kMovC rfl (kDone (kRet (endRetA (ra := [.one (.d _)]) rfl ?_))))))))))))))) (fun g2 => kMem [(8192, ⟨1, 0, .box [.d _, .d _, .d _, .d _, .d _, .d _, .d _]⟩)] [(1, .c (.ptr 8192 1 0)), (19, .c (.un)), (20, .c (.un)), (21, .c (.un)), (18, .c (.d _)), (22, .c (.un))] [] ⟨rfl, trivial⟩ ⟨rfl, rfl, rfl, rfl, rfl, rfl, trivial⟩ rfl (kGT rfl (kFadP rfl rfl (kGT rfl (kLoadP rfl rfl rfl (kGT rfl (kLenR rfl rfl (kGT rfl (kBin rfl rfl rfl (kPickF rfl (kMovC rfl (kDone (kCondP rfl (fun g3 => kSeq (kReg (kMovC rfl (kDone (kRet (endRetA (ra := [.one (.d _)]) rfl ?_)))))) (fun g3 => kSkip (kSeq (kSeq (kReg (kFadP rfl rfl (kLoadP rfl rfl rfl (kBin rfl rfl rfl (kMovC rfl (kGIN rfl (fun g4 => kMem [(8192, ⟨1, 0, .box [.d _, .d _, .d _, .d _, .d _, .d _, .d _]⟩)] [(1, .c (.ptr 8192 1 0)), (28, .c (.un)), (29, .c (.un)), (30, .c (.un)), (31, .c (.un)), (33, .c (.un)), (34, .c (.un)), (35, .c (.un)), (32, .c (.un)), (36, .c (.un)), (27, .c (.d _)), (37, .c (.un))] [] ⟨rfl, trivial⟩ ⟨rfl, rfl, rfl, rfl, rfl, rfl, rfl, rfl, rfl, rfl, rfl, rfl, trivial⟩ rfl (kGT rfl (kFadP rfl rfl (kGT rfl (kLoadP rfl rfl rfl (kGT rfl (kLenR rfl rfl (kGT rfl (kBin rfl rfl rfl (kGT rfl (kMovC rfl (kGP rfl (fun g5 => kGF rfl (kGF rfl (kGF rfl (kGF rfl (kGT rfl (kPickT rfl (kMovC rfl (kPickT rfl (kMovC rfl (kDone (kCondT rfl (kSeq (kReg (kMovC rfl (kDone (kRet (endRetA (ra := [.one (.d _)]) rfl ?_))))))))))))))))) (fun g5 => kGT rfl (kFadP rfl rfl (kGT rfl (kLoadP rfl rfl rfl (kGT rfl (kLenR rfl rfl (kGT rfl (kBin rfl rfl rfl (kGT rfl (kPickF rfl (kMovC rfl (kPickT rfl (kMovC rfl (kDone (kCondP rfl (fun g6 => kSeq (kReg (kMovC rfl (kDone (kRet (endRetA (ra := [.one (.d _)]) rfl ?_)))))) (fun g6 => kSkip (kSeq (kReg (kMem [(8192, ⟨1, 0, .box [.d _, .d _, .d _, .d _, .d _, .d _, .d _]⟩)] [(1, .c (.ptr 8192 1 0)), (39, .c (.un)), (40, .c (.un)), (41, .c (.un)), (43, .c (.un)), (44, .c (.un)), (45, .c (.un)), (42, .c (.un)), (46, .c (.un)), (47, .c (.un)), (49, .c (.un)), (50, .c (.un)), (51, .c (.un)), (48, .c (.un)), (52, .c (.un)), (53, .c (.un))] [] ⟨rfl, trivial⟩ ⟨rfl, rfl, rfl, rfl, rfl, rfl, rfl, rfl, rfl, rfl, rfl, rfl, rfl, rfl, rfl, rfl, trivial⟩ rfl (kFadP rfl rfl (kLoadP rfl rfl rfl (kBin rfl rfl rfl (kMovC rfl (kGP rfl (fun g7 => kGT rfl (kFadP rfl rfl (kGT rfl (kLoadP rfl rfl rfl (kGT rfl (kLenR rfl rfl (kGT rfl (kBin rfl rfl rfl (kPickT rfl (kMovC rfl (kMem [(8192, ⟨1, 0, .box [.d _, .d _, .d _, .d _, .d _, .d _, .d _]⟩)] [(47, .c (.d _)), (1, .c (.ptr 8192 1 0)), (49, .c (.un)), (50, .c (.un)), (51, .c (.un)), (48, .c (.un)), (52, .c (.un)), (53, .c (.un))] [] ⟨rfl, trivial⟩ ⟨rfl, rfl, rfl, rfl, rfl, rfl, rfl, rfl, trivial⟩ rfl (kMovC rfl (kGP rfl (fun g8 => kGT rfl (kFadP rfl rfl (kGT rfl (kLoadP rfl rfl rfl (kGT rfl (kLenR rfl rfl (kGT rfl (kBin rfl rfl rfl (kPickT rfl (kMovC rfl (kMovC rfl (kDone (kSeq (kSeq (kReg (kFadP rfl rfl (kLoadP rfl rfl rfl (kDone (kBlock (kSeq (kReg (kBin rfl rfl rfl (kMovC rfl (kDone (kCondP rfl (fun g9 => (by omega)) (fun g9 => kSeq (kReg (kBin rfl rfl rfl (kMovC rfl (kDone (kCondP rfl (fun g10 => (by omega)) (fun g10 => kSeq (kReg (kBin rfl rfl rfl (kMovC rfl (kDone (kCondP rfl (fun g11 => (by omega)) (fun g11 => kSeq (kReg (kBin rfl rfl rfl (kMovC rfl (kDone (kCondP rfl (fun g12 => kSeq (kReg (kMem [(8192, ⟨1, 0, .box [.d _, .d _, .d _, .d _, .d _, .d _, .d _]⟩)] [(3, .c (.d _)), (87, .c (.un)), (1, .c (.ptr 8192 1 0)), (89, .c (.un)), (90, .c (.un)), (88, .c (.un)), (91, .c (.un)), (92, .c (.un)), (94, .c (.un)), (95, .c (.un)), (93, .c (.un)), (96, .c (.un)), (97, .c (.un))] [] ⟨rfl, trivial⟩ ⟨rfl, rfl, rfl, rfl, rfl, rfl, rfl, rfl, rfl, rfl, rfl, rfl, rfl, trivial⟩ rfl (kMovC rfl (kMovC rfl (kGP rfl (fun g13 => kGT rfl (kFadP rfl rfl (kGT rfl (kLoadP rfl rfl rfl (kGT rfl (kBin rfl rfl rfl (kPickT rfl (kMovC rfl (kMovC rfl (kGP rfl (fun g14 => kGT rfl (kFadP rfl rfl (kGT rfl (kLoadP rfl rfl rfl (kGT rfl (kBin rfl rfl rfl (kPickT rfl (kMovC rfl (kMovC rfl (kDone (kRet (endRetA (ra := [.one (.d _)]) rfl ?_)))))))))))) (fun g14 => kGF rfl (kGF rfl (kGF rfl (kPickF rfl (kMovC rfl (kMovC rfl (kDone (kRet (endRetA (ra := [.one (.d _)]) rfl ?_))))))))))))))))))) (fun g13 => kGF rfl (kGF rfl (kGF rfl (kPickF rfl (kMovC rfl (kMovC rfl (kGF rfl (kGF rfl (kGF rfl (kPickF rfl (kMovC rfl (kMovC rfl (kDone (kRet (endRetA (ra := [.one (.d _)]) rfl ?_))))))))))))))))))))) (fun g12 => kSkip (kBk (kSeq (kReg (kMem [(8192, ⟨1, 0, .box [.d _, .d _, .d _, .d _, .d _, .d _, .d _]⟩)] [(3, .c (.d _)), (98, .c (.un)), (1, .c (.ptr 8192 1 0)), (100, .c (.un)), (101, .c (.un)), (99, .c (.un)), (102, .c (.un)), (103, .c (.un))] [] ⟨rfl, trivial⟩ ⟨rfl, rfl, rfl, rfl, rfl, rfl, rfl, rfl, trivial⟩ rfl (kMovC rfl (kMovC rfl (kGP rfl (fun g15 => kGT rfl (kFadP rfl rfl (kGT rfl (kLoadP rfl rfl rfl (kGT rfl (kBin rfl rfl rfl (kPickT rfl (kMovC rfl (kMovC rfl (kDone (kRet (endRetA (ra := [.one (.d _)]) rfl ?_)))))))))))) (fun g15 => kGF rfl (kGF rfl (kGF rfl (kPickF rfl (kMovC rfl (kMovC rfl (kDone (kRet (endRetA (ra := [.one (.d _)]) rfl ?_)))))))))))))))))))))))))))))))))))))))))))))))))))))))))))) (fun g8 => kGF rfl (kGF rfl (kGF rfl (kGF rfl (kPickF rfl (kMovC rfl (kMovC rfl (kDone (kSeq (kSeq (kReg (kFadP rfl rfl (kLoadP rfl rfl rfl (kDone (kBlock (kSeq (kReg (kBin rfl rfl rfl (kMovC rfl (kDone (kCondP rfl (fun g16 => (by omega)) (fun g16 => kSeq (kReg (kBin rfl rfl rfl (kMovC rfl (kDone (kCondP rfl (fun g17 => (by omega)) (fun g17 => kSeq (kReg (kBin rfl rfl rfl (kMovC rfl (kDone (kCondP rfl (fun g18 => (by omega)) (fun g18 => kSeq (kReg (kBin rfl rfl rfl (kMovC rfl (kDone (kCondP rfl (fun g19 => kSeq (kReg (kMem [(8192, ⟨1, 0, .box [.d _, .d _, .d _, .d _, .d _, .d _, .d _]⟩)] [(3, .c (.d _)), (87, .c (.un)), (1, .c (.ptr 8192 1 0)), (89, .c (.un)), (90, .c (.un)), (88, .c (.un)), (91, .c (.un)), (92, .c (.un)), (94, .c (.un)), (95, .c (.un)), (93, .c (.un)), (96, .c (.un)), (97, .c (.un))] [] ⟨rfl, trivial⟩ ⟨rfl, rfl, rfl, rfl, rfl, rfl, rfl, rfl, rfl, rfl, rfl, rfl, rfl, trivial⟩ rfl (kMovC rfl (kMovC rfl (kGF rfl (kGF rfl (kGF rfl (kPickF rfl (kMovC rfl (kMovC rfl (kGF rfl (kGF rfl (kGF rfl (kPickF rfl (kMovC rfl (kMovC rfl (kDone (kRet (endRetA (ra := [.one (.d _)]) rfl ?_)))))))))))))))))))) (fun g19 => kSkip (kBk (kSeq (kReg (kMem [(8192, ⟨1, 0, .box [.d _, .d _, .d _, .d _, .d _, .d _, .d _]⟩)] [(3, .c (.d _)), (98, .c (.un)), (1, .c (.ptr 8192 1 0)), (100, .c (.un)), (101, .c (.un)), (99, .c (.un)), (102, .c (.un)), (103, .c (.un))] [] ⟨rfl, trivial⟩ ⟨rfl, rfl, rfl, rfl, rfl, rfl, rfl, rfl, trivial⟩ rfl (kMovC rfl (kMovC rfl (kGF rfl (kGF rfl (kGF rfl (kPickF rfl (kMovC rfl (kMovC rfl (kDone (kRet (endRetA (ra := [.one (.d _)]) rfl ?_)))))))))))))))))))))))))))))))))))))))))))))))))))))))))))))))))))) (fun g7 => kGF rfl (kGF rfl (kGF rfl (kGF rfl (kPickF rfl (kMovC rfl (kMovC rfl (kMem [(8192, ⟨1, 0, .box [.d _, .d _, .d _, .d _, .d _, .d _, .d _]⟩)] [(1, .c (.ptr 8192 1 0)), (49, .c (.un)), (50, .c (.un)), (51, .c (.un)), (48, .c (.d _)), (52, .c (.un)), (53, .c (.un))] [] ⟨rfl, trivial⟩ ⟨rfl, rfl, rfl, rfl, rfl, rfl, rfl, trivial⟩ rfl (kGF rfl (kGF rfl (kGF rfl (kGF rfl (kPickF rfl (kMovC rfl (kMovC rfl (kDone (kSeq (kSeq (kReg (kFadP rfl rfl (kLoadP rfl rfl rfl (kDone (kBlock (kSeq (kReg (kBin rfl rfl rfl (kMovC rfl (kDone (kCondP rfl (fun g20 => (by omega)) (fun g20 => kSeq (kReg (kBin rfl rfl rfl (kMovC rfl (kDone (kCondP rfl (fun g21 => (by omega)) (fun g21 => kSeq (kReg (kBin rfl rfl rfl (kMovC rfl (kDone (kCondP rfl (fun g22 => (by omega)) (fun g22 => kSeq (kReg (kBin rfl rfl rfl (kMovC rfl (kDone (kCondP rfl (fun g23 => kSeq (kReg (kMem [(8192, ⟨1, 0, .box [.d _, .d _, .d _, .d _, .d _, .d _, .d _]⟩)] [(3, .c (.d _)), (87, .c (.un)), (1, .c (.ptr 8192 1 0)), (89, .c (.un)), (90, .c (.un)), (88, .c (.un)), (91, .c (.un)), (92, .c (.un)), (94, .c (.un)), (95, .c (.un)), (93, .c (.un)), (96, .c (.un)), (97, .c (.un))] [] ⟨rfl, trivial⟩ ⟨rfl, rfl, rfl, rfl, rfl, rfl, rfl, rfl, rfl, rfl, rfl, rfl, rfl, trivial⟩ rfl (kMovC rfl (kMovC rfl (kGF rfl (kGF rfl (kGF rfl (kPickF rfl (kMovC rfl (kMovC rfl (kGF rfl (kGF rfl (kGF rfl (kPickF rfl (kMovC rfl (kMovC rfl (kDone (kRet (endRetA (ra := [.one (.d _)]) rfl ?_)))))))))))))))))))) (fun g23 => kSkip (kBk (kSeq (kReg (kMem [(8192, ⟨1, 0, .box [.d _, .d _, .d _, .d _, .d _, .d _, .d _]⟩)] [(3, .c (.d _)), (98, .c (.un)), (1, .c (.ptr 8192 1 0)), (100, .c (.un)), (101, .c (.un)), (99, .c (.un)), (102, .c (.un)), (103, .c (.un))] [] ⟨rfl, trivial⟩ ⟨rfl, rfl, rfl, rfl, rfl, rfl, rfl, rfl, trivial⟩ rfl (kMovC rfl (kMovC rfl (kGF rfl (kGF rfl (kGF rfl (kPickF rfl (kMovC rfl (kMovC rfl (kDone (kRet (endRetA (ra := [.one (.d _)]) rfl ?_))))))))))))))))))))))))))))))))))))))))))))))))))))))))))))))))))))))))))))))))))))))))))))))))))) (fun g4 => kMem [(8192, ⟨1, 0, .box [.d _, .d _, .d _, .d _, .d _, .d _, .d _]⟩)] [(1, .c (.ptr 8192 1 0)), (28, .c (.un)), (29, .c (.un)), (30, .c (.un)), (31, .c (.un)), (33, .c (.un)), (34, .c (.un)), (35, .c (.un)), (32, .c (.un)), (36, .c (.un)), (27, .c (.d _)), (37, .c (.un))] [] ⟨rfl, trivial⟩ ⟨rfl, rfl, rfl, rfl, rfl, rfl, rfl, rfl, rfl, rfl, rfl, rfl, trivial⟩ rfl (kGF rfl (kGF rfl (kGF rfl (kGF rfl (kGF rfl (kGU rfl (kGU rfl (kGU rfl (kGU rfl (kGF rfl (kPickF rfl (kMovC rfl (kDone (kCondF rfl (kSkip (kSeq (kReg (kFadP rfl rfl (kMem [(8192, ⟨1, 0, .box [.d _, .d _, .d _, .d _, .d _, .d _, .d _]⟩)] [(39, .c (.ptr 8192 1 2)), (40, .c (.un)), (41, .c (.un)), (1, .c (.ptr 8192 1 0)), (43, .c (.un)), (44, .c (.un)), (45, .c (.un)), (42, .c (.un)), (46, .c (.un)), (47, .c (.un)), (49, .c (.un)), (50, .c (.un)), (51, .c (.un)), (48, .c (.un)), (52, .c (.un)), (53, .c (.un))] [] ⟨rfl, trivial⟩ ⟨rfl, rfl, rfl, rfl, rfl, rfl, rfl, rfl, rfl, rfl, rfl, rfl, rfl, rfl, rfl, rfl, trivial⟩ rfl (kLoadP rfl rfl rfl (kBin rfl rfl rfl (kMovC rfl (kGP rfl (fun g24 => kGT rfl (kFadP rfl rfl (kGT rfl (kLoadP rfl rfl rfl (kGT rfl (kLenR rfl rfl (kGT rfl (kBin rfl rfl rfl (kPickT rfl (kMovC rfl (kMovC rfl (kMem [(8192, ⟨1, 0, .box [.d _, .d _, .d _, .d _, .d _, .d _, .d _]⟩)] [(1, .c (.ptr 8192 1 0)), (49, .c (.un)), (50, .c (.un)), (51, .c (.un)), (48, .c (.d _)), (52, .c (.un)), (53, .c (.un))] [] ⟨rfl, trivial⟩ ⟨rfl, rfl, rfl, rfl, rfl, rfl, rfl, trivial⟩ rfl (kGP rfl (fun g25 => kGT rfl (kFadP rfl rfl (kGT rfl (kLoadP rfl rfl rfl (kGT rfl (kLenR rfl rfl (kGT rfl (kBin rfl rfl rfl (kPickT rfl (kMovC rfl (kMovC rfl (kDone (kSeq (kSeq (kReg (kFadP rfl rfl (kLoadP rfl rfl rfl (kDone (kBlock (kSeq (kReg (kBin rfl rfl rfl (kMovC rfl (kDone (kCondP rfl (fun g26 => (by omega)) (fun g26 => kSeq (kReg (kBin rfl rfl rfl (kMovC rfl (kDone (kCondP rfl (fun g27 => (by omega)) (fun g27 => kSeq (kReg (kBin rfl rfl rfl (kMovC rfl (kDone (kCondP rfl (fun g28 => (by omega)) (fun g28 => kSeq (kReg (kBin rfl rfl rfl (kMovC rfl (kDone (kCondP rfl (fun g29 => (by omega)) (fun g29 => kSkip (kBk (kSeq (kReg (kMem [(8192, ⟨1, 0, .box [.d _, .d _, .d _, .d _, .d _, .d _, .d _]⟩)] [(3, .c (.d _)), (98, .c (.un)), (1, .c (.ptr 8192 1 0)), (100, .c (.un)), (101, .c (.un)), (99, .c (.un)), (102, .c (.un)), (103, .c (.un))] [] ⟨rfl, trivial⟩ ⟨rfl, rfl, rfl, rfl, rfl, rfl, rfl, rfl, trivial⟩ rfl (kMovC rfl (kMovC rfl (kGP rfl (fun g30 => kGT rfl (kFadP rfl rfl (kGT rfl (kLoadP rfl rfl rfl (kGT rfl (kBin rfl rfl rfl (kPickT rfl (kMovC rfl (kMovC rfl (kDone (kRet (endRetA (ra := [.one (.d _)]) rfl ?_)))))))))))) (fun g30 => kGF rfl (kGF rfl (kGF rfl (kPickF rfl (kMovC rfl (kMovC rfl (kDone (kRet (endRetA (ra := [.one (.d _)]) rfl ?_)))))))))))))))))))))))))))))))))))))))))))))))))))))))))))) (fun g25 => kGF rfl (kGF rfl (kGF rfl (kGF rfl (kPickF rfl (kMovC rfl (kMovC rfl (kDone (kSeq (kSeq (kReg (kFadP rfl rfl (kLoadP rfl rfl rfl (kDone (kBlock (kSeq (kReg (kBin rfl rfl rfl (kMovC rfl (kDone (kCondP rfl (fun g31 => (by omega)) (fun g31 => kSeq (kReg (kBin rfl rfl rfl (kMovC rfl (kDone (kCondP rfl (fun g32 => (by omega)) (fun g32 => kSeq (kReg (kBin rfl rfl rfl (kMovC rfl (kDone (kCondP rfl (fun g33 => (by omega)) (fun g33 => kSeq (kReg (kBin rfl rfl rfl (kMovC rfl (kDone (kCondP rfl (fun g34 => (by omega)) (fun g34 => kSkip (kBk (kSeq (kReg (kMem [(8192, ⟨1, 0, .box [.d _, .d _, .d _, .d _, .d _, .d _, .d _]⟩)] [(3, .c (.d _)), (98, .c (.un)), (1, .c (.ptr 8192 1 0)), (100, .c (.un)), (101, .c (.un)), (99, .c (.un)), (102, .c (.un)), (103, .c (.un))] [] ⟨rfl, trivial⟩ ⟨rfl, rfl, rfl, rfl, rfl, rfl, rfl, rfl, trivial⟩ rfl (kMovC rfl (kMovC rfl (kGF rfl (kGF rfl (kGF rfl (kPickF rfl (kMovC rfl (kMovC rfl (kDone (kRet (endRetA (ra := [.one (.d _)]) rfl ?_)))))))))))))))))))))))))))))))))))))))))))))))))))))))))))))))))))) (fun g24 => kGF rfl (kGF rfl (kGF rfl (kGF rfl (kPickF rfl (kMovC rfl (kMovC rfl (kGF rfl (kGF rfl (kGF rfl (kGF rfl (kPickF rfl (kMovC rfl (kMovC rfl (kDone (kSeq (kSeq (kReg (kMem [(8192, ⟨1, 0, .box [.d _, .d _, .d _, .d _, .d _, .d _, .d _]⟩)] [(1, .c (.ptr 8192 1 0)), (54, .c (.un))] [] ⟨rfl, trivial⟩ ⟨rfl, rfl, trivial⟩ rfl (kFadP rfl rfl (kLoadP rfl rfl rfl (kDone (kBlock (kSeq (kReg (kBin rfl rfl rfl (kMovC rfl (kDone (kCondP rfl (fun g35 => (by omega)) (fun g35 => kSeq (kReg (kBin rfl rfl rfl (kMovC rfl (kDone (kCondP rfl (fun g36 => (by omega)) (fun g36 => kSeq (kReg (kBin rfl rfl rfl (kMovC rfl (kDone (kCondP rfl (fun g37 => (by omega)) (fun g37 => kSeq (kReg (kBin rfl rfl rfl (kMovC rfl (kDone (kCondP rfl (fun g38 => (by omega)) (fun g38 => kSkip (kBk (kSeq (kReg (kMovC rfl (kMem [(8192, ⟨1, 0, .box [.d _, .d _, .d _, .d _, .d _, .d _, .d _]⟩)] [(98, .c (.d _)), (1, .c (.ptr 8192 1 0)), (100, .c (.un)), (101, .c (.un)), (99, .c (.un)), (102, .c (.un)), (103, .c (.un))] [] ⟨rfl, trivial⟩ ⟨rfl, rfl, rfl, rfl, rfl, rfl, rfl, trivial⟩ rfl (kMovC rfl (kGF rfl (kGF rfl (kGF rfl (kPickF rfl (kMovC rfl (kMovC rfl (kDone (kRet (endRetA (ra := [.one (.d _)]) rfl ?_))))))))))))))))))))))))))))))))))))))))))))))))))))))))))))))))))))))))))))))))))))))))))))))))))))))))))))))))))))))))))))))))))))))))))))))))
    all_goals (refine congrArg (fun z : Bool => [RA.one (RV.d (DV.sc (Value.bool z)))]) ?_; unfold eventOk)
    all_goals first
      | (refine (decide_eq_true ?_).symm; unfold EvP TxP; omega)
      | (refine (decide_eq_false ?_).symm; unfold EvP TxP; omega)
      | (refine decide_eq_decide.2 ?_; unfold EvP TxP; omega)
      | (simp only [EvP, TxP]; rw [Bool.eq_iff_iff]; simp only [beq_iff_eq, decide_eq_true_eq]; omega)
      | (rw [Bool.eq_iff_iff]; simp only [EvP, TxP, beq_iff_eq, decide_eq_true_eq, Bool.and_eq_true, Bool.or_eq_true]; omega)

def c_laws_toByteS : C := (.seq (.reg false (.op 0 [] (some 2) none false (.mov (.n 1))
  .done))
 (.seq (.reg false (.op 0 [] (some 5) none false (.mov (.t 0))
  (.op 1 [] (some 6) none false (.len (.t 5))
  (.op 2 [] (some 7) none false (.mk 7 1 [(.v (.int .u8 0))] 1 (.t 6))
  (.op 3 [] (some 3) none false (.mov (.t 7))
  .done)))))
 (.seq (.seq (.reg false (.op 0 [] (some 4) none false (.mov (.v (.int .i64 0)))
  .done))
 (.block 0 (.loop (.seq (.seq (.reg false (.op 0 [] (some 8) none false (.mov (.t 4))
  (.op 1 [] (some 9) none false (.mov (.t 0))
  (.op 2 [] (some 10) none false (.len (.t 9))
  (.op 3 [] (some 11) none false (.bin .lss (.t 8) (.t 10))
  .done)))))
 (.cond (.t 11)
 .skip
 (.exit 0)))
 (.seq (.block 1 (.reg false (.op 0 [] (some 14) none false (.mov (.t 3))
  (.op 1 [] (some 15) none false (.mov (.t 4))
  (.op 2 [] (some 16) none false (.mov (.t 0))
  (.op 3 [] (some 17) none false (.mov (.t 4))
  (.op 4 [] (some 18) none false (.iad 1 (.t 16) (.t 17))
  (.op 5 [] (some 19) none false (.load none (.t 18))
  (.op 6 [] (some 20) none false (.iad 1 (.t 14) (.t 15))
  (.op 7 [] none none false (.store none (.t 20) (.t 19))
  .done))))))))))
 (.reg false (.op 0 [] (some 12) none false (.mov (.t 4))
  (.op 1 [] (some 13) none false (.bin .add (.t 12) (.v (.int .i64 1)))
  (.op 2 [] (some 4) none false (.mov (.t 13))
  .done)))))))))
 (.seq (.reg false (.op 0 [] (some 21) none false (.mov (.t 3))
  (.op 1 [] (some 2) none false (.mov (.t 21))
  .done)))
 .ret))))
theorem dg_laws_toByteS : Try.f93.body.bind (digC Try.prog Try.f93.ntmps []) = some c_laws_toByteS := by kernel_rfl
theorem rs_laws_toByteS : resSlots Try.prog Try.f93 = some [.s 2] := by kernel_rfl
theorem ok_laws_toByteS (a : List UInt8) (ha : a.length ≤ 4194304) :
    FnOK Try.prog 93 [.one (.d (encB a))] (fun ra _ => ra = [.one (.own true (encB a))]) := by
  refine FnOK.ofK Try.func93 (by kernel_rfl) dg_laws_toByteS rs_laws_toByteS rfl rfl ?_
  unfold c_laws_toByteS
  refine kSeq (kReg (kMovC rfl (kDone ?_)))
  refine kSeq (kReg (kMovC rfl (kLen rfl rfl rfl ?_)))
  rw [len_encB]
  refine kMk rfl (by omega) rfl rfl rfl rfl rfl (kMovC rfl (kDone ?_))
  rw [show (Int.toNat (a.length : Int)) = a.length from rfl, encB_zeros]
  refine kSeq (kSeq (kReg (kMovC rfl (kDone (kBlock ?_)))))
  refine kLoop (α := { i : Nat // i ≤ a.length })
    (fun y => ⟨tabSl [(0, .dv (encB a)), (3, .c (.arr (rid 7 0) 1)), (4, .i y.1)], upd (St.init [.one (.d (encB a))]).ob (rid 7 0) ⟨1, y.1, .arr true (encB (a.take y.1 ++ (List.replicate a.length 0).drop y.1))⟩, []⟩) (fun y => a.length - y.1) ⟨0, by simp⟩
    (.tab rfl ⟨.refl _, .refl _, .refl _, trivial⟩) ?_
  rintro ⟨i, hi⟩
  simp only
  refine kSeq (kSeq (kReg ?_))
  refine kMovC rfl (kMovC rfl (kLen rfl rfl rfl (kBin rfl rfl rfl (kDone ?_))))
  rw [len_encB]
  have hl1 : (a.take i).length = i := by simp; omega
  refine kCond rfl (fun h1 => ?_) (fun h1 => ?_)
  · have hlt : i < a.length := by simp at h1; omega
    refine kSkip (kSeq (kBlock (kReg ?_)))
    refine kMovC rfl (kMovC rfl (kMovC rfl (kMovC rfl (kIadD rfl rfl rfl rfl ?_ ?_))))
    · rw [len_encB]; omega
    rw [row_encB' a i hlt]
    refine kLoadD rfl rfl (kIadA rfl rfl rfl rfl ?_ ?_)
    · rw [len_encB]; simp; omega
    refine kStoreE1 rfl rfl rfl rfl (by simp [encB, DV.esz]) (kDone (kBk ?_))
    rw [setRow_encB' _ _ _ (by simp; omega)]
    refine kReg (kMovC rfl (kAdd rfl rfl ?_ (kMovC rfl (kDone (kInv ?_)))))
    · omega
    refine ⟨⟨i + 1, hlt⟩, by simp only; omega, .tab ?_ ⟨.refl _, .refl _, .refl _, trivial⟩⟩
    refine Eq.trans ?_ (upd_upd _ _ _ _).symm
    refine congrArg (upd _ _) ?_
    show _ = Ob.mk _ _ (OK.arr _ (encB ((a.take i ++ (List.replicate a.length 0).drop i).set i a[i])))
    rw [take_set_succ _ _ _ _ (by simpa using hlt) hl1, List.take_append_getElem]
    rfl
  · refine kExit (kExC (kExI (kExB ?_)))
    have hge : i = a.length := by simp at h1; omega
    subst hge
    refine kSeq (kReg (kMovC rfl (kMovC rfl (kDone (kRet ?_)))))
    refine endRet (ra := [.one (.own true _)]) rfl ⟨⟨⟨⟨_, rfl, fun _ => rfl⟩, .inl Nat.zero_lt_one⟩, trivial⟩, nodupB_sound rfl, trivial, trivial⟩ ?_
    simp

def c_laws_toBoolS : C := (.seq (.reg false (.op 0 [] (some 2) none false (.mov (.n 1))
  .done))
 (.seq (.reg false (.op 0 [] (some 5) none false (.mov (.t 0))
  (.op 1 [] (some 6) none false (.len (.t 5))
  (.op 2 [] (some 7) none false (.mk 7 1 [(.v (.bool false))] 1 (.t 6))
  (.op 3 [] (some 3) none false (.mov (.t 7))
  .done)))))
 (.seq (.seq (.reg false (.op 0 [] (some 4) none false (.mov (.v (.int .i64 0)))
  .done))
 (.block 0 (.loop (.seq (.seq (.reg false (.op 0 [] (some 8) none false (.mov (.t 4))
  (.op 1 [] (some 9) none false (.mov (.t 0))
  (.op 2 [] (some 10) none false (.len (.t 9))
  (.op 3 [] (some 11) none false (.bin .lss (.t 8) (.t 10))
  .done)))))
 (.cond (.t 11)
 .skip
 (.exit 0)))
 (.seq (.block 1 (.reg false (.op 0 [] (some 14) none false (.mov (.t 3))
  (.op 1 [] (some 15) none false (.mov (.t 4))
  (.op 2 [] (some 16) none false (.mov (.t 0))
  (.op 3 [] (some 17) none false (.mov (.t 4))
  (.op 4 [] (some 18) none false (.iad 1 (.t 16) (.t 17))
  (.op 5 [] (some 19) none false (.load none (.t 18))
  (.op 6 [] (some 20) none false (.iad 1 (.t 14) (.t 15))
  (.op 7 [] none none false (.store none (.t 20) (.t 19))
  .done))))))))))
 (.reg false (.op 0 [] (some 12) none false (.mov (.t 4))
  (.op 1 [] (some 13) none false (.bin .add (.t 12) (.v (.int .i64 1)))
  (.op 2 [] (some 4) none false (.mov (.t 13))
  .done)))))))))
 (.seq (.reg false (.op 0 [] (some 21) none false (.mov (.t 3))
  (.op 1 [] (some 2) none false (.mov (.t 21))
  .done)))
 .ret))))
theorem dg_laws_toBoolS : Try.f94.body.bind (digC Try.prog Try.f94.ntmps []) = some c_laws_toBoolS := by kernel_rfl
theorem rs_laws_toBoolS : resSlots Try.prog Try.f94 = some [.s 2] := by kernel_rfl
theorem ok_laws_toBoolS (a : List Bool) (ha : a.length ≤ 4194304) :
    FnOK Try.prog 94 [.one (.d (encBo a))] (fun ra _ => ra = [.one (.own true (encBo a))]) := by
  refine FnOK.ofK Try.func94 (by kernel_rfl) dg_laws_toBoolS rs_laws_toBoolS rfl rfl ?_
  unfold c_laws_toBoolS
  refine kSeq (kReg (kMovC rfl (kDone (kSeq (kReg (kMovC rfl (kLenR rfl rfl ?_)))))))
  refine kMk rfl (by omega) rfl rfl rfl rfl rfl ?_
  rw [show DV.sl 1 (List.replicate (Int.toNat (a.length : Int)) [.sc (.bool false)]) = encBo (List.replicate a.length false) by simp [encBo]]
  refine kMovC rfl (kDone (kSeq (kSeq (kReg (kMovC rfl (kDone (kBlock ?_)))))))
  refine kLoop (α := { i : Nat // i ≤ a.length })
    (fun y => ⟨tabSl [(0, .dv (encBo a)), (3, .c (.arr (rid 7 0) 1)), (4, .i y.1)], obTab 1 [(rid 7 0, ⟨1, 0, .arr true (encBo (a.take y.1 ++ (List.replicate a.length false).drop y.1))⟩)], []⟩) (fun y => a.length - y.1) ⟨0, by simp⟩
    .normA ?_
  rintro ⟨i, hi⟩
  simp only
  have hl1 : (a.take i).length = i := by simp; omega
  have hl2 : (a.take i ++ (List.replicate a.length false).drop i).length = a.length := by simp; omega
  rcases Nat.lt_or_ge i a.length with hlt | hge
  · refine kSeq (kSeq (kReg (kMovC rfl (kMovC rfl (kLenR rfl rfl (kBin rfl rfl rfl (kDone (kCondP rfl (fun g0 => kSkip (kSeq (kBlock (kReg (kMovC rfl (kMovC rfl (kMovC rfl (kMovC rfl (kIadR rfl rfl rfl (by omega) (kLoadD rfl rfl (kIadAR rfl rfl rfl rfl (by omega) (kStoreER rfl rfl rfl rfl rfl rfl rfl (by omega) rfl (kDone (kBk (kReg (kMovC rfl (kAdd rfl rfl (by omega) (kMovC rfl (kDone ?_))))))))))))))))))) (fun g0 => (by omega))))))))))
    exact kInv ⟨⟨i + 1, by omega⟩, by simp only; omega, .normA⟩
  · refine kSeq (kSeq (kReg (kMovC rfl (kMovC rfl (kLenR rfl rfl (kBin rfl rfl rfl (kDone (kCondP rfl (fun g0 => (by omega)) (fun g0 => kExit (kExC (kExI (kExB (kSeq (kReg (kMovC rfl (kMovC rfl (kDone (kMem [(32768, ⟨1, 0, .arr true _⟩)] [(2, .c (.arr 32768 1))] [] ⟨rfl, trivial⟩ ⟨rfl, trivial⟩ rfl (kRet (endRetA (ra := [.one (.own true _)]) rfl ?_))))))))))))))))))))
    rw [show i = a.length by omega]
    simp

def c_laws_toEvent : C := (.seq (.reg false (.op 0 [] (some 1) none false (.box 1 (.t 0))
  (.op 1 [] (some 2) none false (.alloc 2 [(.v (.int .i64 0)), (.n 1), (.v (.int .i64 0)), (.n 1), (.n 1), (.v (.int .i64 0)), (.n 1)])
  .done)))
 (.seq (.reg false (.op 0 [] (some 3) none false (.alloc 3 [(.v (.int .i64 0)), (.n 1), (.v (.int .i64 0)), (.n 1), (.n 1), (.v (.int .i64 0)), (.n 1)])
  .done))
 (.seq (.reg false (.op 0 [] (some 4) none false (.fad (.t 1) 0)
  (.op 1 [] (some 5) none false (.load none (.t 4))
  (.op 2 [] (some 6) none false (.fad (.t 3) 0)
  (.op 3 [] none none false (.store none (.t 6) (.t 5))
  .done)))))
 (.seq (.reg false (.op 0 [] (some 7) none false (.fad (.t 1) 1)
  (.op 1 [] (some 8) none false (.load none (.t 7))
  (.op 2 [] (some 9) none false (.call 9 93 [(.t 8)])
  (.op 3 [] (some 10) none false (.fad (.t 3) 1)
  (.op 4 [] none none false (.store none (.t 10) (.t 9))
  .done))))))
 (.seq (.reg false (.op 0 [] (some 11) none false (.fad (.t 1) 2)
  (.op 1 [] (some 12) none false (.load none (.t 11))
  (.op 2 [] (some 13) none false (.fad (.t 3) 2)
  (.op 3 [] none none false (.store none (.t 13) (.t 12))
  .done)))))
 (.seq (.reg false (.op 0 [] (some 14) none false (.fad (.t 1) 3)
  (.op 1 [] (some 15) none false (.load none (.t 14))
  (.op 2 [] (some 16) none false (.call 16 93 [(.t 15)])
  (.op 3 [] (some 17) none false (.fad (.t 3) 3)
  (.op 4 [] none none false (.store none (.t 17) (.t 16))
  .done))))))
 (.seq (.reg false (.op 0 [] (some 18) none false (.fad (.t 1) 4)
  (.op 1 [] (some 19) none false (.load none (.t 18))
  (.op 2 [] (some 20) none false (.call 20 93 [(.t 19)])
  (.op 3 [] (some 21) none false (.fad (.t 3) 4)
  (.op 4 [] none none false (.store none (.t 21) (.t 20))
  .done))))))
 (.seq (.reg false (.op 0 [] (some 22) none false (.fad (.t 1) 5)
  (.op 1 [] (some 23) none false (.load none (.t 22))
  (.op 2 [] (some 24) none false (.fad (.t 3) 5)
  (.op 3 [] none none false (.store none (.t 24) (.t 23))
  .done)))))
 (.seq (.reg false (.op 0 [] (some 25) none false (.fad (.t 1) 6)
  (.op 1 [] (some 26) none false (.load none (.t 25))
  (.op 2 [] (some 27) none false (.call 27 94 [(.t 26)])
  (.op 3 [] (some 28) none false (.fad (.t 3) 6)
  (.op 4 [] none none false (.store none (.t 28) (.t 27))
  .done))))))
 (.seq (.reg false (.op 0 [] (some 29) none false (.load (some 7) (.t 3))
  (.op 1 [] none none false (.store (some 7) (.t 2) (.t 29))
  .done)))
 .ret))))))))))
theorem dg_laws_toEvent : Try.f31.body.bind (digC Try.prog Try.f31.ntmps []) = some c_laws_toEvent := by kernel_rfl
theorem rs_laws_toEvent : resSlots Try.prog Try.f31 = some [.m 2 (some 7)] := by kernel_rfl
theorem ok_laws_toEvent (e : Evt) (hs : SmallE e) :
    FnOK Try.prog 31 [.agg (e.cells.map .d)] (fun ra _ => ra = [.agg [.d (.sc (.int .i64 e.kind)), .own true (encB e.bytes), .d (.sc (.int .i64 e.ip)), .own true (encB e.client), .own true (encB e.host), .d (.sc (.int .i64 e.at_)), .own true (encBo e.lost)]]) := by
  refine FnOK.ofK Try.func31 (by kernel_rfl) dg_laws_toEvent rs_laws_toEvent rfl rfl ?_
  unfold c_laws_toEvent
  have b1 := hs.b
  have c1 := hs.c
  have d1 := hs.h
  have l1 := hs.l
  refine kSeq (kCut ⟨tabSl [(1, .c (.ptr (rid 1 0) 1 0)), (2, .c (.ptr (rid 2 0) 1 0))], obTab 1 [(rid 1 0, ⟨1, 0, .box (e.cells.map .d)⟩), (rid 2 0, ⟨1, 0, .box [.d (.sc (.int .i64 0)), .nil 1, .d (.sc (.int .i64 0)), .nil 1, .nil 1, .d (.sc (.int .i64 0)), .nil 1]⟩)], []⟩ ?_ (fun x hc => ?_))
  case refine_2 => refine kReg (kBox rfl rfl rfl rfl rfl (kAlloc rfl rfl (kDone (kMem [(8192, ⟨1, 0, .box [.d _, .d _, .d _, .d _, .d _, .d _, .d _]⟩), (12288, ⟨1, 0, .box [.d _, .nil 1, .d _, .nil 1, .nil 1, .d _, .nil 1]⟩)] [(1, .c (.ptr 8192 1 0)), (2, .c (.ptr 12288 1 0))] [] ⟨rfl, rfl, trivial⟩ ⟨rfl, rfl, trivial⟩ rfl (hc _ .normA)))))
  refine kSeq (kCut ⟨tabSl [(1, .c (.ptr (rid 1 0) 1 0)), (2, .c (.ptr (rid 2 0) 1 0)), (3, .c (.ptr (rid 3 0) 1 0))], obTab 1 ([(rid 1 0, ⟨1, 0, .box (e.cells.map .d)⟩), (rid 2 0, ⟨1, 0, .box [.d (.sc (.int .i64 0)), .nil 1, .d (.sc (.int .i64 0)), .nil 1, .nil 1, .d (.sc (.int .i64 0)), .nil 1]⟩), (rid 3 0, ⟨1, 0, .box [.d (.sc (.int .i64 0)), .nil 1, .d (.sc (.int .i64 0)), .nil 1, .nil 1, .d (.sc (.int .i64 0)), .nil 1]⟩)]), []⟩ ?_ (fun x hc => ?_))
  case refine_2 => refine kReg (kAlloc rfl rfl (kDone (kMem [(8192, ⟨1, 0, .box [.d _, .d _, .d _, .d _, .d _, .d _, .d _]⟩), (12288, ⟨1, 0, .box [.d _, .nil 1, .d _, .nil 1, .nil 1, .d _, .nil 1]⟩), (16384, ⟨2, 0, .box [.d _, .nil 1, .d _, .nil 1, .nil 1, .d _, .nil 1]⟩)] [(1, .c (.ptr 8192 1 0)), (2, .c (.ptr 12288 1 0)), (3, .c (.ptr 16384 2 0))] [] ⟨rfl, rfl, rfl, trivial⟩ ⟨rfl, rfl, rfl, trivial⟩ rfl (hc _ .normA))))
  refine kSeq (kCut ⟨tabSl [(1, .c (.ptr (rid 1 0) 1 0)), (2, .c (.ptr (rid 2 0) 1 0)), (3, .c (.ptr (rid 3 0) 1 0))], obTab 1 ([(rid 1 0, ⟨1, 0, .box (e.cells.map .d)⟩), (rid 2 0, ⟨1, 0, .box [.d (.sc (.int .i64 0)), .nil 1, .d (.sc (.int .i64 0)), .nil 1, .nil 1, .d (.sc (.int .i64 0)), .nil 1]⟩), (rid 3 0, ⟨1, 0, .box [.d (.sc (.int .i64 e.kind)), .nil 1, .d (.sc (.int .i64 0)), .nil 1, .nil 1, .d (.sc (.int .i64 0)), .nil 1]⟩)]), []⟩ ?_ (fun x hc => ?_))
  case refine_2 => refine kReg (kFadP rfl rfl (kLoadP rfl rfl rfl (kFadP rfl rfl (kStoreP rfl rfl rfl rfl (kDone (kMem [(8192, ⟨1, 0, .box [.d _, .d _, .d _, .d _, .d _, .d _, .d _]⟩), (12288, ⟨1, 0, .box [.d _, .nil 1, .d _, .nil 1, .nil 1, .d _, .nil 1]⟩), (16384, ⟨1, 0, .box [.d _, .nil 1, .d _, .nil 1, .nil 1, .d _, .nil 1]⟩)] [(1, .c (.ptr 8192 1 0)), (2, .c (.ptr 12288 1 0)), (3, .c (.ptr 16384 1 0))] [] ⟨rfl, rfl, rfl, trivial⟩ ⟨rfl, rfl, rfl, trivial⟩ rfl (hc _ .normA)))))))
  refine kSeq (kCut ⟨tabSl [(1, .c (.ptr (rid 1 0) 1 0)), (2, .c (.ptr (rid 2 0) 1 0)), (3, .c (.ptr (rid 3 0) 1 0))], obTab 1 ([(rid 1 0, ⟨1, 0, .box (e.cells.map .d)⟩), (rid 2 0, ⟨1, 0, .box [.d (.sc (.int .i64 0)), .nil 1, .d (.sc (.int .i64 0)), .nil 1, .nil 1, .d (.sc (.int .i64 0)), .nil 1]⟩), (rid 3 0, ⟨1, 0, .box [.d (.sc (.int .i64 e.kind)), .arr (rid 9 0) 1, .d (.sc (.int .i64 0)), .nil 1, .nil 1, .d (.sc (.int .i64 0)), .nil 1]⟩), (rid 9 0, ⟨1, 0, .arr true (encB e.bytes)⟩)]), []⟩ ?_ (fun x hc => ?_))
  case refine_2 => refine kReg (kFadP rfl rfl (kLoadP rfl rfl rfl (kCall1 true (ok_laws_toByteS _ (by first | assumption | omega | solve_by_elim [List.getElem_mem] | (simp only [szOut] at *; omega))) ⟨rfl, trivial⟩ rfl rfl rfl (fun _ => (kFadP rfl rfl (kStoreP rfl rfl rfl rfl (kDone (kMem [(8192, ⟨1, 0, .box [.d _, .d _, .d _, .d _, .d _, .d _, .d _]⟩), (12288, ⟨1, 0, .box [.d _, .nil 1, .d _, .nil 1, .nil 1, .d _, .nil 1]⟩), (16384, ⟨1, 0, .box [.d _, .arr 40960 2, .d _, .nil 1, .nil 1, .d _, .nil 1]⟩), (40960, ⟨2, 0, .arr true _⟩)] [(1, .c (.ptr 8192 1 0)), (2, .c (.ptr 12288 1 0)), (3, .c (.ptr 16384 1 0))] [] ⟨rfl, rfl, rfl, rfl, trivial⟩ ⟨rfl, rfl, rfl, trivial⟩ rfl (hc _ .normA)))))))))
  refine kSeq (kCut ⟨tabSl [(1, .c (.ptr (rid 1 0) 1 0)), (2, .c (.ptr (rid 2 0) 1 0)), (3, .c (.ptr (rid 3 0) 1 0))], obTab 1 ([(rid 1 0, ⟨1, 0, .box (e.cells.map .d)⟩), (rid 2 0, ⟨1, 0, .box [.d (.sc (.int .i64 0)), .nil 1, .d (.sc (.int .i64 0)), .nil 1, .nil 1, .d (.sc (.int .i64 0)), .nil 1]⟩), (rid 3 0, ⟨1, 0, .box [.d (.sc (.int .i64 e.kind)), .arr (rid 9 0) 1, .d (.sc (.int .i64 e.ip)), .nil 1, .nil 1, .d (.sc (.int .i64 0)), .nil 1]⟩), (rid 9 0, ⟨1, 0, .arr true (encB e.bytes)⟩)]), []⟩ ?_ (fun x hc => ?_))
  case refine_2 => refine kReg (kFadP rfl rfl (kLoadP rfl rfl rfl (kFadP rfl rfl (kStoreP rfl rfl rfl rfl (kDone (kMem [(8192, ⟨1, 0, .box [.d _, .d _, .d _, .d _, .d _, .d _, .d _]⟩), (12288, ⟨1, 0, .box [.d _, .nil 1, .d _, .nil 1, .nil 1, .d _, .nil 1]⟩), (16384, ⟨1, 0, .box [.d _, .arr 40960 1, .d _, .nil 1, .nil 1, .d _, .nil 1]⟩), (40960, ⟨1, 0, .arr true _⟩)] [(1, .c (.ptr 8192 1 0)), (2, .c (.ptr 12288 1 0)), (3, .c (.ptr 16384 1 0))] [] ⟨rfl, rfl, rfl, rfl, trivial⟩ ⟨rfl, rfl, rfl, trivial⟩ rfl (hc _ .normA)))))))
  refine kSeq (kCut ⟨tabSl [(1, .c (.ptr (rid 1 0) 1 0)), (2, .c (.ptr (rid 2 0) 1 0)), (3, .c (.ptr (rid 3 0) 1 0))], obTab 1 ([(rid 1 0, ⟨1, 0, .box (e.cells.map .d)⟩), (rid 2 0, ⟨1, 0, .box [.d (.sc (.int .i64 0)), .nil 1, .d (.sc (.int .i64 0)), .nil 1, .nil 1, .d (.sc (.int .i64 0)), .nil 1]⟩), (rid 3 0, ⟨1, 0, .box [.d (.sc (.int .i64 e.kind)), .arr (rid 9 0) 1, .d (.sc (.int .i64 e.ip)), .arr (rid 16 0) 1, .nil 1, .d (.sc (.int .i64 0)), .nil 1]⟩), (rid 9 0, ⟨1, 0, .arr true (encB e.bytes)⟩), (rid 16 0, ⟨1, 0, .arr true (encB e.client)⟩)]), []⟩ ?_ (fun x hc => ?_))
  case refine_2 => refine kReg (kFadP rfl rfl (kLoadP rfl rfl rfl (kCall1 true (ok_laws_toByteS _ (by first | assumption | omega | solve_by_elim [List.getElem_mem] | (simp only [szOut] at *; omega))) ⟨rfl, trivial⟩ rfl rfl rfl (fun _ => (kFadP rfl rfl (kStoreP rfl rfl rfl rfl (kDone (kMem [(8192, ⟨1, 0, .box [.d _, .d _, .d _, .d _, .d _, .d _, .d _]⟩), (12288, ⟨1, 0, .box [.d _, .nil 1, .d _, .nil 1, .nil 1, .d _, .nil 1]⟩), (16384, ⟨1, 0, .box [.d _, .arr 40960 1, .d _, .arr 69632 2, .nil 1, .d _, .nil 1]⟩), (40960, ⟨1, 0, .arr true _⟩), (69632, ⟨2, 0, .arr true _⟩)] [(1, .c (.ptr 8192 1 0)), (2, .c (.ptr 12288 1 0)), (3, .c (.ptr 16384 1 0))] [] ⟨rfl, rfl, rfl, rfl, rfl, trivial⟩ ⟨rfl, rfl, rfl, trivial⟩ rfl (hc _ .normA)))))))))
  refine kSeq (kCut ⟨tabSl [(1, .c (.ptr (rid 1 0) 1 0)), (2, .c (.ptr (rid 2 0) 1 0)), (3, .c (.ptr (rid 3 0) 1 0))], obTab 1 ([(rid 1 0, ⟨1, 0, .box (e.cells.map .d)⟩), (rid 2 0, ⟨1, 0, .box [.d (.sc (.int .i64 0)), .nil 1, .d (.sc (.int .i64 0)), .nil 1, .nil 1, .d (.sc (.int .i64 0)), .nil 1]⟩), (rid 3 0, ⟨1, 0, .box [.d (.sc (.int .i64 e.kind)), .arr (rid 9 0) 1, .d (.sc (.int .i64 e.ip)), .arr (rid 16 0) 1, .arr (rid 20 0) 1, .d (.sc (.int .i64 0)), .nil 1]⟩), (rid 9 0, ⟨1, 0, .arr true (encB e.bytes)⟩), (rid 16 0, ⟨1, 0, .arr true (encB e.client)⟩), (rid 20 0, ⟨1, 0, .arr true (encB e.host)⟩)]), []⟩ ?_ (fun x hc => ?_))
  case refine_2 => refine kReg (kFadP rfl rfl (kLoadP rfl rfl rfl (kCall1 true (ok_laws_toByteS _ (by first | assumption | omega | solve_by_elim [List.getElem_mem] | (simp only [szOut] at *; omega))) ⟨rfl, trivial⟩ rfl rfl rfl (fun _ => (kFadP rfl rfl (kStoreP rfl rfl rfl rfl (kDone (kMem [(8192, ⟨1, 0, .box [.d _, .d _, .d _, .d _, .d _, .d _, .d _]⟩), (12288, ⟨1, 0, .box [.d _, .nil 1, .d _, .nil 1, .nil 1, .d _, .nil 1]⟩), (16384, ⟨1, 0, .box [.d _, .arr 40960 1, .d _, .arr 69632 1, .arr 86016 2, .d _, .nil 1]⟩), (40960, ⟨1, 0, .arr true _⟩), (69632, ⟨1, 0, .arr true _⟩), (86016, ⟨2, 0, .arr true _⟩)] [(1, .c (.ptr 8192 1 0)), (2, .c (.ptr 12288 1 0)), (3, .c (.ptr 16384 1 0))] [] ⟨rfl, rfl, rfl, rfl, rfl, rfl, trivial⟩ ⟨rfl, rfl, rfl, trivial⟩ rfl (hc _ .normA)))))))))
  refine kSeq (kCut ⟨tabSl [(1, .c (.ptr (rid 1 0) 1 0)), (2, .c (.ptr (rid 2 0) 1 0)), (3, .c (.ptr (rid 3 0) 1 0))], obTab 1 ([(rid 1 0, ⟨1, 0, .box (e.cells.map .d)⟩), (rid 2 0, ⟨1, 0, .box [.d (.sc (.int .i64 0)), .nil 1, .d (.sc (.int .i64 0)), .nil 1, .nil 1, .d (.sc (.int .i64 0)), .nil 1]⟩), (rid 3 0, ⟨1, 0, .box [.d (.sc (.int .i64 e.kind)), .arr (rid 9 0) 1, .d (.sc (.int .i64 e.ip)), .arr (rid 16 0) 1, .arr (rid 20 0) 1, .d (.sc (.int .i64 e.at_)), .nil 1]⟩), (rid 9 0, ⟨1, 0, .arr true (encB e.bytes)⟩), (rid 16 0, ⟨1, 0, .arr true (encB e.client)⟩), (rid 20 0, ⟨1, 0, .arr true (encB e.host)⟩)]), []⟩ ?_ (fun x hc => ?_))
  case refine_2 => refine kReg (kFadP rfl rfl (kLoadP rfl rfl rfl (kFadP rfl rfl (kStoreP rfl rfl rfl rfl (kDone (kMem [(8192, ⟨1, 0, .box [.d _, .d _, .d _, .d _, .d _, .d _, .d _]⟩), (12288, ⟨1, 0, .box [.d _, .nil 1, .d _, .nil 1, .nil 1, .d _, .nil 1]⟩), (16384, ⟨1, 0, .box [.d _, .arr 40960 1, .d _, .arr 69632 1, .arr 86016 1, .d _, .nil 1]⟩), (40960, ⟨1, 0, .arr true _⟩), (69632, ⟨1, 0, .arr true _⟩), (86016, ⟨1, 0, .arr true _⟩)] [(1, .c (.ptr 8192 1 0)), (2, .c (.ptr 12288 1 0)), (3, .c (.ptr 16384 1 0))] [] ⟨rfl, rfl, rfl, rfl, rfl, rfl, trivial⟩ ⟨rfl, rfl, rfl, trivial⟩ rfl (hc _ .normA)))))))
  refine kSeq (kCut ⟨tabSl [(1, .c (.ptr (rid 1 0) 1 0)), (2, .c (.ptr (rid 2 0) 1 0)), (3, .c (.ptr (rid 3 0) 1 0))], obTab 1 ([(rid 1 0, ⟨1, 0, .box (e.cells.map .d)⟩), (rid 2 0, ⟨1, 0, .box [.d (.sc (.int .i64 0)), .nil 1, .d (.sc (.int .i64 0)), .nil 1, .nil 1, .d (.sc (.int .i64 0)), .nil 1]⟩), (rid 3 0, ⟨1, 0, .box [.d (.sc (.int .i64 e.kind)), .arr (rid 9 0) 1, .d (.sc (.int .i64 e.ip)), .arr (rid 16 0) 1, .arr (rid 20 0) 1, .d (.sc (.int .i64 e.at_)), .arr (rid 27 0) 1]⟩), (rid 9 0, ⟨1, 0, .arr true (encB e.bytes)⟩), (rid 16 0, ⟨1, 0, .arr true (encB e.client)⟩), (rid 20 0, ⟨1, 0, .arr true (encB e.host)⟩), (rid 27 0, ⟨1, 0, .arr true (encBo e.lost)⟩)]), []⟩ ?_ (fun x hc => ?_))
  case refine_2 => refine kReg (kFadP rfl rfl (kLoadP rfl rfl rfl (kCall1 true (ok_laws_toBoolS _ (by first | assumption | omega | solve_by_elim [List.getElem_mem] | (simp only [szOut] at *; omega))) ⟨rfl, trivial⟩ rfl rfl rfl (fun _ => (kFadP rfl rfl (kStoreP rfl rfl rfl rfl (kDone (kMem [(8192, ⟨1, 0, .box [.d _, .d _, .d _, .d _, .d _, .d _, .d _]⟩), (12288, ⟨1, 0, .box [.d _, .nil 1, .d _, .nil 1, .nil 1, .d _, .nil 1]⟩), (16384, ⟨1, 0, .box [.d _, .arr 40960 1, .d _, .arr 69632 1, .arr 86016 1, .d _, .arr 114688 2]⟩), (40960, ⟨1, 0, .arr true _⟩), (69632, ⟨1, 0, .arr true _⟩), (86016, ⟨1, 0, .arr true _⟩), (114688, ⟨2, 0, .arr true _⟩)] [(1, .c (.ptr 8192 1 0)), (2, .c (.ptr 12288 1 0)), (3, .c (.ptr 16384 1 0))] [] ⟨rfl, rfl, rfl, rfl, rfl, rfl, rfl, trivial⟩ ⟨rfl, rfl, rfl, trivial⟩ rfl (hc _ .normA)))))))))
  refine kSeq (kReg (kLoadP rfl rfl rfl (kMem [(12288, ⟨1, 0, .box [.d _, .nil 1, .d _, .nil 1, .nil 1, .d _, .nil 1]⟩), (40960, ⟨1, 0, .arr true _⟩), (69632, ⟨1, 0, .arr true _⟩), (86016, ⟨1, 0, .arr true _⟩), (114688, ⟨1, 0, .arr true _⟩)] [(2, .c (.ptr 12288 1 0)), (29, .g [.d _, .arr 40960 1, .d _, .arr 69632 1, .arr 86016 1, .d _, .arr 114688 1])] [] ⟨rfl, rfl, rfl, rfl, rfl, trivial⟩ ⟨rfl, rfl, trivial⟩ rfl (kStoreP rfl rfl rfl rfl (kDone (kMem [(12288, ⟨1, 0, .box [.d _, .arr 40960 1, .d _, .arr 69632 1, .arr 86016 1, .d _, .arr 114688 1]⟩), (40960, ⟨1, 0, .arr true _⟩), (69632, ⟨1, 0, .arr true _⟩), (86016, ⟨1, 0, .arr true _⟩), (114688, ⟨1, 0, .arr true _⟩)] [(2, .c (.ptr 12288 1 0))] [] ⟨rfl, rfl, rfl, rfl, rfl, trivial⟩ ⟨rfl, trivial⟩ rfl (kRet (endRetA (ra := [.agg [(.d _), (.own true _), (.d _), (.own true _), (.own true _), (.d _), (.own true _)]]) rfl rfl))))))))

def c_impl_within : C := (.seq (.reg false (.op 0 [] (some 6) none false (.mov (.v (.bool false)))
  .done))
 (.seq (.reg false (.op 0 [] (some 7) none false (.mov (.t 1))
  (.op 1 [] (some 8) none false (.mov (.t 0))
  (.op 2 [] (some 9) none false (.bin .leq (.t 7) (.t 8))
  (.op 3 [] (some 10) none false (.mov (.t 9))
  (.op 4 [] (some 11) (some (10, true)) false (.mov (.t 0))
  (.op 5 [] (some 12) (some (10, true)) false (.mov (.t 2))
  (.op 6 [] (some 13) (some (10, true)) false (.bin .leq (.t 11) (.t 12))
  (.op 7 [] (some 14) none false (.pick (.t 10) (.t 13) (.v (.bool false)))
  (.op 8 [] (some 6) none false (.mov (.t 14))
  .done))))))))))
 .ret))
theorem dg_impl_within : Try.f72.body.bind (digC Try.prog Try.f72.ntmps []) = some c_impl_within := by kernel_rfl
theorem rs_impl_within : resSlots Try.prog Try.f72 = some [.s 6] := by kernel_rfl
theorem ok_impl_within (n lo hi : Int) : FnOK Try.prog 72 [.one (.d (.sc (.int .i64 n))), .one (.d (.sc (.int .i64 lo))), .one (.d (.sc (.int .i64 hi)))] (fun ra _ => ra = [.one (.d (.sc (.bool (decide (lo ≤ n ∧ n ≤ hi)))))]) := by
  refine FnOK.ofK Try.func72 (by kernel_rfl) dg_impl_within rs_impl_within rfl rfl ?_
  unfold c_impl_within
  repeat' first
    | refine kSeq ?_ | refine kReg ?_ | refine kDone ?_ | refine kMovC rfl ?_ | refine kBin rfl rfl rfl ?_
    | refine kGT rfl ?_ | refine kGF rfl ?_ | refine kGU rfl ?_ | refine kG rfl (fun h => ?_) (fun h => ?_)
    | refine kPickT rfl ?_ | refine kPickF rfl ?_ | refine kPick rfl (fun h => ?_) (fun h => ?_) | refine kRet ?_
  all_goals refine endRet (ra := [.one (.d _)]) rfl ⟨⟨⟨rfl, .inl rfl⟩, trivial⟩, .nil, trivial, trivial, trivial, trivial⟩ ?_
  all_goals simp_all
  all_goals omega

def c_impl_Event_txn : C := (.seq (.reg false (.op 0 [] (some 1) none false (.box 1 (.t 0))
  (.op 1 [] (some 2) none false (.alloc 2 [(.v (.int .i64 0)), (.v (.int .i64 0)), (.v (.bool false)), (.v (.int .i64 0)), (.v (.bool false)), (.v (.int .i64 0)), (.n 2), (.n 7), (.n 7), (.n 7), (.n 9), (.n 9), (.v (.int .i64 0)), (.n 1), (.n 1), (.v (.int .i64 0))])
  .done)))
 (.seq (.reg false (.op 0 [] (some 3) none false (.fad (.t 1) 0)
  (.op 1 [] (some 4) none false (.load none (.t 3))
  (.op 2 [] (some 5) none false (.fad (.t 1) 2)
  (.op 3 [] (some 6) none false (.load none (.t 5))
  (.op 4 [] (some 7) none false (.fad (.t 1) 3)
  (.op 5 [] (some 8) none false (.load none (.t 7))
  (.op 6 [] (some 9) none false (.fad (.t 1) 4)
  (.op 7 [] (some 10) none false (.load none (.t 9))
  (.op 8 [] (some 11) none false (.fad (.t 1) 5)
  (.op 9 [] (some 12) none false (.load none (.t 11))
  (.op 10 [] (some 13) none false (.build [(.v (.int .i64 0)), (.v (.int .i64 0)), (.v (.bool false)), (.v (.int .i64 0)), (.v (.bool false)), (.v (.int .i64 0)), (.n 2), (.n 7), (.n 7), (.n 7), (.n 9), (.n 9), (.v (.int .i64 0)), (.n 1), (.n 1), (.v (.int .i64 0))] [(0, 1, (.t 4)), (12, 1, (.t 6)), (13, 1, (.t 8)), (14, 1, (.t 10)), (15, 1, (.t 12))])
  (.op 11 [] none none false (.store (some 16) (.t 2) (.t 13))
  .done)))))))))))))
 .ret))
theorem dg_impl_Event_txn : Try.f96.body.bind (digC Try.prog Try.f96.ntmps []) = some c_impl_Event_txn := by kernel_rfl
theorem rs_impl_Event_txn : resSlots Try.prog Try.f96 = some [.m 2 (some 16)] := by kernel_rfl
theorem ok_impl_Event_txn (e : Evt) :
    FnOK Try.prog 96 [.agg (e.cells.map .d)] (fun ra _ => ra = [.agg [.d (.sc (.int .i64 e.kind)), .d (.sc (.int .i64 0)), .d (.sc (.bool false)), .d (.sc (.int .i64 0)), .d (.sc (.bool false)), .d (.sc (.int .i64 0)), .d (.sl 2 []), .d (.sl 7 []), .d (.sl 7 []), .d (.sl 7 []), .d (.sl 9 []), .d (.sl 9 []), .d (.sc (.int .i64 e.ip)), .d (encB e.client), .d (encB e.host), .d (.sc (.int .i64 e.at_))]]) := by
  refine FnOK.ofK Try.func96 (by kernel_rfl) dg_impl_Event_txn rs_impl_Event_txn rfl rfl ?_
  unfold c_impl_Event_txn
  refine kSeq (kReg (kBox rfl rfl rfl rfl rfl (kAlloc rfl rfl (kDone (kSeq (kReg (kFadP rfl rfl (kLoadP rfl rfl rfl (kFadP rfl rfl (kLoadP rfl rfl rfl (kFadP rfl rfl (kLoadP rfl rfl rfl (kMem [(8192, ⟨1, 0, .box [.d _, .d _, .d _, .d _, .d _, .d _, .d _]⟩), (12288, ⟨1, 0, .box [.d _, .d _, .d _, .d _, .d _, .d _, .nil 2, .nil 7, .nil 7, .nil 7, .nil 9, .nil 9, .d _, .nil 1, .nil 1, .d _]⟩)] [(1, .c (.ptr 8192 1 0)), (9, .c (.un)), (11, .c (.un)), (4, .c (.d _)), (6, .c (.d _)), (8, .c (.d _)), (10, .c (.un)), (12, .c (.un)), (2, .c (.ptr 12288 1 0)), (13, .c (.un))] [] ⟨rfl, rfl, trivial⟩ ⟨rfl, rfl, rfl, rfl, rfl, rfl, rfl, rfl, rfl, rfl, trivial⟩ rfl (kFadP rfl rfl (kLoadP rfl rfl rfl (kFadP rfl rfl (kLoadP rfl rfl rfl (kMem [(12288, ⟨1, 0, .box [.d _, .d _, .d _, .d _, .d _, .d _, .nil 2, .nil 7, .nil 7, .nil 7, .nil 9, .nil 9, .d _, .nil 1, .nil 1, .d _]⟩)] [(4, .c (.d _)), (6, .c (.d _)), (8, .c (.d _)), (10, .c (.d _)), (12, .c (.d _)), (2, .c (.ptr 12288 1 0)), (13, .c (.un))] [] ⟨rfl, trivial⟩ ⟨rfl, rfl, rfl, rfl, rfl, rfl, rfl, trivial⟩ rfl (kBuildG rfl (kMem [(12288, ⟨1, 0, .box [.d _, .d _, .d _, .d _, .d _, .d _, .nil 2, .nil 7, .nil 7, .nil 7, .nil 9, .nil 9, .d _, .nil 1, .nil 1, .d _]⟩)] [(2, .c (.ptr 12288 1 0)), (13, .g [.d _, .d _, .d _, .d _, .d _, .d _, .nil 2, .nil 7, .nil 7, .nil 7, .nil 9, .nil 9, .d _, .d _, .d _, .d _])] [] ⟨rfl, trivial⟩ ⟨rfl, rfl, trivial⟩ rfl (kStoreP rfl rfl rfl rfl (kDone (kMem [(12288, ⟨1, 0, .box [.d _, .d _, .d _, .d _, .d _, .d _, .nil 2, .nil 7, .nil 7, .nil 7, .nil 9, .nil 9, .d _, .d _, .d _, .d _]⟩)] [(2, .c (.ptr 12288 1 0))] [] ⟨rfl, trivial⟩ ⟨rfl, trivial⟩ rfl (kRet (endRetA (ra := [.agg [(.d _), (.d _), (.d _), (.d _), (.d _), (.d _), (.d _), (.d _), (.d _), (.d _), (.d _), (.d _), (.d _), (.d _), (.d _), (.d _)]]) rfl rfl)))))))))))))))))))))))))

def c_impl_Msg_isNothing : C := (.seq (.reg false (.op 0 [] (some 1) none false (.box 1 (.t 0))
  (.op 1 [] (some 2) none false (.mov (.v (.bool false)))
  .done)))
 (.seq (.reg false (.op 0 [] (some 3) none false (.fad (.t 1) 0)
  (.op 1 [] (some 4) none false (.load none (.t 3))
  (.op 2 [] (some 5) none false (.bin .eql (.t 4) (.v (.int .i64 0)))
  (.op 3 [] (some 6) none false (.mov (.t 5))
  (.op 4 [] (some 7) (some (6, true)) false (.fad (.t 1) 1)
  (.op 5 [] (some 8) (some (6, true)) false (.load none (.t 7))
  (.op 6 [] (some 9) (some (6, true)) false (.un .not (.t 8))
  (.op 7 [] (some 10) none false (.pick (.t 6) (.t 9) (.v (.bool false)))
  (.op 8 [] (some 11) none false (.mov (.t 10))
  (.op 9 [] (some 12) (some (11, true)) false (.fad (.t 1) 2)
  (.op 10 [] (some 13) (some (11, true)) false (.load none (.t 12))
  (.op 11 [] (some 14) (some (11, true)) false (.bin .eql (.t 13) (.v (.int .i64 0)))
  (.op 12 [] (some 15) none false (.pick (.t 11) (.t 14) (.v (.bool false)))
  (.op 13 [] (some 16) none false (.mov (.t 15))
  (.op 14 [] (some 17) (some (16, true)) false (.fad (.t 1) 3)
  (.op 15 [] (some 18) (some (16, true)) false (.load none (.t 17))
  (.op 16 [] (some 19) (some (16, true)) false (.un .not (.t 18))
  (.op 17 [] (some 20) none false (.pick (.t 16) (.t 19) (.v (.bool false)))
  (.op 18 [] (some 21) none false (.mov (.t 20))
  (.op 19 [] (some 22) (some (21, true)) false (.fad (.t 1) 4)
  (.op 20 [] (some 23) (some (21, true)) false (.load none (.t 22))
  (.op 21 [] (some 24) (some (21, true)) false (.bin .eql (.t 23) (.v (.int .i64 0)))
  (.op 22 [] (some 25) none false (.pick (.t 21) (.t 24) (.v (.bool false)))
  (.op 23 [] (some 26) none false (.mov (.t 25))
  (.op 24 [] (some 27) (some (26, true)) false (.fad (.t 1) 5)
  (.op 25 [] (some 28) (some (26, true)) false (.load none (.t 27))
  (.op 26 [] (some 29) (some (26, true)) false (.len (.t 28))
  (.op 27 [] (some 30) (some (26, true)) false (.fad (.t 1) 6)
  (.op 28 [] (some 31) (some (26, true)) false (.load none (.t 30))
  (.op 29 [] (some 32) (some (26, true)) false (.len (.t 31))
  (.op 30 [] (some 33) (some (26, true)) false (.bin .add (.t 29) (.t 32))
  (.op 31 [] (some 34) (some (26, true)) false (.fad (.t 1) 7)
  (.op 32 [] (some 35) (some (26, true)) false (.load none (.t 34))
  (.op 33 [] (some 36) (some (26, true)) false (.len (.t 35))
  (.op 34 [] (some 37) (some (26, true)) false (.bin .add (.t 33) (.t 36))
  (.op 35 [] (some 38) (some (26, true)) false (.fad (.t 1) 8)
  (.op 36 [] (some 39) (some (26, true)) false (.load none (.t 38))
  (.op 37 [] (some 40) (some (26, true)) false (.len (.t 39))
  (.op 38 [] (some 41) (some (26, true)) false (.bin .add (.t 37) (.t 40))
  (.op 39 [] (some 42) (some (26, true)) false (.fad (.t 1) 9)
  (.op 40 [] (some 43) (some (26, true)) false (.load none (.t 42))
  (.op 41 [] (some 44) (some (26, true)) false (.len (.t 43))
  (.op 42 [] (some 45) (some (26, true)) false (.bin .add (.t 41) (.t 44))
  (.op 43 [] (some 46) (some (26, true)) false (.fad (.t 1) 10)
  (.op 44 [] (some 47) (some (26, true)) false (.load none (.t 46))
  (.op 45 [] (some 48) (some (26, true)) false (.len (.t 47))
  (.op 46 [] (some 49) (some (26, true)) false (.bin .add (.t 45) (.t 48))
  (.op 47 [] (some 50) (some (26, true)) false (.bin .eql (.t 49) (.v (.int .i64 0)))
  (.op 48 [] (some 51) none false (.pick (.t 26) (.t 50) (.v (.bool false)))
  (.op 49 [] (some 2) none false (.mov (.t 51))
  .done)))))))))))))))))))))))))))))))))))))))))))))))))))
 .ret))
theorem dg_impl_Msg_isNothing : Try.f168.body.bind (digC Try.prog Try.f168.ntmps []) = some c_impl_Msg_isNothing := by kernel_rfl
theorem rs_impl_Msg_isNothing : resSlots Try.prog Try.f168 = some [.s 2] := by kernel_rfl
theorem ok_impl_Msg_isNothing :
    FnOK Try.prog 168 [.agg [.d (.sc (.int .i64 0)), .d (.sc (.bool false)), .d (.sc (.int .i64 0)), .d (.sc (.bool false)), .d (.sc (.int .i64 0)), .d (.sl 2 []), .d (.sl 7 []), .d (.sl 7 []), .d (.sl 7 []), .d (.sl 9 []), .d (.sl 9 [])]] (fun ra _ => ra = [.one (.d (.sc (.bool (true))))]) := by
  refine FnOK.ofK Try.func168 (by kernel_rfl) dg_impl_Msg_isNothing rs_impl_Msg_isNothing rfl rfl ?_
  unfold c_impl_Msg_isNothing
  refine kSeq (kReg (kBox rfl rfl rfl rfl rfl (kMovC rfl (kDone (kSeq (kReg (kFadP rfl rfl (kLoadP rfl rfl rfl (kBin rfl rfl rfl (kMovC rfl (kGT rfl (kFadP rfl rfl (kGT rfl (kLoadP rfl rfl rfl (kGT rfl (kUn rfl rfl (kMem [(8192, ⟨1, 0, .box [.d _, .d _, .d _, .d _, .d _, .d _, .d _, .d _, .d _, .d _, .d _]⟩)] [(6, .c (.d _)), (9, .c (.d _)), (10, .c (.un)), (1, .c (.ptr 8192 1 0)), (12, .c (.un)), (13, .c (.un)), (11, .c (.un)), (14, .c (.un)), (15, .c (.un)), (17, .c (.un)), (18, .c (.un)), (16, .c (.un)), (19, .c (.un)), (20, .c (.un)), (22, .c (.un)), (23, .c (.un)), (21, .c (.un)), (24, .c (.un)), (25, .c (.un)), (27, .c (.un)), (28, .c (.un)), (30, .c (.un)), (31, .c (.un)), (29, .c (.un)), (32, .c (.un)), (34, .c (.un)), (35, .c (.un)), (33, .c (.un)), (36, .c (.un)), (38, .c (.un)), (39, .c (.un)), (37, .c (.un)), (40, .c (.un)), (42, .c (.un)), (43, .c (.un)), (41, .c (.un)), (44, .c (.un)), (46, .c (.un)), (47, .c (.un)), (45, .c (.un)), (48, .c (.un)), (49, .c (.un)), (26, .c (.un)), (50, .c (.un)), (51, .c (.un))] [] ⟨rfl, trivial⟩ ⟨rfl, rfl, rfl, rfl, rfl, rfl, rfl, rfl, rfl, rfl, rfl, rfl, rfl, rfl, rfl, rfl, rfl, rfl, rfl, rfl, rfl, rfl, rfl, rfl, rfl, rfl, rfl, rfl, rfl, rfl, rfl, rfl, rfl, rfl, rfl, rfl, rfl, rfl, rfl, rfl, rfl, rfl, rfl, rfl, rfl, trivial⟩ rfl (kPickT rfl (kMovC rfl (kMovC rfl (kGT rfl (kFadP rfl rfl (kGT rfl (kLoadP rfl rfl rfl (kGT rfl (kBin rfl rfl rfl (kPickT rfl (kMovC rfl (kMovC rfl (kGT rfl (kFadP rfl rfl (kGT rfl (kLoadP rfl rfl rfl (kGT rfl (kUn rfl rfl (kMem [(8192, ⟨1, 0, .box [.d _, .d _, .d _, .d _, .d _, .d _, .d _, .d _, .d _, .d _, .d _]⟩)] [(16, .c (.d _)), (19, .c (.d _)), (20, .c (.un)), (1, .c (.ptr 8192 1 0)), (22, .c (.un)), (23, .c (.un)), (21, .c (.un)), (24, .c (.un)), (25, .c (.un)), (27, .c (.un)), (28, .c (.un)), (30, .c (.un)), (31, .c (.un)), (29, .c (.un)), (32, .c (.un)), (34, .c (.un)), (35, .c (.un)), (33, .c (.un)), (36, .c (.un)), (38, .c (.un)), (39, .c (.un)), (37, .c (.un)), (40, .c (.un)), (42, .c (.un)), (43, .c (.un)), (41, .c (.un)), (44, .c (.un)), (46, .c (.un)), (47, .c (.un)), (45, .c (.un)), (48, .c (.un)), (49, .c (.un)), (26, .c (.un)), (50, .c (.un)), (51, .c (.un))] [] ⟨rfl, trivial⟩ ⟨rfl, rfl, rfl, rfl, rfl, rfl, rfl, rfl, rfl, rfl, rfl, rfl, rfl, rfl, rfl, rfl, rfl, rfl, rfl, rfl, rfl, rfl, rfl, rfl, rfl, rfl, rfl, rfl, rfl, rfl, rfl, rfl, rfl, rfl, rfl, trivial⟩ rfl (kPickT rfl (kMovC rfl (kMovC rfl (kGT rfl (kFadP rfl rfl (kGT rfl (kLoadP rfl rfl rfl (kGT rfl (kBin rfl rfl rfl (kPickT rfl (kMovC rfl (kMovC rfl (kGT rfl (kFadP rfl rfl (kGT rfl (kLoadP rfl rfl rfl (kGT rfl (kLen0 rfl (kMem [(8192, ⟨1, 0, .box [.d _, .d _, .d _, .d _, .d _, .d _, .d _, .d _, .d _, .d _, .d _]⟩)] [(1, .c (.ptr 8192 1 0)), (30, .c (.un)), (31, .c (.un)), (29, .c (.d _)), (32, .c (.un)), (34, .c (.un)), (35, .c (.un)), (33, .c (.un)), (36, .c (.un)), (38, .c (.un)), (39, .c (.un)), (37, .c (.un)), (40, .c (.un)), (42, .c (.un)), (43, .c (.un)), (41, .c (.un)), (44, .c (.un)), (46, .c (.un)), (47, .c (.un)), (45, .c (.un)), (48, .c (.un)), (49, .c (.un)), (26, .c (.d _)), (50, .c (.un)), (51, .c (.un))] [] ⟨rfl, trivial⟩ ⟨rfl, rfl, rfl, rfl, rfl, rfl, rfl, rfl, rfl, rfl, rfl, rfl, rfl, rfl, rfl, rfl, rfl, rfl, rfl, rfl, rfl, rfl, rfl, rfl, rfl, trivial⟩ rfl (kGT rfl (kFadP rfl rfl (kGT rfl (kLoadP rfl rfl rfl (kGT rfl (kLen0 rfl (kGT rfl (kAdd rfl rfl (by omega) (kGT rfl (kFadP rfl rfl (kGT rfl (kLoadP rfl rfl rfl (kGT rfl (kLen0 rfl (kGT rfl (kAdd rfl rfl (by omega) (kGT rfl (kFadP rfl rfl (kGT rfl (kLoadP rfl rfl rfl (kMem [(8192, ⟨1, 0, .box [.d _, .d _, .d _, .d _, .d _, .d _, .d _, .d _, .d _, .d _, .d _]⟩)] [(39, .c (.d _)), (37, .c (.d _)), (40, .c (.un)), (1, .c (.ptr 8192 1 0)), (42, .c (.un)), (43, .c (.un)), (41, .c (.un)), (44, .c (.un)), (46, .c (.un)), (47, .c (.un)), (45, .c (.un)), (48, .c (.un)), (49, .c (.un)), (26, .c (.d _)), (50, .c (.un)), (51, .c (.un))] [] ⟨rfl, trivial⟩ ⟨rfl, rfl, rfl, rfl, rfl, rfl, rfl, rfl, rfl, rfl, rfl, rfl, rfl, rfl, rfl, rfl, trivial⟩ rfl (kGT rfl (kLen0 rfl (kGT rfl (kAdd rfl rfl (by omega) (kGT rfl (kFadP rfl rfl (kGT rfl (kLoadP rfl rfl rfl (kGT rfl (kLen0 rfl (kGT rfl (kAdd rfl rfl (by omega) (kGT rfl (kFadP rfl rfl (kGT rfl (kLoadP rfl rfl rfl (kGT rfl (kLen0 rfl (kGT rfl (kAdd rfl rfl (by omega) (kGT rfl (kBin rfl rfl rfl (kPickT rfl (kMovC rfl (kMovC rfl (kDone (kRet (endRetA (ra := [.one (.d _)]) rfl rfl))))))))))))))))))))))))))))))))))))))))))))))))))))))))))))))))))))))))))))))))))))))))))))))))))))))))

def c_impl_isIp : C := (.seq (.reg false (.op 0 [] (some 2) none false (.mov (.v (.bool false)))
  .done))
 (.seq (.reg false (.op 0 [] (some 3) none false (.mov (.t 0))
  (.op 1 [] (some 4) none false (.call 4 72 [(.t 3), (.v (.int .i64 167772161)), (.v (.int .i64 167772414))])
  (.op 2 [] (some 2) none false (.mov (.t 4))
  .done))))
 .ret))
theorem dg_impl_isIp : Try.f169.body.bind (digC Try.prog Try.f169.ntmps []) = some c_impl_isIp := by kernel_rfl
theorem rs_impl_isIp : resSlots Try.prog Try.f169 = some [.s 2] := by kernel_rfl
theorem ok_impl_isIp (n : Int) :
    FnOK Try.prog 169 [.one (.d (.sc (.int .i64 n)))] (fun ra _ => ra = [.one (.d (.sc (.bool (ipOk n))))]) := by
  refine FnOK.ofK Try.func169 (by kernel_rfl) dg_impl_isIp rs_impl_isIp rfl rfl ?_
  unfold c_impl_isIp
  refine kSeq (kReg (kMovC rfl (kDone (kSeq (kReg (kMovC rfl (kCallD (ok_impl_within _ _ _) ⟨rfl, rfl, rfl, trivial⟩ rfl rfl rfl rfl rfl (kMovC rfl (kDone (kRet (endRetA (ra := [.one (.d _)]) rfl rfl)))))))))))
  all_goals (refine congrArg (fun z : Bool => [RA.one (RV.d (DV.sc (Value.bool z)))]) ?_)
  all_goals first
    | (simp [ipOk, *]; done)
    | (simp [ipOk, *]; omega)
    | (rw [Bool.eq_iff_iff]; simp [ipOk, *]; done)
    | (rw [Bool.eq_iff_iff]; simp [ipOk, *]; omega)
    | (simp_all [ipOk]; done)
    | (simp_all [ipOk]; omega)

def c_impl_isClient : C := (.seq (.reg false (.op 0 [] (some 2) none false (.mov (.v (.bool false)))
  .done))
 (.seq (.reg false (.op 0 [] (some 3) none false (.mov (.t 0))
  (.op 1 [] (some 4) none false (.len (.t 3))
  (.op 2 [] (some 5) none false (.call 5 72 [(.t 4), (.v (.int .i64 1)), (.v (.int .i64 16))])
  (.op 3 [] (some 2) none false (.mov (.t 5))
  .done)))))
 .ret))
theorem dg_impl_isClient : Try.f170.body.bind (digC Try.prog Try.f170.ntmps []) = some c_impl_isClient := by kernel_rfl
theorem rs_impl_isClient : resSlots Try.prog Try.f170 = some [.s 2] := by kernel_rfl
theorem ok_impl_isClient (b : List UInt8) :
    FnOK Try.prog 170 [.one (.d (encB b))] (fun ra _ => ra = [.one (.d (.sc (.bool (clientOk b))))]) := by
  refine FnOK.ofK Try.func170 (by kernel_rfl) dg_impl_isClient rs_impl_isClient rfl rfl ?_
  unfold c_impl_isClient
  refine kSeq (kReg (kMovC rfl (kDone (kSeq (kReg (kMovC rfl (kLenR rfl rfl (kCallD (ok_impl_within _ _ _) ⟨rfl, rfl, rfl, trivial⟩ rfl rfl rfl rfl rfl (kMovC rfl (kDone (kRet (endRetA (ra := [.one (.d _)]) rfl rfl))))))))))))
  all_goals (refine congrArg (fun z : Bool => [RA.one (RV.d (DV.sc (Value.bool z)))]) ?_)
  all_goals first
    | (simp [clientOk, *]; done)
    | (simp [clientOk, *]; omega)
    | (rw [Bool.eq_iff_iff]; simp [clientOk, *]; done)
    | (rw [Bool.eq_iff_iff]; simp [clientOk, *]; omega)
    | (simp_all [clientOk]; done)
    | (simp_all [clientOk]; omega)

def c_impl_all_byte_1 : C := (.seq (.reg false (.op 0 [] (some 3) none false (.mov (.v (.bool false)))
  .done))
 (.seq (.reg false (.op 0 [] (some 4) none false (.load none (.t 1))
  (.op 1 [] (some 5) none false (.mov (.t 0))
  (.op 2 [] (some 6) none false (.callv 6 (.t 4) [(.t 5)])
  (.op 3 [] (some 7) none false (.un .not (.t 6))
  (.op 4 [] (some 3) none false (.mov (.t 7))
  .done))))))
 .ret))
theorem dg_impl_all_byte_1 : Try.f179.body.bind (digC Try.prog Try.f179.ntmps []) = some c_impl_all_byte_1 := by kernel_rfl
theorem rs_impl_all_byte_1 : resSlots Try.prog Try.f179 = some [.s 3] := by kernel_rfl
theorem ok_impl_all_byte_1 (x : DV) (D : DV → Prop) (g : DV → Bool) (hx : D x) :
    FnOK Try.prog 179 [.one (.d x), .one (.ptr [.fv false (fcPred D g)])] (fun ra _ => ra = [.one (.d (.sc (.bool (!g x))))]) := by
  refine FnOK.ofK Try.func179 (by kernel_rfl) dg_impl_all_byte_1 rs_impl_all_byte_1 rfl rfl ?_
  unfold c_impl_all_byte_1
  refine kSeq (kReg (kMovC rfl (kDone ?_)))
  refine kSeq (kReg (kLoadC rfl rfl (kMovC rfl (kCallv rfl ⟨x, hx, rfl, rfl⟩ ⟨rfl, trivial⟩ (.inr ?_) rfl ?_ rfl ?_))))
  · rintro _ rfl; rfl
  · rintro _ rfl; exact Nat.le_of_ble_eq_true rfl
  rintro _ rfl
  refine kUn rfl rfl (kMovC rfl (kDone (kRet ?_)))
  exact endRet (ra := [.one (.d _)]) rfl ⟨⟨⟨rfl, .inl rfl⟩, trivial⟩, .nil, trivial, trivial, trivial⟩ rfl

def c_slices_IndexFunc_Lbyte_byte : C := (.seq (.reg false (.op 0 [] (some 4) none false (.mov (.v (.int .i64 0)))
  .done))
 (.seq (.seq (.reg false (.op 0 [] (some 6) none false (.mov (.t 0))
  (.op 1 [] (some 7) none false (.len (.t 6))
  (.op 2 [] (some 8) none false (.mov (.v (.int .i64 0)))
  .done))))
 (.block 0 (.loop (.seq (.reg false (.op 0 [] (some 9) none false (.bin .lss (.t 8) (.t 7))
  .done))
 (.seq (.cond (.t 9)
 .skip
 (.exit 0))
 (.seq (.block 1 (.seq (.reg false (.op 0 [] (some 10) none false (.mov (.t 8))
  (.op 1 [] (some 5) none false (.mov (.t 10))
  .done)))
 (.seq (.reg false (.op 0 [] (some 11) none false (.mov (.t 1))
  (.op 1 [] (some 12) none false (.mov (.t 0))
  (.op 2 [] (some 13) none false (.mov (.t 5))
  (.op 3 [] (some 14) none false (.iad 1 (.t 12) (.t 13))
  (.op 4 [] (some 15) none false (.load none (.t 14))
  (.op 5 [] (some 16) none false (.callv 16 (.t 11) [(.t 15)])
  .done)))))))
 (.cond (.t 16)
 (.seq (.reg false (.op 0 [] (some 17) none false (.mov (.t 5))
  (.op 1 [] (some 4) none false (.mov (.t 17))
  .done)))
 .ret)
 .skip))))
 (.reg false (.op 0 [] (some 18) none false (.bin .add (.t 8) (.v (.int .i64 1)))
  (.op 1 [] (some 8) none false (.mov (.t 18))
  .done)))))))))
 (.seq (.reg false (.op 0 [] (some 4) none false (.mov (.v (.int .i64 (-1))))
  .done))
 .ret)))
theorem dg_slices_IndexFunc_Lbyte_byte : Try.f192.body.bind (digC Try.prog Try.f192.ntmps []) = some c_slices_IndexFunc_Lbyte_byte := by kernel_rfl
theorem rs_slices_IndexFunc_Lbyte_byte : resSlots Try.prog Try.f192 = some [.s 4] := by kernel_rfl
theorem ok_slices_IndexFunc_Lbyte_byte (l : List DV) (D : DV → Prop) (g : DV → Bool) (hl : (l.length : Int) ≤ 9223372036854775807) (hD : ∀ x ∈ l, D x) :
    FnOK Try.prog 192 [.one (.d (lst l)), .one (.fv false (fcPred D g))] (fun ra _ => ra = [.one (.d (.sc (.int .i64 (idxF g l))))]) := by
  refine FnOK.ofK Try.func192 (by kernel_rfl) dg_slices_IndexFunc_Lbyte_byte rs_slices_IndexFunc_Lbyte_byte rfl rfl ?_
  unfold c_slices_IndexFunc_Lbyte_byte
  refine kSeq (kReg (kMovC rfl (kDone ?_)))
  refine kSeq (kSeq (kReg (kMovC rfl (kLen rfl rfl rfl (kMovC rfl (kDone (kBlock ?_)))))))
  rw [len_lst]
  refine kLoop (α := { i : Nat // i ≤ l.length ∧ ∀ x ∈ l.take i, g x = false })
    (fun y => ⟨tabSl [(0, .dv (lst l)), (1, .c (.fv false (fcPred D g))), (7, .i l.length), (8, .i y.1)], (St.init [.one (.d (lst l)), .one (.fv false (fcPred D g))]).ob, []⟩) (fun y => l.length - y.1) ⟨0, by simp⟩
    (.tab rfl ⟨.refl _, .refl _, .refl _, .refl _, trivial⟩) ?_
  rintro ⟨i, hi, hg⟩
  simp only
  refine kSeq (kReg (kBin rfl rfl rfl (kDone ?_)))
  refine kSeq (kCond rfl (fun h1 => ?_) (fun h1 => ?_))
  · have hlt : i < l.length := by simp at h1; omega
    refine kSkip (kSeq (kBlock (kSeq (kReg (kMovC rfl (kMovC rfl (kDone ?_)))))))
    refine kSeq (kReg (kMovC rfl (kMovC rfl (kMovC rfl (kIadD rfl rfl rfl rfl ?_ ?_)))))
    · rw [len_lst]; omega
    rw [show (lst l).row (i : Int).toNat = [l[i]] from row_lst l i hlt]
    refine kLoadD rfl rfl (kCallv rfl ⟨l[i], hD _ (List.getElem_mem hlt), rfl, rfl⟩ ⟨rfl, trivial⟩ (.inr ?_) rfl ?_ rfl ?_)
    · rintro _ rfl; rfl
    · rintro _ rfl; exact Nat.le_of_ble_eq_true rfl
    rintro _ rfl
    refine kDone (kCond rfl (fun h2 => ?_) (fun h2 => ?_))
    · refine kSeq (kReg (kMovC rfl (kMovC rfl (kDone (kRet ?_)))))
      refine endRet (ra := [.one (.d _)]) rfl ⟨⟨⟨rfl, .inl rfl⟩, trivial⟩, .nil, trivial, trivial, trivial⟩ ?_
      have : l.findIdx? g = some i := by
        rw [List.findIdx?_eq_some_iff_getElem]
        refine ⟨hlt, h2, fun j hj => ?_⟩
        simpa using hg _ (by rw [List.mem_take_iff_getElem]; exact ⟨j, by omega, rfl⟩)
      simp [idxF, this]
    · refine kSkip (kBk (kReg (kAdd rfl rfl ?_ (kMovC rfl (kDone (kInv ?_))))))
      · omega
      refine ⟨⟨i + 1, hlt, ?_⟩, by simp only; omega, .tab rfl ⟨.refl _, .refl _, .refl _, .refl _, trivial⟩⟩
      intro x hx
      rw [← List.take_append_getElem hlt, List.mem_append] at hx
      rcases hx with hx | hx
      · exact hg x hx
      · simp at hx; rw [hx]; exact h2
  · refine kExit (kExC (kExI (kExB ?_)))
    have hge : i = l.length := by simp at h1; omega
    refine kSeq (kReg (kMovC rfl (kDone (kRet ?_))))
    refine endRet (ra := [.one (.d _)]) rfl ⟨⟨⟨rfl, .inl rfl⟩, trivial⟩, .nil, trivial, trivial, trivial⟩ ?_
    have : l.findIdx? g = none := by
      rw [List.findIdx?_eq_none_iff]
      intro x hx
      rw [hge, List.take_length] at hg
      exact hg x hx
    simp [idxF, this]

def c_slices_ContainsFunc_Lbyte_byte : C := (.seq (.reg false (.op 0 [] (some 4) none false (.mov (.v (.bool false)))
  .done))
 (.seq (.reg false (.op 0 [] (some 5) none false (.mov (.t 0))
  (.op 1 [] (some 6) none false (.mov (.t 1))
  (.op 2 [] (some 7) none false (.call 7 192 [(.t 5), (.t 6)])
  (.op 3 [] (some 8) none false (.bin .geq (.t 7) (.v (.int .i64 0)))
  (.op 4 [] (some 4) none false (.mov (.t 8))
  .done))))))
 .ret))
theorem dg_slices_ContainsFunc_Lbyte_byte : Try.f178.body.bind (digC Try.prog Try.f178.ntmps []) = some c_slices_ContainsFunc_Lbyte_byte := by kernel_rfl
theorem rs_slices_ContainsFunc_Lbyte_byte : resSlots Try.prog Try.f178 = some [.s 4] := by kernel_rfl
theorem ok_slices_ContainsFunc_Lbyte_byte (l : List DV) (D : DV → Prop) (g : DV → Bool) (hl : (l.length : Int) ≤ 9223372036854775807) (hD : ∀ x ∈ l, D x) :
    FnOK Try.prog 178 [.one (.d (lst l)), .one (.fv false (fcPred D g))] (fun ra _ => ra = [.one (.d (.sc (.bool (l.any g))))]) := by
  refine FnOK.ofK Try.func178 (by kernel_rfl) dg_slices_ContainsFunc_Lbyte_byte rs_slices_ContainsFunc_Lbyte_byte rfl rfl ?_
  unfold c_slices_ContainsFunc_Lbyte_byte
  refine kSeq (kReg (kMovC rfl (kDone ?_)))
  refine kSeq (kReg (kMovC rfl (kMovC rfl ?_)))
  refine kCall1 true (ok_slices_IndexFunc_Lbyte_byte l D g hl hD) ⟨rfl, ⟨fun h => h, fun _ _ h => h⟩, trivial⟩ rfl rfl rfl fun os => ?_
  refine kBin rfl rfl rfl (kMovC rfl (kDone (kRet ?_)))
  refine endRet (ra := [.one (.d _)]) rfl ⟨⟨⟨rfl, .inl rfl⟩, trivial⟩, .nil, trivial, trivial, trivial⟩ ?_
  have : decide (idxF g l ≥ 0) = l.any g := by
    unfold idxF
    cases h : l.findIdx? g with
    | none =>
      rw [List.findIdx?_eq_none_iff] at h
      have : l.any g = false := by rw [List.any_eq_false]; intro x hx; simp [h x hx]
      rw [this]; rfl
    | some i =>
      rw [List.findIdx?_eq_some_iff_getElem] at h
      obtain ⟨h1, h2, _⟩ := h
      have : l.any g = true := by rw [List.any_eq_true]; exact ⟨_, List.getElem_mem h1, h2⟩
      rw [this]; simp
  rw [this]

def c_impl_all_byte : C := (.seq (.reg false (.op 0 [] (some 3) none false (.box 3 (.t 1))
  (.op 1 [] (some 4) none false (.mov (.v (.bool false)))
  .done)))
 (.seq (.reg false (.op 0 [] (some 5) none false (.mov (.t 0))
  (.op 1 [] (some 6) none false (.clo 179 [] [(.t 3)])
  (.op 2 [] (some 7) none false (.call 7 178 [(.t 5), (.t 6)])
  (.op 3 [] (some 8) none false (.un .not (.t 7))
  (.op 4 [] (some 4) none false (.mov (.t 8))
  .done))))))
 .ret))
theorem dg_impl_all_byte : Try.f155.body.bind (digC Try.prog Try.f155.ntmps []) = some c_impl_all_byte := by kernel_rfl
theorem rs_impl_all_byte : resSlots Try.prog Try.f155 = some [.s 4] := by kernel_rfl
theorem ok_impl_all_byte (l : List DV) (D : DV → Prop) (g : DV → Bool) (hl : (l.length : Int) ≤ 9223372036854775807) (hD : ∀ x ∈ l, D x) :
    FnOK Try.prog 155 [.one (.d (lst l)), .one (.fv false (fcPred D g))] (fun ra _ => ra = [.one (.d (.sc (.bool (l.all g))))]) := by
  refine FnOK.ofK Try.func155 (by kernel_rfl) dg_impl_all_byte rs_impl_all_byte rfl rfl ?_
  unfold c_impl_all_byte
  refine kSeq (kReg (kBox rfl rfl rfl rfl rfl (kMovC rfl (kDone ?_))))
  refine kSeq (kReg (kMovC rfl (kClo rfl rfl ?_)))
  refine kCall1 true (ok_slices_ContainsFunc_Lbyte_byte l D (fun x => !g x) hl hD) ⟨rfl, ⟨rfl, ⟨_, Try.func179, rfl, by kernel_rfl⟩, _, rfl, ?_⟩, trivial⟩ rfl rfl rfl fun os => ?_
  · rintro l R ⟨x, hx, rfl, rfl⟩
    exact ⟨by rintro _ rfl; rfl, ok_impl_all_byte_1 x D g hx⟩
  refine kUn rfl rfl (kMovC rfl (kDone (kRet ?_)))
  refine endRet (ra := [.one (.d _)]) rfl ⟨⟨⟨rfl, .inl rfl⟩, trivial⟩, .nil, trivial, trivial, trivial⟩ ?_
  simp [List.all_eq_not_any_not]

def c_impl_LabelOk_1 : C := (.seq (.reg false (.op 0 [] (some 2) none false (.mov (.v (.bool false)))
  .done))
 (.seq (.reg false (.op 0 [] (some 3) none false (.mov (.t 0))
  (.op 1 [] (some 4) none false (.bin .geq (.t 3) (.v (.int .u8 97)))
  (.op 2 [] (some 5) none false (.mov (.t 4))
  (.op 3 [] (some 6) (some (5, true)) false (.mov (.t 0))
  (.op 4 [] (some 7) (some (5, true)) false (.bin .leq (.t 6) (.v (.int .u8 122)))
  (.op 5 [] (some 8) none false (.pick (.t 5) (.t 7) (.v (.bool false)))
  (.op 6 [] (some 9) none false (.mov (.t 8))
  (.op 7 [] (some 10) (some (9, false)) false (.mov (.t 0))
  (.op 8 [] (some 11) (some (9, false)) false (.bin .geq (.t 10) (.v (.int .u8 48)))
  (.op 9 [] (some 12) (some (9, false)) false (.mov (.t 11))
  (.op 10 [] (some 13) (some (12, true)) false (.mov (.t 0))
  (.op 11 [] (some 14) (some (12, true)) false (.bin .leq (.t 13) (.v (.int .u8 57)))
  (.op 12 [] (some 15) (some (9, false)) false (.pick (.t 12) (.t 14) (.v (.bool false)))
  (.op 13 [] (some 16) none false (.pick (.t 9) (.v (.bool true)) (.t 15))
  (.op 14 [] (some 17) none false (.mov (.t 16))
  (.op 15 [] (some 18) (some (17, false)) false (.mov (.t 0))
  (.op 16 [] (some 19) (some (17, false)) false (.bin .eql (.t 18) (.v (.int .u8 45)))
  (.op 17 [] (some 20) none false (.pick (.t 17) (.v (.bool true)) (.t 19))
  (.op 18 [] (some 2) none false (.mov (.t 20))
  .done))))))))))))))))))))
 .ret))
theorem dg_impl_LabelOk_1 : Try.f156.body.bind (digC Try.prog Try.f156.ntmps []) = some c_impl_LabelOk_1 := by kernel_rfl
theorem rs_impl_LabelOk_1 : resSlots Try.prog Try.f156 = some [.s 2] := by kernel_rfl
theorem ok_impl_LabelOk_1 (b : UInt8) : FnOK Try.prog 156 [.one (.d (.sc (.int .u8 b.toNat)))] (fun ra _ => ra = [.one (.d (.sc (.bool (okLetter b))))]) := by
  refine FnOK.ofK Try.func156 (by kernel_rfl) dg_impl_LabelOk_1 rs_impl_LabelOk_1 rfl rfl ?_
  unfold c_impl_LabelOk_1
  repeat' first
    | refine kSeq ?_ | refine kReg ?_ | refine kDone ?_ | refine kMovC rfl ?_ | refine kBin rfl rfl rfl ?_
    | refine kGT rfl ?_ | refine kGF rfl ?_ | refine kGU rfl ?_ | refine kG rfl (fun h => ?_) (fun h => ?_)
    | refine kPickT rfl ?_ | refine kPickF rfl ?_ | refine kPick rfl (fun h => ?_) (fun h => ?_) | refine kRet ?_
  all_goals refine endRet (ra := [.one (.d _)]) rfl ⟨⟨⟨rfl, .inl rfl⟩, trivial⟩, .nil, trivial, trivial⟩ ?_
  all_goals simp_all [okLetter]
  all_goals first | omega | (rw [Bool.eq_iff_iff]; simp; omega)

def c_impl_LabelOk : C := (.seq (.reg false (.op 0 [] (some 2) none false (.mov (.v (.bool false)))
  .done))
 (.seq (.reg false (.op 0 [] (some 3) none false (.mov (.t 0))
  (.op 1 [] (some 4) none false (.len (.t 3))
  (.op 2 [] (some 5) none false (.call 5 72 [(.t 4), (.v (.int .i64 1)), (.v (.int .i64 15))])
  (.op 3 [] (some 6) none false (.mov (.t 5))
  (.op 4 [] (some 7) (some (6, true)) false (.mov (.t 0))
  (.op 5 [] (some 8) (some (6, true)) false (.call 8 155 [(.t 7), (.fn 156)])
  (.op 6 [] (some 9) none false (.pick (.t 6) (.t 8) (.v (.bool false)))
  (.op 7 [] (some 2) none false (.mov (.t 9))
  .done)))))))))
 .ret))
theorem dg_impl_LabelOk : Try.f116.body.bind (digC Try.prog Try.f116.ntmps []) = some c_impl_LabelOk := by kernel_rfl
theorem rs_impl_LabelOk : resSlots Try.prog Try.f116 = some [.s 2] := by kernel_rfl
theorem ok_impl_LabelOk (b : List UInt8) (hb : b.length ≤ 4194304) :
    FnOK Try.prog 116 [.one (.d (encB b))] (fun ra _ => ra = [.one (.d (.sc (.bool (labelOk b))))]) := by
  refine FnOK.ofK Try.func116 (by kernel_rfl) dg_impl_LabelOk rs_impl_LabelOk rfl rfl ?_
  unfold c_impl_LabelOk
  refine kSeq (kReg (kMovC rfl (kDone (kSeq (kReg (kMovC rfl (kLenR rfl rfl (kCallD (ok_impl_within _ _ _) ⟨rfl, rfl, rfl, trivial⟩ rfl rfl rfl rfl rfl (kMovC rfl (kGP rfl (fun g0 => kGT rfl (kMovC rfl (kGT rfl ?_))) (fun g0 => kGF rfl (kGF rfl (kPickF rfl (kMovC rfl (kMovC rfl (kDone (kRet (endRetA (ra := [.one (.d _)]) rfl ?_))))))))))))))))))
  · refine kCall1 true (ok_impl_all_byte (b.map fun b : UInt8 => .sc (.int .u8 b.toNat)) is8 (fun x => okLetter (dec8 x)) (by simp; omega) (fun x hx => by obtain ⟨c, _, rfl⟩ := List.mem_map.1 hx; exact ⟨c, rfl⟩)) ⟨congrArg some (encB_lst b), ⟨rfl, rfl, ⟨_, Try.func156, rfl, by kernel_rfl⟩, ?_⟩, trivial⟩ rfl rfl rfl (fun _ => ?_)
    · rintro _ R ⟨x, ⟨c, rfl⟩, rfl, rfl⟩
      have := ok_impl_LabelOk_1 c
      simp only [dec8_enc]
      exact this
    refine kPickT rfl (kMovC rfl (kMovC rfl (kDone (kRet (endRetA (ra := [.one (.d _)]) rfl ?_)))))
    rw [all_dec8, show labelOk b = b.all okLetter by simp only [labelOk]; rw [decide_eq_true (by omega), decide_eq_true (by omega)]; rfl]
  · rw [show labelOk b = false by simp only [labelOk]; rw [show (decide (1 ≤ b.length) && decide (b.length ≤ 15)) = false by simp; omega]; rfl]

end Go.Proofs.Ytcjbflgooaddgaa.FnExactEventOkFn
