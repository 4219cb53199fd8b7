/- What the functions that FnExactBump reaches compute, one contract each; each with the bounds that it states. -/
import Derived.Test.YtmecljfkakjmbaaGreatFnExactBumpFn2
import Derived.Test.YtmecljfkakjmbaaGreatProg
import Derived.KernelRfl
set_option maxRecDepth 100000
set_option maxHeartbeats 8000000
set_option linter.unusedVariables false
set_option linter.unusedSimpArgs false
namespace Go.Proofs.YtmecljfkakjmbaaGreat.FnExactBumpFn
open Go Hearth Go.Proofs

def c_laws_eqRr : C := (.seq (.reg false (.op 0 [] (some 2) none false (.box 2 (.t 0))
  (.op 1 [] (some 3) none false (.box 3 (.t 1))
  (.op 2 [] (some 4) none false (.mov (.v (.bool false)))
  .done))))
 (.seq (.seq (.reg false (.op 0 [] (some 5) none false (.fad (.t 2) 0)
  (.op 1 [] (some 6) none false (.load (some 1) (.t 5))
  (.op 2 [] (some 7) none false (.fad (.t 3) 0)
  (.op 3 [] (some 8) none false (.load (some 1) (.t 7))
  (.op 4 [] (some 9) none false (.call 9 33 [(.t 6), (.t 8)])
  (.op 5 [] (some 10) none false (.un .not (.t 9))
  .done)))))))
 (.cond (.t 10)
 (.seq (.reg false (.op 0 [] (some 4) none false (.mov (.v (.bool false)))
  .done))
 .ret)
 .skip))
 (.seq (.seq (.reg false (.op 0 [] (some 11) none false (.fad (.t 2) 1)
  (.op 1 [] (some 12) none false (.load none (.t 11))
  (.op 2 [] (some 13) none false (.fad (.t 3) 1)
  (.op 3 [] (some 14) none false (.load none (.t 13))
  (.op 4 [] (some 15) none false (.bin .neq (.t 12) (.t 14))
  .done))))))
 (.cond (.t 15)
 (.seq (.reg false (.op 0 [] (some 4) none false (.mov (.v (.bool false)))
  .done))
 .ret)
 .skip))
 (.seq (.seq (.reg false (.op 0 [] (some 16) none false (.fad (.t 2) 2)
  (.op 1 [] (some 17) none false (.load none (.t 16))
  (.op 2 [] (some 18) none false (.fad (.t 3) 2)
  (.op 3 [] (some 19) none false (.load none (.t 18))
  (.op 4 [] (some 20) none false (.bin .neq (.t 17) (.t 19))
  .done))))))
 (.cond (.t 20)
 (.seq (.reg false (.op 0 [] (some 4) none false (.mov (.v (.bool false)))
  .done))
 .ret)
 .skip))
 (.seq (.seq (.reg false (.op 0 [] (some 21) none false (.fad (.t 2) 3)
  (.op 1 [] (some 22) none false (.load none (.t 21))
  (.op 2 [] (some 23) none false (.fad (.t 3) 3)
  (.op 3 [] (some 24) none false (.load none (.t 23))
  (.op 4 [] (some 25) none false (.bin .neq (.t 22) (.t 24))
  .done))))))
 (.cond (.t 25)
 (.seq (.reg false (.op 0 [] (some 4) none false (.mov (.v (.bool false)))
  .done))
 .ret)
 .skip))
 (.seq (.seq (.reg false (.op 0 [] (some 26) none false (.fad (.t 2) 4)
  (.op 1 [] (some 27) none false (.load (some 1) (.t 26))
  (.op 2 [] (some 28) none false (.fad (.t 3) 4)
  (.op 3 [] (some 29) none false (.load (some 1) (.t 28))
  (.op 4 [] (some 30) none false (.call 30 33 [(.t 27), (.t 29)])
  (.op 5 [] (some 31) none false (.un .not (.t 30))
  .done)))))))
 (.cond (.t 31)
 (.seq (.reg false (.op 0 [] (some 4) none false (.mov (.v (.bool false)))
  .done))
 .ret)
 .skip))
 (.seq (.seq (.reg false (.op 0 [] (some 32) none false (.fad (.t 2) 5)
  (.op 1 [] (some 33) none false (.load none (.t 32))
  (.op 2 [] (some 34) none false (.fad (.t 3) 5)
  (.op 3 [] (some 35) none false (.load none (.t 34))
  (.op 4 [] (some 36) none false (.call 36 94 [(.t 33), (.t 35)])
  (.op 5 [] (some 37) none false (.un .not (.t 36))
  .done)))))))
 (.cond (.t 37)
 (.seq (.reg false (.op 0 [] (some 4) none false (.mov (.v (.bool false)))
  .done))
 .ret)
 .skip))
 (.seq (.seq (.reg false (.op 0 [] (some 38) none false (.fad (.t 2) 6)
  (.op 1 [] (some 39) none false (.load none (.t 38))
  (.op 2 [] (some 40) none false (.fad (.t 3) 6)
  (.op 3 [] (some 41) none false (.load none (.t 40))
  (.op 4 [] (some 42) none false (.call 42 75 [(.t 39), (.t 41)])
  (.op 5 [] (some 43) none false (.un .not (.t 42))
  .done)))))))
 (.cond (.t 43)
 (.seq (.reg false (.op 0 [] (some 4) none false (.mov (.v (.bool false)))
  .done))
 .ret)
 .skip))
 (.seq (.reg false (.op 0 [] (some 4) none false (.mov (.v (.bool true)))
  .done))
 .ret)))))))))
theorem dg_laws_eqRr : Tryz.f39.body.bind (digC Tryz.prog Tryz.f39.ntmps []) = some c_laws_eqRr := by kernel_rfl
theorem rs_laws_eqRr : resSlots Tryz.prog Tryz.f39 = some [.s 4] := by kernel_rfl
theorem ok_laws_eqRr (a b : Rr) (hs : SmallR a) :
    FnOK Tryz.prog 39 [.agg (a.cells.map .d), .agg (b.cells.map .d)] (fun ra _ => ra = [.one (.d (.sc (.bool (decide (a = b)))))]) := by
  refine FnOK.ofK Tryz.func39 (by kernel_rfl) dg_laws_eqRr rs_laws_eqRr rfl rfl ?_
  unfold c_laws_eqRr
  have n1 := hs.n.len
  have n2 := hs.n.mem
  have t1 := hs.t.len
  have t2 := hs.t.mem
  have x1 := hs.x
  have m1 := hs.m
  refine kSeq (kReg (kBox rfl rfl rfl rfl rfl (kBox rfl rfl rfl rfl rfl (kMovC rfl (kDone (kSeq (kSeq (kReg (kFadP rfl rfl (kLoadP rfl rfl rfl (kFadP rfl rfl (kLoadP rfl rfl rfl (kCallD (ok_laws_eqName _ _ (by first | assumption | omega | solve_by_elim [List.getElem_mem] | (simp only [szOut] at *; omega)) (by first | assumption | omega | solve_by_elim [List.getElem_mem] | (simp only [szOut] at *; omega))) ⟨⟨⟨rfl, trivial⟩, Nat.le_of_ble_eq_true rfl⟩, ⟨⟨rfl, trivial⟩, Nat.le_of_ble_eq_true rfl⟩, trivial⟩ rfl rfl rfl rfl rfl (kUn rfl rfl (kDone (kCondN rfl (fun g0 => kSeq (kReg (kMovC rfl (kDone (kRet (endRetA (ra := [.one (.d _)]) rfl ?_)))))) (fun g0 => kSkip (kSeq (kSeq (kReg (kFadP rfl rfl (kLoadP rfl rfl rfl (kFadP rfl rfl (kLoadP rfl rfl rfl (kBin rfl rfl rfl (kDone (kCondIN rfl (fun g1 => kSeq (kReg (kMovC rfl (kDone (kRet (endRetA (ra := [.one (.d _)]) rfl ?_)))))) (fun g1 => kSkip (kSeq (kSeq (kReg (kFadP rfl rfl (kLoadP rfl rfl rfl (kFadP rfl rfl (kLoadP rfl rfl rfl (kBin rfl rfl rfl (kDone (kCondIN rfl (fun g2 => kSeq (kReg (kMovC rfl (kDone (kRet (endRetA (ra := [.one (.d _)]) rfl ?_)))))) (fun g2 => kSkip (kSeq (kSeq (kReg (kFadP rfl rfl (kLoadP rfl rfl rfl (kFadP rfl rfl (kLoadP rfl rfl rfl (kBin rfl rfl rfl (kDone (kCondIN rfl (fun g3 => kSeq (kReg (kMovC rfl (kDone (kRet (endRetA (ra := [.one (.d _)]) rfl ?_)))))) (fun g3 => kSkip (kSeq (kSeq (kReg (kFadP rfl rfl (kLoadP rfl rfl rfl (kFadP rfl rfl (kLoadP rfl rfl rfl (kCallD (ok_laws_eqName _ _ (by first | assumption | omega | solve_by_elim [List.getElem_mem] | (simp only [szOut] at *; omega)) (by first | assumption | omega | solve_by_elim [List.getElem_mem] | (simp only [szOut] at *; omega))) ⟨⟨⟨rfl, trivial⟩, Nat.le_of_ble_eq_true rfl⟩, ⟨⟨rfl, trivial⟩, Nat.le_of_ble_eq_true rfl⟩, trivial⟩ rfl rfl rfl rfl rfl (kUn rfl rfl (kDone (kCondN rfl (fun g4 => kSeq (kReg (kMovC rfl (kDone (kRet (endRetA (ra := [.one (.d _)]) rfl ?_)))))) (fun g4 => kSkip (kSeq (kSeq (kReg (kFadP rfl rfl (kLoadP rfl rfl rfl (kFadP rfl rfl (kLoadP rfl rfl rfl (kCallD (ok_laws_eqByteS _ _ (by first | assumption | omega | solve_by_elim [List.getElem_mem] | (simp only [szOut] at *; omega))) ⟨rfl, rfl, trivial⟩ rfl rfl rfl rfl rfl (kUn rfl rfl (kDone (kCondN rfl (fun g5 => kSeq (kReg (kMovC rfl (kDone (kRet (endRetA (ra := [.one (.d _)]) rfl ?_)))))) (fun g5 => kSkip (kSeq (kSeq (kReg (kFadP rfl rfl (kLoadP rfl rfl rfl (kFadP rfl rfl (kLoadP rfl rfl rfl (kCallD (ok_laws_eqIntS _ _ (by first | assumption | omega | solve_by_elim [List.getElem_mem] | (simp only [szOut] at *; omega))) ⟨rfl, rfl, trivial⟩ rfl rfl rfl rfl rfl (kUn rfl rfl (kDone (kCondN rfl (fun g6 => kSeq (kReg (kMovC rfl (kDone (kRet (endRetA (ra := [.one (.d _)]) rfl ?_)))))) (fun g6 => kSkip (kSeq (kReg (kMovC rfl (kDone (kRet (endRetA (ra := [.one (.d _)]) rfl ?_))))))))))))))))))))))))))))))))))))))))))))))))))))))))))))))))))))))))))))))))))))))))))))
  all_goals (refine congrArg (fun z : Bool => [RA.one (RV.d (DV.sc (Value.bool z)))]) ?_; clear n1 n2 t1 t2 x1 m1 hs; cases a; cases b; simp_all)

def c_laws_eqRrS : C := (.seq (.reg false (.op 0 [] (some 4) none false (.mov (.v (.bool false)))
  .done))
 (.seq (.seq (.reg false (.op 0 [] (some 6) none false (.mov (.t 0))
  (.op 1 [] (some 7) none false (.len (.t 6))
  (.op 2 [] (some 8) none false (.mov (.t 1))
  (.op 3 [] (some 9) none false (.len (.t 8))
  (.op 4 [] (some 10) none false (.bin .neq (.t 7) (.t 9))
  .done))))))
 (.cond (.t 10)
 (.seq (.reg false (.op 0 [] (some 4) none false (.mov (.v (.bool false)))
  .done))
 .ret)
 .skip))
 (.seq (.seq (.reg false (.op 0 [] (some 5) none false (.mov (.v (.int .i64 0)))
  .done))
 (.block 0 (.loop (.seq (.seq (.reg false (.op 0 [] (some 11) none false (.mov (.t 5))
  (.op 1 [] (some 12) none false (.mov (.t 0))
  (.op 2 [] (some 13) none false (.len (.t 12))
  (.op 3 [] (some 14) none false (.bin .lss (.t 11) (.t 13))
  .done)))))
 (.cond (.t 14)
 .skip
 (.exit 0)))
 (.seq (.block 1 (.seq (.reg true (.op 0 [] (some 17) none true (.mov (.t 0))
  (.op 1 [] (some 18) none true (.mov (.t 5))
  (.op 2 [] (some 19) none true (.iad 7 (.t 17) (.t 18))
  (.op 3 [] (some 20) none true (.load (some 7) (.t 19))
  (.op 4 [] (some 21) none true (.mov (.t 1))
  (.op 5 [] (some 22) none true (.mov (.t 5))
  (.op 6 [] (some 23) none true (.iad 7 (.t 21) (.t 22))
  (.op 7 [] (some 24) none true (.load (some 7) (.t 23))
  (.op 8 [3, 7] (some 25) none false (.call 25 39 [(.t 20), (.t 24)])
  (.op 9 [] (some 26) none true (.un .not (.t 25))
  .done)))))))))))
 (.cond (.t 26)
 (.seq (.reg false (.op 0 [] (some 4) none false (.mov (.v (.bool false)))
  .done))
 .ret)
 .skip)))
 (.reg false (.op 0 [] (some 15) none false (.mov (.t 5))
  (.op 1 [] (some 16) none false (.bin .add (.t 15) (.v (.int .i64 1)))
  (.op 2 [] (some 5) none false (.mov (.t 16))
  .done)))))))))
 (.seq (.reg false (.op 0 [] (some 4) none false (.mov (.v (.bool true)))
  .done))
 .ret))))
theorem dg_laws_eqRrS : Tryz.f14.body.bind (digC Tryz.prog Tryz.f14.ntmps []) = some c_laws_eqRrS := by kernel_rfl
theorem rs_laws_eqRrS : resSlots Tryz.prog Tryz.f14 = some [.s 4] := by kernel_rfl
theorem ok_laws_eqRrS (a b : List Rr) (hs : SmallRs a) :
    FnOK Tryz.prog 14 [.one (.d (encR a)), .one (.d (encR b))] (fun ra _ => ra = [.one (.d (.sc (.bool (decide (a = b)))))]) := by
  refine FnOK.ofK Tryz.func14 (by kernel_rfl) dg_laws_eqRrS rs_laws_eqRrS rfl rfl ?_
  unfold c_laws_eqRrS
  have ha := hs.len
  refine kSeq (kReg (kMovC rfl (kDone (kSeq (kSeq (kReg (kMovC rfl (kLenR rfl rfl (kMovC rfl (kLenR rfl rfl (kBin rfl rfl rfl (kDone (kCondIN rfl (fun g0 => kSeq (kReg (kMovC rfl (kDone (kRet (endRetA (ra := [.one (.d _)]) rfl ?_)))))) (fun g0 => kSkip (kSeq (kSeq (kReg (kMovC rfl (kDone (kBlock ?_))))))))))))))))))))
  · rw [decide_eq_false (by rintro rfl; simp_all)]
  have hab : a.length = b.length := by omega
  refine kLoop (α := { i : Nat // i ≤ a.length ∧ a.take i = b.take i })
    (fun y => ⟨tabSl [(0, .dv (encR a)), (1, .dv (encR b)), (5, .i y.1)], obTab 1 [], []⟩) (fun y => a.length - y.1) ⟨0, by simp⟩
    .normA ?_
  rintro ⟨i, hi, he⟩
  simp only
  rcases Nat.lt_or_ge i a.length with hlt | hge
  · have hbi := hs.mem _ (List.getElem_mem hlt)
    refine kSeq (kSeq (kReg (kMovC rfl (kMovC rfl (kLenR rfl rfl (kBin rfl rfl rfl (kDone (kCondP rfl (fun g0 => kSkip (kSeq (kBlock (kSeq (kRegD (kMovC rfl (kMovC rfl (kIadR rfl rfl rfl (by omega) (kLoadD rfl rfl (kMovC rfl (kMovC rfl (kIadR rfl rfl rfl (by omega) (kLoadD rfl rfl (kRelF rfl rfl (kCallD (ok_laws_eqRr _ _ (by first | assumption | omega | solve_by_elim [List.getElem_mem] | (simp only [szOut] at *; omega))) ⟨⟨⟨rfl, rfl, rfl, rfl, rfl, rfl, rfl, trivial⟩, Nat.le_of_ble_eq_true rfl⟩, ⟨⟨rfl, rfl, rfl, rfl, rfl, rfl, rfl, trivial⟩, Nat.le_of_ble_eq_true rfl⟩, trivial⟩ rfl rfl rfl rfl rfl (kUn rfl rfl (kDone (kH (kCondN rfl (fun g1 => kSeq (kReg (kMovC rfl (kDone (kRet (endRetA (ra := [.one (.d _)]) rfl ?_)))))) (fun g1 => kSkip (kBk (kReg (kMovC rfl (kAdd rfl rfl (by omega) (kMovC rfl (kDone ?_)))))))))))))))))))))))))) (fun g0 => (by omega))))))))))
    · rw [decide_eq_false]
      rintro rfl
      simp_all
    · refine kInv ⟨⟨i + 1, by omega, ?_⟩, by simp only; omega, .normA⟩
      rw [← List.take_append_getElem (by omega), ← List.take_append_getElem (by omega), he]
      simp_all
  · refine kSeq (kSeq (kReg (kMovC rfl (kMovC rfl (kLenR rfl rfl (kBin rfl rfl rfl (kDone (kCondP rfl (fun g0 => (by omega)) (fun g0 => kExit (kExC (kExI (kExB (kSeq (kReg (kMovC rfl (kDone (kRet (endRetA (ra := [.one (.d _)]) rfl ?_))))))))))))))))))
    have hge : i = a.length := by omega
    rw [hge, List.take_length, hab, List.take_length] at he
    rw [he, decide_eq_true rfl]

def c_laws_eqZone : C := (.seq (.reg false (.op 0 [] (some 2) none false (.box 2 (.t 0))
  (.op 1 [] (some 3) none false (.box 3 (.t 1))
  (.op 2 [] (some 4) none false (.mov (.v (.bool false)))
  .done))))
 (.seq (.seq (.reg false (.op 0 [] (some 5) none false (.fad (.t 2) 0)
  (.op 1 [] (some 6) none false (.load (some 1) (.t 5))
  (.op 2 [] (some 7) none false (.fad (.t 3) 0)
  (.op 3 [] (some 8) none false (.load (some 1) (.t 7))
  (.op 4 [] (some 9) none false (.call 9 33 [(.t 6), (.t 8)])
  (.op 5 [] (some 10) none false (.un .not (.t 9))
  .done)))))))
 (.cond (.t 10)
 (.seq (.reg false (.op 0 [] (some 4) none false (.mov (.v (.bool false)))
  .done))
 .ret)
 .skip))
 (.seq (.seq (.reg false (.op 0 [] (some 11) none false (.fad (.t 2) 1)
  (.op 1 [] (some 12) none false (.load none (.t 11))
  (.op 2 [] (some 13) none false (.fad (.t 3) 1)
  (.op 3 [] (some 14) none false (.load none (.t 13))
  (.op 4 [] (some 15) none false (.call 15 14 [(.t 12), (.t 14)])
  (.op 5 [] (some 16) none false (.un .not (.t 15))
  .done)))))))
 (.cond (.t 16)
 (.seq (.reg false (.op 0 [] (some 4) none false (.mov (.v (.bool false)))
  .done))
 .ret)
 .skip))
 (.seq (.reg false (.op 0 [] (some 4) none false (.mov (.v (.bool true)))
  .done))
 .ret))))
theorem dg_laws_eqZone : Tryz.f15.body.bind (digC Tryz.prog Tryz.f15.ntmps []) = some c_laws_eqZone := by kernel_rfl
theorem rs_laws_eqZone : resSlots Tryz.prog Tryz.f15 = some [.s 4] := by kernel_rfl
theorem ok_laws_eqZone (a b : Zone) (hs : SmallZ a) :
    FnOK Tryz.prog 15 [.agg (a.cells.map .d), .agg (b.cells.map .d)] (fun ra _ => ra = [.one (.d (.sc (.bool (decide (a = b)))))]) := by
  refine FnOK.ofK Tryz.func15 (by kernel_rfl) dg_laws_eqZone rs_laws_eqZone rfl rfl ?_
  unfold c_laws_eqZone
  have o1 := hs.o.len
  have o2 := hs.o.mem
  have h1 := hs.r
  refine kSeq (kReg (kBox rfl rfl rfl rfl rfl (kBox rfl rfl rfl rfl rfl (kMovC rfl (kDone (kSeq (kSeq (kReg (kFadP rfl rfl (kLoadP rfl rfl rfl (kFadP rfl rfl (kLoadP rfl rfl rfl (kCallD (ok_laws_eqName _ _ (by first | assumption | omega | solve_by_elim [List.getElem_mem] | (simp only [szOut] at *; omega)) (by first | assumption | omega | solve_by_elim [List.getElem_mem] | (simp only [szOut] at *; omega))) ⟨⟨⟨rfl, trivial⟩, Nat.le_of_ble_eq_true rfl⟩, ⟨⟨rfl, trivial⟩, Nat.le_of_ble_eq_true rfl⟩, trivial⟩ rfl rfl rfl rfl rfl (kUn rfl rfl (kDone (kCondN rfl (fun g0 => kSeq (kReg (kMovC rfl (kDone (kRet (endRetA (ra := [.one (.d _)]) rfl ?_)))))) (fun g0 => kSkip (kSeq (kSeq (kReg (kMem [(12288, ⟨1, 0, .box [.d _, .d _]⟩), (16384, ⟨1, 0, .box [.d _, .d _]⟩)] [(2, .c (.ptr 12288 1 0)), (11, .c (.un)), (3, .c (.ptr 16384 1 0)), (13, .c (.un)), (12, .c (.un)), (14, .c (.un)), (15, .c (.un))] [] ⟨rfl, rfl, trivial⟩ ⟨rfl, rfl, rfl, rfl, rfl, rfl, rfl, trivial⟩ rfl (kFadP rfl rfl (kLoadP rfl rfl rfl (kFadP rfl rfl (kLoadP rfl rfl rfl (kCallD (ok_laws_eqRrS _ _ (by first | assumption | omega | solve_by_elim [List.getElem_mem] | (simp only [szOut] at *; omega))) ⟨rfl, rfl, trivial⟩ rfl rfl rfl rfl rfl (kUn rfl rfl (kDone (kCondN rfl (fun g1 => kSeq (kReg (kMovC rfl (kDone (kRet (endRetA (ra := [.one (.d _)]) rfl ?_)))))) (fun g1 => kSkip (kSeq (kReg (kMovC rfl (kDone (kRet (endRetA (ra := [.one (.d _)]) rfl ?_))))))))))))))))))))))))))))))))))))
  all_goals (refine congrArg (fun z : Bool => [RA.one (RV.d (DV.sc (Value.bool z)))]) ?_; clear o1 o2 h1 hs; cases a; cases b; simp_all)

def c_laws_markByteS : C := (.seq (.reg false (.op 0 [] (some 4) none false (.mov (.v (.int .i64 0)))
  .done))
 (.seq (.seq (.reg false (.op 0 [] (some 5) none false (.mov (.v (.int .i64 0)))
  .done))
 (.block 0 (.loop (.seq (.seq (.reg false (.op 0 [] (some 6) none false (.mov (.t 5))
  (.op 1 [] (some 7) none false (.mov (.t 0))
  (.op 2 [] (some 8) none false (.len (.t 7))
  (.op 3 [] (some 9) none false (.bin .lss (.t 6) (.t 8))
  .done)))))
 (.cond (.t 9)
 .skip
 (.exit 0)))
 (.seq (.block 1 (.seq (.reg false (.op 0 [] (some 12) none false (.mov (.t 0))
  (.op 1 [] (some 13) none false (.mov (.t 5))
  (.op 2 [] (some 14) none false (.mov (.t 1))
  (.op 3 [] (some 15) none false (.conv .u8 (.t 14))
  (.op 4 [] (some 16) none false (.iad 1 (.t 12) (.t 13))
  (.op 5 [] none none false (.store none (.t 16) (.t 15))
  .done)))))))
 (.reg false (.op 0 [] (some 17) none false (.mov (.t 1))
  (.op 1 [] (some 18) none false (.bin .add (.t 17) (.v (.int .i64 1)))
  (.op 2 [] (some 1) none false (.mov (.t 18))
  .done))))))
 (.reg false (.op 0 [] (some 10) none false (.mov (.t 5))
  (.op 1 [] (some 11) none false (.bin .add (.t 10) (.v (.int .i64 1)))
  (.op 2 [] (some 5) none false (.mov (.t 11))
  .done)))))))))
 (.seq (.reg false (.op 0 [] (some 19) none false (.mov (.t 1))
  (.op 1 [] (some 4) none false (.mov (.t 19))
  .done)))
 .ret)))
theorem dg_laws_markByteS : Tryz.f56.body.bind (digC Tryz.prog Tryz.f56.ntmps []) = some c_laws_markByteS := by kernel_rfl
theorem rs_laws_markByteS : resSlots Tryz.prog Tryz.f56 = some [.s 4] := by kernel_rfl
theorem ok_laws_markByteS (a : List UInt8) (k : Int) (h0 : 0 ≤ k) (hk : k + a.length ≤ 9223372036854775807) :
    FnOK Tryz.prog 56 [.one (.arr false true (encB a)), .one (.d (.sc (.int .i64 k)))] (fun ra os => ra = [.one (.d (.sc (.int .i64 (k + a.length))))] ∧ os.a 0 = encB (marks a.length k)) := by
  refine FnOK.ofK Tryz.func56 (by kernel_rfl) dg_laws_markByteS rs_laws_markByteS rfl rfl ?_
  unfold c_laws_markByteS
  generalize hgas : [GA.one (.arr false true (encB a)), GA.one (.d (.sc (.int .i64 k)))] = gas
  have hob : (St.init gas).ob 0 = ⟨0, 0, .arr true (encB a)⟩ := by rw [← hgas]; rfl
  have s0 : (St.init gas).sl 0 = .c (.arr 0 0) := by rw [← hgas]; rfl
  have s1 : (St.init gas).sl 1 = .i k := by rw [← hgas]; rfl
  refine kSub (t := ⟨tabSl [(0, .c (.arr 0 0)), (1, .i k)], (St.init gas).ob, []⟩) (.tab rfl ⟨s0 ▸ .refl _, s1 ▸ .refl _, trivial⟩) ?_
  refine kSeq (kReg (kMovC rfl (kDone ?_)))
  refine kSeq (kSeq (kReg (kMovC rfl (kDone (kBlock ?_)))))
  refine kLoop (α := { i : Nat // i ≤ a.length })
    (fun y => ⟨tabSl [(0, .c (.arr 0 0)), (1, .i (k + (y.1 : Int))), (5, .i y.1)], upd (St.init gas).ob 0 ⟨0, y.1, .arr true (encB (marks y.1 k ++ a.drop y.1))⟩, []⟩) (fun y => a.length - y.1) ⟨0, by simp⟩
    (.tab (upd_self (by rw [hob]; rfl)) ⟨.refl _, by simpa using .refl _, .refl _, trivial⟩) ?_
  rintro ⟨i, hi⟩
  simp only
  have hlen : (marks i k ++ a.drop i).length = a.length := by simp [marks_len]; omega
  refine kSeq (kSeq (kReg ?_))
  refine kMovC rfl (kMovC rfl (kLen rfl rfl rfl (kBin rfl rfl rfl (kDone ?_))))
  rw [len_encB, hlen]
  refine kCond rfl (fun h1 => ?_) (fun h1 => ?_)
  · have hlt : i < a.length := by simp at h1; omega
    refine kSkip (kSeq (kBlock (kSeq (kReg ?_))))
    refine kMovC rfl (kMovC rfl (kMovC rfl (kConv rfl (kIadA rfl rfl rfl rfl ?_ ?_))))
    · rw [len_encB, hlen]; omega
    refine kStoreE1 rfl rfl rfl rfl (by simp [encB, DV.esz]) (kDone ?_)
    rw [show (Int.toNat (i : Int)) = i from rfl, setRow_encB _ _ _ (by omega)]
    refine kReg (kMovC rfl (kAdd rfl rfl ?_ (kMovC rfl (kDone (kBk ?_)))))
    · omega
    refine kReg (kMovC rfl (kAdd rfl rfl ?_ (kMovC rfl (kDone (kInv ?_)))))
    · omega
    refine ⟨⟨i + 1, hlt⟩, by simp only; omega, .tab ?_ ⟨.refl _, ?_, .refl _, trivial⟩⟩
    · show _ = upd (upd (St.init gas).ob 0 _) 0 _
      rw [upd_upd, take_set_succ _ _ _ _ hlt (marks_len i k), marks_succ]
      rfl
    · show WkV (.i (k + i + 1)) (.i (k + ((i + 1 : Nat) : Int)))
      rw [show k + ((i + 1 : Nat) : Int) = k + i + 1 by omega]
      exact .refl _
  · refine kExit (kExC (kExI (kExB ?_)))
    have hge : i = a.length := by simp at h1; omega
    subst hge
    refine kSeq (kReg (kMovC rfl (kMovC rfl (kDone (kRet ?_)))))
    rw [← hgas]
    refine endRet (ra := [.one (.d _)]) rfl ⟨⟨⟨rfl, .inl rfl⟩, trivial⟩, .nil, ⟨rfl, fun _ => rfl, rfl⟩, trivial, trivial⟩ ?_
    refine ⟨rfl, ?_⟩
    show encB (marks a.length k ++ a.drop a.length) = _
    simp

def c_laws_markByteSS : C := (.seq (.reg false (.op 0 [] (some 4) none false (.mov (.v (.int .i64 0)))
  .done))
 (.seq (.seq (.reg false (.op 0 [] (some 5) none false (.mov (.v (.int .i64 0)))
  .done))
 (.block 0 (.loop (.seq (.seq (.reg false (.op 0 [] (some 6) none false (.mov (.t 5))
  (.op 1 [] (some 7) none false (.mov (.t 0))
  (.op 2 [] (some 8) none false (.len (.t 7))
  (.op 3 [] (some 9) none false (.bin .lss (.t 6) (.t 8))
  .done)))))
 (.cond (.t 9)
 .skip
 (.exit 0)))
 (.seq (.block 1 (.reg false (.op 0 [] (some 12) none false (.mov (.t 0))
  (.op 1 [] (some 13) none false (.mov (.t 5))
  (.op 2 [] (some 14) none false (.iad 1 (.t 12) (.t 13))
  (.op 3 [] (some 15) none false (.load none (.t 14))
  (.op 4 [] (some 16) none false (.mov (.t 1))
  (.op 5 [] (some 17) none false (.call 17 56 [(.t 15), (.t 16)])
  (.op 6 [] (some 1) none false (.mov (.t 17))
  .done)))))))))
 (.reg false (.op 0 [] (some 10) none false (.mov (.t 5))
  (.op 1 [] (some 11) none false (.bin .add (.t 10) (.v (.int .i64 1)))
  (.op 2 [] (some 5) none false (.mov (.t 11))
  .done)))))))))
 (.seq (.reg false (.op 0 [] (some 18) none false (.mov (.t 1))
  (.op 1 [] (some 4) none false (.mov (.t 18))
  .done)))
 .ret)))
theorem dg_laws_markByteSS : Tryz.f55.body.bind (digC Tryz.prog Tryz.f55.ntmps []) = some c_laws_markByteSS := by kernel_rfl
theorem rs_laws_markByteSS : resSlots Tryz.prog Tryz.f55 = some [.s 4] := by kernel_rfl
theorem ok_laws_markByteSS (a : List (List UInt8)) (k : Int) (h0 : 0 ≤ k) (hk : k + a.flatten.length ≤ 9223372036854775807) (hl : a.length ≤ 4194304) :
    FnOK Tryz.prog 55 [.one (.arr false true (encBB a)), .one (.d (.sc (.int .i64 k)))] (fun ra os => ra = [.one (.d (.sc (.int .i64 (k + a.flatten.length))))] ∧ os.a 0 = encBB (markss a k)) := by
  refine FnOK.ofK Tryz.func55 (by kernel_rfl) dg_laws_markByteSS rs_laws_markByteSS rfl rfl ?_
  unfold c_laws_markByteSS
  refine kSeq (kReg (kMovC rfl (kDone ?_)))
  refine kSeq (kSeq (kReg (kMovC rfl (kDone (kBlock ?_)))))
  refine kLoop (α := { i : Nat // i ≤ a.length })
    (fun y => ⟨tabSl [(0, .c (.arr 0 0)), (1, .i (k + (a.take y.1).flatten.length)), (5, .i y.1)], upd (St.init [.one (.arr false true (encBB a)), .one (.d (.sc (.int .i64 k)))]).ob 0 ⟨0, y.1, .arr true (encBB (markss (a.take y.1) k ++ a.drop y.1))⟩, []⟩) (fun y => a.length - y.1) ⟨0, by simp⟩
    (.tab (upd_self rfl) ⟨.refl _, by simpa using .refl _, .refl _, trivial⟩) ?_
  rintro ⟨i, hi⟩
  simp only
  have hlen : (markss (a.take i) k).length = i := by rw [markss_len]; simp; omega
  have hlen' : (markss (a.take i) k ++ a.drop i).length = a.length := by simp [hlen]; omega
  refine kSeq (kSeq (kReg ?_))
  refine kMovC rfl (kMovC rfl (kLen rfl rfl rfl (kBin rfl rfl rfl (kDone ?_))))
  rw [len_encBB, hlen']
  refine kCond rfl (fun h1 => ?_) (fun h1 => ?_)
  · have hlt : i < a.length := by simp at h1; omega
    have hget : (markss (a.take i) k ++ a.drop i)[i]'(by omega) = a[i] := by
      rw [List.getElem_append_right (by omega)]; simp [hlen]
    have hat : (encBB (markss (a.take i) k ++ a.drop i)).at i 0 = encB a[i] := by rw [at_encBB _ _ (by omega), hget]
    have hfl : (a.take (i + 1)).flatten.length = (a.take i).flatten.length + a[i].length := by
      rw [← List.take_append_getElem hlt, List.flatten_append, List.length_append]; simp only [List.flatten_cons, List.flatten_nil, List.append_nil]
    have htot : (a.take (i + 1)).flatten.length ≤ a.flatten.length := by
      have := congrArg (fun l => (List.flatten l).length) (List.take_append_drop (i + 1) a)
      simp only [List.flatten_append, List.length_append] at this
      omega
    refine kSkip (kSeq (kBlock (kReg ?_)))
    refine kMovC rfl (kMovC rfl (kIadA rfl rfl rfl rfl ?_ ?_))
    · rw [len_encBB, hlen']; omega
    refine kLoadE rfl rfl (v := .c (.sub 0 0 i i 0)) ?_ (kMovC rfl ?_)
    · show pickCells none (AC.ofCells 0 0 i i 0 (((encBB (markss (a.take i) k ++ a.drop i)).row i).drop 0)) = _
      rw [row_encBB _ _ (by omega)]
      rfl
    refine kCallS (ok_laws_markByteS a[i] (k + (a.take i).flatten.length) (by omega) (by omega)) rfl ⟨⟨rfl, rfl, rfl, rfl, rfl, rfl, hat.symm, rfl⟩, rfl, trivial⟩ ?_ rfl ?_
    · simp [encBB, DV.rows, hlen]; omega
    rintro ra os ⟨rfl, ho⟩
    refine ⟨_, rfl, ?_⟩
    refine kMovC rfl (kDone (kBk ?_))
    refine kReg (kMovC rfl (kAdd rfl rfl ?_ (kMovC rfl (kDone (kInv ?_)))))
    · omega
    refine ⟨⟨i + 1, hlt⟩, by simp only; omega, .tab ?_ ⟨.refl _, ?_, .refl _, trivial⟩⟩
    · refine Eq.trans ?_ (upd_upd _ _ _ _).symm
      refine congrArg (upd _ _) ?_
      show _ = Ob.mk _ _ (OK.arr _ ((encBB (markss (a.take i) k ++ a.drop i)).setCell i 0 (os.a 0)))
      rw [ho, setCell_encBB _ _ _ (by omega), take_set_succ _ _ _ _ hlt hlen, ← List.take_append_getElem hlt, markss_append]
    · show WkV (.i (k + ((a.take i).flatten.length : Int) + a[i].length)) (.i (k + ((a.take (i + 1)).flatten.length : Int)))
      rw [hfl, show k + (((a.take i).flatten.length + a[i].length : Nat) : Int) = k + ((a.take i).flatten.length : Int) + a[i].length by omega]
      exact .refl _
  · refine kExit (kExC (kExI (kExB ?_)))
    have hge : i = a.length := by simp at h1; omega
    subst hge
    refine kSeq (kReg (kMovC rfl (kMovC rfl (kDone (kRet ?_)))))
    refine endRet (ra := [.one (.d _)]) rfl ⟨⟨⟨rfl, .inl rfl⟩, trivial⟩, .nil, ⟨rfl, fun _ => rfl, rfl⟩, trivial, trivial⟩ ?_
    refine ⟨by simp, ?_⟩
    show encBB (markss (a.take a.length) k ++ a.drop a.length) = _
    simp

def c_laws_markName : C := (.seq (.reg false (.op 0 [] (some 2) none false (.box 2 (.t 0))
  (.op 1 [] (some 4) none false (.mov (.v (.int .i64 0)))
  .done)))
 (.seq (.reg false (.op 0 [] (some 5) none false (.fad (.t 2) 0)
  (.op 1 [] (some 6) none false (.load none (.t 5))
  (.op 2 [] (some 7) none false (.mov (.t 1))
  (.op 3 [] (some 8) none false (.call 8 55 [(.t 6), (.t 7)])
  (.op 4 [] (some 1) none false (.mov (.t 8))
  .done))))))
 (.seq (.reg false (.op 0 [] (some 9) none false (.mov (.t 1))
  (.op 1 [] (some 4) none false (.mov (.t 9))
  .done)))
 .ret)))
theorem dg_laws_markName : Tryz.f34.body.bind (digC Tryz.prog Tryz.f34.ntmps []) = some c_laws_markName := by kernel_rfl
theorem rs_laws_markName : resSlots Tryz.prog Tryz.f34 = some [.s 4] := by kernel_rfl
theorem ok_laws_markName (a : List (List UInt8)) (k : Int) (h0 : 0 ≤ k) (hk : k + a.flatten.length ≤ 9223372036854775807) (hl : a.length ≤ 4194304) :
    FnOK Tryz.prog 34 [.agg [.arr false true (encBB a)], .one (.d (.sc (.int .i64 k)))] (fun ra os => ra = [.one (.d (.sc (.int .i64 (k + a.flatten.length))))] ∧ os.a 0 = encBB (markss a k)) := by
  refine FnOK.ofK Tryz.func34 (by kernel_rfl) dg_laws_markName rs_laws_markName rfl rfl ?_
  unfold c_laws_markName
  refine kSeq (kReg (kBox rfl rfl rfl rfl rfl (kMovC rfl (kDone (kSeq (kReg (kFadP rfl rfl (kLoadP rfl rfl rfl (kMovC rfl ?_)))))))))
  refine kCall false (ok_laws_markByteSS a k h0 hk hl) ⟨⟨_, rfl, .inl rfl⟩, rfl, trivial⟩ rfl nofun (by rintro ra os ⟨rfl, _⟩; exact Nat.le_of_ble_eq_true rfl) ?_
  rintro ra os ⟨rfl, ho⟩
  refine kMovC rfl (kDone (kSeq (kReg (kMovC rfl (kMovC rfl (kDone ?_))))))
  refine kRet (endRet (ra := [.one (.d _)]) rfl ?_ ⟨rfl, ho⟩)
  (repeat' first | exact trivial | exact rfl | exact .inl rfl | exact nodupB_sound rfl | exact .inl (Nat.zero_lt_succ _) | exact fun _ => rfl | exact Nat.le_of_ble_eq_true rfl | exact ⟨_, rfl, fun _ => rfl⟩ | refine ⟨?_, ?_⟩ | fail)
  rw [show os.a (aid 0 0) = _ from ho]
  rfl

def c_laws_markIntS : C := (.seq (.reg false (.op 0 [] (some 4) none false (.mov (.v (.int .i64 0)))
  .done))
 (.seq (.seq (.reg false (.op 0 [] (some 5) none false (.mov (.v (.int .i64 0)))
  .done))
 (.block 0 (.loop (.seq (.seq (.reg false (.op 0 [] (some 6) none false (.mov (.t 5))
  (.op 1 [] (some 7) none false (.mov (.t 0))
  (.op 2 [] (some 8) none false (.len (.t 7))
  (.op 3 [] (some 9) none false (.bin .lss (.t 6) (.t 8))
  .done)))))
 (.cond (.t 9)
 .skip
 (.exit 0)))
 (.seq (.block 1 (.seq (.reg false (.op 0 [] (some 12) none false (.mov (.t 0))
  (.op 1 [] (some 13) none false (.mov (.t 5))
  (.op 2 [] (some 14) none false (.mov (.t 1))
  (.op 3 [] (some 15) none false (.iad 1 (.t 12) (.t 13))
  (.op 4 [] none none false (.store none (.t 15) (.t 14))
  .done))))))
 (.reg false (.op 0 [] (some 16) none false (.mov (.t 1))
  (.op 1 [] (some 17) none false (.bin .add (.t 16) (.v (.int .i64 1)))
  (.op 2 [] (some 1) none false (.mov (.t 17))
  .done))))))
 (.reg false (.op 0 [] (some 10) none false (.mov (.t 5))
  (.op 1 [] (some 11) none false (.bin .add (.t 10) (.v (.int .i64 1)))
  (.op 2 [] (some 5) none false (.mov (.t 11))
  .done)))))))))
 (.seq (.reg false (.op 0 [] (some 18) none false (.mov (.t 1))
  (.op 1 [] (some 4) none false (.mov (.t 18))
  .done)))
 .ret)))
theorem dg_laws_markIntS : Tryz.f57.body.bind (digC Tryz.prog Tryz.f57.ntmps []) = some c_laws_markIntS := by kernel_rfl
theorem rs_laws_markIntS : resSlots Tryz.prog Tryz.f57 = some [.s 4] := by kernel_rfl
theorem ok_laws_markIntS (a : List Int) (k : Int) (h0 : 0 ≤ k) (hk : k + a.length ≤ 9223372036854775807) :
    FnOK Tryz.prog 57 [.one (.arr false true (encI a)), .one (.d (.sc (.int .i64 k)))] (fun ra os => ra = [.one (.d (.sc (.int .i64 (k + a.length))))] ∧ os.a 0 = encI (marksI a.length k)) := by
  refine FnOK.ofK Tryz.func57 (by kernel_rfl) dg_laws_markIntS rs_laws_markIntS rfl rfl ?_
  unfold c_laws_markIntS
  refine kSeq (kReg (kMovC rfl (kDone (kSeq (kSeq (kReg (kMovC rfl (kDone (kBlock ?_)))))))))
  refine kLoop (α := { i : Nat // i ≤ a.length })
    (fun y => ⟨tabSl [(0, .c (.arr 0 0)), (1, .i (k + (y.1 : Int))), (5, .i y.1)], upd (St.init [.one (.arr false true (encI a)), .one (.d (.sc (.int .i64 k)))]).ob 0 ⟨0, y.1, .arr true (encI (marksI y.1 k ++ a.drop y.1))⟩, []⟩) (fun y => a.length - y.1) ⟨0, by simp⟩
    (.tab (upd_self rfl) ⟨.refl _, by simpa using .refl _, .refl _, trivial⟩) ?_
  rintro ⟨i, hi⟩
  simp only
  have hlen : (marksI i k ++ a.drop i).length = a.length := by simp [marksI_len]; omega
  rcases Nat.lt_or_ge i a.length with hlt | hge
  · refine kSeq (kSeq (kReg (kMovC rfl (kMovC rfl (kLenR rfl rfl (kBin rfl rfl rfl (kDone (kCondP rfl (fun g0 => kSkip (kSeq (kBlock (kSeq (kReg (kMovC rfl (kMovC rfl (kMovC rfl (kIadAR rfl rfl rfl rfl (by omega) (kStoreER rfl rfl rfl rfl rfl rfl rfl (by omega) rfl (kDone (kReg (kMovC rfl (kAdd rfl rfl (by omega) (kMovC rfl (kDone (kBk (kReg (kMovC rfl (kAdd rfl rfl (by omega) (kMovC rfl (kDone ?_)))))))))))))))))))))) (fun g0 => (by omega))))))))))
    refine kInv ⟨⟨i + 1, hlt⟩, by simp only; omega, .tab ?_ ⟨.refl _, ?_, .refl _, trivial⟩⟩
    · show _ = upd (upd _ 0 _) 0 _
      rw [upd_upd]
      refine congrArg (upd _ _) ?_
      rw [marksI_succ]
      exact congrArg (fun z => Ob.mk 0 (i + 1) (OK.arr true (encI z))) (take_set_succ _ _ _ _ hlt (marksI_len i k)).symm
    · show WkV (.i (k + i + 1)) (.i (k + ((i + 1 : Nat) : Int)))
      rw [show k + ((i + 1 : Nat) : Int) = k + i + 1 by omega]
      exact .refl _
  · refine kSeq (kSeq (kReg (kMovC rfl (kMovC rfl (kLenR rfl rfl (kBin rfl rfl rfl (kDone (kCondP rfl (fun g0 => (by omega)) (fun g0 => kExit (kExC (kExI (kExB (kSeq (kReg (kMovC rfl (kMovC rfl (kDone (kRet (endRetA (ra := [.one (.d _)]) rfl ?_)))))))))))))))))))
    obtain rfl : i = a.length := by omega
    refine ⟨rfl, ?_⟩
    show encI (marksI a.length k ++ a.drop a.length) = _
    simp

def c_laws_markRrS : C := (.seq (.reg false (.op 0 [] (some 4) none false (.mov (.v (.int .i64 0)))
  .done))
 (.seq (.seq (.reg false (.op 0 [] (some 5) none false (.mov (.v (.int .i64 0)))
  .done))
 (.block 0 (.loop (.seq (.seq (.reg false (.op 0 [] (some 6) none false (.mov (.t 5))
  (.op 1 [] (some 7) none false (.mov (.t 0))
  (.op 2 [] (some 8) none false (.len (.t 7))
  (.op 3 [] (some 9) none false (.bin .lss (.t 6) (.t 8))
  .done)))))
 (.cond (.t 9)
 .skip
 (.exit 0)))
 (.seq (.block 1 (.seq (.reg false (.op 0 [] (some 12) none false (.mov (.t 0))
  (.op 1 [] (some 13) none false (.mov (.t 5))
  (.op 2 [] (some 14) none false (.iad 7 (.t 12) (.t 13))
  (.op 3 [] (some 15) none false (.fad (.t 14) 0)
  (.op 4 [] (some 16) none false (.fad (.t 15) 0)
  (.op 5 [] (some 17) none false (.load none (.t 16))
  (.op 6 [] (some 18) none false (.mov (.t 1))
  (.op 7 [] (some 19) none false (.call 19 55 [(.t 17), (.t 18)])
  (.op 8 [] (some 1) none false (.mov (.t 19))
  .done))))))))))
 (.seq (.reg false (.op 0 [] (some 20) none false (.mov (.t 0))
  (.op 1 [] (some 21) none false (.mov (.t 5))
  (.op 2 [] (some 22) none false (.mov (.t 1))
  (.op 3 [] (some 23) none false (.iad 7 (.t 20) (.t 21))
  (.op 4 [] (some 24) none false (.fad (.t 23) 1)
  (.op 5 [] none none false (.store none (.t 24) (.t 22))
  .done)))))))
 (.seq (.reg false (.op 0 [] (some 25) none false (.mov (.t 1))
  (.op 1 [] (some 26) none false (.bin .add (.t 25) (.v (.int .i64 1)))
  (.op 2 [] (some 1) none false (.mov (.t 26))
  .done))))
 (.seq (.reg false (.op 0 [] (some 27) none false (.mov (.t 0))
  (.op 1 [] (some 28) none false (.mov (.t 5))
  (.op 2 [] (some 29) none false (.mov (.t 1))
  (.op 3 [] (some 30) none false (.iad 7 (.t 27) (.t 28))
  (.op 4 [] (some 31) none false (.fad (.t 30) 2)
  (.op 5 [] none none false (.store none (.t 31) (.t 29))
  .done)))))))
 (.seq (.reg false (.op 0 [] (some 32) none false (.mov (.t 1))
  (.op 1 [] (some 33) none false (.bin .add (.t 32) (.v (.int .i64 1)))
  (.op 2 [] (some 1) none false (.mov (.t 33))
  .done))))
 (.seq (.reg false (.op 0 [] (some 34) none false (.mov (.t 0))
  (.op 1 [] (some 35) none false (.mov (.t 5))
  (.op 2 [] (some 36) none false (.mov (.t 1))
  (.op 3 [] (some 37) none false (.iad 7 (.t 34) (.t 35))
  (.op 4 [] (some 38) none false (.fad (.t 37) 3)
  (.op 5 [] none none false (.store none (.t 38) (.t 36))
  .done)))))))
 (.seq (.reg false (.op 0 [] (some 39) none false (.mov (.t 1))
  (.op 1 [] (some 40) none false (.bin .add (.t 39) (.v (.int .i64 1)))
  (.op 2 [] (some 1) none false (.mov (.t 40))
  .done))))
 (.seq (.reg false (.op 0 [] (some 41) none false (.mov (.t 0))
  (.op 1 [] (some 42) none false (.mov (.t 5))
  (.op 2 [] (some 43) none false (.iad 7 (.t 41) (.t 42))
  (.op 3 [] (some 44) none false (.fad (.t 43) 4)
  (.op 4 [] (some 45) none false (.fad (.t 44) 0)
  (.op 5 [] (some 46) none false (.load none (.t 45))
  (.op 6 [] (some 47) none false (.mov (.t 1))
  (.op 7 [] (some 48) none false (.call 48 55 [(.t 46), (.t 47)])
  (.op 8 [] (some 1) none false (.mov (.t 48))
  .done))))))))))
 (.seq (.reg false (.op 0 [] (some 49) none false (.mov (.t 0))
  (.op 1 [] (some 50) none false (.mov (.t 5))
  (.op 2 [] (some 51) none false (.iad 7 (.t 49) (.t 50))
  (.op 3 [] (some 52) none false (.fad (.t 51) 5)
  (.op 4 [] (some 53) none false (.load none (.t 52))
  (.op 5 [] (some 54) none false (.mov (.t 1))
  (.op 6 [] (some 55) none false (.call 55 56 [(.t 53), (.t 54)])
  (.op 7 [] (some 1) none false (.mov (.t 55))
  .done)))))))))
 (.reg false (.op 0 [] (some 56) none false (.mov (.t 0))
  (.op 1 [] (some 57) none false (.mov (.t 5))
  (.op 2 [] (some 58) none false (.iad 7 (.t 56) (.t 57))
  (.op 3 [] (some 59) none false (.fad (.t 58) 6)
  (.op 4 [] (some 60) none false (.load none (.t 59))
  (.op 5 [] (some 61) none false (.mov (.t 1))
  (.op 6 [] (some 62) none false (.call 62 57 [(.t 60), (.t 61)])
  (.op 7 [] (some 1) none false (.mov (.t 62))
  .done)))))))))))))))))))
 (.reg false (.op 0 [] (some 10) none false (.mov (.t 5))
  (.op 1 [] (some 11) none false (.bin .add (.t 10) (.v (.int .i64 1)))
  (.op 2 [] (some 5) none false (.mov (.t 11))
  .done)))))))))
 (.seq (.reg false (.op 0 [] (some 63) none false (.mov (.t 1))
  (.op 1 [] (some 4) none false (.mov (.t 63))
  .done)))
 .ret)))
theorem dg_laws_markRrS : Tryz.f17.body.bind (digC Tryz.prog Tryz.f17.ntmps []) = some c_laws_markRrS := by kernel_rfl
theorem rs_laws_markRrS : resSlots Tryz.prog Tryz.f17 = some [.s 4] := by kernel_rfl
theorem ok_laws_markRrS (l : List Rr) (k : Int) (h0 : 0 ≤ k) (hk : k + cntRs l ≤ 9223372036854775807) (hs : SmallRs l) :
    FnOK Tryz.prog 17 [.one (.arr false true (encR l)), .one (.d (.sc (.int .i64 k)))] (fun ra os => ra = [.one (.d (.sc (.int .i64 (k + cntRs l))))] ∧ os.a 0 = encR (markRs l k)) := by
  refine FnOK.ofK Tryz.func17 (by kernel_rfl) dg_laws_markRrS rs_laws_markRrS rfl rfl ?_
  unfold c_laws_markRrS
  have h1 := hs.len
  refine kSeq (kReg (kMovC rfl (kDone (kSeq (kSeq (kReg (kMovC rfl (kDone (kBlock ?_)))))))))
  generalize hF : (St.init [.one (.arr false true (encR l)), .one (.d (.sc (.int .i64 k)))]).ob = F
  refine kLoop (α := { i : Nat // i ≤ l.length })
    (fun y => ⟨tabSl [(0, .c (.arr 0 0)), (1, .i (k + (cntRs (l.take y.1) : Int))), (5, .i y.1)], upd F 0 ⟨0, 7 * y.1, .arr true (encR (markRs (l.take y.1) k ++ l.drop y.1))⟩, []⟩) (fun y => l.length - y.1) ⟨0, by simp⟩
    (.tab (by subst hF; exact upd_self rfl) ⟨.refl _, by simpa using .refl _, .refl _, trivial⟩) ?_
  rintro ⟨i, hi⟩
  simp only
  have hlen : (markRs (l.take i) k).length = i := by rw [markRs_len]; simp; omega
  have hlen' : (markRs (l.take i) k ++ l.drop i).length = l.length := by simp [hlen]; omega
  have hle := cntRs_le l i
  have hle2 := cntRs_le l (i + 1)
  rcases Nat.lt_or_ge i l.length with hlt | hge
  · have hbi := hs.mem _ (List.getElem_mem hlt)
    have hsuc := cntRs_take l i hlt
    have hget : (markRs (l.take i) k ++ l.drop i)[i]'(by omega) = l[i] := by
      rw [List.getElem_append_right (by omega)]; simp [hlen]
    have hset := set_self (markRs (l.take i) k ++ l.drop i) i (by omega)
    rw [hget] at hset
    have hfin : ∀ R : Rr, R = markR l[i] (k + cntRs (l.take i)) → (markRs (l.take i) k ++ l.drop i).set i R = markRs (l.take (i + 1)) k ++ l.drop (i + 1) := by
      rintro R rfl
      rw [take_set_succ _ _ _ _ hlt hlen, ← List.take_append_getElem hlt, markRs_append]
    have hc : cntR l[i] = l[i].name.flatten.length + 3 + l[i].to.flatten.length + l[i].text.length + l[i].nums.length := rfl
    clear hget
    revert hset hfin hlen'
    generalize markRs (l.take i) k ++ l.drop i = L
    generalize hr : l[i] = r at hc hbi hsuc
    generalize hK : k + (cntRs (l.take i) : Int) = K
    intro hlen' hset hfin
    have n1 := hbi.n.len
    have t1 := hbi.t.len
    have x1 := hbi.x
    have m1 := hbi.m
    have hiL : i < L.length := by omega
    have hKn : 0 ≤ K := by omega
    have hKm : K + cntR r ≤ 9223372036854775807 := by omega
    refine kSub (t := ⟨tabSl [(0, .c (.arr 0 0)), (1, .i (K)), (5, .i i)], upd F 0 ⟨0, 7 * i, .arr true (encR (L.set i r))⟩, []⟩) (.tab (by rw [hset]) ⟨.refl _, .refl _, .refl _, trivial⟩) ?_
    refine kSeq (kSeq (kReg (kMovC rfl (kMovC rfl (kLen rfl rfl rfl (kBin rfl rfl rfl (kDone ?_)))))))
    rw [len_encR, List.length_set]
    refine kCond rfl (fun h1 => ?_) (fun h1 => by exfalso; simp at h1; omega)
    refine kSkip (kSeq (kBlock ?_))
    refine kSeq (kReg ?_)
    refine kMovC rfl (kMovC rfl (kIadA rfl rfl rfl rfl ?_ ?_))
    · rw [len_encR, List.length_set]; omega
    refine kFadE rfl rfl (kFadE rfl rfl (?_))
    refine kLoadE rfl rfl (v := .c (.sub 0 0 (7 * i) i 0)) ?_ (kMovC rfl ?_)
    · show pickCells none (AC.ofCells 0 0 (7 * i) i 0 (((encR (L.set i ⟨r.name, r.ty, r.ttl, r.addr, r.to, r.text, r.nums⟩)).row i).drop 0)) = _
      rw [row_encRS _ _ _ hiL]
      rfl
    refine kCallS (ok_laws_markByteSS r.name K (by omega) (by omega) n1) rfl ⟨⟨rfl, rfl, rfl, rfl, rfl, rfl, (at_encRS L i 0 ⟨r.name, r.ty, r.ttl, r.addr, r.to, r.text, r.nums⟩ hiL).symm, rfl⟩, rfl, trivial⟩ ?_ rfl ?_
    · simp [encR, DV.rows]; omega
    rintro ra os ⟨rfl, ho⟩
    refine ⟨_, rfl, ?_⟩
    refine kMovC rfl (kDone ?_)
    refine kSub (t := ⟨tabSl [(0, .c (.arr 0 0)), (1, .i (K + (r.name.flatten.length : Int))), (5, .i i)], upd F 0 ⟨0, (7 * i + 1), .arr true (encR (L.set i ⟨markss r.name (K), r.ty, r.ttl, r.addr, r.to, r.text, r.nums⟩))⟩, []⟩) (.tab ?_ ⟨.refl _, .refl _, .refl _, trivial⟩) ?_
    · refine Eq.trans ?_ (upd_upd _ _ _ _).symm
      refine congrArg (upd _ _) ?_
      show _ = Ob.mk _ _ (OK.arr _ ((encR (L.set i ⟨r.name, r.ty, r.ttl, r.addr, r.to, r.text, r.nums⟩)).setCell i 0 (os.a 0)))
      rw [ho, setCell_encRS L i 0 ⟨r.name, r.ty, r.ttl, r.addr, r.to, r.text, r.nums⟩ ⟨markss r.name (K), r.ty, r.ttl, r.addr, r.to, r.text, r.nums⟩ _ hiL rfl]
      try rfl
    refine kSeq (kReg ?_)
    refine kMovC rfl (kMovC rfl (kMovC rfl (kIadA rfl rfl rfl rfl ?_ (kFadE rfl rfl ?_))))
    · rw [len_encR, List.length_set]; omega
    refine kStoreE1 rfl rfl rfl rfl (by simp [encR, DV.esz]) (kDone ?_)
    refine kSub (t := ⟨tabSl [(0, .c (.arr 0 0)), (1, .i (K + (r.name.flatten.length : Int))), (5, .i i)], upd F 0 ⟨0, (7 * i + 2), .arr true (encR (L.set i ⟨markss r.name (K), (K + (r.name.flatten.length : Int)), r.ttl, r.addr, r.to, r.text, r.nums⟩))⟩, []⟩) (.tab ?_ ⟨.refl _, .refl _, .refl _, trivial⟩) ?_
    · refine Eq.trans ?_ (upd_upd _ _ _ _).symm
      refine congrArg (upd _ _) ?_
      show _ = Ob.mk _ _ (OK.arr _ (setRow (encR (L.set i ⟨markss r.name (K), r.ty, r.ttl, r.addr, r.to, r.text, r.nums⟩)) i 1 _))
      rw [setRow_encRS L i 1 ⟨markss r.name (K), r.ty, r.ttl, r.addr, r.to, r.text, r.nums⟩ ⟨markss r.name (K), (K + (r.name.flatten.length : Int)), r.ttl, r.addr, r.to, r.text, r.nums⟩ _ hiL rfl]
      try rfl
    refine kSeq (kReg (kMovC rfl (kAdd rfl rfl (by omega) (kMovC rfl (kDone ?_)))))
    refine kSeq (kReg ?_)
    refine kMovC rfl (kMovC rfl (kMovC rfl (kIadA rfl rfl rfl rfl ?_ (kFadE rfl rfl ?_))))
    · rw [len_encR, List.length_set]; omega
    refine kStoreE1 rfl rfl rfl rfl (by simp [encR, DV.esz]) (kDone ?_)
    refine kSub (t := ⟨tabSl [(0, .c (.arr 0 0)), (1, .i (K + (r.name.flatten.length : Int) + 1)), (5, .i i)], upd F 0 ⟨0, (7 * i + 3), .arr true (encR (L.set i ⟨markss r.name (K), (K + (r.name.flatten.length : Int)), (K + (r.name.flatten.length : Int) + 1), r.addr, r.to, r.text, r.nums⟩))⟩, []⟩) (.tab ?_ ⟨.refl _, .refl _, .refl _, trivial⟩) ?_
    · refine Eq.trans ?_ (upd_upd _ _ _ _).symm
      refine congrArg (upd _ _) ?_
      show _ = Ob.mk _ _ (OK.arr _ (setRow (encR (L.set i ⟨markss r.name (K), (K + (r.name.flatten.length : Int)), r.ttl, r.addr, r.to, r.text, r.nums⟩)) i 2 _))
      rw [setRow_encRS L i 2 ⟨markss r.name (K), (K + (r.name.flatten.length : Int)), r.ttl, r.addr, r.to, r.text, r.nums⟩ ⟨markss r.name (K), (K + (r.name.flatten.length : Int)), (K + (r.name.flatten.length : Int) + 1), r.addr, r.to, r.text, r.nums⟩ _ hiL rfl]
      try rfl
    refine kSeq (kReg (kMovC rfl (kAdd rfl rfl (by omega) (kMovC rfl (kDone ?_)))))
    refine kSeq (kReg ?_)
    refine kMovC rfl (kMovC rfl (kMovC rfl (kIadA rfl rfl rfl rfl ?_ (kFadE rfl rfl ?_))))
    · rw [len_encR, List.length_set]; omega
    refine kStoreE1 rfl rfl rfl rfl (by simp [encR, DV.esz]) (kDone ?_)
    refine kSub (t := ⟨tabSl [(0, .c (.arr 0 0)), (1, .i (K + (r.name.flatten.length : Int) + 1 + 1)), (5, .i i)], upd F 0 ⟨0, (7 * i + 4), .arr true (encR (L.set i ⟨markss r.name (K), (K + (r.name.flatten.length : Int)), (K + (r.name.flatten.length : Int) + 1), (K + (r.name.flatten.length : Int) + 1 + 1), r.to, r.text, r.nums⟩))⟩, []⟩) (.tab ?_ ⟨.refl _, .refl _, .refl _, trivial⟩) ?_
    · refine Eq.trans ?_ (upd_upd _ _ _ _).symm
      refine congrArg (upd _ _) ?_
      show _ = Ob.mk _ _ (OK.arr _ (setRow (encR (L.set i ⟨markss r.name (K), (K + (r.name.flatten.length : Int)), (K + (r.name.flatten.length : Int) + 1), r.addr, r.to, r.text, r.nums⟩)) i 3 _))
      rw [setRow_encRS L i 3 ⟨markss r.name (K), (K + (r.name.flatten.length : Int)), (K + (r.name.flatten.length : Int) + 1), r.addr, r.to, r.text, r.nums⟩ ⟨markss r.name (K), (K + (r.name.flatten.length : Int)), (K + (r.name.flatten.length : Int) + 1), (K + (r.name.flatten.length : Int) + 1 + 1), r.to, r.text, r.nums⟩ _ hiL rfl]
      try rfl
    refine kSeq (kReg (kMovC rfl (kAdd rfl rfl (by omega) (kMovC rfl (kDone ?_)))))
    refine kSeq (kReg ?_)
    refine kMovC rfl (kMovC rfl (kIadA rfl rfl rfl rfl ?_ ?_))
    · rw [len_encR, List.length_set]; omega
    refine kFadE rfl rfl (kFadE rfl rfl (?_))
    refine kLoadE rfl rfl (v := .c (.sub 0 0 (7 * i + 4) i 4)) ?_ (kMovC rfl ?_)
    · show pickCells none (AC.ofCells 0 0 (7 * i + 4) i 4 (((encR (L.set i ⟨markss r.name (K), (K + (r.name.flatten.length : Int)), (K + (r.name.flatten.length : Int) + 1), (K + (r.name.flatten.length : Int) + 1 + 1), r.to, r.text, r.nums⟩)).row i).drop 4)) = _
      rw [row_encRS _ _ _ hiL]
      rfl
    refine kCallS (ok_laws_markByteSS r.to _ (by omega) (by omega) t1) rfl ⟨⟨rfl, rfl, rfl, rfl, rfl, rfl, (at_encRS L i 4 ⟨markss r.name (K), (K + (r.name.flatten.length : Int)), (K + (r.name.flatten.length : Int) + 1), (K + (r.name.flatten.length : Int) + 1 + 1), r.to, r.text, r.nums⟩ hiL).symm, rfl⟩, rfl, trivial⟩ ?_ rfl ?_
    · simp [encR, DV.rows]; omega
    rintro ra os ⟨rfl, ho⟩
    refine ⟨_, rfl, ?_⟩
    refine kMovC rfl (kDone ?_)
    refine kSub (t := ⟨tabSl [(0, .c (.arr 0 0)), (1, .i (K + (r.name.flatten.length : Int) + 1 + 1 + 1 + (r.to.flatten.length : Int))), (5, .i i)], upd F 0 ⟨0, (7 * i + 5), .arr true (encR (L.set i ⟨markss r.name (K), (K + (r.name.flatten.length : Int)), (K + (r.name.flatten.length : Int) + 1), (K + (r.name.flatten.length : Int) + 1 + 1), markss r.to (K + (r.name.flatten.length : Int) + 1 + 1 + 1), r.text, r.nums⟩))⟩, []⟩) (.tab ?_ ⟨.refl _, .refl _, .refl _, trivial⟩) ?_
    · refine Eq.trans ?_ (upd_upd _ _ _ _).symm
      refine congrArg (upd _ _) ?_
      show _ = Ob.mk _ _ (OK.arr _ ((encR (L.set i ⟨markss r.name (K), (K + (r.name.flatten.length : Int)), (K + (r.name.flatten.length : Int) + 1), (K + (r.name.flatten.length : Int) + 1 + 1), r.to, r.text, r.nums⟩)).setCell i 4 (os.a 0)))
      rw [ho, setCell_encRS L i 4 ⟨markss r.name (K), (K + (r.name.flatten.length : Int)), (K + (r.name.flatten.length : Int) + 1), (K + (r.name.flatten.length : Int) + 1 + 1), r.to, r.text, r.nums⟩ ⟨markss r.name (K), (K + (r.name.flatten.length : Int)), (K + (r.name.flatten.length : Int) + 1), (K + (r.name.flatten.length : Int) + 1 + 1), markss r.to (K + (r.name.flatten.length : Int) + 1 + 1 + 1), r.text, r.nums⟩ _ hiL rfl]
      try rfl
    refine kSeq (kReg ?_)
    refine kMovC rfl (kMovC rfl (kIadA rfl rfl rfl rfl ?_ ?_))
    · rw [len_encR, List.length_set]; omega
    refine kFadE rfl rfl (?_)
    refine kLoadE rfl rfl (v := .c (.sub 0 0 (7 * i + 5) i 5)) ?_ (kMovC rfl ?_)
    · show pickCells none (AC.ofCells 0 0 (7 * i + 5) i 5 (((encR (L.set i ⟨markss r.name (K), (K + (r.name.flatten.length : Int)), (K + (r.name.flatten.length : Int) + 1), (K + (r.name.flatten.length : Int) + 1 + 1), markss r.to (K + (r.name.flatten.length : Int) + 1 + 1 + 1), r.text, r.nums⟩)).row i).drop 5)) = _
      rw [row_encRS _ _ _ hiL]
      rfl
    refine kCallS (ok_laws_markByteS r.text _ (by omega) (by omega)) rfl ⟨⟨rfl, rfl, rfl, rfl, rfl, rfl, (at_encRS L i 5 ⟨markss r.name (K), (K + (r.name.flatten.length : Int)), (K + (r.name.flatten.length : Int) + 1), (K + (r.name.flatten.length : Int) + 1 + 1), markss r.to (K + (r.name.flatten.length : Int) + 1 + 1 + 1), r.text, r.nums⟩ hiL).symm, rfl⟩, rfl, trivial⟩ ?_ rfl ?_
    · simp [encR, DV.rows]; omega
    rintro ra os ⟨rfl, ho⟩
    refine ⟨_, rfl, ?_⟩
    refine kMovC rfl (kDone ?_)
    refine kSub (t := ⟨tabSl [(0, .c (.arr 0 0)), (1, .i (K + (r.name.flatten.length : Int) + 1 + 1 + 1 + (r.to.flatten.length : Int) + (r.text.length : Int))), (5, .i i)], upd F 0 ⟨0, (7 * i + 6), .arr true (encR (L.set i ⟨markss r.name (K), (K + (r.name.flatten.length : Int)), (K + (r.name.flatten.length : Int) + 1), (K + (r.name.flatten.length : Int) + 1 + 1), markss r.to (K + (r.name.flatten.length : Int) + 1 + 1 + 1), marks r.text.length (K + (r.name.flatten.length : Int) + 1 + 1 + 1 + (r.to.flatten.length : Int)), r.nums⟩))⟩, []⟩) (.tab ?_ ⟨.refl _, .refl _, .refl _, trivial⟩) ?_
    · refine Eq.trans ?_ (upd_upd _ _ _ _).symm
      refine congrArg (upd _ _) ?_
      show _ = Ob.mk _ _ (OK.arr _ ((encR (L.set i ⟨markss r.name (K), (K + (r.name.flatten.length : Int)), (K + (r.name.flatten.length : Int) + 1), (K + (r.name.flatten.length : Int) + 1 + 1), markss r.to (K + (r.name.flatten.length : Int) + 1 + 1 + 1), r.text, r.nums⟩)).setCell i 5 (os.a 0)))
      rw [ho, setCell_encRS L i 5 ⟨markss r.name (K), (K + (r.name.flatten.length : Int)), (K + (r.name.flatten.length : Int) + 1), (K + (r.name.flatten.length : Int) + 1 + 1), markss r.to (K + (r.name.flatten.length : Int) + 1 + 1 + 1), r.text, r.nums⟩ ⟨markss r.name (K), (K + (r.name.flatten.length : Int)), (K + (r.name.flatten.length : Int) + 1), (K + (r.name.flatten.length : Int) + 1 + 1), markss r.to (K + (r.name.flatten.length : Int) + 1 + 1 + 1), marks r.text.length (K + (r.name.flatten.length : Int) + 1 + 1 + 1 + (r.to.flatten.length : Int)), r.nums⟩ _ hiL rfl]
      try rfl
    refine kReg ?_
    refine kMovC rfl (kMovC rfl (kIadA rfl rfl rfl rfl ?_ ?_))
    · rw [len_encR, List.length_set]; omega
    refine kFadE rfl rfl (?_)
    refine kLoadE rfl rfl (v := .c (.sub 0 0 (7 * i + 6) i 6)) ?_ (kMovC rfl ?_)
    · show pickCells none (AC.ofCells 0 0 (7 * i + 6) i 6 (((encR (L.set i ⟨markss r.name (K), (K + (r.name.flatten.length : Int)), (K + (r.name.flatten.length : Int) + 1), (K + (r.name.flatten.length : Int) + 1 + 1), markss r.to (K + (r.name.flatten.length : Int) + 1 + 1 + 1), marks r.text.length (K + (r.name.flatten.length : Int) + 1 + 1 + 1 + (r.to.flatten.length : Int)), r.nums⟩)).row i).drop 6)) = _
      rw [row_encRS _ _ _ hiL]
      rfl
    refine kCallS (ok_laws_markIntS r.nums _ (by omega) (by omega)) rfl ⟨⟨rfl, rfl, rfl, rfl, rfl, rfl, (at_encRS L i 6 ⟨markss r.name (K), (K + (r.name.flatten.length : Int)), (K + (r.name.flatten.length : Int) + 1), (K + (r.name.flatten.length : Int) + 1 + 1), markss r.to (K + (r.name.flatten.length : Int) + 1 + 1 + 1), marks r.text.length (K + (r.name.flatten.length : Int) + 1 + 1 + 1 + (r.to.flatten.length : Int)), r.nums⟩ hiL).symm, rfl⟩, rfl, trivial⟩ ?_ rfl ?_
    · simp [encR, DV.rows]; omega
    rintro ra os ⟨rfl, ho⟩
    refine ⟨_, rfl, ?_⟩
    refine kMovC rfl (kDone (kBk ?_))
    refine kSub (t := ⟨tabSl [(0, .c (.arr 0 0)), (1, .i (K + (r.name.flatten.length : Int) + 1 + 1 + 1 + (r.to.flatten.length : Int) + (r.text.length : Int) + (r.nums.length : Int))), (5, .i i)], upd F 0 ⟨0, (7 * i + 7), .arr true (encR (L.set i ⟨markss r.name (K), (K + (r.name.flatten.length : Int)), (K + (r.name.flatten.length : Int) + 1), (K + (r.name.flatten.length : Int) + 1 + 1), markss r.to (K + (r.name.flatten.length : Int) + 1 + 1 + 1), marks r.text.length (K + (r.name.flatten.length : Int) + 1 + 1 + 1 + (r.to.flatten.length : Int)), marksI r.nums.length (K + (r.name.flatten.length : Int) + 1 + 1 + 1 + (r.to.flatten.length : Int) + (r.text.length : Int))⟩))⟩, []⟩) (.tab ?_ ⟨.refl _, .refl _, .refl _, trivial⟩) ?_
    · refine Eq.trans ?_ (upd_upd _ _ _ _).symm
      refine congrArg (upd _ _) ?_
      show _ = Ob.mk _ _ (OK.arr _ ((encR (L.set i ⟨markss r.name (K), (K + (r.name.flatten.length : Int)), (K + (r.name.flatten.length : Int) + 1), (K + (r.name.flatten.length : Int) + 1 + 1), markss r.to (K + (r.name.flatten.length : Int) + 1 + 1 + 1), marks r.text.length (K + (r.name.flatten.length : Int) + 1 + 1 + 1 + (r.to.flatten.length : Int)), r.nums⟩)).setCell i 6 (os.a 0)))
      rw [ho, setCell_encRS L i 6 ⟨markss r.name (K), (K + (r.name.flatten.length : Int)), (K + (r.name.flatten.length : Int) + 1), (K + (r.name.flatten.length : Int) + 1 + 1), markss r.to (K + (r.name.flatten.length : Int) + 1 + 1 + 1), marks r.text.length (K + (r.name.flatten.length : Int) + 1 + 1 + 1 + (r.to.flatten.length : Int)), r.nums⟩ ⟨markss r.name (K), (K + (r.name.flatten.length : Int)), (K + (r.name.flatten.length : Int) + 1), (K + (r.name.flatten.length : Int) + 1 + 1), markss r.to (K + (r.name.flatten.length : Int) + 1 + 1 + 1), marks r.text.length (K + (r.name.flatten.length : Int) + 1 + 1 + 1 + (r.to.flatten.length : Int)), marksI r.nums.length (K + (r.name.flatten.length : Int) + 1 + 1 + 1 + (r.to.flatten.length : Int) + (r.text.length : Int))⟩ _ hiL rfl]
      try rfl
    rw [hfin _ (by rw [← hr, ← hK]; rfl)]
    refine kReg (kMovC rfl (kAdd rfl rfl (by omega) (kMovC rfl (kDone (kInv ?_)))))
    refine ⟨⟨i + 1, hlt⟩, by simp only; omega, .tab rfl ⟨.refl _, ?_, .refl _, trivial⟩⟩
    refine Eq.mp (congrArg (fun z => WkV _ (.i z)) ?_) (.refl _)
    show _ = k + ((cntRs (l.take (i + 1)) : Nat) : Int)
    omega
  · refine kSeq (kSeq (kReg (kMovC rfl (kMovC rfl (kLen rfl rfl rfl (kBin rfl rfl rfl (kDone ?_)))))))
    rw [len_encR, hlen']
    refine kCond rfl (fun h1 => by exfalso; simp at h1; omega) (fun h1 => ?_)
    refine kExit (kExC (kExI (kExB ?_)))
    obtain rfl : i = l.length := by omega
    refine kSeq (kReg (kMovC rfl (kMovC rfl (kDone (kRet ?_)))))
    subst hF
    refine endRet (ra := [.one (.d _)]) rfl ⟨⟨⟨rfl, .inl rfl⟩, trivial⟩, .nil, ⟨rfl, fun _ => rfl, rfl⟩, trivial, trivial⟩ ?_
    refine ⟨by simp, ?_⟩
    show encR (markRs (l.take l.length) k ++ l.drop l.length) = _
    simp


def c_laws_markZone : C := (.seq (.reg false (.op 0 [] (some 2) none false (.box 2 (.t 0))
  (.op 1 [] (some 4) none false (.mov (.v (.int .i64 0)))
  .done)))
 (.seq (.reg false (.op 0 [] (some 5) none false (.fad (.t 2) 0)
  (.op 1 [] (some 6) none false (.load (some 1) (.t 5))
  (.op 2 [] (some 7) none false (.mov (.t 1))
  (.op 3 [] (some 8) none false (.call 8 34 [(.t 6), (.t 7)])
  (.op 4 [] (some 1) none false (.mov (.t 8))
  .done))))))
 (.seq (.reg false (.op 0 [] (some 9) none false (.fad (.t 2) 1)
  (.op 1 [] (some 10) none false (.load none (.t 9))
  (.op 2 [] (some 11) none false (.mov (.t 1))
  (.op 3 [] (some 12) none false (.call 12 17 [(.t 10), (.t 11)])
  (.op 4 [] (some 1) none false (.mov (.t 12))
  .done))))))
 (.seq (.reg false (.op 0 [] (some 13) none false (.mov (.t 1))
  (.op 1 [] (some 4) none false (.mov (.t 13))
  .done)))
 .ret))))
theorem dg_laws_markZone : Tryz.f16.body.bind (digC Tryz.prog Tryz.f16.ntmps []) = some c_laws_markZone := by kernel_rfl
theorem rs_laws_markZone : resSlots Tryz.prog Tryz.f16 = some [.s 4] := by kernel_rfl
theorem ok_laws_markZone (z : Zone) (k : Int) (h0 : 0 ≤ k) (hk : k + cntZ z ≤ 9223372036854775807) (hs : SmallZ z) :
    FnOK Tryz.prog 16 [.agg [.arr false true (encBB z.origin), .arr false true (encR z.rrs)], .one (.d (.sc (.int .i64 k)))] (fun ra os => ra = [.one (.d (.sc (.int .i64 (k + cntZ z))))] ∧ outsAre [(0, encBB (markZ z k).origin), (1, encR (markZ z k).rrs)] os) := by
  refine FnOK.ofK Tryz.func16 (by kernel_rfl) dg_laws_markZone rs_laws_markZone rfl rfl ?_
  unfold c_laws_markZone
  have o1 := hs.o.len
  have o2 := hs.o.mem
  have h1 := hs.r
  have hc : k + (cntZ z : Int) = k + (z.origin.flatten.length : Int) + (cntRs z.rrs : Int) := by unfold cntZ cntBB; omega
  refine kSeq (kReg (kBox rfl rfl rfl rfl rfl (kMovC rfl (kDone (kSeq (kReg (kFadP rfl rfl (kLoadP rfl rfl rfl (kMovC rfl (kCallA (ok_laws_markName _ _ (by first | assumption | omega | solve_by_elim [List.getElem_mem] | (simp only [szOut] at *; omega)) (by first | assumption | omega | solve_by_elim [List.getElem_mem] | (simp only [szOut] at *; omega)) (by first | assumption | omega | solve_by_elim [List.getElem_mem] | (simp only [szOut] at *; omega))) ⟨⟨⟨⟨_, rfl, .inl rfl⟩, trivial⟩, Nat.le_of_ble_eq_true rfl⟩, rfl, trivial⟩ rfl rfl rfl rfl (kMovC rfl (kDone (kSeq (kReg (kFadP rfl rfl (kLoadP rfl rfl rfl (kMem [(1, ⟨0, 0, .arr true _⟩)] [(1, .c (.d _)), (10, .c (.arr 1 0)), (11, .c (.un)), (12, .c (.un))] [] ⟨rfl, trivial⟩ ⟨rfl, rfl, rfl, rfl, trivial⟩ rfl (kMovC rfl (kCallA (ok_laws_markRrS _ _ (by first | assumption | omega | solve_by_elim [List.getElem_mem] | (simp only [szOut] at *; omega)) (by first | assumption | omega | solve_by_elim [List.getElem_mem] | (simp only [szOut] at *; omega)) (by first | assumption | omega | solve_by_elim [List.getElem_mem] | (simp only [szOut] at *; omega))) ⟨⟨_, rfl, .inl rfl⟩, rfl, trivial⟩ rfl rfl rfl rfl (kMovC rfl (kDone (kSeq (kReg (kMovC rfl (kMovC rfl (kDone (kRet (endRetA (ra := [.one (.d _)]) rfl ?_))))))))))))))))))))))))))))
  refine ⟨?_, rfl, rfl, trivial⟩
  rw [hc]

def c_laws_heldByteS : C := (.seq (.reg false (.op 0 [] (some 4) none false (.mov (.v (.int .i64 0)))
  .done))
 (.seq (.seq (.reg false (.op 0 [] (some 5) none false (.mov (.v (.int .i64 0)))
  .done))
 (.block 0 (.loop (.seq (.seq (.reg false (.op 0 [] (some 6) none false (.mov (.t 5))
  (.op 1 [] (some 7) none false (.mov (.t 0))
  (.op 2 [] (some 8) none false (.len (.t 7))
  (.op 3 [] (some 9) none false (.bin .lss (.t 6) (.t 8))
  .done)))))
 (.cond (.t 9)
 .skip
 (.exit 0)))
 (.seq (.block 1 (.seq (.seq (.reg false (.op 0 [] (some 12) none false (.mov (.t 0))
  (.op 1 [] (some 13) none false (.mov (.t 5))
  (.op 2 [] (some 14) none false (.iad 1 (.t 12) (.t 13))
  (.op 3 [] (some 15) none false (.load none (.t 14))
  (.op 4 [] (some 16) none false (.mov (.t 1))
  (.op 5 [] (some 17) none false (.conv .u8 (.t 16))
  (.op 6 [] (some 18) none false (.bin .neq (.t 15) (.t 17))
  .done))))))))
 (.cond (.t 18)
 (.seq (.reg false (.op 0 [] (some 4) none false (.mov (.v (.int .i64 (-1))))
  .done))
 .ret)
 .skip))
 (.reg false (.op 0 [] (some 19) none false (.mov (.t 1))
  (.op 1 [] (some 20) none false (.bin .add (.t 19) (.v (.int .i64 1)))
  (.op 2 [] (some 1) none false (.mov (.t 20))
  .done))))))
 (.reg false (.op 0 [] (some 10) none false (.mov (.t 5))
  (.op 1 [] (some 11) none false (.bin .add (.t 10) (.v (.int .i64 1)))
  (.op 2 [] (some 5) none false (.mov (.t 11))
  .done)))))))))
 (.seq (.reg false (.op 0 [] (some 21) none false (.mov (.t 1))
  (.op 1 [] (some 4) none false (.mov (.t 21))
  .done)))
 .ret)))
theorem dg_laws_heldByteS : Tryz.f59.body.bind (digC Tryz.prog Tryz.f59.ntmps []) = some c_laws_heldByteS := by kernel_rfl
theorem rs_laws_heldByteS : resSlots Tryz.prog Tryz.f59 = some [.s 4] := by kernel_rfl
theorem ok_laws_heldByteS (n : Nat) (k : Int) (h0 : 0 ≤ k) (hk : k + n ≤ 9223372036854775807) :
    FnOK Tryz.prog 59 [.one (.d (encB (marks n k))), .one (.d (.sc (.int .i64 k)))] (fun ra _ => ra = [.one (.d (.sc (.int .i64 (k + n))))]) := by
  refine FnOK.ofK Tryz.func59 (by kernel_rfl) dg_laws_heldByteS rs_laws_heldByteS rfl rfl ?_
  unfold c_laws_heldByteS
  have hm := marks_len n k
  refine kSeq (kReg (kMovC rfl (kDone (kSeq (kSeq (kReg (kMovC rfl (kDone (kBlock ?_)))))))))
  refine kLoop (α := { i : Nat // i ≤ n })
    (fun y => ⟨tabSl [(0, .dv (encB (marks n k))), (1, .i (k + y.1)), (5, .i y.1)], obTab 1 [], []⟩) (fun y => n - y.1) ⟨0, by simp⟩
    .normA ?_
  rintro ⟨i, hi⟩
  simp only
  refine kSeq (kSeq (kReg (kMovC rfl (kMovC rfl (kLenR rfl rfl (kBin rfl rfl rfl (kDone (kCondP rfl (fun g0 => kSkip (kSeq (kBlock (kSeq (kSeq (kReg (kMovC rfl (kMovC rfl (kIadR rfl rfl rfl (by omega) (kLoadD rfl rfl (kMovC rfl (kConv rfl (kBin rfl rfl rfl (kDone (kCondN rfl (fun g1 => kSeq (kReg (kMovC rfl (kDone (kRet (endRetA (ra := [.one (.d _)]) rfl ?_)))))) (fun g1 => kSkip (kReg (kMovC rfl (kAdd rfl rfl (by omega) (kMovC rfl (kDone (kBk (kReg (kMovC rfl (kAdd rfl rfl (by omega) (kMovC rfl (kDone ?_))))))))))))))))))))))))))) (fun g0 => kExit (kExC (kExI (kExB (kSeq (kReg (kMovC rfl (kMovC rfl (kDone (kRet (endRetA (ra := [.one (.d _)]) rfl ?_)))))))))))))))))))
  · rw [marks_get, beq_self_eq_true] at g1; cases g1
  · exact kInv ⟨⟨i + 1, by omega⟩, by simp only; omega, .normA⟩
  · rw [show i = n by omega]

def c_laws_heldByteSS : C := (.seq (.reg false (.op 0 [] (some 4) none false (.mov (.v (.int .i64 0)))
  .done))
 (.seq (.seq (.reg false (.op 0 [] (some 5) none false (.mov (.v (.int .i64 0)))
  .done))
 (.block 0 (.loop (.seq (.seq (.reg false (.op 0 [] (some 6) none false (.mov (.t 5))
  (.op 1 [] (some 7) none false (.mov (.t 0))
  (.op 2 [] (some 8) none false (.len (.t 7))
  (.op 3 [] (some 9) none false (.bin .lss (.t 6) (.t 8))
  .done)))))
 (.cond (.t 9)
 .skip
 (.exit 0)))
 (.seq (.block 1 (.seq (.reg false (.op 0 [] (some 12) none false (.mov (.t 0))
  (.op 1 [] (some 13) none false (.mov (.t 5))
  (.op 2 [] (some 14) none false (.iad 1 (.t 12) (.t 13))
  (.op 3 [] (some 15) none false (.load none (.t 14))
  (.op 4 [] (some 16) none false (.mov (.t 1))
  (.op 5 [] (some 17) none false (.call 17 59 [(.t 15), (.t 16)])
  (.op 6 [] (some 1) none false (.mov (.t 17))
  .done))))))))
 (.seq (.reg false (.op 0 [] (some 18) none false (.mov (.t 1))
  (.op 1 [] (some 19) none false (.bin .lss (.t 18) (.v (.int .i64 0)))
  .done)))
 (.cond (.t 19)
 (.seq (.reg false (.op 0 [] (some 4) none false (.mov (.v (.int .i64 (-1))))
  .done))
 .ret)
 .skip))))
 (.reg false (.op 0 [] (some 10) none false (.mov (.t 5))
  (.op 1 [] (some 11) none false (.bin .add (.t 10) (.v (.int .i64 1)))
  (.op 2 [] (some 5) none false (.mov (.t 11))
  .done)))))))))
 (.seq (.reg false (.op 0 [] (some 20) none false (.mov (.t 1))
  (.op 1 [] (some 4) none false (.mov (.t 20))
  .done)))
 .ret)))
theorem dg_laws_heldByteSS : Tryz.f58.body.bind (digC Tryz.prog Tryz.f58.ntmps []) = some c_laws_heldByteSS := by kernel_rfl
theorem rs_laws_heldByteSS : resSlots Tryz.prog Tryz.f58 = some [.s 4] := by kernel_rfl
theorem ok_laws_heldByteSS (a : List (List UInt8)) (k : Int) (h0 : 0 ≤ k) (hk : k + a.flatten.length ≤ 9223372036854775807) (hl : a.length ≤ 4194304) :
    FnOK Tryz.prog 58 [.one (.d (encBB (markss a k))), .one (.d (.sc (.int .i64 k)))] (fun ra _ => ra = [.one (.d (.sc (.int .i64 (k + a.flatten.length))))]) := by
  refine FnOK.ofK Tryz.func58 (by kernel_rfl) dg_laws_heldByteSS rs_laws_heldByteSS rfl rfl ?_
  unfold c_laws_heldByteSS
  have hm := markss_len a k
  refine kSeq (kReg (kMovC rfl (kDone (kSeq (kSeq (kReg (kMovC rfl (kDone (kBlock ?_)))))))))
  refine kLoop (α := { i : Nat // i ≤ a.length })
    (fun y => ⟨tabSl [(0, .dv (encBB (markss a k))), (1, .i (k + (a.take y.1).flatten.length)), (5, .i y.1)], obTab 1 [], []⟩) (fun y => a.length - y.1) ⟨0, by simp⟩
    .normA ?_
  rintro ⟨i, hi⟩
  simp only
  have hsuc : ∀ h : i < a.length, (a.take (i + 1)).flatten.length = (a.take i).flatten.length + a[i].length := take_flat a i
  have hle := flat_le a i
  have hle2 := flat_le a (i + 1)
  refine kSeq (kSeq (kReg (kMovC rfl (kMovC rfl (kLenR rfl rfl (kBin rfl rfl rfl (kDone (kCondP rfl (fun g0 => kSkip (kSeq (kBlock (kSeq (kReg (kMovC rfl (kMovC rfl (kIadR rfl rfl rfl (by omega) (kLoadD rfl rfl (kMovC rfl ?_)))))))))) (fun g0 => kExit (kExC (kExI (kExB (kSeq (kReg (kMovC rfl (kMovC rfl (kDone (kRet (endRetA (ra := [.one (.d _)]) rfl ?_)))))))))))))))))))
  · have hlt : i < a.length := by omega
    have := hsuc hlt
    rw [markss_get a k i (by omega) hlt]
    refine kCall1 true (ok_laws_heldByteS a[i].length (k + (a.take i).flatten.length) (by omega) (by omega)) ⟨rfl, rfl, trivial⟩ rfl rfl rfl (fun _ => ?_)
    refine kMovC rfl (kDone (kSeq (kReg (kMovC rfl (kBin rfl rfl rfl (kDone (kCondP rfl (fun g0 => kSeq (kReg (kMovC rfl (kDone (kRet (endRetA (ra := [.one (.d _)]) rfl ?_)))))) (fun g0 => kSkip (kBk (kReg (kMovC rfl (kAdd rfl rfl (by omega) (kMovC rfl (kDone ?_))))))))))))))
    · omega
    · exact kInv ⟨⟨i + 1, by omega⟩, by simp only; omega, .normA⟩
  · rw [show i = a.length by omega, List.take_length]

def c_laws_heldName : C := (.seq (.reg false (.op 0 [] (some 2) none false (.box 2 (.t 0))
  (.op 1 [] (some 4) none false (.mov (.v (.int .i64 0)))
  .done)))
 (.seq (.reg false (.op 0 [] (some 5) none false (.fad (.t 2) 0)
  (.op 1 [] (some 6) none false (.load none (.t 5))
  (.op 2 [] (some 7) none false (.mov (.t 1))
  (.op 3 [] (some 8) none false (.call 8 58 [(.t 6), (.t 7)])
  (.op 4 [] (some 1) none false (.mov (.t 8))
  .done))))))
 (.seq (.seq (.reg false (.op 0 [] (some 9) none false (.mov (.t 1))
  (.op 1 [] (some 10) none false (.bin .lss (.t 9) (.v (.int .i64 0)))
  .done)))
 (.cond (.t 10)
 (.seq (.reg false (.op 0 [] (some 4) none false (.mov (.v (.int .i64 (-1))))
  .done))
 .ret)
 .skip))
 (.seq (.reg false (.op 0 [] (some 11) none false (.mov (.t 1))
  (.op 1 [] (some 4) none false (.mov (.t 11))
  .done)))
 .ret))))
theorem dg_laws_heldName : Tryz.f63.body.bind (digC Tryz.prog Tryz.f63.ntmps []) = some c_laws_heldName := by kernel_rfl
theorem rs_laws_heldName : resSlots Tryz.prog Tryz.f63 = some [.s 4] := by kernel_rfl
theorem ok_laws_heldName (a : List (List UInt8)) (k : Int) (h0 : 0 ≤ k) (hk : k + a.flatten.length ≤ 9223372036854775807) (hl : a.length ≤ 4194304) :
    FnOK Tryz.prog 63 [.agg [.d (encBB (markss a k))], .one (.d (.sc (.int .i64 k)))] (fun ra _ => ra = [.one (.d (.sc (.int .i64 (k + a.flatten.length))))]) := by
  refine FnOK.ofK Tryz.func63 (by kernel_rfl) dg_laws_heldName rs_laws_heldName rfl rfl ?_
  unfold c_laws_heldName
  refine kSeq (kReg (kBox rfl rfl rfl rfl rfl (kMovC rfl (kDone (kSeq (kReg (kFadP rfl rfl (kLoadP rfl rfl rfl (kMovC rfl (kCall1 true (ok_laws_heldByteSS _ _ (by first | assumption | omega | solve_by_elim [List.getElem_mem]) (by first | assumption | omega | solve_by_elim [List.getElem_mem]) (by first | assumption | omega | solve_by_elim [List.getElem_mem])) ⟨rfl, rfl, trivial⟩ rfl rfl rfl (fun _ => (kMovC rfl (kDone (kSeq (kSeq (kReg (kMovC rfl (kBin rfl rfl rfl (kDone (kCondP rfl (fun g0 => (by omega)) (fun g0 => kSkip (kSeq (kReg (kMovC rfl (kMovC rfl (kDone (kRet (endRetA (ra := [.one (.d _)]) rfl rfl))))))))))))))))))))))))))))

def c_laws_heldIntS : C := (.seq (.reg false (.op 0 [] (some 4) none false (.mov (.v (.int .i64 0)))
  .done))
 (.seq (.seq (.reg false (.op 0 [] (some 5) none false (.mov (.v (.int .i64 0)))
  .done))
 (.block 0 (.loop (.seq (.seq (.reg false (.op 0 [] (some 6) none false (.mov (.t 5))
  (.op 1 [] (some 7) none false (.mov (.t 0))
  (.op 2 [] (some 8) none false (.len (.t 7))
  (.op 3 [] (some 9) none false (.bin .lss (.t 6) (.t 8))
  .done)))))
 (.cond (.t 9)
 .skip
 (.exit 0)))
 (.seq (.block 1 (.seq (.seq (.reg false (.op 0 [] (some 12) none false (.mov (.t 0))
  (.op 1 [] (some 13) none false (.mov (.t 5))
  (.op 2 [] (some 14) none false (.iad 1 (.t 12) (.t 13))
  (.op 3 [] (some 15) none false (.load none (.t 14))
  (.op 4 [] (some 16) none false (.mov (.t 1))
  (.op 5 [] (some 17) none false (.bin .neq (.t 15) (.t 16))
  .done)))))))
 (.cond (.t 17)
 (.seq (.reg false (.op 0 [] (some 4) none false (.mov (.v (.int .i64 (-1))))
  .done))
 .ret)
 .skip))
 (.reg false (.op 0 [] (some 18) none false (.mov (.t 1))
  (.op 1 [] (some 19) none false (.bin .add (.t 18) (.v (.int .i64 1)))
  (.op 2 [] (some 1) none false (.mov (.t 19))
  .done))))))
 (.reg false (.op 0 [] (some 10) none false (.mov (.t 5))
  (.op 1 [] (some 11) none false (.bin .add (.t 10) (.v (.int .i64 1)))
  (.op 2 [] (some 5) none false (.mov (.t 11))
  .done)))))))))
 (.seq (.reg false (.op 0 [] (some 20) none false (.mov (.t 1))
  (.op 1 [] (some 4) none false (.mov (.t 20))
  .done)))
 .ret)))
theorem dg_laws_heldIntS : Tryz.f60.body.bind (digC Tryz.prog Tryz.f60.ntmps []) = some c_laws_heldIntS := by kernel_rfl
theorem rs_laws_heldIntS : resSlots Tryz.prog Tryz.f60 = some [.s 4] := by kernel_rfl
theorem ok_laws_heldIntS (n : Nat) (k : Int) (h0 : 0 ≤ k) (hk : k + n ≤ 9223372036854775807) :
    FnOK Tryz.prog 60 [.one (.d (encI (marksI n k))), .one (.d (.sc (.int .i64 k)))] (fun ra _ => ra = [.one (.d (.sc (.int .i64 (k + n))))]) := by
  refine FnOK.ofK Tryz.func60 (by kernel_rfl) dg_laws_heldIntS rs_laws_heldIntS rfl rfl ?_
  unfold c_laws_heldIntS
  have hm := marksI_len n k
  refine kSeq (kReg (kMovC rfl (kDone (kSeq (kSeq (kReg (kMovC rfl (kDone (kBlock ?_)))))))))
  refine kLoop (α := { i : Nat // i ≤ n })
    (fun y => ⟨tabSl [(0, .dv (encI (marksI n k))), (1, .i (k + y.1)), (5, .i y.1)], obTab 1 [], []⟩) (fun y => n - y.1) ⟨0, by simp⟩
    .normA ?_
  rintro ⟨i, hi⟩
  simp only
  rcases Nat.lt_or_ge i n with hlt | hge
  · have hg := marksI_get n k i (by omega)
    refine kSeq (kSeq (kReg (kMovC rfl (kMovC rfl (kLenR rfl rfl (kBin rfl rfl rfl (kDone (kCondP rfl (fun g0 => kSkip (kSeq (kBlock (kSeq (kSeq (kReg (kMovC rfl (kMovC rfl (kIadR rfl rfl rfl (by omega) (kLoadD rfl rfl (kMovC rfl (kBin rfl rfl rfl (kDone (kCondIN rfl (fun g1 => (by omega)) (fun g1 => kSkip (kReg (kMovC rfl (kAdd rfl rfl (by omega) (kMovC rfl (kDone (kBk (kReg (kMovC rfl (kAdd rfl rfl (by omega) (kMovC rfl (kDone ?_)))))))))))))))))))))))))) (fun g0 => (by omega))))))))))
    exact kInv ⟨⟨i + 1, by omega⟩, by simp only; omega, .normA⟩
  · refine kSeq (kSeq (kReg (kMovC rfl (kMovC rfl (kLenR rfl rfl (kBin rfl rfl rfl (kDone (kCondP rfl (fun g0 => (by omega)) (fun g0 => kExit (kExC (kExI (kExB (kSeq (kReg (kMovC rfl (kMovC rfl (kDone (kRet (endRetA (ra := [.one (.d _)]) rfl ?_)))))))))))))))))))
    rw [show i = n by omega]

def c_laws_heldRrS : C := (.seq (.reg false (.op 0 [] (some 4) none false (.mov (.v (.int .i64 0)))
  .done))
 (.seq (.seq (.reg false (.op 0 [] (some 5) none false (.mov (.v (.int .i64 0)))
  .done))
 (.block 0 (.loop (.seq (.seq (.reg false (.op 0 [] (some 6) none false (.mov (.t 5))
  (.op 1 [] (some 7) none false (.mov (.t 0))
  (.op 2 [] (some 8) none false (.len (.t 7))
  (.op 3 [] (some 9) none false (.bin .lss (.t 6) (.t 8))
  .done)))))
 (.cond (.t 9)
 .skip
 (.exit 0)))
 (.seq (.block 1 (.seq (.reg false (.op 0 [] (some 12) none false (.mov (.t 0))
  (.op 1 [] (some 13) none false (.mov (.t 5))
  (.op 2 [] (some 14) none false (.iad 7 (.t 12) (.t 13))
  (.op 3 [] (some 15) none false (.fad (.t 14) 0)
  (.op 4 [] (some 16) none false (.fad (.t 15) 0)
  (.op 5 [] (some 17) none false (.load none (.t 16))
  (.op 6 [] (some 18) none false (.mov (.t 1))
  (.op 7 [] (some 19) none false (.call 19 58 [(.t 17), (.t 18)])
  (.op 8 [] (some 1) none false (.mov (.t 19))
  .done))))))))))
 (.seq (.seq (.reg false (.op 0 [] (some 20) none false (.mov (.t 1))
  (.op 1 [] (some 21) none false (.bin .lss (.t 20) (.v (.int .i64 0)))
  .done)))
 (.cond (.t 21)
 (.seq (.reg false (.op 0 [] (some 4) none false (.mov (.v (.int .i64 (-1))))
  .done))
 .ret)
 .skip))
 (.seq (.seq (.reg false (.op 0 [] (some 22) none false (.mov (.t 0))
  (.op 1 [] (some 23) none false (.mov (.t 5))
  (.op 2 [] (some 24) none false (.iad 7 (.t 22) (.t 23))
  (.op 3 [] (some 25) none false (.fad (.t 24) 1)
  (.op 4 [] (some 26) none false (.load none (.t 25))
  (.op 5 [] (some 27) none false (.mov (.t 1))
  (.op 6 [] (some 28) none false (.bin .neq (.t 26) (.t 27))
  .done))))))))
 (.cond (.t 28)
 (.seq (.reg false (.op 0 [] (some 4) none false (.mov (.v (.int .i64 (-1))))
  .done))
 .ret)
 .skip))
 (.seq (.reg false (.op 0 [] (some 29) none false (.mov (.t 1))
  (.op 1 [] (some 30) none false (.bin .add (.t 29) (.v (.int .i64 1)))
  (.op 2 [] (some 1) none false (.mov (.t 30))
  .done))))
 (.seq (.seq (.reg false (.op 0 [] (some 31) none false (.mov (.t 0))
  (.op 1 [] (some 32) none false (.mov (.t 5))
  (.op 2 [] (some 33) none false (.iad 7 (.t 31) (.t 32))
  (.op 3 [] (some 34) none false (.fad (.t 33) 2)
  (.op 4 [] (some 35) none false (.load none (.t 34))
  (.op 5 [] (some 36) none false (.mov (.t 1))
  (.op 6 [] (some 37) none false (.bin .neq (.t 35) (.t 36))
  .done))))))))
 (.cond (.t 37)
 (.seq (.reg false (.op 0 [] (some 4) none false (.mov (.v (.int .i64 (-1))))
  .done))
 .ret)
 .skip))
 (.seq (.reg false (.op 0 [] (some 38) none false (.mov (.t 1))
  (.op 1 [] (some 39) none false (.bin .add (.t 38) (.v (.int .i64 1)))
  (.op 2 [] (some 1) none false (.mov (.t 39))
  .done))))
 (.seq (.seq (.reg false (.op 0 [] (some 40) none false (.mov (.t 0))
  (.op 1 [] (some 41) none false (.mov (.t 5))
  (.op 2 [] (some 42) none false (.iad 7 (.t 40) (.t 41))
  (.op 3 [] (some 43) none false (.fad (.t 42) 3)
  (.op 4 [] (some 44) none false (.load none (.t 43))
  (.op 5 [] (some 45) none false (.mov (.t 1))
  (.op 6 [] (some 46) none false (.bin .neq (.t 44) (.t 45))
  .done))))))))
 (.cond (.t 46)
 (.seq (.reg false (.op 0 [] (some 4) none false (.mov (.v (.int .i64 (-1))))
  .done))
 .ret)
 .skip))
 (.seq (.reg false (.op 0 [] (some 47) none false (.mov (.t 1))
  (.op 1 [] (some 48) none false (.bin .add (.t 47) (.v (.int .i64 1)))
  (.op 2 [] (some 1) none false (.mov (.t 48))
  .done))))
 (.seq (.reg false (.op 0 [] (some 49) none false (.mov (.t 0))
  (.op 1 [] (some 50) none false (.mov (.t 5))
  (.op 2 [] (some 51) none false (.iad 7 (.t 49) (.t 50))
  (.op 3 [] (some 52) none false (.fad (.t 51) 4)
  (.op 4 [] (some 53) none false (.fad (.t 52) 0)
  (.op 5 [] (some 54) none false (.load none (.t 53))
  (.op 6 [] (some 55) none false (.mov (.t 1))
  (.op 7 [] (some 56) none false (.call 56 58 [(.t 54), (.t 55)])
  (.op 8 [] (some 1) none false (.mov (.t 56))
  .done))))))))))
 (.seq (.seq (.reg false (.op 0 [] (some 57) none false (.mov (.t 1))
  (.op 1 [] (some 58) none false (.bin .lss (.t 57) (.v (.int .i64 0)))
  .done)))
 (.cond (.t 58)
 (.seq (.reg false (.op 0 [] (some 4) none false (.mov (.v (.int .i64 (-1))))
  .done))
 .ret)
 .skip))
 (.seq (.reg false (.op 0 [] (some 59) none false (.mov (.t 0))
  (.op 1 [] (some 60) none false (.mov (.t 5))
  (.op 2 [] (some 61) none false (.iad 7 (.t 59) (.t 60))
  (.op 3 [] (some 62) none false (.fad (.t 61) 5)
  (.op 4 [] (some 63) none false (.load none (.t 62))
  (.op 5 [] (some 64) none false (.mov (.t 1))
  (.op 6 [] (some 65) none false (.call 65 59 [(.t 63), (.t 64)])
  (.op 7 [] (some 1) none false (.mov (.t 65))
  .done)))))))))
 (.seq (.seq (.reg false (.op 0 [] (some 66) none false (.mov (.t 1))
  (.op 1 [] (some 67) none false (.bin .lss (.t 66) (.v (.int .i64 0)))
  .done)))
 (.cond (.t 67)
 (.seq (.reg false (.op 0 [] (some 4) none false (.mov (.v (.int .i64 (-1))))
  .done))
 .ret)
 .skip))
 (.seq (.reg false (.op 0 [] (some 68) none false (.mov (.t 0))
  (.op 1 [] (some 69) none false (.mov (.t 5))
  (.op 2 [] (some 70) none false (.iad 7 (.t 68) (.t 69))
  (.op 3 [] (some 71) none false (.fad (.t 70) 6)
  (.op 4 [] (some 72) none false (.load none (.t 71))
  (.op 5 [] (some 73) none false (.mov (.t 1))
  (.op 6 [] (some 74) none false (.call 74 60 [(.t 72), (.t 73)])
  (.op 7 [] (some 1) none false (.mov (.t 74))
  .done)))))))))
 (.seq (.reg false (.op 0 [] (some 75) none false (.mov (.t 1))
  (.op 1 [] (some 76) none false (.bin .lss (.t 75) (.v (.int .i64 0)))
  .done)))
 (.cond (.t 76)
 (.seq (.reg false (.op 0 [] (some 4) none false (.mov (.v (.int .i64 (-1))))
  .done))
 .ret)
 .skip))))))))))))))))
 (.reg false (.op 0 [] (some 10) none false (.mov (.t 5))
  (.op 1 [] (some 11) none false (.bin .add (.t 10) (.v (.int .i64 1)))
  (.op 2 [] (some 5) none false (.mov (.t 11))
  .done)))))))))
 (.seq (.reg false (.op 0 [] (some 77) none false (.mov (.t 1))
  (.op 1 [] (some 4) none false (.mov (.t 77))
  .done)))
 .ret)))
theorem dg_laws_heldRrS : Tryz.f18.body.bind (digC Tryz.prog Tryz.f18.ntmps []) = some c_laws_heldRrS := by kernel_rfl
theorem rs_laws_heldRrS : resSlots Tryz.prog Tryz.f18 = some [.s 4] := by kernel_rfl
theorem ok_laws_heldRrS (l : List Rr) (k : Int) (h0 : 0 ≤ k) (hk : k + cntRs l ≤ 9223372036854775807) (hs : SmallRs l) :
    FnOK Tryz.prog 18 [.one (.d (encR (markRs l k))), .one (.d (.sc (.int .i64 k)))] (fun ra _ => ra = [.one (.d (.sc (.int .i64 (k + cntRs l))))]) := by
  refine FnOK.ofK Tryz.func18 (by kernel_rfl) dg_laws_heldRrS rs_laws_heldRrS rfl rfl ?_
  unfold c_laws_heldRrS
  have hm := markRs_len l k
  have h1 := hs.len
  refine kSeq (kReg (kMovC rfl (kDone (kSeq (kSeq (kReg (kMovC rfl (kDone (kBlock ?_)))))))))
  refine kLoop (α := { i : Nat // i ≤ l.length }) (fun y => ⟨tabSl [(0, .dv (encR (markRs l k))), (1, .i (k + cntRs (l.take y.1))), (5, .i y.1)], obTab 1 [], []⟩) (fun y => l.length - y.1) ⟨0, by simp⟩ .normA ?_
  rintro ⟨i, hi⟩
  simp only
  have hle := cntRs_le l i
  have hle2 := cntRs_le l (i + 1)
  rcases Nat.lt_or_ge i l.length with hlt | hge
  · have hbi := hs.mem _ (List.getElem_mem hlt)
    have n1 := hbi.n.len
    have t1 := hbi.t.len
    have hsuc := cntRs_take l i hlt
    have hrow := markRs_get l k i (by omega) hlt
    have hc : cntR l[i] = cntBB l[i].name + 3 + cntBB l[i].to + l[i].text.length + l[i].nums.length := rfl
    have hcb : cntBB l[i].name = l[i].name.flatten.length := rfl
    have hct : cntBB l[i].to = l[i].to.flatten.length := rfl
    have e1 : (markR l[i] (k + ↑(cntRs (List.take i l)))).ty = k + (cntRs (l.take i) : Int) + (l[i].name.flatten.length : Int) := rfl
    have e2 : (markR l[i] (k + ↑(cntRs (List.take i l)))).ttl = k + (cntRs (l.take i) : Int) + (l[i].name.flatten.length : Int) + 1 := rfl
    have e3 : (markR l[i] (k + ↑(cntRs (List.take i l)))).addr = k + (cntRs (l.take i) : Int) + (l[i].name.flatten.length : Int) + 1 + 1 := rfl
    refine kSeq (kSeq (kReg (kMovC rfl (kMovC rfl (kLenR rfl rfl (kBin rfl rfl rfl (kDone (kCondP rfl (fun g0 => kSkip (kSeq (kBlock (kSeq (kReg (kMovC rfl (kMovC rfl (kIadRW rfl rfl rfl (by omega) hrow (kFadD rfl (kFadD rfl (kLoadD rfl rfl (kMovC rfl (kCallD (ok_laws_heldByteSS _ _ (by first | assumption | omega | solve_by_elim [List.getElem_mem] | (simp only [szOut] at *; omega)) (by first | assumption | omega | solve_by_elim [List.getElem_mem] | (simp only [szOut] at *; omega)) (by first | assumption | omega | solve_by_elim [List.getElem_mem] | (simp only [szOut] at *; omega))) ⟨rfl, rfl, trivial⟩ rfl rfl rfl rfl rfl (kMovC rfl (kDone (kSeq (kSeq (kReg (kMovC rfl (kBin rfl rfl rfl (kDone (kCondP rfl (fun g1 => (by omega)) (fun g1 => kSkip (kSeq (kSeq (kReg (kMovC rfl (kMovC rfl (kIadRW rfl rfl rfl (by omega) hrow (kFadD rfl (kLoadD rfl rfl (kMovC rfl (kBin rfl rfl rfl (kDone (kCondIN rfl (fun g2 => (by omega)) (fun g2 => kSkip (kSeq (kReg (kMovC rfl (kAdd rfl rfl (by omega) (kMovC rfl (kDone (kSeq (kSeq (kReg (kMovC rfl (kMovC rfl (kIadRW rfl rfl rfl (by omega) hrow (kFadD rfl (kLoadD rfl rfl (kMovC rfl (kBin rfl rfl rfl (kDone (kCondIN rfl (fun g3 => (by omega)) (fun g3 => kSkip (kSeq (kReg (kMovC rfl (kAdd rfl rfl (by omega) (kMovC rfl (kDone (kSeq (kSeq (kReg (kMovC rfl (kMovC rfl (kIadRW rfl rfl rfl (by omega) hrow (kFadD rfl (kLoadD rfl rfl (kMovC rfl (kBin rfl rfl rfl (kDone (kCondIN rfl (fun g4 => (by omega)) (fun g4 => kSkip (kSeq (kReg (kMovC rfl (kAdd rfl rfl (by omega) (kMovC rfl (kDone (kSeq (kReg (kMovC rfl (kMovC rfl (kIadRW rfl rfl rfl (by omega) hrow (kFadD rfl (kFadD rfl (kLoadD rfl rfl (kMovC rfl (kCallD (ok_laws_heldByteSS _ _ (by first | assumption | omega | solve_by_elim [List.getElem_mem] | (simp only [szOut] at *; omega)) (by first | assumption | omega | solve_by_elim [List.getElem_mem] | (simp only [szOut] at *; omega)) (by first | assumption | omega | solve_by_elim [List.getElem_mem] | (simp only [szOut] at *; omega))) ⟨rfl, rfl, trivial⟩ rfl rfl rfl rfl rfl (kMovC rfl (kDone (kSeq (kSeq (kReg (kMovC rfl (kBin rfl rfl rfl (kDone (kCondP rfl (fun g5 => (by omega)) (fun g5 => kSkip (kSeq (kReg (kMovC rfl (kMovC rfl (kIadRW rfl rfl rfl (by omega) hrow (kFadD rfl (kLoadD rfl rfl (kMovC rfl (kCallD (ok_laws_heldByteS _ _ (by first | assumption | omega | solve_by_elim [List.getElem_mem] | (simp only [szOut] at *; omega)) (by first | assumption | omega | solve_by_elim [List.getElem_mem] | (simp only [szOut] at *; omega))) ⟨rfl, rfl, trivial⟩ rfl rfl rfl rfl rfl (kMovC rfl (kDone (kSeq (kSeq (kReg (kMovC rfl (kBin rfl rfl rfl (kDone (kCondP rfl (fun g6 => (by omega)) (fun g6 => kSkip (kSeq (kReg (kMovC rfl (kMovC rfl (kIadRW rfl rfl rfl (by omega) hrow (kFadD rfl (kLoadD rfl rfl (kMovC rfl (kCallD (ok_laws_heldIntS _ _ (by first | assumption | omega | solve_by_elim [List.getElem_mem] | (simp only [szOut] at *; omega)) (by first | assumption | omega | solve_by_elim [List.getElem_mem] | (simp only [szOut] at *; omega))) ⟨rfl, rfl, trivial⟩ rfl rfl rfl rfl rfl (kMovC rfl (kDone (kSeq (kReg (kMovC rfl (kBin rfl rfl rfl (kDone (kCondP rfl (fun g7 => (by omega)) (fun g7 => kSkip (kBk (kReg (kMovC rfl (kAdd rfl rfl (by omega) (kMovC rfl (kDone ?_))))))))))))))))))))))))))))))))))))))))))))))))))))))))))))))))))))))))))))))))))))))))))))))))))))))))))))))))))))))))))))))))))))))))))))))) (fun g0 => (by omega))))))))))
    exact kInv ⟨⟨i + 1, by omega⟩, by simp only; omega, .normA⟩
  · refine kSeq (kSeq (kReg (kMovC rfl (kMovC rfl (kLenR rfl rfl (kBin rfl rfl rfl (kDone (kCondP rfl (fun g0 => (by omega)) (fun g0 => kExit (kExC (kExI (kExB (kSeq (kReg (kMovC rfl (kMovC rfl (kDone (kRet (endRetA (ra := [.one (.d _)]) rfl ?_)))))))))))))))))))
    rw [show i = l.length by omega, List.take_length]

theorem ok_laws_heldRrS_nil (k : Int) (h0 : 0 ≤ k) (hk : k ≤ 9223372036854775807) :
    FnOK Tryz.prog 18 [.one (.d (encR [])), .one (.d (.sc (.int .i64 k)))] (fun ra _ => ra = [.one (.d (.sc (.int .i64 k)))]) := by
  have := ok_laws_heldRrS [] k h0 (by simpa using hk) ⟨Nat.zero_le _, nofun⟩
  rw [show k + ((cntRs [] : Nat) : Int) = k by simp] at this
  exact this

def c_laws_heldZone : C := (.seq (.reg false (.op 0 [] (some 2) none false (.box 2 (.t 0))
  (.op 1 [] (some 4) none false (.mov (.v (.int .i64 0)))
  .done)))
 (.seq (.reg false (.op 0 [] (some 5) none false (.fad (.t 2) 0)
  (.op 1 [] (some 6) none false (.load (some 1) (.t 5))
  (.op 2 [] (some 7) none false (.mov (.t 1))
  (.op 3 [] (some 8) none false (.call 8 63 [(.t 6), (.t 7)])
  (.op 4 [] (some 1) none false (.mov (.t 8))
  .done))))))
 (.seq (.seq (.reg false (.op 0 [] (some 9) none false (.mov (.t 1))
  (.op 1 [] (some 10) none false (.bin .lss (.t 9) (.v (.int .i64 0)))
  .done)))
 (.cond (.t 10)
 (.seq (.reg false (.op 0 [] (some 4) none false (.mov (.v (.int .i64 (-1))))
  .done))
 .ret)
 .skip))
 (.seq (.reg false (.op 0 [] (some 11) none false (.fad (.t 2) 1)
  (.op 1 [] (some 12) none false (.load none (.t 11))
  (.op 2 [] (some 13) none false (.mov (.t 1))
  (.op 3 [] (some 14) none false (.call 14 18 [(.t 12), (.t 13)])
  (.op 4 [] (some 1) none false (.mov (.t 14))
  .done))))))
 (.seq (.seq (.reg false (.op 0 [] (some 15) none false (.mov (.t 1))
  (.op 1 [] (some 16) none false (.bin .lss (.t 15) (.v (.int .i64 0)))
  .done)))
 (.cond (.t 16)
 (.seq (.reg false (.op 0 [] (some 4) none false (.mov (.v (.int .i64 (-1))))
  .done))
 .ret)
 .skip))
 (.seq (.reg false (.op 0 [] (some 17) none false (.mov (.t 1))
  (.op 1 [] (some 4) none false (.mov (.t 17))
  .done)))
 .ret))))))
theorem dg_laws_heldZone : Tryz.f21.body.bind (digC Tryz.prog Tryz.f21.ntmps []) = some c_laws_heldZone := by kernel_rfl
theorem rs_laws_heldZone : resSlots Tryz.prog Tryz.f21 = some [.s 4] := by kernel_rfl
theorem ok_laws_heldZone (z : Zone) (k : Int) (h0 : 0 ≤ k) (hk : k + cntZ z ≤ 9223372036854775807) (hs : SmallZ z) :
    FnOK Tryz.prog 21 [.agg ((markZ z k).cells.map .d), .one (.d (.sc (.int .i64 k)))] (fun ra _ => ra = [.one (.d (.sc (.int .i64 (k + cntZ z))))]) := by
  refine FnOK.ofK Tryz.func21 (by kernel_rfl) dg_laws_heldZone rs_laws_heldZone rfl rfl ?_
  unfold c_laws_heldZone
  have o1 := hs.o.len
  have o2 := hs.o.mem
  have h1 := hs.r
  have hc : k + (cntZ z : Int) = k + (z.origin.flatten.length : Int) + (cntRs z.rrs : Int) := by unfold cntZ cntBB; omega
  refine kSeq (kReg (kBox rfl rfl rfl rfl rfl (kMovC rfl (kDone (kSeq (kReg (kFadP rfl rfl (kLoadP rfl rfl rfl (kMovC rfl (kCallD (ok_laws_heldName _ _ (by first | assumption | omega | solve_by_elim [List.getElem_mem] | (simp only [szOut] at *; omega)) (by first | assumption | omega | solve_by_elim [List.getElem_mem] | (simp only [szOut] at *; omega)) (by first | assumption | omega | solve_by_elim [List.getElem_mem] | (simp only [szOut] at *; omega))) ⟨⟨⟨rfl, trivial⟩, Nat.le_of_ble_eq_true rfl⟩, rfl, trivial⟩ rfl rfl rfl rfl rfl (kMovC rfl (kDone (kSeq (kSeq (kReg (kMovC rfl (kBin rfl rfl rfl (kDone (kCondP rfl (fun g0 => (by omega)) (fun g0 => kSkip (kSeq (kReg (kFadP rfl rfl (kMem [(12288, ⟨1, 0, .box [.d _, .d _]⟩)] [(11, .c (.ptr 12288 1 1)), (1, .c (.d _)), (12, .c (.un)), (13, .c (.un)), (14, .c (.un))] [] ⟨rfl, trivial⟩ ⟨rfl, rfl, rfl, rfl, rfl, trivial⟩ rfl (kLoadP rfl rfl rfl (kMovC rfl (kCallD (ok_laws_heldRrS _ _ (by first | assumption | omega | solve_by_elim [List.getElem_mem] | (simp only [szOut] at *; omega)) (by first | assumption | omega | solve_by_elim [List.getElem_mem] | (simp only [szOut] at *; omega)) (by first | assumption | omega | solve_by_elim [List.getElem_mem] | (simp only [szOut] at *; omega))) ⟨rfl, rfl, trivial⟩ rfl rfl rfl rfl rfl (kMovC rfl (kDone (kSeq (kSeq (kReg (kMovC rfl (kBin rfl rfl rfl (kDone (kCondP rfl (fun g1 => (by omega)) (fun g1 => kSkip (kSeq (kReg (kMovC rfl (kMovC rfl (kDone (kRet (endRetA (ra := [.one (.d _)]) rfl ?_))))))))))))))))))))))))))))))))))))))))))))
  rw [hc]

def c_laws_FnExactBump : C := (.seq (.reg false (.op 0 [] (some 1) none false (.box 1 (.t 0))
  (.op 1 [] (some 2) none false (.mov (.v (.bool false)))
  .done)))
 (.seq (.reg false (.op 0 [] (some 3) none false (.mov (.v (.int .i64 1048576)))
  .done))
 (.seq (.reg false (.op 0 [] (some 14) none false (.load (some 2) (.t 1))
  (.op 1 [] (some 15) none false (.mov (.t 3))
  (.op 2 [] (some 16) none false (.call 16 10 [(.t 14), (.t 15)])
  (.op 3 [] (some 3) none false (.mov (.t 16))
  .done)))))
 (.seq (.seq (.reg false (.op 0 [] (some 17) none false (.mov (.t 3))
  (.op 1 [] (some 18) none false (.bin .lss (.t 17) (.v (.int .i64 0)))
  .done)))
 (.cond (.t 18)
 (.seq (.reg false (.op 0 [] (some 2) none false (.mov (.v (.bool true)))
  .done))
 .ret)
 .skip))
 (.seq (.reg false (.op 0 [] (some 20) none false (.load (some 2) (.t 1))
  (.op 1 [] (some 21) none false (.call 21 12 [(.t 20)])
  (.op 2 [] (some 22) none false (.call 22 19 [(.t 21)])
  (.op 3 [] (some 19) none false (.mov (.t 22))
  (.op 4 [] (some 23) none false (.ext (.t 19) 0)
  (.op 5 [] (some 24) none false (.ext (.t 19) 1)
  (.op 6 [] (some 4) none false (.alloc 4 [(.n 1), (.n 7)])
  (.op 7 [] none none false (.store (some 2) (.t 4) (.t 23))
  (.op 8 [] (some 5) none false (.mov (.t 24))
  .done))))))))))
 (.seq (.reg false (.op 0 [] (some 25) none false (.load (some 2) (.t 1))
  (.op 1 [] (some 26) none false (.call 26 12 [(.t 25)])
  (.op 2 [] (some 6) none false (.alloc 6 [(.n 1), (.n 7)])
  (.op 3 [] none none false (.store (some 2) (.t 6) (.t 26))
  .done)))))
 (.seq (.reg false (.op 0 [] (some 28) none false (.load (some 2) (.t 6))
  (.op 1 [] (some 29) none false (.call 29 20 [(.t 28)])
  (.op 2 [] (some 27) none false (.mov (.t 29))
  (.op 3 [] (some 30) none false (.ext (.t 27) 0)
  (.op 4 [] (some 31) none false (.ext (.t 27) 1)
  (.op 5 [] (some 7) none false (.alloc 7 [(.n 1), (.n 7)])
  (.op 6 [] none none false (.store (some 2) (.t 7) (.t 30))
  (.op 7 [] (some 8) none false (.mov (.t 31))
  .done)))))))))
 (.seq (.seq (.reg false (.op 0 [] (some 32) none false (.load (some 2) (.t 7))
  (.op 1 [] (some 33) none false (.load (some 2) (.t 4))
  (.op 2 [] (some 34) none false (.call 34 15 [(.t 32), (.t 33)])
  (.op 3 [] (some 35) none false (.un .not (.t 34))
  (.op 4 [] (some 36) none false (.mov (.t 35))
  (.op 5 [] (some 37) (some (36, false)) false (.mov (.t 8))
  (.op 6 [] (some 38) (some (36, false)) false (.mov (.t 5))
  (.op 7 [] (some 39) (some (36, false)) false (.beq true (.t 37) (.t 38))
  (.op 8 [] (some 40) none false (.pick (.t 36) (.v (.bool true)) (.t 39))
  .done))))))))))
 (.cond (.t 40)
 (.seq (.reg false (.op 0 [] (some 2) none false (.mov (.v (.bool false)))
  .done))
 .ret)
 .skip))
 (.seq (.seq (.reg true (.op 0 [] (some 41) none true (.load (some 2) (.t 6))
  (.op 1 [] (some 42) none true (.load (some 2) (.t 1))
  (.op 2 [1] (some 43) none false (.call 43 12 [(.t 42)])
  (.op 3 [0, 1] (some 44) none false (.call 44 15 [(.t 41), (.t 43)])
  (.op 4 [] (some 45) none true (.un .not (.t 44))
  .done))))))
 (.cond (.t 45)
 (.seq (.reg false (.op 0 [] (some 2) none false (.mov (.v (.bool false)))
  .done))
 .ret)
 .skip))
 (.seq (.reg false (.op 0 [] (some 9) none false (.mov (.v (.int .i64 1)))
  .done))
 (.seq (.reg false (.op 0 [] (some 46) none false (.load (some 2) (.t 6))
  (.op 1 [] (some 47) none false (.mov (.t 9))
  (.op 2 [] (some 48) none false (.call 48 16 [(.t 46), (.t 47)])
  (.op 3 [] (some 9) none false (.mov (.t 48))
  .done)))))
 (.seq (.seq (.reg false (.op 0 [] (some 49) none false (.mov (.t 9))
  (.op 1 [] (some 50) none false (.bin .lss (.t 49) (.v (.int .i64 0)))
  (.op 2 [] (some 51) none false (.mov (.t 50))
  (.op 3 [] (some 52) (some (51, false)) false (.load (some 2) (.t 7))
  (.op 4 [] (some 53) (some (51, false)) false (.load (some 2) (.t 4))
  (.op 5 [] (some 54) (some (51, false)) false (.call 54 15 [(.t 52), (.t 53)])
  (.op 6 [] (some 55) (some (51, false)) false (.un .not (.t 54))
  (.op 7 [] (some 56) none false (.pick (.t 51) (.v (.bool true)) (.t 55))
  (.op 8 [] (some 57) none false (.mov (.t 56))
  (.op 9 [] (some 58) (some (57, false)) false (.mov (.t 8))
  (.op 10 [] (some 59) (some (57, false)) false (.mov (.t 5))
  (.op 11 [] (some 60) (some (57, false)) false (.beq true (.t 58) (.t 59))
  (.op 12 [] (some 61) none false (.pick (.t 57) (.v (.bool true)) (.t 60))
  .done))))))))))))))
 (.cond (.t 61)
 (.seq (.reg false (.op 0 [] (some 2) none false (.mov (.v (.bool false)))
  .done))
 .ret)
 .skip))
 (.seq (.reg false (.op 0 [] (some 10) none false (.mov (.v (.int .i64 1)))
  .done))
 (.seq (.reg false (.op 0 [] (some 62) none false (.load (some 2) (.t 7))
  (.op 1 [] (some 63) none false (.mov (.t 10))
  (.op 2 [] (some 64) none false (.call 64 16 [(.t 62), (.t 63)])
  (.op 3 [] (some 10) none false (.mov (.t 64))
  .done)))))
 (.seq (.reg false (.op 0 [] (some 11) none false (.mov (.v (.int .i64 1)))
  .done))
 (.seq (.reg false (.op 0 [] (some 65) none false (.load (some 2) (.t 7))
  (.op 1 [] (some 66) none false (.mov (.t 11))
  (.op 2 [] (some 67) none false (.call 67 21 [(.t 65), (.t 66)])
  (.op 3 [] (some 11) none false (.mov (.t 67))
  .done)))))
 (.seq (.seq (.reg false (.op 0 [] (some 68) none false (.mov (.t 11))
  (.op 1 [] (some 69) none false (.bin .lss (.t 68) (.v (.int .i64 0)))
  .done)))
 (.cond (.t 69)
 (.seq (.reg false (.op 0 [] (some 2) none false (.mov (.v (.bool false)))
  .done))
 .ret)
 .skip))
 (.seq (.seq (.reg false (.op 0 [] (some 70) none false (.mov (.t 11))
  (.op 1 [] (some 71) none false (.mov (.t 10))
  (.op 2 [] (some 72) none false (.bin .neq (.t 70) (.t 71))
  .done))))
 (.cond (.t 72)
 (.seq (.reg false (.op 0 [] (some 2) none false (.mov (.v (.bool false)))
  .done))
 .ret)
 .skip))
 (.seq (.reg false (.op 0 [] (some 74) none false (.load (some 2) (.t 1))
  (.op 1 [] (some 75) none false (.call 75 12 [(.t 74)])
  (.op 2 [] (some 76) none false (.call 76 20 [(.t 75)])
  (.op 3 [] (some 73) none false (.mov (.t 76))
  (.op 4 [] (some 77) none false (.ext (.t 73) 0)
  (.op 5 [] (some 78) none false (.ext (.t 73) 1)
  (.op 6 [] (some 12) none false (.alloc 12 [(.n 1), (.n 7)])
  (.op 7 [] none none false (.store (some 2) (.t 12) (.t 77))
  (.op 8 [] (some 13) none false (.mov (.t 78))
  .done))))))))))
 (.seq (.seq (.reg false (.op 0 [] (some 79) none false (.load (some 2) (.t 12))
  (.op 1 [] (some 80) none false (.load (some 2) (.t 4))
  (.op 2 [] (some 81) none false (.call 81 15 [(.t 79), (.t 80)])
  (.op 3 [] (some 82) none false (.un .not (.t 81))
  (.op 4 [] (some 83) none false (.mov (.t 82))
  (.op 5 [] (some 84) (some (83, false)) false (.mov (.t 13))
  (.op 6 [] (some 85) (some (83, false)) false (.mov (.t 5))
  (.op 7 [] (some 86) (some (83, false)) false (.beq true (.t 84) (.t 85))
  (.op 8 [] (some 87) none false (.pick (.t 83) (.v (.bool true)) (.t 86))
  .done))))))))))
 (.cond (.t 87)
 (.seq (.reg false (.op 0 [] (some 2) none false (.mov (.v (.bool false)))
  .done))
 .ret)
 .skip))
 (.seq (.reg false (.op 0 [] (some 11) none false (.mov (.v (.int .i64 1)))
  .done))
 (.seq (.reg false (.op 0 [] (some 88) none false (.load (some 2) (.t 7))
  (.op 1 [] (some 89) none false (.mov (.t 11))
  (.op 2 [] (some 90) none false (.call 90 21 [(.t 88), (.t 89)])
  (.op 3 [] (some 11) none false (.mov (.t 90))
  .done)))))
 (.seq (.seq (.reg false (.op 0 [] (some 91) none false (.mov (.t 11))
  (.op 1 [] (some 92) none false (.bin .lss (.t 91) (.v (.int .i64 0)))
  .done)))
 (.cond (.t 92)
 (.seq (.reg false (.op 0 [] (some 2) none false (.mov (.v (.bool false)))
  .done))
 .ret)
 .skip))
 (.seq (.seq (.reg false (.op 0 [] (some 93) none false (.mov (.t 11))
  (.op 1 [] (some 94) none false (.mov (.t 10))
  (.op 2 [] (some 95) none false (.bin .neq (.t 93) (.t 94))
  .done))))
 (.cond (.t 95)
 (.seq (.reg false (.op 0 [] (some 2) none false (.mov (.v (.bool false)))
  .done))
 .ret)
 .skip))
 (.seq (.reg false (.op 0 [] (some 2) none false (.mov (.v (.bool true)))
  .done))
 .ret)))))))))))))))))))))))))
theorem dg_laws_FnExactBump : Tryz.f4.body.bind (digC Tryz.prog Tryz.f4.ntmps []) = some c_laws_FnExactBump := by kernel_rfl
theorem rs_laws_FnExactBump : resSlots Tryz.prog Tryz.f4 = some [.s 2] := by kernel_rfl
theorem ok_laws_FnExactBump (z : Zone) (hz : BigZ z) :
    FnOK Tryz.prog 4 [.agg (z.cells.map .d)] (fun ra _ => ra = [.one (.d (.sc (.bool true)))]) := by
  refine FnOK.ofK Tryz.func4 (by kernel_rfl) dg_laws_FnExactBump rs_laws_FnExactBump rfl rfl ?_
  unfold c_laws_FnExactBump
  refine kSeq (kReg (kBox rfl rfl rfl rfl rfl (kMovC rfl (kDone (kSeq (kReg (kMovC rfl (kDone (kSeq (kReg (kLoadP rfl rfl rfl (kMovC rfl (kCallD (ok_laws_szZone _ _ (by first | assumption | omega | solve_by_elim [List.getElem_mem] | (simp only [szOut] at *; omega)) (by first | assumption | omega | solve_by_elim [List.getElem_mem] | (simp only [szOut] at *; omega)) (by first | assumption | omega | solve_by_elim [List.getElem_mem] | (simp only [szOut] at *; omega))) ⟨⟨⟨rfl, rfl, trivial⟩, Nat.le_of_ble_eq_true rfl⟩, rfl, trivial⟩ rfl rfl rfl rfl rfl (kMovC rfl (kDone (kSeq (kSeq (kReg (kMovC rfl (kBin rfl rfl rfl (kDone (kCondP rfl (fun g0 => kSeq (kReg (kMovC rfl (kDone (kRet (endRetA (ra := [.one (.d _)]) rfl rfl)))))) (fun g0 => kSkip (kSeq (kReg (kLoadP rfl rfl rfl ?_))))))))))))))))))))))))))
  have c1 := szOut_ok g0
  have hs : SmallZ z := .ofCost (by omega)
  have hd := hs.bump
  have k1 := cntZ_le z
  have k2 := cntZ_bump z
  refine kCall1 true (ok_laws_toZone _ (by first | assumption | omega | solve_by_elim [List.getElem_mem] | (simp only [szOut] at *; omega))) ⟨⟨⟨rfl, rfl, trivial⟩, Nat.le_of_ble_eq_true rfl⟩, trivial⟩ rfl rfl rfl (fun _ => (kMem [(90112, ⟨1, 0, .arr true _⟩), (90113, ⟨1, 0, .arr true _⟩)] [(21, .g [.arr 90112 1, .arr 90113 1]), (22, .c (.un)), (19, .c (.un)), (4, .c (.un)), (23, .c (.un)), (24, .c (.un))] [] ⟨rfl, rfl, trivial⟩ ⟨rfl, rfl, rfl, rfl, rfl, rfl, trivial⟩ rfl (kCall1 true (ok_spec_Bump _ (by first | assumption | omega | solve_by_elim [List.getElem_mem] | (simp only [szOut] at *; omega))) ⟨⟨⟨rfl, rfl, trivial⟩, Nat.le_of_ble_eq_true rfl⟩, trivial⟩ rfl rfl rfl (fun _ => (kMovT rfl (kExtC rfl rfl (kExtC rfl rfl (kAlloc rfl rfl (kMem [(20480, ⟨1, 0, .box [.nil 1, .nil 7]⟩), (94208, ⟨1, 0, .arr true _⟩), (94209, ⟨1, 0, .arr true _⟩)] [(4, .c (.ptr 20480 1 0)), (23, .g [.arr 94208 1, .arr 94209 1]), (24, .c (.d _))] [] ⟨rfl, rfl, rfl, trivial⟩ ⟨rfl, rfl, rfl, trivial⟩ rfl (kStoreP rfl rfl rfl rfl (kMovC rfl (kDone (kSeq (kReg (kLoadP rfl rfl rfl (kCall1 true (ok_laws_toZone _ (by first | assumption | omega | solve_by_elim [List.getElem_mem] | (simp only [szOut] at *; omega))) ⟨⟨⟨rfl, rfl, trivial⟩, Nat.le_of_ble_eq_true rfl⟩, trivial⟩ rfl rfl rfl (fun _ => (kAlloc rfl rfl (kMem [(28672, ⟨1, 0, .box [.nil 1, .nil 7]⟩), (110592, ⟨1, 0, .arr true _⟩), (110593, ⟨1, 0, .arr true _⟩)] [(6, .c (.ptr 28672 1 0)), (26, .g [.arr 110592 1, .arr 110593 1])] [] ⟨rfl, rfl, rfl, trivial⟩ ⟨rfl, rfl, trivial⟩ rfl (kStoreP rfl rfl rfl rfl (kDone (kSeq (kReg (kLoadP rfl rfl rfl (kCall1 true (ok_impl_Bump _ (by first | assumption | omega | solve_by_elim [List.getElem_mem] | (simp only [szOut] at *; omega))) ⟨⟨⟨rfl, rfl, trivial⟩, Nat.le_of_ble_eq_true rfl⟩, trivial⟩ rfl rfl rfl (fun _ => (kMovT rfl (kExtC rfl rfl (kExtC rfl rfl (kAlloc rfl rfl (kMem [(32768, ⟨1, 0, .box [.nil 1, .nil 7]⟩), (122880, ⟨1, 0, .arr true _⟩), (122881, ⟨1, 0, .arr true _⟩)] [(7, .c (.ptr 32768 1 0)), (30, .g [.arr 122880 1, .arr 122881 1]), (31, .c (.d _))] [] ⟨rfl, rfl, rfl, trivial⟩ ⟨rfl, rfl, rfl, trivial⟩ rfl (kStoreP rfl rfl rfl rfl (kMovC rfl (kDone (kSeq (kSeq (kReg (kLoadP rfl rfl rfl (kLoadP rfl rfl rfl (kCallD (ok_laws_eqZone _ _ (by first | assumption | omega | solve_by_elim [List.getElem_mem] | (simp only [szOut] at *; omega))) ⟨⟨⟨rfl, rfl, trivial⟩, Nat.le_of_ble_eq_true rfl⟩, ⟨⟨rfl, rfl, trivial⟩, Nat.le_of_ble_eq_true rfl⟩, trivial⟩ rfl rfl rfl rfl rfl (kUn rfl rfl (kMovC rfl (kGN rfl (fun g0 => (by (simp at g0))) (fun g0 => kGT rfl (kMovC rfl (kGT rfl (kMovC rfl (kGT rfl (kBeq rfl rfl (kPickF rfl (kMovC rfl (kDone (kCondN rfl (fun g1 => (by (simp at g1))) (fun g1 => kSkip (kSeq (kSeq (kRegD (kMem [(28672, ⟨1, 0, .box [.arr 110592 1, .arr 110593 1]⟩), (8192, ⟨1, 0, .box [.d _, .d _]⟩), (110592, ⟨1, 0, .arr true _⟩), (110593, ⟨1, 0, .arr true _⟩)] [(6, .c (.ptr 28672 1 0)), (1, .c (.ptr 8192 1 0)), (42, .c (.un)), (41, .c (.un)), (43, .c (.un)), (44, .c (.un))] [] ⟨rfl, rfl, rfl, rfl, trivial⟩ ⟨rfl, rfl, rfl, rfl, rfl, rfl, trivial⟩ rfl (kLoadP rfl rfl rfl (kLoadP rfl rfl rfl (kRelK rfl rfl (kCall1 true (ok_laws_toZone _ (by first | assumption | omega | solve_by_elim [List.getElem_mem] | (simp only [szOut] at *; omega))) ⟨⟨⟨rfl, rfl, trivial⟩, Nat.le_of_ble_eq_true rfl⟩, trivial⟩ rfl rfl rfl (fun _ => (kRelF rfl rfl (kCallD (ok_laws_eqZone _ _ (by first | assumption | omega | solve_by_elim [List.getElem_mem] | (simp only [szOut] at *; omega))) ⟨⟨⟨rfl, rfl, trivial⟩, Nat.le_of_ble_eq_true rfl⟩, ⟨⟨rfl, rfl, trivial⟩, Nat.le_of_ble_eq_true rfl⟩, trivial⟩ rfl rfl rfl rfl rfl (kUn rfl rfl (kDone (kH (kCondN rfl (fun g2 => (by (simp at g2))) (fun g2 => kSkip (kSeq (kReg (kMovC rfl (kDone (kSeq (kReg (kLoadP rfl rfl rfl (kMovC rfl (kCallM (ok_laws_markZone _ _ (by first | assumption | omega | solve_by_elim [List.getElem_mem] | (simp only [szOut] at *; omega)) (by first | assumption | omega | solve_by_elim [List.getElem_mem] | (simp only [szOut] at *; omega)) (by first | assumption | omega | solve_by_elim [List.getElem_mem] | (simp only [szOut] at *; omega))) ⟨⟨⟨⟨_, rfl, .inl rfl⟩, ⟨_, rfl, .inl rfl⟩, trivial⟩, Nat.le_of_ble_eq_true rfl⟩, rfl, trivial⟩ rfl rfl rfl (kMovC rfl (kDone (kSeq (kSeq (kReg (kMovC rfl (kBin rfl rfl rfl (kMovC rfl (kGT rfl (kLoadP rfl rfl rfl (kMem [(20480, ⟨1, 0, .box [.arr 94208 1, .arr 94209 1]⟩), (122880, ⟨1, 0, .arr true _⟩), (122881, ⟨1, 0, .arr true _⟩), (94208, ⟨1, 0, .arr true _⟩), (94209, ⟨1, 0, .arr true _⟩)] [(4, .c (.ptr 20480 1 0)), (52, .g [.arr 122880 1, .arr 122881 1]), (53, .c (.un)), (54, .c (.un)), (51, .c (.d _)), (55, .c (.un)), (56, .c (.un)), (8, .c (.d _)), (5, .c (.d _)), (58, .c (.un)), (59, .c (.un)), (57, .c (.un)), (60, .c (.un))] [] ⟨rfl, rfl, rfl, rfl, rfl, trivial⟩ ⟨rfl, rfl, rfl, rfl, rfl, rfl, rfl, rfl, rfl, rfl, rfl, rfl, rfl, trivial⟩ rfl (kGT rfl (kLoadP rfl rfl rfl (kGT rfl (kCallD (ok_laws_eqZone _ _ (by first | assumption | omega | solve_by_elim [List.getElem_mem] | (simp only [szOut] at *; omega))) ⟨⟨⟨rfl, rfl, trivial⟩, Nat.le_of_ble_eq_true rfl⟩, ⟨⟨rfl, rfl, trivial⟩, Nat.le_of_ble_eq_true rfl⟩, trivial⟩ rfl rfl rfl rfl rfl (kGT rfl (kUn rfl rfl (kPickF rfl (kMovC rfl (kMovC rfl (kGN rfl (fun g3 => (by (simp at g3))) (fun g3 => kGT rfl (kMovC rfl (kGT rfl (kMovC rfl (kGT rfl (kBeq rfl rfl (kPickF rfl (kMovC rfl (kDone (kCondN rfl (fun g4 => (by (simp at g4))) (fun g4 => kSkip (kSeq (kReg (kMovC rfl (kDone (kSeq (kReg (kMem [(32768, ⟨1, 0, .box [.arr 122880 1, .arr 122881 1]⟩), (122880, ⟨1, 0, .arr true _⟩), (122881, ⟨1, 0, .arr true _⟩)] [(7, .c (.ptr 32768 1 0)), (10, .c (.d _)), (62, .c (.un)), (63, .c (.un)), (64, .c (.un))] [] ⟨rfl, rfl, rfl, trivial⟩ ⟨rfl, rfl, rfl, rfl, rfl, trivial⟩ rfl (kLoadP rfl rfl rfl (kMovC rfl (kCallM (ok_laws_markZone _ _ (by first | assumption | omega | solve_by_elim [List.getElem_mem] | (simp only [szOut] at *; omega)) (by first | assumption | omega | solve_by_elim [List.getElem_mem] | (simp only [szOut] at *; omega)) (by first | assumption | omega | solve_by_elim [List.getElem_mem] | (simp only [szOut] at *; omega))) ⟨⟨⟨⟨_, rfl, .inl rfl⟩, ⟨_, rfl, .inl rfl⟩, trivial⟩, Nat.le_of_ble_eq_true rfl⟩, rfl, trivial⟩ rfl rfl rfl (kMovC rfl (kDone (kSeq (kReg (kMovC rfl (kDone (kSeq (kReg (kLoadP rfl rfl rfl (kMovC rfl (kCallD (ok_laws_heldZone _ _ (by first | assumption | omega | solve_by_elim [List.getElem_mem] | (simp only [szOut] at *; omega)) (by first | assumption | omega | solve_by_elim [List.getElem_mem] | (simp only [szOut] at *; omega)) (by first | assumption | omega | solve_by_elim [List.getElem_mem] | (simp only [szOut] at *; omega))) ⟨⟨⟨rfl, rfl, trivial⟩, Nat.le_of_ble_eq_true rfl⟩, rfl, trivial⟩ rfl rfl rfl rfl rfl (kMovC rfl (kDone (kSeq (kSeq (kReg (kMovC rfl (kBin rfl rfl rfl (kDone (kCondF rfl (kSkip (kSeq (kSeq (kReg (kMovC rfl (kMovC rfl (kBin rfl rfl rfl (kDone (kCondIN rfl (fun g5 => (by omega)) (fun g5 => kSkip (kSeq (kReg (kMem [(8192, ⟨1, 0, .box [.d _, .d _]⟩)] [(1, .c (.ptr 8192 1 0)), (74, .c (.un)), (75, .c (.un)), (76, .c (.un)), (73, .c (.un)), (12, .c (.un)), (77, .c (.un)), (78, .c (.un))] [] ⟨rfl, trivial⟩ ⟨rfl, rfl, rfl, rfl, rfl, rfl, rfl, rfl, trivial⟩ rfl (kLoadP rfl rfl rfl (kCall1 true (ok_laws_toZone _ (by first | assumption | omega | solve_by_elim [List.getElem_mem] | (simp only [szOut] at *; omega))) ⟨⟨⟨rfl, rfl, trivial⟩, Nat.le_of_ble_eq_true rfl⟩, trivial⟩ rfl rfl rfl (fun _ => (kCall1 true (ok_impl_Bump _ (by first | assumption | omega | solve_by_elim [List.getElem_mem] | (simp only [szOut] at *; omega))) ⟨⟨⟨rfl, rfl, trivial⟩, Nat.le_of_ble_eq_true rfl⟩, trivial⟩ rfl rfl rfl (fun _ => (kMovT rfl (kExtC rfl rfl (kExtC rfl rfl (kAlloc rfl rfl (kMem [(53248, ⟨1, 0, .box [.nil 1, .nil 7]⟩), (315392, ⟨1, 0, .arr true _⟩), (315393, ⟨1, 0, .arr true _⟩)] [(12, .c (.ptr 53248 1 0)), (77, .g [.arr 315392 1, .arr 315393 1]), (78, .c (.d _))] [] ⟨rfl, rfl, rfl, trivial⟩ ⟨rfl, rfl, rfl, trivial⟩ rfl (kStoreP rfl rfl rfl rfl (kMovC rfl (kDone (kSeq (kSeq (kReg (kLoadP rfl rfl rfl (kLoadP rfl rfl rfl (kCallD (ok_laws_eqZone _ _ (by first | assumption | omega | solve_by_elim [List.getElem_mem] | (simp only [szOut] at *; omega))) ⟨⟨⟨rfl, rfl, trivial⟩, Nat.le_of_ble_eq_true rfl⟩, ⟨⟨rfl, rfl, trivial⟩, Nat.le_of_ble_eq_true rfl⟩, trivial⟩ rfl rfl rfl rfl rfl (kUn rfl rfl (kMovC rfl (kGN rfl (fun g6 => (by (simp at g6))) (fun g6 => kGT rfl (kMovC rfl (kGT rfl (kMovC rfl (kGT rfl (kBeq rfl rfl (kPickF rfl (kMovC rfl (kDone (kCondN rfl (fun g7 => (by (simp at g7))) (fun g7 => kSkip (kSeq (kReg (kMovC rfl (kDone (kSeq (kReg (kMem [(32768, ⟨1, 0, .box [.arr 122880 1, .arr 122881 1]⟩), (122880, ⟨1, 1, .arr true _⟩), (122881, ⟨1, 1, .arr true _⟩)] [(7, .c (.ptr 32768 1 0)), (11, .c (.d _)), (88, .c (.un)), (89, .c (.un)), (90, .c (.un))] [] ⟨rfl, rfl, rfl, trivial⟩ ⟨rfl, rfl, rfl, rfl, rfl, trivial⟩ rfl (kLoadP rfl rfl rfl (kMovC rfl (kCallD (ok_laws_heldZone _ _ (by first | assumption | omega | solve_by_elim [List.getElem_mem] | (simp only [szOut] at *; omega)) (by first | assumption | omega | solve_by_elim [List.getElem_mem] | (simp only [szOut] at *; omega)) (by first | assumption | omega | solve_by_elim [List.getElem_mem] | (simp only [szOut] at *; omega))) ⟨⟨⟨rfl, rfl, trivial⟩, Nat.le_of_ble_eq_true rfl⟩, rfl, trivial⟩ rfl rfl rfl rfl rfl (kMovC rfl (kDone (kSeq (kSeq (kReg (kMovC rfl (kBin rfl rfl rfl (kDone (kCondF rfl (kSkip (kSeq (kSeq (kReg (kMovC rfl (kMovC rfl (kBin rfl rfl rfl (kDone (kCondIN rfl (fun g8 => (by omega)) (fun g8 => kSkip (kSeq (kReg (kMovC rfl (kDone (kRet (endRetA (ra := [.one (.d _)]) rfl rfl))))))))))))))))))))))))))))))))))))))))))))))))))))))))))))))))))))))))))))))))))))))))))))))))))))))))))))))))))))))))))))))))))))))))))))))))))))))))))))))))))))))))))))))))))))))))))))))))))))))))))))))))))))))))))))))

end Go.Proofs.YtmecljfkakjmbaaGreat.FnExactBumpFn
