/- What the functions that FnExactLookup reaches compute, one contract each; each with the bounds that it states. -/
import Derived.Test.YtmecljfkakjmbaaGreatFnExactLookupFn2
import Derived.Test.YtmecljfkakjmbaaGreatProg
import Derived.KernelRfl
set_option maxRecDepth 100000
set_option maxHeartbeats 8000000
set_option linter.unusedVariables false
set_option linter.unusedSimpArgs false
namespace Go.Proofs.YtmecljfkakjmbaaGreat.FnExactLookupFn
open Go Hearth Go.Proofs

def c_impl_ZoneOk : C := (.seq (.reg false (.op 0 [] (some 1) none false (.box 1 (.t 0))
  (.op 1 [] (some 2) none false (.mov (.v (.bool false)))
  .done)))
 (.seq (.seq (.reg false (.op 0 [] (some 6) none false (.fad (.t 1) 0)
  (.op 1 [] (some 7) none false (.load (some 1) (.t 6))
  (.op 2 [] (some 8) none false (.call 8 84 [(.t 7)])
  (.op 3 [] (some 9) none false (.un .not (.t 8))
  (.op 4 [] (some 10) none false (.mov (.t 9))
  (.op 5 [] (some 11) (some (10, false)) false (.fad (.t 1) 1)
  (.op 6 [] (some 12) (some (10, false)) false (.load none (.t 11))
  (.op 7 [] (some 13) (some (10, false)) false (.len (.t 12))
  (.op 8 [] (some 14) (some (10, false)) false (.bin .gtr (.t 13) (.v (.int .i64 60)))
  (.op 9 [] (some 15) none false (.pick (.t 10) (.v (.bool true)) (.t 14))
  (.op 10 [] (some 16) none false (.mov (.t 15))
  (.op 11 [] (some 17) (some (16, false)) false (.fad (.t 1) 1)
  (.op 12 [] (some 18) (some (16, false)) false (.load none (.t 17))
  (.op 13 [] (some 19) (some (16, false)) false (.call 19 111 [(.t 18), (.fn 92)])
  (.op 14 [] (some 20) (some (16, false)) false (.un .not (.t 19))
  (.op 15 [] (some 21) none false (.pick (.t 16) (.v (.bool true)) (.t 20))
  .done)))))))))))))))))
 (.cond (.t 21)
 (.seq (.reg false (.op 0 [] (some 2) none false (.mov (.v (.bool false)))
  .done))
 .ret)
 .skip))
 (.seq (.reg false (.op 0 [] (some 3) none false (.mov (.v (.int .i64 0)))
  .done))
 (.seq (.seq (.reg false (.op 0 [] (some 22) none false (.fad (.t 1) 1)
  (.op 1 [] (some 23) none false (.load none (.t 22))
  (.op 2 [] (some 24) none false (.len (.t 23))
  (.op 3 [] (some 25) none false (.mov (.v (.int .i64 0)))
  .done)))))
 (.block 0 (.loop (.seq (.reg false (.op 0 [] (some 26) none false (.bin .lss (.t 25) (.t 24))
  .done))
 (.seq (.cond (.t 26)
 .skip
 (.exit 0))
 (.seq (.block 1 (.seq (.reg false (.op 0 [] (some 27) none false (.mov (.t 25))
  (.op 1 [] (some 28) none false (.iad 7 (.t 23) (.t 25))
  (.op 2 [] (some 29) none false (.load (some 7) (.t 28))
  (.op 3 [] (some 5) none false (.alloc 5 [(.n 1), (.v (.int .i64 0)), (.v (.int .i64 0)), (.v (.int .i64 0)), (.n 1), (.n 1), (.n 1)])
  (.op 4 [] (some 4) none false (.mov (.t 27))
  (.op 5 [] none none false (.store (some 7) (.t 5) (.t 29))
  .done)))))))
 (.seq (.seq (.reg true (.op 0 [] (some 30) none true (.mov (.t 4))
  (.op 1 [] (some 31) none true (.bin .gtr (.t 30) (.v (.int .i64 0)))
  (.op 2 [] (some 32) none true (.mov (.t 31))
  (.op 3 [] (some 33) (some (32, true)) true (.fad (.t 1) 1)
  (.op 4 [] (some 34) (some (32, true)) true (.load none (.t 33))
  (.op 5 [] (some 35) (some (32, true)) true (.mov (.t 4))
  (.op 6 [] (some 36) (some (32, true)) true (.bin .sub (.t 35) (.v (.int .i64 1)))
  (.op 7 [] (some 37) (some (32, true)) true (.iad 7 (.t 34) (.t 36))
  (.op 8 [] (some 38) (some (32, true)) true (.load (some 7) (.t 37))
  (.op 9 [] (some 39) (some (32, true)) true (.load (some 7) (.t 5))
  (.op 10 [8, 4, 9] (some 40) (some (32, true)) false (.call 40 112 [(.t 38), (.t 39)])
  (.op 11 [] (some 41) (some (32, true)) true (.bin .geq (.t 40) (.v (.int .i64 0)))
  (.op 12 [] (some 42) none true (.pick (.t 32) (.t 41) (.v (.bool false)))
  (.op 13 [] (some 43) none true (.mov (.t 42))
  (.op 14 [] (some 44) (some (43, false)) true (.fad (.t 5) 0)
  (.op 15 [] (some 45) (some (43, false)) true (.load (some 1) (.t 44))
  (.op 16 [] (some 46) (some (43, false)) true (.fad (.t 1) 0)
  (.op 17 [] (some 47) (some (43, false)) true (.load (some 1) (.t 46))
  (.op 18 [15, 8, 9, 4, 17] (some 48) (some (43, false)) false (.call 48 113 [(.t 45), (.t 47)])
  (.op 19 [] (some 49) (some (43, false)) true (.un .not (.t 48))
  (.op 20 [] (some 50) none true (.pick (.t 43) (.v (.bool true)) (.t 49))
  .done))))))))))))))))))))))
 (.cond (.t 50)
 (.seq (.reg false (.op 0 [] (some 2) none false (.mov (.v (.bool false)))
  .done))
 .ret)
 .skip))
 (.seq (.seq (.reg false (.op 0 [] (some 51) none false (.fad (.t 5) 1)
  (.op 1 [] (some 52) none false (.load none (.t 51))
  (.op 2 [] (some 53) none false (.bin .eql (.t 52) (.v (.int .i64 6)))
  .done))))
 (.cond (.t 53)
 (.seq (.reg false (.op 0 [] (some 54) none false (.mov (.t 3))
  (.op 1 [] (some 55) none false (.bin .add (.t 54) (.v (.int .i64 1)))
  (.op 2 [] (some 3) none false (.mov (.t 55))
  .done))))
 (.seq (.reg false (.op 0 [] (some 56) none false (.fad (.t 5) 0)
  (.op 1 [] (some 57) none false (.load (some 1) (.t 56))
  (.op 2 [] (some 58) none false (.fad (.t 1) 0)
  (.op 3 [] (some 59) none false (.load (some 1) (.t 58))
  (.op 4 [] (some 60) none false (.call 60 114 [(.t 57), (.t 59)])
  (.op 5 [] (some 61) none false (.un .not (.t 60))
  .done)))))))
 (.cond (.t 61)
 (.seq (.reg false (.op 0 [] (some 2) none false (.mov (.v (.bool false)))
  .done))
 .ret)
 .skip)))
 .skip))
 (.seq (.reg false (.op 0 [] (some 62) none false (.fad (.t 5) 1)
  (.op 1 [] (some 63) none false (.load none (.t 62))
  (.op 2 [] (some 64) none false (.bin .eql (.t 63) (.v (.int .i64 5)))
  (.op 3 [] (some 65) none false (.mov (.t 64))
  (.op 4 [] (some 66) (some (65, true)) false (.load (some 2) (.t 1))
  (.op 5 [] (some 67) (some (65, true)) false (.fad (.t 5) 0)
  (.op 6 [] (some 68) (some (65, true)) false (.load (some 1) (.t 67))
  (.op 7 [] (some 69) (some (65, true)) false (.call 69 115 [(.t 66), (.t 68), (.v (.int .i64 255))])
  (.op 8 [] (some 70) (some (65, true)) false (.len (.t 69))
  (.op 9 [] (some 71) (some (65, true)) false (.bin .gtr (.t 70) (.v (.int .i64 1)))
  (.op 10 [] (some 72) none false (.pick (.t 65) (.t 71) (.v (.bool false)))
  .done))))))))))))
 (.cond (.t 72)
 (.seq (.reg false (.op 0 [] (some 2) none false (.mov (.v (.bool false)))
  .done))
 .ret)
 .skip))))))
 (.reg false (.op 0 [] (some 73) none false (.bin .add (.t 25) (.v (.int .i64 1)))
  (.op 1 [] (some 25) none false (.mov (.t 73))
  .done)))))))))
 (.seq (.reg false (.op 0 [] (some 74) none false (.mov (.t 3))
  (.op 1 [] (some 75) none false (.bin .eql (.t 74) (.v (.int .i64 1)))
  (.op 2 [] (some 2) none false (.mov (.t 75))
  .done))))
 .ret)))))
theorem dg_impl_ZoneOk : Tryz.f53.body.bind (digC Tryz.prog Tryz.f53.ntmps []) = some c_impl_ZoneOk := by kernel_rfl
theorem rs_impl_ZoneOk : resSlots Tryz.prog Tryz.f53 = some [.s 2] := by kernel_rfl
theorem ok_impl_ZoneOk (z : Zone) (hs : SmallZ z) :
    FnOK Tryz.prog 53 [.agg (z.cells.map .d)] (fun ra _ => ra = [.one (.d (.sc (.bool (zoneOk z))))]) := by
  refine FnOK.ofK Tryz.func53 (by kernel_rfl) dg_impl_ZoneOk rs_impl_ZoneOk rfl rfl ?_
  unfold c_impl_ZoneOk
  have o1 := hs.o.len
  have o2 := hs.o.mem
  have h1 := hs.r.len
  have hm := hs.r.mem
  have hr := hs.r
  cases a1 : nameOk z.origin
  · rw [show zoneOk z = false by unfold zoneOk; rw [a1]; rfl]
    refine kSeq (kReg (kBox rfl rfl rfl rfl rfl (kMovC rfl (kDone (kSeq (kSeq (kReg (kFadP rfl rfl (kLoadP rfl rfl rfl (kCallD (ok_impl_NameOk _ (by first | assumption | omega | solve_by_elim [List.getElem_mem] | (simp only [szOut] at *; omega)) (by first | assumption | omega | solve_by_elim [List.getElem_mem] | (simp only [szOut] at *; omega))) ⟨⟨⟨rfl, trivial⟩, Nat.le_of_ble_eq_true rfl⟩, trivial⟩ rfl rfl rfl rfl rfl (kUn rfl rfl (kMovC rfl (kGN rfl (fun g0 => kGF rfl (kGF rfl (kMem [(8192, ⟨1, 0, .box [.d _, .d _]⟩)] [(12, .c (.un)), (13, .c (.un)), (10, .c (.d _)), (14, .c (.un)), (15, .c (.un)), (1, .c (.ptr 8192 1 0)), (17, .c (.un)), (18, .c (.un)), (19, .c (.un)), (16, .c (.un)), (20, .c (.un))] [] ⟨rfl, trivial⟩ ⟨rfl, rfl, rfl, rfl, rfl, rfl, rfl, rfl, rfl, rfl, rfl, trivial⟩ rfl (kGF rfl (kGF rfl (kPickT rfl (kMovC rfl (kMovC rfl (kGF rfl (kGF rfl (kGF rfl (kGF rfl (kPickT rfl (kMovC rfl (kDone (kCondT rfl (kSeq (kReg (kMovC rfl (kDone (kRet (endRetA (ra := [.one (.d _)]) rfl rfl)))))))))))))))))))))) (fun g0 => (by (simp [*] at g0))))))))))))))))
  by_cases a2 : z.rrs.length ≤ 60
  case neg =>
    rw [show zoneOk z = false by unfold zoneOk; rw [decide_eq_false a2]; simp]
    refine kSeq (kReg (kBox rfl rfl rfl rfl rfl (kMovC rfl (kDone (kSeq (kSeq (kReg (kFadP rfl rfl (kLoadP rfl rfl rfl (kCallD (ok_impl_NameOk _ (by first | assumption | omega | solve_by_elim [List.getElem_mem] | (simp only [szOut] at *; omega)) (by first | assumption | omega | solve_by_elim [List.getElem_mem] | (simp only [szOut] at *; omega))) ⟨⟨⟨rfl, trivial⟩, Nat.le_of_ble_eq_true rfl⟩, trivial⟩ rfl rfl rfl rfl rfl (kUn rfl rfl (kMovC rfl (kGN rfl (fun g0 => (by (simp [*] at g0))) (fun g0 => kGT rfl (kFadP rfl rfl (kGT rfl (kLoadP rfl rfl rfl (kMem [(8192, ⟨1, 0, .box [.d _, .d _]⟩)] [(12, .c (.d _)), (13, .c (.un)), (10, .c (.d _)), (14, .c (.un)), (15, .c (.un)), (1, .c (.ptr 8192 1 0)), (17, .c (.un)), (18, .c (.un)), (19, .c (.un)), (16, .c (.un)), (20, .c (.un))] [] ⟨rfl, trivial⟩ ⟨rfl, rfl, rfl, rfl, rfl, rfl, rfl, rfl, rfl, rfl, rfl, trivial⟩ rfl (kGT rfl (kLenR rfl rfl (kGT rfl (kBin rfl rfl rfl (kPickF rfl (kMovC rfl (kMovC rfl (kGP rfl (fun g1 => kGF rfl (kGF rfl (kGF rfl (kGF rfl (kPickT rfl (kMovC rfl (kDone (kCondT rfl (kSeq (kReg (kMovC rfl (kDone (kRet (endRetA (ra := [.one (.d _)]) rfl rfl)))))))))))))) (fun g1 => (by omega))))))))))))))))))))))))))))
  refine kSeq (kReg (kBox rfl rfl rfl rfl rfl (kMovC rfl (kDone (kSeq (kSeq (kReg (kFadP rfl rfl (kLoadP rfl rfl rfl (kCallD (ok_impl_NameOk _ (by first | assumption | omega | solve_by_elim [List.getElem_mem] | (simp only [szOut] at *; omega)) (by first | assumption | omega | solve_by_elim [List.getElem_mem] | (simp only [szOut] at *; omega))) ⟨⟨⟨rfl, trivial⟩, Nat.le_of_ble_eq_true rfl⟩, trivial⟩ rfl rfl rfl rfl rfl (kUn rfl rfl (kMovC rfl (kGN rfl (fun g0 => (by (simp [*] at g0))) (fun g0 => kGT rfl (kFadP rfl rfl (kGT rfl (kLoadP rfl rfl rfl (kMem [(8192, ⟨1, 0, .box [.d _, .d _]⟩)] [(12, .c (.d _)), (13, .c (.un)), (10, .c (.d _)), (14, .c (.un)), (15, .c (.un)), (1, .c (.ptr 8192 1 0)), (17, .c (.un)), (18, .c (.un)), (19, .c (.un)), (16, .c (.un)), (20, .c (.un))] [] ⟨rfl, trivial⟩ ⟨rfl, rfl, rfl, rfl, rfl, rfl, rfl, rfl, rfl, rfl, rfl, trivial⟩ rfl (kGT rfl (kLenR rfl rfl (kGT rfl (kBin rfl rfl rfl (kPickF rfl (kMovC rfl (kMovC rfl (kGP rfl (fun g1 => (by omega)) (fun g1 => kGT rfl (kFadP rfl rfl (kGT rfl (kLoadP rfl rfl rfl (kGT rfl ?_)))))))))))))))))))))))))))))))
  refine kCallD (ok_impl_all_impl_Rr z.rrs SmallR rrOk h1 hm) ⟨rfl, ⟨rfl, rfl, ⟨_, Tryz.func92, rfl, by kernel_rfl⟩, ?_⟩, trivial⟩ rfl rfl rfl rfl rfl ?_
  · rintro _ R ⟨x, h, rfl, rfl⟩
    exact ok_impl_RrOk x h
  cases a3 : z.rrs.all rrOk
  · rw [show zoneOk z = false by unfold zoneOk; rw [a3]; simp]
    refine kGT rfl (kUn rfl rfl (kPickF rfl (kMovC rfl (kDone (kCondT rfl (kSeq (kReg (kMovC rfl (kDone (kRet (endRetA (ra := [.one (.d _)]) rfl rfl)))))))))))
  refine kGT rfl (kUn rfl rfl (kPickF rfl (kMovC rfl (kDone (kCondF rfl (kSkip (kSeq (kReg (kMovC rfl (kDone (kSeq (kSeq (kReg (kMem [(8192, ⟨1, 0, .box [.d _, .d _]⟩)] [(1, .c (.ptr 8192 1 0)), (22, .c (.un)), (23, .c (.un))] [] ⟨rfl, trivial⟩ ⟨rfl, rfl, rfl, trivial⟩ rfl (kFadP rfl rfl (kLoadP rfl rfl rfl (kLenR rfl rfl (kMovC rfl (kDone (kBlock ?_))))))))))))))))))))
  refine kLoop (α := { i : Nat // i ≤ z.rrs.length ∧ (List.range i).all (zAt z) = true }) (fun y => ⟨tabSl [(1, .c (.ptr (rid 1 0) 1 0)), (3, .i (zTops (z.rrs.take y.1))), (23, .dv (encR z.rrs)), (24, .i z.rrs.length), (25, .i y.1)], obTab 1 [(rid 1 0, ⟨1, 0, .box (z.cells.map .d)⟩)], []⟩) (fun y => z.rrs.length - y.1) ⟨0, by simp⟩ .normA ?_
  rintro ⟨i, hi, hz⟩
  simp only
  have ht := zTops_le z.rrs i
  rcases Nat.lt_or_ge i z.rrs.length with hlt | hge
  · have hbi := hm _ (List.getElem_mem hlt)
    have n1 := hbi.n.len
    have n2 := hbi.n.mem
    have hts := zTops_succ z.rrs i hlt
    have hq := zAt_eq hlt
    rw [aloneR_eq hlt] at hq
    have hset : (setOf z.rrs z.rrs[i].name 255).length ≤ z.rrs.length := List.length_filter_le _ _
    refine kSeq ?_
    refine kReg (kBin rfl rfl rfl (kDone (kSeq (kCondP rfl (fun g0 => kSkip (kSeq (kBlock (kSeq (kReg (kMovC rfl (kIadR rfl rfl rfl (by omega) (kLoadD rfl rfl (kAlloc rfl rfl (kMovC rfl (kMem [(24576, ⟨2, 0, .box [.nil 1, .d _, .d _, .d _, .nil 1, .nil 1, .nil 1]⟩)] [(5, .c (.ptr 24576 2 0)), (29, .g [.d _, .d _, .d _, .d _, .d _, .d _, .d _])] [] ⟨rfl, trivial⟩ ⟨rfl, rfl, trivial⟩ rfl (kStoreP rfl rfl rfl rfl (kDone (kSeq (kSeq (kRegD (kMovC rfl (kBin rfl rfl rfl (kMovC rfl (kGP rfl (fun g1 => kGT rfl (kFadP rfl rfl (kGT rfl (kLoadP rfl rfl rfl (kGT rfl (kMovC rfl (kGT rfl (kDif rfl rfl (by omega) (kGT rfl (kIadT rfl rfl (by omega) (kMem [(24576, ⟨2, 0, .box [.d _, .d _, .d _, .d _, .d _, .d _, .d _]⟩), (8192, ⟨1, 0, .box [.d _, .d _]⟩)] [(5, .c (.ptr 24576 2 0)), (32, .c (.d _)), (1, .c (.ptr 8192 1 0))] [8192] ⟨rfl, rfl, trivial⟩ ⟨rfl, rfl, rfl, trivial⟩ rfl (kGT rfl (kLoadD rfl rfl (kGT rfl (kLoadP rfl rfl rfl (kRelF rfl rfl (kGT rfl (kCallD (ok_impl_Rr_compare _ _ (by first | assumption | omega | solve_by_elim [List.getElem_mem] | (simp only [szOut] at *; omega)) (by first | assumption | omega | solve_by_elim [List.getElem_mem] | (simp only [szOut] at *; omega))) ⟨⟨⟨rfl, rfl, rfl, rfl, rfl, rfl, rfl, trivial⟩, Nat.le_of_ble_eq_true rfl⟩, ⟨⟨rfl, rfl, rfl, rfl, rfl, rfl, rfl, trivial⟩, Nat.le_of_ble_eq_true rfl⟩, trivial⟩ rfl rfl rfl rfl rfl (kGT rfl (kBin rfl rfl rfl (kPickT rfl (kMovC rfl (kMovC rfl (kGP rfl (fun g2 => kGF rfl (kGF rfl (kGF rfl (kGF rfl (kRelF rfl rfl (kGF rfl (kGF rfl (kPickT rfl (kMovC rfl (kDone (kH (kCondT rfl (kSeq (kReg (kMovC rfl (kDone (kRet (endRetA (ra := [.one (.d _)]) rfl ?_)))))))))))))))))) (fun g2 => kGT rfl (kFadP rfl rfl (kGT rfl (kLoadP rfl rfl rfl (kGT rfl (kFadP rfl rfl (kGT rfl (kLoadP rfl rfl rfl (kRelF rfl rfl (kGT rfl (kCallD (ok_impl_Name_under _ _ (by first | assumption | omega | solve_by_elim [List.getElem_mem] | (simp only [szOut] at *; omega)) (by first | assumption | omega | solve_by_elim [List.getElem_mem] | (simp only [szOut] at *; omega))) ⟨⟨⟨rfl, trivial⟩, Nat.le_of_ble_eq_true rfl⟩, ⟨⟨rfl, trivial⟩, Nat.le_of_ble_eq_true rfl⟩, trivial⟩ rfl rfl rfl rfl rfl (kGT rfl (kUn rfl rfl (kPickF rfl (kMovC rfl (kDone (kH (kCondN rfl (fun g3 => kSeq (kReg (kMovC rfl (kDone (kRet (endRetA (ra := [.one (.d _)]) rfl ?_)))))) (fun g3 => kSkip (kSeq (kSeq (kReg (kFadP rfl rfl (kLoadP rfl rfl rfl (kBin rfl rfl rfl (kDone (kCondP rfl (fun g4 => kSeq (kReg (kMovC rfl (kAdd rfl rfl (by omega) (kMovC rfl (kDone (kSeq (kReg (kFadP rfl rfl (kLoadP rfl rfl rfl (kFadP rfl rfl (kLoadP rfl rfl rfl (kCallD (ok_impl_Name_is _ _ (by first | assumption | omega | solve_by_elim [List.getElem_mem] | (simp only [szOut] at *; omega)) (by first | assumption | omega | solve_by_elim [List.getElem_mem] | (simp only [szOut] at *; omega))) ⟨⟨⟨rfl, trivial⟩, Nat.le_of_ble_eq_true rfl⟩, ⟨⟨rfl, trivial⟩, Nat.le_of_ble_eq_true rfl⟩, trivial⟩ rfl rfl rfl rfl rfl (kUn rfl rfl (kDone (kCondN rfl (fun g5 => kSeq (kReg (kMovC rfl (kDone (kRet (endRetA (ra := [.one (.d _)]) rfl ?_)))))) (fun g5 => kSkip (kSeq (kReg (kMem [(24576, ⟨2, 0, .box [.d _, .d _, .d _, .d _, .d _, .d _, .d _]⟩), (8192, ⟨1, 0, .box [.d _, .d _]⟩)] [(5, .c (.ptr 24576 2 0)), (1, .c (.ptr 8192 1 0))] [] ⟨rfl, rfl, trivial⟩ ⟨rfl, rfl, trivial⟩ rfl (kFadP rfl rfl (kLoadP rfl rfl rfl (kBin rfl rfl rfl (kMovC rfl (kGP rfl (fun g6 => (by omega)) (fun g6 => kGF rfl (kGF rfl (kGF rfl (kGF rfl (kGF rfl (kGF rfl (kPickF rfl (kMovC rfl (kDone (kCondF rfl (kSkip (kBk (kReg (kAdd rfl rfl (by omega) (kMovC rfl (kDone ?_))))))))))))))))))))))))))))))))))))))))) (fun g4 => kSkip (kSeq (kReg (kFadP rfl rfl (kLoadP rfl rfl rfl (kBin rfl rfl rfl (kMovC rfl (kGP rfl (fun g7 => kGT rfl (kLoadP rfl rfl rfl (kMem [(24576, ⟨2, 0, .box [.d _, .d _, .d _, .d _, .d _, .d _, .d _]⟩)] [(5, .c (.ptr 24576 2 0)), (66, .g [.d _, .d _]), (65, .c (.d _))] [] ⟨rfl, trivial⟩ ⟨rfl, rfl, rfl, trivial⟩ rfl (kGT rfl (kFadP rfl rfl (kGT rfl (kLoadP rfl rfl rfl (kGT rfl (kCallD2 (ok_impl_Zone_set _ _ _ (by first | assumption | omega | solve_by_elim [List.getElem_mem] | (simp only [szOut] at *; omega)) (by first | assumption | omega | solve_by_elim [List.getElem_mem] | (simp only [szOut] at *; omega))) ⟨⟨⟨rfl, rfl, trivial⟩, Nat.le_of_ble_eq_true rfl⟩, ⟨⟨rfl, trivial⟩, Nat.le_of_ble_eq_true rfl⟩, rfl, trivial⟩ rfl rfl rfl rfl (kGT rfl (kLenR rfl rfl (kGT rfl (kBin rfl rfl rfl (kPickT rfl (kMovC rfl (kDone (kCondP rfl (fun g8 => kSeq (kReg (kMovC rfl (kDone (kRet (endRetA (ra := [.one (.d _)]) rfl ?_)))))) (fun g8 => kSkip (kBk (kReg (kAdd rfl rfl (by omega) (kMovC rfl (kDone ?_))))))))))))))))))))))) (fun g7 => kGF rfl (kGF rfl (kGF rfl (kGF rfl (kGF rfl (kGF rfl (kPickF rfl (kMovC rfl (kDone (kCondF rfl (kSkip (kBk (kReg (kAdd rfl rfl (by omega) (kMovC rfl (kDone ?_))))))))))))))))))))))))))))))))))))))))))))))))))))))))))))))))))))))))))) (fun g1 => kGF rfl (kGF rfl (kGF rfl (kGF rfl (kGF rfl (kGF rfl (kMem [(24576, ⟨2, 0, .box [.d _, .d _, .d _, .d _, .d _, .d _, .d _]⟩), (8192, ⟨1, 0, .box [.d _, .d _]⟩)] [(5, .c (.ptr 24576 2 0)), (38, .c (.un)), (32, .c (.d _)), (1, .c (.ptr 8192 1 0))] [] ⟨rfl, rfl, trivial⟩ ⟨rfl, rfl, rfl, rfl, trivial⟩ rfl (kGF rfl (kRelF rfl rfl (kGF rfl (kGF rfl (kPickF rfl (kMovC rfl (kMovC rfl (kGT rfl (kFadP rfl rfl (kGT rfl (kLoadP rfl rfl rfl (kGT rfl (kFadP rfl rfl (kGT rfl (kLoadP rfl rfl rfl (kRelF rfl rfl (kGT rfl (kCallD (ok_impl_Name_under _ _ (by first | assumption | omega | solve_by_elim [List.getElem_mem] | (simp only [szOut] at *; omega)) (by first | assumption | omega | solve_by_elim [List.getElem_mem] | (simp only [szOut] at *; omega))) ⟨⟨⟨rfl, trivial⟩, Nat.le_of_ble_eq_true rfl⟩, ⟨⟨rfl, trivial⟩, Nat.le_of_ble_eq_true rfl⟩, trivial⟩ rfl rfl rfl rfl rfl (kGT rfl (kUn rfl rfl (kPickF rfl (kMovC rfl (kDone (kH (kCondN rfl (fun g9 => kSeq (kReg (kMovC rfl (kDone (kRet (endRetA (ra := [.one (.d _)]) rfl ?_)))))) (fun g9 => kSkip (kSeq (kSeq (kReg (kFadP rfl rfl (kLoadP rfl rfl rfl (kBin rfl rfl rfl (kDone (kCondP rfl (fun g10 => kSeq (kReg (kMovC rfl (kAdd rfl rfl (by omega) (kMovC rfl (kDone (kSeq (kReg (kFadP rfl rfl (kLoadP rfl rfl rfl (kFadP rfl rfl (kLoadP rfl rfl rfl (kCallD (ok_impl_Name_is _ _ (by first | assumption | omega | solve_by_elim [List.getElem_mem] | (simp only [szOut] at *; omega)) (by first | assumption | omega | solve_by_elim [List.getElem_mem] | (simp only [szOut] at *; omega))) ⟨⟨⟨rfl, trivial⟩, Nat.le_of_ble_eq_true rfl⟩, ⟨⟨rfl, trivial⟩, Nat.le_of_ble_eq_true rfl⟩, trivial⟩ rfl rfl rfl rfl rfl (kUn rfl rfl (kDone (kCondN rfl (fun g11 => kSeq (kReg (kMovC rfl (kDone (kRet (endRetA (ra := [.one (.d _)]) rfl ?_)))))) (fun g11 => kSkip (kSeq (kReg (kMem [(24576, ⟨2, 0, .box [.d _, .d _, .d _, .d _, .d _, .d _, .d _]⟩), (8192, ⟨1, 0, .box [.d _, .d _]⟩)] [(5, .c (.ptr 24576 2 0)), (1, .c (.ptr 8192 1 0))] [] ⟨rfl, rfl, trivial⟩ ⟨rfl, rfl, trivial⟩ rfl (kFadP rfl rfl (kLoadP rfl rfl rfl (kBin rfl rfl rfl (kMovC rfl (kGP rfl (fun g12 => (by omega)) (fun g12 => kGF rfl (kGF rfl (kGF rfl (kGF rfl (kGF rfl (kGF rfl (kPickF rfl (kMovC rfl (kDone (kCondF rfl (kSkip (kBk (kReg (kAdd rfl rfl (by omega) (kMovC rfl (kDone ?_))))))))))))))))))))))))))))))))))))))))) (fun g10 => kSkip (kSeq (kReg (kFadP rfl rfl (kLoadP rfl rfl rfl (kBin rfl rfl rfl (kMovC rfl (kGP rfl (fun g13 => kGT rfl (kLoadP rfl rfl rfl (kMem [(24576, ⟨2, 0, .box [.d _, .d _, .d _, .d _, .d _, .d _, .d _]⟩)] [(5, .c (.ptr 24576 2 0)), (66, .g [.d _, .d _]), (65, .c (.d _))] [] ⟨rfl, trivial⟩ ⟨rfl, rfl, rfl, trivial⟩ rfl (kGT rfl (kFadP rfl rfl (kGT rfl (kLoadP rfl rfl rfl (kGT rfl (kCallD2 (ok_impl_Zone_set _ _ _ (by first | assumption | omega | solve_by_elim [List.getElem_mem] | (simp only [szOut] at *; omega)) (by first | assumption | omega | solve_by_elim [List.getElem_mem] | (simp only [szOut] at *; omega))) ⟨⟨⟨rfl, rfl, trivial⟩, Nat.le_of_ble_eq_true rfl⟩, ⟨⟨rfl, trivial⟩, Nat.le_of_ble_eq_true rfl⟩, rfl, trivial⟩ rfl rfl rfl rfl (kGT rfl (kLenR rfl rfl (kGT rfl (kBin rfl rfl rfl (kPickT rfl (kMovC rfl (kDone (kCondP rfl (fun g14 => kSeq (kReg (kMovC rfl (kDone (kRet (endRetA (ra := [.one (.d _)]) rfl ?_)))))) (fun g14 => kSkip (kBk (kReg (kAdd rfl rfl (by omega) (kMovC rfl (kDone ?_))))))))))))))))))))))) (fun g13 => kGF rfl (kGF rfl (kGF rfl (kGF rfl (kGF rfl (kGF rfl (kPickF rfl (kMovC rfl (kDone (kCondF rfl (kSkip (kBk (kReg (kAdd rfl rfl (by omega) (kMovC rfl (kDone ?_))))))))))))))))))))))))))))))))))))))))))))))))))))))))))))))))))))))))))))))))))))) (fun g0 => (by omega))))))
    all_goals first
      | (refine congrArg (fun z : Bool => [RA.one (RV.d (DV.sc (Value.bool z)))]) (zone_no hlt (Bool.eq_false_iff.2 fun h => ?_)).symm
         rw [hq] at h
         simp only [Bool.and_eq_true, decide_eq_true_eq, Bool.or_eq_true, Bool.not_eq_true', beq_eq_false_iff_ne] at h
         obtain ⟨⟨⟨k1, k2⟩, k3⟩, k4⟩ := h
         first
           | (rw [prevB_pos (by omega) hlt (by omega), decide_eq_true_eq] at k2; omega)
           | (simp_all; done)
           | (simp_all; omega))
      | (have e1 : prevB z.rrs i = true := by
           first
             | (rw [prevB_pos (by omega) hlt (by omega)]; exact decide_eq_true (by omega))
             | (have : i = 0 := by omega
                subst this; exact prevB_zero)
         have e2 : (!(z.rrs[i].ty == 5) || decide ((setOf z.rrs z.rrs[i].name 255).length ≤ 1)) = true := by
           first
             | assumption
             | (simp [*]; done)
             | (rw [decide_eq_true (by omega)]; simp)
         have e3 : (!(z.rrs[i].ty == 6) || decide (z.rrs[i].name = z.origin)) = true := by
           first
             | (simp [*]; done)
             | (simp_all; done)
         first
           | rw [if_pos (by assumption)] at hts
           | rw [if_neg (by assumption)] at hts
         have hz' : zAt z i = true := by rw [hq, e1, e2, e3]; simp [*]
         exact kInv ⟨⟨i + 1, by omega, range_all hz hz'⟩, by simp only; omega, .normA⟩)
  · rw [show zoneOk z = decide (zTops z.rrs = 1) by unfold zoneOk; rw [a1, decide_eq_true a2, a3, show (List.range z.rrs.length).all (zAt z) = true by rw [show z.rrs.length = i by omega]; exact hz]; rfl]
    refine kSeq (kReg (kBin rfl rfl rfl (kDone (kSeq (kCondP rfl (fun g0 => (by omega)) (fun g0 => kExit (kExC (kExI (kExB (kSeq (kReg (kMovC rfl (kBin rfl rfl rfl (kMovC rfl (kDone (kRet (endRetA (ra := [.one (.d _)]) rfl ?_)))))))))))))))))
    rw [show i = z.rrs.length by omega, List.take_length]
    rfl

def c_impl_isAsked : C := (.seq (.reg false (.op 0 [] (some 2) none false (.mov (.v (.bool false)))
  .done))
 (.seq (.reg false (.op 0 [] (some 3) none false (.mov (.t 0))
  (.op 1 [] (some 4) none false (.call 4 128 [(.t 3)])
  (.op 2 [] (some 5) none false (.mov (.t 4))
  (.op 3 [] (some 6) (some (5, false)) false (.mov (.t 0))
  (.op 4 [] (some 7) (some (5, false)) false (.bin .eql (.t 6) (.v (.int .i64 255)))
  (.op 5 [] (some 8) none false (.pick (.t 5) (.v (.bool true)) (.t 7))
  (.op 6 [] (some 2) none false (.mov (.t 8))
  .done))))))))
 .ret))
theorem dg_impl_isAsked : Tryz.f85.body.bind (digC Tryz.prog Tryz.f85.ntmps []) = some c_impl_isAsked := by kernel_rfl
theorem rs_impl_isAsked : resSlots Tryz.prog Tryz.f85 = some [.s 2] := by kernel_rfl
theorem ok_impl_isAsked (t : Int) :
    FnOK Tryz.prog 85 [.one (.d (.sc (.int .i64 t)))] (fun ra _ => ra = [.one (.d (.sc (.bool (askedT t))))]) := by
  refine FnOK.ofK Tryz.func85 (by kernel_rfl) dg_impl_isAsked rs_impl_isAsked rfl rfl ?_
  unfold c_impl_isAsked
  refine kSeq (kReg (kMovC rfl (kDone (kSeq (kReg (kMovC rfl (kCallD (ok_impl_TypeOk _) ⟨rfl, trivial⟩ rfl rfl rfl rfl rfl (kMovC rfl (kGS rfl (fun g0 => kGF rfl (kGF rfl (kPickT rfl (kMovC rfl (kMovC rfl (kDone (kRet (endRetA (ra := [.one (.d _)]) rfl ?_)))))))) (fun g0 => kGT rfl (kMovC rfl (kGT rfl (kBin rfl rfl rfl (kPickF rfl (kMovC rfl (kMovC rfl (kDone (kRet (endRetA (ra := [.one (.d _)]) rfl ?_)))))))))))))))))))
  all_goals simp_all [askedT]

def c_impl_Zone_hasName_1 : C := (.seq (.reg false (.op 0 [] (some 2) none false (.box 2 (.t 0))
  (.op 1 [] (some 3) none false (.mov (.v (.bool false)))
  .done)))
 (.seq (.reg false (.op 0 [] (some 4) none false (.fad (.t 2) 0)
  (.op 1 [] (some 5) none false (.load (some 1) (.t 4))
  (.op 2 [] (some 6) none false (.load (some 1) (.t 1))
  (.op 3 [] (some 7) none false (.call 7 113 [(.t 5), (.t 6)])
  (.op 4 [] (some 3) none false (.mov (.t 7))
  .done))))))
 .ret))
theorem dg_impl_Zone_hasName_1 : Tryz.f177.body.bind (digC Tryz.prog Tryz.f177.ntmps []) = some c_impl_Zone_hasName_1 := by kernel_rfl
theorem rs_impl_Zone_hasName_1 : resSlots Tryz.prog Tryz.f177 = some [.s 3] := by kernel_rfl
theorem ok_impl_Zone_hasName_1 (r : Rr) (n : List (List UInt8)) (hr : SmallR r) (hn : n.length ≤ 4194304) (hn' : ∀ b ∈ n, b.length ≤ 4194304) :
    FnOK Tryz.prog 177 [.agg (r.cells.map .d), .one (.ptr [.d (encBB n)])] (fun ra _ => ra = [.one (.d (.sc (.bool (underN r.name n))))]) := by
  refine FnOK.ofK Tryz.func177 (by kernel_rfl) dg_impl_Zone_hasName_1 rs_impl_Zone_hasName_1 rfl rfl ?_
  unfold c_impl_Zone_hasName_1
  have n1 := hr.n.len
  have n2 := hr.n.mem
  refine kSeq (kReg (kBox rfl rfl rfl rfl rfl (kMovC rfl (kDone (kSeq (kReg (kFadP rfl rfl (kLoadP rfl rfl rfl (kLoadC rfl rfl (kCallD (ok_impl_Name_under _ _ (by first | assumption | omega | solve_by_elim [List.getElem_mem] | (simp only [szOut] at *; omega)) (by first | assumption | omega | solve_by_elim [List.getElem_mem] | (simp only [szOut] at *; omega))) ⟨⟨⟨rfl, trivial⟩, Nat.le_of_ble_eq_true rfl⟩, ⟨⟨rfl, trivial⟩, Nat.le_of_ble_eq_true rfl⟩, trivial⟩ rfl rfl rfl rfl rfl (kMovC rfl (kDone (kRet (endRetA (ra := [.one (.d _)]) rfl rfl))))))))))))))

def c_impl_Zone_hasName : C := (.seq (.reg false (.op 0 [] (some 2) none false (.box 2 (.t 0))
  (.op 1 [] (some 3) none false (.box 3 (.t 1))
  (.op 2 [] (some 4) none false (.mov (.v (.bool false)))
  .done))))
 (.seq (.reg false (.op 0 [] (some 5) none false (.fad (.t 2) 1)
  (.op 1 [] (some 6) none false (.load none (.t 5))
  (.op 2 [] (some 7) none false (.clo 177 [] [(.t 3)])
  (.op 3 [] (some 8) none false (.call 8 118 [(.t 6), (.t 7)])
  (.op 4 [] (some 4) none false (.mov (.t 8))
  .done))))))
 .ret))
theorem dg_impl_Zone_hasName : Tryz.f150.body.bind (digC Tryz.prog Tryz.f150.ntmps []) = some c_impl_Zone_hasName := by kernel_rfl
theorem rs_impl_Zone_hasName : resSlots Tryz.prog Tryz.f150 = some [.s 4] := by kernel_rfl
theorem ok_impl_Zone_hasName (z : Zone) (n : List (List UInt8)) (hs : SmallZ z) (hn : n.length ≤ 4194304) (hn' : ∀ b ∈ n, b.length ≤ 4194304) :
    FnOK Tryz.prog 150 [.agg (z.cells.map .d), .agg [.d (encBB n)]] (fun ra _ => ra = [.one (.d (.sc (.bool (hasN z n))))]) := by
  refine FnOK.ofK Tryz.func150 (by kernel_rfl) dg_impl_Zone_hasName rs_impl_Zone_hasName rfl rfl ?_
  unfold c_impl_Zone_hasName
  have h1 := hs.r.len
  refine kSeq (kReg (kBox rfl rfl rfl rfl rfl (kBox rfl rfl rfl rfl rfl (kMovC rfl (kDone (kSeq (kReg (kFadP rfl rfl (kLoadP rfl rfl rfl (kClo rfl rfl ?_))))))))))
  refine kCall1 true (ok_slices_ContainsFunc_Limpl_Rr_impl_Rr z.rrs SmallR (fun r => underN r.name n) h1 hs.r.mem) ⟨rfl, ⟨rfl, ⟨_, Tryz.func177, rfl, by kernel_rfl⟩, _, rfl, ?_⟩, trivial⟩ rfl rfl rfl fun os => ?_
  · rintro _ R ⟨x, hx, rfl, rfl⟩
    exact ⟨by rintro _ rfl; rfl, ok_impl_Zone_hasName_1 x n hx hn hn'⟩
  refine kMovC rfl (kDone (kRet (endRetA (ra := [.one (.d _)]) rfl rfl)))

def c_impl_Zone_lookup : C := (.seq (.reg false (.op 0 [] (some 3) none false (.box 3 (.t 0))
  (.op 1 [] (some 4) none false (.box 4 (.t 1))
  (.op 2 [] (some 6) none false (.mov (.n 7))
  (.op 3 [] (some 7) none false (.mov (.v (.int .i64 0)))
  .done)))))
 (.seq (.seq (.reg false (.op 0 [] (some 12) none false (.load (some 1) (.t 4))
  (.op 1 [] (some 13) none false (.fad (.t 3) 0)
  (.op 2 [] (some 14) none false (.load (some 1) (.t 13))
  (.op 3 [] (some 15) none false (.call 15 113 [(.t 12), (.t 14)])
  (.op 4 [] (some 16) none false (.un .not (.t 15))
  .done))))))
 (.cond (.t 16)
 (.seq (.reg false (.op 0 [] (some 6) none false (.mov (.n 7))
  (.op 1 [] (some 7) none false (.mov (.v (.int .i64 5)))
  .done)))
 .ret)
 .skip))
 (.seq (.seq (.reg false (.op 0 [] (some 17) none false (.fad (.t 4) 0)
  (.op 1 [] (some 18) none false (.load none (.t 17))
  (.op 2 [] (some 19) none false (.len (.t 18))
  (.op 3 [] (some 20) none false (.fad (.t 3) 0)
  (.op 4 [] (some 21) none false (.fad (.t 20) 0)
  (.op 5 [] (some 22) none false (.load none (.t 21))
  (.op 6 [] (some 23) none false (.len (.t 22))
  (.op 7 [] (some 24) none false (.bin .sub (.t 19) (.t 23))
  (.op 8 [] (some 25) none false (.bin .sub (.t 24) (.v (.int .i64 1)))
  (.op 9 [] (some 8) none false (.mov (.t 25))
  .done)))))))))))
 (.block 0 (.loop (.seq (.seq (.reg false (.op 0 [] (some 26) none false (.mov (.t 8))
  (.op 1 [] (some 27) none false (.bin .geq (.t 26) (.v (.int .i64 0)))
  .done)))
 (.cond (.t 27)
 .skip
 (.exit 0)))
 (.seq (.block 1 (.seq (.reg true (.op 0 [] (some 30) none true (.load (some 2) (.t 3))
  (.op 1 [] (some 31) none true (.fad (.t 4) 0)
  (.op 2 [] (some 32) none true (.load none (.t 31))
  (.op 3 [] (some 33) none true (.mov (.t 8))
  (.op 4 [] (some 34) none true (.cut 1 (.t 32) (some (.t 33)) none)
  (.op 5 [] (some 35) none true (.build [(.n 1)] [(0, 1, (.t 34))])
  (.op 6 [0, 2] (some 36) none false (.call 36 115 [(.t 30), (.t 35), (.v (.int .i64 2))])
  (.op 7 [] (some 9) none true (.mov (.t 36))
  .done)))))))))
 (.seq (.reg false (.op 0 [] (some 37) none false (.mov (.t 9))
  (.op 1 [] (some 38) none false (.len (.t 37))
  (.op 2 [] (some 39) none false (.bin .gtr (.t 38) (.v (.int .i64 0)))
  .done))))
 (.cond (.t 39)
 (.seq (.reg false (.op 0 [] (some 40) none false (.mov (.t 9))
  (.op 1 [] (some 6) none false (.mov (.t 40))
  (.op 2 [] (some 7) none false (.mov (.v (.int .i64 2)))
  .done))))
 .ret)
 .skip))))
 (.reg false (.op 0 [] (some 28) none false (.mov (.t 8))
  (.op 1 [] (some 29) none false (.bin .sub (.t 28) (.v (.int .i64 1)))
  (.op 2 [] (some 8) none false (.mov (.t 29))
  .done)))))))))
 (.seq (.seq (.reg false (.op 0 [] (some 41) none false (.load (some 2) (.t 3))
  (.op 1 [] (some 42) none false (.load (some 1) (.t 4))
  (.op 2 [] (some 43) none false (.mov (.t 2))
  (.op 3 [] (some 44) none false (.call 44 115 [(.t 41), (.t 42), (.t 43)])
  (.op 4 [] (some 10) none false (.mov (.t 44))
  .done))))))
 (.seq (.reg false (.op 0 [] (some 45) none false (.mov (.t 10))
  (.op 1 [] (some 46) none false (.len (.t 45))
  (.op 2 [] (some 47) none false (.bin .gtr (.t 46) (.v (.int .i64 0)))
  .done))))
 (.cond (.t 47)
 (.seq (.reg false (.op 0 [] (some 48) none false (.mov (.t 10))
  (.op 1 [] (some 6) none false (.mov (.t 48))
  (.op 2 [] (some 7) none false (.mov (.v (.int .i64 0)))
  .done))))
 .ret)
 .skip)))
 (.seq (.seq (.reg false (.op 0 [] (some 49) none false (.load (some 2) (.t 3))
  (.op 1 [] (some 50) none false (.load (some 1) (.t 4))
  (.op 2 [] (some 51) none false (.call 51 115 [(.t 49), (.t 50), (.v (.int .i64 5))])
  (.op 3 [] (some 11) none false (.mov (.t 51))
  .done)))))
 (.seq (.reg false (.op 0 [] (some 52) none false (.mov (.t 11))
  (.op 1 [] (some 53) none false (.len (.t 52))
  (.op 2 [] (some 54) none false (.bin .gtr (.t 53) (.v (.int .i64 0)))
  .done))))
 (.cond (.t 54)
 (.seq (.reg false (.op 0 [] (some 55) none false (.mov (.t 11))
  (.op 1 [] (some 6) none false (.mov (.t 55))
  (.op 2 [] (some 7) none false (.mov (.v (.int .i64 1)))
  .done))))
 .ret)
 .skip)))
 (.seq (.seq (.reg false (.op 0 [] (some 56) none false (.load (some 2) (.t 3))
  (.op 1 [] (some 57) none false (.load (some 1) (.t 4))
  (.op 2 [] (some 58) none false (.call 58 150 [(.t 56), (.t 57)])
  .done))))
 (.cond (.t 58)
 (.seq (.reg false (.op 0 [] (some 6) none false (.mov (.n 7))
  (.op 1 [] (some 7) none false (.mov (.v (.int .i64 3)))
  .done)))
 .ret)
 .skip))
 (.seq (.reg false (.op 0 [] (some 6) none false (.mov (.n 7))
  (.op 1 [] (some 7) none false (.mov (.v (.int .i64 4)))
  .done)))
 .ret)))))))
theorem dg_impl_Zone_lookup : Tryz.f96.body.bind (digC Tryz.prog Tryz.f96.ntmps []) = some c_impl_Zone_lookup := by kernel_rfl
theorem rs_impl_Zone_lookup : resSlots Tryz.prog Tryz.f96 = some [.s 6, .s 7] := by kernel_rfl
theorem ok_impl_Zone_lookup (z : Zone) (n : List (List UInt8)) (t : Int) (hs : SmallZ z) (hn : SmallBB n) :
    FnOK Tryz.prog 96 [.agg (z.cells.map .d), .agg [.d (encBB n)], .one (.d (.sc (.int .i64 t)))] (fun ra _ => ra = [.one (.d (encR (lookupN z n t).1)), .one (.d (.sc (.int .i64 (lookupN z n t).2)))]) := by
  refine FnOK.ofK Tryz.func96 (by kernel_rfl) dg_impl_Zone_lookup rs_impl_Zone_lookup rfl rfl ?_
  unfold c_impl_Zone_lookup
  have o1 := hs.o.len
  have o2 := hs.o.mem
  have n1 := hn.len
  have n2 := hn.mem
  cases hu : underN n z.origin
  · rw [lookup_out hu]
    refine kSeq (kReg (kBox rfl rfl rfl rfl rfl (kBox rfl rfl rfl rfl rfl (kMovC rfl (kMovC rfl (kDone (kSeq (kSeq (kReg (kLoadP rfl rfl rfl (kFadP rfl rfl (kLoadP rfl rfl rfl (kCallD (ok_impl_Name_under _ _ (by first | assumption | omega | solve_by_elim [List.getElem_mem] | (simp only [szOut] at *; omega)) (by first | assumption | omega | solve_by_elim [List.getElem_mem] | (simp only [szOut] at *; omega))) ⟨⟨⟨rfl, trivial⟩, Nat.le_of_ble_eq_true rfl⟩, ⟨⟨rfl, trivial⟩, Nat.le_of_ble_eq_true rfl⟩, trivial⟩ rfl rfl rfl rfl rfl (kUn rfl rfl (kDone (kCondN rfl (fun g0 => kSeq (kReg (kMovC rfl (kMovC rfl (kDone (kRet (endRetA (ra := [.one (.d _), .one (.d _)]) rfl rfl))))))) (fun g0 => (by (simp [*] at g0)))))))))))))))))))
  have hle := under_le hu
  have hsub : ((n.length - z.origin.length : Nat) : Int) = (n.length : Int) - (z.origin.length : Int) := by omega
  refine kSeq (kReg (kBox rfl rfl rfl rfl rfl (kBox rfl rfl rfl rfl rfl (kMovC rfl (kMovC rfl (kDone (kSeq (kSeq (kReg (kLoadP rfl rfl rfl (kFadP rfl rfl (kLoadP rfl rfl rfl (kCallD (ok_impl_Name_under _ _ (by first | assumption | omega | solve_by_elim [List.getElem_mem] | (simp only [szOut] at *; omega)) (by first | assumption | omega | solve_by_elim [List.getElem_mem] | (simp only [szOut] at *; omega))) ⟨⟨⟨rfl, trivial⟩, Nat.le_of_ble_eq_true rfl⟩, ⟨⟨rfl, trivial⟩, Nat.le_of_ble_eq_true rfl⟩, trivial⟩ rfl rfl rfl rfl rfl (kUn rfl rfl (kDone (kCondN rfl (fun g0 => (by (simp [*] at g0))) (fun g0 => kSkip (kSeq (kSeq (kReg (kMem [(20480, ⟨1, 0, .box [.d _]⟩), (16384, ⟨1, 0, .box [.d _, .d _]⟩)] [(4, .c (.ptr 20480 1 0)), (17, .c (.un)), (18, .c (.un)), (3, .c (.ptr 16384 1 0)), (20, .c (.un)), (21, .c (.un)), (22, .c (.un)), (19, .c (.un)), (23, .c (.un)), (24, .c (.un)), (25, .c (.un))] [] ⟨rfl, rfl, trivial⟩ ⟨rfl, rfl, rfl, rfl, rfl, rfl, rfl, rfl, rfl, rfl, rfl, trivial⟩ rfl (kFadP rfl rfl (kLoadP rfl rfl rfl (kLenR rfl rfl (kFadP rfl rfl (kFadP rfl rfl (kLoadP rfl rfl rfl (kLenR rfl rfl (kDif rfl rfl (by omega) (kDif rfl rfl (by omega) (kMovC rfl (kDone (kBlock ?_)))))))))))))))))))))))))))))))))
  refine kLoop (α := { j : Nat // j ≤ n.length - z.origin.length ∧ refAt z n (n.length - z.origin.length) = refAt z n j }) (fun y => ⟨tabSl [(2, .i t), (3, .c (.ptr (rid 3 0) 1 0)), (4, .c (.ptr (rid 4 0) 1 0)), (8, .i ((y.1 : Int) - 1))], obTab 1 [(rid 3 0, ⟨1, 0, .box (z.cells.map .d)⟩), (rid 4 0, ⟨1, 0, .box [.d (encBB n)]⟩)], []⟩) (fun y => y.1) ⟨n.length - z.origin.length, Nat.le_refl _, rfl⟩ .normA ?_
  rintro ⟨j, hj, hr⟩
  simp only
  cases j with
  | zero =>
    rw [lookup_none hu hr]
    have l1 : (setOf z.rrs n t).length ≤ z.rrs.length := List.length_filter_le _ _
    have l2 : (setOf z.rrs n 5).length ≤ z.rrs.length := List.length_filter_le _ _
    have h1 := hs.r.len
    by_cases p1 : 0 < (setOf z.rrs n t).length
    · rw [if_pos p1]
      refine kSeq (kSeq (kReg (kMovC rfl (kBin rfl rfl rfl (kDone (kCondF rfl (kExit (kExC (kExI (kExB (kSeq (kSeq (kReg (kLoadP rfl rfl rfl (kLoadP rfl rfl rfl (kMovC rfl (kCallD2 (ok_impl_Zone_set _ _ _ (by first | assumption | omega | solve_by_elim [List.getElem_mem] | (simp only [szOut] at *; omega)) (by first | assumption | omega | solve_by_elim [List.getElem_mem] | (simp only [szOut] at *; omega))) ⟨⟨⟨rfl, rfl, trivial⟩, Nat.le_of_ble_eq_true rfl⟩, ⟨⟨rfl, trivial⟩, Nat.le_of_ble_eq_true rfl⟩, rfl, trivial⟩ rfl rfl rfl rfl (kMovC rfl (kDone (kSeq (kReg (kMovC rfl (kLenR rfl rfl (kBin rfl rfl rfl (kDone (kCondP rfl (fun g0 => kSeq (kReg (kMovC rfl (kMovC rfl (kMovC rfl (kDone (kRet (endRetA (ra := [.one (.d _), .one (.d _)]) rfl rfl)))))))) (fun g0 => (by omega))))))))))))))))))))))))))))
    rw [if_neg p1]
    by_cases p2 : 0 < (setOf z.rrs n 5).length
    · rw [if_pos p2]
      refine kSeq (kSeq (kReg (kMovC rfl (kBin rfl rfl rfl (kDone (kCondF rfl (kExit (kExC (kExI (kExB (kSeq (kSeq (kReg (kLoadP rfl rfl rfl (kLoadP rfl rfl rfl (kMovC rfl (kCallD2 (ok_impl_Zone_set _ _ _ (by first | assumption | omega | solve_by_elim [List.getElem_mem] | (simp only [szOut] at *; omega)) (by first | assumption | omega | solve_by_elim [List.getElem_mem] | (simp only [szOut] at *; omega))) ⟨⟨⟨rfl, rfl, trivial⟩, Nat.le_of_ble_eq_true rfl⟩, ⟨⟨rfl, trivial⟩, Nat.le_of_ble_eq_true rfl⟩, rfl, trivial⟩ rfl rfl rfl rfl (kMovC rfl (kDone (kSeq (kReg (kMovC rfl (kLenR rfl rfl (kBin rfl rfl rfl (kDone (kCondP rfl (fun g0 => (by omega)) (fun g0 => kSkip (kSeq (kSeq (kReg (kMem [(16384, ⟨1, 0, .box [.d _, .d _]⟩), (20480, ⟨1, 0, .box [.d _]⟩)] [(3, .c (.ptr 16384 1 0)), (4, .c (.ptr 20480 1 0))] [] ⟨rfl, rfl, trivial⟩ ⟨rfl, rfl, trivial⟩ rfl (kLoadP rfl rfl rfl (kLoadP rfl rfl rfl (kCallD2 (ok_impl_Zone_set _ _ _ (by first | assumption | omega | solve_by_elim [List.getElem_mem] | (simp only [szOut] at *; omega)) (by first | assumption | omega | solve_by_elim [List.getElem_mem] | (simp only [szOut] at *; omega))) ⟨⟨⟨rfl, rfl, trivial⟩, Nat.le_of_ble_eq_true rfl⟩, ⟨⟨rfl, trivial⟩, Nat.le_of_ble_eq_true rfl⟩, rfl, trivial⟩ rfl rfl rfl rfl (kMovC rfl (kDone (kSeq (kReg (kMovC rfl (kLenR rfl rfl (kBin rfl rfl rfl (kDone (kCondP rfl (fun g1 => kSeq (kReg (kMovC rfl (kMovC rfl (kMovC rfl (kDone (kRet (endRetA (ra := [.one (.d _), .one (.d _)]) rfl rfl)))))))) (fun g1 => (by omega)))))))))))))))))))))))))))))))))))))))))))))
    rw [if_neg p2]
    cases p3 : hasN z n
    · refine kSeq (kSeq (kReg (kMovC rfl (kBin rfl rfl rfl (kDone (kCondF rfl (kExit (kExC (kExI (kExB (kSeq (kSeq (kReg (kLoadP rfl rfl rfl (kLoadP rfl rfl rfl (kMovC rfl (kCallD2 (ok_impl_Zone_set _ _ _ (by first | assumption | omega | solve_by_elim [List.getElem_mem] | (simp only [szOut] at *; omega)) (by first | assumption | omega | solve_by_elim [List.getElem_mem] | (simp only [szOut] at *; omega))) ⟨⟨⟨rfl, rfl, trivial⟩, Nat.le_of_ble_eq_true rfl⟩, ⟨⟨rfl, trivial⟩, Nat.le_of_ble_eq_true rfl⟩, rfl, trivial⟩ rfl rfl rfl rfl (kMovC rfl (kDone (kSeq (kReg (kMovC rfl (kLenR rfl rfl (kBin rfl rfl rfl (kDone (kCondP rfl (fun g0 => (by omega)) (fun g0 => kSkip (kSeq (kSeq (kReg (kMem [(16384, ⟨1, 0, .box [.d _, .d _]⟩), (20480, ⟨1, 0, .box [.d _]⟩)] [(3, .c (.ptr 16384 1 0)), (4, .c (.ptr 20480 1 0))] [] ⟨rfl, rfl, trivial⟩ ⟨rfl, rfl, trivial⟩ rfl (kLoadP rfl rfl rfl (kLoadP rfl rfl rfl (kCallD2 (ok_impl_Zone_set _ _ _ (by first | assumption | omega | solve_by_elim [List.getElem_mem] | (simp only [szOut] at *; omega)) (by first | assumption | omega | solve_by_elim [List.getElem_mem] | (simp only [szOut] at *; omega))) ⟨⟨⟨rfl, rfl, trivial⟩, Nat.le_of_ble_eq_true rfl⟩, ⟨⟨rfl, trivial⟩, Nat.le_of_ble_eq_true rfl⟩, rfl, trivial⟩ rfl rfl rfl rfl (kMovC rfl (kDone (kSeq (kReg (kMovC rfl (kLenR rfl rfl (kBin rfl rfl rfl (kDone (kCondP rfl (fun g1 => (by omega)) (fun g1 => kSkip (kSeq (kSeq (kReg (kLoadP rfl rfl rfl (kLoadP rfl rfl rfl (kCallD (ok_impl_Zone_hasName _ _ (by first | assumption | omega | solve_by_elim [List.getElem_mem] | (simp only [szOut] at *; omega)) (by first | assumption | omega | solve_by_elim [List.getElem_mem] | (simp only [szOut] at *; omega)) (by first | assumption | omega | solve_by_elim [List.getElem_mem] | (simp only [szOut] at *; omega))) ⟨⟨⟨rfl, rfl, trivial⟩, Nat.le_of_ble_eq_true rfl⟩, ⟨⟨rfl, trivial⟩, Nat.le_of_ble_eq_true rfl⟩, trivial⟩ rfl rfl rfl rfl rfl (kDone (kCond rfl (fun g2 => (by (simp [*] at g2))) (fun g2 => kSkip (kSeq (kReg (kMovC rfl (kMovC rfl (kDone (kRet (endRetA (ra := [.one (.d _), .one (.d _)]) rfl rfl))))))))))))))))))))))))))))))))))))))))))))))))))))))))))))
    · refine kSeq (kSeq (kReg (kMovC rfl (kBin rfl rfl rfl (kDone (kCondF rfl (kExit (kExC (kExI (kExB (kSeq (kSeq (kReg (kLoadP rfl rfl rfl (kLoadP rfl rfl rfl (kMovC rfl (kCallD2 (ok_impl_Zone_set _ _ _ (by first | assumption | omega | solve_by_elim [List.getElem_mem] | (simp only [szOut] at *; omega)) (by first | assumption | omega | solve_by_elim [List.getElem_mem] | (simp only [szOut] at *; omega))) ⟨⟨⟨rfl, rfl, trivial⟩, Nat.le_of_ble_eq_true rfl⟩, ⟨⟨rfl, trivial⟩, Nat.le_of_ble_eq_true rfl⟩, rfl, trivial⟩ rfl rfl rfl rfl (kMovC rfl (kDone (kSeq (kReg (kMovC rfl (kLenR rfl rfl (kBin rfl rfl rfl (kDone (kCondP rfl (fun g0 => (by omega)) (fun g0 => kSkip (kSeq (kSeq (kReg (kMem [(16384, ⟨1, 0, .box [.d _, .d _]⟩), (20480, ⟨1, 0, .box [.d _]⟩)] [(3, .c (.ptr 16384 1 0)), (4, .c (.ptr 20480 1 0))] [] ⟨rfl, rfl, trivial⟩ ⟨rfl, rfl, trivial⟩ rfl (kLoadP rfl rfl rfl (kLoadP rfl rfl rfl (kCallD2 (ok_impl_Zone_set _ _ _ (by first | assumption | omega | solve_by_elim [List.getElem_mem] | (simp only [szOut] at *; omega)) (by first | assumption | omega | solve_by_elim [List.getElem_mem] | (simp only [szOut] at *; omega))) ⟨⟨⟨rfl, rfl, trivial⟩, Nat.le_of_ble_eq_true rfl⟩, ⟨⟨rfl, trivial⟩, Nat.le_of_ble_eq_true rfl⟩, rfl, trivial⟩ rfl rfl rfl rfl (kMovC rfl (kDone (kSeq (kReg (kMovC rfl (kLenR rfl rfl (kBin rfl rfl rfl (kDone (kCondP rfl (fun g1 => (by omega)) (fun g1 => kSkip (kSeq (kSeq (kReg (kLoadP rfl rfl rfl (kLoadP rfl rfl rfl (kCallD (ok_impl_Zone_hasName _ _ (by first | assumption | omega | solve_by_elim [List.getElem_mem] | (simp only [szOut] at *; omega)) (by first | assumption | omega | solve_by_elim [List.getElem_mem] | (simp only [szOut] at *; omega)) (by first | assumption | omega | solve_by_elim [List.getElem_mem] | (simp only [szOut] at *; omega))) ⟨⟨⟨rfl, rfl, trivial⟩, Nat.le_of_ble_eq_true rfl⟩, ⟨⟨rfl, trivial⟩, Nat.le_of_ble_eq_true rfl⟩, trivial⟩ rfl rfl rfl rfl rfl (kDone (kCond rfl (fun g2 => kSeq (kReg (kMovC rfl (kMovC rfl (kDone (kRet (endRetA (ra := [.one (.d _), .one (.d _)]) rfl rfl))))))) (fun g2 => (by (simp [*] at g2)))))))))))))))))))))))))))))))))))))))))))))))))))))))
  | succ k =>
    have e : (((k + 1 : Nat) : Int) - 1).toNat = k := by omega
    have hd : (n.drop ((((k + 1 : Nat) : Int) - 1).toNat)).length ≤ 4194304 := by rw [List.length_drop]; omega
    by_cases hp : 0 < (setOf z.rrs (n.drop ((((k + 1 : Nat) : Int) - 1).toNat)) 2).length
    · have hf : refAt z n (k + 1) = some (n.drop ((((k + 1 : Nat) : Int) - 1).toNat)) := by
        rw [e] at hp ⊢; simp only [refAt, if_pos hp]
      rw [lookup_ref hu (hr.trans hf)]
      refine kSeq (kSeq (kReg (kMovC rfl (kBin rfl rfl rfl (kDone (kCondP rfl (fun g0 => kSkip (kSeq (kBlock (kSeq (kRegD (kLoadP rfl rfl rfl (kFadP rfl rfl (kLoadP rfl rfl rfl (kMovC rfl (kCutLT rfl rfl (by omega) (kBuildG rfl (kRelF rfl rfl (kCallD2 (ok_impl_Zone_set _ _ _ (by first | assumption | omega | solve_by_elim [List.getElem_mem] | (simp only [szOut] at *; omega)) (by first | assumption | omega | solve_by_elim [List.getElem_mem] | (simp only [szOut] at *; omega))) ⟨⟨⟨rfl, rfl, trivial⟩, Nat.le_of_ble_eq_true rfl⟩, ⟨⟨rfl, trivial⟩, Nat.le_of_ble_eq_true rfl⟩, rfl, trivial⟩ rfl rfl rfl rfl (kMovC rfl (kDone (kH (kSeq (kReg (kMovC rfl (kLenR rfl rfl (kBin rfl rfl rfl (kDone (kCondP rfl (fun g1 => kSeq (kReg (kMovC rfl (kMovC rfl (kMovC rfl (kDone (kRet (endRetA (ra := [.one (.d _), .one (.d _)]) rfl rfl)))))))) (fun g1 => (by omega))))))))))))))))))))))))) (fun g0 => (by omega))))))))
    · have hf : refAt z n (k + 1) = refAt z n k := by
        rw [e] at hp; simp only [refAt, if_neg hp]
      refine kSeq (kSeq (kReg (kMovC rfl (kBin rfl rfl rfl (kDone (kCondP rfl (fun g0 => kSkip (kSeq (kBlock (kSeq (kRegD (kLoadP rfl rfl rfl (kFadP rfl rfl (kLoadP rfl rfl rfl (kMovC rfl (kCutLT rfl rfl (by omega) (kBuildG rfl (kRelF rfl rfl (kCallD2 (ok_impl_Zone_set _ _ _ (by first | assumption | omega | solve_by_elim [List.getElem_mem] | (simp only [szOut] at *; omega)) (by first | assumption | omega | solve_by_elim [List.getElem_mem] | (simp only [szOut] at *; omega))) ⟨⟨⟨rfl, rfl, trivial⟩, Nat.le_of_ble_eq_true rfl⟩, ⟨⟨rfl, trivial⟩, Nat.le_of_ble_eq_true rfl⟩, rfl, trivial⟩ rfl rfl rfl rfl (kMovC rfl (kDone (kH (kSeq (kReg (kMovC rfl (kLenR rfl rfl (kBin rfl rfl rfl (kDone (kCondP rfl (fun g1 => (by omega)) (fun g1 => kSkip (kBk (kReg (kMovC rfl (kDif rfl rfl (by omega) (kMovC rfl (kDone ?_)))))))))))))))))))))))))))))) (fun g0 => (by omega))))))))
      refine kInv ⟨⟨k, by omega, by rw [hr, hf]⟩, by simp only; omega, .normA⟩

def c_bytes_Clone : C := (.seq (.reg false (.op 0 [] (some 2) none false (.mov (.n 1))
  .done))
 (.seq (.seq (.reg false (.op 0 [] (some 3) none false (.mov (.t 0))
  (.op 1 [] (some 4) none false (.eqn false (.t 3))
  .done)))
 (.cond (.t 4)
 (.seq (.reg false (.op 0 [] (some 2) none false (.mov (.n 1))
  .done))
 .ret)
 .skip))
 (.seq (.reg false (.op 0 [] (some 5) none false (.lit 5 1 [(.v (.int .u8 0))] 0 [])
  (.op 1 [] (some 6) none false (.mov (.t 0))
  (.op 2 [] (some 7) none false (.app 7 1 1 (.t 5) (.t 6))
  (.op 3 [] (some 2) none false (.mov (.t 7))
  .done)))))
 .ret)))
theorem dg_bytes_Clone : Tryz.f170.body.bind (digC Tryz.prog Tryz.f170.ntmps []) = some c_bytes_Clone := by kernel_rfl
theorem rs_bytes_Clone : resSlots Tryz.prog Tryz.f170 = some [.s 2] := by kernel_rfl
theorem ok_bytes_Clone (b : List UInt8) (hb : b.length ≤ 140737488355328) :
    FnOK Tryz.prog 170 [.one (.d (encB b))] (fun ra _ => ra = [.one (.own true (encB b))]) := by
  refine FnOK.ofK Tryz.func170 (by kernel_rfl) dg_bytes_Clone rs_bytes_Clone rfl rfl ?_
  unfold c_bytes_Clone
  refine kSeq (kReg (kMovC rfl (kDone ?_)))
  refine kSeq (kSeq (kReg (kMovC rfl (kEqn rfl rfl rfl fun n hn => kDone ?_))))
  refine kCond rfl (fun h => ?_) (fun h => ?_)
  · refine kSeq (kReg (kMovC rfl (kDone (kRet ?_))))
    refine endRet (ra := [.one (.own true (.sl 1 []))]) rfl ⟨⟨rfl, trivial⟩, nodupB_sound rfl, trivial, trivial⟩ ?_
    have : b = [] := by
      rw [len_encB] at hn
      cases b with
      | nil => rfl
      | cons x l => have := hn (by simp); simp [this] at h
    rw [this]; rfl
  · refine kSkip (kSeq (kReg ?_))
    refine kLit rfl rfl rfl rfl (kMovC rfl ?_)
    refine kApp (cy := .d (encB b)) rfl rfl rfl (src_encB _ b) rfl rfl ⟨rfl, rfl, Nat.zero_lt_one⟩ rfl ?_ (kMovC rfl (kDone (kRet ?_)))
    · show ((DV.sl 1 (chunk 1 0 [])).len + (encB b).len) * 1 ≤ _ ∧ _
      rw [len_encB]; simp [DV.len, chunk]; omega
    refine endRet (ra := [.one (.own true _)]) rfl ⟨⟨⟨⟨_, rfl, fun _ => rfl⟩, .inl (Nat.zero_lt_succ _)⟩, trivial⟩, nodupB_sound rfl, trivial, trivial⟩ ?_
    exact congrArg (fun x => [RA.one (RV.own true x)]) (app_nil_encB b)

def c_impl_Name_copied : C := (.seq (.reg false (.op 0 [] (some 1) none false (.box 1 (.t 0))
  (.op 1 [] (some 2) none false (.alloc 2 [(.n 1)])
  .done)))
 (.seq (.reg false (.op 0 [] (some 6) none false (.build [(.n 1)] [])
  (.op 1 [] (some 3) none false (.alloc 3 [(.n 1)])
  (.op 2 [] none none false (.store (some 1) (.t 3) (.t 6))
  .done))))
 (.seq (.seq (.reg false (.op 0 [] (some 7) none false (.fad (.t 1) 0)
  (.op 1 [] (some 8) none false (.load none (.t 7))
  (.op 2 [] (some 9) none false (.len (.t 8))
  (.op 3 [] (some 10) none false (.mov (.v (.int .i64 0)))
  .done)))))
 (.block 0 (.loop (.seq (.reg false (.op 0 [] (some 11) none false (.bin .lss (.t 10) (.t 9))
  .done))
 (.seq (.cond (.t 11)
 .skip
 (.exit 0))
 (.seq (.block 1 (.seq (.reg false (.op 0 [] (some 12) none false (.iad 1 (.t 8) (.t 10))
  (.op 1 [] (some 13) none false (.load none (.t 12))
  (.op 2 [] (some 5) none false (.mov (.t 13))
  .done))))
 (.reg true (.op 0 [] (some 14) none true (.fad (.t 3) 0)
  (.op 1 [] (some 15) none true (.load none (.t 14))
  (.op 2 [] (some 16) none true (.mov (.t 5))
  (.op 3 [] (some 17) none false (.call 17 170 [(.t 16)])
  (.op 4 [] (some 18) none false (.lit 18 1 [(.n 1)] 1 [(0, 1, (.t 17))])
  (.op 5 [1] (some 19) none false (.app 19 1 24 (.t 15) (.t 18))
  (.op 6 [] (some 20) none true (.fad (.t 3) 0)
  (.op 7 [1] none none false (.store none (.t 20) (.t 19))
  .done)))))))))))
 (.reg false (.op 0 [] (some 21) none false (.bin .add (.t 10) (.v (.int .i64 1)))
  (.op 1 [] (some 10) none false (.mov (.t 21))
  .done)))))))))
 (.seq (.reg false (.op 0 [] (some 22) none false (.load (some 1) (.t 3))
  (.op 1 [] none none false (.store (some 1) (.t 2) (.t 22))
  .done)))
 .ret))))
theorem dg_impl_Name_copied : Tryz.f135.body.bind (digC Tryz.prog Tryz.f135.ntmps []) = some c_impl_Name_copied := by kernel_rfl
theorem rs_impl_Name_copied : resSlots Tryz.prog Tryz.f135 = some [.m 2 (some 1)] := by kernel_rfl
theorem ok_impl_Name_copied (a : List (List UInt8)) (ha : a.length ≤ 4194304) (hb : ∀ b ∈ a, b.length ≤ 4194304) :
    FnOK Tryz.prog 135 [.agg [.d (encBB a)]] (fun ra _ => ra = [.agg [.own true (encBB a)]]) := by
  refine FnOK.ofK Tryz.func135 (by kernel_rfl) dg_impl_Name_copied rs_impl_Name_copied rfl rfl ?_
  unfold c_impl_Name_copied
  refine kSeq (kReg (kBox rfl rfl rfl rfl rfl (kAlloc rfl rfl (kDone ?_))))
  refine kSeq (kReg (kBuild rfl (kAlloc rfl rfl (kStoreP rfl rfl rfl rfl (kDone ?_)))))
  refine kSeq (kSeq (kReg (kFadP rfl rfl (kLoadP rfl rfl rfl (kLen rfl rfl rfl (kMovC rfl (kDone (kBlock ?_))))))))
  rw [len_encBB]
  refine kSub (Sub.nilBox (id := rid 3 0) (id2 := rid 5000 0) (j := 0) rfl rfl rfl (by decide) (by decide)) ?_
  refine kLoop (α := { i : Nat // i ≤ a.length })
    (fun y => ⟨tabSl [(1, .c (.ptr (rid 1 0) 1 0)), (2, .c (.ptr (rid 2 0) 1 0)), (3, .c (.ptr (rid 3 0) 1 0)), (8, .dv (encBB a)), (9, .i a.length), (10, .i y.1)],
      obTab 1 [(rid 1 0, ⟨1, 0, .box [.d (encBB a)]⟩), (rid 2 0, ⟨1, 0, .box [.nil 1]⟩), (rid 3 0, ⟨1, 0, .box [.arr (rid 5000 0) 1]⟩), (rid 5000 0, ⟨1, 0, .arr true (encBB (a.take y.1))⟩)], []⟩) (fun y => a.length - y.1) ⟨0, by simp⟩
    (.norm ?_ ?_) ?_
  · repeat' first | exact trivial | exact rfl | exact .inl rfl | refine ⟨_, rfl, ?_⟩ | refine ⟨?_, ?_⟩ | fail
  · repeat' first | exact trivial | exact rfl | exact .inl rfl | refine ⟨_, rfl, ?_⟩ | refine ⟨?_, ?_⟩ | fail
  rintro ⟨i, hi⟩
  simp only at hi ⊢
  refine kSeq (kReg (kBin rfl rfl rfl (kDone (kSeq ?_))))
  refine kCond rfl (fun h1 => ?_) (fun h1 => ?_)
  · have hlt : i < a.length := by simp at h1; omega
    refine kSkip (kSeq (kBlock (kSeq (kReg ?_))))
    refine kIadD rfl rfl rfl rfl ?_ ?_
    · rw [len_encBB]; omega
    rw [show (encBB a).row (i : Int).toNat = [encB a[i]] from row_encBB a i hlt]
    refine kLoadD rfl rfl (kMovC rfl (kDone (kRegD (kFadP rfl rfl (kLoadP rfl rfl rfl (kMovC rfl ?_))))))
    refine kCall1 false (ok_bytes_Clone a[i] (Nat.le_trans (hb _ (List.getElem_mem hlt)) (by omega))) ⟨rfl, trivial⟩ rfl rfl rfl fun os => ?_
    refine kLit rfl rfl rfl rfl (kRelF rfl rfl ?_)
    refine kApp rfl rfl rfl rfl rfl rfl ⟨rfl, rfl, Nat.zero_lt_one⟩ rfl ?_ ?_
    · show ((encBB (a.take i)).len + (DV.sl 1 [[encB a[i]]]).len) * 24 ≤ _ ∧ (encBB (a.take i)).len + (DV.sl 1 [[encB a[i]]]).len ≤ _
      rw [len_encBB, List.length_take]; simp [DV.len, DV.rows]; omega
    refine kFadP rfl rfl (kRelF rfl rfl (kStoreP rfl rfl rfl rfl (kDone (kH (kBk (kReg (kAdd rfl rfl (by omega) (kMovC rfl (kDone ?_)))))))))
    refine kInv ⟨⟨i + 1, hlt⟩, by simp only; omega, .norm ?_ ?_⟩
    · repeat' first | exact trivial | exact rfl | exact .inl rfl | refine ⟨_, rfl, ?_⟩ | refine ⟨?_, ?_⟩ | fail
    · repeat' first | exact trivial | exact rfl | exact .inl rfl | refine ⟨_, rfl, ?_⟩ | refine ⟨?_, ?_⟩ | fail
      rw [← List.take_append_getElem hlt, ← app_encBB]
      rfl
  · refine kExit (kExC (kExI (kExB (kSeq (kReg (kLoadP rfl rfl rfl (kStoreP rfl rfl rfl rfl (kDone ?_))))))))
    have hge : i = a.length := by simp at h1; omega
    subst hge
    refine kRet (endRet (ra := [.agg [.own true _]]) rfl ⟨⟨⟨⟨⟨⟨_, rfl, fun _ => rfl⟩, .inl Nat.zero_lt_one⟩, trivial⟩, Nat.le_of_ble_eq_true rfl⟩, trivial⟩, nodupB_sound rfl, ⟨trivial, trivial⟩, trivial⟩ ?_)
    rw [List.take_length]

def c_slices_Clone_Lint_int : C := (.seq (.reg false (.op 0 [] (some 2) none false (.mov (.n 1))
  .done))
 (.seq (.seq (.reg false (.op 0 [] (some 3) none false (.mov (.t 0))
  (.op 1 [] (some 4) none false (.eqn false (.t 3))
  .done)))
 (.cond (.t 4)
 (.seq (.reg false (.op 0 [] (some 2) none false (.mov (.n 1))
  .done))
 .ret)
 .skip))
 (.seq (.reg false (.op 0 [] (some 5) none false (.lit 5 1 [(.v (.int .i64 0))] 0 [])
  (.op 1 [] (some 6) none false (.mov (.t 0))
  (.op 2 [] (some 7) none false (.app 7 1 8 (.t 5) (.t 6))
  (.op 3 [] (some 2) none false (.mov (.t 7))
  .done)))))
 .ret)))
theorem dg_slices_Clone_Lint_int : Tryz.f136.body.bind (digC Tryz.prog Tryz.f136.ntmps []) = some c_slices_Clone_Lint_int := by kernel_rfl
theorem rs_slices_Clone_Lint_int : resSlots Tryz.prog Tryz.f136 = some [.s 2] := by kernel_rfl
theorem ok_slices_Clone_Lint_int (b : List Int) (hb : b.length ≤ 4194304) :
    FnOK Tryz.prog 136 [.one (.d (encI b))] (fun ra _ => ra = [.one (.own true (encI b))]) := by
  refine FnOK.ofK Tryz.func136 (by kernel_rfl) dg_slices_Clone_Lint_int rs_slices_Clone_Lint_int rfl rfl ?_
  unfold c_slices_Clone_Lint_int
  refine kSeq (kReg (kMovC rfl (kDone ?_)))
  refine kSeq (kSeq (kReg (kMovC rfl (kEqn rfl rfl rfl fun n hn => kDone ?_))))
  refine kCond rfl (fun h => ?_) (fun h => ?_)
  · refine kSeq (kReg (kMovC rfl (kDone (kRet ?_))))
    refine endRet (ra := [.one (.own true (.sl 1 []))]) rfl ⟨⟨rfl, trivial⟩, nodupB_sound rfl, trivial, trivial⟩ ?_
    have : b = [] := by
      rw [len_encI] at hn
      cases b with
      | nil => rfl
      | cons x l => have := hn (by simp); simp [this] at h
    rw [this]; rfl
  · refine kSkip (kSeq (kReg ?_))
    refine kLit rfl rfl rfl rfl (kMovC rfl ?_)
    refine kApp (cy := .d (encI b)) rfl rfl rfl (src_encI _ b) rfl rfl ⟨rfl, rfl, Nat.zero_lt_one⟩ rfl ?_ (kMovC rfl (kDone (kRet ?_)))
    · show ((DV.sl 1 (chunk 1 0 [])).len + (encI b).len) * 8 ≤ _ ∧ _
      rw [len_encI]; simp [DV.len, chunk]; omega
    refine endRet (ra := [.one (.own true _)]) rfl ⟨⟨⟨⟨_, rfl, fun _ => rfl⟩, .inl (Nat.zero_lt_succ _)⟩, trivial⟩, nodupB_sound rfl, trivial, trivial⟩ ?_
    exact congrArg (fun x => [RA.one (RV.own true x)]) (app_nil_encI b)

def c_impl_Rr_copied : C := (.seq (.reg false (.op 0 [] (some 1) none false (.box 1 (.t 0))
  (.op 1 [] (some 2) none false (.alloc 2 [(.n 1), (.v (.int .i64 0)), (.v (.int .i64 0)), (.v (.int .i64 0)), (.n 1), (.n 1), (.n 1)])
  .done)))
 (.seq (.reg true (.op 0 [] (some 3) none true (.fad (.t 1) 0)
  (.op 1 [] (some 4) none true (.load (some 1) (.t 3))
  (.op 3 [] (some 6) none true (.fad (.t 1) 4)
  (.op 4 [] (some 7) none true (.load (some 1) (.t 6))
  (.op 6 [] (some 9) none true (.fad (.t 1) 5)
  (.op 7 [] (some 10) none true (.load none (.t 9))
  (.op 9 [] (some 12) none true (.fad (.t 1) 6)
  (.op 10 [] (some 13) none true (.load none (.t 12))
  (.op 2 [1] (some 5) none false (.call 5 135 [(.t 4)])
  (.op 12 [] (some 15) none true (.fad (.t 1) 0)
  (.op 5 [4, 1] (some 8) none false (.call 8 135 [(.t 7)])
  (.op 8 [7, 4, 1] (some 11) none false (.call 11 170 [(.t 10)])
  (.op 11 [10, 7, 4, 1] (some 14) none false (.call 14 136 [(.t 13)])
  (.op 13 [1, 4, 7, 10] none none false (.store (some 1) (.t 15) (.t 5))
  (.op 14 [] (some 16) none true (.fad (.t 1) 4)
  (.op 15 [1, 4, 7, 10] none none false (.store (some 1) (.t 16) (.t 8))
  (.op 16 [] (some 17) none true (.fad (.t 1) 5)
  (.op 17 [1, 4, 7, 10] none none false (.store none (.t 17) (.t 11))
  (.op 18 [] (some 18) none true (.fad (.t 1) 6)
  (.op 19 [1, 4, 7, 10] none none false (.store none (.t 18) (.t 14))
  .done)))))))))))))))))))))
 (.seq (.reg false (.op 0 [] (some 19) none false (.load (some 7) (.t 1))
  (.op 1 [] none none false (.store (some 7) (.t 2) (.t 19))
  .done)))
 .ret)))
theorem dg_impl_Rr_copied : Tryz.f151.body.bind (digC Tryz.prog Tryz.f151.ntmps []) = some c_impl_Rr_copied := by kernel_rfl
theorem rs_impl_Rr_copied : resSlots Tryz.prog Tryz.f151 = some [.m 2 (some 7)] := by kernel_rfl
theorem ok_impl_Rr_copied (r : Rr) (hs : SmallR r) :
    FnOK Tryz.prog 151 [.agg (r.cells.map .d)] (fun ra _ => ra = [.agg [.own true (encBB r.name), .d (.sc (.int .i64 r.ty)), .d (.sc (.int .i64 r.ttl)), .d (.sc (.int .i64 r.addr)), .own true (encBB r.to), .own true (encB r.text), .own true (encI r.nums)]]) := by
  refine FnOK.ofK Tryz.func151 (by kernel_rfl) dg_impl_Rr_copied rs_impl_Rr_copied rfl rfl ?_
  unfold c_impl_Rr_copied
  have n1 := hs.n.len
  have n2 := hs.n.mem
  have t1 := hs.t.len
  have t2 := hs.t.mem
  have x1 := hs.x
  have m1 := hs.m
  refine kSeq (kCut ⟨tabSl [(1, .c (.ptr (rid 1 0) 1 0)), (2, .c (.ptr (rid 2 0) 1 0))], obTab 1 [(rid 1 0, ⟨1, 0, .box (r.cells.map .d)⟩), (rid 2 0, ⟨1, 0, .box [.nil 1, .d (.sc (.int .i64 0)), .d (.sc (.int .i64 0)), .d (.sc (.int .i64 0)), .nil 1, .nil 1, .nil 1]⟩)], []⟩ ?_ (fun x hc => ?_))
  case refine_2 => refine kReg (kBox rfl rfl rfl rfl rfl (kAlloc rfl rfl (kDone (kMem [(8192, ⟨1, 0, .box [.d _, .d _, .d _, .d _, .d _, .d _, .d _]⟩), (12288, ⟨1, 0, .box [.nil 1, .d _, .d _, .d _, .nil 1, .nil 1, .nil 1]⟩)] [(1, .c (.ptr 8192 1 0)), (2, .c (.ptr 12288 1 0))] [] ⟨rfl, rfl, trivial⟩ ⟨rfl, rfl, trivial⟩ rfl (hc _ .normA)))))
  refine kSeq (kCut ⟨tabSl [(1, .c (.ptr (rid 1 0) 1 0)), (2, .c (.ptr (rid 2 0) 1 0))], obTab 1 [(rid 1 0, ⟨1, 0, .box [.arr (rid 5 0) 1, .d (.sc (.int .i64 r.ty)), .d (.sc (.int .i64 r.ttl)), .d (.sc (.int .i64 r.addr)), .arr (rid 8 0) 1, .arr (rid 11 0) 1, .arr (rid 14 0) 1]⟩), (rid 2 0, ⟨1, 0, .box [.nil 1, .d (.sc (.int .i64 0)), .d (.sc (.int .i64 0)), .d (.sc (.int .i64 0)), .nil 1, .nil 1, .nil 1]⟩), (rid 5 0, ⟨1, 0, .arr true (encBB r.name)⟩), (rid 8 0, ⟨1, 0, .arr true (encBB r.to)⟩), (rid 11 0, ⟨1, 0, .arr true (encB r.text)⟩), (rid 14 0, ⟨1, 0, .arr true (encI r.nums)⟩)], []⟩ ?_ (fun x hc => ?_))
  case refine_2 => refine kRegD (kFadP rfl rfl (kLoadP rfl rfl rfl (kFadP rfl rfl (kLoadP rfl rfl rfl (kFadP rfl rfl (kLoadP rfl rfl rfl (kFadP rfl rfl (kLoadP rfl rfl rfl (kMem [(8192, ⟨1, 0, .box [.d _, .d _, .d _, .d _, .d _, .d _, .d _]⟩)] [(4, .g [.d _]), (1, .c (.ptr 8192 1 0)), (7, .g [.d _]), (10, .c (.d _)), (13, .c (.d _))] [8192, 8192, 8192, 8192] ⟨rfl, trivial⟩ ⟨rfl, rfl, rfl, rfl, rfl, trivial⟩ rfl (kRelK rfl rfl (kCall1 true (ok_impl_Name_copied _ (by first | assumption | omega | solve_by_elim [List.getElem_mem] | (simp only [szOut] at *; omega)) (by first | assumption | omega | solve_by_elim [List.getElem_mem] | (simp only [szOut] at *; omega))) ⟨⟨⟨rfl, trivial⟩, Nat.le_of_ble_eq_true rfl⟩, trivial⟩ rfl rfl rfl (fun _ => (kFadP rfl rfl (kRelK rfl rfl (kCall1 true (ok_impl_Name_copied _ (by first | assumption | omega | solve_by_elim [List.getElem_mem] | (simp only [szOut] at *; omega)) (by first | assumption | omega | solve_by_elim [List.getElem_mem] | (simp only [szOut] at *; omega))) ⟨⟨⟨rfl, trivial⟩, Nat.le_of_ble_eq_true rfl⟩, trivial⟩ rfl rfl rfl (fun _ => (kRelK rfl rfl (kCall1 true (ok_bytes_Clone _ (by first | assumption | omega | solve_by_elim [List.getElem_mem] | (simp only [szOut] at *; omega))) ⟨rfl, trivial⟩ rfl rfl rfl (fun _ => (kRelF rfl rfl (kCall1 true (ok_slices_Clone_Lint_int _ (by first | assumption | omega | solve_by_elim [List.getElem_mem] | (simp only [szOut] at *; omega))) ⟨rfl, trivial⟩ rfl rfl rfl (fun _ => (kRelF rfl rfl (kStoreP rfl rfl rfl rfl (kFadP rfl rfl (kRelF rfl rfl (kStoreP rfl rfl rfl rfl (kFadP rfl rfl (kRelF rfl rfl (kStoreP rfl rfl rfl rfl (kFadP rfl rfl (kRelF rfl rfl (kStoreP rfl rfl rfl rfl (kDone (kH (kMem [(8192, ⟨1, 0, .box [.arr 24576 2, .d _, .d _, .d _, .arr 36864 2, .arr 49152 2, .arr 61440 2]⟩), (12288, ⟨1, 0, .box [.nil 1, .d _, .d _, .d _, .nil 1, .nil 1, .nil 1]⟩), (24576, ⟨2, 0, .arr true _⟩), (36864, ⟨2, 0, .arr true _⟩), (49152, ⟨2, 0, .arr true _⟩), (61440, ⟨2, 0, .arr true _⟩)] [(1, .c (.ptr 8192 1 0)), (2, .c (.ptr 12288 1 0))] [] ⟨rfl, rfl, rfl, rfl, rfl, rfl, trivial⟩ ⟨rfl, rfl, trivial⟩ rfl (hc _ .normA)))))))))))))))))))))))))))))))))))))
  refine kSeq (kCut ⟨tabSl [(2, .c (.ptr (rid 2 0) 1 0))], obTab 1 [(rid 2 0, ⟨1, 0, .box [.arr (rid 5 0) 1, .d (.sc (.int .i64 r.ty)), .d (.sc (.int .i64 r.ttl)), .d (.sc (.int .i64 r.addr)), .arr (rid 8 0) 1, .arr (rid 11 0) 1, .arr (rid 14 0) 1]⟩), (rid 5 0, ⟨1, 0, .arr true (encBB r.name)⟩), (rid 8 0, ⟨1, 0, .arr true (encBB r.to)⟩), (rid 11 0, ⟨1, 0, .arr true (encB r.text)⟩), (rid 14 0, ⟨1, 0, .arr true (encI r.nums)⟩)], []⟩ ?_ (fun x hc => ?_))
  case refine_2 => refine kReg (kLoadP rfl rfl rfl (kMem [(12288, ⟨1, 0, .box [.nil 1, .d _, .d _, .d _, .nil 1, .nil 1, .nil 1]⟩), (24576, ⟨1, 0, .arr true _⟩), (36864, ⟨1, 0, .arr true _⟩), (49152, ⟨1, 0, .arr true _⟩), (61440, ⟨1, 0, .arr true _⟩)] [(2, .c (.ptr 12288 1 0)), (19, .g [.arr 24576 1, .d _, .d _, .d _, .arr 36864 1, .arr 49152 1, .arr 61440 1])] [] ⟨rfl, rfl, rfl, rfl, rfl, trivial⟩ ⟨rfl, rfl, trivial⟩ rfl (kStoreP rfl rfl rfl rfl (kDone (kMem [(12288, ⟨1, 0, .box [.arr 24576 1, .d _, .d _, .d _, .arr 36864 1, .arr 49152 1, .arr 61440 1]⟩), (24576, ⟨1, 0, .arr true _⟩), (36864, ⟨1, 0, .arr true _⟩), (49152, ⟨1, 0, .arr true _⟩), (61440, ⟨1, 0, .arr true _⟩)] [(2, .c (.ptr 12288 1 0))] [] ⟨rfl, rfl, rfl, rfl, rfl, trivial⟩ ⟨rfl, trivial⟩ rfl (hc _ .normA))))))
  refine kMem [(12288, ⟨1, 0, .box [.arr 24576 1, .d _, .d _, .d _, .arr 36864 1, .arr 49152 1, .arr 61440 1]⟩), (24576, ⟨1, 0, .arr true _⟩), (36864, ⟨1, 0, .arr true _⟩), (49152, ⟨1, 0, .arr true _⟩), (61440, ⟨1, 0, .arr true _⟩)] [(2, .c (.ptr 12288 1 0))] [] ⟨rfl, rfl, rfl, rfl, rfl, trivial⟩ ⟨rfl, trivial⟩ rfl (kRet (endRetA (ra := [.agg [(.own true _), (.d _), (.d _), (.d _), (.own true _), (.own true _), (.own true _)]]) rfl rfl))

def c_impl_copyRrs : C := (.seq (.reg false (.op 0 [] (some 2) none false (.mov (.n 7))
  .done))
 (.seq (.reg false (.op 0 [] (some 6) none false (.lit 6 7 [(.n 1), (.v (.int .i64 0)), (.v (.int .i64 0)), (.v (.int .i64 0)), (.n 1), (.n 1), (.n 1)] 0 [])
  (.op 1 [] (some 3) none false (.mov (.t 6))
  .done)))
 (.seq (.seq (.reg false (.op 0 [] (some 7) none false (.mov (.t 0))
  (.op 1 [] (some 8) none false (.len (.t 7))
  (.op 2 [] (some 9) none false (.mov (.v (.int .i64 0)))
  .done))))
 (.block 0 (.loop (.seq (.reg false (.op 0 [] (some 10) none false (.bin .lss (.t 9) (.t 8))
  .done))
 (.seq (.cond (.t 10)
 .skip
 (.exit 0))
 (.seq (.block 1 (.seq (.reg false (.op 0 [] (some 11) none false (.iad 7 (.t 7) (.t 9))
  (.op 1 [] (some 12) none false (.load (some 7) (.t 11))
  (.op 2 [] (some 5) none false (.alloc 5 [(.n 1), (.v (.int .i64 0)), (.v (.int .i64 0)), (.v (.int .i64 0)), (.n 1), (.n 1), (.n 1)])
  (.op 3 [] none none false (.store (some 7) (.t 5) (.t 12))
  .done)))))
 (.reg false (.op 0 [] (some 13) none false (.mov (.t 3))
  (.op 1 [] (some 14) none false (.load (some 7) (.t 5))
  (.op 2 [] (some 15) none false (.call 15 151 [(.t 14)])
  (.op 3 [] (some 16) none false (.lit 16 7 [(.n 1), (.v (.int .i64 0)), (.v (.int .i64 0)), (.v (.int .i64 0)), (.n 1), (.n 1), (.n 1)] 1 [(0, 7, (.t 15))])
  (.op 4 [] (some 17) none false (.app 17 7 120 (.t 13) (.t 16))
  (.op 5 [] (some 3) none false (.mov (.t 17))
  .done)))))))))
 (.reg false (.op 0 [] (some 18) none false (.bin .add (.t 9) (.v (.int .i64 1)))
  (.op 1 [] (some 9) none false (.mov (.t 18))
  .done)))))))))
 (.seq (.reg false (.op 0 [] (some 19) none false (.mov (.t 3))
  (.op 1 [] (some 2) none false (.mov (.t 19))
  .done)))
 .ret))))
theorem dg_impl_copyRrs : Tryz.f97.body.bind (digC Tryz.prog Tryz.f97.ntmps []) = some c_impl_copyRrs := by kernel_rfl
theorem rs_impl_copyRrs : resSlots Tryz.prog Tryz.f97 = some [.s 2] := by kernel_rfl
theorem ok_impl_copyRrs (l : List Rr) (hs : SmallRs l) :
    FnOK Tryz.prog 97 [.one (.d (encR l))] (fun ra _ => ra = [.one (.own true (encR l))]) := by
  refine FnOK.ofK Tryz.func97 (by kernel_rfl) dg_impl_copyRrs rs_impl_copyRrs rfl rfl ?_
  unfold c_impl_copyRrs
  have h1 := hs.len
  refine kSeq (kReg (kMovC rfl (kDone (kSeq (kReg (kLit rfl rfl rfl rfl (kMovC rfl (kDone (kSeq (kSeq (kReg (kMovC rfl (kLenR rfl rfl (kMovC rfl (kDone (kBlock ?_))))))))))))))))
  refine kLoop (α := { i : Nat // i ≤ l.length }) (fun y => ⟨tabSl [(3, .c (.arr (rid 6 0) 1)), (7, .dv (encR l)), (8, .i l.length), (9, .i y.1)], obTab 1 [(rid 6 0, ⟨1, 0, .arr true (encR (l.take y.1))⟩)], []⟩) (fun y => l.length - y.1) ⟨0, by simp⟩ .normA ?_
  rintro ⟨i, hi⟩
  simp only
  have hlen : (l.take i).length = i := by simp; omega
  rcases Nat.lt_or_ge i l.length with hlt | hge
  · have hbi := hs.mem _ (List.getElem_mem hlt)
    refine kSeq (kReg (kBin rfl rfl rfl (kDone (kSeq (kCondP rfl (fun g0 => kSkip (kSeq (kBlock (kSeq (kReg (kIadR rfl rfl rfl (by omega) (kLoadD rfl rfl (kAlloc rfl rfl (kMem [(24576, ⟨2, 0, .box [.nil 1, .d _, .d _, .d _, .nil 1, .nil 1, .nil 1]⟩)] [(5, .c (.ptr 24576 2 0)), (12, .g [.d _, .d _, .d _, .d _, .d _, .d _, .d _])] [] ⟨rfl, trivial⟩ ⟨rfl, rfl, trivial⟩ rfl (kStoreP rfl rfl rfl rfl (kDone (kReg (kMovC rfl (kLoadP rfl rfl rfl (kCall1 true (ok_impl_Rr_copied _ (by first | assumption | omega | solve_by_elim [List.getElem_mem] | (simp only [szOut] at *; omega))) ⟨⟨⟨rfl, rfl, rfl, rfl, rfl, rfl, rfl, trivial⟩, Nat.le_of_ble_eq_true rfl⟩, trivial⟩ rfl rfl rfl (fun _ => (kLit rfl rfl rfl rfl (kAppRec rfl rfl rfl rfl rfl rfl rfl (by omega) (kMem [(28672, ⟨2, 0, .arr true _⟩)] [(17, .c (.arr 28672 2))] [] ⟨rfl, trivial⟩ ⟨rfl, trivial⟩ rfl (kMovC rfl (kDone (kBk (kReg (kAdd rfl rfl (by omega) (kMovC rfl (kDone ?_)))))))))))))))))))))))))) (fun g0 => (by omega)))))))
    exact kInv ⟨⟨i + 1, by omega⟩, by simp only; omega, .normA⟩
  · refine kSeq (kReg (kBin rfl rfl rfl (kDone (kSeq (kCondP rfl (fun g0 => (by omega)) (fun g0 => kExit (kExC (kExI (kExB (kSeq (kReg (kMovC rfl (kMovC rfl (kDone (kMem [(28672, ⟨1, 0, .arr true _⟩)] [(2, .c (.arr 28672 1))] [] ⟨rfl, trivial⟩ ⟨rfl, trivial⟩ rfl (kRet (endRetA (ra := [.one (.own true _)]) rfl ?_)))))))))))))))))
    rw [show i = l.length by omega, List.take_length]

def c_impl_Lookup : C := (.seq (.reg false (.op 0 [] (some 3) none false (.box 3 (.t 0))
  (.op 1 [] (some 4) none false (.box 4 (.t 1))
  (.op 2 [] (some 6) none false (.mov (.n 7))
  (.op 3 [] (some 7) none false (.mov (.v (.int .i64 0)))
  .done)))))
 (.seq (.seq (.reg false (.op 0 [] (some 10) none false (.load (some 2) (.t 3))
  (.op 1 [] (some 11) none false (.call 11 53 [(.t 10)])
  (.op 2 [] (some 12) none false (.un .not (.t 11))
  (.op 3 [] (some 13) none false (.mov (.t 12))
  (.op 4 [] (some 14) (some (13, false)) false (.load (some 1) (.t 4))
  (.op 5 [] (some 15) (some (13, false)) false (.call 15 84 [(.t 14)])
  (.op 6 [] (some 16) (some (13, false)) false (.un .not (.t 15))
  (.op 7 [] (some 17) none false (.pick (.t 13) (.v (.bool true)) (.t 16))
  (.op 8 [] (some 18) none false (.mov (.t 17))
  (.op 9 [] (some 19) (some (18, false)) false (.mov (.t 2))
  (.op 10 [] (some 20) (some (18, false)) false (.call 20 85 [(.t 19)])
  (.op 11 [] (some 21) (some (18, false)) false (.un .not (.t 20))
  (.op 12 [] (some 22) none false (.pick (.t 18) (.v (.bool true)) (.t 21))
  .done))))))))))))))
 (.cond (.t 22)
 (.seq (.reg false (.op 0 [] (some 6) none false (.mov (.n 7))
  (.op 1 [] (some 7) none false (.mov (.v (.int .i64 5)))
  .done)))
 .ret)
 .skip))
 (.seq (.reg false (.op 0 [] (some 24) none false (.load (some 2) (.t 3))
  (.op 1 [] (some 25) none false (.load (some 1) (.t 4))
  (.op 2 [] (some 26) none false (.mov (.t 2))
  (.op 3 [] (some 27) none false (.call 27 96 [(.t 24), (.t 25), (.t 26)])
  (.op 4 [] (some 23) none false (.mov (.t 27))
  (.op 5 [] (some 28) none false (.ext (.t 23) 0)
  (.op 6 [] (some 29) none false (.ext (.t 23) 1)
  (.op 7 [] (some 8) none false (.mov (.t 28))
  (.op 8 [] (some 9) none false (.mov (.t 29))
  .done))))))))))
 (.seq (.reg false (.op 0 [] (some 30) none false (.mov (.t 8))
  (.op 1 [] (some 31) none false (.call 31 97 [(.t 30)])
  (.op 2 [] (some 32) none false (.mov (.t 9))
  (.op 3 [] (some 6) none false (.mov (.t 31))
  (.op 4 [] (some 7) none false (.mov (.t 32))
  .done))))))
 .ret))))
theorem dg_impl_Lookup : Tryz.f42.body.bind (digC Tryz.prog Tryz.f42.ntmps []) = some c_impl_Lookup := by kernel_rfl
theorem rs_impl_Lookup : resSlots Tryz.prog Tryz.f42 = some [.s 6, .s 7] := by kernel_rfl
theorem ok_impl_Lookup (z : Zone) (n : List (List UInt8)) (t : Int) (hs : SmallZ z) (hn : SmallBB n) :
    FnOK Tryz.prog 42 [.agg (z.cells.map .d), .agg [.d (encBB n)], .one (.d (.sc (.int .i64 t)))] (fun ra _ => ra = [.one (.own true (encR (lookN z n t).1)), .one (.d (.sc (.int .i64 (lookN z n t).2)))]) := by
  refine FnOK.ofK Tryz.func42 (by kernel_rfl) dg_impl_Lookup rs_impl_Lookup rfl rfl ?_
  unfold c_impl_Lookup
  have n1 := hn.len
  have n2 := hn.mem
  have hsm : SmallRs (lookupN z n t).1 := by obtain ⟨f, hf⟩ := lookup_filter z n t; rw [hf]; exact hs.r.filter f
  cases h : zoneOk z && nameOk n && askedT t
  · rw [show lookN z n t = ([], 5) by unfold lookN; rw [h]; rfl]
    refine kSeq (kReg (kBox rfl rfl rfl rfl rfl (kBox rfl rfl rfl rfl rfl (kMovC rfl (kMovC rfl (kDone (kSeq (kSeq (kReg (kLoadP rfl rfl rfl (kCallD (ok_impl_ZoneOk _ (by first | assumption | omega | solve_by_elim [List.getElem_mem] | (simp only [szOut] at *; omega))) ⟨⟨⟨rfl, rfl, trivial⟩, Nat.le_of_ble_eq_true rfl⟩, trivial⟩ rfl rfl rfl rfl rfl (kUn rfl rfl (kMovC rfl (kGN rfl (fun g0 => kMem [(20480, ⟨1, 0, .box [.d _]⟩)] [(4, .c (.ptr 20480 1 0)), (14, .c (.un)), (15, .c (.un)), (13, .c (.d _)), (16, .c (.un)), (17, .c (.un)), (2, .c (.d _)), (19, .c (.un)), (20, .c (.un)), (18, .c (.un)), (21, .c (.un))] [] ⟨rfl, trivial⟩ ⟨rfl, rfl, rfl, rfl, rfl, rfl, rfl, rfl, rfl, rfl, rfl, trivial⟩ rfl (kGF rfl (kGF rfl (kGF rfl (kPickT rfl (kMovC rfl (kMovC rfl (kGF rfl (kGF rfl (kGF rfl (kPickT rfl (kMovC rfl (kDone (kCondT rfl (kSeq (kReg (kMovC rfl (kMovC rfl (kDone (kRet (endRetA (ra := [.one (.own true _), .one (.d _)]) rfl rfl))))))))))))))))))))) (fun g0 => kMem [(20480, ⟨1, 0, .box [.d _]⟩)] [(4, .c (.ptr 20480 1 0)), (14, .c (.un)), (15, .c (.un)), (13, .c (.d _)), (16, .c (.un)), (17, .c (.un)), (2, .c (.d _)), (19, .c (.un)), (20, .c (.un)), (18, .c (.un)), (21, .c (.un))] [] ⟨rfl, trivial⟩ ⟨rfl, rfl, rfl, rfl, rfl, rfl, rfl, rfl, rfl, rfl, rfl, trivial⟩ rfl (kGT rfl (kLoadP rfl rfl rfl (kGT rfl (kCallD (ok_impl_NameOk _ (by first | assumption | omega | solve_by_elim [List.getElem_mem] | (simp only [szOut] at *; omega)) (by first | assumption | omega | solve_by_elim [List.getElem_mem] | (simp only [szOut] at *; omega))) ⟨⟨⟨rfl, trivial⟩, Nat.le_of_ble_eq_true rfl⟩, trivial⟩ rfl rfl rfl rfl rfl (kGT rfl (kUn rfl rfl (kPickF rfl (kMovC rfl (kMovC rfl (kGN rfl (fun g1 => kGF rfl (kGF rfl (kGF rfl (kPickT rfl (kMovC rfl (kDone (kCondT rfl (kSeq (kReg (kMovC rfl (kMovC rfl (kDone (kRet (endRetA (ra := [.one (.own true _), .one (.d _)]) rfl rfl)))))))))))))) (fun g1 => kGT rfl (kMovC rfl (kGT rfl (kCallD (ok_impl_isAsked _) ⟨rfl, trivial⟩ rfl rfl rfl rfl rfl (kGT rfl (kUn rfl rfl (kPickF rfl (kMovC rfl (kDone (kCondN rfl (fun g2 => kSeq (kReg (kMovC rfl (kMovC rfl (kDone (kRet (endRetA (ra := [.one (.own true _), .one (.d _)]) rfl rfl))))))) (fun g2 => kSkip (kSeq (kReg (kLoadP rfl rfl rfl (kMem [(20480, ⟨1, 0, .box [.d _]⟩)] [(4, .c (.ptr 20480 1 0)), (2, .c (.d _)), (24, .g [.d _, .d _]), (25, .c (.un)), (26, .c (.un)), (27, .c (.un)), (23, .c (.un)), (28, .c (.un)), (29, .c (.un))] [] ⟨rfl, trivial⟩ ⟨rfl, rfl, rfl, rfl, rfl, rfl, rfl, rfl, rfl, trivial⟩ rfl (kLoadP rfl rfl rfl (kMovC rfl (kCallD2 (ok_impl_Zone_lookup _ _ _ (by first | assumption | omega | solve_by_elim [List.getElem_mem] | (simp only [szOut] at *; omega)) (by first | assumption | omega | solve_by_elim [List.getElem_mem] | (simp only [szOut] at *; omega))) ⟨⟨⟨rfl, rfl, trivial⟩, Nat.le_of_ble_eq_true rfl⟩, ⟨⟨rfl, trivial⟩, Nat.le_of_ble_eq_true rfl⟩, rfl, trivial⟩ rfl rfl rfl rfl (kMovT rfl (kExtC rfl rfl (kExtC rfl rfl (kMovC rfl (kMovC rfl (kDone (kSeq (kReg (kMovC rfl (kCall1 true (ok_impl_copyRrs _ (by first | assumption | omega | solve_by_elim [List.getElem_mem] | (simp only [szOut] at *; omega))) ⟨rfl, trivial⟩ rfl rfl rfl (fun _ => (kMem [(131072, ⟨1, 0, .arr true _⟩)] [(9, .c (.d _)), (31, .c (.arr 131072 1)), (32, .c (.un))] [] ⟨rfl, trivial⟩ ⟨rfl, rfl, rfl, trivial⟩ rfl (kMovC rfl (kMovC rfl (kMovC rfl (kDone (kMem [(131072, ⟨1, 0, .arr true _⟩)] [(6, .c (.arr 131072 1)), (7, .c (.d _))] [] ⟨rfl, trivial⟩ ⟨rfl, rfl, trivial⟩ rfl (kRet (endRetA (ra := [.one (.own true _), .one (.d _)]) rfl ?_))))))))))))))))))))))))))))))))))))))))))))))))))))))))))))))
    all_goals simp_all
  · rw [show lookN z n t = lookupN z n t by unfold lookN; rw [h]; rfl]
    have h' := h
    simp only [Bool.and_eq_true] at h'
    obtain ⟨⟨a1, a2⟩, a3⟩ := h'
    refine kSeq (kReg (kBox rfl rfl rfl rfl rfl (kBox rfl rfl rfl rfl rfl (kMovC rfl (kMovC rfl (kDone (kSeq (kSeq (kReg (kLoadP rfl rfl rfl (kCallD (ok_impl_ZoneOk _ (by first | assumption | omega | solve_by_elim [List.getElem_mem] | (simp only [szOut] at *; omega))) ⟨⟨⟨rfl, rfl, trivial⟩, Nat.le_of_ble_eq_true rfl⟩, trivial⟩ rfl rfl rfl rfl rfl (kUn rfl rfl (kMovC rfl (kGN rfl (fun g0 => (by (simp [*] at g0))) (fun g0 => kMem [(20480, ⟨1, 0, .box [.d _]⟩)] [(4, .c (.ptr 20480 1 0)), (14, .c (.un)), (15, .c (.un)), (13, .c (.d _)), (16, .c (.un)), (17, .c (.un)), (2, .c (.d _)), (19, .c (.un)), (20, .c (.un)), (18, .c (.un)), (21, .c (.un))] [] ⟨rfl, trivial⟩ ⟨rfl, rfl, rfl, rfl, rfl, rfl, rfl, rfl, rfl, rfl, rfl, trivial⟩ rfl (kGT rfl (kLoadP rfl rfl rfl (kGT rfl (kCallD (ok_impl_NameOk _ (by first | assumption | omega | solve_by_elim [List.getElem_mem] | (simp only [szOut] at *; omega)) (by first | assumption | omega | solve_by_elim [List.getElem_mem] | (simp only [szOut] at *; omega))) ⟨⟨⟨rfl, trivial⟩, Nat.le_of_ble_eq_true rfl⟩, trivial⟩ rfl rfl rfl rfl rfl (kGT rfl (kUn rfl rfl (kPickF rfl (kMovC rfl (kMovC rfl (kGN rfl (fun g1 => (by (simp [*] at g1))) (fun g1 => kGT rfl (kMovC rfl (kGT rfl (kCallD (ok_impl_isAsked _) ⟨rfl, trivial⟩ rfl rfl rfl rfl rfl (kGT rfl (kUn rfl rfl (kPickF rfl (kMovC rfl (kDone (kCondN rfl (fun g2 => (by (simp [*] at g2))) (fun g2 => kSkip (kSeq (kReg (kLoadP rfl rfl rfl (kMem [(20480, ⟨1, 0, .box [.d _]⟩)] [(4, .c (.ptr 20480 1 0)), (2, .c (.d _)), (24, .g [.d _, .d _]), (25, .c (.un)), (26, .c (.un)), (27, .c (.un)), (23, .c (.un)), (28, .c (.un)), (29, .c (.un))] [] ⟨rfl, trivial⟩ ⟨rfl, rfl, rfl, rfl, rfl, rfl, rfl, rfl, rfl, trivial⟩ rfl (kLoadP rfl rfl rfl (kMovC rfl (kCallD2 (ok_impl_Zone_lookup _ _ _ (by first | assumption | omega | solve_by_elim [List.getElem_mem] | (simp only [szOut] at *; omega)) (by first | assumption | omega | solve_by_elim [List.getElem_mem] | (simp only [szOut] at *; omega))) ⟨⟨⟨rfl, rfl, trivial⟩, Nat.le_of_ble_eq_true rfl⟩, ⟨⟨rfl, trivial⟩, Nat.le_of_ble_eq_true rfl⟩, rfl, trivial⟩ rfl rfl rfl rfl (kMovT rfl (kExtC rfl rfl (kExtC rfl rfl (kMovC rfl (kMovC rfl (kDone (kSeq (kReg (kMovC rfl (kCall1 true (ok_impl_copyRrs _ (by first | assumption | omega | solve_by_elim [List.getElem_mem] | (simp only [szOut] at *; omega))) ⟨rfl, trivial⟩ rfl rfl rfl (fun _ => (kMem [(131072, ⟨1, 0, .arr true _⟩)] [(9, .c (.d _)), (31, .c (.arr 131072 1)), (32, .c (.un))] [] ⟨rfl, trivial⟩ ⟨rfl, rfl, rfl, trivial⟩ rfl (kMovC rfl (kMovC rfl (kMovC rfl (kDone (kMem [(131072, ⟨1, 0, .arr true _⟩)] [(6, .c (.arr 131072 1)), (7, .c (.d _))] [] ⟨rfl, trivial⟩ ⟨rfl, rfl, trivial⟩ rfl (kRet (endRetA (ra := [.one (.own true _), .one (.d _)]) rfl rfl))))))))))))))))))))))))))))))))))))))))))))))))))))))))))))))

def c_laws_eqByteS : C := (.seq (.reg false (.op 0 [] (some 4) none false (.mov (.v (.bool false)))
  .done))
 (.seq (.seq (.reg false (.op 0 [] (some 6) none false (.mov (.t 0))
  (.op 1 [] (some 7) none false (.len (.t 6))
  (.op 2 [] (some 8) none false (.mov (.t 1))
  (.op 3 [] (some 9) none false (.len (.t 8))
  (.op 4 [] (some 10) none false (.bin .neq (.t 7) (.t 9))
  .done))))))
 (.cond (.t 10)
 (.seq (.reg false (.op 0 [] (some 4) none false (.mov (.v (.bool false)))
  .done))
 .ret)
 .skip))
 (.seq (.seq (.reg false (.op 0 [] (some 5) none false (.mov (.v (.int .i64 0)))
  .done))
 (.block 0 (.loop (.seq (.seq (.reg false (.op 0 [] (some 11) none false (.mov (.t 5))
  (.op 1 [] (some 12) none false (.mov (.t 0))
  (.op 2 [] (some 13) none false (.len (.t 12))
  (.op 3 [] (some 14) none false (.bin .lss (.t 11) (.t 13))
  .done)))))
 (.cond (.t 14)
 .skip
 (.exit 0)))
 (.seq (.block 1 (.seq (.reg true (.op 0 [] (some 17) none true (.mov (.t 0))
  (.op 1 [] (some 18) none true (.mov (.t 5))
  (.op 2 [] (some 19) none true (.iad 1 (.t 17) (.t 18))
  (.op 3 [] (some 20) none true (.load none (.t 19))
  (.op 4 [] (some 21) none true (.mov (.t 1))
  (.op 5 [] (some 22) none true (.mov (.t 5))
  (.op 6 [] (some 23) none true (.iad 1 (.t 21) (.t 22))
  (.op 7 [] (some 24) none true (.load none (.t 23))
  (.op 8 [] (some 25) none true (.bin .neq (.t 20) (.t 24))
  .done))))))))))
 (.cond (.t 25)
 (.seq (.reg false (.op 0 [] (some 4) none false (.mov (.v (.bool false)))
  .done))
 .ret)
 .skip)))
 (.reg false (.op 0 [] (some 15) none false (.mov (.t 5))
  (.op 1 [] (some 16) none false (.bin .add (.t 15) (.v (.int .i64 1)))
  (.op 2 [] (some 5) none false (.mov (.t 16))
  .done)))))))))
 (.seq (.reg false (.op 0 [] (some 4) none false (.mov (.v (.bool true)))
  .done))
 .ret))))
theorem dg_laws_eqByteS : Tryz.f94.body.bind (digC Tryz.prog Tryz.f94.ntmps []) = some c_laws_eqByteS := by kernel_rfl
theorem rs_laws_eqByteS : resSlots Tryz.prog Tryz.f94 = some [.s 4] := by kernel_rfl
theorem ok_laws_eqByteS (a b : List UInt8) (ha : a.length ≤ 4194304) :
    FnOK Tryz.prog 94 [.one (.d (encB a)), .one (.d (encB b))] (fun ra _ => ra = [.one (.d (.sc (.bool (decide (a = b)))))]) := by
  refine FnOK.ofK Tryz.func94 (by kernel_rfl) dg_laws_eqByteS rs_laws_eqByteS rfl rfl ?_
  unfold c_laws_eqByteS
  refine kSeq (kReg (kMovC rfl (kDone ?_)))
  refine kSeq (kSeq (kReg ?_))
  refine kMovC rfl (kLen rfl rfl rfl (kMovC rfl (kLen rfl rfl rfl (kBin rfl rfl rfl (kDone ?_)))))
  refine kCond rfl (fun h => ?_) (fun h => ?_)
  · refine kSeq (kReg (kMovC rfl (kDone (kRet ?_))))
    refine endRet (ra := [.one (.d _)]) rfl ⟨⟨⟨rfl, .inl rfl⟩, trivial⟩, .nil, trivial, trivial, trivial⟩ ?_
    have : a ≠ b := by rintro rfl; simp at h
    simp [this]
  refine kSkip (kSeq (kSeq (kReg (kMovC rfl (kDone ?_)))))
  have hl : a.length = b.length := by simp [len_encB] at h; omega
  refine kBlock ?_
  refine kLoop (α := { i : Nat // i ≤ a.length ∧ a.take i = b.take i })
    (fun y => ⟨tabSl [(0, .dv (encB a)), (1, .dv (encB b)), (5, .i y.1)], (St.init [.one (.d (encB a)), .one (.d (encB b))]).ob, []⟩) (fun y => a.length - y.1) ⟨0, by simp⟩ (.tab rfl ⟨.refl _, .refl _, .refl _, trivial⟩) ?_
  rintro ⟨i, hi, he⟩
  refine kSeq (kSeq (kReg ?_))
  refine kMovC rfl (kMovC rfl (kLen rfl rfl rfl (kBin rfl rfl rfl (kDone ?_))))
  refine kCond rfl (fun h1 => ?_) (fun h1 => ?_)
  · have hlt : i < a.length := by simp [len_encB] at h1; omega
    refine kSkip (kSeq (kBlock (kSeq (kRegD ?_))))
    refine kMovC rfl (kMovC rfl (kIadD rfl rfl rfl rfl ?_ ?_))
    · simp [len_encB]; omega
    rw [show (encB a).row (i : Int).toNat = _ from row_encB a i hlt]
    refine kLoadD rfl rfl ?_
    refine kMovC rfl (kMovC rfl (kIadD rfl rfl rfl rfl ?_ ?_))
    · simp [len_encB]; omega
    rw [show (encB b).row (i : Int).toNat = _ from row_encB b i (by omega)]
    refine kLoadD rfl rfl ?_
    refine kBin rfl rfl rfl (kDone (kH ?_))
    refine kCond rfl (fun h2 => ?_) (fun h2 => ?_)
    · refine kSeq (kReg (kMovC rfl (kDone (kRet ?_))))
      refine endRet (ra := [.one (.d _)]) rfl ⟨⟨⟨rfl, .inl rfl⟩, trivial⟩, .nil, trivial, trivial, trivial⟩ ?_
      have : a ≠ b := by rintro rfl; simp at h2
      simp [this]
    · refine kSkip (kBk (kReg (kMovC rfl (kAdd rfl rfl ?_ (kMovC rfl (kDone (kInv ?_)))))))
      · simp only; omega
      · have h3 : a[i] = b[i] := by
          simp at h2
          exact UInt8.toNat_inj.1 (by omega)
        refine ⟨⟨i + 1, hlt, ?_⟩, ?_, .tab rfl ⟨.refl _, .refl _, .refl _, trivial⟩⟩
        · rw [List.take_add_one, List.take_add_one, he, List.getElem?_eq_getElem hlt, List.getElem?_eq_getElem (by omega), h3]
        · simp only; omega
  · refine kExit (kExC (kExI (kExB ?_)))
    have hge : i = a.length := by simp [len_encB] at h1; omega
    refine kSeq (kReg (kMovC rfl (kDone (kRet ?_))))
    refine endRet (ra := [.one (.d _)]) rfl ⟨⟨⟨rfl, .inl rfl⟩, trivial⟩, .nil, trivial, trivial, trivial⟩ ?_
    have : a = b := by
      rw [hge, List.take_length] at he
      rw [he, hl, List.take_length]
    simp [this]

def c_laws_eqByteSS : C := (.seq (.reg false (.op 0 [] (some 4) none false (.mov (.v (.bool false)))
  .done))
 (.seq (.seq (.reg false (.op 0 [] (some 6) none false (.mov (.t 0))
  (.op 1 [] (some 7) none false (.len (.t 6))
  (.op 2 [] (some 8) none false (.mov (.t 1))
  (.op 3 [] (some 9) none false (.len (.t 8))
  (.op 4 [] (some 10) none false (.bin .neq (.t 7) (.t 9))
  .done))))))
 (.cond (.t 10)
 (.seq (.reg false (.op 0 [] (some 4) none false (.mov (.v (.bool false)))
  .done))
 .ret)
 .skip))
 (.seq (.seq (.reg false (.op 0 [] (some 5) none false (.mov (.v (.int .i64 0)))
  .done))
 (.block 0 (.loop (.seq (.seq (.reg false (.op 0 [] (some 11) none false (.mov (.t 5))
  (.op 1 [] (some 12) none false (.mov (.t 0))
  (.op 2 [] (some 13) none false (.len (.t 12))
  (.op 3 [] (some 14) none false (.bin .lss (.t 11) (.t 13))
  .done)))))
 (.cond (.t 14)
 .skip
 (.exit 0)))
 (.seq (.block 1 (.seq (.reg true (.op 0 [] (some 17) none true (.mov (.t 0))
  (.op 1 [] (some 18) none true (.mov (.t 5))
  (.op 2 [] (some 19) none true (.iad 1 (.t 17) (.t 18))
  (.op 3 [] (some 20) none true (.load none (.t 19))
  (.op 4 [] (some 21) none true (.mov (.t 1))
  (.op 5 [] (some 22) none true (.mov (.t 5))
  (.op 6 [] (some 23) none true (.iad 1 (.t 21) (.t 22))
  (.op 7 [] (some 24) none true (.load none (.t 23))
  (.op 8 [3, 7] (some 25) none false (.call 25 94 [(.t 20), (.t 24)])
  (.op 9 [] (some 26) none true (.un .not (.t 25))
  .done)))))))))))
 (.cond (.t 26)
 (.seq (.reg false (.op 0 [] (some 4) none false (.mov (.v (.bool false)))
  .done))
 .ret)
 .skip)))
 (.reg false (.op 0 [] (some 15) none false (.mov (.t 5))
  (.op 1 [] (some 16) none false (.bin .add (.t 15) (.v (.int .i64 1)))
  (.op 2 [] (some 5) none false (.mov (.t 16))
  .done)))))))))
 (.seq (.reg false (.op 0 [] (some 4) none false (.mov (.v (.bool true)))
  .done))
 .ret))))
theorem dg_laws_eqByteSS : Tryz.f88.body.bind (digC Tryz.prog Tryz.f88.ntmps []) = some c_laws_eqByteSS := by kernel_rfl
theorem rs_laws_eqByteSS : resSlots Tryz.prog Tryz.f88 = some [.s 4] := by kernel_rfl
theorem ok_laws_eqByteSS (a b : List (List UInt8)) (ha : a.length ≤ 4194304) (ha2 : ∀ x ∈ a, x.length ≤ 4194304) :
    FnOK Tryz.prog 88 [.one (.d (encBB a)), .one (.d (encBB b))] (fun ra _ => ra = [.one (.d (.sc (.bool (decide (a = b)))))]) := by
  refine FnOK.ofK Tryz.func88 (by kernel_rfl) dg_laws_eqByteSS rs_laws_eqByteSS rfl rfl ?_
  unfold c_laws_eqByteSS
  refine kSeq (kReg (kMovC rfl (kDone (kSeq (kSeq (kReg (kMovC rfl (kLenR rfl rfl (kMovC rfl (kLenR rfl rfl (kBin rfl rfl rfl (kDone (kCondN rfl (fun g0 => kSeq (kReg (kMovC rfl (kDone (kRet (endRetA (ra := [.one (.d _)]) rfl ?_)))))) (fun g0 => kSkip (kSeq (kSeq (kReg (kMovC rfl (kDone (kBlock ?_))))))))))))))))))))
  · rw [decide_eq_false (by rintro rfl; simp_all)]
  have hab : a.length = b.length := by simp at *; omega
  refine kLoop (α := { i : Nat // i ≤ a.length ∧ a.take i = b.take i })
    (fun y => ⟨tabSl [(0, .dv (encBB a)), (1, .dv (encBB b)), (5, .i y.1)], obTab 1 [], []⟩) (fun y => a.length - y.1) ⟨0, by simp⟩
    .normA ?_
  rintro ⟨i, hi, he⟩
  simp only
  refine kSeq (kSeq (kReg (kMovC rfl (kMovC rfl (kLenR rfl rfl (kBin rfl rfl rfl (kDone (kCondP rfl (fun g0 => kSkip (kSeq (kBlock (kSeq (kRegD (kMovC rfl (kMovC rfl (kIadR rfl rfl rfl (by omega) (kLoadD rfl rfl (kMovC rfl (kMovC rfl (kIadR rfl rfl rfl (by omega) (kLoadD rfl rfl (kRelF rfl rfl (kCallD (ok_laws_eqByteS _ _ (by first | assumption | omega | solve_by_elim [List.getElem_mem])) ⟨rfl, rfl, trivial⟩ rfl rfl rfl rfl rfl (kUn rfl rfl (kDone (kH (kCondN rfl (fun g1 => kSeq (kReg (kMovC rfl (kDone (kRet (endRetA (ra := [.one (.d _)]) rfl ?_)))))) (fun g1 => kSkip (kBk (kReg (kMovC rfl (kAdd rfl rfl (by omega) (kMovC rfl (kDone ?_)))))))))))))))))))))))))) (fun g0 => kExit (kExC (kExI (kExB (kSeq (kReg (kMovC rfl (kDone (kRet (endRetA (ra := [.one (.d _)]) rfl ?_))))))))))))))))))
  · rw [decide_eq_false]
    rintro rfl
    simp_all
  · refine kInv ⟨⟨i + 1, by omega, ?_⟩, by simp only; omega, .normA⟩
    rw [← List.take_append_getElem (by omega), ← List.take_append_getElem (by omega), he]
    simp_all
  · have hge : i = a.length := by omega
    rw [hge, List.take_length, hab, List.take_length] at he
    rw [he, decide_eq_true rfl]

def c_laws_eqName : C := (.seq (.reg false (.op 0 [] (some 2) none false (.box 2 (.t 0))
  (.op 1 [] (some 3) none false (.box 3 (.t 1))
  (.op 2 [] (some 4) none false (.mov (.v (.bool false)))
  .done))))
 (.seq (.seq (.reg false (.op 0 [] (some 5) none false (.fad (.t 2) 0)
  (.op 1 [] (some 6) none false (.load none (.t 5))
  (.op 2 [] (some 7) none false (.fad (.t 3) 0)
  (.op 3 [] (some 8) none false (.load none (.t 7))
  (.op 4 [] (some 9) none false (.call 9 88 [(.t 6), (.t 8)])
  (.op 5 [] (some 10) none false (.un .not (.t 9))
  .done)))))))
 (.cond (.t 10)
 (.seq (.reg false (.op 0 [] (some 4) none false (.mov (.v (.bool false)))
  .done))
 .ret)
 .skip))
 (.seq (.reg false (.op 0 [] (some 4) none false (.mov (.v (.bool true)))
  .done))
 .ret)))
theorem dg_laws_eqName : Tryz.f33.body.bind (digC Tryz.prog Tryz.f33.ntmps []) = some c_laws_eqName := by kernel_rfl
theorem rs_laws_eqName : resSlots Tryz.prog Tryz.f33 = some [.s 4] := by kernel_rfl
theorem ok_laws_eqName (a b : List (List UInt8)) (ha : a.length ≤ 4194304) (ha2 : ∀ x ∈ a, x.length ≤ 4194304) :
    FnOK Tryz.prog 33 [.agg [.d (encBB a)], .agg [.d (encBB b)]] (fun ra _ => ra = [.one (.d (.sc (.bool (decide (a = b)))))]) := by
  refine FnOK.ofK Tryz.func33 (by kernel_rfl) dg_laws_eqName rs_laws_eqName rfl rfl ?_
  unfold c_laws_eqName
  refine kSeq (kReg (kBox rfl rfl rfl rfl rfl (kBox rfl rfl rfl rfl rfl (kMovC rfl (kDone (kSeq (kSeq (kReg (kFadP rfl rfl (kLoadP rfl rfl rfl (kFadP rfl rfl (kLoadP rfl rfl rfl (kCallD (ok_laws_eqByteSS _ _ (by first | assumption | omega | solve_by_elim [List.getElem_mem]) (by first | assumption | omega | solve_by_elim [List.getElem_mem])) ⟨rfl, rfl, trivial⟩ rfl rfl rfl rfl rfl (kUn rfl rfl (kDone (kCondN rfl (fun g0 => kSeq (kReg (kMovC rfl (kDone (kRet (endRetA (ra := [.one (.d _)]) rfl ?_)))))) (fun g0 => kSkip (kSeq (kReg (kMovC rfl (kDone (kRet (endRetA (ra := [.one (.d _)]) rfl ?_)))))))))))))))))))))))
  all_goals simp_all

def c_laws_eqIntS : C := (.seq (.reg false (.op 0 [] (some 4) none false (.mov (.v (.bool false)))
  .done))
 (.seq (.seq (.reg false (.op 0 [] (some 6) none false (.mov (.t 0))
  (.op 1 [] (some 7) none false (.len (.t 6))
  (.op 2 [] (some 8) none false (.mov (.t 1))
  (.op 3 [] (some 9) none false (.len (.t 8))
  (.op 4 [] (some 10) none false (.bin .neq (.t 7) (.t 9))
  .done))))))
 (.cond (.t 10)
 (.seq (.reg false (.op 0 [] (some 4) none false (.mov (.v (.bool false)))
  .done))
 .ret)
 .skip))
 (.seq (.seq (.reg false (.op 0 [] (some 5) none false (.mov (.v (.int .i64 0)))
  .done))
 (.block 0 (.loop (.seq (.seq (.reg false (.op 0 [] (some 11) none false (.mov (.t 5))
  (.op 1 [] (some 12) none false (.mov (.t 0))
  (.op 2 [] (some 13) none false (.len (.t 12))
  (.op 3 [] (some 14) none false (.bin .lss (.t 11) (.t 13))
  .done)))))
 (.cond (.t 14)
 .skip
 (.exit 0)))
 (.seq (.block 1 (.seq (.reg true (.op 0 [] (some 17) none true (.mov (.t 0))
  (.op 1 [] (some 18) none true (.mov (.t 5))
  (.op 2 [] (some 19) none true (.iad 1 (.t 17) (.t 18))
  (.op 3 [] (some 20) none true (.load none (.t 19))
  (.op 4 [] (some 21) none true (.mov (.t 1))
  (.op 5 [] (some 22) none true (.mov (.t 5))
  (.op 6 [] (some 23) none true (.iad 1 (.t 21) (.t 22))
  (.op 7 [] (some 24) none true (.load none (.t 23))
  (.op 8 [] (some 25) none true (.bin .neq (.t 20) (.t 24))
  .done))))))))))
 (.cond (.t 25)
 (.seq (.reg false (.op 0 [] (some 4) none false (.mov (.v (.bool false)))
  .done))
 .ret)
 .skip)))
 (.reg false (.op 0 [] (some 15) none false (.mov (.t 5))
  (.op 1 [] (some 16) none false (.bin .add (.t 15) (.v (.int .i64 1)))
  (.op 2 [] (some 5) none false (.mov (.t 16))
  .done)))))))))
 (.seq (.reg false (.op 0 [] (some 4) none false (.mov (.v (.bool true)))
  .done))
 .ret))))
theorem dg_laws_eqIntS : Tryz.f75.body.bind (digC Tryz.prog Tryz.f75.ntmps []) = some c_laws_eqIntS := by kernel_rfl
theorem rs_laws_eqIntS : resSlots Tryz.prog Tryz.f75 = some [.s 4] := by kernel_rfl
theorem ok_laws_eqIntS (a b : List Int) (ha : a.length ≤ 4194304) :
    FnOK Tryz.prog 75 [.one (.d (encI a)), .one (.d (encI b))] (fun ra _ => ra = [.one (.d (.sc (.bool (decide (a = b)))))]) := by
  refine FnOK.ofK Tryz.func75 (by kernel_rfl) dg_laws_eqIntS rs_laws_eqIntS rfl rfl ?_
  unfold c_laws_eqIntS
  refine kSeq (kReg (kMovC rfl (kDone (kSeq (kSeq (kReg (kMovC rfl (kLenR rfl rfl (kMovC rfl (kLenR rfl rfl (kBin rfl rfl rfl (kDone (kCondIN rfl (fun g0 => kSeq (kReg (kMovC rfl (kDone (kRet (endRetA (ra := [.one (.d _)]) rfl ?_)))))) (fun g0 => kSkip (kSeq (kSeq (kReg (kMovC rfl (kDone (kBlock ?_))))))))))))))))))))
  · rw [decide_eq_false (by rintro rfl; simp_all)]
  have hab : a.length = b.length := by omega
  refine kLoop (α := { i : Nat // i ≤ a.length ∧ a.take i = b.take i })
    (fun y => ⟨tabSl [(0, .dv (encI a)), (1, .dv (encI b)), (5, .i y.1)], obTab 1 [], []⟩) (fun y => a.length - y.1) ⟨0, by simp⟩
    .normA ?_
  rintro ⟨i, hi, he⟩
  simp only
  refine kSeq (kSeq (kReg (kMovC rfl (kMovC rfl (kLenR rfl rfl (kBin rfl rfl rfl (kDone (kCondP rfl (fun g0 => kSkip (kSeq (kBlock (kSeq (kRegD (kMovC rfl (kMovC rfl (kIadR rfl rfl rfl (by omega) (kLoadD rfl rfl (kMovC rfl (kMovC rfl (kIadR rfl rfl rfl (by omega) (kLoadD rfl rfl (kBin rfl rfl rfl (kDone (kH (kCondIN rfl (fun g1 => kSeq (kReg (kMovC rfl (kDone (kRet (endRetA (ra := [.one (.d _)]) rfl ?_)))))) (fun g1 => kSkip (kBk (kReg (kMovC rfl (kAdd rfl rfl (by omega) (kMovC rfl (kDone ?_)))))))))))))))))))))))) (fun g0 => kExit (kExC (kExI (kExB (kSeq (kReg (kMovC rfl (kDone (kRet (endRetA (ra := [.one (.d _)]) rfl ?_))))))))))))))))))
  · rw [decide_eq_false]
    rintro rfl
    simp_all
  · refine kInv ⟨⟨i + 1, by omega, ?_⟩, by simp only; omega, .normA⟩
    rw [← List.take_append_getElem (by omega), ← List.take_append_getElem (by omega), he]
    simp_all
  · have hge : i = a.length := by omega
    rw [hge, List.take_length, hab, List.take_length] at he
    rw [he, decide_eq_true rfl]

def c_laws_eqRr : C := (.seq (.reg false (.op 0 [] (some 2) none false (.box 2 (.t 0))
  (.op 1 [] (some 3) none false (.box 3 (.t 1))
  (.op 2 [] (some 4) none false (.mov (.v (.bool false)))
  .done))))
 (.seq (.seq (.reg false (.op 0 [] (some 5) none false (.fad (.t 2) 0)
  (.op 1 [] (some 6) none false (.load (some 1) (.t 5))
  (.op 2 [] (some 7) none false (.fad (.t 3) 0)
  (.op 3 [] (some 8) none false (.load (some 1) (.t 7))
  (.op 4 [] (some 9) none false (.call 9 33 [(.t 6), (.t 8)])
  (.op 5 [] (some 10) none false (.un .not (.t 9))
  .done)))))))
 (.cond (.t 10)
 (.seq (.reg false (.op 0 [] (some 4) none false (.mov (.v (.bool false)))
  .done))
 .ret)
 .skip))
 (.seq (.seq (.reg false (.op 0 [] (some 11) none false (.fad (.t 2) 1)
  (.op 1 [] (some 12) none false (.load none (.t 11))
  (.op 2 [] (some 13) none false (.fad (.t 3) 1)
  (.op 3 [] (some 14) none false (.load none (.t 13))
  (.op 4 [] (some 15) none false (.bin .neq (.t 12) (.t 14))
  .done))))))
 (.cond (.t 15)
 (.seq (.reg false (.op 0 [] (some 4) none false (.mov (.v (.bool false)))
  .done))
 .ret)
 .skip))
 (.seq (.seq (.reg false (.op 0 [] (some 16) none false (.fad (.t 2) 2)
  (.op 1 [] (some 17) none false (.load none (.t 16))
  (.op 2 [] (some 18) none false (.fad (.t 3) 2)
  (.op 3 [] (some 19) none false (.load none (.t 18))
  (.op 4 [] (some 20) none false (.bin .neq (.t 17) (.t 19))
  .done))))))
 (.cond (.t 20)
 (.seq (.reg false (.op 0 [] (some 4) none false (.mov (.v (.bool false)))
  .done))
 .ret)
 .skip))
 (.seq (.seq (.reg false (.op 0 [] (some 21) none false (.fad (.t 2) 3)
  (.op 1 [] (some 22) none false (.load none (.t 21))
  (.op 2 [] (some 23) none false (.fad (.t 3) 3)
  (.op 3 [] (some 24) none false (.load none (.t 23))
  (.op 4 [] (some 25) none false (.bin .neq (.t 22) (.t 24))
  .done))))))
 (.cond (.t 25)
 (.seq (.reg false (.op 0 [] (some 4) none false (.mov (.v (.bool false)))
  .done))
 .ret)
 .skip))
 (.seq (.seq (.reg false (.op 0 [] (some 26) none false (.fad (.t 2) 4)
  (.op 1 [] (some 27) none false (.load (some 1) (.t 26))
  (.op 2 [] (some 28) none false (.fad (.t 3) 4)
  (.op 3 [] (some 29) none false (.load (some 1) (.t 28))
  (.op 4 [] (some 30) none false (.call 30 33 [(.t 27), (.t 29)])
  (.op 5 [] (some 31) none false (.un .not (.t 30))
  .done)))))))
 (.cond (.t 31)
 (.seq (.reg false (.op 0 [] (some 4) none false (.mov (.v (.bool false)))
  .done))
 .ret)
 .skip))
 (.seq (.seq (.reg false (.op 0 [] (some 32) none false (.fad (.t 2) 5)
  (.op 1 [] (some 33) none false (.load none (.t 32))
  (.op 2 [] (some 34) none false (.fad (.t 3) 5)
  (.op 3 [] (some 35) none false (.load none (.t 34))
  (.op 4 [] (some 36) none false (.call 36 94 [(.t 33), (.t 35)])
  (.op 5 [] (some 37) none false (.un .not (.t 36))
  .done)))))))
 (.cond (.t 37)
 (.seq (.reg false (.op 0 [] (some 4) none false (.mov (.v (.bool false)))
  .done))
 .ret)
 .skip))
 (.seq (.seq (.reg false (.op 0 [] (some 38) none false (.fad (.t 2) 6)
  (.op 1 [] (some 39) none false (.load none (.t 38))
  (.op 2 [] (some 40) none false (.fad (.t 3) 6)
  (.op 3 [] (some 41) none false (.load none (.t 40))
  (.op 4 [] (some 42) none false (.call 42 75 [(.t 39), (.t 41)])
  (.op 5 [] (some 43) none false (.un .not (.t 42))
  .done)))))))
 (.cond (.t 43)
 (.seq (.reg false (.op 0 [] (some 4) none false (.mov (.v (.bool false)))
  .done))
 .ret)
 .skip))
 (.seq (.reg false (.op 0 [] (some 4) none false (.mov (.v (.bool true)))
  .done))
 .ret)))))))))
theorem dg_laws_eqRr : Tryz.f39.body.bind (digC Tryz.prog Tryz.f39.ntmps []) = some c_laws_eqRr := by kernel_rfl
theorem rs_laws_eqRr : resSlots Tryz.prog Tryz.f39 = some [.s 4] := by kernel_rfl
theorem ok_laws_eqRr (a b : Rr) (hs : SmallR a) :
    FnOK Tryz.prog 39 [.agg (a.cells.map .d), .agg (b.cells.map .d)] (fun ra _ => ra = [.one (.d (.sc (.bool (decide (a = b)))))]) := by
  refine FnOK.ofK Tryz.func39 (by kernel_rfl) dg_laws_eqRr rs_laws_eqRr rfl rfl ?_
  unfold c_laws_eqRr
  have n1 := hs.n.len
  have n2 := hs.n.mem
  have t1 := hs.t.len
  have t2 := hs.t.mem
  have x1 := hs.x
  have m1 := hs.m
  refine kSeq (kReg (kBox rfl rfl rfl rfl rfl (kBox rfl rfl rfl rfl rfl (kMovC rfl (kDone (kSeq (kSeq (kReg (kFadP rfl rfl (kLoadP rfl rfl rfl (kFadP rfl rfl (kLoadP rfl rfl rfl (kCallD (ok_laws_eqName _ _ (by first | assumption | omega | solve_by_elim [List.getElem_mem] | (simp only [szOut] at *; omega)) (by first | assumption | omega | solve_by_elim [List.getElem_mem] | (simp only [szOut] at *; omega))) ⟨⟨⟨rfl, trivial⟩, Nat.le_of_ble_eq_true rfl⟩, ⟨⟨rfl, trivial⟩, Nat.le_of_ble_eq_true rfl⟩, trivial⟩ rfl rfl rfl rfl rfl (kUn rfl rfl (kDone (kCondN rfl (fun g0 => kSeq (kReg (kMovC rfl (kDone (kRet (endRetA (ra := [.one (.d _)]) rfl ?_)))))) (fun g0 => kSkip (kSeq (kSeq (kReg (kFadP rfl rfl (kLoadP rfl rfl rfl (kFadP rfl rfl (kLoadP rfl rfl rfl (kBin rfl rfl rfl (kDone (kCondIN rfl (fun g1 => kSeq (kReg (kMovC rfl (kDone (kRet (endRetA (ra := [.one (.d _)]) rfl ?_)))))) (fun g1 => kSkip (kSeq (kSeq (kReg (kFadP rfl rfl (kLoadP rfl rfl rfl (kFadP rfl rfl (kLoadP rfl rfl rfl (kBin rfl rfl rfl (kDone (kCondIN rfl (fun g2 => kSeq (kReg (kMovC rfl (kDone (kRet (endRetA (ra := [.one (.d _)]) rfl ?_)))))) (fun g2 => kSkip (kSeq (kSeq (kReg (kFadP rfl rfl (kLoadP rfl rfl rfl (kFadP rfl rfl (kLoadP rfl rfl rfl (kBin rfl rfl rfl (kDone (kCondIN rfl (fun g3 => kSeq (kReg (kMovC rfl (kDone (kRet (endRetA (ra := [.one (.d _)]) rfl ?_)))))) (fun g3 => kSkip (kSeq (kSeq (kReg (kFadP rfl rfl (kLoadP rfl rfl rfl (kFadP rfl rfl (kLoadP rfl rfl rfl (kCallD (ok_laws_eqName _ _ (by first | assumption | omega | solve_by_elim [List.getElem_mem] | (simp only [szOut] at *; omega)) (by first | assumption | omega | solve_by_elim [List.getElem_mem] | (simp only [szOut] at *; omega))) ⟨⟨⟨rfl, trivial⟩, Nat.le_of_ble_eq_true rfl⟩, ⟨⟨rfl, trivial⟩, Nat.le_of_ble_eq_true rfl⟩, trivial⟩ rfl rfl rfl rfl rfl (kUn rfl rfl (kDone (kCondN rfl (fun g4 => kSeq (kReg (kMovC rfl (kDone (kRet (endRetA (ra := [.one (.d _)]) rfl ?_)))))) (fun g4 => kSkip (kSeq (kSeq (kReg (kFadP rfl rfl (kLoadP rfl rfl rfl (kFadP rfl rfl (kLoadP rfl rfl rfl (kCallD (ok_laws_eqByteS _ _ (by first | assumption | omega | solve_by_elim [List.getElem_mem] | (simp only [szOut] at *; omega))) ⟨rfl, rfl, trivial⟩ rfl rfl rfl rfl rfl (kUn rfl rfl (kDone (kCondN rfl (fun g5 => kSeq (kReg (kMovC rfl (kDone (kRet (endRetA (ra := [.one (.d _)]) rfl ?_)))))) (fun g5 => kSkip (kSeq (kSeq (kReg (kFadP rfl rfl (kLoadP rfl rfl rfl (kFadP rfl rfl (kLoadP rfl rfl rfl (kCallD (ok_laws_eqIntS _ _ (by first | assumption | omega | solve_by_elim [List.getElem_mem] | (simp only [szOut] at *; omega))) ⟨rfl, rfl, trivial⟩ rfl rfl rfl rfl rfl (kUn rfl rfl (kDone (kCondN rfl (fun g6 => kSeq (kReg (kMovC rfl (kDone (kRet (endRetA (ra := [.one (.d _)]) rfl ?_)))))) (fun g6 => kSkip (kSeq (kReg (kMovC rfl (kDone (kRet (endRetA (ra := [.one (.d _)]) rfl ?_))))))))))))))))))))))))))))))))))))))))))))))))))))))))))))))))))))))))))))))))))))))))))))
  all_goals (refine congrArg (fun z : Bool => [RA.one (RV.d (DV.sc (Value.bool z)))]) ?_; clear n1 n2 t1 t2 x1 m1 hs; cases a; cases b; simp_all)

def c_laws_eqRrS : C := (.seq (.reg false (.op 0 [] (some 4) none false (.mov (.v (.bool false)))
  .done))
 (.seq (.seq (.reg false (.op 0 [] (some 6) none false (.mov (.t 0))
  (.op 1 [] (some 7) none false (.len (.t 6))
  (.op 2 [] (some 8) none false (.mov (.t 1))
  (.op 3 [] (some 9) none false (.len (.t 8))
  (.op 4 [] (some 10) none false (.bin .neq (.t 7) (.t 9))
  .done))))))
 (.cond (.t 10)
 (.seq (.reg false (.op 0 [] (some 4) none false (.mov (.v (.bool false)))
  .done))
 .ret)
 .skip))
 (.seq (.seq (.reg false (.op 0 [] (some 5) none false (.mov (.v (.int .i64 0)))
  .done))
 (.block 0 (.loop (.seq (.seq (.reg false (.op 0 [] (some 11) none false (.mov (.t 5))
  (.op 1 [] (some 12) none false (.mov (.t 0))
  (.op 2 [] (some 13) none false (.len (.t 12))
  (.op 3 [] (some 14) none false (.bin .lss (.t 11) (.t 13))
  .done)))))
 (.cond (.t 14)
 .skip
 (.exit 0)))
 (.seq (.block 1 (.seq (.reg true (.op 0 [] (some 17) none true (.mov (.t 0))
  (.op 1 [] (some 18) none true (.mov (.t 5))
  (.op 2 [] (some 19) none true (.iad 7 (.t 17) (.t 18))
  (.op 3 [] (some 20) none true (.load (some 7) (.t 19))
  (.op 4 [] (some 21) none true (.mov (.t 1))
  (.op 5 [] (some 22) none true (.mov (.t 5))
  (.op 6 [] (some 23) none true (.iad 7 (.t 21) (.t 22))
  (.op 7 [] (some 24) none true (.load (some 7) (.t 23))
  (.op 8 [3, 7] (some 25) none false (.call 25 39 [(.t 20), (.t 24)])
  (.op 9 [] (some 26) none true (.un .not (.t 25))
  .done)))))))))))
 (.cond (.t 26)
 (.seq (.reg false (.op 0 [] (some 4) none false (.mov (.v (.bool false)))
  .done))
 .ret)
 .skip)))
 (.reg false (.op 0 [] (some 15) none false (.mov (.t 5))
  (.op 1 [] (some 16) none false (.bin .add (.t 15) (.v (.int .i64 1)))
  (.op 2 [] (some 5) none false (.mov (.t 16))
  .done)))))))))
 (.seq (.reg false (.op 0 [] (some 4) none false (.mov (.v (.bool true)))
  .done))
 .ret))))
theorem dg_laws_eqRrS : Tryz.f14.body.bind (digC Tryz.prog Tryz.f14.ntmps []) = some c_laws_eqRrS := by kernel_rfl
theorem rs_laws_eqRrS : resSlots Tryz.prog Tryz.f14 = some [.s 4] := by kernel_rfl
theorem ok_laws_eqRrS (a b : List Rr) (hs : SmallRs a) :
    FnOK Tryz.prog 14 [.one (.d (encR a)), .one (.d (encR b))] (fun ra _ => ra = [.one (.d (.sc (.bool (decide (a = b)))))]) := by
  refine FnOK.ofK Tryz.func14 (by kernel_rfl) dg_laws_eqRrS rs_laws_eqRrS rfl rfl ?_
  unfold c_laws_eqRrS
  have ha := hs.len
  refine kSeq (kReg (kMovC rfl (kDone (kSeq (kSeq (kReg (kMovC rfl (kLenR rfl rfl (kMovC rfl (kLenR rfl rfl (kBin rfl rfl rfl (kDone (kCondIN rfl (fun g0 => kSeq (kReg (kMovC rfl (kDone (kRet (endRetA (ra := [.one (.d _)]) rfl ?_)))))) (fun g0 => kSkip (kSeq (kSeq (kReg (kMovC rfl (kDone (kBlock ?_))))))))))))))))))))
  · rw [decide_eq_false (by rintro rfl; simp_all)]
  have hab : a.length = b.length := by omega
  refine kLoop (α := { i : Nat // i ≤ a.length ∧ a.take i = b.take i })
    (fun y => ⟨tabSl [(0, .dv (encR a)), (1, .dv (encR b)), (5, .i y.1)], obTab 1 [], []⟩) (fun y => a.length - y.1) ⟨0, by simp⟩
    .normA ?_
  rintro ⟨i, hi, he⟩
  simp only
  rcases Nat.lt_or_ge i a.length with hlt | hge
  · have hbi := hs.mem _ (List.getElem_mem hlt)
    refine kSeq (kSeq (kReg (kMovC rfl (kMovC rfl (kLenR rfl rfl (kBin rfl rfl rfl (kDone (kCondP rfl (fun g0 => kSkip (kSeq (kBlock (kSeq (kRegD (kMovC rfl (kMovC rfl (kIadR rfl rfl rfl (by omega) (kLoadD rfl rfl (kMovC rfl (kMovC rfl (kIadR rfl rfl rfl (by omega) (kLoadD rfl rfl (kRelF rfl rfl (kCallD (ok_laws_eqRr _ _ (by first | assumption | omega | solve_by_elim [List.getElem_mem] | (simp only [szOut] at *; omega))) ⟨⟨⟨rfl, rfl, rfl, rfl, rfl, rfl, rfl, trivial⟩, Nat.le_of_ble_eq_true rfl⟩, ⟨⟨rfl, rfl, rfl, rfl, rfl, rfl, rfl, trivial⟩, Nat.le_of_ble_eq_true rfl⟩, trivial⟩ rfl rfl rfl rfl rfl (kUn rfl rfl (kDone (kH (kCondN rfl (fun g1 => kSeq (kReg (kMovC rfl (kDone (kRet (endRetA (ra := [.one (.d _)]) rfl ?_)))))) (fun g1 => kSkip (kBk (kReg (kMovC rfl (kAdd rfl rfl (by omega) (kMovC rfl (kDone ?_)))))))))))))))))))))))))) (fun g0 => (by omega))))))))))
    · rw [decide_eq_false]
      rintro rfl
      simp_all
    · refine kInv ⟨⟨i + 1, by omega, ?_⟩, by simp only; omega, .normA⟩
      rw [← List.take_append_getElem (by omega), ← List.take_append_getElem (by omega), he]
      simp_all
  · refine kSeq (kSeq (kReg (kMovC rfl (kMovC rfl (kLenR rfl rfl (kBin rfl rfl rfl (kDone (kCondP rfl (fun g0 => (by omega)) (fun g0 => kExit (kExC (kExI (kExB (kSeq (kReg (kMovC rfl (kDone (kRet (endRetA (ra := [.one (.d _)]) rfl ?_))))))))))))))))))
    have hge : i = a.length := by omega
    rw [hge, List.take_length, hab, List.take_length] at he
    rw [he, decide_eq_true rfl]

def c_laws_eqZone : C := (.seq (.reg false (.op 0 [] (some 2) none false (.box 2 (.t 0))
  (.op 1 [] (some 3) none false (.box 3 (.t 1))
  (.op 2 [] (some 4) none false (.mov (.v (.bool false)))
  .done))))
 (.seq (.seq (.reg false (.op 0 [] (some 5) none false (.fad (.t 2) 0)
  (.op 1 [] (some 6) none false (.load (some 1) (.t 5))
  (.op 2 [] (some 7) none false (.fad (.t 3) 0)
  (.op 3 [] (some 8) none false (.load (some 1) (.t 7))
  (.op 4 [] (some 9) none false (.call 9 33 [(.t 6), (.t 8)])
  (.op 5 [] (some 10) none false (.un .not (.t 9))
  .done)))))))
 (.cond (.t 10)
 (.seq (.reg false (.op 0 [] (some 4) none false (.mov (.v (.bool false)))
  .done))
 .ret)
 .skip))
 (.seq (.seq (.reg false (.op 0 [] (some 11) none false (.fad (.t 2) 1)
  (.op 1 [] (some 12) none false (.load none (.t 11))
  (.op 2 [] (some 13) none false (.fad (.t 3) 1)
  (.op 3 [] (some 14) none false (.load none (.t 13))
  (.op 4 [] (some 15) none false (.call 15 14 [(.t 12), (.t 14)])
  (.op 5 [] (some 16) none false (.un .not (.t 15))
  .done)))))))
 (.cond (.t 16)
 (.seq (.reg false (.op 0 [] (some 4) none false (.mov (.v (.bool false)))
  .done))
 .ret)
 .skip))
 (.seq (.reg false (.op 0 [] (some 4) none false (.mov (.v (.bool true)))
  .done))
 .ret))))
theorem dg_laws_eqZone : Tryz.f15.body.bind (digC Tryz.prog Tryz.f15.ntmps []) = some c_laws_eqZone := by kernel_rfl
theorem rs_laws_eqZone : resSlots Tryz.prog Tryz.f15 = some [.s 4] := by kernel_rfl
theorem ok_laws_eqZone (a b : Zone) (hs : SmallZ a) :
    FnOK Tryz.prog 15 [.agg (a.cells.map .d), .agg (b.cells.map .d)] (fun ra _ => ra = [.one (.d (.sc (.bool (decide (a = b)))))]) := by
  refine FnOK.ofK Tryz.func15 (by kernel_rfl) dg_laws_eqZone rs_laws_eqZone rfl rfl ?_
  unfold c_laws_eqZone
  have o1 := hs.o.len
  have o2 := hs.o.mem
  have h1 := hs.r
  refine kSeq (kReg (kBox rfl rfl rfl rfl rfl (kBox rfl rfl rfl rfl rfl (kMovC rfl (kDone (kSeq (kSeq (kReg (kFadP rfl rfl (kLoadP rfl rfl rfl (kFadP rfl rfl (kLoadP rfl rfl rfl (kCallD (ok_laws_eqName _ _ (by first | assumption | omega | solve_by_elim [List.getElem_mem] | (simp only [szOut] at *; omega)) (by first | assumption | omega | solve_by_elim [List.getElem_mem] | (simp only [szOut] at *; omega))) ⟨⟨⟨rfl, trivial⟩, Nat.le_of_ble_eq_true rfl⟩, ⟨⟨rfl, trivial⟩, Nat.le_of_ble_eq_true rfl⟩, trivial⟩ rfl rfl rfl rfl rfl (kUn rfl rfl (kDone (kCondN rfl (fun g0 => kSeq (kReg (kMovC rfl (kDone (kRet (endRetA (ra := [.one (.d _)]) rfl ?_)))))) (fun g0 => kSkip (kSeq (kSeq (kReg (kMem [(12288, ⟨1, 0, .box [.d _, .d _]⟩), (16384, ⟨1, 0, .box [.d _, .d _]⟩)] [(2, .c (.ptr 12288 1 0)), (11, .c (.un)), (3, .c (.ptr 16384 1 0)), (13, .c (.un)), (12, .c (.un)), (14, .c (.un)), (15, .c (.un))] [] ⟨rfl, rfl, trivial⟩ ⟨rfl, rfl, rfl, rfl, rfl, rfl, rfl, trivial⟩ rfl (kFadP rfl rfl (kLoadP rfl rfl rfl (kFadP rfl rfl (kLoadP rfl rfl rfl (kCallD (ok_laws_eqRrS _ _ (by first | assumption | omega | solve_by_elim [List.getElem_mem] | (simp only [szOut] at *; omega))) ⟨rfl, rfl, trivial⟩ rfl rfl rfl rfl rfl (kUn rfl rfl (kDone (kCondN rfl (fun g1 => kSeq (kReg (kMovC rfl (kDone (kRet (endRetA (ra := [.one (.d _)]) rfl ?_)))))) (fun g1 => kSkip (kSeq (kReg (kMovC rfl (kDone (kRet (endRetA (ra := [.one (.d _)]) rfl ?_))))))))))))))))))))))))))))))))))))
  all_goals (refine congrArg (fun z : Bool => [RA.one (RV.d (DV.sc (Value.bool z)))]) ?_; clear o1 o2 h1 hs; cases a; cases b; simp_all)

def c_laws_markByteS : C := (.seq (.reg false (.op 0 [] (some 4) none false (.mov (.v (.int .i64 0)))
  .done))
 (.seq (.seq (.reg false (.op 0 [] (some 5) none false (.mov (.v (.int .i64 0)))
  .done))
 (.block 0 (.loop (.seq (.seq (.reg false (.op 0 [] (some 6) none false (.mov (.t 5))
  (.op 1 [] (some 7) none false (.mov (.t 0))
  (.op 2 [] (some 8) none false (.len (.t 7))
  (.op 3 [] (some 9) none false (.bin .lss (.t 6) (.t 8))
  .done)))))
 (.cond (.t 9)
 .skip
 (.exit 0)))
 (.seq (.block 1 (.seq (.reg false (.op 0 [] (some 12) none false (.mov (.t 0))
  (.op 1 [] (some 13) none false (.mov (.t 5))
  (.op 2 [] (some 14) none false (.mov (.t 1))
  (.op 3 [] (some 15) none false (.conv .u8 (.t 14))
  (.op 4 [] (some 16) none false (.iad 1 (.t 12) (.t 13))
  (.op 5 [] none none false (.store none (.t 16) (.t 15))
  .done)))))))
 (.reg false (.op 0 [] (some 17) none false (.mov (.t 1))
  (.op 1 [] (some 18) none false (.bin .add (.t 17) (.v (.int .i64 1)))
  (.op 2 [] (some 1) none false (.mov (.t 18))
  .done))))))
 (.reg false (.op 0 [] (some 10) none false (.mov (.t 5))
  (.op 1 [] (some 11) none false (.bin .add (.t 10) (.v (.int .i64 1)))
  (.op 2 [] (some 5) none false (.mov (.t 11))
  .done)))))))))
 (.seq (.reg false (.op 0 [] (some 19) none false (.mov (.t 1))
  (.op 1 [] (some 4) none false (.mov (.t 19))
  .done)))
 .ret)))
theorem dg_laws_markByteS : Tryz.f56.body.bind (digC Tryz.prog Tryz.f56.ntmps []) = some c_laws_markByteS := by kernel_rfl
theorem rs_laws_markByteS : resSlots Tryz.prog Tryz.f56 = some [.s 4] := by kernel_rfl
theorem ok_laws_markByteS (a : List UInt8) (k : Int) (h0 : 0 ≤ k) (hk : k + a.length ≤ 9223372036854775807) :
    FnOK Tryz.prog 56 [.one (.arr false true (encB a)), .one (.d (.sc (.int .i64 k)))] (fun ra os => ra = [.one (.d (.sc (.int .i64 (k + a.length))))] ∧ os.a 0 = encB (marks a.length k)) := by
  refine FnOK.ofK Tryz.func56 (by kernel_rfl) dg_laws_markByteS rs_laws_markByteS rfl rfl ?_
  unfold c_laws_markByteS
  generalize hgas : [GA.one (.arr false true (encB a)), GA.one (.d (.sc (.int .i64 k)))] = gas
  have hob : (St.init gas).ob 0 = ⟨0, 0, .arr true (encB a)⟩ := by rw [← hgas]; rfl
  have s0 : (St.init gas).sl 0 = .c (.arr 0 0) := by rw [← hgas]; rfl
  have s1 : (St.init gas).sl 1 = .i k := by rw [← hgas]; rfl
  refine kSub (t := ⟨tabSl [(0, .c (.arr 0 0)), (1, .i k)], (St.init gas).ob, []⟩) (.tab rfl ⟨s0 ▸ .refl _, s1 ▸ .refl _, trivial⟩) ?_
  refine kSeq (kReg (kMovC rfl (kDone ?_)))
  refine kSeq (kSeq (kReg (kMovC rfl (kDone (kBlock ?_)))))
  refine kLoop (α := { i : Nat // i ≤ a.length })
    (fun y => ⟨tabSl [(0, .c (.arr 0 0)), (1, .i (k + (y.1 : Int))), (5, .i y.1)], upd (St.init gas).ob 0 ⟨0, y.1, .arr true (encB (marks y.1 k ++ a.drop y.1))⟩, []⟩) (fun y => a.length - y.1) ⟨0, by simp⟩
    (.tab (upd_self (by rw [hob]; rfl)) ⟨.refl _, by simpa using .refl _, .refl _, trivial⟩) ?_
  rintro ⟨i, hi⟩
  simp only
  have hlen : (marks i k ++ a.drop i).length = a.length := by simp [marks_len]; omega
  refine kSeq (kSeq (kReg ?_))
  refine kMovC rfl (kMovC rfl (kLen rfl rfl rfl (kBin rfl rfl rfl (kDone ?_))))
  rw [len_encB, hlen]
  refine kCond rfl (fun h1 => ?_) (fun h1 => ?_)
  · have hlt : i < a.length := by simp at h1; omega
    refine kSkip (kSeq (kBlock (kSeq (kReg ?_))))
    refine kMovC rfl (kMovC rfl (kMovC rfl (kConv rfl (kIadA rfl rfl rfl rfl ?_ ?_))))
    · rw [len_encB, hlen]; omega
    refine kStoreE1 rfl rfl rfl rfl (by simp [encB, DV.esz]) (kDone ?_)
    rw [show (Int.toNat (i : Int)) = i from rfl, setRow_encB _ _ _ (by omega)]
    refine kReg (kMovC rfl (kAdd rfl rfl ?_ (kMovC rfl (kDone (kBk ?_)))))
    · omega
    refine kReg (kMovC rfl (kAdd rfl rfl ?_ (kMovC rfl (kDone (kInv ?_)))))
    · omega
    refine ⟨⟨i + 1, hlt⟩, by simp only; omega, .tab ?_ ⟨.refl _, ?_, .refl _, trivial⟩⟩
    · show _ = upd (upd (St.init gas).ob 0 _) 0 _
      rw [upd_upd, take_set_succ _ _ _ _ hlt (marks_len i k), marks_succ]
      rfl
    · show WkV (.i (k + i + 1)) (.i (k + ((i + 1 : Nat) : Int)))
      rw [show k + ((i + 1 : Nat) : Int) = k + i + 1 by omega]
      exact .refl _
  · refine kExit (kExC (kExI (kExB ?_)))
    have hge : i = a.length := by simp at h1; omega
    subst hge
    refine kSeq (kReg (kMovC rfl (kMovC rfl (kDone (kRet ?_)))))
    rw [← hgas]
    refine endRet (ra := [.one (.d _)]) rfl ⟨⟨⟨rfl, .inl rfl⟩, trivial⟩, .nil, ⟨rfl, fun _ => rfl, rfl⟩, trivial, trivial⟩ ?_
    refine ⟨rfl, ?_⟩
    show encB (marks a.length k ++ a.drop a.length) = _
    simp

def c_laws_markByteSS : C := (.seq (.reg false (.op 0 [] (some 4) none false (.mov (.v (.int .i64 0)))
  .done))
 (.seq (.seq (.reg false (.op 0 [] (some 5) none false (.mov (.v (.int .i64 0)))
  .done))
 (.block 0 (.loop (.seq (.seq (.reg false (.op 0 [] (some 6) none false (.mov (.t 5))
  (.op 1 [] (some 7) none false (.mov (.t 0))
  (.op 2 [] (some 8) none false (.len (.t 7))
  (.op 3 [] (some 9) none false (.bin .lss (.t 6) (.t 8))
  .done)))))
 (.cond (.t 9)
 .skip
 (.exit 0)))
 (.seq (.block 1 (.reg false (.op 0 [] (some 12) none false (.mov (.t 0))
  (.op 1 [] (some 13) none false (.mov (.t 5))
  (.op 2 [] (some 14) none false (.iad 1 (.t 12) (.t 13))
  (.op 3 [] (some 15) none false (.load none (.t 14))
  (.op 4 [] (some 16) none false (.mov (.t 1))
  (.op 5 [] (some 17) none false (.call 17 56 [(.t 15), (.t 16)])
  (.op 6 [] (some 1) none false (.mov (.t 17))
  .done)))))))))
 (.reg false (.op 0 [] (some 10) none false (.mov (.t 5))
  (.op 1 [] (some 11) none false (.bin .add (.t 10) (.v (.int .i64 1)))
  (.op 2 [] (some 5) none false (.mov (.t 11))
  .done)))))))))
 (.seq (.reg false (.op 0 [] (some 18) none false (.mov (.t 1))
  (.op 1 [] (some 4) none false (.mov (.t 18))
  .done)))
 .ret)))
theorem dg_laws_markByteSS : Tryz.f55.body.bind (digC Tryz.prog Tryz.f55.ntmps []) = some c_laws_markByteSS := by kernel_rfl
theorem rs_laws_markByteSS : resSlots Tryz.prog Tryz.f55 = some [.s 4] := by kernel_rfl
theorem ok_laws_markByteSS (a : List (List UInt8)) (k : Int) (h0 : 0 ≤ k) (hk : k + a.flatten.length ≤ 9223372036854775807) (hl : a.length ≤ 4194304) :
    FnOK Tryz.prog 55 [.one (.arr false true (encBB a)), .one (.d (.sc (.int .i64 k)))] (fun ra os => ra = [.one (.d (.sc (.int .i64 (k + a.flatten.length))))] ∧ os.a 0 = encBB (markss a k)) := by
  refine FnOK.ofK Tryz.func55 (by kernel_rfl) dg_laws_markByteSS rs_laws_markByteSS rfl rfl ?_
  unfold c_laws_markByteSS
  refine kSeq (kReg (kMovC rfl (kDone ?_)))
  refine kSeq (kSeq (kReg (kMovC rfl (kDone (kBlock ?_)))))
  refine kLoop (α := { i : Nat // i ≤ a.length })
    (fun y => ⟨tabSl [(0, .c (.arr 0 0)), (1, .i (k + (a.take y.1).flatten.length)), (5, .i y.1)], upd (St.init [.one (.arr false true (encBB a)), .one (.d (.sc (.int .i64 k)))]).ob 0 ⟨0, y.1, .arr true (encBB (markss (a.take y.1) k ++ a.drop y.1))⟩, []⟩) (fun y => a.length - y.1) ⟨0, by simp⟩
    (.tab (upd_self rfl) ⟨.refl _, by simpa using .refl _, .refl _, trivial⟩) ?_
  rintro ⟨i, hi⟩
  simp only
  have hlen : (markss (a.take i) k).length = i := by rw [markss_len]; simp; omega
  have hlen' : (markss (a.take i) k ++ a.drop i).length = a.length := by simp [hlen]; omega
  refine kSeq (kSeq (kReg ?_))
  refine kMovC rfl (kMovC rfl (kLen rfl rfl rfl (kBin rfl rfl rfl (kDone ?_))))
  rw [len_encBB, hlen']
  refine kCond rfl (fun h1 => ?_) (fun h1 => ?_)
  · have hlt : i < a.length := by simp at h1; omega
    have hget : (markss (a.take i) k ++ a.drop i)[i]'(by omega) = a[i] := by
      rw [List.getElem_append_right (by omega)]; simp [hlen]
    have hat : (encBB (markss (a.take i) k ++ a.drop i)).at i 0 = encB a[i] := by rw [at_encBB _ _ (by omega), hget]
    have hfl : (a.take (i + 1)).flatten.length = (a.take i).flatten.length + a[i].length := by
      rw [← List.take_append_getElem hlt, List.flatten_append, List.length_append]; simp only [List.flatten_cons, List.flatten_nil, List.append_nil]
    have htot : (a.take (i + 1)).flatten.length ≤ a.flatten.length := by
      have := congrArg (fun l => (List.flatten l).length) (List.take_append_drop (i + 1) a)
      simp only [List.flatten_append, List.length_append] at this
      omega
    refine kSkip (kSeq (kBlock (kReg ?_)))
    refine kMovC rfl (kMovC rfl (kIadA rfl rfl rfl rfl ?_ ?_))
    · rw [len_encBB, hlen']; omega
    refine kLoadE rfl rfl (v := .c (.sub 0 0 i i 0)) ?_ (kMovC rfl ?_)
    · show pickCells none (AC.ofCells 0 0 i i 0 (((encBB (markss (a.take i) k ++ a.drop i)).row i).drop 0)) = _
      rw [row_encBB _ _ (by omega)]
      rfl
    refine kCallS (ok_laws_markByteS a[i] (k + (a.take i).flatten.length) (by omega) (by omega)) rfl ⟨⟨rfl, rfl, rfl, rfl, rfl, rfl, hat.symm, rfl⟩, rfl, trivial⟩ ?_ rfl ?_
    · simp [encBB, DV.rows, hlen]; omega
    rintro ra os ⟨rfl, ho⟩
    refine ⟨_, rfl, ?_⟩
    refine kMovC rfl (kDone (kBk ?_))
    refine kReg (kMovC rfl (kAdd rfl rfl ?_ (kMovC rfl (kDone (kInv ?_)))))
    · omega
    refine ⟨⟨i + 1, hlt⟩, by simp only; omega, .tab ?_ ⟨.refl _, ?_, .refl _, trivial⟩⟩
    · refine Eq.trans ?_ (upd_upd _ _ _ _).symm
      refine congrArg (upd _ _) ?_
      show _ = Ob.mk _ _ (OK.arr _ ((encBB (markss (a.take i) k ++ a.drop i)).setCell i 0 (os.a 0)))
      rw [ho, setCell_encBB _ _ _ (by omega), take_set_succ _ _ _ _ hlt hlen, ← List.take_append_getElem hlt, markss_append]
    · show WkV (.i (k + ((a.take i).flatten.length : Int) + a[i].length)) (.i (k + ((a.take (i + 1)).flatten.length : Int)))
      rw [hfl, show k + (((a.take i).flatten.length + a[i].length : Nat) : Int) = k + ((a.take i).flatten.length : Int) + a[i].length by omega]
      exact .refl _
  · refine kExit (kExC (kExI (kExB ?_)))
    have hge : i = a.length := by simp at h1; omega
    subst hge
    refine kSeq (kReg (kMovC rfl (kMovC rfl (kDone (kRet ?_)))))
    refine endRet (ra := [.one (.d _)]) rfl ⟨⟨⟨rfl, .inl rfl⟩, trivial⟩, .nil, ⟨rfl, fun _ => rfl, rfl⟩, trivial, trivial⟩ ?_
    refine ⟨by simp, ?_⟩
    show encBB (markss (a.take a.length) k ++ a.drop a.length) = _
    simp

def c_laws_markName : C := (.seq (.reg false (.op 0 [] (some 2) none false (.box 2 (.t 0))
  (.op 1 [] (some 4) none false (.mov (.v (.int .i64 0)))
  .done)))
 (.seq (.reg false (.op 0 [] (some 5) none false (.fad (.t 2) 0)
  (.op 1 [] (some 6) none false (.load none (.t 5))
  (.op 2 [] (some 7) none false (.mov (.t 1))
  (.op 3 [] (some 8) none false (.call 8 55 [(.t 6), (.t 7)])
  (.op 4 [] (some 1) none false (.mov (.t 8))
  .done))))))
 (.seq (.reg false (.op 0 [] (some 9) none false (.mov (.t 1))
  (.op 1 [] (some 4) none false (.mov (.t 9))
  .done)))
 .ret)))
theorem dg_laws_markName : Tryz.f34.body.bind (digC Tryz.prog Tryz.f34.ntmps []) = some c_laws_markName := by kernel_rfl
theorem rs_laws_markName : resSlots Tryz.prog Tryz.f34 = some [.s 4] := by kernel_rfl
theorem ok_laws_markName (a : List (List UInt8)) (k : Int) (h0 : 0 ≤ k) (hk : k + a.flatten.length ≤ 9223372036854775807) (hl : a.length ≤ 4194304) :
    FnOK Tryz.prog 34 [.agg [.arr false true (encBB a)], .one (.d (.sc (.int .i64 k)))] (fun ra os => ra = [.one (.d (.sc (.int .i64 (k + a.flatten.length))))] ∧ os.a 0 = encBB (markss a k)) := by
  refine FnOK.ofK Tryz.func34 (by kernel_rfl) dg_laws_markName rs_laws_markName rfl rfl ?_
  unfold c_laws_markName
  refine kSeq (kReg (kBox rfl rfl rfl rfl rfl (kMovC rfl (kDone (kSeq (kReg (kFadP rfl rfl (kLoadP rfl rfl rfl (kMovC rfl ?_)))))))))
  refine kCall false (ok_laws_markByteSS a k h0 hk hl) ⟨⟨_, rfl, .inl rfl⟩, rfl, trivial⟩ rfl nofun (by rintro ra os ⟨rfl, _⟩; exact Nat.le_of_ble_eq_true rfl) ?_
  rintro ra os ⟨rfl, ho⟩
  refine kMovC rfl (kDone (kSeq (kReg (kMovC rfl (kMovC rfl (kDone ?_))))))
  refine kRet (endRet (ra := [.one (.d _)]) rfl ?_ ⟨rfl, ho⟩)
  (repeat' first | exact trivial | exact rfl | exact .inl rfl | exact nodupB_sound rfl | exact .inl (Nat.zero_lt_succ _) | exact fun _ => rfl | exact Nat.le_of_ble_eq_true rfl | exact ⟨_, rfl, fun _ => rfl⟩ | refine ⟨?_, ?_⟩ | fail)
  rw [show os.a (aid 0 0) = _ from ho]
  rfl

def c_laws_markIntS : C := (.seq (.reg false (.op 0 [] (some 4) none false (.mov (.v (.int .i64 0)))
  .done))
 (.seq (.seq (.reg false (.op 0 [] (some 5) none false (.mov (.v (.int .i64 0)))
  .done))
 (.block 0 (.loop (.seq (.seq (.reg false (.op 0 [] (some 6) none false (.mov (.t 5))
  (.op 1 [] (some 7) none false (.mov (.t 0))
  (.op 2 [] (some 8) none false (.len (.t 7))
  (.op 3 [] (some 9) none false (.bin .lss (.t 6) (.t 8))
  .done)))))
 (.cond (.t 9)
 .skip
 (.exit 0)))
 (.seq (.block 1 (.seq (.reg false (.op 0 [] (some 12) none false (.mov (.t 0))
  (.op 1 [] (some 13) none false (.mov (.t 5))
  (.op 2 [] (some 14) none false (.mov (.t 1))
  (.op 3 [] (some 15) none false (.iad 1 (.t 12) (.t 13))
  (.op 4 [] none none false (.store none (.t 15) (.t 14))
  .done))))))
 (.reg false (.op 0 [] (some 16) none false (.mov (.t 1))
  (.op 1 [] (some 17) none false (.bin .add (.t 16) (.v (.int .i64 1)))
  (.op 2 [] (some 1) none false (.mov (.t 17))
  .done))))))
 (.reg false (.op 0 [] (some 10) none false (.mov (.t 5))
  (.op 1 [] (some 11) none false (.bin .add (.t 10) (.v (.int .i64 1)))
  (.op 2 [] (some 5) none false (.mov (.t 11))
  .done)))))))))
 (.seq (.reg false (.op 0 [] (some 18) none false (.mov (.t 1))
  (.op 1 [] (some 4) none false (.mov (.t 18))
  .done)))
 .ret)))
theorem dg_laws_markIntS : Tryz.f57.body.bind (digC Tryz.prog Tryz.f57.ntmps []) = some c_laws_markIntS := by kernel_rfl
theorem rs_laws_markIntS : resSlots Tryz.prog Tryz.f57 = some [.s 4] := by kernel_rfl
theorem ok_laws_markIntS (a : List Int) (k : Int) (h0 : 0 ≤ k) (hk : k + a.length ≤ 9223372036854775807) :
    FnOK Tryz.prog 57 [.one (.arr false true (encI a)), .one (.d (.sc (.int .i64 k)))] (fun ra os => ra = [.one (.d (.sc (.int .i64 (k + a.length))))] ∧ os.a 0 = encI (marksI a.length k)) := by
  refine FnOK.ofK Tryz.func57 (by kernel_rfl) dg_laws_markIntS rs_laws_markIntS rfl rfl ?_
  unfold c_laws_markIntS
  refine kSeq (kReg (kMovC rfl (kDone (kSeq (kSeq (kReg (kMovC rfl (kDone (kBlock ?_)))))))))
  refine kLoop (α := { i : Nat // i ≤ a.length })
    (fun y => ⟨tabSl [(0, .c (.arr 0 0)), (1, .i (k + (y.1 : Int))), (5, .i y.1)], upd (St.init [.one (.arr false true (encI a)), .one (.d (.sc (.int .i64 k)))]).ob 0 ⟨0, y.1, .arr true (encI (marksI y.1 k ++ a.drop y.1))⟩, []⟩) (fun y => a.length - y.1) ⟨0, by simp⟩
    (.tab (upd_self rfl) ⟨.refl _, by simpa using .refl _, .refl _, trivial⟩) ?_
  rintro ⟨i, hi⟩
  simp only
  have hlen : (marksI i k ++ a.drop i).length = a.length := by simp [marksI_len]; omega
  rcases Nat.lt_or_ge i a.length with hlt | hge
  · refine kSeq (kSeq (kReg (kMovC rfl (kMovC rfl (kLenR rfl rfl (kBin rfl rfl rfl (kDone (kCondP rfl (fun g0 => kSkip (kSeq (kBlock (kSeq (kReg (kMovC rfl (kMovC rfl (kMovC rfl (kIadAR rfl rfl rfl rfl (by omega) (kStoreER rfl rfl rfl rfl rfl rfl rfl (by omega) rfl (kDone (kReg (kMovC rfl (kAdd rfl rfl (by omega) (kMovC rfl (kDone (kBk (kReg (kMovC rfl (kAdd rfl rfl (by omega) (kMovC rfl (kDone ?_)))))))))))))))))))))) (fun g0 => (by omega))))))))))
    refine kInv ⟨⟨i + 1, hlt⟩, by simp only; omega, .tab ?_ ⟨.refl _, ?_, .refl _, trivial⟩⟩
    · show _ = upd (upd _ 0 _) 0 _
      rw [upd_upd]
      refine congrArg (upd _ _) ?_
      rw [marksI_succ]
      exact congrArg (fun z => Ob.mk 0 (i + 1) (OK.arr true (encI z))) (take_set_succ _ _ _ _ hlt (marksI_len i k)).symm
    · show WkV (.i (k + i + 1)) (.i (k + ((i + 1 : Nat) : Int)))
      rw [show k + ((i + 1 : Nat) : Int) = k + i + 1 by omega]
      exact .refl _
  · refine kSeq (kSeq (kReg (kMovC rfl (kMovC rfl (kLenR rfl rfl (kBin rfl rfl rfl (kDone (kCondP rfl (fun g0 => (by omega)) (fun g0 => kExit (kExC (kExI (kExB (kSeq (kReg (kMovC rfl (kMovC rfl (kDone (kRet (endRetA (ra := [.one (.d _)]) rfl ?_)))))))))))))))))))
    obtain rfl : i = a.length := by omega
    refine ⟨rfl, ?_⟩
    show encI (marksI a.length k ++ a.drop a.length) = _
    simp

def c_laws_markRrS : C := (.seq (.reg false (.op 0 [] (some 4) none false (.mov (.v (.int .i64 0)))
  .done))
 (.seq (.seq (.reg false (.op 0 [] (some 5) none false (.mov (.v (.int .i64 0)))
  .done))
 (.block 0 (.loop (.seq (.seq (.reg false (.op 0 [] (some 6) none false (.mov (.t 5))
  (.op 1 [] (some 7) none false (.mov (.t 0))
  (.op 2 [] (some 8) none false (.len (.t 7))
  (.op 3 [] (some 9) none false (.bin .lss (.t 6) (.t 8))
  .done)))))
 (.cond (.t 9)
 .skip
 (.exit 0)))
 (.seq (.block 1 (.seq (.reg false (.op 0 [] (some 12) none false (.mov (.t 0))
  (.op 1 [] (some 13) none false (.mov (.t 5))
  (.op 2 [] (some 14) none false (.iad 7 (.t 12) (.t 13))
  (.op 3 [] (some 15) none false (.fad (.t 14) 0)
  (.op 4 [] (some 16) none false (.fad (.t 15) 0)
  (.op 5 [] (some 17) none false (.load none (.t 16))
  (.op 6 [] (some 18) none false (.mov (.t 1))
  (.op 7 [] (some 19) none false (.call 19 55 [(.t 17), (.t 18)])
  (.op 8 [] (some 1) none false (.mov (.t 19))
  .done))))))))))
 (.seq (.reg false (.op 0 [] (some 20) none false (.mov (.t 0))
  (.op 1 [] (some 21) none false (.mov (.t 5))
  (.op 2 [] (some 22) none false (.mov (.t 1))
  (.op 3 [] (some 23) none false (.iad 7 (.t 20) (.t 21))
  (.op 4 [] (some 24) none false (.fad (.t 23) 1)
  (.op 5 [] none none false (.store none (.t 24) (.t 22))
  .done)))))))
 (.seq (.reg false (.op 0 [] (some 25) none false (.mov (.t 1))
  (.op 1 [] (some 26) none false (.bin .add (.t 25) (.v (.int .i64 1)))
  (.op 2 [] (some 1) none false (.mov (.t 26))
  .done))))
 (.seq (.reg false (.op 0 [] (some 27) none false (.mov (.t 0))
  (.op 1 [] (some 28) none false (.mov (.t 5))
  (.op 2 [] (some 29) none false (.mov (.t 1))
  (.op 3 [] (some 30) none false (.iad 7 (.t 27) (.t 28))
  (.op 4 [] (some 31) none false (.fad (.t 30) 2)
  (.op 5 [] none none false (.store none (.t 31) (.t 29))
  .done)))))))
 (.seq (.reg false (.op 0 [] (some 32) none false (.mov (.t 1))
  (.op 1 [] (some 33) none false (.bin .add (.t 32) (.v (.int .i64 1)))
  (.op 2 [] (some 1) none false (.mov (.t 33))
  .done))))
 (.seq (.reg false (.op 0 [] (some 34) none false (.mov (.t 0))
  (.op 1 [] (some 35) none false (.mov (.t 5))
  (.op 2 [] (some 36) none false (.mov (.t 1))
  (.op 3 [] (some 37) none false (.iad 7 (.t 34) (.t 35))
  (.op 4 [] (some 38) none false (.fad (.t 37) 3)
  (.op 5 [] none none false (.store none (.t 38) (.t 36))
  .done)))))))
 (.seq (.reg false (.op 0 [] (some 39) none false (.mov (.t 1))
  (.op 1 [] (some 40) none false (.bin .add (.t 39) (.v (.int .i64 1)))
  (.op 2 [] (some 1) none false (.mov (.t 40))
  .done))))
 (.seq (.reg false (.op 0 [] (some 41) none false (.mov (.t 0))
  (.op 1 [] (some 42) none false (.mov (.t 5))
  (.op 2 [] (some 43) none false (.iad 7 (.t 41) (.t 42))
  (.op 3 [] (some 44) none false (.fad (.t 43) 4)
  (.op 4 [] (some 45) none false (.fad (.t 44) 0)
  (.op 5 [] (some 46) none false (.load none (.t 45))
  (.op 6 [] (some 47) none false (.mov (.t 1))
  (.op 7 [] (some 48) none false (.call 48 55 [(.t 46), (.t 47)])
  (.op 8 [] (some 1) none false (.mov (.t 48))
  .done))))))))))
 (.seq (.reg false (.op 0 [] (some 49) none false (.mov (.t 0))
  (.op 1 [] (some 50) none false (.mov (.t 5))
  (.op 2 [] (some 51) none false (.iad 7 (.t 49) (.t 50))
  (.op 3 [] (some 52) none false (.fad (.t 51) 5)
  (.op 4 [] (some 53) none false (.load none (.t 52))
  (.op 5 [] (some 54) none false (.mov (.t 1))
  (.op 6 [] (some 55) none false (.call 55 56 [(.t 53), (.t 54)])
  (.op 7 [] (some 1) none false (.mov (.t 55))
  .done)))))))))
 (.reg false (.op 0 [] (some 56) none false (.mov (.t 0))
  (.op 1 [] (some 57) none false (.mov (.t 5))
  (.op 2 [] (some 58) none false (.iad 7 (.t 56) (.t 57))
  (.op 3 [] (some 59) none false (.fad (.t 58) 6)
  (.op 4 [] (some 60) none false (.load none (.t 59))
  (.op 5 [] (some 61) none false (.mov (.t 1))
  (.op 6 [] (some 62) none false (.call 62 57 [(.t 60), (.t 61)])
  (.op 7 [] (some 1) none false (.mov (.t 62))
  .done)))))))))))))))))))
 (.reg false (.op 0 [] (some 10) none false (.mov (.t 5))
  (.op 1 [] (some 11) none false (.bin .add (.t 10) (.v (.int .i64 1)))
  (.op 2 [] (some 5) none false (.mov (.t 11))
  .done)))))))))
 (.seq (.reg false (.op 0 [] (some 63) none false (.mov (.t 1))
  (.op 1 [] (some 4) none false (.mov (.t 63))
  .done)))
 .ret)))
theorem dg_laws_markRrS : Tryz.f17.body.bind (digC Tryz.prog Tryz.f17.ntmps []) = some c_laws_markRrS := by kernel_rfl
theorem rs_laws_markRrS : resSlots Tryz.prog Tryz.f17 = some [.s 4] := by kernel_rfl
theorem ok_laws_markRrS (l : List Rr) (k : Int) (h0 : 0 ≤ k) (hk : k + cntRs l ≤ 9223372036854775807) (hs : SmallRs l) :
    FnOK Tryz.prog 17 [.one (.arr false true (encR l)), .one (.d (.sc (.int .i64 k)))] (fun ra os => ra = [.one (.d (.sc (.int .i64 (k + cntRs l))))] ∧ os.a 0 = encR (markRs l k)) := by
  refine FnOK.ofK Tryz.func17 (by kernel_rfl) dg_laws_markRrS rs_laws_markRrS rfl rfl ?_
  unfold c_laws_markRrS
  have h1 := hs.len
  refine kSeq (kReg (kMovC rfl (kDone (kSeq (kSeq (kReg (kMovC rfl (kDone (kBlock ?_)))))))))
  generalize hF : (St.init [.one (.arr false true (encR l)), .one (.d (.sc (.int .i64 k)))]).ob = F
  refine kLoop (α := { i : Nat // i ≤ l.length })
    (fun y => ⟨tabSl [(0, .c (.arr 0 0)), (1, .i (k + (cntRs (l.take y.1) : Int))), (5, .i y.1)], upd F 0 ⟨0, 7 * y.1, .arr true (encR (markRs (l.take y.1) k ++ l.drop y.1))⟩, []⟩) (fun y => l.length - y.1) ⟨0, by simp⟩
    (.tab (by subst hF; exact upd_self rfl) ⟨.refl _, by simpa using .refl _, .refl _, trivial⟩) ?_
  rintro ⟨i, hi⟩
  simp only
  have hlen : (markRs (l.take i) k).length = i := by rw [markRs_len]; simp; omega
  have hlen' : (markRs (l.take i) k ++ l.drop i).length = l.length := by simp [hlen]; omega
  have hle := cntRs_le l i
  have hle2 := cntRs_le l (i + 1)
  rcases Nat.lt_or_ge i l.length with hlt | hge
  · have hbi := hs.mem _ (List.getElem_mem hlt)
    have hsuc := cntRs_take l i hlt
    have hget : (markRs (l.take i) k ++ l.drop i)[i]'(by omega) = l[i] := by
      rw [List.getElem_append_right (by omega)]; simp [hlen]
    have hset := set_self (markRs (l.take i) k ++ l.drop i) i (by omega)
    rw [hget] at hset
    have hfin : ∀ R : Rr, R = markR l[i] (k + cntRs (l.take i)) → (markRs (l.take i) k ++ l.drop i).set i R = markRs (l.take (i + 1)) k ++ l.drop (i + 1) := by
      rintro R rfl
      rw [take_set_succ _ _ _ _ hlt hlen, ← List.take_append_getElem hlt, markRs_append]
    have hc : cntR l[i] = l[i].name.flatten.length + 3 + l[i].to.flatten.length + l[i].text.length + l[i].nums.length := rfl
    clear hget
    revert hset hfin hlen'
    generalize markRs (l.take i) k ++ l.drop i = L
    generalize hr : l[i] = r at hc hbi hsuc
    generalize hK : k + (cntRs (l.take i) : Int) = K
    intro hlen' hset hfin
    have n1 := hbi.n.len
    have t1 := hbi.t.len
    have x1 := hbi.x
    have m1 := hbi.m
    have hiL : i < L.length := by omega
    have hKn : 0 ≤ K := by omega
    have hKm : K + cntR r ≤ 9223372036854775807 := by omega
    refine kSub (t := ⟨tabSl [(0, .c (.arr 0 0)), (1, .i (K)), (5, .i i)], upd F 0 ⟨0, 7 * i, .arr true (encR (L.set i r))⟩, []⟩) (.tab (by rw [hset]) ⟨.refl _, .refl _, .refl _, trivial⟩) ?_
    refine kSeq (kSeq (kReg (kMovC rfl (kMovC rfl (kLen rfl rfl rfl (kBin rfl rfl rfl (kDone ?_)))))))
    rw [len_encR, List.length_set]
    refine kCond rfl (fun h1 => ?_) (fun h1 => by exfalso; simp at h1; omega)
    refine kSkip (kSeq (kBlock ?_))
    refine kSeq (kReg ?_)
    refine kMovC rfl (kMovC rfl (kIadA rfl rfl rfl rfl ?_ ?_))
    · rw [len_encR, List.length_set]; omega
    refine kFadE rfl rfl (kFadE rfl rfl (?_))
    refine kLoadE rfl rfl (v := .c (.sub 0 0 (7 * i) i 0)) ?_ (kMovC rfl ?_)
    · show pickCells none (AC.ofCells 0 0 (7 * i) i 0 (((encR (L.set i ⟨r.name, r.ty, r.ttl, r.addr, r.to, r.text, r.nums⟩)).row i).drop 0)) = _
      rw [row_encRS _ _ _ hiL]
      rfl
    refine kCallS (ok_laws_markByteSS r.name K (by omega) (by omega) n1) rfl ⟨⟨rfl, rfl, rfl, rfl, rfl, rfl, (at_encRS L i 0 ⟨r.name, r.ty, r.ttl, r.addr, r.to, r.text, r.nums⟩ hiL).symm, rfl⟩, rfl, trivial⟩ ?_ rfl ?_
    · simp [encR, DV.rows]; omega
    rintro ra os ⟨rfl, ho⟩
    refine ⟨_, rfl, ?_⟩
    refine kMovC rfl (kDone ?_)
    refine kSub (t := ⟨tabSl [(0, .c (.arr 0 0)), (1, .i (K + (r.name.flatten.length : Int))), (5, .i i)], upd F 0 ⟨0, (7 * i + 1), .arr true (encR (L.set i ⟨markss r.name (K), r.ty, r.ttl, r.addr, r.to, r.text, r.nums⟩))⟩, []⟩) (.tab ?_ ⟨.refl _, .refl _, .refl _, trivial⟩) ?_
    · refine Eq.trans ?_ (upd_upd _ _ _ _).symm
      refine congrArg (upd _ _) ?_
      show _ = Ob.mk _ _ (OK.arr _ ((encR (L.set i ⟨r.name, r.ty, r.ttl, r.addr, r.to, r.text, r.nums⟩)).setCell i 0 (os.a 0)))
      rw [ho, setCell_encRS L i 0 ⟨r.name, r.ty, r.ttl, r.addr, r.to, r.text, r.nums⟩ ⟨markss r.name (K), r.ty, r.ttl, r.addr, r.to, r.text, r.nums⟩ _ hiL rfl]
      try rfl
    refine kSeq (kReg ?_)
    refine kMovC rfl (kMovC rfl (kMovC rfl (kIadA rfl rfl rfl rfl ?_ (kFadE rfl rfl ?_))))
    · rw [len_encR, List.length_set]; omega
    refine kStoreE1 rfl rfl rfl rfl (by simp [encR, DV.esz]) (kDone ?_)
    refine kSub (t := ⟨tabSl [(0, .c (.arr 0 0)), (1, .i (K + (r.name.flatten.length : Int))), (5, .i i)], upd F 0 ⟨0, (7 * i + 2), .arr true (encR (L.set i ⟨markss r.name (K), (K + (r.name.flatten.length : Int)), r.ttl, r.addr, r.to, r.text, r.nums⟩))⟩, []⟩) (.tab ?_ ⟨.refl _, .refl _, .refl _, trivial⟩) ?_
    · refine Eq.trans ?_ (upd_upd _ _ _ _).symm
      refine congrArg (upd _ _) ?_
      show _ = Ob.mk _ _ (OK.arr _ (setRow (encR (L.set i ⟨markss r.name (K), r.ty, r.ttl, r.addr, r.to, r.text, r.nums⟩)) i 1 _))
      rw [setRow_encRS L i 1 ⟨markss r.name (K), r.ty, r.ttl, r.addr, r.to, r.text, r.nums⟩ ⟨markss r.name (K), (K + (r.name.flatten.length : Int)), r.ttl, r.addr, r.to, r.text, r.nums⟩ _ hiL rfl]
      try rfl
    refine kSeq (kReg (kMovC rfl (kAdd rfl rfl (by omega) (kMovC rfl (kDone ?_)))))
    refine kSeq (kReg ?_)
    refine kMovC rfl (kMovC rfl (kMovC rfl (kIadA rfl rfl rfl rfl ?_ (kFadE rfl rfl ?_))))
    · rw [len_encR, List.length_set]; omega
    refine kStoreE1 rfl rfl rfl rfl (by simp [encR, DV.esz]) (kDone ?_)
    refine kSub (t := ⟨tabSl [(0, .c (.arr 0 0)), (1, .i (K + (r.name.flatten.length : Int) + 1)), (5, .i i)], upd F 0 ⟨0, (7 * i + 3), .arr true (encR (L.set i ⟨markss r.name (K), (K + (r.name.flatten.length : Int)), (K + (r.name.flatten.length : Int) + 1), r.addr, r.to, r.text, r.nums⟩))⟩, []⟩) (.tab ?_ ⟨.refl _, .refl _, .refl _, trivial⟩) ?_
    · refine Eq.trans ?_ (upd_upd _ _ _ _).symm
      refine congrArg (upd _ _) ?_
      show _ = Ob.mk _ _ (OK.arr _ (setRow (encR (L.set i ⟨markss r.name (K), (K + (r.name.flatten.length : Int)), r.ttl, r.addr, r.to, r.text, r.nums⟩)) i 2 _))
      rw [setRow_encRS L i 2 ⟨markss r.name (K), (K + (r.name.flatten.length : Int)), r.ttl, r.addr, r.to, r.text, r.nums⟩ ⟨markss r.name (K), (K + (r.name.flatten.length : Int)), (K + (r.name.flatten.length : Int) + 1), r.addr, r.to, r.text, r.nums⟩ _ hiL rfl]
      try rfl
    refine kSeq (kReg (kMovC rfl (kAdd rfl rfl (by omega) (kMovC rfl (kDone ?_)))))
    refine kSeq (kReg ?_)
    refine kMovC rfl (kMovC rfl (kMovC rfl (kIadA rfl rfl rfl rfl ?_ (kFadE rfl rfl ?_))))
    · rw [len_encR, List.length_set]; omega
    refine kStoreE1 rfl rfl rfl rfl (by simp [encR, DV.esz]) (kDone ?_)
    refine kSub (t := ⟨tabSl [(0, .c (.arr 0 0)), (1, .i (K + (r.name.flatten.length : Int) + 1 + 1)), (5, .i i)], upd F 0 ⟨0, (7 * i + 4), .arr true (encR (L.set i ⟨markss r.name (K), (K + (r.name.flatten.length : Int)), (K + (r.name.flatten.length : Int) + 1), (K + (r.name.flatten.length : Int) + 1 + 1), r.to, r.text, r.nums⟩))⟩, []⟩) (.tab ?_ ⟨.refl _, .refl _, .refl _, trivial⟩) ?_
    · refine Eq.trans ?_ (upd_upd _ _ _ _).symm
      refine congrArg (upd _ _) ?_
      show _ = Ob.mk _ _ (OK.arr _ (setRow (encR (L.set i ⟨markss r.name (K), (K + (r.name.flatten.length : Int)), (K + (r.name.flatten.length : Int) + 1), r.addr, r.to, r.text, r.nums⟩)) i 3 _))
      rw [setRow_encRS L i 3 ⟨markss r.name (K), (K + (r.name.flatten.length : Int)), (K + (r.name.flatten.length : Int) + 1), r.addr, r.to, r.text, r.nums⟩ ⟨markss r.name (K), (K + (r.name.flatten.length : Int)), (K + (r.name.flatten.length : Int) + 1), (K + (r.name.flatten.length : Int) + 1 + 1), r.to, r.text, r.nums⟩ _ hiL rfl]
      try rfl
    refine kSeq (kReg (kMovC rfl (kAdd rfl rfl (by omega) (kMovC rfl (kDone ?_)))))
    refine kSeq (kReg ?_)
    refine kMovC rfl (kMovC rfl (kIadA rfl rfl rfl rfl ?_ ?_))
    · rw [len_encR, List.length_set]; omega
    refine kFadE rfl rfl (kFadE rfl rfl (?_))
    refine kLoadE rfl rfl (v := .c (.sub 0 0 (7 * i + 4) i 4)) ?_ (kMovC rfl ?_)
    · show pickCells none (AC.ofCells 0 0 (7 * i + 4) i 4 (((encR (L.set i ⟨markss r.name (K), (K + (r.name.flatten.length : Int)), (K + (r.name.flatten.length : Int) + 1), (K + (r.name.flatten.length : Int) + 1 + 1), r.to, r.text, r.nums⟩)).row i).drop 4)) = _
      rw [row_encRS _ _ _ hiL]
      rfl
    refine kCallS (ok_laws_markByteSS r.to _ (by omega) (by omega) t1) rfl ⟨⟨rfl, rfl, rfl, rfl, rfl, rfl, (at_encRS L i 4 ⟨markss r.name (K), (K + (r.name.flatten.length : Int)), (K + (r.name.flatten.length : Int) + 1), (K + (r.name.flatten.length : Int) + 1 + 1), r.to, r.text, r.nums⟩ hiL).symm, rfl⟩, rfl, trivial⟩ ?_ rfl ?_
    · simp [encR, DV.rows]; omega
    rintro ra os ⟨rfl, ho⟩
    refine ⟨_, rfl, ?_⟩
    refine kMovC rfl (kDone ?_)
    refine kSub (t := ⟨tabSl [(0, .c (.arr 0 0)), (1, .i (K + (r.name.flatten.length : Int) + 1 + 1 + 1 + (r.to.flatten.length : Int))), (5, .i i)], upd F 0 ⟨0, (7 * i + 5), .arr true (encR (L.set i ⟨markss r.name (K), (K + (r.name.flatten.length : Int)), (K + (r.name.flatten.length : Int) + 1), (K + (r.name.flatten.length : Int) + 1 + 1), markss r.to (K + (r.name.flatten.length : Int) + 1 + 1 + 1), r.text, r.nums⟩))⟩, []⟩) (.tab ?_ ⟨.refl _, .refl _, .refl _, trivial⟩) ?_
    · refine Eq.trans ?_ (upd_upd _ _ _ _).symm
      refine congrArg (upd _ _) ?_
      show _ = Ob.mk _ _ (OK.arr _ ((encR (L.set i ⟨markss r.name (K), (K + (r.name.flatten.length : Int)), (K + (r.name.flatten.length : Int) + 1), (K + (r.name.flatten.length : Int) + 1 + 1), r.to, r.text, r.nums⟩)).setCell i 4 (os.a 0)))
      rw [ho, setCell_encRS L i 4 ⟨markss r.name (K), (K + (r.name.flatten.length : Int)), (K + (r.name.flatten.length : Int) + 1), (K + (r.name.flatten.length : Int) + 1 + 1), r.to, r.text, r.nums⟩ ⟨markss r.name (K), (K + (r.name.flatten.length : Int)), (K + (r.name.flatten.length : Int) + 1), (K + (r.name.flatten.length : Int) + 1 + 1), markss r.to (K + (r.name.flatten.length : Int) + 1 + 1 + 1), r.text, r.nums⟩ _ hiL rfl]
      try rfl
    refine kSeq (kReg ?_)
    refine kMovC rfl (kMovC rfl (kIadA rfl rfl rfl rfl ?_ ?_))
    · rw [len_encR, List.length_set]; omega
    refine kFadE rfl rfl (?_)
    refine kLoadE rfl rfl (v := .c (.sub 0 0 (7 * i + 5) i 5)) ?_ (kMovC rfl ?_)
    · show pickCells none (AC.ofCells 0 0 (7 * i + 5) i 5 (((encR (L.set i ⟨markss r.name (K), (K + (r.name.flatten.length : Int)), (K + (r.name.flatten.length : Int) + 1), (K + (r.name.flatten.length : Int) + 1 + 1), markss r.to (K + (r.name.flatten.length : Int) + 1 + 1 + 1), r.text, r.nums⟩)).row i).drop 5)) = _
      rw [row_encRS _ _ _ hiL]
      rfl
    refine kCallS (ok_laws_markByteS r.text _ (by omega) (by omega)) rfl ⟨⟨rfl, rfl, rfl, rfl, rfl, rfl, (at_encRS L i 5 ⟨markss r.name (K), (K + (r.name.flatten.length : Int)), (K + (r.name.flatten.length : Int) + 1), (K + (r.name.flatten.length : Int) + 1 + 1), markss r.to (K + (r.name.flatten.length : Int) + 1 + 1 + 1), r.text, r.nums⟩ hiL).symm, rfl⟩, rfl, trivial⟩ ?_ rfl ?_
    · simp [encR, DV.rows]; omega
    rintro ra os ⟨rfl, ho⟩
    refine ⟨_, rfl, ?_⟩
    refine kMovC rfl (kDone ?_)
    refine kSub (t := ⟨tabSl [(0, .c (.arr 0 0)), (1, .i (K + (r.name.flatten.length : Int) + 1 + 1 + 1 + (r.to.flatten.length : Int) + (r.text.length : Int))), (5, .i i)], upd F 0 ⟨0, (7 * i + 6), .arr true (encR (L.set i ⟨markss r.name (K), (K + (r.name.flatten.length : Int)), (K + (r.name.flatten.length : Int) + 1), (K + (r.name.flatten.length : Int) + 1 + 1), markss r.to (K + (r.name.flatten.length : Int) + 1 + 1 + 1), marks r.text.length (K + (r.name.flatten.length : Int) + 1 + 1 + 1 + (r.to.flatten.length : Int)), r.nums⟩))⟩, []⟩) (.tab ?_ ⟨.refl _, .refl _, .refl _, trivial⟩) ?_
    · refine Eq.trans ?_ (upd_upd _ _ _ _).symm
      refine congrArg (upd _ _) ?_
      show _ = Ob.mk _ _ (OK.arr _ ((encR (L.set i ⟨markss r.name (K), (K + (r.name.flatten.length : Int)), (K + (r.name.flatten.length : Int) + 1), (K + (r.name.flatten.length : Int) + 1 + 1), markss r.to (K + (r.name.flatten.length : Int) + 1 + 1 + 1), r.text, r.nums⟩)).setCell i 5 (os.a 0)))
      rw [ho, setCell_encRS L i 5 ⟨markss r.name (K), (K + (r.name.flatten.length : Int)), (K + (r.name.flatten.length : Int) + 1), (K + (r.name.flatten.length : Int) + 1 + 1), markss r.to (K + (r.name.flatten.length : Int) + 1 + 1 + 1), r.text, r.nums⟩ ⟨markss r.name (K), (K + (r.name.flatten.length : Int)), (K + (r.name.flatten.length : Int) + 1), (K + (r.name.flatten.length : Int) + 1 + 1), markss r.to (K + (r.name.flatten.length : Int) + 1 + 1 + 1), marks r.text.length (K + (r.name.flatten.length : Int) + 1 + 1 + 1 + (r.to.flatten.length : Int)), r.nums⟩ _ hiL rfl]
      try rfl
    refine kReg ?_
    refine kMovC rfl (kMovC rfl (kIadA rfl rfl rfl rfl ?_ ?_))
    · rw [len_encR, List.length_set]; omega
    refine kFadE rfl rfl (?_)
    refine kLoadE rfl rfl (v := .c (.sub 0 0 (7 * i + 6) i 6)) ?_ (kMovC rfl ?_)
    · show pickCells none (AC.ofCells 0 0 (7 * i + 6) i 6 (((encR (L.set i ⟨markss r.name (K), (K + (r.name.flatten.length : Int)), (K + (r.name.flatten.length : Int) + 1), (K + (r.name.flatten.length : Int) + 1 + 1), markss r.to (K + (r.name.flatten.length : Int) + 1 + 1 + 1), marks r.text.length (K + (r.name.flatten.length : Int) + 1 + 1 + 1 + (r.to.flatten.length : Int)), r.nums⟩)).row i).drop 6)) = _
      rw [row_encRS _ _ _ hiL]
      rfl
    refine kCallS (ok_laws_markIntS r.nums _ (by omega) (by omega)) rfl ⟨⟨rfl, rfl, rfl, rfl, rfl, rfl, (at_encRS L i 6 ⟨markss r.name (K), (K + (r.name.flatten.length : Int)), (K + (r.name.flatten.length : Int) + 1), (K + (r.name.flatten.length : Int) + 1 + 1), markss r.to (K + (r.name.flatten.length : Int) + 1 + 1 + 1), marks r.text.length (K + (r.name.flatten.length : Int) + 1 + 1 + 1 + (r.to.flatten.length : Int)), r.nums⟩ hiL).symm, rfl⟩, rfl, trivial⟩ ?_ rfl ?_
    · simp [encR, DV.rows]; omega
    rintro ra os ⟨rfl, ho⟩
    refine ⟨_, rfl, ?_⟩
    refine kMovC rfl (kDone (kBk ?_))
    refine kSub (t := ⟨tabSl [(0, .c (.arr 0 0)), (1, .i (K + (r.name.flatten.length : Int) + 1 + 1 + 1 + (r.to.flatten.length : Int) + (r.text.length : Int) + (r.nums.length : Int))), (5, .i i)], upd F 0 ⟨0, (7 * i + 7), .arr true (encR (L.set i ⟨markss r.name (K), (K + (r.name.flatten.length : Int)), (K + (r.name.flatten.length : Int) + 1), (K + (r.name.flatten.length : Int) + 1 + 1), markss r.to (K + (r.name.flatten.length : Int) + 1 + 1 + 1), marks r.text.length (K + (r.name.flatten.length : Int) + 1 + 1 + 1 + (r.to.flatten.length : Int)), marksI r.nums.length (K + (r.name.flatten.length : Int) + 1 + 1 + 1 + (r.to.flatten.length : Int) + (r.text.length : Int))⟩))⟩, []⟩) (.tab ?_ ⟨.refl _, .refl _, .refl _, trivial⟩) ?_
    · refine Eq.trans ?_ (upd_upd _ _ _ _).symm
      refine congrArg (upd _ _) ?_
      show _ = Ob.mk _ _ (OK.arr _ ((encR (L.set i ⟨markss r.name (K), (K + (r.name.flatten.length : Int)), (K + (r.name.flatten.length : Int) + 1), (K + (r.name.flatten.length : Int) + 1 + 1), markss r.to (K + (r.name.flatten.length : Int) + 1 + 1 + 1), marks r.text.length (K + (r.name.flatten.length : Int) + 1 + 1 + 1 + (r.to.flatten.length : Int)), r.nums⟩)).setCell i 6 (os.a 0)))
      rw [ho, setCell_encRS L i 6 ⟨markss r.name (K), (K + (r.name.flatten.length : Int)), (K + (r.name.flatten.length : Int) + 1), (K + (r.name.flatten.length : Int) + 1 + 1), markss r.to (K + (r.name.flatten.length : Int) + 1 + 1 + 1), marks r.text.length (K + (r.name.flatten.length : Int) + 1 + 1 + 1 + (r.to.flatten.length : Int)), r.nums⟩ ⟨markss r.name (K), (K + (r.name.flatten.length : Int)), (K + (r.name.flatten.length : Int) + 1), (K + (r.name.flatten.length : Int) + 1 + 1), markss r.to (K + (r.name.flatten.length : Int) + 1 + 1 + 1), marks r.text.length (K + (r.name.flatten.length : Int) + 1 + 1 + 1 + (r.to.flatten.length : Int)), marksI r.nums.length (K + (r.name.flatten.length : Int) + 1 + 1 + 1 + (r.to.flatten.length : Int) + (r.text.length : Int))⟩ _ hiL rfl]
      try rfl
    rw [hfin _ (by rw [← hr, ← hK]; rfl)]
    refine kReg (kMovC rfl (kAdd rfl rfl (by omega) (kMovC rfl (kDone (kInv ?_)))))
    refine ⟨⟨i + 1, hlt⟩, by simp only; omega, .tab rfl ⟨.refl _, ?_, .refl _, trivial⟩⟩
    refine Eq.mp (congrArg (fun z => WkV _ (.i z)) ?_) (.refl _)
    show _ = k + ((cntRs (l.take (i + 1)) : Nat) : Int)
    omega
  · refine kSeq (kSeq (kReg (kMovC rfl (kMovC rfl (kLen rfl rfl rfl (kBin rfl rfl rfl (kDone ?_)))))))
    rw [len_encR, hlen']
    refine kCond rfl (fun h1 => by exfalso; simp at h1; omega) (fun h1 => ?_)
    refine kExit (kExC (kExI (kExB ?_)))
    obtain rfl : i = l.length := by omega
    refine kSeq (kReg (kMovC rfl (kMovC rfl (kDone (kRet ?_)))))
    subst hF
    refine endRet (ra := [.one (.d _)]) rfl ⟨⟨⟨rfl, .inl rfl⟩, trivial⟩, .nil, ⟨rfl, fun _ => rfl, rfl⟩, trivial, trivial⟩ ?_
    refine ⟨by simp, ?_⟩
    show encR (markRs (l.take l.length) k ++ l.drop l.length) = _
    simp


def c_laws_markZone : C := (.seq (.reg false (.op 0 [] (some 2) none false (.box 2 (.t 0))
  (.op 1 [] (some 4) none false (.mov (.v (.int .i64 0)))
  .done)))
 (.seq (.reg false (.op 0 [] (some 5) none false (.fad (.t 2) 0)
  (.op 1 [] (some 6) none false (.load (some 1) (.t 5))
  (.op 2 [] (some 7) none false (.mov (.t 1))
  (.op 3 [] (some 8) none false (.call 8 34 [(.t 6), (.t 7)])
  (.op 4 [] (some 1) none false (.mov (.t 8))
  .done))))))
 (.seq (.reg false (.op 0 [] (some 9) none false (.fad (.t 2) 1)
  (.op 1 [] (some 10) none false (.load none (.t 9))
  (.op 2 [] (some 11) none false (.mov (.t 1))
  (.op 3 [] (some 12) none false (.call 12 17 [(.t 10), (.t 11)])
  (.op 4 [] (some 1) none false (.mov (.t 12))
  .done))))))
 (.seq (.reg false (.op 0 [] (some 13) none false (.mov (.t 1))
  (.op 1 [] (some 4) none false (.mov (.t 13))
  .done)))
 .ret))))
theorem dg_laws_markZone : Tryz.f16.body.bind (digC Tryz.prog Tryz.f16.ntmps []) = some c_laws_markZone := by kernel_rfl
theorem rs_laws_markZone : resSlots Tryz.prog Tryz.f16 = some [.s 4] := by kernel_rfl
theorem ok_laws_markZone (z : Zone) (k : Int) (h0 : 0 ≤ k) (hk : k + cntZ z ≤ 9223372036854775807) (hs : SmallZ z) :
    FnOK Tryz.prog 16 [.agg [.arr false true (encBB z.origin), .arr false true (encR z.rrs)], .one (.d (.sc (.int .i64 k)))] (fun ra os => ra = [.one (.d (.sc (.int .i64 (k + cntZ z))))] ∧ outsAre [(0, encBB (markZ z k).origin), (1, encR (markZ z k).rrs)] os) := by
  refine FnOK.ofK Tryz.func16 (by kernel_rfl) dg_laws_markZone rs_laws_markZone rfl rfl ?_
  unfold c_laws_markZone
  have o1 := hs.o.len
  have o2 := hs.o.mem
  have h1 := hs.r
  have hc : k + (cntZ z : Int) = k + (z.origin.flatten.length : Int) + (cntRs z.rrs : Int) := by unfold cntZ cntBB; omega
  refine kSeq (kReg (kBox rfl rfl rfl rfl rfl (kMovC rfl (kDone (kSeq (kReg (kFadP rfl rfl (kLoadP rfl rfl rfl (kMovC rfl (kCallA (ok_laws_markName _ _ (by first | assumption | omega | solve_by_elim [List.getElem_mem] | (simp only [szOut] at *; omega)) (by first | assumption | omega | solve_by_elim [List.getElem_mem] | (simp only [szOut] at *; omega)) (by first | assumption | omega | solve_by_elim [List.getElem_mem] | (simp only [szOut] at *; omega))) ⟨⟨⟨⟨_, rfl, .inl rfl⟩, trivial⟩, Nat.le_of_ble_eq_true rfl⟩, rfl, trivial⟩ rfl rfl rfl rfl (kMovC rfl (kDone (kSeq (kReg (kFadP rfl rfl (kLoadP rfl rfl rfl (kMem [(1, ⟨0, 0, .arr true _⟩)] [(1, .c (.d _)), (10, .c (.arr 1 0)), (11, .c (.un)), (12, .c (.un))] [] ⟨rfl, trivial⟩ ⟨rfl, rfl, rfl, rfl, trivial⟩ rfl (kMovC rfl (kCallA (ok_laws_markRrS _ _ (by first | assumption | omega | solve_by_elim [List.getElem_mem] | (simp only [szOut] at *; omega)) (by first | assumption | omega | solve_by_elim [List.getElem_mem] | (simp only [szOut] at *; omega)) (by first | assumption | omega | solve_by_elim [List.getElem_mem] | (simp only [szOut] at *; omega))) ⟨⟨_, rfl, .inl rfl⟩, rfl, trivial⟩ rfl rfl rfl rfl (kMovC rfl (kDone (kSeq (kReg (kMovC rfl (kMovC rfl (kDone (kRet (endRetA (ra := [.one (.d _)]) rfl ?_))))))))))))))))))))))))))))
  refine ⟨?_, rfl, rfl, trivial⟩
  rw [hc]

def c_laws_heldByteS : C := (.seq (.reg false (.op 0 [] (some 4) none false (.mov (.v (.int .i64 0)))
  .done))
 (.seq (.seq (.reg false (.op 0 [] (some 5) none false (.mov (.v (.int .i64 0)))
  .done))
 (.block 0 (.loop (.seq (.seq (.reg false (.op 0 [] (some 6) none false (.mov (.t 5))
  (.op 1 [] (some 7) none false (.mov (.t 0))
  (.op 2 [] (some 8) none false (.len (.t 7))
  (.op 3 [] (some 9) none false (.bin .lss (.t 6) (.t 8))
  .done)))))
 (.cond (.t 9)
 .skip
 (.exit 0)))
 (.seq (.block 1 (.seq (.seq (.reg false (.op 0 [] (some 12) none false (.mov (.t 0))
  (.op 1 [] (some 13) none false (.mov (.t 5))
  (.op 2 [] (some 14) none false (.iad 1 (.t 12) (.t 13))
  (.op 3 [] (some 15) none false (.load none (.t 14))
  (.op 4 [] (some 16) none false (.mov (.t 1))
  (.op 5 [] (some 17) none false (.conv .u8 (.t 16))
  (.op 6 [] (some 18) none false (.bin .neq (.t 15) (.t 17))
  .done))))))))
 (.cond (.t 18)
 (.seq (.reg false (.op 0 [] (some 4) none false (.mov (.v (.int .i64 (-1))))
  .done))
 .ret)
 .skip))
 (.reg false (.op 0 [] (some 19) none false (.mov (.t 1))
  (.op 1 [] (some 20) none false (.bin .add (.t 19) (.v (.int .i64 1)))
  (.op 2 [] (some 1) none false (.mov (.t 20))
  .done))))))
 (.reg false (.op 0 [] (some 10) none false (.mov (.t 5))
  (.op 1 [] (some 11) none false (.bin .add (.t 10) (.v (.int .i64 1)))
  (.op 2 [] (some 5) none false (.mov (.t 11))
  .done)))))))))
 (.seq (.reg false (.op 0 [] (some 21) none false (.mov (.t 1))
  (.op 1 [] (some 4) none false (.mov (.t 21))
  .done)))
 .ret)))
theorem dg_laws_heldByteS : Tryz.f59.body.bind (digC Tryz.prog Tryz.f59.ntmps []) = some c_laws_heldByteS := by kernel_rfl
theorem rs_laws_heldByteS : resSlots Tryz.prog Tryz.f59 = some [.s 4] := by kernel_rfl
theorem ok_laws_heldByteS (n : Nat) (k : Int) (h0 : 0 ≤ k) (hk : k + n ≤ 9223372036854775807) :
    FnOK Tryz.prog 59 [.one (.d (encB (marks n k))), .one (.d (.sc (.int .i64 k)))] (fun ra _ => ra = [.one (.d (.sc (.int .i64 (k + n))))]) := by
  refine FnOK.ofK Tryz.func59 (by kernel_rfl) dg_laws_heldByteS rs_laws_heldByteS rfl rfl ?_
  unfold c_laws_heldByteS
  have hm := marks_len n k
  refine kSeq (kReg (kMovC rfl (kDone (kSeq (kSeq (kReg (kMovC rfl (kDone (kBlock ?_)))))))))
  refine kLoop (α := { i : Nat // i ≤ n })
    (fun y => ⟨tabSl [(0, .dv (encB (marks n k))), (1, .i (k + y.1)), (5, .i y.1)], obTab 1 [], []⟩) (fun y => n - y.1) ⟨0, by simp⟩
    .normA ?_
  rintro ⟨i, hi⟩
  simp only
  refine kSeq (kSeq (kReg (kMovC rfl (kMovC rfl (kLenR rfl rfl (kBin rfl rfl rfl (kDone (kCondP rfl (fun g0 => kSkip (kSeq (kBlock (kSeq (kSeq (kReg (kMovC rfl (kMovC rfl (kIadR rfl rfl rfl (by omega) (kLoadD rfl rfl (kMovC rfl (kConv rfl (kBin rfl rfl rfl (kDone (kCondN rfl (fun g1 => kSeq (kReg (kMovC rfl (kDone (kRet (endRetA (ra := [.one (.d _)]) rfl ?_)))))) (fun g1 => kSkip (kReg (kMovC rfl (kAdd rfl rfl (by omega) (kMovC rfl (kDone (kBk (kReg (kMovC rfl (kAdd rfl rfl (by omega) (kMovC rfl (kDone ?_))))))))))))))))))))))))))) (fun g0 => kExit (kExC (kExI (kExB (kSeq (kReg (kMovC rfl (kMovC rfl (kDone (kRet (endRetA (ra := [.one (.d _)]) rfl ?_)))))))))))))))))))
  · rw [marks_get, beq_self_eq_true] at g1; cases g1
  · exact kInv ⟨⟨i + 1, by omega⟩, by simp only; omega, .normA⟩
  · rw [show i = n by omega]

def c_laws_heldByteSS : C := (.seq (.reg false (.op 0 [] (some 4) none false (.mov (.v (.int .i64 0)))
  .done))
 (.seq (.seq (.reg false (.op 0 [] (some 5) none false (.mov (.v (.int .i64 0)))
  .done))
 (.block 0 (.loop (.seq (.seq (.reg false (.op 0 [] (some 6) none false (.mov (.t 5))
  (.op 1 [] (some 7) none false (.mov (.t 0))
  (.op 2 [] (some 8) none false (.len (.t 7))
  (.op 3 [] (some 9) none false (.bin .lss (.t 6) (.t 8))
  .done)))))
 (.cond (.t 9)
 .skip
 (.exit 0)))
 (.seq (.block 1 (.seq (.reg false (.op 0 [] (some 12) none false (.mov (.t 0))
  (.op 1 [] (some 13) none false (.mov (.t 5))
  (.op 2 [] (some 14) none false (.iad 1 (.t 12) (.t 13))
  (.op 3 [] (some 15) none false (.load none (.t 14))
  (.op 4 [] (some 16) none false (.mov (.t 1))
  (.op 5 [] (some 17) none false (.call 17 59 [(.t 15), (.t 16)])
  (.op 6 [] (some 1) none false (.mov (.t 17))
  .done))))))))
 (.seq (.reg false (.op 0 [] (some 18) none false (.mov (.t 1))
  (.op 1 [] (some 19) none false (.bin .lss (.t 18) (.v (.int .i64 0)))
  .done)))
 (.cond (.t 19)
 (.seq (.reg false (.op 0 [] (some 4) none false (.mov (.v (.int .i64 (-1))))
  .done))
 .ret)
 .skip))))
 (.reg false (.op 0 [] (some 10) none false (.mov (.t 5))
  (.op 1 [] (some 11) none false (.bin .add (.t 10) (.v (.int .i64 1)))
  (.op 2 [] (some 5) none false (.mov (.t 11))
  .done)))))))))
 (.seq (.reg false (.op 0 [] (some 20) none false (.mov (.t 1))
  (.op 1 [] (some 4) none false (.mov (.t 20))
  .done)))
 .ret)))
theorem dg_laws_heldByteSS : Tryz.f58.body.bind (digC Tryz.prog Tryz.f58.ntmps []) = some c_laws_heldByteSS := by kernel_rfl
theorem rs_laws_heldByteSS : resSlots Tryz.prog Tryz.f58 = some [.s 4] := by kernel_rfl
theorem ok_laws_heldByteSS (a : List (List UInt8)) (k : Int) (h0 : 0 ≤ k) (hk : k + a.flatten.length ≤ 9223372036854775807) (hl : a.length ≤ 4194304) :
    FnOK Tryz.prog 58 [.one (.d (encBB (markss a k))), .one (.d (.sc (.int .i64 k)))] (fun ra _ => ra = [.one (.d (.sc (.int .i64 (k + a.flatten.length))))]) := by
  refine FnOK.ofK Tryz.func58 (by kernel_rfl) dg_laws_heldByteSS rs_laws_heldByteSS rfl rfl ?_
  unfold c_laws_heldByteSS
  have hm := markss_len a k
  refine kSeq (kReg (kMovC rfl (kDone (kSeq (kSeq (kReg (kMovC rfl (kDone (kBlock ?_)))))))))
  refine kLoop (α := { i : Nat // i ≤ a.length })
    (fun y => ⟨tabSl [(0, .dv (encBB (markss a k))), (1, .i (k + (a.take y.1).flatten.length)), (5, .i y.1)], obTab 1 [], []⟩) (fun y => a.length - y.1) ⟨0, by simp⟩
    .normA ?_
  rintro ⟨i, hi⟩
  simp only
  have hsuc : ∀ h : i < a.length, (a.take (i + 1)).flatten.length = (a.take i).flatten.length + a[i].length := take_flat a i
  have hle := flat_le a i
  have hle2 := flat_le a (i + 1)
  refine kSeq (kSeq (kReg (kMovC rfl (kMovC rfl (kLenR rfl rfl (kBin rfl rfl rfl (kDone (kCondP rfl (fun g0 => kSkip (kSeq (kBlock (kSeq (kReg (kMovC rfl (kMovC rfl (kIadR rfl rfl rfl (by omega) (kLoadD rfl rfl (kMovC rfl ?_)))))))))) (fun g0 => kExit (kExC (kExI (kExB (kSeq (kReg (kMovC rfl (kMovC rfl (kDone (kRet (endRetA (ra := [.one (.d _)]) rfl ?_)))))))))))))))))))
  · have hlt : i < a.length := by omega
    have := hsuc hlt
    rw [markss_get a k i (by omega) hlt]
    refine kCall1 true (ok_laws_heldByteS a[i].length (k + (a.take i).flatten.length) (by omega) (by omega)) ⟨rfl, rfl, trivial⟩ rfl rfl rfl (fun _ => ?_)
    refine kMovC rfl (kDone (kSeq (kReg (kMovC rfl (kBin rfl rfl rfl (kDone (kCondP rfl (fun g0 => kSeq (kReg (kMovC rfl (kDone (kRet (endRetA (ra := [.one (.d _)]) rfl ?_)))))) (fun g0 => kSkip (kBk (kReg (kMovC rfl (kAdd rfl rfl (by omega) (kMovC rfl (kDone ?_))))))))))))))
    · omega
    · exact kInv ⟨⟨i + 1, by omega⟩, by simp only; omega, .normA⟩
  · rw [show i = a.length by omega, List.take_length]

def c_laws_heldIntS : C := (.seq (.reg false (.op 0 [] (some 4) none false (.mov (.v (.int .i64 0)))
  .done))
 (.seq (.seq (.reg false (.op 0 [] (some 5) none false (.mov (.v (.int .i64 0)))
  .done))
 (.block 0 (.loop (.seq (.seq (.reg false (.op 0 [] (some 6) none false (.mov (.t 5))
  (.op 1 [] (some 7) none false (.mov (.t 0))
  (.op 2 [] (some 8) none false (.len (.t 7))
  (.op 3 [] (some 9) none false (.bin .lss (.t 6) (.t 8))
  .done)))))
 (.cond (.t 9)
 .skip
 (.exit 0)))
 (.seq (.block 1 (.seq (.seq (.reg false (.op 0 [] (some 12) none false (.mov (.t 0))
  (.op 1 [] (some 13) none false (.mov (.t 5))
  (.op 2 [] (some 14) none false (.iad 1 (.t 12) (.t 13))
  (.op 3 [] (some 15) none false (.load none (.t 14))
  (.op 4 [] (some 16) none false (.mov (.t 1))
  (.op 5 [] (some 17) none false (.bin .neq (.t 15) (.t 16))
  .done)))))))
 (.cond (.t 17)
 (.seq (.reg false (.op 0 [] (some 4) none false (.mov (.v (.int .i64 (-1))))
  .done))
 .ret)
 .skip))
 (.reg false (.op 0 [] (some 18) none false (.mov (.t 1))
  (.op 1 [] (some 19) none false (.bin .add (.t 18) (.v (.int .i64 1)))
  (.op 2 [] (some 1) none false (.mov (.t 19))
  .done))))))
 (.reg false (.op 0 [] (some 10) none false (.mov (.t 5))
  (.op 1 [] (some 11) none false (.bin .add (.t 10) (.v (.int .i64 1)))
  (.op 2 [] (some 5) none false (.mov (.t 11))
  .done)))))))))
 (.seq (.reg false (.op 0 [] (some 20) none false (.mov (.t 1))
  (.op 1 [] (some 4) none false (.mov (.t 20))
  .done)))
 .ret)))
theorem dg_laws_heldIntS : Tryz.f60.body.bind (digC Tryz.prog Tryz.f60.ntmps []) = some c_laws_heldIntS := by kernel_rfl
theorem rs_laws_heldIntS : resSlots Tryz.prog Tryz.f60 = some [.s 4] := by kernel_rfl
theorem ok_laws_heldIntS (n : Nat) (k : Int) (h0 : 0 ≤ k) (hk : k + n ≤ 9223372036854775807) :
    FnOK Tryz.prog 60 [.one (.d (encI (marksI n k))), .one (.d (.sc (.int .i64 k)))] (fun ra _ => ra = [.one (.d (.sc (.int .i64 (k + n))))]) := by
  refine FnOK.ofK Tryz.func60 (by kernel_rfl) dg_laws_heldIntS rs_laws_heldIntS rfl rfl ?_
  unfold c_laws_heldIntS
  have hm := marksI_len n k
  refine kSeq (kReg (kMovC rfl (kDone (kSeq (kSeq (kReg (kMovC rfl (kDone (kBlock ?_)))))))))
  refine kLoop (α := { i : Nat // i ≤ n })
    (fun y => ⟨tabSl [(0, .dv (encI (marksI n k))), (1, .i (k + y.1)), (5, .i y.1)], obTab 1 [], []⟩) (fun y => n - y.1) ⟨0, by simp⟩
    .normA ?_
  rintro ⟨i, hi⟩
  simp only
  rcases Nat.lt_or_ge i n with hlt | hge
  · have hg := marksI_get n k i (by omega)
    refine kSeq (kSeq (kReg (kMovC rfl (kMovC rfl (kLenR rfl rfl (kBin rfl rfl rfl (kDone (kCondP rfl (fun g0 => kSkip (kSeq (kBlock (kSeq (kSeq (kReg (kMovC rfl (kMovC rfl (kIadR rfl rfl rfl (by omega) (kLoadD rfl rfl (kMovC rfl (kBin rfl rfl rfl (kDone (kCondIN rfl (fun g1 => (by omega)) (fun g1 => kSkip (kReg (kMovC rfl (kAdd rfl rfl (by omega) (kMovC rfl (kDone (kBk (kReg (kMovC rfl (kAdd rfl rfl (by omega) (kMovC rfl (kDone ?_)))))))))))))))))))))))))) (fun g0 => (by omega))))))))))
    exact kInv ⟨⟨i + 1, by omega⟩, by simp only; omega, .normA⟩
  · refine kSeq (kSeq (kReg (kMovC rfl (kMovC rfl (kLenR rfl rfl (kBin rfl rfl rfl (kDone (kCondP rfl (fun g0 => (by omega)) (fun g0 => kExit (kExC (kExI (kExB (kSeq (kReg (kMovC rfl (kMovC rfl (kDone (kRet (endRetA (ra := [.one (.d _)]) rfl ?_)))))))))))))))))))
    rw [show i = n by omega]

def c_laws_heldRrS : C := (.seq (.reg false (.op 0 [] (some 4) none false (.mov (.v (.int .i64 0)))
  .done))
 (.seq (.seq (.reg false (.op 0 [] (some 5) none false (.mov (.v (.int .i64 0)))
  .done))
 (.block 0 (.loop (.seq (.seq (.reg false (.op 0 [] (some 6) none false (.mov (.t 5))
  (.op 1 [] (some 7) none false (.mov (.t 0))
  (.op 2 [] (some 8) none false (.len (.t 7))
  (.op 3 [] (some 9) none false (.bin .lss (.t 6) (.t 8))
  .done)))))
 (.cond (.t 9)
 .skip
 (.exit 0)))
 (.seq (.block 1 (.seq (.reg false (.op 0 [] (some 12) none false (.mov (.t 0))
  (.op 1 [] (some 13) none false (.mov (.t 5))
  (.op 2 [] (some 14) none false (.iad 7 (.t 12) (.t 13))
  (.op 3 [] (some 15) none false (.fad (.t 14) 0)
  (.op 4 [] (some 16) none false (.fad (.t 15) 0)
  (.op 5 [] (some 17) none false (.load none (.t 16))
  (.op 6 [] (some 18) none false (.mov (.t 1))
  (.op 7 [] (some 19) none false (.call 19 58 [(.t 17), (.t 18)])
  (.op 8 [] (some 1) none false (.mov (.t 19))
  .done))))))))))
 (.seq (.seq (.reg false (.op 0 [] (some 20) none false (.mov (.t 1))
  (.op 1 [] (some 21) none false (.bin .lss (.t 20) (.v (.int .i64 0)))
  .done)))
 (.cond (.t 21)
 (.seq (.reg false (.op 0 [] (some 4) none false (.mov (.v (.int .i64 (-1))))
  .done))
 .ret)
 .skip))
 (.seq (.seq (.reg false (.op 0 [] (some 22) none false (.mov (.t 0))
  (.op 1 [] (some 23) none false (.mov (.t 5))
  (.op 2 [] (some 24) none false (.iad 7 (.t 22) (.t 23))
  (.op 3 [] (some 25) none false (.fad (.t 24) 1)
  (.op 4 [] (some 26) none false (.load none (.t 25))
  (.op 5 [] (some 27) none false (.mov (.t 1))
  (.op 6 [] (some 28) none false (.bin .neq (.t 26) (.t 27))
  .done))))))))
 (.cond (.t 28)
 (.seq (.reg false (.op 0 [] (some 4) none false (.mov (.v (.int .i64 (-1))))
  .done))
 .ret)
 .skip))
 (.seq (.reg false (.op 0 [] (some 29) none false (.mov (.t 1))
  (.op 1 [] (some 30) none false (.bin .add (.t 29) (.v (.int .i64 1)))
  (.op 2 [] (some 1) none false (.mov (.t 30))
  .done))))
 (.seq (.seq (.reg false (.op 0 [] (some 31) none false (.mov (.t 0))
  (.op 1 [] (some 32) none false (.mov (.t 5))
  (.op 2 [] (some 33) none false (.iad 7 (.t 31) (.t 32))
  (.op 3 [] (some 34) none false (.fad (.t 33) 2)
  (.op 4 [] (some 35) none false (.load none (.t 34))
  (.op 5 [] (some 36) none false (.mov (.t 1))
  (.op 6 [] (some 37) none false (.bin .neq (.t 35) (.t 36))
  .done))))))))
 (.cond (.t 37)
 (.seq (.reg false (.op 0 [] (some 4) none false (.mov (.v (.int .i64 (-1))))
  .done))
 .ret)
 .skip))
 (.seq (.reg false (.op 0 [] (some 38) none false (.mov (.t 1))
  (.op 1 [] (some 39) none false (.bin .add (.t 38) (.v (.int .i64 1)))
  (.op 2 [] (some 1) none false (.mov (.t 39))
  .done))))
 (.seq (.seq (.reg false (.op 0 [] (some 40) none false (.mov (.t 0))
  (.op 1 [] (some 41) none false (.mov (.t 5))
  (.op 2 [] (some 42) none false (.iad 7 (.t 40) (.t 41))
  (.op 3 [] (some 43) none false (.fad (.t 42) 3)
  (.op 4 [] (some 44) none false (.load none (.t 43))
  (.op 5 [] (some 45) none false (.mov (.t 1))
  (.op 6 [] (some 46) none false (.bin .neq (.t 44) (.t 45))
  .done))))))))
 (.cond (.t 46)
 (.seq (.reg false (.op 0 [] (some 4) none false (.mov (.v (.int .i64 (-1))))
  .done))
 .ret)
 .skip))
 (.seq (.reg false (.op 0 [] (some 47) none false (.mov (.t 1))
  (.op 1 [] (some 48) none false (.bin .add (.t 47) (.v (.int .i64 1)))
  (.op 2 [] (some 1) none false (.mov (.t 48))
  .done))))
 (.seq (.reg false (.op 0 [] (some 49) none false (.mov (.t 0))
  (.op 1 [] (some 50) none false (.mov (.t 5))
  (.op 2 [] (some 51) none false (.iad 7 (.t 49) (.t 50))
  (.op 3 [] (some 52) none false (.fad (.t 51) 4)
  (.op 4 [] (some 53) none false (.fad (.t 52) 0)
  (.op 5 [] (some 54) none false (.load none (.t 53))
  (.op 6 [] (some 55) none false (.mov (.t 1))
  (.op 7 [] (some 56) none false (.call 56 58 [(.t 54), (.t 55)])
  (.op 8 [] (some 1) none false (.mov (.t 56))
  .done))))))))))
 (.seq (.seq (.reg false (.op 0 [] (some 57) none false (.mov (.t 1))
  (.op 1 [] (some 58) none false (.bin .lss (.t 57) (.v (.int .i64 0)))
  .done)))
 (.cond (.t 58)
 (.seq (.reg false (.op 0 [] (some 4) none false (.mov (.v (.int .i64 (-1))))
  .done))
 .ret)
 .skip))
 (.seq (.reg false (.op 0 [] (some 59) none false (.mov (.t 0))
  (.op 1 [] (some 60) none false (.mov (.t 5))
  (.op 2 [] (some 61) none false (.iad 7 (.t 59) (.t 60))
  (.op 3 [] (some 62) none false (.fad (.t 61) 5)
  (.op 4 [] (some 63) none false (.load none (.t 62))
  (.op 5 [] (some 64) none false (.mov (.t 1))
  (.op 6 [] (some 65) none false (.call 65 59 [(.t 63), (.t 64)])
  (.op 7 [] (some 1) none false (.mov (.t 65))
  .done)))))))))
 (.seq (.seq (.reg false (.op 0 [] (some 66) none false (.mov (.t 1))
  (.op 1 [] (some 67) none false (.bin .lss (.t 66) (.v (.int .i64 0)))
  .done)))
 (.cond (.t 67)
 (.seq (.reg false (.op 0 [] (some 4) none false (.mov (.v (.int .i64 (-1))))
  .done))
 .ret)
 .skip))
 (.seq (.reg false (.op 0 [] (some 68) none false (.mov (.t 0))
  (.op 1 [] (some 69) none false (.mov (.t 5))
  (.op 2 [] (some 70) none false (.iad 7 (.t 68) (.t 69))
  (.op 3 [] (some 71) none false (.fad (.t 70) 6)
  (.op 4 [] (some 72) none false (.load none (.t 71))
  (.op 5 [] (some 73) none false (.mov (.t 1))
  (.op 6 [] (some 74) none false (.call 74 60 [(.t 72), (.t 73)])
  (.op 7 [] (some 1) none false (.mov (.t 74))
  .done)))))))))
 (.seq (.reg false (.op 0 [] (some 75) none false (.mov (.t 1))
  (.op 1 [] (some 76) none false (.bin .lss (.t 75) (.v (.int .i64 0)))
  .done)))
 (.cond (.t 76)
 (.seq (.reg false (.op 0 [] (some 4) none false (.mov (.v (.int .i64 (-1))))
  .done))
 .ret)
 .skip))))))))))))))))
 (.reg false (.op 0 [] (some 10) none false (.mov (.t 5))
  (.op 1 [] (some 11) none false (.bin .add (.t 10) (.v (.int .i64 1)))
  (.op 2 [] (some 5) none false (.mov (.t 11))
  .done)))))))))
 (.seq (.reg false (.op 0 [] (some 77) none false (.mov (.t 1))
  (.op 1 [] (some 4) none false (.mov (.t 77))
  .done)))
 .ret)))
theorem dg_laws_heldRrS : Tryz.f18.body.bind (digC Tryz.prog Tryz.f18.ntmps []) = some c_laws_heldRrS := by kernel_rfl
theorem rs_laws_heldRrS : resSlots Tryz.prog Tryz.f18 = some [.s 4] := by kernel_rfl
theorem ok_laws_heldRrS (l : List Rr) (k : Int) (h0 : 0 ≤ k) (hk : k + cntRs l ≤ 9223372036854775807) (hs : SmallRs l) :
    FnOK Tryz.prog 18 [.one (.d (encR (markRs l k))), .one (.d (.sc (.int .i64 k)))] (fun ra _ => ra = [.one (.d (.sc (.int .i64 (k + cntRs l))))]) := by
  refine FnOK.ofK Tryz.func18 (by kernel_rfl) dg_laws_heldRrS rs_laws_heldRrS rfl rfl ?_
  unfold c_laws_heldRrS
  have hm := markRs_len l k
  have h1 := hs.len
  refine kSeq (kReg (kMovC rfl (kDone (kSeq (kSeq (kReg (kMovC rfl (kDone (kBlock ?_)))))))))
  refine kLoop (α := { i : Nat // i ≤ l.length }) (fun y => ⟨tabSl [(0, .dv (encR (markRs l k))), (1, .i (k + cntRs (l.take y.1))), (5, .i y.1)], obTab 1 [], []⟩) (fun y => l.length - y.1) ⟨0, by simp⟩ .normA ?_
  rintro ⟨i, hi⟩
  simp only
  have hle := cntRs_le l i
  have hle2 := cntRs_le l (i + 1)
  rcases Nat.lt_or_ge i l.length with hlt | hge
  · have hbi := hs.mem _ (List.getElem_mem hlt)
    have n1 := hbi.n.len
    have t1 := hbi.t.len
    have hsuc := cntRs_take l i hlt
    have hrow := markRs_get l k i (by omega) hlt
    have hc : cntR l[i] = cntBB l[i].name + 3 + cntBB l[i].to + l[i].text.length + l[i].nums.length := rfl
    have hcb : cntBB l[i].name = l[i].name.flatten.length := rfl
    have hct : cntBB l[i].to = l[i].to.flatten.length := rfl
    have e1 : (markR l[i] (k + ↑(cntRs (List.take i l)))).ty = k + (cntRs (l.take i) : Int) + (l[i].name.flatten.length : Int) := rfl
    have e2 : (markR l[i] (k + ↑(cntRs (List.take i l)))).ttl = k + (cntRs (l.take i) : Int) + (l[i].name.flatten.length : Int) + 1 := rfl
    have e3 : (markR l[i] (k + ↑(cntRs (List.take i l)))).addr = k + (cntRs (l.take i) : Int) + (l[i].name.flatten.length : Int) + 1 + 1 := rfl
    refine kSeq (kSeq (kReg (kMovC rfl (kMovC rfl (kLenR rfl rfl (kBin rfl rfl rfl (kDone (kCondP rfl (fun g0 => kSkip (kSeq (kBlock (kSeq (kReg (kMovC rfl (kMovC rfl (kIadRW rfl rfl rfl (by omega) hrow (kFadD rfl (kFadD rfl (kLoadD rfl rfl (kMovC rfl (kCallD (ok_laws_heldByteSS _ _ (by first | assumption | omega | solve_by_elim [List.getElem_mem] | (simp only [szOut] at *; omega)) (by first | assumption | omega | solve_by_elim [List.getElem_mem] | (simp only [szOut] at *; omega)) (by first | assumption | omega | solve_by_elim [List.getElem_mem] | (simp only [szOut] at *; omega))) ⟨rfl, rfl, trivial⟩ rfl rfl rfl rfl rfl (kMovC rfl (kDone (kSeq (kSeq (kReg (kMovC rfl (kBin rfl rfl rfl (kDone (kCondP rfl (fun g1 => (by omega)) (fun g1 => kSkip (kSeq (kSeq (kReg (kMovC rfl (kMovC rfl (kIadRW rfl rfl rfl (by omega) hrow (kFadD rfl (kLoadD rfl rfl (kMovC rfl (kBin rfl rfl rfl (kDone (kCondIN rfl (fun g2 => (by omega)) (fun g2 => kSkip (kSeq (kReg (kMovC rfl (kAdd rfl rfl (by omega) (kMovC rfl (kDone (kSeq (kSeq (kReg (kMovC rfl (kMovC rfl (kIadRW rfl rfl rfl (by omega) hrow (kFadD rfl (kLoadD rfl rfl (kMovC rfl (kBin rfl rfl rfl (kDone (kCondIN rfl (fun g3 => (by omega)) (fun g3 => kSkip (kSeq (kReg (kMovC rfl (kAdd rfl rfl (by omega) (kMovC rfl (kDone (kSeq (kSeq (kReg (kMovC rfl (kMovC rfl (kIadRW rfl rfl rfl (by omega) hrow (kFadD rfl (kLoadD rfl rfl (kMovC rfl (kBin rfl rfl rfl (kDone (kCondIN rfl (fun g4 => (by omega)) (fun g4 => kSkip (kSeq (kReg (kMovC rfl (kAdd rfl rfl (by omega) (kMovC rfl (kDone (kSeq (kReg (kMovC rfl (kMovC rfl (kIadRW rfl rfl rfl (by omega) hrow (kFadD rfl (kFadD rfl (kLoadD rfl rfl (kMovC rfl (kCallD (ok_laws_heldByteSS _ _ (by first | assumption | omega | solve_by_elim [List.getElem_mem] | (simp only [szOut] at *; omega)) (by first | assumption | omega | solve_by_elim [List.getElem_mem] | (simp only [szOut] at *; omega)) (by first | assumption | omega | solve_by_elim [List.getElem_mem] | (simp only [szOut] at *; omega))) ⟨rfl, rfl, trivial⟩ rfl rfl rfl rfl rfl (kMovC rfl (kDone (kSeq (kSeq (kReg (kMovC rfl (kBin rfl rfl rfl (kDone (kCondP rfl (fun g5 => (by omega)) (fun g5 => kSkip (kSeq (kReg (kMovC rfl (kMovC rfl (kIadRW rfl rfl rfl (by omega) hrow (kFadD rfl (kLoadD rfl rfl (kMovC rfl (kCallD (ok_laws_heldByteS _ _ (by first | assumption | omega | solve_by_elim [List.getElem_mem] | (simp only [szOut] at *; omega)) (by first | assumption | omega | solve_by_elim [List.getElem_mem] | (simp only [szOut] at *; omega))) ⟨rfl, rfl, trivial⟩ rfl rfl rfl rfl rfl (kMovC rfl (kDone (kSeq (kSeq (kReg (kMovC rfl (kBin rfl rfl rfl (kDone (kCondP rfl (fun g6 => (by omega)) (fun g6 => kSkip (kSeq (kReg (kMovC rfl (kMovC rfl (kIadRW rfl rfl rfl (by omega) hrow (kFadD rfl (kLoadD rfl rfl (kMovC rfl (kCallD (ok_laws_heldIntS _ _ (by first | assumption | omega | solve_by_elim [List.getElem_mem] | (simp only [szOut] at *; omega)) (by first | assumption | omega | solve_by_elim [List.getElem_mem] | (simp only [szOut] at *; omega))) ⟨rfl, rfl, trivial⟩ rfl rfl rfl rfl rfl (kMovC rfl (kDone (kSeq (kReg (kMovC rfl (kBin rfl rfl rfl (kDone (kCondP rfl (fun g7 => (by omega)) (fun g7 => kSkip (kBk (kReg (kMovC rfl (kAdd rfl rfl (by omega) (kMovC rfl (kDone ?_))))))))))))))))))))))))))))))))))))))))))))))))))))))))))))))))))))))))))))))))))))))))))))))))))))))))))))))))))))))))))))))))))))))))))))))) (fun g0 => (by omega))))))))))
    exact kInv ⟨⟨i + 1, by omega⟩, by simp only; omega, .normA⟩
  · refine kSeq (kSeq (kReg (kMovC rfl (kMovC rfl (kLenR rfl rfl (kBin rfl rfl rfl (kDone (kCondP rfl (fun g0 => (by omega)) (fun g0 => kExit (kExC (kExI (kExB (kSeq (kReg (kMovC rfl (kMovC rfl (kDone (kRet (endRetA (ra := [.one (.d _)]) rfl ?_)))))))))))))))))))
    rw [show i = l.length by omega, List.take_length]

def c_laws_FnExactLookup : C := (.seq (.reg false (.op 0 [] (some 3) none false (.box 3 (.t 0))
  (.op 1 [] (some 4) none false (.box 4 (.t 1))
  (.op 2 [] (some 6) none false (.mov (.v (.bool false)))
  .done))))
 (.seq (.reg false (.op 0 [] (some 7) none false (.mov (.v (.int .i64 1048576)))
  .done))
 (.seq (.reg false (.op 0 [] (some 19) none false (.load (some 2) (.t 3))
  (.op 1 [] (some 20) none false (.mov (.t 7))
  (.op 2 [] (some 21) none false (.call 21 10 [(.t 19), (.t 20)])
  (.op 3 [] (some 7) none false (.mov (.t 21))
  .done)))))
 (.seq (.seq (.reg false (.op 0 [] (some 22) none false (.mov (.t 7))
  (.op 1 [] (some 23) none false (.bin .lss (.t 22) (.v (.int .i64 0)))
  .done)))
 (.cond (.t 23)
 (.seq (.reg false (.op 0 [] (some 6) none false (.mov (.v (.bool true)))
  .done))
 .ret)
 .skip))
 (.seq (.reg false (.op 0 [] (some 24) none false (.load (some 1) (.t 4))
  (.op 1 [] (some 25) none false (.mov (.t 7))
  (.op 2 [] (some 26) none false (.call 26 29 [(.t 24), (.t 25)])
  (.op 3 [] (some 7) none false (.mov (.t 26))
  .done)))))
 (.seq (.seq (.reg false (.op 0 [] (some 27) none false (.mov (.t 7))
  (.op 1 [] (some 28) none false (.bin .lss (.t 27) (.v (.int .i64 0)))
  .done)))
 (.cond (.t 28)
 (.seq (.reg false (.op 0 [] (some 6) none false (.mov (.v (.bool true)))
  .done))
 .ret)
 .skip))
 (.seq (.reg true (.op 0 [] (some 30) none true (.load (some 2) (.t 3))
  (.op 2 [] (some 32) none true (.load (some 1) (.t 4))
  (.op 4 [] (some 34) none true (.mov (.t 2))
  (.op 1 [0] (some 31) none false (.call 31 12 [(.t 30)])
  (.op 3 [2, 0] (some 33) none false (.call 33 31 [(.t 32)])
  (.op 5 [0, 2] (some 35) none false (.call 35 41 [(.t 31), (.t 33), (.t 34)])
  (.op 6 [] (some 29) none true (.mov (.t 35))
  (.op 7 [] (some 36) none true (.ext (.t 29) 0)
  (.op 8 [] (some 37) none true (.ext (.t 29) 1)
  (.op 9 [] (some 8) none true (.mov (.t 36))
  (.op 10 [] (some 9) none true (.mov (.t 37))
  .done))))))))))))
 (.seq (.reg false (.op 0 [] (some 38) none false (.load (some 2) (.t 3))
  (.op 1 [] (some 39) none false (.call 39 12 [(.t 38)])
  (.op 2 [] (some 10) none false (.alloc 10 [(.n 1), (.n 7)])
  (.op 3 [] none none false (.store (some 2) (.t 10) (.t 39))
  .done)))))
 (.seq (.reg false (.op 0 [] (some 40) none false (.load (some 1) (.t 4))
  (.op 1 [] (some 41) none false (.call 41 31 [(.t 40)])
  (.op 2 [] (some 11) none false (.alloc 11 [(.n 1)])
  (.op 3 [] none none false (.store (some 1) (.t 11) (.t 41))
  .done)))))
 (.seq (.reg false (.op 0 [] (some 43) none false (.load (some 2) (.t 10))
  (.op 1 [] (some 44) none false (.load (some 1) (.t 11))
  (.op 2 [] (some 45) none false (.mov (.t 2))
  (.op 3 [] (some 46) none false (.call 46 42 [(.t 43), (.t 44), (.t 45)])
  (.op 4 [] (some 42) none false (.mov (.t 46))
  (.op 5 [] (some 47) none false (.ext (.t 42) 0)
  (.op 6 [] (some 48) none false (.ext (.t 42) 1)
  (.op 7 [] (some 12) none false (.mov (.t 47))
  (.op 8 [] (some 13) none false (.mov (.t 48))
  .done))))))))))
 (.seq (.seq (.reg false (.op 0 [] (some 49) none false (.mov (.t 12))
  (.op 1 [] (some 50) none false (.mov (.t 8))
  (.op 2 [] (some 51) none false (.call 51 14 [(.t 49), (.t 50)])
  (.op 3 [] (some 52) none false (.un .not (.t 51))
  (.op 4 [] (some 53) none false (.mov (.t 52))
  (.op 5 [] (some 54) (some (53, false)) false (.mov (.t 13))
  (.op 6 [] (some 55) (some (53, false)) false (.mov (.t 9))
  (.op 7 [] (some 56) (some (53, false)) false (.bin .neq (.t 54) (.t 55))
  (.op 8 [] (some 57) none false (.pick (.t 53) (.v (.bool true)) (.t 56))
  .done))))))))))
 (.cond (.t 57)
 (.seq (.reg false (.op 0 [] (some 6) none false (.mov (.v (.bool false)))
  .done))
 .ret)
 .skip))
 (.seq (.seq (.reg true (.op 0 [] (some 58) none true (.load (some 2) (.t 10))
  (.op 1 [] (some 59) none true (.load (some 2) (.t 3))
  (.op 2 [1] (some 60) none false (.call 60 12 [(.t 59)])
  (.op 3 [0, 1] (some 61) none false (.call 61 15 [(.t 58), (.t 60)])
  (.op 4 [] (some 62) none true (.un .not (.t 61))
  .done))))))
 (.cond (.t 62)
 (.seq (.reg false (.op 0 [] (some 6) none false (.mov (.v (.bool false)))
  .done))
 .ret)
 .skip))
 (.seq (.seq (.reg true (.op 0 [] (some 63) none true (.load (some 1) (.t 11))
  (.op 1 [] (some 64) none true (.load (some 1) (.t 4))
  (.op 2 [1] (some 65) none false (.call 65 31 [(.t 64)])
  (.op 3 [0, 1] (some 66) none false (.call 66 33 [(.t 63), (.t 65)])
  (.op 4 [] (some 67) none true (.un .not (.t 66))
  .done))))))
 (.cond (.t 67)
 (.seq (.reg false (.op 0 [] (some 6) none false (.mov (.v (.bool false)))
  .done))
 .ret)
 .skip))
 (.seq (.reg false (.op 0 [] (some 14) none false (.mov (.v (.int .i64 1)))
  .done))
 (.seq (.reg false (.op 0 [] (some 68) none false (.load (some 2) (.t 10))
  (.op 1 [] (some 69) none false (.mov (.t 14))
  (.op 2 [] (some 70) none false (.call 70 16 [(.t 68), (.t 69)])
  (.op 3 [] (some 14) none false (.mov (.t 70))
  .done)))))
 (.seq (.reg false (.op 0 [] (some 71) none false (.load (some 1) (.t 11))
  (.op 1 [] (some 72) none false (.mov (.t 14))
  (.op 2 [] (some 73) none false (.call 73 34 [(.t 71), (.t 72)])
  (.op 3 [] (some 14) none false (.mov (.t 73))
  .done)))))
 (.seq (.seq (.reg false (.op 0 [] (some 74) none false (.mov (.t 14))
  (.op 1 [] (some 75) none false (.bin .lss (.t 74) (.v (.int .i64 0)))
  (.op 2 [] (some 76) none false (.mov (.t 75))
  (.op 3 [] (some 77) (some (76, false)) false (.mov (.t 12))
  (.op 4 [] (some 78) (some (76, false)) false (.mov (.t 8))
  (.op 5 [] (some 79) (some (76, false)) false (.call 79 14 [(.t 77), (.t 78)])
  (.op 6 [] (some 80) (some (76, false)) false (.un .not (.t 79))
  (.op 7 [] (some 81) none false (.pick (.t 76) (.v (.bool true)) (.t 80))
  (.op 8 [] (some 82) none false (.mov (.t 81))
  (.op 9 [] (some 83) (some (82, false)) false (.mov (.t 13))
  (.op 10 [] (some 84) (some (82, false)) false (.mov (.t 9))
  (.op 11 [] (some 85) (some (82, false)) false (.bin .neq (.t 83) (.t 84))
  (.op 12 [] (some 86) none false (.pick (.t 82) (.v (.bool true)) (.t 85))
  .done))))))))))))))
 (.cond (.t 86)
 (.seq (.reg false (.op 0 [] (some 6) none false (.mov (.v (.bool false)))
  .done))
 .ret)
 .skip))
 (.seq (.reg false (.op 0 [] (some 15) none false (.mov (.v (.int .i64 1)))
  .done))
 (.seq (.reg false (.op 0 [] (some 87) none false (.mov (.t 12))
  (.op 1 [] (some 88) none false (.mov (.t 15))
  (.op 2 [] (some 89) none false (.call 89 17 [(.t 87), (.t 88)])
  (.op 3 [] (some 15) none false (.mov (.t 89))
  .done)))))
 (.seq (.reg false (.op 0 [] (some 16) none false (.mov (.v (.int .i64 1)))
  .done))
 (.seq (.reg false (.op 0 [] (some 90) none false (.mov (.t 12))
  (.op 1 [] (some 91) none false (.mov (.t 16))
  (.op 2 [] (some 92) none false (.call 92 18 [(.t 90), (.t 91)])
  (.op 3 [] (some 16) none false (.mov (.t 92))
  .done)))))
 (.seq (.seq (.reg false (.op 0 [] (some 93) none false (.mov (.t 16))
  (.op 1 [] (some 94) none false (.bin .lss (.t 93) (.v (.int .i64 0)))
  .done)))
 (.cond (.t 94)
 (.seq (.reg false (.op 0 [] (some 6) none false (.mov (.v (.bool false)))
  .done))
 .ret)
 .skip))
 (.seq (.seq (.reg false (.op 0 [] (some 95) none false (.mov (.t 16))
  (.op 1 [] (some 96) none false (.mov (.t 15))
  (.op 2 [] (some 97) none false (.bin .neq (.t 95) (.t 96))
  .done))))
 (.cond (.t 97)
 (.seq (.reg false (.op 0 [] (some 6) none false (.mov (.v (.bool false)))
  .done))
 .ret)
 .skip))
 (.seq (.reg true (.op 0 [] (some 99) none true (.load (some 2) (.t 3))
  (.op 2 [] (some 101) none true (.load (some 1) (.t 4))
  (.op 4 [] (some 103) none true (.mov (.t 2))
  (.op 1 [0] (some 100) none false (.call 100 12 [(.t 99)])
  (.op 3 [2, 0] (some 102) none false (.call 102 31 [(.t 101)])
  (.op 5 [0, 2] (some 104) none false (.call 104 42 [(.t 100), (.t 102), (.t 103)])
  (.op 6 [] (some 98) none true (.mov (.t 104))
  (.op 7 [] (some 105) none true (.ext (.t 98) 0)
  (.op 8 [] (some 106) none true (.ext (.t 98) 1)
  (.op 9 [] (some 17) none true (.mov (.t 105))
  (.op 10 [] (some 18) none true (.mov (.t 106))
  .done))))))))))))
 (.seq (.seq (.reg false (.op 0 [] (some 107) none false (.mov (.t 17))
  (.op 1 [] (some 108) none false (.mov (.t 8))
  (.op 2 [] (some 109) none false (.call 109 14 [(.t 107), (.t 108)])
  (.op 3 [] (some 110) none false (.un .not (.t 109))
  (.op 4 [] (some 111) none false (.mov (.t 110))
  (.op 5 [] (some 112) (some (111, false)) false (.mov (.t 18))
  (.op 6 [] (some 113) (some (111, false)) false (.mov (.t 9))
  (.op 7 [] (some 114) (some (111, false)) false (.bin .neq (.t 112) (.t 113))
  (.op 8 [] (some 115) none false (.pick (.t 111) (.v (.bool true)) (.t 114))
  .done))))))))))
 (.cond (.t 115)
 (.seq (.reg false (.op 0 [] (some 6) none false (.mov (.v (.bool false)))
  .done))
 .ret)
 .skip))
 (.seq (.reg false (.op 0 [] (some 16) none false (.mov (.v (.int .i64 1)))
  .done))
 (.seq (.reg false (.op 0 [] (some 116) none false (.mov (.t 12))
  (.op 1 [] (some 117) none false (.mov (.t 16))
  (.op 2 [] (some 118) none false (.call 118 18 [(.t 116), (.t 117)])
  (.op 3 [] (some 16) none false (.mov (.t 118))
  .done)))))
 (.seq (.seq (.reg false (.op 0 [] (some 119) none false (.mov (.t 16))
  (.op 1 [] (some 120) none false (.bin .lss (.t 119) (.v (.int .i64 0)))
  .done)))
 (.cond (.t 120)
 (.seq (.reg false (.op 0 [] (some 6) none false (.mov (.v (.bool false)))
  .done))
 .ret)
 .skip))
 (.seq (.seq (.reg false (.op 0 [] (some 121) none false (.mov (.t 16))
  (.op 1 [] (some 122) none false (.mov (.t 15))
  (.op 2 [] (some 123) none false (.bin .neq (.t 121) (.t 122))
  .done))))
 (.cond (.t 123)
 (.seq (.reg false (.op 0 [] (some 6) none false (.mov (.v (.bool false)))
  .done))
 .ret)
 .skip))
 (.seq (.reg false (.op 0 [] (some 6) none false (.mov (.v (.bool true)))
  .done))
 .ret))))))))))))))))))))))))))))))
theorem dg_laws_FnExactLookup : Tryz.f8.body.bind (digC Tryz.prog Tryz.f8.ntmps []) = some c_laws_FnExactLookup := by kernel_rfl
theorem rs_laws_FnExactLookup : resSlots Tryz.prog Tryz.f8 = some [.s 6] := by kernel_rfl
theorem ok_laws_FnExactLookup (z : Zone) (n : List (List UInt8)) (t : Int) (hz : BigZ z) (hn : BigBB n) :
    FnOK Tryz.prog 8 [.agg (z.cells.map .d), .agg [.d (encBB n)], .one (.d (.sc (.int .i64 t)))] (fun ra _ => ra = [.one (.d (.sc (.bool true)))]) := by
  refine FnOK.ofK Tryz.func8 (by kernel_rfl) dg_laws_FnExactLookup rs_laws_FnExactLookup rfl rfl ?_
  unfold c_laws_FnExactLookup
  have b3 := hn.len
  have b4 := hn.mem
  refine kSeq (kReg (kBox rfl rfl rfl rfl rfl (kBox rfl rfl rfl rfl rfl (kMovC rfl (kDone (kSeq (kReg (kMovC rfl (kDone (kSeq (kReg (kLoadP rfl rfl rfl (kMovC rfl (kCallD (ok_laws_szZone _ _ (by first | assumption | omega | solve_by_elim [List.getElem_mem] | (simp only [szOut] at *; omega)) (by first | assumption | omega | solve_by_elim [List.getElem_mem] | (simp only [szOut] at *; omega)) (by first | assumption | omega | solve_by_elim [List.getElem_mem] | (simp only [szOut] at *; omega))) ⟨⟨⟨rfl, rfl, trivial⟩, Nat.le_of_ble_eq_true rfl⟩, rfl, trivial⟩ rfl rfl rfl rfl rfl (kMovC rfl (kDone (kSeq (kSeq (kReg (kMovC rfl (kBin rfl rfl rfl (kDone (kCondP rfl (fun g0 => kSeq (kReg (kMovC rfl (kDone (kRet (endRetA (ra := [.one (.d _)]) rfl rfl)))))) (fun g0 => kSkip (kSeq (kReg (kMem [(20480, ⟨1, 0, .box [.d _]⟩)] [(4, .c (.ptr 20480 1 0)), (7, .c (.d _)), (24, .c (.un)), (25, .c (.un)), (26, .c (.un))] [] ⟨rfl, trivial⟩ ⟨rfl, rfl, rfl, rfl, rfl, trivial⟩ rfl (kLoadP rfl rfl rfl (kMovC rfl (kCallD (ok_laws_szName _ _ (by first | assumption | omega | solve_by_elim [List.getElem_mem] | (simp only [szOut] at *; omega)) (by first | assumption | omega | solve_by_elim [List.getElem_mem] | (simp only [szOut] at *; omega)) (by first | assumption | omega | solve_by_elim [List.getElem_mem] | (simp only [szOut] at *; omega)) (by first | assumption | omega | solve_by_elim [List.getElem_mem] | (simp only [szOut] at *; omega))) ⟨⟨⟨rfl, trivial⟩, Nat.le_of_ble_eq_true rfl⟩, rfl, trivial⟩ rfl rfl rfl rfl rfl (kMovC rfl (kDone (kSeq (kSeq (kReg (kMovC rfl (kBin rfl rfl rfl (kDone (kCondP rfl (fun g1 => kSeq (kReg (kMovC rfl (kDone (kRet (endRetA (ra := [.one (.d _)]) rfl rfl)))))) (fun g1 => kSkip (kSeq (kRegD (kLoadP rfl rfl rfl (kLoadP rfl rfl rfl (kMovC rfl (kRelK rfl rfl ?_))))))))))))))))))))))))))))))))))))))))))))))
  have c1 := szOut_ok g0
  rw [szOut_add g0] at g1
  have c2 := szOut_ok g1
  have hs : SmallZ z := .ofCost (by omega)
  have hns : SmallBB n := .of (by omega)
  have o1 := hs.o.len
  have n1 := hns.len
  have n2 := hns.mem
  have n3 := hns.flat
  obtain ⟨f, hf⟩ := look_filter z n t
  have hd : SmallRs (lookN z n t).1 := by rw [hf]; exact hs.r.filter f
  have k1 := cntZ_le z
  have k3 : cntRs z.rrs ≤ cntZ z := by unfold cntZ; omega
  have k2 : cntRs (lookN z n t).1 ≤ cntRs z.rrs := by rw [hf]; exact cntRs_filter f _
  refine kCall1 true (ok_laws_toZone _ (by first | assumption | omega | solve_by_elim [List.getElem_mem] | (simp only [szOut] at *; omega))) ⟨⟨⟨rfl, rfl, trivial⟩, Nat.le_of_ble_eq_true rfl⟩, trivial⟩ rfl rfl rfl (fun _ => (kMem [(131072, ⟨1, 0, .arr true _⟩), (131073, ⟨1, 0, .arr true _⟩)] [(32, .g [.d _]), (31, .g [.arr 131072 1, .arr 131073 1]), (33, .c (.un)), (34, .c (.d _)), (35, .c (.un)), (29, .c (.un)), (36, .c (.un)), (37, .c (.un))] [20480, 16384] ⟨rfl, rfl, trivial⟩ ⟨rfl, rfl, rfl, rfl, rfl, rfl, rfl, rfl, trivial⟩ rfl (kRelF rfl rfl (kCall1 true (ok_laws_toName _ (by first | assumption | omega | solve_by_elim [List.getElem_mem] | (simp only [szOut] at *; omega)) (by first | assumption | omega | solve_by_elim [List.getElem_mem] | (simp only [szOut] at *; omega))) ⟨⟨⟨rfl, trivial⟩, Nat.le_of_ble_eq_true rfl⟩, trivial⟩ rfl rfl rfl (fun _ => (kRelF rfl rfl (kCall1 true (ok_spec_Lookup _ _ _ (by first | assumption | omega | solve_by_elim [List.getElem_mem] | (simp only [szOut] at *; omega)) (by first | assumption | omega | solve_by_elim [List.getElem_mem] | (simp only [szOut] at *; omega))) ⟨⟨⟨rfl, rfl, trivial⟩, Nat.le_of_ble_eq_true rfl⟩, ⟨⟨rfl, trivial⟩, Nat.le_of_ble_eq_true rfl⟩, rfl, trivial⟩ rfl rfl rfl (fun _ => (kMovT rfl (kExtC rfl rfl (kExtC rfl rfl (kMovC rfl (kMovC rfl (kDone (kH (kSeq (kReg (kLoadP rfl rfl rfl (kCall1 true (ok_laws_toZone _ (by first | assumption | omega | solve_by_elim [List.getElem_mem] | (simp only [szOut] at *; omega))) ⟨⟨⟨rfl, rfl, trivial⟩, Nat.le_of_ble_eq_true rfl⟩, trivial⟩ rfl rfl rfl (fun _ => (kAlloc rfl rfl (kMem [(45056, ⟨1, 0, .box [.nil 1, .nil 7]⟩), (163840, ⟨1, 0, .arr true _⟩), (163841, ⟨1, 0, .arr true _⟩)] [(10, .c (.ptr 45056 1 0)), (39, .g [.arr 163840 1, .arr 163841 1])] [] ⟨rfl, rfl, rfl, trivial⟩ ⟨rfl, rfl, trivial⟩ rfl (kStoreP rfl rfl rfl rfl (kDone (kSeq (kReg (kLoadP rfl rfl rfl (kCall1 true (ok_laws_toName _ (by first | assumption | omega | solve_by_elim [List.getElem_mem] | (simp only [szOut] at *; omega)) (by first | assumption | omega | solve_by_elim [List.getElem_mem] | (simp only [szOut] at *; omega))) ⟨⟨⟨rfl, trivial⟩, Nat.le_of_ble_eq_true rfl⟩, trivial⟩ rfl rfl rfl (fun _ => (kAlloc rfl rfl (kStoreP rfl rfl rfl rfl (kDone (kSeq (kReg (kLoadP rfl rfl rfl (kMem [(49152, ⟨1, 0, .box [.arr 172032 1]⟩), (163840, ⟨1, 0, .arr true _⟩), (163841, ⟨1, 0, .arr true _⟩), (172032, ⟨1, 0, .arr true _⟩)] [(11, .c (.ptr 49152 1 0)), (2, .c (.d _)), (43, .g [.arr 163840 1, .arr 163841 1]), (44, .c (.un)), (45, .c (.un)), (46, .c (.un)), (42, .c (.un)), (47, .c (.un)), (48, .c (.un))] [] ⟨rfl, rfl, rfl, rfl, trivial⟩ ⟨rfl, rfl, rfl, rfl, rfl, rfl, rfl, rfl, rfl, trivial⟩ rfl (kLoadP rfl rfl rfl (kMovC rfl (kCall1 true (ok_impl_Lookup _ _ _ (by first | assumption | omega | solve_by_elim [List.getElem_mem] | (simp only [szOut] at *; omega)) (by first | assumption | omega | solve_by_elim [List.getElem_mem] | (simp only [szOut] at *; omega))) ⟨⟨⟨rfl, rfl, trivial⟩, Nat.le_of_ble_eq_true rfl⟩, ⟨⟨rfl, trivial⟩, Nat.le_of_ble_eq_true rfl⟩, rfl, trivial⟩ rfl rfl rfl (fun _ => (kMovT rfl (kExtC rfl rfl (kExtC rfl rfl (kMovC rfl (kMovC rfl (kDone (kSeq (kSeq (kReg (kMovC rfl (kMovC rfl (kMem [(192512, ⟨1, 0, .arr true _⟩), (147456, ⟨1, 0, .arr true _⟩)] [(49, .c (.arr 192512 1)), (50, .c (.arr 147456 1)), (51, .c (.un)), (52, .c (.un)), (13, .c (.d _)), (9, .c (.d _)), (54, .c (.un)), (55, .c (.un)), (53, .c (.un)), (56, .c (.un))] [] ⟨rfl, rfl, trivial⟩ ⟨rfl, rfl, rfl, rfl, rfl, rfl, rfl, rfl, rfl, rfl, trivial⟩ rfl (kCallD (ok_laws_eqRrS _ _ (by first | assumption | omega | solve_by_elim [List.getElem_mem] | (simp only [szOut] at *; omega))) ⟨rfl, rfl, trivial⟩ rfl rfl rfl rfl rfl (kUn rfl rfl (kMovC rfl (kGN rfl (fun g0 => (by (simp at g0))) (fun g0 => kGT rfl (kMovC rfl (kGT rfl (kMovC rfl (kGT rfl (kBin rfl rfl rfl (kPickF rfl (kMovC rfl (kDone (kCondIN rfl (fun g1 => (by omega)) (fun g1 => kSkip (kSeq (kSeq (kRegD (kLoadP rfl rfl rfl (kLoadP rfl rfl rfl (kMem [(163840, ⟨1, 0, .arr true _⟩), (163841, ⟨1, 0, .arr true _⟩)] [(59, .g [.d _, .d _]), (58, .g [.arr 163840 1, .arr 163841 1]), (60, .c (.un)), (61, .c (.un))] [16384, 45056] ⟨rfl, rfl, trivial⟩ ⟨rfl, rfl, rfl, rfl, trivial⟩ rfl (kRelK rfl rfl (kCall1 true (ok_laws_toZone _ (by first | assumption | omega | solve_by_elim [List.getElem_mem] | (simp only [szOut] at *; omega))) ⟨⟨⟨rfl, rfl, trivial⟩, Nat.le_of_ble_eq_true rfl⟩, trivial⟩ rfl rfl rfl (fun _ => (kRelF rfl rfl (kCallD (ok_laws_eqZone _ _ (by first | assumption | omega | solve_by_elim [List.getElem_mem] | (simp only [szOut] at *; omega))) ⟨⟨⟨rfl, rfl, trivial⟩, Nat.le_of_ble_eq_true rfl⟩, ⟨⟨rfl, rfl, trivial⟩, Nat.le_of_ble_eq_true rfl⟩, trivial⟩ rfl rfl rfl rfl rfl (kUn rfl rfl (kDone (kH (kCondN rfl (fun g2 => (by (simp at g2))) (fun g2 => kSkip (kSeq (kSeq (kRegD (kLoadP rfl rfl rfl (kLoadP rfl rfl rfl (kRelK rfl rfl (kCall1 true (ok_laws_toName _ (by first | assumption | omega | solve_by_elim [List.getElem_mem] | (simp only [szOut] at *; omega)) (by first | assumption | omega | solve_by_elim [List.getElem_mem] | (simp only [szOut] at *; omega))) ⟨⟨⟨rfl, trivial⟩, Nat.le_of_ble_eq_true rfl⟩, trivial⟩ rfl rfl rfl (fun _ => (kRelF rfl rfl (kCallD (ok_laws_eqName _ _ (by first | assumption | omega | solve_by_elim [List.getElem_mem] | (simp only [szOut] at *; omega)) (by first | assumption | omega | solve_by_elim [List.getElem_mem] | (simp only [szOut] at *; omega))) ⟨⟨⟨rfl, trivial⟩, Nat.le_of_ble_eq_true rfl⟩, ⟨⟨rfl, trivial⟩, Nat.le_of_ble_eq_true rfl⟩, trivial⟩ rfl rfl rfl rfl rfl (kUn rfl rfl (kDone (kH (kCondN rfl (fun g3 => (by (simp at g3))) (fun g3 => kSkip (kSeq (kReg (kMovC rfl (kDone (kSeq (kReg (kLoadP rfl rfl rfl (kMovC rfl (kCallM (ok_laws_markZone _ _ (by first | assumption | omega | solve_by_elim [List.getElem_mem] | (simp only [szOut] at *; omega)) (by first | assumption | omega | solve_by_elim [List.getElem_mem] | (simp only [szOut] at *; omega)) (by first | assumption | omega | solve_by_elim [List.getElem_mem] | (simp only [szOut] at *; omega))) ⟨⟨⟨⟨_, rfl, .inl rfl⟩, ⟨_, rfl, .inl rfl⟩, trivial⟩, Nat.le_of_ble_eq_true rfl⟩, rfl, trivial⟩ rfl rfl rfl (kMovC rfl (kDone (kSeq (kReg (kLoadP rfl rfl rfl (kMovC rfl (kCallA (ok_laws_markName _ _ (by first | assumption | omega | solve_by_elim [List.getElem_mem] | (simp only [szOut] at *; omega)) (by first | assumption | omega | solve_by_elim [List.getElem_mem] | (simp only [szOut] at *; omega)) (by first | assumption | omega | solve_by_elim [List.getElem_mem] | (simp only [szOut] at *; omega))) ⟨⟨⟨⟨_, rfl, .inl rfl⟩, trivial⟩, Nat.le_of_ble_eq_true rfl⟩, rfl, trivial⟩ rfl rfl rfl rfl (kMovC rfl (kDone (kSeq (kSeq (kReg (kMem [(192512, ⟨1, 0, .arr true _⟩), (147456, ⟨1, 0, .arr true _⟩)] [(14, .c (.d _)), (74, .c (.un)), (75, .c (.un)), (12, .c (.arr 192512 1)), (8, .c (.arr 147456 1)), (77, .c (.un)), (78, .c (.un)), (79, .c (.un)), (76, .c (.un)), (80, .c (.un)), (81, .c (.un)), (13, .c (.d _)), (9, .c (.d _)), (83, .c (.un)), (84, .c (.un)), (82, .c (.un)), (85, .c (.un))] [] ⟨rfl, rfl, trivial⟩ ⟨rfl, rfl, rfl, rfl, rfl, rfl, rfl, rfl, rfl, rfl, rfl, rfl, rfl, rfl, rfl, rfl, rfl, trivial⟩ rfl (kMovC rfl (kBin rfl rfl rfl (kMovC rfl (kGT rfl (kMovC rfl (kGT rfl (kMovC rfl (kGT rfl (kCallD (ok_laws_eqRrS _ _ (by first | assumption | omega | solve_by_elim [List.getElem_mem] | (simp only [szOut] at *; omega))) ⟨rfl, rfl, trivial⟩ rfl rfl rfl rfl rfl (kGT rfl (kUn rfl rfl (kPickF rfl (kMovC rfl (kMovC rfl (kGN rfl (fun g4 => (by (simp at g4))) (fun g4 => kGT rfl (kMovC rfl (kGT rfl (kMovC rfl (kGT rfl (kBin rfl rfl rfl (kPickF rfl (kMovC rfl (kDone (kCondIN rfl (fun g5 => (by omega)) (fun g5 => kSkip (kSeq (kReg (kMovC rfl (kDone (kSeq (kReg (kMem [(192512, ⟨1, 0, .arr true _⟩)] [(12, .c (.arr 192512 1)), (15, .c (.d _)), (87, .c (.un)), (88, .c (.un)), (89, .c (.un))] [] ⟨rfl, trivial⟩ ⟨rfl, rfl, rfl, rfl, rfl, trivial⟩ rfl (kMovC rfl (kMovC rfl (kCallA (ok_laws_markRrS _ _ (by first | assumption | omega | solve_by_elim [List.getElem_mem] | (simp only [szOut] at *; omega)) (by first | assumption | omega | solve_by_elim [List.getElem_mem] | (simp only [szOut] at *; omega)) (by first | assumption | omega | solve_by_elim [List.getElem_mem] | (simp only [szOut] at *; omega))) ⟨⟨_, rfl, .inl rfl⟩, rfl, trivial⟩ rfl rfl rfl rfl (kMovC rfl (kDone (kSeq (kReg (kMovC rfl (kDone (kSeq (kReg (kMovC rfl (kMovC rfl (kCallD (ok_laws_heldRrS _ _ (by first | assumption | omega | solve_by_elim [List.getElem_mem] | (simp only [szOut] at *; omega)) (by first | assumption | omega | solve_by_elim [List.getElem_mem] | (simp only [szOut] at *; omega)) (by first | assumption | omega | solve_by_elim [List.getElem_mem] | (simp only [szOut] at *; omega))) ⟨rfl, rfl, trivial⟩ rfl rfl rfl rfl rfl (kMovC rfl (kDone (kSeq (kSeq (kReg (kMovC rfl (kBin rfl rfl rfl (kDone (kCondF rfl (kSkip (kSeq (kSeq (kReg (kMovC rfl (kMovC rfl (kBin rfl rfl rfl (kDone (kCondIN rfl (fun g6 => (by omega)) (fun g6 => kSkip (kSeq (kRegD (kMem [(16384, ⟨1, 0, .box [.d _, .d _]⟩), (20480, ⟨1, 0, .box [.d _]⟩)] [(3, .c (.ptr 16384 1 0)), (4, .c (.ptr 20480 1 0)), (2, .c (.d _)), (99, .c (.un)), (101, .c (.un)), (100, .c (.un)), (102, .c (.un)), (103, .c (.un)), (104, .c (.un)), (98, .c (.un)), (105, .c (.un)), (106, .c (.un))] [] ⟨rfl, rfl, trivial⟩ ⟨rfl, rfl, rfl, rfl, rfl, rfl, rfl, rfl, rfl, rfl, rfl, rfl, trivial⟩ rfl (kLoadP rfl rfl rfl (kLoadP rfl rfl rfl (kMovC rfl (kRelK rfl rfl (kCall1 true (ok_laws_toZone _ (by first | assumption | omega | solve_by_elim [List.getElem_mem] | (simp only [szOut] at *; omega))) ⟨⟨⟨rfl, rfl, trivial⟩, Nat.le_of_ble_eq_true rfl⟩, trivial⟩ rfl rfl rfl (fun _ => (kRelF rfl rfl (kCall1 true (ok_laws_toName _ (by first | assumption | omega | solve_by_elim [List.getElem_mem] | (simp only [szOut] at *; omega)) (by first | assumption | omega | solve_by_elim [List.getElem_mem] | (simp only [szOut] at *; omega))) ⟨⟨⟨rfl, trivial⟩, Nat.le_of_ble_eq_true rfl⟩, trivial⟩ rfl rfl rfl (fun _ => (kRelF rfl rfl (kCall1 true (ok_impl_Lookup _ _ _ (by first | assumption | omega | solve_by_elim [List.getElem_mem] | (simp only [szOut] at *; omega)) (by first | assumption | omega | solve_by_elim [List.getElem_mem] | (simp only [szOut] at *; omega))) ⟨⟨⟨rfl, rfl, trivial⟩, Nat.le_of_ble_eq_true rfl⟩, ⟨⟨rfl, trivial⟩, Nat.le_of_ble_eq_true rfl⟩, rfl, trivial⟩ rfl rfl rfl (fun _ => (kMovT rfl (kExtC rfl rfl (kExtC rfl rfl (kMovC rfl (kMovC rfl (kDone (kH (kSeq (kSeq (kReg (kMovC rfl (kMovC rfl (kCallD (ok_laws_eqRrS _ _ (by first | assumption | omega | solve_by_elim [List.getElem_mem] | (simp only [szOut] at *; omega))) ⟨rfl, rfl, trivial⟩ rfl rfl rfl rfl rfl (kUn rfl rfl (kMovC rfl (kGN rfl (fun g7 => (by (simp at g7))) (fun g7 => kGT rfl (kMovC rfl (kGT rfl (kMovC rfl (kGT rfl (kBin rfl rfl rfl (kPickF rfl (kMovC rfl (kDone (kCondIN rfl (fun g8 => (by omega)) (fun g8 => kSkip (kSeq (kReg (kMovC rfl (kDone (kSeq (kReg (kMovC rfl (kMem [(192512, ⟨1, 1, .arr true _⟩)] [(16, .c (.d _)), (116, .c (.arr 192512 1)), (117, .c (.un)), (118, .c (.un))] [] ⟨rfl, trivial⟩ ⟨rfl, rfl, rfl, rfl, trivial⟩ rfl (kMovC rfl (kCallD (ok_laws_heldRrS _ _ (by first | assumption | omega | solve_by_elim [List.getElem_mem] | (simp only [szOut] at *; omega)) (by first | assumption | omega | solve_by_elim [List.getElem_mem] | (simp only [szOut] at *; omega)) (by first | assumption | omega | solve_by_elim [List.getElem_mem] | (simp only [szOut] at *; omega))) ⟨rfl, rfl, trivial⟩ rfl rfl rfl rfl rfl (kMovC rfl (kDone (kSeq (kSeq (kReg (kMovC rfl (kBin rfl rfl rfl (kDone (kCondF rfl (kSkip (kSeq (kSeq (kReg (kMovC rfl (kMovC rfl (kBin rfl rfl rfl (kDone (kCondIN rfl (fun g9 => (by omega)) (fun g9 => kSkip (kSeq (kReg (kMovC rfl (kDone (kRet (endRetA (ra := [.one (.d _)]) rfl rfl)))))))))))))))))))))))))))))))))))))))))))))))))))))))))))))))))))))))))))))))))))))))))))))))))))))))))))))))))))))))))))))))))))))))))))))))))))))))))))))))))))))))))))))))))))))))))))))))))))))))))))))))))))))))))))))))))))))))))))))))))))))))))))))))))))))))

end Go.Proofs.YtmecljfkakjmbaaGreat.FnExactLookupFn
