/- What the functions that FnDropSets reaches compute, one contract each; each with the bounds that it states. -/
import Derived.Test.YtbmagbgdpmgbmaaGreatFnDropSetsFn2
import Derived.Test.YtbmagbgdpmgbmaaGreatProg
import Derived.KernelRfl
set_option maxRecDepth 100000
set_option maxHeartbeats 8000000
set_option linter.unusedVariables false
set_option linter.unusedSimpArgs false
namespace Go.Proofs.YtbmagbgdpmgbmaaGreat.FnDropSetsFn
open Go Hearth Go.Proofs

def c_impl_hasTo : C := (.seq (.reg false (.op 0 [] (some 2) none false (.mov (.v (.bool false)))
  .done))
 (.seq (.reg false (.op 0 [] (some 3) none false (.mov (.t 0))
  (.op 1 [] (some 4) none false (.bin .eql (.t 3) (.v (.int .i64 2)))
  (.op 2 [] (some 5) none false (.mov (.t 4))
  (.op 3 [] (some 6) (some (5, false)) false (.mov (.t 0))
  (.op 4 [] (some 7) (some (5, false)) false (.bin .eql (.t 6) (.v (.int .i64 5)))
  (.op 5 [] (some 8) none false (.pick (.t 5) (.v (.bool true)) (.t 7))
  (.op 6 [] (some 9) none false (.mov (.t 8))
  (.op 7 [] (some 10) (some (9, false)) false (.mov (.t 0))
  (.op 8 [] (some 11) (some (9, false)) false (.bin .eql (.t 10) (.v (.int .i64 6)))
  (.op 9 [] (some 12) none false (.pick (.t 9) (.v (.bool true)) (.t 11))
  (.op 10 [] (some 13) none false (.mov (.t 12))
  (.op 11 [] (some 14) (some (13, false)) false (.mov (.t 0))
  (.op 12 [] (some 15) (some (13, false)) false (.bin .eql (.t 14) (.v (.int .i64 12)))
  (.op 13 [] (some 16) none false (.pick (.t 13) (.v (.bool true)) (.t 15))
  (.op 14 [] (some 2) none false (.mov (.t 16))
  .done))))))))))))))))
 .ret))
theorem dg_impl_hasTo : Tryz.f193.body.bind (digC Tryz.prog Tryz.f193.ntmps []) = some c_impl_hasTo := by kernel_rfl
theorem rs_impl_hasTo : resSlots Tryz.prog Tryz.f193 = some [.s 2] := by kernel_rfl
theorem ok_impl_hasTo (n : Int) : FnOK Tryz.prog 193 [.one (.d (.sc (.int .i64 n)))] (fun ra _ => ra = [.one (.d (.sc (.bool (hasTo n))))]) := by
  refine FnOK.ofK Tryz.func193 (by kernel_rfl) dg_impl_hasTo rs_impl_hasTo rfl rfl ?_
  unfold c_impl_hasTo
  refine kSeq (kReg (kMovC rfl (kDone (kSeq (kReg (kMovC rfl (kBin rfl rfl rfl (kMovC rfl (kGP rfl (fun g0 => kGF rfl (kGF rfl (kPickT rfl (kMovC rfl (kMovC rfl (kGF rfl (kGF rfl (kPickT rfl (kMovC rfl (kMovC rfl (kGF rfl (kGF rfl (kPickT rfl (kMovC rfl (kMovC rfl (kDone (kRet (endRetA (ra := [.one (.d _)]) rfl ?_)))))))))))))))))) (fun g0 => kGT rfl (kMovC rfl (kGT rfl (kBin rfl rfl rfl (kPickF rfl (kMovC rfl (kMovC rfl (kGP rfl (fun g1 => kGF rfl (kGF rfl (kPickT rfl (kMovC rfl (kMovC rfl (kGF rfl (kGF rfl (kPickT rfl (kMovC rfl (kMovC rfl (kDone (kRet (endRetA (ra := [.one (.d _)]) rfl ?_))))))))))))) (fun g1 => kGT rfl (kMovC rfl (kGT rfl (kBin rfl rfl rfl (kPickF rfl (kMovC rfl (kMovC rfl (kGP rfl (fun g2 => kGF rfl (kGF rfl (kPickT rfl (kMovC rfl (kMovC rfl (kDone (kRet (endRetA (ra := [.one (.d _)]) rfl ?_)))))))) (fun g2 => kGT rfl (kMovC rfl (kGT rfl (kBin rfl rfl rfl (kPickF rfl (kMovC rfl (kMovC rfl (kDone (kRet (endRetA (ra := [.one (.d _)]) rfl ?_)))))))))))))))))))))))))))))))))))
  all_goals simp_all [hasTo]

def c_impl_hasText : C := (.seq (.reg false (.op 0 [] (some 2) none false (.mov (.v (.bool false)))
  .done))
 (.seq (.reg false (.op 0 [] (some 3) none false (.mov (.t 0))
  (.op 1 [] (some 4) none false (.bin .eql (.t 3) (.v (.int .i64 16)))
  (.op 2 [] (some 5) none false (.mov (.t 4))
  (.op 3 [] (some 6) (some (5, false)) false (.mov (.t 0))
  (.op 4 [] (some 7) (some (5, false)) false (.bin .eql (.t 6) (.v (.int .i64 49)))
  (.op 5 [] (some 8) none false (.pick (.t 5) (.v (.bool true)) (.t 7))
  (.op 6 [] (some 2) none false (.mov (.t 8))
  .done))))))))
 .ret))
theorem dg_impl_hasText : Tryz.f194.body.bind (digC Tryz.prog Tryz.f194.ntmps []) = some c_impl_hasText := by kernel_rfl
theorem rs_impl_hasText : resSlots Tryz.prog Tryz.f194 = some [.s 2] := by kernel_rfl
theorem ok_impl_hasText (n : Int) : FnOK Tryz.prog 194 [.one (.d (.sc (.int .i64 n)))] (fun ra _ => ra = [.one (.d (.sc (.bool (hasText n))))]) := by
  refine FnOK.ofK Tryz.func194 (by kernel_rfl) dg_impl_hasText rs_impl_hasText rfl rfl ?_
  unfold c_impl_hasText
  refine kSeq (kReg (kMovC rfl (kDone (kSeq (kReg (kMovC rfl (kBin rfl rfl rfl (kMovC rfl (kGP rfl (fun g0 => kGF rfl (kGF rfl (kPickT rfl (kMovC rfl (kMovC rfl (kDone (kRet (endRetA (ra := [.one (.d _)]) rfl ?_)))))))) (fun g0 => kGT rfl (kMovC rfl (kGT rfl (kBin rfl rfl rfl (kPickF rfl (kMovC rfl (kMovC rfl (kDone (kRet (endRetA (ra := [.one (.d _)]) rfl ?_)))))))))))))))))))
  all_goals simp_all [hasText]

def c_impl_RrOk : C := (.seq (.reg false (.op 0 [] (some 1) none false (.box 1 (.t 0))
  (.op 1 [] (some 2) none false (.mov (.v (.bool false)))
  .done)))
 (.seq (.seq (.reg false (.op 0 [] (some 7) none false (.fad (.t 1) 0)
  (.op 1 [] (some 8) none false (.load (some 1) (.t 7))
  (.op 2 [] (some 9) none false (.call 9 72 [(.t 8)])
  (.op 3 [] (some 10) none false (.un .not (.t 9))
  (.op 4 [] (some 11) none false (.mov (.t 10))
  (.op 5 [] (some 12) (some (11, false)) false (.fad (.t 1) 1)
  (.op 6 [] (some 13) (some (11, false)) false (.load none (.t 12))
  (.op 7 [] (some 14) (some (11, false)) false (.call 14 155 [(.t 13)])
  (.op 8 [] (some 15) (some (11, false)) false (.un .not (.t 14))
  (.op 9 [] (some 16) none false (.pick (.t 11) (.v (.bool true)) (.t 15))
  (.op 10 [] (some 17) none false (.mov (.t 16))
  (.op 11 [] (some 18) (some (17, false)) false (.fad (.t 1) 2)
  (.op 12 [] (some 19) (some (17, false)) false (.load none (.t 18))
  (.op 13 [] (some 20) (some (17, false)) false (.call 20 147 [(.t 19), (.v (.int .i64 0)), (.v (.int .i64 100000))])
  (.op 14 [] (some 21) (some (17, false)) false (.un .not (.t 20))
  (.op 15 [] (some 22) none false (.pick (.t 17) (.v (.bool true)) (.t 21))
  .done)))))))))))))))))
 (.cond (.t 22)
 (.seq (.reg false (.op 0 [] (some 2) none false (.mov (.v (.bool false)))
  .done))
 .ret)
 .skip))
 (.seq (.reg false (.op 0 [] (some 23) none false (.fad (.t 1) 6)
  (.op 1 [] (some 24) none false (.load none (.t 23))
  (.op 2 [] (some 25) none false (.len (.t 24))
  (.op 3 [] (some 26) none false (.bin .eql (.t 25) (.v (.int .i64 0)))
  (.op 4 [] (some 3) none false (.mov (.t 26))
  .done))))))
 (.seq (.seq (.reg false (.op 0 [] (some 27) none false (.fad (.t 1) 1)
  (.op 1 [] (some 28) none false (.load none (.t 27))
  (.op 2 [] (some 29) none false (.bin .eql (.t 28) (.v (.int .i64 6)))
  .done))))
 (.cond (.t 29)
 (.reg false (.op 0 [] (some 30) none false (.fad (.t 1) 6)
  (.op 1 [] (some 31) none false (.load none (.t 30))
  (.op 2 [] (some 32) none false (.len (.t 31))
  (.op 3 [] (some 33) none false (.bin .eql (.t 32) (.v (.int .i64 2)))
  (.op 4 [] (some 34) none false (.mov (.t 33))
  (.op 5 [] (some 35) (some (34, true)) false (.fad (.t 1) 6)
  (.op 6 [] (some 36) (some (34, true)) false (.load none (.t 35))
  (.op 7 [] (some 37) (some (34, true)) false (.iad 1 (.t 36) (.v (.int .i64 0)))
  (.op 8 [] (some 38) (some (34, true)) false (.load none (.t 37))
  (.op 9 [] (some 39) (some (34, true)) false (.call 39 192 [(.t 38)])
  (.op 10 [] (some 40) none false (.pick (.t 34) (.t 39) (.v (.bool false)))
  (.op 11 [] (some 41) none false (.mov (.t 40))
  (.op 12 [] (some 42) (some (41, true)) false (.fad (.t 1) 6)
  (.op 13 [] (some 43) (some (41, true)) false (.load none (.t 42))
  (.op 14 [] (some 44) (some (41, true)) false (.iad 1 (.t 43) (.v (.int .i64 1)))
  (.op 15 [] (some 45) (some (41, true)) false (.load none (.t 44))
  (.op 16 [] (some 46) (some (41, true)) false (.call 46 147 [(.t 45), (.v (.int .i64 0)), (.v (.int .i64 100000))])
  (.op 17 [] (some 47) none false (.pick (.t 41) (.t 46) (.v (.bool false)))
  (.op 18 [] (some 3) none false (.mov (.t 47))
  .done))))))))))))))))))))
 .skip))
 (.seq (.reg false (.op 0 [] (some 48) none false (.fad (.t 1) 3)
  (.op 1 [] (some 49) none false (.load none (.t 48))
  (.op 2 [] (some 50) none false (.bin .eql (.t 49) (.v (.int .i64 0)))
  (.op 3 [] (some 51) none false (.mov (.t 50))
  (.op 4 [] (some 52) (some (51, false)) false (.fad (.t 1) 1)
  (.op 5 [] (some 53) (some (51, false)) false (.load none (.t 52))
  (.op 6 [] (some 54) (some (51, false)) false (.bin .eql (.t 53) (.v (.int .i64 1)))
  (.op 7 [] (some 55) (some (51, false)) false (.mov (.t 54))
  (.op 8 [] (some 56) (some (55, true)) false (.fad (.t 1) 3)
  (.op 9 [] (some 57) (some (55, true)) false (.load none (.t 56))
  (.op 10 [] (some 58) (some (55, true)) false (.call 58 192 [(.t 57)])
  (.op 11 [] (some 59) (some (51, false)) false (.pick (.t 55) (.t 58) (.v (.bool false)))
  (.op 12 [] (some 60) none false (.pick (.t 51) (.v (.bool true)) (.t 59))
  (.op 13 [] (some 4) none false (.mov (.t 60))
  .done)))))))))))))))
 (.seq (.reg false (.op 0 [] (some 61) none false (.fad (.t 1) 4)
  (.op 1 [] (some 62) none false (.fad (.t 61) 0)
  (.op 2 [] (some 63) none false (.load none (.t 62))
  (.op 3 [] (some 64) none false (.len (.t 63))
  (.op 4 [] (some 65) none false (.bin .eql (.t 64) (.v (.int .i64 0)))
  (.op 5 [] (some 66) none false (.mov (.t 65))
  (.op 6 [] (some 67) (some (66, false)) false (.fad (.t 1) 1)
  (.op 7 [] (some 68) (some (66, false)) false (.load none (.t 67))
  (.op 8 [] (some 69) (some (66, false)) false (.call 69 193 [(.t 68)])
  (.op 9 [] (some 70) (some (66, false)) false (.mov (.t 69))
  (.op 10 [] (some 71) (some (70, true)) false (.fad (.t 1) 4)
  (.op 11 [] (some 72) (some (70, true)) false (.load (some 1) (.t 71))
  (.op 12 [] (some 73) (some (70, true)) false (.call 73 72 [(.t 72)])
  (.op 13 [] (some 74) (some (66, false)) false (.pick (.t 70) (.t 73) (.v (.bool false)))
  (.op 14 [] (some 75) none false (.pick (.t 66) (.v (.bool true)) (.t 74))
  (.op 15 [] (some 5) none false (.mov (.t 75))
  .done)))))))))))))))))
 (.seq (.reg false (.op 0 [] (some 76) none false (.fad (.t 1) 5)
  (.op 1 [] (some 77) none false (.load none (.t 76))
  (.op 2 [] (some 78) none false (.len (.t 77))
  (.op 3 [] (some 79) none false (.bin .eql (.t 78) (.v (.int .i64 0)))
  (.op 4 [] (some 80) none false (.mov (.t 79))
  (.op 5 [] (some 81) (some (80, false)) false (.fad (.t 1) 1)
  (.op 6 [] (some 82) (some (80, false)) false (.load none (.t 81))
  (.op 7 [] (some 83) (some (80, false)) false (.call 83 194 [(.t 82)])
  (.op 8 [] (some 84) (some (80, false)) false (.mov (.t 83))
  (.op 9 [] (some 85) (some (84, true)) false (.fad (.t 1) 5)
  (.op 10 [] (some 86) (some (84, true)) false (.load none (.t 85))
  (.op 11 [] (some 87) (some (84, true)) false (.len (.t 86))
  (.op 12 [] (some 88) (some (84, true)) false (.bin .leq (.t 87) (.v (.int .i64 40)))
  (.op 13 [] (some 89) (some (80, false)) false (.pick (.t 84) (.t 88) (.v (.bool false)))
  (.op 14 [] (some 90) none false (.pick (.t 80) (.v (.bool true)) (.t 89))
  (.op 15 [] (some 6) none false (.mov (.t 90))
  .done)))))))))))))))))
 (.seq (.reg false (.op 0 [] (some 91) none false (.mov (.t 3))
  (.op 1 [] (some 92) none false (.mov (.t 91))
  (.op 2 [] (some 93) (some (92, true)) false (.mov (.t 4))
  (.op 3 [] (some 94) none false (.pick (.t 92) (.t 93) (.v (.bool false)))
  (.op 4 [] (some 95) none false (.mov (.t 94))
  (.op 5 [] (some 96) (some (95, true)) false (.mov (.t 5))
  (.op 6 [] (some 97) none false (.pick (.t 95) (.t 96) (.v (.bool false)))
  (.op 7 [] (some 98) none false (.mov (.t 97))
  (.op 8 [] (some 99) (some (98, true)) false (.mov (.t 6))
  (.op 9 [] (some 100) none false (.pick (.t 98) (.t 99) (.v (.bool false)))
  (.op 10 [] (some 2) none false (.mov (.t 100))
  .done))))))))))))
 .ret))))))))
theorem dg_impl_RrOk : Tryz.f88.body.bind (digC Tryz.prog Tryz.f88.ntmps []) = some c_impl_RrOk := by kernel_rfl
theorem rs_impl_RrOk : resSlots Tryz.prog Tryz.f88 = some [.s 2] := by kernel_rfl
theorem ok_impl_RrOk (r : Rr) (hs : SmallR r) :
    FnOK Tryz.prog 88 [.agg (r.cells.map .d)] (fun ra _ => ra = [.one (.d (.sc (.bool (rrOk r))))]) := by
  refine FnOK.ofK Tryz.func88 (by kernel_rfl) dg_impl_RrOk rs_impl_RrOk rfl rfl ?_
  unfold c_impl_RrOk
  have n1 := hs.n.len
  have n2 := hs.n.mem
  have t1 := hs.t.len
  have t2 := hs.t.mem
  have x1 := hs.x
  have m1 := hs.m
  refine kSeq (kReg (kBox rfl rfl rfl rfl rfl (kMovC rfl (kDone ?_))))
  by_cases h0 : nameOk r.name = true ∧ tyOk r.ty = true ∧ (0 ≤ r.ttl ∧ r.ttl ≤ 100000)
  case neg =>
    rw [show rrOk r = false by simp only [rrOk]; revert h0; cases nameOk r.name <;> cases tyOk r.ty <;> simp <;> intros <;> omega]
    refine kSeq ?_
    cases h1 : nameOk r.name
    case false => refine kSeq (kReg (kFadP rfl rfl (kLoadP rfl rfl rfl (kCallD (ok_impl_NameOk _ (by first | assumption | omega | solve_by_elim [List.getElem_mem] | (simp only [szOut] at *; omega)) (by first | assumption | omega | solve_by_elim [List.getElem_mem] | (simp only [szOut] at *; omega))) ⟨⟨⟨rfl, trivial⟩, Nat.le_of_ble_eq_true rfl⟩, trivial⟩ rfl rfl rfl rfl rfl (kUn rfl rfl (kMovC rfl (kGN rfl (fun g0 => kGF rfl (kGF rfl (kGF rfl (kGF rfl (kPickT rfl (kMovC rfl (kMovC rfl (kGF rfl (kGF rfl (kGF rfl (kGF rfl (kPickT rfl (kMovC rfl (kDone (kCondT rfl (kSeq (kReg (kMovC rfl (kDone (kRet (endRetA (ra := [.one (.d _)]) rfl rfl))))))))))))))))))))) (fun g0 => (by (simp [*] at g0))))))))))
    cases h2 : tyOk r.ty
    case false => refine kSeq (kReg (kFadP rfl rfl (kLoadP rfl rfl rfl (kCallD (ok_impl_NameOk _ (by first | assumption | omega | solve_by_elim [List.getElem_mem] | (simp only [szOut] at *; omega)) (by first | assumption | omega | solve_by_elim [List.getElem_mem] | (simp only [szOut] at *; omega))) ⟨⟨⟨rfl, trivial⟩, Nat.le_of_ble_eq_true rfl⟩, trivial⟩ rfl rfl rfl rfl rfl (kUn rfl rfl (kMovC rfl (kGN rfl (fun g0 => (by (simp [*] at g0))) (fun g0 => kGT rfl (kFadP rfl rfl (kGT rfl (kLoadP rfl rfl rfl (kGT rfl (kCallD (ok_impl_TypeOk _) ⟨rfl, trivial⟩ rfl rfl rfl rfl rfl (kGT rfl (kUn rfl rfl (kPickF rfl (kMovC rfl (kMovC rfl (kGN rfl (fun g1 => kGF rfl (kGF rfl (kGF rfl (kGF rfl (kPickT rfl (kMovC rfl (kDone (kCondT rfl (kSeq (kReg (kMovC rfl (kDone (kRet (endRetA (ra := [.one (.d _)]) rfl rfl)))))))))))))) (fun g1 => (by (simp [*] at g1))))))))))))))))))))))
    have h3 : ¬ (0 ≤ r.ttl ∧ r.ttl ≤ 100000) := fun h => h0 ⟨h1, h2, h⟩
    refine kSeq (kReg (kFadP rfl rfl (kLoadP rfl rfl rfl (kCallD (ok_impl_NameOk _ (by first | assumption | omega | solve_by_elim [List.getElem_mem] | (simp only [szOut] at *; omega)) (by first | assumption | omega | solve_by_elim [List.getElem_mem] | (simp only [szOut] at *; omega))) ⟨⟨⟨rfl, trivial⟩, Nat.le_of_ble_eq_true rfl⟩, trivial⟩ rfl rfl rfl rfl rfl (kUn rfl rfl (kMovC rfl (kGN rfl (fun g0 => (by (simp [*] at g0))) (fun g0 => kGT rfl (kFadP rfl rfl (kGT rfl (kLoadP rfl rfl rfl (kGT rfl (kCallD (ok_impl_TypeOk _) ⟨rfl, trivial⟩ rfl rfl rfl rfl rfl (kGT rfl (kUn rfl rfl (kPickF rfl (kMovC rfl (kMovC rfl (kGN rfl (fun g1 => (by (simp [*] at g1))) (fun g1 => kGT rfl (kFadP rfl rfl (kGT rfl (kLoadP rfl rfl rfl (kGT rfl (kCallD (ok_impl_within _ _ _) ⟨rfl, rfl, rfl, trivial⟩ rfl rfl rfl rfl rfl (kGT rfl (kUn rfl rfl (kPickF rfl (kMovC rfl (kDone (kCondN rfl (fun g2 => kSeq (kReg (kMovC rfl (kDone (kRet (endRetA (ra := [.one (.d _)]) rfl rfl)))))) (fun g2 => (by (simp [*] at g2))))))))))))))))))))))))))))))))))
  obtain ⟨h1, h2, h3⟩ := h0
  rw [show rrOk r = dataOk r by simp only [rrOk]; rw [h1, h2, decide_eq_true h3.1, decide_eq_true h3.2]; rfl]
  refine kSeq (kCut ⟨tabSl [(1, .c (.ptr (rid 1 0) 1 0))], obTab 1 [(rid 1 0, ⟨1, 0, .box (r.cells.map .d)⟩)], []⟩ ?_ (fun x hc => ?_))
  case refine_2 =>
    refine kSeq (kReg (kFadP rfl rfl (kLoadP rfl rfl rfl (kCallD (ok_impl_NameOk _ (by first | assumption | omega | solve_by_elim [List.getElem_mem] | (simp only [szOut] at *; omega)) (by first | assumption | omega | solve_by_elim [List.getElem_mem] | (simp only [szOut] at *; omega))) ⟨⟨⟨rfl, trivial⟩, Nat.le_of_ble_eq_true rfl⟩, trivial⟩ rfl rfl rfl rfl rfl (kUn rfl rfl (kMovC rfl (kGN rfl (fun g0 => (by (simp [*] at g0))) (fun g0 => kGT rfl (kFadP rfl rfl (kGT rfl (kLoadP rfl rfl rfl (kGT rfl (kCallD (ok_impl_TypeOk _) ⟨rfl, trivial⟩ rfl rfl rfl rfl rfl (kGT rfl (kUn rfl rfl (kPickF rfl (kMovC rfl (kMovC rfl (kGN rfl (fun g1 => (by (simp [*] at g1))) (fun g1 => kGT rfl (kFadP rfl rfl (kGT rfl (kLoadP rfl rfl rfl (kGT rfl (kCallD (ok_impl_within _ _ _) ⟨rfl, rfl, rfl, trivial⟩ rfl rfl rfl rfl rfl (kGT rfl (kUn rfl rfl (kPickF rfl (kMovC rfl (kDone (kCondN rfl (fun g2 => (by (simp [*] at g2))) (fun g2 => kSkip (hc _ .normA)))))))))))))))))))))))))))))))))
  refine kSeq (kCut ⟨tabSl [(1, .c (.ptr (rid 1 0) 1 0)), (3, .b (((r.nums.length : Int) == 0)))], obTab 1 [(rid 1 0, ⟨1, 0, .box (r.cells.map .d)⟩)], []⟩ ?_ (fun x hc => ?_))
  case refine_2 => refine kReg (kFadP rfl rfl (kLoadP rfl rfl rfl (kLenR rfl rfl (kBin rfl rfl rfl (kMovC rfl (kDone (hc _ .normA)))))))
  refine kSeq (kCut ⟨tabSl [(1, .c (.ptr (rid 1 0) 1 0)), (3, .b ((if r.ty == 6 then numsOk r.nums else ((r.nums.length : Int) == 0))))], obTab 1 [(rid 1 0, ⟨1, 0, .box (r.cells.map .d)⟩)], []⟩ ?_ (fun x hc => ?_))
  case refine_2 =>
    refine kSeq (kReg (kFadP rfl rfl (kLoadP rfl rfl rfl (kBin rfl rfl rfl (kDone (kCondP rfl (fun g0 => kReg (kFadP rfl rfl (kLoadP rfl rfl rfl (kLenR rfl rfl (kBin rfl rfl rfl (kMovC rfl (kGP rfl (fun g1 => kGT rfl (kFadP rfl rfl (kGT rfl (kLoadP rfl rfl rfl (kGT rfl (kIadR rfl rfl rfl (by omega) (kGT rfl (kLoadD rfl rfl (kGT rfl (kCallD (ok_impl_isWord _) ⟨rfl, trivial⟩ rfl rfl rfl rfl rfl (kPickT rfl (kMovC rfl (kMovC rfl (kGS rfl (fun g2 => kGT rfl (kFadP rfl rfl (kGT rfl (kLoadP rfl rfl rfl (kGT rfl (kIadR rfl rfl rfl (by omega) (kGT rfl (kLoadD rfl rfl (kGT rfl (kCallD (ok_impl_within _ _ _) ⟨rfl, rfl, rfl, trivial⟩ rfl rfl rfl rfl rfl (kPickT rfl (kMovC rfl (kMovC rfl (kDone (hc _ .normA))))))))))))))) (fun g2 => kGF rfl (kGF rfl (kGF rfl (kGF rfl (kGF rfl (kPickF rfl (kMovC rfl (kMovC rfl (kDone (hc _ .normA)))))))))))))))))))))))) (fun g1 => kGF rfl (kGF rfl (kGF rfl (kGF rfl (kGF rfl (kPickF rfl (kMovC rfl (kMovC rfl (kGF rfl (kGF rfl (kGF rfl (kGF rfl (kGF rfl (kPickF rfl (kMovC rfl (kMovC rfl (kDone (hc _ .normA))))))))))))))))))))))))) (fun g0 => kSkip (hc _ .normA))))))))
  refine kSeq (kCut ⟨tabSl [(1, .c (.ptr (rid 1 0) 1 0)), (3, .b ((if r.ty == 6 then numsOk r.nums else ((r.nums.length : Int) == 0)))), (4, .b ((if r.ty == 1 then isW r.addr else r.addr == 0)))], obTab 1 [(rid 1 0, ⟨1, 0, .box (r.cells.map .d)⟩)], []⟩ ?_ (fun x hc => ?_))
  case refine_2 =>
    refine kReg (kFadP rfl rfl (kLoadP rfl rfl rfl (kBin rfl rfl rfl (kMovC rfl (kGP rfl (fun g0 => kGF rfl (kGF rfl (kGF rfl (kGF rfl (kGU rfl (kGU rfl (kGU rfl (kGF rfl (kPickT rfl (kMovC rfl (kMovC rfl (kDone (hc _ .normA))))))))))))) (fun g0 => kGT rfl (kFadP rfl rfl (kGT rfl (kLoadP rfl rfl rfl (kGT rfl (kBin rfl rfl rfl (kGT rfl (kMovC rfl (kGP rfl (fun g1 => kGT rfl (kFadP rfl rfl (kGT rfl (kLoadP rfl rfl rfl (kGT rfl (kCallD (ok_impl_isWord _) ⟨rfl, trivial⟩ rfl rfl rfl rfl rfl (kGT rfl (kPickT rfl (kMovC rfl (kPickF rfl (kMovC rfl (kMovC rfl (kDone (hc _ .normA)))))))))))))) (fun g1 => kGF rfl (kGF rfl (kGF rfl (kGT rfl (kPickF rfl (kMovC rfl (kPickF rfl (kMovC rfl (kMovC rfl (kDone (hc _ .normA)))))))))))))))))))))))))
  refine kSeq (kCut ⟨tabSl [(1, .c (.ptr (rid 1 0) 1 0)), (3, .b ((if r.ty == 6 then numsOk r.nums else ((r.nums.length : Int) == 0)))), (4, .b ((if r.ty == 1 then isW r.addr else r.addr == 0))), (5, .b ((if hasTo r.ty then nameOk r.to else ((r.to.length : Int) == 0))))], obTab 1 [(rid 1 0, ⟨1, 0, .box (r.cells.map .d)⟩)], []⟩ ?_ (fun x hc => ?_))
  case refine_2 =>
    refine kReg (kFadP rfl rfl (kFadP rfl rfl (kLoadP rfl rfl rfl (kLenR rfl rfl (kBin rfl rfl rfl (kMovC rfl (kGP rfl (fun g0 => kGF rfl (kGF rfl (kGF rfl (kGF rfl (kGU rfl (kGU rfl (kGU rfl (kGF rfl (kPickT rfl (kMovC rfl (kMovC rfl (kDone (hc _ .normA))))))))))))) (fun g0 => kGT rfl (kFadP rfl rfl (kGT rfl (kLoadP rfl rfl rfl (kGT rfl (kCallD (ok_impl_hasTo _) ⟨rfl, trivial⟩ rfl rfl rfl rfl rfl (kGT rfl (kMovC rfl (kGS rfl (fun g1 => kGT rfl (kFadP rfl rfl (kGT rfl (kLoadP rfl rfl rfl (kGT rfl (kCallD (ok_impl_NameOk _ (by first | assumption | omega | solve_by_elim [List.getElem_mem] | (simp only [szOut] at *; omega)) (by first | assumption | omega | solve_by_elim [List.getElem_mem] | (simp only [szOut] at *; omega))) ⟨⟨⟨rfl, trivial⟩, Nat.le_of_ble_eq_true rfl⟩, trivial⟩ rfl rfl rfl rfl rfl (kGT rfl (kPickT rfl (kMovC rfl (kPickF rfl (kMovC rfl (kMovC rfl (kDone (hc _ .normA)))))))))))))) (fun g1 => kGF rfl (kGF rfl (kGF rfl (kGT rfl (kPickF rfl (kMovC rfl (kPickF rfl (kMovC rfl (kMovC rfl (kDone (hc _ .normA)))))))))))))))))))))))))))
  refine kSeq (kCut ⟨tabSl [(1, .c (.ptr (rid 1 0) 1 0)), (3, .b ((if r.ty == 6 then numsOk r.nums else ((r.nums.length : Int) == 0)))), (4, .b ((if r.ty == 1 then isW r.addr else r.addr == 0))), (5, .b ((if hasTo r.ty then nameOk r.to else ((r.to.length : Int) == 0)))), (6, .b ((if hasText r.ty then decide ((r.text.length : Int) ≤ 40) else ((r.text.length : Int) == 0))))], obTab 1 [(rid 1 0, ⟨1, 0, .box (r.cells.map .d)⟩)], []⟩ ?_ (fun x hc => ?_))
  case refine_2 =>
    refine kReg (kFadP rfl rfl (kLoadP rfl rfl rfl (kLenR rfl rfl (kBin rfl rfl rfl (kMovC rfl (kGP rfl (fun g0 => kGF rfl (kGF rfl (kGF rfl (kGF rfl (kGU rfl (kGU rfl (kGU rfl (kGU rfl (kGF rfl (kPickT rfl (kMovC rfl (kMovC rfl (kDone (hc _ .normA)))))))))))))) (fun g0 => kGT rfl (kFadP rfl rfl (kGT rfl (kLoadP rfl rfl rfl (kGT rfl (kCallD (ok_impl_hasText _) ⟨rfl, trivial⟩ rfl rfl rfl rfl rfl (kGT rfl (kMovC rfl (kGS rfl (fun g1 => kGT rfl (kFadP rfl rfl (kGT rfl (kLoadP rfl rfl rfl (kGT rfl (kLenR rfl rfl (kGT rfl (kBin rfl rfl rfl (kGT rfl (kPickT rfl (kMovC rfl (kPickF rfl (kMovC rfl (kMovC rfl (kDone (hc _ .normA)))))))))))))))) (fun g1 => kGF rfl (kGF rfl (kGF rfl (kGF rfl (kGT rfl (kPickF rfl (kMovC rfl (kPickF rfl (kMovC rfl (kMovC rfl (kDone (hc _ .normA)))))))))))))))))))))))))))
  refine kSeq (kReg (kMovC rfl (kMovC rfl (kGS rfl (fun g0 => kGT rfl (kMovC rfl (kPickT rfl (kMovC rfl (kMovC rfl (kGS rfl (fun g1 => kGT rfl (kMovC rfl (kPickT rfl (kMovC rfl (kMovC rfl (kGS rfl (fun g2 => kGT rfl (kMovC rfl (kPickT rfl (kMovC rfl (kMovC rfl (kDone (kRet (endRetA (ra := [.one (.d _)]) rfl ?_)))))))) (fun g2 => kGF rfl (kPickF rfl (kMovC rfl (kMovC rfl (kDone (kRet (endRetA (ra := [.one (.d _)]) rfl ?_))))))))))))) (fun g1 => kGF rfl (kPickF rfl (kMovC rfl (kMovC rfl (kGF rfl (kPickF rfl (kMovC rfl (kMovC rfl (kDone (kRet (endRetA (ra := [.one (.d _)]) rfl ?_))))))))))))))))) (fun g0 => kGF rfl (kPickF rfl (kMovC rfl (kMovC rfl (kGF rfl (kPickF rfl (kMovC rfl (kMovC rfl (kGF rfl (kPickF rfl (kMovC rfl (kMovC rfl (kDone (kRet (endRetA (ra := [.one (.d _)]) rfl ?_)))))))))))))))))))
  all_goals simp only [dataOk, *, Bool.true_and, Bool.false_and, Bool.and_true, Bool.and_false]

def c_impl_all_impl_Rr_1 : C := (.seq (.reg false (.op 0 [] (some 2) none false (.box 2 (.t 0))
  (.op 1 [] (some 3) none false (.mov (.v (.bool false)))
  .done)))
 (.seq (.reg false (.op 0 [] (some 4) none false (.load none (.t 1))
  (.op 1 [] (some 5) none false (.load (some 7) (.t 2))
  (.op 2 [] (some 6) none false (.callv 6 (.t 4) [(.t 5)])
  (.op 3 [] (some 7) none false (.un .not (.t 6))
  (.op 4 [] (some 3) none false (.mov (.t 7))
  .done))))))
 .ret))
theorem dg_impl_all_impl_Rr_1 : Tryz.f191.body.bind (digC Tryz.prog Tryz.f191.ntmps []) = some c_impl_all_impl_Rr_1 := by kernel_rfl
theorem rs_impl_all_impl_Rr_1 : resSlots Tryz.prog Tryz.f191 = some [.s 3] := by kernel_rfl
theorem ok_impl_all_impl_Rr_1 (x : Rr) (D : Rr → Prop) (g : Rr → Bool) (hx : D x) :
    FnOK Tryz.prog 191 [.agg (x.cells.map .d), .one (.ptr [.fv false (fcAgg D Rr.cells g)])] (fun ra _ => ra = [.one (.d (.sc (.bool (!g x))))]) := by
  refine FnOK.ofK Tryz.func191 (by kernel_rfl) dg_impl_all_impl_Rr_1 rs_impl_all_impl_Rr_1 rfl rfl ?_
  unfold c_impl_all_impl_Rr_1
  refine kSeq (kReg (kBox rfl rfl rfl rfl rfl (kMovC rfl (kDone (kSeq (kReg (kLoadC rfl rfl (kLoadP rfl rfl rfl ?_))))))))
  refine kCallv rfl ⟨x, hx, rfl, rfl⟩ ⟨⟨⟨rfl, rfl, rfl, rfl, rfl, rfl, rfl, trivial⟩, Nat.le_of_ble_eq_true rfl⟩, trivial⟩ (.inr ?_) rfl ?_ rfl ?_
  · rintro _ rfl; rfl
  · rintro _ rfl; exact Nat.le_of_ble_eq_true rfl
  rintro _ rfl
  refine kUn rfl rfl (kMovC rfl (kDone (kRet (endRetA (ra := [.one (.d _)]) rfl rfl))))

def c_slices_IndexFunc_Limpl_Rr_impl_Rr : C := (.seq (.reg false (.op 0 [] (some 4) none false (.mov (.v (.int .i64 0)))
  .done))
 (.seq (.seq (.reg false (.op 0 [] (some 6) none false (.mov (.t 0))
  (.op 1 [] (some 7) none false (.len (.t 6))
  (.op 2 [] (some 8) none false (.mov (.v (.int .i64 0)))
  .done))))
 (.block 0 (.loop (.seq (.reg false (.op 0 [] (some 9) none false (.bin .lss (.t 8) (.t 7))
  .done))
 (.seq (.cond (.t 9)
 .skip
 (.exit 0))
 (.seq (.block 1 (.seq (.reg false (.op 0 [] (some 10) none false (.mov (.t 8))
  (.op 1 [] (some 5) none false (.mov (.t 10))
  .done)))
 (.seq (.reg false (.op 0 [] (some 11) none false (.mov (.t 1))
  (.op 1 [] (some 12) none false (.mov (.t 0))
  (.op 2 [] (some 13) none false (.mov (.t 5))
  (.op 3 [] (some 14) none false (.iad 7 (.t 12) (.t 13))
  (.op 4 [] (some 15) none false (.load (some 7) (.t 14))
  (.op 5 [] (some 16) none false (.callv 16 (.t 11) [(.t 15)])
  .done)))))))
 (.cond (.t 16)
 (.seq (.reg false (.op 0 [] (some 17) none false (.mov (.t 5))
  (.op 1 [] (some 4) none false (.mov (.t 17))
  .done)))
 .ret)
 .skip))))
 (.reg false (.op 0 [] (some 18) none false (.bin .add (.t 8) (.v (.int .i64 1)))
  (.op 1 [] (some 8) none false (.mov (.t 18))
  .done)))))))))
 (.seq (.reg false (.op 0 [] (some 4) none false (.mov (.v (.int .i64 (-1))))
  .done))
 .ret)))
theorem dg_slices_IndexFunc_Limpl_Rr_impl_Rr : Tryz.f261.body.bind (digC Tryz.prog Tryz.f261.ntmps []) = some c_slices_IndexFunc_Limpl_Rr_impl_Rr := by kernel_rfl
theorem rs_slices_IndexFunc_Limpl_Rr_impl_Rr : resSlots Tryz.prog Tryz.f261 = some [.s 4] := by kernel_rfl
theorem ok_slices_IndexFunc_Limpl_Rr_impl_Rr (l : List Rr) (D : Rr → Prop) (g : Rr → Bool) (hl : l.length ≤ 4194304) (hD : ∀ x ∈ l, D x) :
    FnOK Tryz.prog 261 [.one (.d (encR l)), .one (.fv false (fcAgg D Rr.cells g))] (fun ra _ => ra = [.one (.d (.sc (.int .i64 (idx g l))))]) := by
  refine FnOK.ofK Tryz.func261 (by kernel_rfl) dg_slices_IndexFunc_Limpl_Rr_impl_Rr rs_slices_IndexFunc_Limpl_Rr_impl_Rr rfl rfl ?_
  unfold c_slices_IndexFunc_Limpl_Rr_impl_Rr
  refine kSeq (kReg (kMovC rfl (kDone (kSeq (kSeq (kReg (kMovC rfl (kLenR rfl rfl (kMovC rfl (kDone (kBlock ?_)))))))))))
  refine kLoop (α := { i : Nat // i ≤ l.length ∧ ∀ x ∈ l.take i, g x = false })
    (fun y => ⟨tabSl [(0, .dv (encR l)), (1, .c (.fv false (fcAgg D Rr.cells g))), (7, .i l.length), (8, .i y.1)], obTab 1 [], []⟩) (fun y => l.length - y.1) ⟨0, by simp⟩
    .normA ?_
  rintro ⟨i, hi, hg⟩
  simp only
  rcases Nat.lt_or_ge i l.length with hlt | hge
  · refine kSeq (kReg (kBin rfl rfl rfl (kDone (kSeq (kCondP rfl (fun g0 => kSkip (kSeq (kBlock (kSeq (kReg (kMovC rfl (kMovC rfl (kDone (kSeq (kReg (kMovC rfl (kMovC rfl (kMovC rfl (kIadR rfl rfl rfl (by omega) (kLoadD rfl rfl ?_))))))))))))))) (fun g0 => (by omega)))))))
    refine kCallv rfl ⟨l[i], hD _ (List.getElem_mem hlt), rfl, rfl⟩ ⟨⟨⟨rfl, rfl, rfl, rfl, rfl, rfl, rfl, trivial⟩, Nat.le_of_ble_eq_true rfl⟩, trivial⟩ (.inr ?_) rfl ?_ rfl ?_
    · rintro _ rfl; rfl
    · rintro _ rfl; exact Nat.le_of_ble_eq_true rfl
    rintro _ rfl
    refine kDone (kCond rfl (fun g0 => kSeq (kReg (kMovC rfl (kMovC rfl (kDone (kRet (endRetA (ra := [.one (.d _)]) rfl ?_))))))) (fun g0 => kSkip (kBk (kReg (kAdd rfl rfl (by omega) (kMovC rfl (kDone ?_)))))))
    · have : l.findIdx? g = some i := by
        rw [List.findIdx?_eq_some_iff_getElem]
        refine ⟨hlt, by assumption, fun j hj => ?_⟩
        simpa using hg _ (by rw [List.mem_take_iff_getElem]; exact ⟨j, by omega, rfl⟩)
      simp [idx, this]
    · refine kInv ⟨⟨i + 1, hlt, ?_⟩, by simp only; omega, .normA⟩
      intro x hx
      rw [← List.take_append_getElem hlt, List.mem_append] at hx
      rcases hx with hx | hx
      · exact hg x hx
      · simp at hx; rw [hx]; assumption
  · refine kSeq (kReg (kBin rfl rfl rfl (kDone (kSeq (kCondP rfl (fun g0 => (by omega)) (fun g0 => kExit (kExC (kExI (kExB (kSeq (kReg (kMovC rfl (kDone (kRet (endRetA (ra := [.one (.d _)]) rfl ?_)))))))))))))))
    have : l.findIdx? g = none := by
      rw [List.findIdx?_eq_none_iff]
      intro x hx
      rw [show i = l.length by omega, List.take_length] at hg
      exact hg x hx
    simp [idx, this]

def c_slices_ContainsFunc_Limpl_Rr_impl_Rr : C := (.seq (.reg false (.op 0 [] (some 4) none false (.mov (.v (.bool false)))
  .done))
 (.seq (.reg false (.op 0 [] (some 5) none false (.mov (.t 0))
  (.op 1 [] (some 6) none false (.mov (.t 1))
  (.op 2 [] (some 7) none false (.call 7 261 [(.t 5), (.t 6)])
  (.op 3 [] (some 8) none false (.bin .geq (.t 7) (.v (.int .i64 0)))
  (.op 4 [] (some 4) none false (.mov (.t 8))
  .done))))))
 .ret))
theorem dg_slices_ContainsFunc_Limpl_Rr_impl_Rr : Tryz.f190.body.bind (digC Tryz.prog Tryz.f190.ntmps []) = some c_slices_ContainsFunc_Limpl_Rr_impl_Rr := by kernel_rfl
theorem rs_slices_ContainsFunc_Limpl_Rr_impl_Rr : resSlots Tryz.prog Tryz.f190 = some [.s 4] := by kernel_rfl
theorem ok_slices_ContainsFunc_Limpl_Rr_impl_Rr (l : List Rr) (D : Rr → Prop) (g : Rr → Bool) (hl : l.length ≤ 4194304) (hD : ∀ x ∈ l, D x) :
    FnOK Tryz.prog 190 [.one (.d (encR l)), .one (.fv false (fcAgg D Rr.cells g))] (fun ra _ => ra = [.one (.d (.sc (.bool (l.any g))))]) := by
  refine FnOK.ofK Tryz.func190 (by kernel_rfl) dg_slices_ContainsFunc_Limpl_Rr_impl_Rr rs_slices_ContainsFunc_Limpl_Rr_impl_Rr rfl rfl ?_
  unfold c_slices_ContainsFunc_Limpl_Rr_impl_Rr
  refine kSeq (kReg (kMovC rfl (kDone (kSeq (kReg (kMovC rfl (kMovC rfl ?_)))))))
  refine kCall1 true (ok_slices_IndexFunc_Limpl_Rr_impl_Rr l D g hl hD) ⟨rfl, ⟨fun h => h, fun _ _ h => h⟩, trivial⟩ rfl rfl rfl fun os => ?_
  rw [← idx_ge g l]
  refine kBin rfl rfl rfl (kMovC rfl (kDone (kRet (endRetA (ra := [.one (.d _)]) rfl rfl))))

def c_impl_all_impl_Rr : C := (.seq (.reg false (.op 0 [] (some 3) none false (.box 3 (.t 1))
  (.op 1 [] (some 4) none false (.mov (.v (.bool false)))
  .done)))
 (.seq (.reg false (.op 0 [] (some 5) none false (.mov (.t 0))
  (.op 1 [] (some 6) none false (.clo 191 [] [(.t 3)])
  (.op 2 [] (some 7) none false (.call 7 190 [(.t 5), (.t 6)])
  (.op 3 [] (some 8) none false (.un .not (.t 7))
  (.op 4 [] (some 4) none false (.mov (.t 8))
  .done))))))
 .ret))
theorem dg_impl_all_impl_Rr : Tryz.f87.body.bind (digC Tryz.prog Tryz.f87.ntmps []) = some c_impl_all_impl_Rr := by kernel_rfl
theorem rs_impl_all_impl_Rr : resSlots Tryz.prog Tryz.f87 = some [.s 4] := by kernel_rfl
theorem ok_impl_all_impl_Rr (l : List Rr) (D : Rr → Prop) (g : Rr → Bool) (hl : l.length ≤ 4194304) (hD : ∀ x ∈ l, D x) :
    FnOK Tryz.prog 87 [.one (.d (encR l)), .one (.fv false (fcAgg D Rr.cells g))] (fun ra _ => ra = [.one (.d (.sc (.bool (l.all g))))]) := by
  refine FnOK.ofK Tryz.func87 (by kernel_rfl) dg_impl_all_impl_Rr rs_impl_all_impl_Rr rfl rfl ?_
  unfold c_impl_all_impl_Rr
  refine kSeq (kReg (kBox rfl rfl rfl rfl rfl (kMovC rfl (kDone (kSeq (kReg (kMovC rfl (kClo rfl rfl ?_))))))))
  refine kCall1 true (ok_slices_ContainsFunc_Limpl_Rr_impl_Rr l D (fun x => !g x) hl hD) ⟨rfl, ⟨rfl, ⟨_, Tryz.func191, rfl, by kernel_rfl⟩, _, rfl, ?_⟩, trivial⟩ rfl rfl rfl fun os => ?_
  · rintro _ R ⟨x, hx, rfl, rfl⟩
    exact ⟨by rintro _ rfl; rfl, ok_impl_all_impl_Rr_1 x D g hx⟩
  rw [List.all_eq_not_any_not]
  refine kUn rfl rfl (kMovC rfl (kDone (kRet (endRetA (ra := [.one (.d _)]) rfl rfl))))

theorem ok_bytes_Compare (a b : List UInt8) : FnOK Tryz.prog 198 [.one (.d (encB a)), .one (.d (encB b))] (fun ra _ => ra = [.one (.d (.sc (.int .i64 (cmpB a b))))]) := by
  refine FnOK.ofWalkB Tryz.func198 rfl (by kernel_rfl) fun w va vb h1 h2 => ?_
  have hc := run_compare (P := Tryz.prog) (w := w) (va := va) (vb := vb) Tryz.func264 (by kernel_rfl) rfl (by kernel_rfl) (by kernel_rfl) h1 h2
  go_enter Tryz.func198, Tryz.ntmps198
  go_wp2
  all_goals go_ret
  exact ⟨rfl, Go.RowKit.Below.refl _ _⟩

def c_cmp_isNaN_int : C := (.seq (.reg false (.op 0 [] (some 2) none false (.mov (.v (.bool false)))
  .done))
 (.seq (.reg false (.op 0 [] (some 3) none false (.mov (.t 0))
  (.op 1 [] (some 4) none false (.mov (.t 0))
  (.op 2 [] (some 5) none false (.bin .neq (.t 3) (.t 4))
  (.op 3 [] (some 2) none false (.mov (.t 5))
  .done)))))
 .ret))
theorem dg_cmp_isNaN_int : Tryz.f263.body.bind (digC Tryz.prog Tryz.f263.ntmps []) = some c_cmp_isNaN_int := by kernel_rfl
theorem rs_cmp_isNaN_int : resSlots Tryz.prog Tryz.f263 = some [.s 2] := by kernel_rfl
theorem ok_cmp_isNaN_int (a : Int) :
    FnOK Tryz.prog 263 [.one (.d (.sc (.int .i64 a)))] (fun ra _ => ra = [.one (.d (.sc (.bool false)))]) := by
  refine FnOK.ofK Tryz.func263 (by kernel_rfl) dg_cmp_isNaN_int rs_cmp_isNaN_int rfl rfl ?_
  unfold c_cmp_isNaN_int
  refine kSeq (kReg (kMovC rfl (kDone (kSeq (kReg (kMovC rfl (kMovC rfl (kBin rfl rfl rfl (kMovC rfl (kDone (kRet (endRetA (ra := [.one (.d _)]) rfl ?_))))))))))))
  rw [show (a != a) = false by simp]

def c_cmp_Compare_int : C := (.seq (.reg false (.op 0 [] (some 4) none false (.mov (.v (.int .i64 0)))
  .done))
 (.seq (.reg false (.op 0 [] (some 7) none false (.mov (.t 0))
  (.op 1 [] (some 8) none false (.call 8 263 [(.t 7)])
  (.op 2 [] (some 5) none false (.mov (.t 8))
  .done))))
 (.seq (.reg false (.op 0 [] (some 9) none false (.mov (.t 1))
  (.op 1 [] (some 10) none false (.call 10 263 [(.t 9)])
  (.op 2 [] (some 6) none false (.mov (.t 10))
  .done))))
 (.seq (.seq (.reg false (.op 0 [] (some 11) none false (.mov (.t 5))
  .done))
 (.cond (.t 11)
 (.seq (.seq (.reg false (.op 0 [] (some 12) none false (.mov (.t 6))
  .done))
 (.cond (.t 12)
 (.seq (.reg false (.op 0 [] (some 4) none false (.mov (.v (.int .i64 0)))
  .done))
 .ret)
 .skip))
 (.seq (.reg false (.op 0 [] (some 4) none false (.mov (.v (.int .i64 (-1))))
  .done))
 .ret))
 .skip))
 (.seq (.seq (.reg false (.op 0 [] (some 13) none false (.mov (.t 6))
  .done))
 (.cond (.t 13)
 (.seq (.reg false (.op 0 [] (some 4) none false (.mov (.v (.int .i64 1)))
  .done))
 .ret)
 .skip))
 (.seq (.seq (.reg false (.op 0 [] (some 14) none false (.mov (.t 0))
  (.op 1 [] (some 15) none false (.mov (.t 1))
  (.op 2 [] (some 16) none false (.bin .lss (.t 14) (.t 15))
  .done))))
 (.cond (.t 16)
 (.seq (.reg false (.op 0 [] (some 4) none false (.mov (.v (.int .i64 (-1))))
  .done))
 .ret)
 .skip))
 (.seq (.seq (.reg false (.op 0 [] (some 17) none false (.mov (.t 0))
  (.op 1 [] (some 18) none false (.mov (.t 1))
  (.op 2 [] (some 19) none false (.bin .gtr (.t 17) (.t 18))
  .done))))
 (.cond (.t 19)
 (.seq (.reg false (.op 0 [] (some 4) none false (.mov (.v (.int .i64 1)))
  .done))
 .ret)
 .skip))
 (.seq (.reg false (.op 0 [] (some 4) none false (.mov (.v (.int .i64 0)))
  .done))
 .ret))))))))
theorem dg_cmp_Compare_int : Tryz.f197.body.bind (digC Tryz.prog Tryz.f197.ntmps []) = some c_cmp_Compare_int := by kernel_rfl
theorem rs_cmp_Compare_int : resSlots Tryz.prog Tryz.f197 = some [.s 4] := by kernel_rfl
theorem ok_cmp_Compare_int (a b : Int) :
    FnOK Tryz.prog 197 [.one (.d (.sc (.int .i64 a))), .one (.d (.sc (.int .i64 b)))] (fun ra _ => ra = [.one (.d (.sc (.int .i64 (cmpI a b))))]) := by
  refine FnOK.ofK Tryz.func197 (by kernel_rfl) dg_cmp_Compare_int rs_cmp_Compare_int rfl rfl ?_
  unfold c_cmp_Compare_int
  refine kSeq (kReg (kMovC rfl (kDone (kSeq (kReg (kMovC rfl (kCallD (ok_cmp_isNaN_int _) ⟨rfl, trivial⟩ rfl rfl rfl rfl rfl (kMovC rfl (kDone (kSeq (kReg (kMovC rfl (kCallD (ok_cmp_isNaN_int _) ⟨rfl, trivial⟩ rfl rfl rfl rfl rfl (kMovC rfl (kDone (kSeq (kSeq (kReg (kMovC rfl (kDone (kCondF rfl (kSkip (kSeq (kSeq (kReg (kMovC rfl (kDone (kCondF rfl (kSkip (kSeq (kSeq (kReg (kMovC rfl (kMovC rfl (kBin rfl rfl rfl (kDone (kCondP rfl (fun g0 => kSeq (kReg (kMovC rfl (kDone (kRet (endRetA (ra := [.one (.d _)]) rfl ?_)))))) (fun g0 => kSkip (kSeq (kSeq (kReg (kMovC rfl (kMovC rfl (kBin rfl rfl rfl (kDone (kCondP rfl (fun g1 => kSeq (kReg (kMovC rfl (kDone (kRet (endRetA (ra := [.one (.d _)]) rfl ?_)))))) (fun g1 => kSkip (kSeq (kReg (kMovC rfl (kDone (kRet (endRetA (ra := [.one (.d _)]) rfl ?_)))))))))))))))))))))))))))))))))))))))))))))))))))))
  all_goals (refine congrArg (fun z : Int => [RA.one (RV.d (DV.sc (Value.int IntKind.i64 z)))]) ?_; unfold cmpI; split <;> first | omega | (split <;> omega))

def c_impl_Name_compare : C := (.seq (.reg false (.op 0 [] (some 2) none false (.box 2 (.t 0))
  (.op 1 [] (some 3) none false (.box 3 (.t 1))
  (.op 2 [] (some 4) none false (.mov (.v (.int .i64 0)))
  .done))))
 (.seq (.seq (.reg false (.op 0 [] (some 5) none false (.mov (.v (.int .i64 1)))
  .done))
 (.block 0 (.loop (.seq (.seq (.reg false (.op 0 [] (some 7) none false (.mov (.t 5))
  (.op 1 [] (some 8) none false (.fad (.t 2) 0)
  (.op 2 [] (some 9) none false (.load none (.t 8))
  (.op 3 [] (some 10) none false (.len (.t 9))
  (.op 4 [] (some 11) none false (.fad (.t 3) 0)
  (.op 5 [] (some 12) none false (.load none (.t 11))
  (.op 6 [] (some 13) none false (.len (.t 12))
  (.op 7 [] (some 14) none false (.mm false (.t 10) (.t 13))
  (.op 8 [] (some 15) none false (.bin .leq (.t 7) (.t 14))
  .done))))))))))
 (.cond (.t 15)
 .skip
 (.exit 0)))
 (.seq (.block 1 (.seq (.reg true (.op 0 [] (some 18) none true (.fad (.t 2) 0)
  (.op 1 [] (some 19) none true (.load none (.t 18))
  (.op 2 [] (some 20) none true (.fad (.t 2) 0)
  (.op 3 [] (some 21) none true (.load none (.t 20))
  (.op 4 [] (some 22) none true (.len (.t 21))
  (.op 5 [] (some 23) none true (.mov (.t 5))
  (.op 6 [] (some 24) none true (.bin .sub (.t 22) (.t 23))
  (.op 7 [] (some 25) none true (.iad 1 (.t 19) (.t 24))
  (.op 8 [] (some 26) none true (.load none (.t 25))
  (.op 9 [] (some 27) none true (.fad (.t 3) 0)
  (.op 10 [] (some 28) none true (.load none (.t 27))
  (.op 11 [] (some 29) none true (.fad (.t 3) 0)
  (.op 12 [] (some 30) none true (.load none (.t 29))
  (.op 13 [] (some 31) none true (.len (.t 30))
  (.op 14 [] (some 32) none true (.mov (.t 5))
  (.op 15 [] (some 33) none true (.bin .sub (.t 31) (.t 32))
  (.op 16 [] (some 34) none true (.iad 1 (.t 28) (.t 33))
  (.op 17 [] (some 35) none true (.load none (.t 34))
  (.op 18 [8, 1, 3, 17, 10, 12] (some 36) none false (.call 36 198 [(.t 26), (.t 35)])
  (.op 19 [] (some 6) none true (.mov (.t 36))
  .done)))))))))))))))))))))
 (.seq (.reg false (.op 0 [] (some 37) none false (.mov (.t 6))
  (.op 1 [] (some 38) none false (.bin .neq (.t 37) (.v (.int .i64 0)))
  .done)))
 (.cond (.t 38)
 (.seq (.reg false (.op 0 [] (some 39) none false (.mov (.t 6))
  (.op 1 [] (some 4) none false (.mov (.t 39))
  .done)))
 .ret)
 .skip))))
 (.reg false (.op 0 [] (some 16) none false (.mov (.t 5))
  (.op 1 [] (some 17) none false (.bin .add (.t 16) (.v (.int .i64 1)))
  (.op 2 [] (some 5) none false (.mov (.t 17))
  .done)))))))))
 (.seq (.reg false (.op 0 [] (some 40) none false (.fad (.t 2) 0)
  (.op 1 [] (some 41) none false (.load none (.t 40))
  (.op 2 [] (some 42) none false (.len (.t 41))
  (.op 3 [] (some 43) none false (.fad (.t 3) 0)
  (.op 4 [] (some 44) none false (.load none (.t 43))
  (.op 5 [] (some 45) none false (.len (.t 44))
  (.op 6 [] (some 46) none false (.call 46 197 [(.t 42), (.t 45)])
  (.op 7 [] (some 4) none false (.mov (.t 46))
  .done)))))))))
 .ret)))
theorem dg_impl_Name_compare : Tryz.f196.body.bind (digC Tryz.prog Tryz.f196.ntmps []) = some c_impl_Name_compare := by kernel_rfl
theorem rs_impl_Name_compare : resSlots Tryz.prog Tryz.f196 = some [.s 4] := by kernel_rfl
theorem ok_impl_Name_compare (a b : List (List UInt8)) (ha : a.length ≤ 4194304) (hb : b.length ≤ 4194304) :
    FnOK Tryz.prog 196 [.agg [.d (encBB a)], .agg [.d (encBB b)]] (fun ra _ => ra = [.one (.d (.sc (.int .i64 (cmpN a b))))]) := by
  refine FnOK.ofK Tryz.func196 (by kernel_rfl) dg_impl_Name_compare rs_impl_Name_compare rfl rfl ?_
  unfold c_impl_Name_compare
  refine kSeq (kReg (kBox rfl rfl rfl rfl rfl (kBox rfl rfl rfl rfl rfl (kMovC rfl (kDone (kSeq (kSeq (kReg (kMovC rfl (kDone (kBlock ?_)))))))))))
  refine kLoop (α := { k : Nat // k ≤ a.length ∧ k ≤ b.length ∧ cmpN a b = cmpL (a.reverse.drop k) (b.reverse.drop k) })
    (fun y => ⟨tabSl [(2, .c (.ptr (rid 2 0) 1 0)), (3, .c (.ptr (rid 3 0) 1 0)), (5, .i (y.1 + 1))], obTab 1 [(rid 2 0, ⟨1, 0, .box [.d (encBB a)]⟩), (rid 3 0, ⟨1, 0, .box [.d (encBB b)]⟩)], []⟩) (fun y => a.length - y.1) ⟨0, by simp [cmpN]⟩
    .normA ?_
  rintro ⟨k, h1, h2, h3⟩
  simp only
  rcases Nat.lt_or_ge k a.length with hla | hga
  · rcases Nat.lt_or_ge k b.length with hlb | hgb
    · have hst := cmpL_step a b k hla hlb (a.length - (k + 1) : Int).toNat (b.length - (k + 1) : Int).toNat (by omega) (by omega)
      refine kSeq (kSeq (kReg (kMovC rfl (kFadP rfl rfl (kLoadP rfl rfl rfl (kLenR rfl rfl (kFadP rfl rfl (kLoadP rfl rfl rfl (kLenR rfl rfl (kMmMin rfl rfl (kBin rfl rfl rfl (kDone (kCondP rfl (fun g0 => kSkip (kSeq (kBlock (kSeq (kRegD (kFadP rfl rfl (kMem [(12288, ⟨1, 0, .box [.d _]⟩), (16384, ⟨1, 0, .box [.d _]⟩)] [(18, .c (.ptr 12288 1 0)), (2, .c (.ptr 12288 1 0)), (5, .c (.d _)), (3, .c (.ptr 16384 1 0))] [] ⟨rfl, rfl, trivial⟩ ⟨rfl, rfl, rfl, rfl, trivial⟩ rfl (kLoadP rfl rfl rfl (kFadP rfl rfl (kLoadP rfl rfl rfl (kLenR rfl rfl (kMovC rfl (kDif rfl rfl (by omega) (kIadT rfl rfl (by omega) (kLoadD rfl rfl (kFadP rfl rfl (kLoadP rfl rfl rfl (kMem [(16384, ⟨1, 0, .box [.d _]⟩)] [(3, .c (.ptr 16384 1 0)), (5, .c (.d _)), (28, .c (.d _)), (26, .c (.d _))] [16384, 12288, 12288] ⟨rfl, trivial⟩ ⟨rfl, rfl, rfl, rfl, trivial⟩ rfl (kFadP rfl rfl (kLoadP rfl rfl rfl (kLenR rfl rfl (kMovC rfl (kDif rfl rfl (by omega) (kIadT rfl rfl (by omega) (kLoadD rfl rfl (kRelF rfl rfl (kCallD (ok_bytes_Compare _ _) ⟨rfl, rfl, trivial⟩ rfl rfl rfl rfl rfl (kMovC rfl (kDone (kH (kSeq (kReg (kMovC rfl (kBin rfl rfl rfl (kDone (kCondIN rfl (fun g1 => kSeq (kReg (kMovC rfl (kMovC rfl (kDone (kRet (endRetA (ra := [.one (.d _)]) rfl ?_))))))) (fun g1 => kSkip (kBk (kReg (kMovC rfl (kAdd rfl rfl (by omega) (kMovC rfl (kDone ?_))))))))))))))))))))))))))))))))))))))))))) (fun g0 => (by omega)))))))))))))))
      · rw [h3, hst, if_neg (by assumption)]
      · refine kInv ⟨⟨k + 1, hla, hlb, ?_⟩, by simp only; omega, .normA⟩
        rw [h3, hst, if_pos (by assumption)]
    · rw [cmpL_end a b k h1 h2 (by omega)] at h3
      refine kSeq (kSeq (kReg (kMovC rfl (kFadP rfl rfl (kLoadP rfl rfl rfl (kLenR rfl rfl (kFadP rfl rfl (kLoadP rfl rfl rfl (kLenR rfl rfl (kMmMin rfl rfl (kBin rfl rfl rfl (kDone (kCondP rfl (fun g0 => (by omega)) (fun g0 => kExit (kExC (kExI (kExB (kSeq (kReg (kFadP rfl rfl (kMem [(12288, ⟨1, 0, .box [.d _]⟩), (16384, ⟨1, 0, .box [.d _]⟩)] [(40, .c (.ptr 12288 1 0)), (3, .c (.ptr 16384 1 0))] [] ⟨rfl, rfl, trivial⟩ ⟨rfl, rfl, trivial⟩ rfl (kLoadP rfl rfl rfl (kLenR rfl rfl (kFadP rfl rfl (kLoadP rfl rfl rfl (kLenR rfl rfl (kCallD (ok_cmp_Compare_int _ _) ⟨rfl, rfl, trivial⟩ rfl rfl rfl rfl rfl (kMovC rfl (kDone (kRet (endRetA (ra := [.one (.d _)]) rfl ?_)))))))))))))))))))))))))))))))
      all_goals (rw [h3]; refine congrArg (fun z : Int => [RA.one (RV.d (DV.sc (Value.int IntKind.i64 z)))]) ?_; unfold cmpI; split <;> (repeat' split) <;> omega)
  · rw [cmpL_end a b k h1 h2 (by omega)] at h3
    refine kSeq (kSeq (kReg (kMovC rfl (kFadP rfl rfl (kLoadP rfl rfl rfl (kLenR rfl rfl (kFadP rfl rfl (kLoadP rfl rfl rfl (kLenR rfl rfl (kMmMin rfl rfl (kBin rfl rfl rfl (kDone (kCondP rfl (fun g0 => (by omega)) (fun g0 => kExit (kExC (kExI (kExB (kSeq (kReg (kFadP rfl rfl (kMem [(12288, ⟨1, 0, .box [.d _]⟩), (16384, ⟨1, 0, .box [.d _]⟩)] [(40, .c (.ptr 12288 1 0)), (3, .c (.ptr 16384 1 0))] [] ⟨rfl, rfl, trivial⟩ ⟨rfl, rfl, trivial⟩ rfl (kLoadP rfl rfl rfl (kLenR rfl rfl (kFadP rfl rfl (kLoadP rfl rfl rfl (kLenR rfl rfl (kCallD (ok_cmp_Compare_int _ _) ⟨rfl, rfl, trivial⟩ rfl rfl rfl rfl rfl (kMovC rfl (kDone (kRet (endRetA (ra := [.one (.d _)]) rfl ?_)))))))))))))))))))))))))))))))
    all_goals (rw [h3]; refine congrArg (fun z : Int => [RA.one (RV.d (DV.sc (Value.int IntKind.i64 z)))]) ?_; unfold cmpI; split <;> (repeat' split) <;> omega)

def c_impl_two : C := (.seq (.reg false (.op 0 [] (some 2) none false (.mov (.n 1))
  .done))
 (.seq (.reg false (.op 0 [] (some 3) none false (.mov (.t 0))
  (.op 1 [] (some 4) none false (.bin .shr (.t 3) (.v (.int .u64 8)))
  (.op 2 [] (some 5) none false (.conv .u8 (.t 4))
  (.op 3 [] (some 6) none false (.mov (.t 0))
  (.op 4 [] (some 7) none false (.conv .u8 (.t 6))
  (.op 5 [] (some 8) none false (.lit 8 1 [(.v (.int .u8 0))] 2 [(0, 1, (.t 5)), (1, 1, (.t 7))])
  (.op 6 [] (some 2) none false (.mov (.t 8))
  .done))))))))
 .ret))
theorem dg_impl_two : Tryz.f286.body.bind (digC Tryz.prog Tryz.f286.ntmps []) = some c_impl_two := by kernel_rfl
theorem rs_impl_two : resSlots Tryz.prog Tryz.f286 = some [.s 2] := by kernel_rfl
theorem ok_impl_two (n : Int) :
    FnOK Tryz.prog 286 [.one (.d (.sc (.int .i64 n)))] (fun ra _ => ra = [.one (.own true (encB (w2 n)))]) := by
  refine FnOK.ofK Tryz.func286 (by kernel_rfl) dg_impl_two rs_impl_two rfl rfl ?_
  unfold c_impl_two
  refine kSeq (kReg (kMovC rfl (kDone (kSeq (kReg (kMovC rfl (kShr (m := 8) rfl rfl rfl (kConvU8 rfl (kMovC rfl (kConvU8 rfl (kLit rfl rfl rfl rfl (kMovC rfl (kDone (kMem [(36864, ⟨1, 0, .arr true _⟩)] [(2, .c (.arr 36864 1))] [] ⟨rfl, trivial⟩ ⟨rfl, trivial⟩ rfl (kRet (endRetA (ra := [.one (.own true _)]) rfl rfl))))))))))))))))

def c_impl_four : C := (.seq (.reg false (.op 0 [] (some 2) none false (.mov (.n 1))
  .done))
 (.seq (.reg false (.op 0 [] (some 3) none false (.mov (.t 0))
  (.op 1 [] (some 4) none false (.bin .shr (.t 3) (.v (.int .u64 16)))
  (.op 2 [] (some 5) none false (.call 5 286 [(.t 4)])
  (.op 3 [] (some 6) none false (.mov (.t 0))
  (.op 4 [] (some 7) none false (.call 7 286 [(.t 6)])
  (.op 5 [] (some 8) none false (.app 8 1 1 (.t 5) (.t 7))
  (.op 6 [] (some 2) none false (.mov (.t 8))
  .done))))))))
 .ret))
theorem dg_impl_four : Tryz.f265.body.bind (digC Tryz.prog Tryz.f265.ntmps []) = some c_impl_four := by kernel_rfl
theorem rs_impl_four : resSlots Tryz.prog Tryz.f265 = some [.s 2] := by kernel_rfl
theorem ok_impl_four (n : Int) :
    FnOK Tryz.prog 265 [.one (.d (.sc (.int .i64 n)))] (fun ra _ => ra = [.one (.own true (encB (w4 n)))]) := by
  refine FnOK.ofK Tryz.func265 (by kernel_rfl) dg_impl_four rs_impl_four rfl rfl ?_
  unfold c_impl_four
  rw [← w4_two]
  have hl : ∀ m, (w2 m).length = 2 := fun _ => rfl
  have l1 := hl (sr n 16)
  have l2 := hl n
  refine kSeq (kReg (kMovC rfl (kDone (kSeq (kReg (kMovC rfl (kShr (m := 16) rfl rfl rfl (kCall1 true (ok_impl_two _) ⟨rfl, trivial⟩ rfl rfl rfl (fun _ => (kMovC rfl (kCall1 true (ok_impl_two _) ⟨rfl, trivial⟩ rfl rfl rfl (fun _ => (kAppR rfl rfl rfl rfl rfl rfl rfl rfl (by omega) (kMovC rfl (kDone (kMem [(24576, ⟨2, 0, .arr true _⟩)] [(2, .c (.arr 24576 2))] [] ⟨rfl, trivial⟩ ⟨rfl, trivial⟩ rfl (kRet (endRetA (ra := [.one (.own true _)]) rfl rfl))))))))))))))))))

def c_impl_Name_wire : C := (.seq (.reg false (.op 0 [] (some 1) none false (.box 1 (.t 0))
  (.op 1 [] (some 2) none false (.mov (.n 1))
  .done)))
 (.seq (.reg false (.op 0 [] (some 6) none false (.lit 6 1 [(.v (.int .u8 0))] 0 [])
  (.op 1 [] (some 3) none false (.mov (.t 6))
  .done)))
 (.seq (.seq (.reg false (.op 0 [] (some 7) none false (.fad (.t 1) 0)
  (.op 1 [] (some 8) none false (.load none (.t 7))
  (.op 2 [] (some 9) none false (.len (.t 8))
  (.op 3 [] (some 10) none false (.mov (.v (.int .i64 0)))
  .done)))))
 (.block 0 (.loop (.seq (.reg false (.op 0 [] (some 11) none false (.bin .lss (.t 10) (.t 9))
  .done))
 (.seq (.cond (.t 11)
 .skip
 (.exit 0))
 (.seq (.block 1 (.seq (.reg false (.op 0 [] (some 12) none false (.iad 1 (.t 8) (.t 10))
  (.op 1 [] (some 13) none false (.load none (.t 12))
  (.op 2 [] (some 5) none false (.mov (.t 13))
  .done))))
 (.reg false (.op 0 [] (some 14) none false (.mov (.t 3))
  (.op 1 [] (some 15) none false (.mov (.t 5))
  (.op 2 [] (some 16) none false (.len (.t 15))
  (.op 3 [] (some 17) none false (.conv .u8 (.t 16))
  (.op 4 [] (some 18) none false (.lit 18 1 [(.v (.int .u8 0))] 1 [(0, 1, (.t 17))])
  (.op 5 [] (some 19) none false (.app 19 1 1 (.t 14) (.t 18))
  (.op 6 [] (some 20) none false (.mov (.t 5))
  (.op 7 [] (some 21) none false (.app 21 1 1 (.t 19) (.t 20))
  (.op 8 [] (some 3) none false (.mov (.t 21))
  .done))))))))))))
 (.reg false (.op 0 [] (some 22) none false (.bin .add (.t 10) (.v (.int .i64 1)))
  (.op 1 [] (some 10) none false (.mov (.t 22))
  .done)))))))))
 (.seq (.reg false (.op 0 [] (some 23) none false (.mov (.t 3))
  (.op 1 [] (some 24) none false (.lit 24 1 [(.v (.int .u8 0))] 1 [(0, 1, (.v (.int .u8 0)))])
  (.op 2 [] (some 25) none false (.app 25 1 1 (.t 23) (.t 24))
  (.op 3 [] (some 2) none false (.mov (.t 25))
  .done)))))
 .ret))))
theorem dg_impl_Name_wire : Tryz.f266.body.bind (digC Tryz.prog Tryz.f266.ntmps []) = some c_impl_Name_wire := by kernel_rfl
theorem rs_impl_Name_wire : resSlots Tryz.prog Tryz.f266 = some [.s 2] := by kernel_rfl
theorem ok_impl_Name_wire (a : List (List UInt8)) (hs : SmallBB a) :
    FnOK Tryz.prog 266 [.agg [.d (encBB a)]] (fun ra _ => ra = [.one (.own true (encB (wireN a)))]) := by
  refine FnOK.ofK Tryz.func266 (by kernel_rfl) dg_impl_Name_wire rs_impl_Name_wire rfl rfl ?_
  unfold c_impl_Name_wire
  have h1 := hs.len
  have h2 := hs.flat
  refine kSeq (kReg (kBox rfl rfl rfl rfl rfl (kMovC rfl (kDone (kSeq (kReg (kLit rfl rfl rfl rfl (kMovC rfl (kDone (kSeq (kSeq (kReg (kFadP rfl rfl (kLoadP rfl rfl rfl (kLenR rfl rfl (kMovC rfl (kDone (kBlock ?_))))))))))))))))))
  refine kLoop (α := { i : Nat // i ≤ a.length }) (fun y => ⟨tabSl [(3, .c (.arr (rid 6 0) 1)), (8, .dv (encBB a)), (9, .i a.length), (10, .i y.1)], obTab 1 [(rid 6 0, ⟨1, 0, .arr true (encB (wireL (a.take y.1)))⟩)], []⟩) (fun y => a.length - y.1) ⟨0, by simp⟩ .normA ?_
  rintro ⟨i, hi⟩
  simp only
  have hl := wireL_le a i
  rcases Nat.lt_or_ge i a.length with hlt | hge
  · have hst := wireL_take a i hlt
    have hm := hs.mem _ (List.getElem_mem hlt)
    have hlen : (wireL (a.take i) ++ [u8 a[i].length]).length = (wireL (a.take i)).length + 1 := by simp
    refine kSeq (kReg (kBin rfl rfl rfl (kDone (kSeq (kCondP rfl (fun g0 => kSkip (kSeq (kBlock (kSeq (kReg (kIadR rfl rfl rfl (by omega) (kLoadD rfl rfl (kMovC rfl (kDone (kReg (kMovC rfl (kMovC rfl (kLenR rfl rfl (kConvU8 rfl (kLit rfl rfl rfl rfl (kAppR1 rfl rfl rfl rfl rfl rfl rfl rfl (by omega) (kMem [(28672, ⟨2, 0, .arr true _⟩)] [(5, .c (.d _)), (19, .c (.arr 28672 2))] [] ⟨rfl, trivial⟩ ⟨rfl, rfl, trivial⟩ rfl (kMovC rfl (kAppR rfl rfl rfl (src_encB _ _) rfl rfl rfl rfl (by omega) (kMovC rfl (kDone (kBk (kReg (kAdd rfl rfl (by omega) (kMovC rfl (kDone ?_)))))))))))))))))))))))))) (fun g0 => (by omega)))))))
    refine kInv ⟨⟨i + 1, by omega⟩, by simp only; omega, ?_⟩
    simp only [hst]
    exact .normA
  · have he : wireN a = wireL (a.take i) ++ [0] := by rw [show i = a.length by omega, List.take_length]; rfl
    rw [he]
    refine kSeq (kReg (kBin rfl rfl rfl (kDone (kSeq (kCondP rfl (fun g0 => (by omega)) (fun g0 => kExit (kExC (kExI (kExB (kSeq (kReg (kMovC rfl (kLit rfl rfl rfl rfl (kAppR1 (z := (0 : UInt8)) rfl rfl rfl rfl rfl rfl rfl rfl (by omega) (kMovC rfl (kDone (kMem [(28672, ⟨2, 0, .arr true _⟩)] [(2, .c (.arr 28672 2))] [] ⟨rfl, trivial⟩ ⟨rfl, trivial⟩ rfl (kRet (endRetA (ra := [.one (.own true _)]) rfl rfl)))))))))))))))))))

def c_impl_Rr_data : C := (.seq (.reg false (.op 0 [] (some 1) none false (.box 1 (.t 0))
  (.op 1 [] (some 2) none false (.mov (.n 1))
  .done)))
 (.seq (.block 0 (.seq (.reg false (.op 0 [] (some 7) none false (.fad (.t 1) 1)
  (.op 1 [] (some 8) none false (.load none (.t 7))
  (.op 2 [] (some 9) none false (.bin .eql (.t 8) (.v (.int .i64 1)))
  (.op 3 [] (some 6) none false (.mov (.t 9))
  .done)))))
 (.cond (.t 6)
 (.seq (.reg false (.op 0 [] (some 10) none false (.fad (.t 1) 3)
  (.op 1 [] (some 11) none false (.load none (.t 10))
  (.op 2 [] (some 12) none false (.call 12 265 [(.t 11)])
  (.op 3 [] (some 2) none false (.mov (.t 12))
  .done)))))
 .ret)
 (.seq (.reg false (.op 0 [] (some 14) none false (.fad (.t 1) 1)
  (.op 1 [] (some 15) none false (.load none (.t 14))
  (.op 2 [] (some 16) none false (.call 16 193 [(.t 15)])
  (.op 3 [] (some 13) none false (.mov (.t 16))
  .done)))))
 (.cond (.t 13)
 (.seq (.reg false (.op 0 [] (some 17) none false (.fad (.t 1) 4)
  (.op 1 [] (some 18) none false (.load (some 1) (.t 17))
  (.op 2 [] (some 19) none false (.call 19 266 [(.t 18)])
  (.op 3 [] (some 3) none false (.mov (.t 19))
  .done)))))
 (.seq (.seq (.reg false (.op 0 [] (some 20) none false (.fad (.t 1) 6)
  (.op 1 [] (some 21) none false (.load none (.t 20))
  (.op 2 [] (some 22) none false (.len (.t 21))
  (.op 3 [] (some 23) none false (.mov (.v (.int .i64 0)))
  .done)))))
 (.block 1 (.loop (.seq (.reg false (.op 0 [] (some 24) none false (.bin .lss (.t 23) (.t 22))
  .done))
 (.seq (.cond (.t 24)
 .skip
 (.exit 1))
 (.seq (.block 2 (.seq (.reg false (.op 0 [] (some 25) none false (.iad 1 (.t 21) (.t 23))
  (.op 1 [] (some 26) none false (.load none (.t 25))
  (.op 2 [] (some 5) none false (.mov (.t 26))
  .done))))
 (.reg false (.op 0 [] (some 27) none false (.mov (.t 3))
  (.op 1 [] (some 28) none false (.mov (.t 5))
  (.op 2 [] (some 29) none false (.call 29 265 [(.t 28)])
  (.op 3 [] (some 30) none false (.app 30 1 1 (.t 27) (.t 29))
  (.op 4 [] (some 3) none false (.mov (.t 30))
  .done))))))))
 (.reg false (.op 0 [] (some 31) none false (.bin .add (.t 23) (.v (.int .i64 1)))
  (.op 1 [] (some 23) none false (.mov (.t 31))
  .done)))))))))
 (.seq (.reg false (.op 0 [] (some 32) none false (.mov (.t 3))
  (.op 1 [] (some 2) none false (.mov (.t 32))
  .done)))
 .ret)))
 .skip)))))
 (.seq (.reg false (.op 0 [] (some 33) none false (.fad (.t 1) 5)
  (.op 1 [] (some 34) none false (.load none (.t 33))
  (.op 2 [] (some 35) none false (.len (.t 34))
  (.op 3 [] (some 36) none false (.conv .u8 (.t 35))
  (.op 4 [] (some 37) none false (.lit 37 1 [(.v (.int .u8 0))] 1 [(0, 1, (.t 36))])
  (.op 5 [] (some 38) none false (.fad (.t 1) 5)
  (.op 6 [] (some 39) none false (.load none (.t 38))
  (.op 7 [] (some 40) none false (.app 40 1 1 (.t 37) (.t 39))
  (.op 8 [] (some 2) none false (.mov (.t 40))
  .done))))))))))
 .ret)))
theorem dg_impl_Rr_data : Tryz.f199.body.bind (digC Tryz.prog Tryz.f199.ntmps []) = some c_impl_Rr_data := by kernel_rfl
theorem rs_impl_Rr_data : resSlots Tryz.prog Tryz.f199 = some [.s 2] := by kernel_rfl
theorem ok_impl_Rr_data (r : Rr) (hs : SmallR r) :
    FnOK Tryz.prog 199 [.agg (r.cells.map .d)] (fun ra _ => ra = [.one (.own true (encB (rdata r)))]) := by
  refine FnOK.ofK Tryz.func199 (by kernel_rfl) dg_impl_Rr_data rs_impl_Rr_data rfl rfl ?_
  unfold c_impl_Rr_data
  have ht := hs.t
  have t1 := hs.t.len
  have t2 := hs.t.flat
  have x1 := hs.x
  have m1 := hs.m
  by_cases h1 : r.ty = 1
  · rw [rdata_A h1]
    refine kSeq (kReg (kBox rfl rfl rfl rfl rfl (kMovC rfl (kDone (kSeq (kBlock (kSeq (kReg (kFadP rfl rfl (kLoadP rfl rfl rfl (kBin rfl rfl rfl (kMovC rfl (kDone (kCondP rfl (fun g0 => kSeq (kReg (kFadP rfl rfl (kLoadP rfl rfl rfl (kCall1 true (ok_impl_four _) ⟨rfl, trivial⟩ rfl rfl rfl (fun _ => (kMem [(53248, ⟨1, 0, .arr true _⟩)] [(12, .c (.arr 53248 1))] [] ⟨rfl, trivial⟩ ⟨rfl, trivial⟩ rfl (kMovC rfl (kDone (kMem [(53248, ⟨1, 0, .arr true _⟩)] [(2, .c (.arr 53248 1))] [] ⟨rfl, trivial⟩ ⟨rfl, trivial⟩ rfl (kRet (endRetA (ra := [.one (.own true _)]) rfl rfl)))))))))))) (fun g0 => (by omega))))))))))))))))
  cases h2 : hasTo r.ty
  · rw [rdata_text h1 h2]
    refine kSeq (kReg (kBox rfl rfl rfl rfl rfl (kMovC rfl (kDone (kSeq (kBlock (kSeq (kReg (kFadP rfl rfl (kLoadP rfl rfl rfl (kBin rfl rfl rfl (kMovC rfl (kDone (kCondP rfl (fun g0 => (by omega)) (fun g0 => kSeq (kReg (kFadP rfl rfl (kLoadP rfl rfl rfl (kCallD (ok_impl_hasTo _) ⟨rfl, trivial⟩ rfl rfl rfl rfl rfl (kMovC rfl (kDone (kCond rfl (fun g1 => (by (simp [*] at g1))) (fun g1 => kSkip (kBk (kSeq (kReg (kMem [(8192, ⟨1, 0, .box [.d _, .d _, .d _, .d _, .d _, .d _, .d _]⟩)] [(1, .c (.ptr 8192 1 0)), (33, .c (.un)), (34, .c (.un)), (35, .c (.un)), (36, .c (.un)), (38, .c (.un)), (37, .c (.un)), (39, .c (.un)), (40, .c (.un))] [] ⟨rfl, trivial⟩ ⟨rfl, rfl, rfl, rfl, rfl, rfl, rfl, rfl, rfl, trivial⟩ rfl (kFadP rfl rfl (kLoadP rfl rfl rfl (kLenR rfl rfl (kConvU8 rfl (kLit rfl rfl rfl rfl (kFadP rfl rfl (kLoadP rfl rfl rfl (kApp1R rfl rfl (src_encB _ _) rfl rfl rfl rfl rfl (by omega) (kMem [(155648, ⟨2, 0, .arr true _⟩)] [(40, .c (.arr 155648 2))] [] ⟨rfl, trivial⟩ ⟨rfl, trivial⟩ rfl (kMovC rfl (kDone (kMem [(155648, ⟨2, 0, .arr true _⟩)] [(2, .c (.arr 155648 2))] [] ⟨rfl, trivial⟩ ⟨rfl, trivial⟩ rfl (kRet (endRetA (ra := [.one (.own true _)]) rfl rfl)))))))))))))))))))))))))))))))))))))))))
  · rw [rdata_to h1 h2]
    refine kSeq (kReg (kBox rfl rfl rfl rfl rfl (kMovC rfl (kDone (kSeq (kBlock (kSeq (kReg (kFadP rfl rfl (kLoadP rfl rfl rfl (kBin rfl rfl rfl (kMovC rfl (kDone (kCondP rfl (fun g0 => (by omega)) (fun g0 => kSeq (kReg (kFadP rfl rfl (kLoadP rfl rfl rfl (kCallD (ok_impl_hasTo _) ⟨rfl, trivial⟩ rfl rfl rfl rfl rfl (kMovC rfl (kDone (kCond rfl (fun g1 => kSeq (kReg (kMem [(8192, ⟨1, 0, .box [.d _, .d _, .d _, .d _, .d _, .d _, .d _]⟩)] [(1, .c (.ptr 8192 1 0)), (17, .c (.un)), (18, .c (.un)), (19, .c (.un))] [] ⟨rfl, trivial⟩ ⟨rfl, rfl, rfl, rfl, trivial⟩ rfl (kFadP rfl rfl (kLoadP rfl rfl rfl (kCall1 true (ok_impl_Name_wire _ (by first | assumption | omega | solve_by_elim [List.getElem_mem] | (simp only [szOut] at *; omega))) ⟨⟨⟨rfl, trivial⟩, Nat.le_of_ble_eq_true rfl⟩, trivial⟩ rfl rfl rfl (fun _ => (kMovC rfl (kDone (kSeq (kSeq (kReg (kFadP rfl rfl (kLoadP rfl rfl rfl (kLenR rfl rfl (kMovC rfl (kDone (kBlock ?_)))))))))))))))))) (fun g1 => (by (simp [*] at g1)))))))))))))))))))))))))
    refine kLoop (α := { i : Nat // i ≤ r.nums.length }) (fun y => ⟨tabSl [(3, .c (.arr (rid 19 0) 1)), (21, .dv (encI r.nums)), (22, .i r.nums.length), (23, .i y.1)], obTab 1 [(rid 19 0, ⟨1, 0, .arr true (encB (wireN r.to ++ (r.nums.take y.1).flatMap w4))⟩)], []⟩) (fun y => r.nums.length - y.1) ⟨0, by simp⟩ (by simp only [List.take_zero, List.flatMap_nil, List.append_nil]; exact .normA) ?_
    rintro ⟨i, hi⟩
    simp only
    have hl : (wireN r.to ++ (r.nums.take i).flatMap w4).length ≤ 33554432 := by
      rw [List.length_append, wireN_len, w4s_len, List.length_take]; omega
    have hl4 : ∀ n, (w4 n).length = 4 := w4_len
    rcases Nat.lt_or_ge i r.nums.length with hlt | hge
    · have hst : wireN r.to ++ (r.nums.take (i + 1)).flatMap w4 = wireN r.to ++ (r.nums.take i).flatMap w4 ++ w4 r.nums[i] := by rw [flatMap_take _ _ _ hlt, List.append_assoc]
      have h4 := hl4 r.nums[i]
      refine kSeq (kReg (kBin rfl rfl rfl (kDone (kSeq (kCondP rfl (fun g0 => kSkip (kSeq (kBlock (kSeq (kReg (kIadR rfl rfl rfl (by omega) (kLoadD rfl rfl (kMovC rfl (kDone (kReg (kMovC rfl (kMovC rfl (kCall1 true (ok_impl_four _) ⟨rfl, trivial⟩ rfl rfl rfl (fun _ => (kAppR rfl rfl rfl rfl rfl rfl rfl rfl (by omega) (kMovC rfl (kDone (kBk (kReg (kAdd rfl rfl (by omega) (kMovC rfl (kDone ?_)))))))))))))))))))))) (fun g0 => (by omega)))))))
      refine kInv ⟨⟨i + 1, by omega⟩, by simp only; omega, ?_⟩
      simp only [hst]
      exact .normA
    · rw [show i = r.nums.length by omega, List.take_length]
      refine kSeq (kReg (kBin rfl rfl rfl (kDone (kSeq (kCondP rfl (fun g0 => (by omega)) (fun g0 => kExit (kExC (kExI (kExB (kSeq (kReg (kMovC rfl (kMovC rfl (kDone (kMem [(81920, ⟨1, 0, .arr true _⟩)] [(2, .c (.arr 81920 1))] [] ⟨rfl, trivial⟩ ⟨rfl, trivial⟩ rfl (kRet (endRetA (ra := [.one (.own true _)]) rfl rfl)))))))))))))))))

def c_cmp_Or_int : C := (.seq (.reg false (.op 0 [] (some 2) none false (.mov (.v (.int .i64 0)))
  .done))
 (.seq (.reg false (.op 0 [] (some 3) none false (.mov (.v (.int .i64 0)))
  .done))
 (.seq (.seq (.reg false (.op 0 [] (some 6) none false (.mov (.t 0))
  (.op 1 [] (some 7) none false (.len (.t 6))
  (.op 2 [] (some 8) none false (.mov (.v (.int .i64 0)))
  .done))))
 (.block 0 (.loop (.seq (.reg false (.op 0 [] (some 9) none false (.bin .lss (.t 8) (.t 7))
  .done))
 (.seq (.cond (.t 9)
 .skip
 (.exit 0))
 (.seq (.block 1 (.seq (.reg false (.op 0 [] (some 10) none false (.iad 1 (.t 6) (.t 8))
  (.op 1 [] (some 11) none false (.load none (.t 10))
  (.op 2 [] (some 5) none false (.mov (.t 11))
  .done))))
 (.seq (.reg false (.op 0 [] (some 12) none false (.mov (.t 5))
  (.op 1 [] (some 13) none false (.mov (.t 3))
  (.op 2 [] (some 14) none false (.bin .neq (.t 12) (.t 13))
  .done))))
 (.cond (.t 14)
 (.seq (.reg false (.op 0 [] (some 15) none false (.mov (.t 5))
  (.op 1 [] (some 2) none false (.mov (.t 15))
  .done)))
 .ret)
 .skip))))
 (.reg false (.op 0 [] (some 16) none false (.bin .add (.t 8) (.v (.int .i64 1)))
  (.op 1 [] (some 8) none false (.mov (.t 16))
  .done)))))))))
 (.seq (.reg false (.op 0 [] (some 17) none false (.mov (.t 3))
  (.op 1 [] (some 2) none false (.mov (.t 17))
  .done)))
 .ret))))
theorem dg_cmp_Or_int : Tryz.f195.body.bind (digC Tryz.prog Tryz.f195.ntmps []) = some c_cmp_Or_int := by kernel_rfl
theorem rs_cmp_Or_int : resSlots Tryz.prog Tryz.f195 = some [.s 2] := by kernel_rfl
theorem ok_cmp_Or_int (l : List Int) (h : l.length ≤ 4194304) :
    FnOK Tryz.prog 195 [.one (.d (encI l))] (fun ra _ => ra = [.one (.d (.sc (.int .i64 (orL l))))]) := by
  refine FnOK.ofK Tryz.func195 (by kernel_rfl) dg_cmp_Or_int rs_cmp_Or_int rfl rfl ?_
  unfold c_cmp_Or_int
  refine kSeq (kReg (kMovC rfl (kDone (kSeq (kReg (kMovC rfl (kDone (kSeq (kSeq (kReg (kMovC rfl (kLenR rfl rfl (kMovC rfl (kDone (kBlock ?_)))))))))))))))
  refine kLoop (α := { i : Nat // i ≤ l.length ∧ orL l = orL (l.drop i) }) (fun y => ⟨tabSl [(3, .i 0), (6, .dv (encI l)), (7, .i l.length), (8, .i y.1)], obTab 1 [], []⟩) (fun y => l.length - y.1) ⟨0, by simp⟩ .normA ?_
  rintro ⟨i, hi, hr⟩
  simp only
  rcases Nat.lt_or_ge i l.length with hlt | hge
  · have hst := orL_drop l i hlt
    refine kSeq (kReg (kBin rfl rfl rfl (kDone (kSeq (kCondP rfl (fun g0 => kSkip (kSeq (kBlock (kSeq (kReg (kIadR rfl rfl rfl (by omega) (kLoadD rfl rfl (kMovC rfl (kDone (kSeq (kReg (kMovC rfl (kMovC rfl (kBin rfl rfl rfl (kDone (kCondIN rfl (fun g1 => kSeq (kReg (kMovC rfl (kMovC rfl (kDone (kRet (endRetA (ra := [.one (.d _)]) rfl ?_))))))) (fun g1 => kSkip (kBk (kReg (kAdd rfl rfl (by omega) (kMovC rfl (kDone ?_)))))))))))))))))))))) (fun g0 => (by omega)))))))
    · rw [hr, hst, if_neg (by assumption)]
    · exact kInv ⟨⟨i + 1, by omega, by rw [hr, hst, if_pos (by assumption)]⟩, by simp only; omega, .normA⟩
  · have hst : orL l = 0 := by rw [hr, List.drop_eq_nil_of_le hge]; rfl
    rw [hst]
    refine kSeq (kReg (kBin rfl rfl rfl (kDone (kSeq (kCondP rfl (fun g0 => (by omega)) (fun g0 => kExit (kExC (kExI (kExB (kSeq (kReg (kMovC rfl (kMovC rfl (kDone (kRet (endRetA (ra := [.one (.d _)]) rfl rfl))))))))))))))))

theorem ok_cmp_Or_int3 (a b c : Int) :
    FnOK Tryz.prog 195 [.one (.d (.sl 1 [[.sc (.int .i64 a)], [.sc (.int .i64 b)], [.sc (.int .i64 c)]]))] (fun ra _ => ra = [.one (.d (.sc (.int .i64 (orL [a, b, c]))))]) := ok_cmp_Or_int [a, b, c] (by simp)

def c_impl_Rr_compare : C := (.seq (.reg false (.op 0 [] (some 2) none false (.box 2 (.t 0))
  (.op 1 [] (some 3) none false (.box 3 (.t 1))
  (.op 2 [] (some 4) none false (.mov (.v (.int .i64 0)))
  .done))))
 (.seq (.reg true (.op 0 [] (some 5) none true (.fad (.t 2) 0)
  (.op 1 [] (some 6) none true (.load (some 1) (.t 5))
  (.op 2 [] (some 7) none true (.fad (.t 3) 0)
  (.op 3 [] (some 8) none true (.load (some 1) (.t 7))
  (.op 5 [] (some 10) none true (.fad (.t 2) 1)
  (.op 6 [] (some 11) none true (.load none (.t 10))
  (.op 7 [] (some 12) none true (.fad (.t 3) 1)
  (.op 8 [] (some 13) none true (.load none (.t 12))
  (.op 10 [] (some 15) none true (.load (some 7) (.t 2))
  (.op 12 [] (some 17) none true (.load (some 7) (.t 3))
  (.op 4 [1, 3] (some 9) none false (.call 9 196 [(.t 6), (.t 8)])
  (.op 9 [6, 8, 1, 3] (some 14) none false (.call 14 197 [(.t 11), (.t 13)])
  (.op 11 [10, 6, 8, 1, 3] (some 16) none false (.call 16 199 [(.t 15)])
  (.op 13 [12, 10, 6, 8, 1, 3] (some 18) none false (.call 18 199 [(.t 17)])
  (.op 14 [10, 6, 8, 1, 3, 12] (some 19) none false (.call 19 198 [(.t 16), (.t 18)])
  (.op 15 [1, 3, 6, 8, 10, 12] (some 20) none false (.lit 20 1 [(.v (.int .i64 0))] 3 [(0, 1, (.t 9)), (1, 1, (.t 14)), (2, 1, (.t 19))])
  (.op 16 [1, 3, 6, 8, 10, 12] (some 21) none false (.call 21 195 [(.t 20)])
  (.op 17 [] (some 4) none true (.mov (.t 21))
  .done)))))))))))))))))))
 .ret))
theorem dg_impl_Rr_compare : Tryz.f89.body.bind (digC Tryz.prog Tryz.f89.ntmps []) = some c_impl_Rr_compare := by kernel_rfl
theorem rs_impl_Rr_compare : resSlots Tryz.prog Tryz.f89 = some [.s 4] := by kernel_rfl
theorem ok_impl_Rr_compare (a b : Rr) (ha : SmallR a) (hb : SmallR b) :
    FnOK Tryz.prog 89 [.agg (a.cells.map .d), .agg (b.cells.map .d)] (fun ra _ => ra = [.one (.d (.sc (.int .i64 (cmpR a b))))]) := by
  refine FnOK.ofK Tryz.func89 (by kernel_rfl) dg_impl_Rr_compare rs_impl_Rr_compare rfl rfl ?_
  unfold c_impl_Rr_compare
  have n1 := ha.n.len
  have n2 := hb.n.len
  have r1 := rdata_le ha
  have r2 := rdata_le hb
  rw [cmpR_or]
  refine kSeq (kReg (kBox rfl rfl rfl rfl rfl (kBox rfl rfl rfl rfl rfl (kMovC rfl (kDone (kSeq (kRegD (kFadP rfl rfl (kLoadP rfl rfl rfl (kFadP rfl rfl (kLoadP rfl rfl rfl (kFadP rfl rfl (kMem [(12288, ⟨1, 0, .box [.d _, .d _, .d _, .d _, .d _, .d _, .d _]⟩), (16384, ⟨1, 0, .box [.d _, .d _, .d _, .d _, .d _, .d _, .d _]⟩)] [(10, .c (.ptr 12288 1 1)), (3, .c (.ptr 16384 1 0)), (12, .c (.un)), (2, .c (.ptr 12288 1 0)), (6, .g [.d _]), (8, .g [.d _]), (11, .c (.un)), (13, .c (.un)), (15, .c (.un)), (17, .c (.un)), (16, .c (.un)), (18, .c (.un)), (9, .c (.un)), (14, .c (.un)), (19, .c (.un)), (20, .c (.un)), (21, .c (.un))] [16384, 12288] ⟨rfl, rfl, trivial⟩ ⟨rfl, rfl, rfl, rfl, rfl, rfl, rfl, rfl, rfl, rfl, rfl, rfl, rfl, rfl, rfl, rfl, rfl, trivial⟩ rfl (kLoadP rfl rfl rfl (kFadP rfl rfl (kLoadP rfl rfl rfl (kLoadP rfl rfl rfl (kLoadP rfl rfl rfl (kRelK rfl rfl (kCallD (ok_impl_Name_compare _ _ (by first | assumption | omega | solve_by_elim [List.getElem_mem] | (simp only [szOut] at *; omega)) (by first | assumption | omega | solve_by_elim [List.getElem_mem] | (simp only [szOut] at *; omega))) ⟨⟨⟨rfl, trivial⟩, Nat.le_of_ble_eq_true rfl⟩, ⟨⟨rfl, trivial⟩, Nat.le_of_ble_eq_true rfl⟩, trivial⟩ rfl rfl rfl rfl rfl (kRelK rfl rfl (kCallD (ok_cmp_Compare_int _ _) ⟨rfl, rfl, trivial⟩ rfl rfl rfl rfl rfl (kRelK rfl rfl (kCall1 true (ok_impl_Rr_data _ (by first | assumption | omega | solve_by_elim [List.getElem_mem] | (simp only [szOut] at *; omega))) ⟨⟨⟨rfl, rfl, rfl, rfl, rfl, rfl, rfl, trivial⟩, Nat.le_of_ble_eq_true rfl⟩, trivial⟩ rfl rfl rfl (fun _ => (kMem [(69632, ⟨1, 0, .arr true _⟩)] [(17, .g [.d _, .d _, .d _, .d _, .d _, .d _, .d _]), (16, .c (.arr 69632 1)), (18, .c (.un)), (9, .c (.d _)), (14, .c (.d _)), (19, .c (.un)), (20, .c (.un)), (21, .c (.un))] [16384, 12288, 16384, 12288, 16384, 12288] ⟨rfl, trivial⟩ ⟨rfl, rfl, rfl, rfl, rfl, rfl, rfl, rfl, trivial⟩ rfl (kRelF rfl rfl (kCall1 true (ok_impl_Rr_data _ (by first | assumption | omega | solve_by_elim [List.getElem_mem] | (simp only [szOut] at *; omega))) ⟨⟨⟨rfl, rfl, rfl, rfl, rfl, rfl, rfl, trivial⟩, Nat.le_of_ble_eq_true rfl⟩, trivial⟩ rfl rfl rfl (fun _ => (kRelF rfl rfl (kCallD (ok_bytes_Compare _ _) ⟨rfl, rfl, trivial⟩ rfl rfl rfl rfl rfl (kRelF rfl rfl (kLit rfl rfl rfl rfl (kRelF rfl rfl (kCallD (ok_cmp_Or_int3 _ _ _) ⟨rfl, trivial⟩ rfl rfl rfl rfl rfl (kMovC rfl (kDone (kH (kRet (endRetA (ra := [.one (.d _)]) rfl rfl))))))))))))))))))))))))))))))))))))))))


def c_slices_EqualFunc_LLbyte_LLbyte_Lbyte_Lbyte : C := (.seq (.reg false (.op 0 [] (some 6) none false (.mov (.v (.bool false)))
  .done))
 (.seq (.seq (.reg false (.op 0 [] (some 10) none false (.mov (.t 0))
  (.op 1 [] (some 11) none false (.len (.t 10))
  (.op 2 [] (some 12) none false (.mov (.t 1))
  (.op 3 [] (some 13) none false (.len (.t 12))
  (.op 4 [] (some 14) none false (.bin .neq (.t 11) (.t 13))
  .done))))))
 (.cond (.t 14)
 (.seq (.reg false (.op 0 [] (some 6) none false (.mov (.v (.bool false)))
  .done))
 .ret)
 .skip))
 (.seq (.seq (.reg false (.op 0 [] (some 15) none false (.mov (.t 0))
  (.op 1 [] (some 16) none false (.len (.t 15))
  (.op 2 [] (some 17) none false (.mov (.v (.int .i64 0)))
  .done))))
 (.block 0 (.loop (.seq (.reg false (.op 0 [] (some 18) none false (.bin .lss (.t 17) (.t 16))
  .done))
 (.seq (.cond (.t 18)
 .skip
 (.exit 0))
 (.seq (.block 1 (.seq (.reg false (.op 0 [] (some 19) none false (.mov (.t 17))
  (.op 1 [] (some 20) none false (.iad 1 (.t 15) (.t 17))
  (.op 2 [] (some 21) none false (.load none (.t 20))
  (.op 3 [] (some 7) none false (.mov (.t 19))
  (.op 4 [] (some 8) none false (.mov (.t 21))
  .done))))))
 (.seq (.reg false (.op 0 [] (some 22) none false (.mov (.t 1))
  (.op 1 [] (some 23) none false (.mov (.t 7))
  (.op 2 [] (some 24) none false (.iad 1 (.t 22) (.t 23))
  (.op 3 [] (some 25) none false (.load none (.t 24))
  (.op 4 [] (some 9) none false (.mov (.t 25))
  .done))))))
 (.seq (.reg false (.op 0 [] (some 26) none false (.mov (.t 2))
  (.op 1 [] (some 27) none false (.mov (.t 8))
  (.op 2 [] (some 28) none false (.mov (.t 9))
  (.op 3 [] (some 29) none false (.callv 29 (.t 26) [(.t 27), (.t 28)])
  (.op 4 [] (some 30) none false (.un .not (.t 29))
  .done))))))
 (.cond (.t 30)
 (.seq (.reg false (.op 0 [] (some 6) none false (.mov (.v (.bool false)))
  .done))
 .ret)
 .skip)))))
 (.reg false (.op 0 [] (some 31) none false (.bin .add (.t 17) (.v (.int .i64 1)))
  (.op 1 [] (some 17) none false (.mov (.t 31))
  .done)))))))))
 (.seq (.reg false (.op 0 [] (some 6) none false (.mov (.v (.bool true)))
  .done))
 .ret))))
theorem dg_slices_EqualFunc_LLbyte_LLbyte_Lbyte_Lbyte : Tryz.f200.body.bind (digC Tryz.prog Tryz.f200.ntmps []) = some c_slices_EqualFunc_LLbyte_LLbyte_Lbyte_Lbyte := by kernel_rfl
theorem rs_slices_EqualFunc_LLbyte_LLbyte_Lbyte_Lbyte : resSlots Tryz.prog Tryz.f200 = some [.s 6] := by kernel_rfl
def fcEq : FC := fun l R => ∃ x y : List UInt8, l = [DA.one (encB x), DA.one (encB y)] ∧ R = fun ra => ra = [.one (.d (.sc (.bool (x == y))))]
theorem ok_slices_EqualFunc_LLbyte_LLbyte_Lbyte_Lbyte (a b : List (List UInt8)) (ha : a.length ≤ 4194304) (hb : b.length ≤ 4194304) :
    FnOK Tryz.prog 200 [.one (.d (encBB a)), .one (.d (encBB b)), .one (.fv false fcEq)] (fun ra _ => ra = [.one (.d (.sc (.bool (decide (a = b)))))]) := by
  refine FnOK.ofK Tryz.func200 (by kernel_rfl) dg_slices_EqualFunc_LLbyte_LLbyte_Lbyte_Lbyte rs_slices_EqualFunc_LLbyte_LLbyte_Lbyte_Lbyte rfl rfl ?_
  unfold c_slices_EqualFunc_LLbyte_LLbyte_Lbyte_Lbyte
  refine kSeq (kReg (kMovC rfl (kDone (kSeq (kSeq (kReg (kMovC rfl (kLenR rfl rfl (kMovC rfl (kLenR rfl rfl (kBin rfl rfl rfl (kDone (kCondIN rfl (fun g0 => kSeq (kReg (kMovC rfl (kDone (kRet (endRetA (ra := [.one (.d _)]) rfl ?_)))))) (fun g0 => kSkip (kSeq (kSeq (kReg (kMovC rfl (kLenR rfl rfl (kMovC rfl (kDone (kBlock ?_))))))))))))))))))))))
  · rw [decide_eq_false (by rintro rfl; simp_all)]
  have hab : a.length = b.length := by omega
  refine kLoop (α := { i : Nat // i ≤ a.length ∧ a.take i = b.take i })
    (fun y => ⟨tabSl [(1, .dv (encBB b)), (2, .c (.fv false fcEq)), (15, .dv (encBB a)), (16, .i a.length), (17, .i y.1)], obTab 1 [], []⟩) (fun y => a.length - y.1) ⟨0, by simp⟩
    .normA ?_
  rintro ⟨i, hi, he⟩
  simp only
  rcases Nat.lt_or_ge i a.length with hlt | hge
  · refine kSeq (kReg (kBin rfl rfl rfl (kDone (kSeq (kCondP rfl (fun g0 => kSkip (kSeq (kBlock (kSeq (kReg (kMovC rfl (kIadR rfl rfl rfl (by omega) (kLoadD rfl rfl (kMovC rfl (kMovC rfl (kDone (kSeq (kReg (kMovC rfl (kMovC rfl (kIadR rfl rfl rfl (by omega) (kLoadD rfl rfl (kMovC rfl (kDone (kSeq (kReg (kMovC rfl (kMovC rfl (kMovC rfl ?_)))))))))))))))))))))))) (fun g0 => (by omega)))))))
    refine kCallv rfl ⟨a[i], b[i], rfl, rfl⟩ ⟨rfl, rfl, trivial⟩ (.inr ?_) rfl ?_ rfl ?_
    · rintro _ rfl; rfl
    · rintro _ rfl; exact Nat.le_of_ble_eq_true rfl
    rintro _ rfl
    refine kUn rfl rfl (kDone (kCondN rfl (fun g0 => kSeq (kReg (kMovC rfl (kDone (kRet (endRetA (ra := [.one (.d _)]) rfl ?_)))))) (fun g0 => kSkip (kBk (kReg (kAdd rfl rfl (by omega) (kMovC rfl (kDone ?_))))))))
    · rw [decide_eq_false]
      rintro rfl
      simp_all
    · refine kInv ⟨⟨i + 1, by omega, ?_⟩, by simp only; omega, .normA⟩
      rw [← List.take_append_getElem (by omega), ← List.take_append_getElem (by omega), he]
      simp_all
  · refine kSeq (kReg (kBin rfl rfl rfl (kDone (kSeq (kCondP rfl (fun g0 => (by omega)) (fun g0 => kExit (kExC (kExI (kExB (kSeq (kReg (kMovC rfl (kDone (kRet (endRetA (ra := [.one (.d _)]) rfl ?_)))))))))))))))
    rw [show i = a.length by omega, List.take_length, hab, List.take_length] at he
    rw [he, decide_eq_true rfl]

def c_bytes_Equal : C := (.seq (.reg false (.op 0 [] (some 4) none false (.mov (.v (.bool false)))
  .done))
 (.seq (.reg false (.op 0 [] (some 5) none false (.mov (.t 0))
  (.op 1 [] (some 6) none false (.b2s (.t 5))
  (.op 2 [] (some 7) none false (.mov (.t 1))
  (.op 3 [] (some 8) none false (.b2s (.t 7))
  (.op 4 [] (some 9) none false (.bin .eql (.t 6) (.t 8))
  (.op 5 [] (some 4) none false (.mov (.t 9))
  .done)))))))
 .ret))
theorem dg_bytes_Equal : Tryz.f201.body.bind (digC Tryz.prog Tryz.f201.ntmps []) = some c_bytes_Equal := by kernel_rfl
theorem rs_bytes_Equal : resSlots Tryz.prog Tryz.f201 = some [.s 4] := by kernel_rfl
theorem ok_bytes_Equal (a b : List UInt8) :
    FnOK Tryz.prog 201 [.one (.d (encB a)), .one (.d (encB b))] (fun ra _ => ra = [.one (.d (.sc (.bool (a == b))))]) := by
  refine FnOK.ofK Tryz.func201 (by kernel_rfl) dg_bytes_Equal rs_bytes_Equal rfl rfl ?_
  unfold c_bytes_Equal
  refine kSeq (kReg (kMovC rfl (kDone (kSeq (kReg (kMovC rfl (kB2s rfl rfl (kMovC rfl (kB2s rfl rfl (kBin rfl rfl rfl (kMovC rfl (kDone (kRet (endRetA (ra := [.one (.d _)]) rfl ?_))))))))))))))
  simp only [bt_list]

def c_impl_Name_under : C := (.seq (.reg false (.op 0 [] (some 2) none false (.box 2 (.t 0))
  (.op 1 [] (some 3) none false (.box 3 (.t 1))
  (.op 2 [] (some 4) none false (.mov (.v (.bool false)))
  .done))))
 (.seq (.reg false (.op 0 [] (some 6) none false (.fad (.t 2) 0)
  (.op 1 [] (some 7) none false (.load none (.t 6))
  (.op 2 [] (some 8) none false (.len (.t 7))
  (.op 3 [] (some 9) none false (.fad (.t 3) 0)
  (.op 4 [] (some 10) none false (.load none (.t 9))
  (.op 5 [] (some 11) none false (.len (.t 10))
  (.op 6 [] (some 12) none false (.bin .sub (.t 8) (.t 11))
  (.op 7 [] (some 5) none false (.mov (.t 12))
  .done)))))))))
 (.seq (.reg true (.op 0 [] (some 13) none true (.mov (.t 5))
  (.op 1 [] (some 14) none true (.bin .geq (.t 13) (.v (.int .i64 0)))
  (.op 2 [] (some 15) none true (.mov (.t 14))
  (.op 3 [] (some 16) (some (15, true)) true (.fad (.t 2) 0)
  (.op 4 [] (some 17) (some (15, true)) true (.load none (.t 16))
  (.op 5 [] (some 18) (some (15, true)) true (.mov (.t 5))
  (.op 6 [] (some 19) (some (15, true)) true (.mm true (.t 18) (.v (.int .i64 0)))
  (.op 7 [] (some 20) (some (15, true)) true (.cut 1 (.t 17) (some (.t 19)) none)
  (.op 8 [] (some 21) (some (15, true)) true (.fad (.t 3) 0)
  (.op 9 [] (some 22) (some (15, true)) true (.load none (.t 21))
  (.op 10 [4, 9] (some 23) (some (15, true)) false (.call 23 200 [(.t 20), (.t 22), (.fn 201)])
  (.op 11 [] (some 24) none true (.pick (.t 15) (.t 23) (.v (.bool false)))
  (.op 12 [] (some 4) none true (.mov (.t 24))
  .done))))))))))))))
 .ret)))
theorem dg_impl_Name_under : Tryz.f90.body.bind (digC Tryz.prog Tryz.f90.ntmps []) = some c_impl_Name_under := by kernel_rfl
theorem rs_impl_Name_under : resSlots Tryz.prog Tryz.f90 = some [.s 4] := by kernel_rfl
theorem ok_impl_Name_under (n z : List (List UInt8)) (hn : n.length ≤ 4194304) (hz : z.length ≤ 4194304) :
    FnOK Tryz.prog 90 [.agg [.d (encBB n)], .agg [.d (encBB z)]] (fun ra _ => ra = [.one (.d (.sc (.bool (underN n z))))]) := by
  refine FnOK.ofK Tryz.func90 (by kernel_rfl) dg_impl_Name_under rs_impl_Name_under rfl rfl ?_
  unfold c_impl_Name_under
  have hd : ∀ m, (n.drop m).length ≤ 4194304 := fun m => by simp; omega
  refine kSeq (kReg (kBox rfl rfl rfl rfl rfl (kBox rfl rfl rfl rfl rfl (kMovC rfl (kDone (kSeq (kReg (kFadP rfl rfl (kLoadP rfl rfl rfl (kLenR rfl rfl (kFadP rfl rfl (kLoadP rfl rfl rfl (kLenR rfl rfl (kDif rfl rfl (by omega) (kMovC rfl (kDone (kSeq (kRegD (kMovC rfl (kBin rfl rfl rfl (kMovC rfl (kGP rfl (fun g0 => kGT rfl (kFadP rfl rfl (kGT rfl (kLoadP rfl rfl rfl (kGT rfl (kMovC rfl (kGT rfl (kMm rfl rfl (kGT rfl (kCutLT rfl rfl (by omega) (kGT rfl (kFadP rfl rfl (kGT rfl (kLoadP rfl rfl rfl (kRelF rfl rfl (kGT rfl ?_)))))))))))))))) (fun g0 => kGF rfl (kGF rfl (kGF rfl (kGF rfl (kGF rfl (kGF rfl (kGF rfl (kRelF rfl rfl (kGF rfl (kPickF rfl (kMovC rfl (kMovC rfl (kDone (kH (kRet (endRetA (ra := [.one (.d _)]) rfl ?_))))))))))))))))))))))))))))))))))))))
  · refine kCallD (ok_slices_EqualFunc_LLbyte_LLbyte_Lbyte_Lbyte _ z (hd _) hz) ⟨rfl, rfl, ⟨rfl, rfl, ⟨_, Tryz.func201, rfl, by kernel_rfl⟩, ?_⟩, trivial⟩ rfl rfl rfl rfl rfl ?_
    · rintro _ R ⟨x, y, rfl, rfl⟩
      exact ok_bytes_Equal x y
    refine kPickT rfl (kMovC rfl (kMovC rfl (kDone (kH (kRet (endRetA (ra := [.one (.d _)]) rfl ?_))))))
    simp only [if_true, underN]
    rw [if_neg (by omega), show (n.length - z.length : Int).toNat = n.length - z.length by omega, decide_eq_true (show z.length ≤ n.length by omega), Bool.true_and]
  · rw [show underN n z = false by simp only [underN]; rw [decide_eq_false (by omega)]; rfl]

def c_impl_Name_is : C := (.seq (.reg false (.op 0 [] (some 2) none false (.box 2 (.t 0))
  (.op 1 [] (some 3) none false (.box 3 (.t 1))
  (.op 2 [] (some 4) none false (.mov (.v (.bool false)))
  .done))))
 (.seq (.reg false (.op 0 [] (some 5) none false (.load (some 1) (.t 2))
  (.op 1 [] (some 6) none false (.load (some 1) (.t 3))
  (.op 2 [] (some 7) none false (.call 7 196 [(.t 5), (.t 6)])
  (.op 3 [] (some 8) none false (.bin .eql (.t 7) (.v (.int .i64 0)))
  (.op 4 [] (some 4) none false (.mov (.t 8))
  .done))))))
 .ret))
theorem dg_impl_Name_is : Tryz.f91.body.bind (digC Tryz.prog Tryz.f91.ntmps []) = some c_impl_Name_is := by kernel_rfl
theorem rs_impl_Name_is : resSlots Tryz.prog Tryz.f91 = some [.s 4] := by kernel_rfl
theorem ok_impl_Name_is (a b : List (List UInt8)) (ha : a.length ≤ 4194304) (hb : b.length ≤ 4194304) :
    FnOK Tryz.prog 91 [.agg [.d (encBB a)], .agg [.d (encBB b)]] (fun ra _ => ra = [.one (.d (.sc (.bool (decide (a = b)))))]) := by
  refine FnOK.ofK Tryz.func91 (by kernel_rfl) dg_impl_Name_is rs_impl_Name_is rfl rfl ?_
  unfold c_impl_Name_is
  rw [← cmpN_zero]
  refine kSeq (kReg (kBox rfl rfl rfl rfl rfl (kBox rfl rfl rfl rfl rfl (kMovC rfl (kDone (kSeq (kReg (kLoadP rfl rfl rfl (kLoadP rfl rfl rfl (kCallD (ok_impl_Name_compare _ _ (by first | assumption | omega | solve_by_elim [List.getElem_mem] | (simp only [szOut] at *; omega)) (by first | assumption | omega | solve_by_elim [List.getElem_mem] | (simp only [szOut] at *; omega))) ⟨⟨⟨rfl, trivial⟩, Nat.le_of_ble_eq_true rfl⟩, ⟨⟨rfl, trivial⟩, Nat.le_of_ble_eq_true rfl⟩, trivial⟩ rfl rfl rfl rfl rfl (kBin rfl rfl rfl (kMovC rfl (kDone (kRet (endRetA (ra := [.one (.d _)]) rfl rfl)))))))))))))))

def c_impl_Zone_set : C := (.seq (.reg false (.op 0 [] (some 3) none false (.box 3 (.t 0))
  (.op 1 [] (some 4) none false (.box 4 (.t 1))
  (.op 2 [] (some 6) none false (.mov (.n 7))
  .done))))
 (.seq (.reg false (.op 0 [] (some 10) none false (.lit 10 7 [(.n 1), (.v (.int .i64 0)), (.v (.int .i64 0)), (.v (.int .i64 0)), (.n 1), (.n 1), (.n 1)] 0 [])
  (.op 1 [] (some 7) none false (.mov (.t 10))
  .done)))
 (.seq (.seq (.reg false (.op 0 [] (some 11) none false (.fad (.t 3) 1)
  (.op 1 [] (some 12) none false (.load none (.t 11))
  (.op 2 [] (some 13) none false (.len (.t 12))
  (.op 3 [] (some 14) none false (.mov (.v (.int .i64 0)))
  .done)))))
 (.block 0 (.loop (.seq (.reg false (.op 0 [] (some 15) none false (.bin .lss (.t 14) (.t 13))
  .done))
 (.seq (.cond (.t 15)
 .skip
 (.exit 0))
 (.seq (.block 1 (.seq (.reg false (.op 0 [] (some 16) none false (.iad 7 (.t 12) (.t 14))
  (.op 1 [] (some 17) none false (.load (some 7) (.t 16))
  (.op 2 [] (some 9) none false (.alloc 9 [(.n 1), (.v (.int .i64 0)), (.v (.int .i64 0)), (.v (.int .i64 0)), (.n 1), (.n 1), (.n 1)])
  (.op 3 [] none none false (.store (some 7) (.t 9) (.t 17))
  .done)))))
 (.seq (.reg false (.op 0 [] (some 18) none false (.fad (.t 9) 0)
  (.op 1 [] (some 19) none false (.load (some 1) (.t 18))
  (.op 2 [] (some 20) none false (.load (some 1) (.t 4))
  (.op 3 [] (some 21) none false (.call 21 91 [(.t 19), (.t 20)])
  (.op 4 [] (some 22) none false (.mov (.t 21))
  (.op 5 [] (some 23) (some (22, true)) false (.mov (.t 2))
  (.op 6 [] (some 24) (some (22, true)) false (.bin .eql (.t 23) (.v (.int .i64 255)))
  (.op 7 [] (some 25) (some (22, true)) false (.mov (.t 24))
  (.op 8 [] (some 26) (some (25, false)) false (.fad (.t 9) 1)
  (.op 9 [] (some 27) (some (25, false)) false (.load none (.t 26))
  (.op 10 [] (some 28) (some (25, false)) false (.mov (.t 2))
  (.op 11 [] (some 29) (some (25, false)) false (.bin .eql (.t 27) (.t 28))
  (.op 12 [] (some 30) (some (22, true)) false (.pick (.t 25) (.v (.bool true)) (.t 29))
  (.op 13 [] (some 31) none false (.pick (.t 22) (.t 30) (.v (.bool false)))
  .done)))))))))))))))
 (.cond (.t 31)
 (.reg false (.op 0 [] (some 32) none false (.mov (.t 7))
  (.op 1 [] (some 33) none false (.load (some 7) (.t 9))
  (.op 2 [] (some 34) none false (.lit 34 7 [(.n 1), (.v (.int .i64 0)), (.v (.int .i64 0)), (.v (.int .i64 0)), (.n 1), (.n 1), (.n 1)] 1 [(0, 7, (.t 33))])
  (.op 3 [] (some 35) none false (.app 35 7 120 (.t 32) (.t 34))
  (.op 4 [] (some 7) none false (.mov (.t 35))
  .done))))))
 .skip))))
 (.reg false (.op 0 [] (some 36) none false (.bin .add (.t 14) (.v (.int .i64 1)))
  (.op 1 [] (some 14) none false (.mov (.t 36))
  .done)))))))))
 (.seq (.reg false (.op 0 [] (some 37) none false (.mov (.t 7))
  (.op 1 [] (some 6) none false (.mov (.t 37))
  .done)))
 .ret))))
theorem dg_impl_Zone_set : Tryz.f85.body.bind (digC Tryz.prog Tryz.f85.ntmps []) = some c_impl_Zone_set := by kernel_rfl
theorem rs_impl_Zone_set : resSlots Tryz.prog Tryz.f85 = some [.s 6] := by kernel_rfl
theorem ok_impl_Zone_set (z : Zone) (n : List (List UInt8)) (t : Int) (hs : SmallZ z) (hn : n.length ≤ 4194304) :
    FnOK Tryz.prog 85 [.agg (z.cells.map .d), .agg [.d (encBB n)], .one (.d (.sc (.int .i64 t)))] (fun ra _ => ra = [.one (.d (encR (setOf z.rrs n t)))]) := by
  refine FnOK.ofK Tryz.func85 (by kernel_rfl) dg_impl_Zone_set rs_impl_Zone_set rfl rfl ?_
  unfold c_impl_Zone_set
  have h1 := hs.r.len
  refine kSeq (kReg (kBox rfl rfl rfl rfl rfl (kBox rfl rfl rfl rfl rfl (kMovC rfl (kDone (kSeq (kReg (kLit rfl rfl rfl rfl (kMovC rfl (kDone (kSeq (kSeq (kReg (kFadP rfl rfl (kLoadP rfl rfl rfl (kLenR rfl rfl (kMovC rfl (kDone (kBlock ?_)))))))))))))))))))
  refine kLoop (α := { i : Nat // i ≤ z.rrs.length }) (fun y => ⟨tabSl [(2, .i t), (4, .c (.ptr (rid 4 0) 1 0)), (7, .c (.arr (rid 10 0) 1)), (12, .dv (encR z.rrs)), (13, .i z.rrs.length), (14, .i y.1)], obTab 1 [(rid 4 0, ⟨1, 0, .box [.d (encBB n)]⟩), (rid 10 0, ⟨1, 0, .arr false (encR (setOf (z.rrs.take y.1) n t))⟩)], []⟩) (fun y => z.rrs.length - y.1) ⟨0, by simp⟩ .normA ?_
  rintro ⟨i, hi⟩
  simp only
  have hlen : (z.rrs.take i).length = i := by simp; omega
  have hle : (setOf (z.rrs.take i) n t).length ≤ z.rrs.length := filter_len _ z.rrs i
  rcases Nat.lt_or_ge i z.rrs.length with hlt | hge
  · have hbi := hs.r.mem _ (List.getElem_mem hlt)
    have n1 := hbi.n.len
    have no : ∀ h : (decide (z.rrs[i].name = n) && (t == 255 || z.rrs[i].ty == t)) = false, setOf (z.rrs.take (i + 1)) n t = setOf (z.rrs.take i) n t := fun h => filter_no hlt h
    have yes : ∀ h : (decide (z.rrs[i].name = n) && (t == 255 || z.rrs[i].ty == t)) = true, setOf (z.rrs.take (i + 1)) n t = setOf (z.rrs.take i) n t ++ [z.rrs[i]] := fun h => filter_yes hlt h
    by_cases p1 : z.rrs[i].name = n
    · by_cases p2 : t = 255
      · have hst := yes (by simp [p1, p2])
        refine kSeq (kReg (kBin rfl rfl rfl (kDone (kSeq (kCondP rfl (fun g0 => kSkip (kSeq (kBlock (kSeq (kReg (kIadR rfl rfl rfl (by omega) (kLoadD rfl rfl (kAlloc rfl rfl (kMem [(40960, ⟨2, 0, .box [.nil 1, .d _, .d _, .d _, .nil 1, .nil 1, .nil 1]⟩)] [(9, .c (.ptr 40960 2 0)), (17, .g [.d _, .d _, .d _, .d _, .d _, .d _, .d _])] [] ⟨rfl, trivial⟩ ⟨rfl, rfl, trivial⟩ rfl (kStoreP rfl rfl rfl rfl (kDone (kSeq (kReg (kFadP rfl rfl (kLoadP rfl rfl rfl (kLoadP rfl rfl rfl (kCallD (ok_impl_Name_is _ _ (by first | assumption | omega | solve_by_elim [List.getElem_mem] | (simp only [szOut] at *; omega)) (by first | assumption | omega | solve_by_elim [List.getElem_mem] | (simp only [szOut] at *; omega))) ⟨⟨⟨rfl, trivial⟩, Nat.le_of_ble_eq_true rfl⟩, ⟨⟨rfl, trivial⟩, Nat.le_of_ble_eq_true rfl⟩, trivial⟩ rfl rfl rfl rfl rfl (kMovC rfl (kGP rfl (fun g1 => kGT rfl (kMovC rfl (kGT rfl (kBin rfl rfl rfl (kMem [(40960, ⟨2, 0, .box [.d _, .d _, .d _, .d _, .d _, .d _, .d _]⟩)] [(24, .c (.d _)), (9, .c (.ptr 40960 2 0)), (2, .c (.d _)), (22, .c (.d _))] [] ⟨rfl, trivial⟩ ⟨rfl, rfl, rfl, rfl, trivial⟩ rfl (kGT rfl (kMovC rfl (kGP rfl (fun g2 => kGF rfl (kGF rfl (kGF rfl (kGF rfl (kGT rfl (kPickT rfl (kMovC rfl (kPickT rfl (kMovC rfl (kDone (kCondT rfl (kReg (kMovC rfl (kLoadP rfl rfl rfl (kLit rfl rfl rfl rfl (kMem [(45056, ⟨1, 0, .arr false _⟩), (143360, ⟨2, 0, .arr false _⟩)] [(32, .c (.arr 45056 1)), (34, .c (.arr 143360 2))] [] ⟨rfl, rfl, trivial⟩ ⟨rfl, rfl, trivial⟩ rfl (kAppRec rfl rfl rfl rfl rfl rfl rfl (by omega) (kMovC rfl (kDone (kBk (kReg (kAdd rfl rfl (by omega) (kMovC rfl (kDone ?_)))))))))))))))))))))))) (fun g2 => (by omega)))))))))) (fun g1 => (by (simp [*] at g1)))))))))))))))))))))) (fun g0 => (by omega)))))))
        refine kInv ⟨⟨i + 1, by omega⟩, by simp only; omega, ?_⟩
        simp only [hst]
        exact .normA
      · by_cases p3 : z.rrs[i].ty = t
        · have hst := yes (by simp [p1, p3])
          refine kSeq (kReg (kBin rfl rfl rfl (kDone (kSeq (kCondP rfl (fun g0 => kSkip (kSeq (kBlock (kSeq (kReg (kIadR rfl rfl rfl (by omega) (kLoadD rfl rfl (kAlloc rfl rfl (kMem [(40960, ⟨2, 0, .box [.nil 1, .d _, .d _, .d _, .nil 1, .nil 1, .nil 1]⟩)] [(9, .c (.ptr 40960 2 0)), (17, .g [.d _, .d _, .d _, .d _, .d _, .d _, .d _])] [] ⟨rfl, trivial⟩ ⟨rfl, rfl, trivial⟩ rfl (kStoreP rfl rfl rfl rfl (kDone (kSeq (kReg (kFadP rfl rfl (kLoadP rfl rfl rfl (kLoadP rfl rfl rfl (kCallD (ok_impl_Name_is _ _ (by first | assumption | omega | solve_by_elim [List.getElem_mem] | (simp only [szOut] at *; omega)) (by first | assumption | omega | solve_by_elim [List.getElem_mem] | (simp only [szOut] at *; omega))) ⟨⟨⟨rfl, trivial⟩, Nat.le_of_ble_eq_true rfl⟩, ⟨⟨rfl, trivial⟩, Nat.le_of_ble_eq_true rfl⟩, trivial⟩ rfl rfl rfl rfl rfl (kMovC rfl (kGP rfl (fun g1 => kGT rfl (kMovC rfl (kGT rfl (kBin rfl rfl rfl (kMem [(40960, ⟨2, 0, .box [.d _, .d _, .d _, .d _, .d _, .d _, .d _]⟩)] [(24, .c (.d _)), (9, .c (.ptr 40960 2 0)), (2, .c (.d _)), (22, .c (.d _))] [] ⟨rfl, trivial⟩ ⟨rfl, rfl, rfl, rfl, trivial⟩ rfl (kGT rfl (kMovC rfl (kGP rfl (fun g2 => (by omega)) (fun g2 => kGT rfl (kFadP rfl rfl (kGT rfl (kLoadP rfl rfl rfl (kGT rfl (kMovC rfl (kGT rfl (kBin rfl rfl rfl (kGT rfl (kPickF rfl (kMovC rfl (kPickT rfl (kMovC rfl (kDone (kCondP rfl (fun g3 => kReg (kMovC rfl (kLoadP rfl rfl rfl (kMem [(45056, ⟨1, 0, .arr false _⟩)] [(33, .g [.d _, .d _, .d _, .d _, .d _, .d _, .d _]), (32, .c (.arr 45056 1))] [] ⟨rfl, trivial⟩ ⟨rfl, rfl, trivial⟩ rfl (kLit rfl rfl rfl rfl (kAppRec rfl rfl rfl rfl rfl rfl rfl (by omega) (kMovC rfl (kDone (kBk (kReg (kAdd rfl rfl (by omega) (kMovC rfl (kDone ?_))))))))))))) (fun g3 => (by omega))))))))))))))))))))))))) (fun g1 => (by (simp [*] at g1)))))))))))))))))))))) (fun g0 => (by omega)))))))
          refine kInv ⟨⟨i + 1, by omega⟩, by simp only; omega, ?_⟩
          simp only [hst]
          exact .normA
        · have hst := no (by simp [p2, p3])
          refine kSeq (kReg (kBin rfl rfl rfl (kDone (kSeq (kCondP rfl (fun g0 => kSkip (kSeq (kBlock (kSeq (kReg (kIadR rfl rfl rfl (by omega) (kLoadD rfl rfl (kAlloc rfl rfl (kMem [(40960, ⟨2, 0, .box [.nil 1, .d _, .d _, .d _, .nil 1, .nil 1, .nil 1]⟩)] [(9, .c (.ptr 40960 2 0)), (17, .g [.d _, .d _, .d _, .d _, .d _, .d _, .d _])] [] ⟨rfl, trivial⟩ ⟨rfl, rfl, trivial⟩ rfl (kStoreP rfl rfl rfl rfl (kDone (kSeq (kReg (kFadP rfl rfl (kLoadP rfl rfl rfl (kLoadP rfl rfl rfl (kCallD (ok_impl_Name_is _ _ (by first | assumption | omega | solve_by_elim [List.getElem_mem] | (simp only [szOut] at *; omega)) (by first | assumption | omega | solve_by_elim [List.getElem_mem] | (simp only [szOut] at *; omega))) ⟨⟨⟨rfl, trivial⟩, Nat.le_of_ble_eq_true rfl⟩, ⟨⟨rfl, trivial⟩, Nat.le_of_ble_eq_true rfl⟩, trivial⟩ rfl rfl rfl rfl rfl (kMovC rfl (kGP rfl (fun g1 => kGT rfl (kMovC rfl (kGT rfl (kBin rfl rfl rfl (kMem [(40960, ⟨2, 0, .box [.d _, .d _, .d _, .d _, .d _, .d _, .d _]⟩)] [(24, .c (.d _)), (9, .c (.ptr 40960 2 0)), (2, .c (.d _)), (22, .c (.d _))] [] ⟨rfl, trivial⟩ ⟨rfl, rfl, rfl, rfl, trivial⟩ rfl (kGT rfl (kMovC rfl (kGP rfl (fun g2 => (by omega)) (fun g2 => kGT rfl (kFadP rfl rfl (kGT rfl (kLoadP rfl rfl rfl (kGT rfl (kMovC rfl (kGT rfl (kBin rfl rfl rfl (kGT rfl (kPickF rfl (kMovC rfl (kPickT rfl (kMovC rfl (kDone (kCondP rfl (fun g3 => (by omega)) (fun g3 => kSkip (kBk (kReg (kAdd rfl rfl (by omega) (kMovC rfl (kDone ?_))))))))))))))))))))))))))))) (fun g1 => (by (simp [*] at g1)))))))))))))))))))))) (fun g0 => (by omega)))))))
          refine kInv ⟨⟨i + 1, by omega⟩, by simp only; omega, ?_⟩
          simp only [hst]
          exact .normA
    · have hst := no (by simp [p1])
      refine kSeq (kReg (kBin rfl rfl rfl (kDone (kSeq (kCondP rfl (fun g0 => kSkip (kSeq (kBlock (kSeq (kReg (kIadR rfl rfl rfl (by omega) (kLoadD rfl rfl (kAlloc rfl rfl (kMem [(40960, ⟨2, 0, .box [.nil 1, .d _, .d _, .d _, .nil 1, .nil 1, .nil 1]⟩)] [(9, .c (.ptr 40960 2 0)), (17, .g [.d _, .d _, .d _, .d _, .d _, .d _, .d _])] [] ⟨rfl, trivial⟩ ⟨rfl, rfl, trivial⟩ rfl (kStoreP rfl rfl rfl rfl (kDone (kSeq (kReg (kFadP rfl rfl (kLoadP rfl rfl rfl (kLoadP rfl rfl rfl (kCallD (ok_impl_Name_is _ _ (by first | assumption | omega | solve_by_elim [List.getElem_mem] | (simp only [szOut] at *; omega)) (by first | assumption | omega | solve_by_elim [List.getElem_mem] | (simp only [szOut] at *; omega))) ⟨⟨⟨rfl, trivial⟩, Nat.le_of_ble_eq_true rfl⟩, ⟨⟨rfl, trivial⟩, Nat.le_of_ble_eq_true rfl⟩, trivial⟩ rfl rfl rfl rfl rfl (kMovC rfl (kGP rfl (fun g1 => (by (simp [*] at g1))) (fun g1 => kGF rfl (kGF rfl (kMem [(40960, ⟨2, 0, .box [.d _, .d _, .d _, .d _, .d _, .d _, .d _]⟩)] [(24, .c (.un)), (9, .c (.ptr 40960 2 0)), (2, .c (.d _)), (22, .c (.d _))] [] ⟨rfl, trivial⟩ ⟨rfl, rfl, rfl, rfl, trivial⟩ rfl (kGF rfl (kGU rfl (kGU rfl (kGU rfl (kGU rfl (kGF rfl (kPickF rfl (kMovC rfl (kDone (kCondF rfl (kSkip (kBk (kReg (kAdd rfl rfl (by omega) (kMovC rfl (kDone ?_)))))))))))))))))))))))))))))))))))))) (fun g0 => (by omega)))))))
      refine kInv ⟨⟨i + 1, by omega⟩, by simp only; omega, ?_⟩
      simp only [hst]
      exact .normA
  · refine kSeq (kReg (kBin rfl rfl rfl (kDone (kSeq (kCondP rfl (fun g0 => (by omega)) (fun g0 => kExit (kExC (kExI (kExB (kSeq (kReg (kMovC rfl (kMovC rfl (kDone (kMem [(45056, ⟨1, 0, .arr false _⟩)] [(6, .c (.arr 45056 1))] [] ⟨rfl, trivial⟩ ⟨rfl, trivial⟩ rfl (kRet (endRetA (ra := [.one (.d _)]) rfl ?_)))))))))))))))))
    rw [show i = z.rrs.length by omega, List.take_length]

def c_impl_ZoneOk : C := (.seq (.reg false (.op 0 [] (some 1) none false (.box 1 (.t 0))
  (.op 1 [] (some 2) none false (.mov (.v (.bool false)))
  .done)))
 (.seq (.seq (.reg false (.op 0 [] (some 6) none false (.fad (.t 1) 0)
  (.op 1 [] (some 7) none false (.load (some 1) (.t 6))
  (.op 2 [] (some 8) none false (.call 8 72 [(.t 7)])
  (.op 3 [] (some 9) none false (.un .not (.t 8))
  (.op 4 [] (some 10) none false (.mov (.t 9))
  (.op 5 [] (some 11) (some (10, false)) false (.fad (.t 1) 1)
  (.op 6 [] (some 12) (some (10, false)) false (.load none (.t 11))
  (.op 7 [] (some 13) (some (10, false)) false (.len (.t 12))
  (.op 8 [] (some 14) (some (10, false)) false (.bin .gtr (.t 13) (.v (.int .i64 60)))
  (.op 9 [] (some 15) none false (.pick (.t 10) (.v (.bool true)) (.t 14))
  (.op 10 [] (some 16) none false (.mov (.t 15))
  (.op 11 [] (some 17) (some (16, false)) false (.fad (.t 1) 1)
  (.op 12 [] (some 18) (some (16, false)) false (.load none (.t 17))
  (.op 13 [] (some 19) (some (16, false)) false (.call 19 87 [(.t 18), (.fn 88)])
  (.op 14 [] (some 20) (some (16, false)) false (.un .not (.t 19))
  (.op 15 [] (some 21) none false (.pick (.t 16) (.v (.bool true)) (.t 20))
  .done)))))))))))))))))
 (.cond (.t 21)
 (.seq (.reg false (.op 0 [] (some 2) none false (.mov (.v (.bool false)))
  .done))
 .ret)
 .skip))
 (.seq (.reg false (.op 0 [] (some 3) none false (.mov (.v (.int .i64 0)))
  .done))
 (.seq (.seq (.reg false (.op 0 [] (some 22) none false (.fad (.t 1) 1)
  (.op 1 [] (some 23) none false (.load none (.t 22))
  (.op 2 [] (some 24) none false (.len (.t 23))
  (.op 3 [] (some 25) none false (.mov (.v (.int .i64 0)))
  .done)))))
 (.block 0 (.loop (.seq (.reg false (.op 0 [] (some 26) none false (.bin .lss (.t 25) (.t 24))
  .done))
 (.seq (.cond (.t 26)
 .skip
 (.exit 0))
 (.seq (.block 1 (.seq (.reg false (.op 0 [] (some 27) none false (.mov (.t 25))
  (.op 1 [] (some 28) none false (.iad 7 (.t 23) (.t 25))
  (.op 2 [] (some 29) none false (.load (some 7) (.t 28))
  (.op 3 [] (some 5) none false (.alloc 5 [(.n 1), (.v (.int .i64 0)), (.v (.int .i64 0)), (.v (.int .i64 0)), (.n 1), (.n 1), (.n 1)])
  (.op 4 [] (some 4) none false (.mov (.t 27))
  (.op 5 [] none none false (.store (some 7) (.t 5) (.t 29))
  .done)))))))
 (.seq (.seq (.reg true (.op 0 [] (some 30) none true (.mov (.t 4))
  (.op 1 [] (some 31) none true (.bin .gtr (.t 30) (.v (.int .i64 0)))
  (.op 2 [] (some 32) none true (.mov (.t 31))
  (.op 3 [] (some 33) (some (32, true)) true (.fad (.t 1) 1)
  (.op 4 [] (some 34) (some (32, true)) true (.load none (.t 33))
  (.op 5 [] (some 35) (some (32, true)) true (.mov (.t 4))
  (.op 6 [] (some 36) (some (32, true)) true (.bin .sub (.t 35) (.v (.int .i64 1)))
  (.op 7 [] (some 37) (some (32, true)) true (.iad 7 (.t 34) (.t 36))
  (.op 8 [] (some 38) (some (32, true)) true (.load (some 7) (.t 37))
  (.op 9 [] (some 39) (some (32, true)) true (.load (some 7) (.t 5))
  (.op 10 [8, 4, 9] (some 40) (some (32, true)) false (.call 40 89 [(.t 38), (.t 39)])
  (.op 11 [] (some 41) (some (32, true)) true (.bin .geq (.t 40) (.v (.int .i64 0)))
  (.op 12 [] (some 42) none true (.pick (.t 32) (.t 41) (.v (.bool false)))
  (.op 13 [] (some 43) none true (.mov (.t 42))
  (.op 14 [] (some 44) (some (43, false)) true (.fad (.t 5) 0)
  (.op 15 [] (some 45) (some (43, false)) true (.load (some 1) (.t 44))
  (.op 16 [] (some 46) (some (43, false)) true (.fad (.t 1) 0)
  (.op 17 [] (some 47) (some (43, false)) true (.load (some 1) (.t 46))
  (.op 18 [15, 8, 9, 4, 17] (some 48) (some (43, false)) false (.call 48 90 [(.t 45), (.t 47)])
  (.op 19 [] (some 49) (some (43, false)) true (.un .not (.t 48))
  (.op 20 [] (some 50) none true (.pick (.t 43) (.v (.bool true)) (.t 49))
  .done))))))))))))))))))))))
 (.cond (.t 50)
 (.seq (.reg false (.op 0 [] (some 2) none false (.mov (.v (.bool false)))
  .done))
 .ret)
 .skip))
 (.seq (.seq (.reg false (.op 0 [] (some 51) none false (.fad (.t 5) 1)
  (.op 1 [] (some 52) none false (.load none (.t 51))
  (.op 2 [] (some 53) none false (.bin .eql (.t 52) (.v (.int .i64 6)))
  .done))))
 (.cond (.t 53)
 (.seq (.reg false (.op 0 [] (some 54) none false (.mov (.t 3))
  (.op 1 [] (some 55) none false (.bin .add (.t 54) (.v (.int .i64 1)))
  (.op 2 [] (some 3) none false (.mov (.t 55))
  .done))))
 (.seq (.reg false (.op 0 [] (some 56) none false (.fad (.t 5) 0)
  (.op 1 [] (some 57) none false (.load (some 1) (.t 56))
  (.op 2 [] (some 58) none false (.fad (.t 1) 0)
  (.op 3 [] (some 59) none false (.load (some 1) (.t 58))
  (.op 4 [] (some 60) none false (.call 60 91 [(.t 57), (.t 59)])
  (.op 5 [] (some 61) none false (.un .not (.t 60))
  .done)))))))
 (.cond (.t 61)
 (.seq (.reg false (.op 0 [] (some 2) none false (.mov (.v (.bool false)))
  .done))
 .ret)
 .skip)))
 .skip))
 (.seq (.reg false (.op 0 [] (some 62) none false (.fad (.t 5) 1)
  (.op 1 [] (some 63) none false (.load none (.t 62))
  (.op 2 [] (some 64) none false (.bin .eql (.t 63) (.v (.int .i64 5)))
  (.op 3 [] (some 65) none false (.mov (.t 64))
  (.op 4 [] (some 66) (some (65, true)) false (.load (some 2) (.t 1))
  (.op 5 [] (some 67) (some (65, true)) false (.fad (.t 5) 0)
  (.op 6 [] (some 68) (some (65, true)) false (.load (some 1) (.t 67))
  (.op 7 [] (some 69) (some (65, true)) false (.call 69 85 [(.t 66), (.t 68), (.v (.int .i64 255))])
  (.op 8 [] (some 70) (some (65, true)) false (.len (.t 69))
  (.op 9 [] (some 71) (some (65, true)) false (.bin .gtr (.t 70) (.v (.int .i64 1)))
  (.op 10 [] (some 72) none false (.pick (.t 65) (.t 71) (.v (.bool false)))
  .done))))))))))))
 (.cond (.t 72)
 (.seq (.reg false (.op 0 [] (some 2) none false (.mov (.v (.bool false)))
  .done))
 .ret)
 .skip))))))
 (.reg false (.op 0 [] (some 73) none false (.bin .add (.t 25) (.v (.int .i64 1)))
  (.op 1 [] (some 25) none false (.mov (.t 73))
  .done)))))))))
 (.seq (.reg false (.op 0 [] (some 74) none false (.mov (.t 3))
  (.op 1 [] (some 75) none false (.bin .eql (.t 74) (.v (.int .i64 1)))
  (.op 2 [] (some 2) none false (.mov (.t 75))
  .done))))
 .ret)))))
theorem dg_impl_ZoneOk : Tryz.f19.body.bind (digC Tryz.prog Tryz.f19.ntmps []) = some c_impl_ZoneOk := by kernel_rfl
theorem rs_impl_ZoneOk : resSlots Tryz.prog Tryz.f19 = some [.s 2] := by kernel_rfl
theorem ok_impl_ZoneOk (z : Zone) (hs : SmallZ z) :
    FnOK Tryz.prog 19 [.agg (z.cells.map .d)] (fun ra _ => ra = [.one (.d (.sc (.bool (zoneOk z))))]) := by
  refine FnOK.ofK Tryz.func19 (by kernel_rfl) dg_impl_ZoneOk rs_impl_ZoneOk rfl rfl ?_
  unfold c_impl_ZoneOk
  have o1 := hs.o.len
  have o2 := hs.o.mem
  have h1 := hs.r.len
  have hm := hs.r.mem
  have hr := hs.r
  cases a1 : nameOk z.origin
  · rw [show zoneOk z = false by unfold zoneOk; rw [a1]; rfl]
    refine kSeq (kReg (kBox rfl rfl rfl rfl rfl (kMovC rfl (kDone (kSeq (kSeq (kReg (kFadP rfl rfl (kLoadP rfl rfl rfl (kCallD (ok_impl_NameOk _ (by first | assumption | omega | solve_by_elim [List.getElem_mem] | (simp only [szOut] at *; omega)) (by first | assumption | omega | solve_by_elim [List.getElem_mem] | (simp only [szOut] at *; omega))) ⟨⟨⟨rfl, trivial⟩, Nat.le_of_ble_eq_true rfl⟩, trivial⟩ rfl rfl rfl rfl rfl (kUn rfl rfl (kMovC rfl (kGN rfl (fun g0 => kGF rfl (kGF rfl (kMem [(8192, ⟨1, 0, .box [.d _, .d _]⟩)] [(12, .c (.un)), (13, .c (.un)), (10, .c (.d _)), (14, .c (.un)), (15, .c (.un)), (1, .c (.ptr 8192 1 0)), (17, .c (.un)), (18, .c (.un)), (19, .c (.un)), (16, .c (.un)), (20, .c (.un))] [] ⟨rfl, trivial⟩ ⟨rfl, rfl, rfl, rfl, rfl, rfl, rfl, rfl, rfl, rfl, rfl, trivial⟩ rfl (kGF rfl (kGF rfl (kPickT rfl (kMovC rfl (kMovC rfl (kGF rfl (kGF rfl (kGF rfl (kGF rfl (kPickT rfl (kMovC rfl (kDone (kCondT rfl (kSeq (kReg (kMovC rfl (kDone (kRet (endRetA (ra := [.one (.d _)]) rfl rfl)))))))))))))))))))))) (fun g0 => (by (simp [*] at g0))))))))))))))))
  by_cases a2 : z.rrs.length ≤ 60
  case neg =>
    rw [show zoneOk z = false by unfold zoneOk; rw [decide_eq_false a2]; simp]
    refine kSeq (kReg (kBox rfl rfl rfl rfl rfl (kMovC rfl (kDone (kSeq (kSeq (kReg (kFadP rfl rfl (kLoadP rfl rfl rfl (kCallD (ok_impl_NameOk _ (by first | assumption | omega | solve_by_elim [List.getElem_mem] | (simp only [szOut] at *; omega)) (by first | assumption | omega | solve_by_elim [List.getElem_mem] | (simp only [szOut] at *; omega))) ⟨⟨⟨rfl, trivial⟩, Nat.le_of_ble_eq_true rfl⟩, trivial⟩ rfl rfl rfl rfl rfl (kUn rfl rfl (kMovC rfl (kGN rfl (fun g0 => (by (simp [*] at g0))) (fun g0 => kGT rfl (kFadP rfl rfl (kGT rfl (kLoadP rfl rfl rfl (kMem [(8192, ⟨1, 0, .box [.d _, .d _]⟩)] [(12, .c (.d _)), (13, .c (.un)), (10, .c (.d _)), (14, .c (.un)), (15, .c (.un)), (1, .c (.ptr 8192 1 0)), (17, .c (.un)), (18, .c (.un)), (19, .c (.un)), (16, .c (.un)), (20, .c (.un))] [] ⟨rfl, trivial⟩ ⟨rfl, rfl, rfl, rfl, rfl, rfl, rfl, rfl, rfl, rfl, rfl, trivial⟩ rfl (kGT rfl (kLenR rfl rfl (kGT rfl (kBin rfl rfl rfl (kPickF rfl (kMovC rfl (kMovC rfl (kGP rfl (fun g1 => kGF rfl (kGF rfl (kGF rfl (kGF rfl (kPickT rfl (kMovC rfl (kDone (kCondT rfl (kSeq (kReg (kMovC rfl (kDone (kRet (endRetA (ra := [.one (.d _)]) rfl rfl)))))))))))))) (fun g1 => (by omega))))))))))))))))))))))))))))
  refine kSeq (kReg (kBox rfl rfl rfl rfl rfl (kMovC rfl (kDone (kSeq (kSeq (kReg (kFadP rfl rfl (kLoadP rfl rfl rfl (kCallD (ok_impl_NameOk _ (by first | assumption | omega | solve_by_elim [List.getElem_mem] | (simp only [szOut] at *; omega)) (by first | assumption | omega | solve_by_elim [List.getElem_mem] | (simp only [szOut] at *; omega))) ⟨⟨⟨rfl, trivial⟩, Nat.le_of_ble_eq_true rfl⟩, trivial⟩ rfl rfl rfl rfl rfl (kUn rfl rfl (kMovC rfl (kGN rfl (fun g0 => (by (simp [*] at g0))) (fun g0 => kGT rfl (kFadP rfl rfl (kGT rfl (kLoadP rfl rfl rfl (kMem [(8192, ⟨1, 0, .box [.d _, .d _]⟩)] [(12, .c (.d _)), (13, .c (.un)), (10, .c (.d _)), (14, .c (.un)), (15, .c (.un)), (1, .c (.ptr 8192 1 0)), (17, .c (.un)), (18, .c (.un)), (19, .c (.un)), (16, .c (.un)), (20, .c (.un))] [] ⟨rfl, trivial⟩ ⟨rfl, rfl, rfl, rfl, rfl, rfl, rfl, rfl, rfl, rfl, rfl, trivial⟩ rfl (kGT rfl (kLenR rfl rfl (kGT rfl (kBin rfl rfl rfl (kPickF rfl (kMovC rfl (kMovC rfl (kGP rfl (fun g1 => (by omega)) (fun g1 => kGT rfl (kFadP rfl rfl (kGT rfl (kLoadP rfl rfl rfl (kGT rfl ?_)))))))))))))))))))))))))))))))
  refine kCallD (ok_impl_all_impl_Rr z.rrs SmallR rrOk h1 hm) ⟨rfl, ⟨rfl, rfl, ⟨_, Tryz.func88, rfl, by kernel_rfl⟩, ?_⟩, trivial⟩ rfl rfl rfl rfl rfl ?_
  · rintro _ R ⟨x, h, rfl, rfl⟩
    exact ok_impl_RrOk x h
  cases a3 : z.rrs.all rrOk
  · rw [show zoneOk z = false by unfold zoneOk; rw [a3]; simp]
    refine kGT rfl (kUn rfl rfl (kPickF rfl (kMovC rfl (kDone (kCondT rfl (kSeq (kReg (kMovC rfl (kDone (kRet (endRetA (ra := [.one (.d _)]) rfl rfl)))))))))))
  refine kGT rfl (kUn rfl rfl (kPickF rfl (kMovC rfl (kDone (kCondF rfl (kSkip (kSeq (kReg (kMovC rfl (kDone (kSeq (kSeq (kReg (kMem [(8192, ⟨1, 0, .box [.d _, .d _]⟩)] [(1, .c (.ptr 8192 1 0)), (22, .c (.un)), (23, .c (.un))] [] ⟨rfl, trivial⟩ ⟨rfl, rfl, rfl, trivial⟩ rfl (kFadP rfl rfl (kLoadP rfl rfl rfl (kLenR rfl rfl (kMovC rfl (kDone (kBlock ?_))))))))))))))))))))
  refine kLoop (α := { i : Nat // i ≤ z.rrs.length ∧ (List.range i).all (zAt z) = true }) (fun y => ⟨tabSl [(1, .c (.ptr (rid 1 0) 1 0)), (3, .i (zTops (z.rrs.take y.1))), (23, .dv (encR z.rrs)), (24, .i z.rrs.length), (25, .i y.1)], obTab 1 [(rid 1 0, ⟨1, 0, .box (z.cells.map .d)⟩)], []⟩) (fun y => z.rrs.length - y.1) ⟨0, by simp⟩ .normA ?_
  rintro ⟨i, hi, hz⟩
  simp only
  have ht := zTops_le z.rrs i
  rcases Nat.lt_or_ge i z.rrs.length with hlt | hge
  · have hbi := hm _ (List.getElem_mem hlt)
    have n1 := hbi.n.len
    have n2 := hbi.n.mem
    have hts := zTops_succ z.rrs i hlt
    have hq := zAt_eq hlt
    rw [aloneR_eq hlt] at hq
    have hset : (setOf z.rrs z.rrs[i].name 255).length ≤ z.rrs.length := List.length_filter_le _ _
    refine kSeq ?_
    refine kReg (kBin rfl rfl rfl (kDone (kSeq (kCondP rfl (fun g0 => kSkip (kSeq (kBlock (kSeq (kReg (kMovC rfl (kIadR rfl rfl rfl (by omega) (kLoadD rfl rfl (kAlloc rfl rfl (kMovC rfl (kMem [(24576, ⟨2, 0, .box [.nil 1, .d _, .d _, .d _, .nil 1, .nil 1, .nil 1]⟩)] [(5, .c (.ptr 24576 2 0)), (29, .g [.d _, .d _, .d _, .d _, .d _, .d _, .d _])] [] ⟨rfl, trivial⟩ ⟨rfl, rfl, trivial⟩ rfl (kStoreP rfl rfl rfl rfl (kDone (kSeq (kSeq (kRegD (kMovC rfl (kBin rfl rfl rfl (kMovC rfl (kGP rfl (fun g1 => kGT rfl (kFadP rfl rfl (kGT rfl (kLoadP rfl rfl rfl (kGT rfl (kMovC rfl (kGT rfl (kDif rfl rfl (by omega) (kGT rfl (kIadT rfl rfl (by omega) (kMem [(24576, ⟨2, 0, .box [.d _, .d _, .d _, .d _, .d _, .d _, .d _]⟩), (8192, ⟨1, 0, .box [.d _, .d _]⟩)] [(5, .c (.ptr 24576 2 0)), (32, .c (.d _)), (1, .c (.ptr 8192 1 0))] [8192] ⟨rfl, rfl, trivial⟩ ⟨rfl, rfl, rfl, trivial⟩ rfl (kGT rfl (kLoadD rfl rfl (kGT rfl (kLoadP rfl rfl rfl (kRelF rfl rfl (kGT rfl (kCallD (ok_impl_Rr_compare _ _ (by first | assumption | omega | solve_by_elim [List.getElem_mem] | (simp only [szOut] at *; omega)) (by first | assumption | omega | solve_by_elim [List.getElem_mem] | (simp only [szOut] at *; omega))) ⟨⟨⟨rfl, rfl, rfl, rfl, rfl, rfl, rfl, trivial⟩, Nat.le_of_ble_eq_true rfl⟩, ⟨⟨rfl, rfl, rfl, rfl, rfl, rfl, rfl, trivial⟩, Nat.le_of_ble_eq_true rfl⟩, trivial⟩ rfl rfl rfl rfl rfl (kGT rfl (kBin rfl rfl rfl (kPickT rfl (kMovC rfl (kMovC rfl (kGP rfl (fun g2 => kGF rfl (kGF rfl (kGF rfl (kGF rfl (kRelF rfl rfl (kGF rfl (kGF rfl (kPickT rfl (kMovC rfl (kDone (kH (kCondT rfl (kSeq (kReg (kMovC rfl (kDone (kRet (endRetA (ra := [.one (.d _)]) rfl ?_)))))))))))))))))) (fun g2 => kGT rfl (kFadP rfl rfl (kGT rfl (kLoadP rfl rfl rfl (kGT rfl (kFadP rfl rfl (kGT rfl (kLoadP rfl rfl rfl (kRelF rfl rfl (kGT rfl (kCallD (ok_impl_Name_under _ _ (by first | assumption | omega | solve_by_elim [List.getElem_mem] | (simp only [szOut] at *; omega)) (by first | assumption | omega | solve_by_elim [List.getElem_mem] | (simp only [szOut] at *; omega))) ⟨⟨⟨rfl, trivial⟩, Nat.le_of_ble_eq_true rfl⟩, ⟨⟨rfl, trivial⟩, Nat.le_of_ble_eq_true rfl⟩, trivial⟩ rfl rfl rfl rfl rfl (kGT rfl (kUn rfl rfl (kPickF rfl (kMovC rfl (kDone (kH (kCondN rfl (fun g3 => kSeq (kReg (kMovC rfl (kDone (kRet (endRetA (ra := [.one (.d _)]) rfl ?_)))))) (fun g3 => kSkip (kSeq (kSeq (kReg (kFadP rfl rfl (kLoadP rfl rfl rfl (kBin rfl rfl rfl (kDone (kCondP rfl (fun g4 => kSeq (kReg (kMovC rfl (kAdd rfl rfl (by omega) (kMovC rfl (kDone (kSeq (kReg (kFadP rfl rfl (kLoadP rfl rfl rfl (kFadP rfl rfl (kLoadP rfl rfl rfl (kCallD (ok_impl_Name_is _ _ (by first | assumption | omega | solve_by_elim [List.getElem_mem] | (simp only [szOut] at *; omega)) (by first | assumption | omega | solve_by_elim [List.getElem_mem] | (simp only [szOut] at *; omega))) ⟨⟨⟨rfl, trivial⟩, Nat.le_of_ble_eq_true rfl⟩, ⟨⟨rfl, trivial⟩, Nat.le_of_ble_eq_true rfl⟩, trivial⟩ rfl rfl rfl rfl rfl (kUn rfl rfl (kDone (kCondN rfl (fun g5 => kSeq (kReg (kMovC rfl (kDone (kRet (endRetA (ra := [.one (.d _)]) rfl ?_)))))) (fun g5 => kSkip (kSeq (kReg (kMem [(24576, ⟨2, 0, .box [.d _, .d _, .d _, .d _, .d _, .d _, .d _]⟩), (8192, ⟨1, 0, .box [.d _, .d _]⟩)] [(5, .c (.ptr 24576 2 0)), (1, .c (.ptr 8192 1 0))] [] ⟨rfl, rfl, trivial⟩ ⟨rfl, rfl, trivial⟩ rfl (kFadP rfl rfl (kLoadP rfl rfl rfl (kBin rfl rfl rfl (kMovC rfl (kGP rfl (fun g6 => (by omega)) (fun g6 => kGF rfl (kGF rfl (kGF rfl (kGF rfl (kGF rfl (kGF rfl (kPickF rfl (kMovC rfl (kDone (kCondF rfl (kSkip (kBk (kReg (kAdd rfl rfl (by omega) (kMovC rfl (kDone ?_))))))))))))))))))))))))))))))))))))))))) (fun g4 => kSkip (kSeq (kReg (kFadP rfl rfl (kLoadP rfl rfl rfl (kBin rfl rfl rfl (kMovC rfl (kGP rfl (fun g7 => kGT rfl (kLoadP rfl rfl rfl (kMem [(24576, ⟨2, 0, .box [.d _, .d _, .d _, .d _, .d _, .d _, .d _]⟩)] [(5, .c (.ptr 24576 2 0)), (66, .g [.d _, .d _]), (65, .c (.d _))] [] ⟨rfl, trivial⟩ ⟨rfl, rfl, rfl, trivial⟩ rfl (kGT rfl (kFadP rfl rfl (kGT rfl (kLoadP rfl rfl rfl (kGT rfl (kCallD2 (ok_impl_Zone_set _ _ _ (by first | assumption | omega | solve_by_elim [List.getElem_mem] | (simp only [szOut] at *; omega)) (by first | assumption | omega | solve_by_elim [List.getElem_mem] | (simp only [szOut] at *; omega))) ⟨⟨⟨rfl, rfl, trivial⟩, Nat.le_of_ble_eq_true rfl⟩, ⟨⟨rfl, trivial⟩, Nat.le_of_ble_eq_true rfl⟩, rfl, trivial⟩ rfl rfl rfl rfl (kGT rfl (kLenR rfl rfl (kGT rfl (kBin rfl rfl rfl (kPickT rfl (kMovC rfl (kDone (kCondP rfl (fun g8 => kSeq (kReg (kMovC rfl (kDone (kRet (endRetA (ra := [.one (.d _)]) rfl ?_)))))) (fun g8 => kSkip (kBk (kReg (kAdd rfl rfl (by omega) (kMovC rfl (kDone ?_))))))))))))))))))))))) (fun g7 => kGF rfl (kGF rfl (kGF rfl (kGF rfl (kGF rfl (kGF rfl (kPickF rfl (kMovC rfl (kDone (kCondF rfl (kSkip (kBk (kReg (kAdd rfl rfl (by omega) (kMovC rfl (kDone ?_))))))))))))))))))))))))))))))))))))))))))))))))))))))))))))))))))))))))))) (fun g1 => kGF rfl (kGF rfl (kGF rfl (kGF rfl (kGF rfl (kGF rfl (kMem [(24576, ⟨2, 0, .box [.d _, .d _, .d _, .d _, .d _, .d _, .d _]⟩), (8192, ⟨1, 0, .box [.d _, .d _]⟩)] [(5, .c (.ptr 24576 2 0)), (38, .c (.un)), (32, .c (.d _)), (1, .c (.ptr 8192 1 0))] [] ⟨rfl, rfl, trivial⟩ ⟨rfl, rfl, rfl, rfl, trivial⟩ rfl (kGF rfl (kRelF rfl rfl (kGF rfl (kGF rfl (kPickF rfl (kMovC rfl (kMovC rfl (kGT rfl (kFadP rfl rfl (kGT rfl (kLoadP rfl rfl rfl (kGT rfl (kFadP rfl rfl (kGT rfl (kLoadP rfl rfl rfl (kRelF rfl rfl (kGT rfl (kCallD (ok_impl_Name_under _ _ (by first | assumption | omega | solve_by_elim [List.getElem_mem] | (simp only [szOut] at *; omega)) (by first | assumption | omega | solve_by_elim [List.getElem_mem] | (simp only [szOut] at *; omega))) ⟨⟨⟨rfl, trivial⟩, Nat.le_of_ble_eq_true rfl⟩, ⟨⟨rfl, trivial⟩, Nat.le_of_ble_eq_true rfl⟩, trivial⟩ rfl rfl rfl rfl rfl (kGT rfl (kUn rfl rfl (kPickF rfl (kMovC rfl (kDone (kH (kCondN rfl (fun g9 => kSeq (kReg (kMovC rfl (kDone (kRet (endRetA (ra := [.one (.d _)]) rfl ?_)))))) (fun g9 => kSkip (kSeq (kSeq (kReg (kFadP rfl rfl (kLoadP rfl rfl rfl (kBin rfl rfl rfl (kDone (kCondP rfl (fun g10 => kSeq (kReg (kMovC rfl (kAdd rfl rfl (by omega) (kMovC rfl (kDone (kSeq (kReg (kFadP rfl rfl (kLoadP rfl rfl rfl (kFadP rfl rfl (kLoadP rfl rfl rfl (kCallD (ok_impl_Name_is _ _ (by first | assumption | omega | solve_by_elim [List.getElem_mem] | (simp only [szOut] at *; omega)) (by first | assumption | omega | solve_by_elim [List.getElem_mem] | (simp only [szOut] at *; omega))) ⟨⟨⟨rfl, trivial⟩, Nat.le_of_ble_eq_true rfl⟩, ⟨⟨rfl, trivial⟩, Nat.le_of_ble_eq_true rfl⟩, trivial⟩ rfl rfl rfl rfl rfl (kUn rfl rfl (kDone (kCondN rfl (fun g11 => kSeq (kReg (kMovC rfl (kDone (kRet (endRetA (ra := [.one (.d _)]) rfl ?_)))))) (fun g11 => kSkip (kSeq (kReg (kMem [(24576, ⟨2, 0, .box [.d _, .d _, .d _, .d _, .d _, .d _, .d _]⟩), (8192, ⟨1, 0, .box [.d _, .d _]⟩)] [(5, .c (.ptr 24576 2 0)), (1, .c (.ptr 8192 1 0))] [] ⟨rfl, rfl, trivial⟩ ⟨rfl, rfl, trivial⟩ rfl (kFadP rfl rfl (kLoadP rfl rfl rfl (kBin rfl rfl rfl (kMovC rfl (kGP rfl (fun g12 => (by omega)) (fun g12 => kGF rfl (kGF rfl (kGF rfl (kGF rfl (kGF rfl (kGF rfl (kPickF rfl (kMovC rfl (kDone (kCondF rfl (kSkip (kBk (kReg (kAdd rfl rfl (by omega) (kMovC rfl (kDone ?_))))))))))))))))))))))))))))))))))))))))) (fun g10 => kSkip (kSeq (kReg (kFadP rfl rfl (kLoadP rfl rfl rfl (kBin rfl rfl rfl (kMovC rfl (kGP rfl (fun g13 => kGT rfl (kLoadP rfl rfl rfl (kMem [(24576, ⟨2, 0, .box [.d _, .d _, .d _, .d _, .d _, .d _, .d _]⟩)] [(5, .c (.ptr 24576 2 0)), (66, .g [.d _, .d _]), (65, .c (.d _))] [] ⟨rfl, trivial⟩ ⟨rfl, rfl, rfl, trivial⟩ rfl (kGT rfl (kFadP rfl rfl (kGT rfl (kLoadP rfl rfl rfl (kGT rfl (kCallD2 (ok_impl_Zone_set _ _ _ (by first | assumption | omega | solve_by_elim [List.getElem_mem] | (simp only [szOut] at *; omega)) (by first | assumption | omega | solve_by_elim [List.getElem_mem] | (simp only [szOut] at *; omega))) ⟨⟨⟨rfl, rfl, trivial⟩, Nat.le_of_ble_eq_true rfl⟩, ⟨⟨rfl, trivial⟩, Nat.le_of_ble_eq_true rfl⟩, rfl, trivial⟩ rfl rfl rfl rfl (kGT rfl (kLenR rfl rfl (kGT rfl (kBin rfl rfl rfl (kPickT rfl (kMovC rfl (kDone (kCondP rfl (fun g14 => kSeq (kReg (kMovC rfl (kDone (kRet (endRetA (ra := [.one (.d _)]) rfl ?_)))))) (fun g14 => kSkip (kBk (kReg (kAdd rfl rfl (by omega) (kMovC rfl (kDone ?_))))))))))))))))))))))) (fun g13 => kGF rfl (kGF rfl (kGF rfl (kGF rfl (kGF rfl (kGF rfl (kPickF rfl (kMovC rfl (kDone (kCondF rfl (kSkip (kBk (kReg (kAdd rfl rfl (by omega) (kMovC rfl (kDone ?_))))))))))))))))))))))))))))))))))))))))))))))))))))))))))))))))))))))))))))))))))))) (fun g0 => (by omega))))))
    all_goals first
      | (refine congrArg (fun z : Bool => [RA.one (RV.d (DV.sc (Value.bool z)))]) (zone_no hlt (Bool.eq_false_iff.2 fun h => ?_)).symm
         rw [hq] at h
         simp only [Bool.and_eq_true, decide_eq_true_eq, Bool.or_eq_true, Bool.not_eq_true', beq_eq_false_iff_ne] at h
         obtain ⟨⟨⟨k1, k2⟩, k3⟩, k4⟩ := h
         first
           | (rw [prevB_pos (by omega) hlt (by omega), decide_eq_true_eq] at k2; omega)
           | (simp_all; done)
           | (simp_all; omega))
      | (have e1 : prevB z.rrs i = true := by
           first
             | (rw [prevB_pos (by omega) hlt (by omega)]; exact decide_eq_true (by omega))
             | (have : i = 0 := by omega
                subst this; exact prevB_zero)
         have e2 : (!(z.rrs[i].ty == 5) || decide ((setOf z.rrs z.rrs[i].name 255).length ≤ 1)) = true := by
           first
             | assumption
             | (simp [*]; done)
             | (rw [decide_eq_true (by omega)]; simp)
         have e3 : (!(z.rrs[i].ty == 6) || decide (z.rrs[i].name = z.origin)) = true := by
           first
             | (simp [*]; done)
             | (simp_all; done)
         first
           | rw [if_pos (by assumption)] at hts
           | rw [if_neg (by assumption)] at hts
         have hz' : zAt z i = true := by rw [hq, e1, e2, e3]; simp [*]
         exact kInv ⟨⟨i + 1, by omega, range_all hz hz'⟩, by simp only; omega, .normA⟩)
  · rw [show zoneOk z = decide (zTops z.rrs = 1) by unfold zoneOk; rw [a1, decide_eq_true a2, a3, show (List.range z.rrs.length).all (zAt z) = true by rw [show z.rrs.length = i by omega]; exact hz]; rfl]
    refine kSeq (kReg (kBin rfl rfl rfl (kDone (kSeq (kCondP rfl (fun g0 => (by omega)) (fun g0 => kExit (kExC (kExI (kExB (kSeq (kReg (kMovC rfl (kBin rfl rfl rfl (kMovC rfl (kDone (kRet (endRetA (ra := [.one (.d _)]) rfl ?_)))))))))))))))))
    rw [show i = z.rrs.length by omega, List.take_length]
    rfl

def c_impl_isAsked : C := (.seq (.reg false (.op 0 [] (some 2) none false (.mov (.v (.bool false)))
  .done))
 (.seq (.reg false (.op 0 [] (some 3) none false (.mov (.t 0))
  (.op 1 [] (some 4) none false (.call 4 155 [(.t 3)])
  (.op 2 [] (some 5) none false (.mov (.t 4))
  (.op 3 [] (some 6) (some (5, false)) false (.mov (.t 0))
  (.op 4 [] (some 7) (some (5, false)) false (.bin .eql (.t 6) (.v (.int .i64 255)))
  (.op 5 [] (some 8) none false (.pick (.t 5) (.v (.bool true)) (.t 7))
  (.op 6 [] (some 2) none false (.mov (.t 8))
  .done))))))))
 .ret))
theorem dg_impl_isAsked : Tryz.f73.body.bind (digC Tryz.prog Tryz.f73.ntmps []) = some c_impl_isAsked := by kernel_rfl
theorem rs_impl_isAsked : resSlots Tryz.prog Tryz.f73 = some [.s 2] := by kernel_rfl
theorem ok_impl_isAsked (t : Int) :
    FnOK Tryz.prog 73 [.one (.d (.sc (.int .i64 t)))] (fun ra _ => ra = [.one (.d (.sc (.bool (askedT t))))]) := by
  refine FnOK.ofK Tryz.func73 (by kernel_rfl) dg_impl_isAsked rs_impl_isAsked rfl rfl ?_
  unfold c_impl_isAsked
  refine kSeq (kReg (kMovC rfl (kDone (kSeq (kReg (kMovC rfl (kCallD (ok_impl_TypeOk _) ⟨rfl, trivial⟩ rfl rfl rfl rfl rfl (kMovC rfl (kGS rfl (fun g0 => kGF rfl (kGF rfl (kPickT rfl (kMovC rfl (kMovC rfl (kDone (kRet (endRetA (ra := [.one (.d _)]) rfl ?_)))))))) (fun g0 => kGT rfl (kMovC rfl (kGT rfl (kBin rfl rfl rfl (kPickF rfl (kMovC rfl (kMovC rfl (kDone (kRet (endRetA (ra := [.one (.d _)]) rfl ?_)))))))))))))))))))
  all_goals simp_all [askedT]

def c_impl_Zone_kept : C := (.seq (.reg false (.op 0 [] (some 2) none false (.box 2 (.t 0))
  (.op 1 [] (some 4) none false (.alloc 4 [(.n 1), (.n 7)])
  .done)))
 (.seq (.reg false (.op 0 [] (some 8) none false (.fad (.t 2) 0)
  (.op 1 [] (some 9) none false (.load (some 1) (.t 8))
  (.op 2 [] (some 10) none false (.build [(.n 1), (.n 7)] [(0, 1, (.t 9))])
  (.op 3 [] (some 5) none false (.alloc 5 [(.n 1), (.n 7)])
  (.op 4 [] none none false (.store (some 2) (.t 5) (.t 10))
  .done))))))
 (.seq (.seq (.reg false (.op 0 [] (some 11) none false (.fad (.t 2) 1)
  (.op 1 [] (some 12) none false (.load none (.t 11))
  (.op 2 [] (some 13) none false (.len (.t 12))
  (.op 3 [] (some 14) none false (.mov (.v (.int .i64 0)))
  .done)))))
 (.block 0 (.loop (.seq (.reg false (.op 0 [] (some 15) none false (.bin .lss (.t 14) (.t 13))
  .done))
 (.seq (.cond (.t 15)
 .skip
 (.exit 0))
 (.seq (.block 1 (.seq (.reg false (.op 0 [] (some 16) none false (.iad 7 (.t 12) (.t 14))
  (.op 1 [] (some 17) none false (.load (some 7) (.t 16))
  (.op 2 [] (some 7) none false (.alloc 7 [(.n 1), (.v (.int .i64 0)), (.v (.int .i64 0)), (.v (.int .i64 0)), (.n 1), (.n 1), (.n 1)])
  (.op 3 [] none none false (.store (some 7) (.t 7) (.t 17))
  .done)))))
 (.seq (.reg false (.op 0 [] (some 18) none false (.mov (.t 1))
  (.op 1 [] (some 19) none false (.load (some 7) (.t 7))
  (.op 2 [] (some 20) none false (.callv 20 (.t 18) [(.t 19)])
  .done))))
 (.cond (.t 20)
 (.reg false (.op 0 [] (some 21) none false (.fad (.t 5) 1)
  (.op 1 [] (some 22) none false (.load none (.t 21))
  (.op 2 [] (some 23) none false (.load (some 7) (.t 7))
  (.op 3 [] (some 24) none false (.lit 24 7 [(.n 1), (.v (.int .i64 0)), (.v (.int .i64 0)), (.v (.int .i64 0)), (.n 1), (.n 1), (.n 1)] 1 [(0, 7, (.t 23))])
  (.op 4 [] (some 25) none false (.app 25 7 120 (.t 22) (.t 24))
  (.op 5 [] (some 26) none false (.fad (.t 5) 1)
  (.op 6 [] none none false (.store none (.t 26) (.t 25))
  .done))))))))
 .skip))))
 (.reg false (.op 0 [] (some 27) none false (.bin .add (.t 14) (.v (.int .i64 1)))
  (.op 1 [] (some 14) none false (.mov (.t 27))
  .done)))))))))
 (.seq (.reg false (.op 0 [] (some 28) none false (.load (some 2) (.t 5))
  (.op 1 [] none none false (.store (some 2) (.t 4) (.t 28))
  .done)))
 .ret))))
theorem dg_impl_Zone_kept : Tryz.f180.body.bind (digC Tryz.prog Tryz.f180.ntmps []) = some c_impl_Zone_kept := by kernel_rfl
theorem rs_impl_Zone_kept : resSlots Tryz.prog Tryz.f180 = some [.m 4 (some 2)] := by kernel_rfl
theorem ok_impl_Zone_kept (z : Zone) (D : Rr → Prop) (g : Rr → Bool) (hs : SmallZ z) (hD : ∀ x ∈ z.rrs, D x) :
    FnOK Tryz.prog 180 [.agg (z.cells.map .d), .one (.fv false (fcAgg D Rr.cells g))] (fun ra _ => ra = [.agg [.d (encBB z.origin), .d (encR (z.rrs.filter g))]]) := by
  refine FnOK.ofK Tryz.func180 (by kernel_rfl) dg_impl_Zone_kept rs_impl_Zone_kept rfl rfl ?_
  unfold c_impl_Zone_kept
  have h1 := hs.r.len
  refine kSeq (kReg (kBox rfl rfl rfl rfl rfl (kAlloc rfl rfl (kDone (kSeq (kReg (kFadP rfl rfl (kLoadP rfl rfl rfl (kBuildG rfl (kAlloc rfl rfl (kMem [(24576, ⟨1, 0, .box [.nil 1, .nil 7]⟩)] [(5, .c (.ptr 24576 1 0)), (10, .g [.d _, .nil 7])] [] ⟨rfl, trivial⟩ ⟨rfl, rfl, trivial⟩ rfl (kStoreP rfl rfl rfl rfl (kDone (kSeq (kSeq (kReg (kFadP rfl rfl (kLoadP rfl rfl rfl (kLenR rfl rfl (kMovC rfl (kDone (kBlock ?_))))))))))))))))))))))
  refine kSub (Sub.nilBox (id := rid 5 0) (id2 := rid 5000 0) (j := 1) rfl rfl rfl (by decide) (by decide)) ?_
  refine kLoop (α := { i : Nat // i ≤ z.rrs.length }) (fun y => ⟨tabSl [(1, .c (.fv false (fcAgg D Rr.cells g))), (4, .c (.ptr (rid 4 0) 1 0)), (5, .c (.ptr (rid 5 0) 1 0)), (12, .dv (encR z.rrs)), (13, .i z.rrs.length), (14, .i y.1)], obTab 1 [(rid 4 0, ⟨1, 0, .box [.nil 1, .nil 7]⟩), (rid 5 0, ⟨1, 0, .box [.d (encBB z.origin), .arr (rid 5000 0) 1]⟩), (rid 5000 0, ⟨1, 0, .arr false (encR ((z.rrs.take y.1).filter g))⟩)], []⟩) (fun y => z.rrs.length - y.1) ⟨0, by simp⟩ .normA ?_
  rintro ⟨i, hi⟩
  simp only
  have hle := filter_len g z.rrs i
  rcases Nat.lt_or_ge i z.rrs.length with hlt | hge
  · refine kSeq (kReg (kBin rfl rfl rfl (kDone (kSeq (kCondP rfl (fun g0 => kSkip (kSeq (kBlock (kSeq (kReg (kIadR rfl rfl rfl (by omega) (kLoadD rfl rfl (kAlloc rfl rfl (kMem [(32768, ⟨2, 0, .box [.nil 1, .d _, .d _, .d _, .nil 1, .nil 1, .nil 1]⟩)] [(7, .c (.ptr 32768 2 0)), (17, .g [.d _, .d _, .d _, .d _, .d _, .d _, .d _])] [] ⟨rfl, trivial⟩ ⟨rfl, rfl, trivial⟩ rfl (kStoreP rfl rfl rfl rfl (kDone (kSeq (kReg (kMovC rfl (kLoadP rfl rfl rfl ?_))))))))))))))) (fun g0 => (by omega)))))))
    refine kCallv rfl ⟨z.rrs[i], hD _ (List.getElem_mem hlt), rfl, rfl⟩ ⟨⟨⟨rfl, rfl, rfl, rfl, rfl, rfl, rfl, trivial⟩, Nat.le_of_ble_eq_true rfl⟩, trivial⟩ (.inr ?_) rfl ?_ rfl ?_
    · rintro _ rfl; rfl
    · rintro _ rfl; exact Nat.le_of_ble_eq_true rfl
    rintro _ rfl
    cases hu : g z.rrs[i]
    · have hst := filter_no hlt hu
      refine kDone (kCondF rfl (kSkip (kBk (kReg (kAdd rfl rfl (by omega) (kMovC rfl (kDone ?_)))))))
      refine kInv ⟨⟨i + 1, by omega⟩, by simp only; omega, ?_⟩
      simp only [hst]
      exact .normA
    · have hst := filter_yes hlt hu
      refine kDone (kCondT rfl (kReg (kFadP rfl rfl (kLoadP rfl rfl rfl (kLoadP rfl rfl rfl (kMem [(20484096, ⟨1, 0, .arr false _⟩), (24576, ⟨1, 0, .box [.d _, .arr 20484096 1]⟩)] [(23, .g [.d _, .d _, .d _, .d _, .d _, .d _, .d _]), (22, .c (.arr 20484096 1)), (5, .c (.ptr 24576 1 0))] [] ⟨rfl, rfl, trivial⟩ ⟨rfl, rfl, rfl, trivial⟩ rfl (kLit rfl rfl rfl rfl (kAppRec rfl rfl rfl rfl rfl rfl rfl (by omega) (kFadP rfl rfl (kStoreP rfl rfl rfl rfl (kDone (kBk (kReg (kAdd rfl rfl (by omega) (kMovC rfl (kDone ?_))))))))))))))))
      refine kInv ⟨⟨i + 1, by omega⟩, by simp only; omega, ?_⟩
      simp only [hst]
      exact .normA
  · refine kSeq (kReg (kBin rfl rfl rfl (kDone (kSeq (kCondP rfl (fun g0 => (by omega)) (fun g0 => kExit (kExC (kExI (kExB (kSeq (kReg (kLoadP rfl rfl rfl (kMem [(20480, ⟨1, 0, .box [.nil 1, .nil 7]⟩), (20484096, ⟨1, 0, .arr false _⟩)] [(4, .c (.ptr 20480 1 0)), (28, .g [.d _, .arr 20484096 1])] [] ⟨rfl, rfl, trivial⟩ ⟨rfl, rfl, trivial⟩ rfl (kStoreP rfl rfl rfl rfl (kDone (kMem [(20480, ⟨1, 0, .box [.d _, .arr 20484096 1]⟩), (20484096, ⟨1, 0, .arr false _⟩)] [(4, .c (.ptr 20480 1 0))] [] ⟨rfl, rfl, trivial⟩ ⟨rfl, trivial⟩ rfl (kRet (endRetA (ra := [.agg [(.d _), (.d _)]]) rfl ?_))))))))))))))))))
    rw [show i = z.rrs.length by omega, List.take_length]

def c_impl_Zone_withoutSet_1 : C := (.seq (.reg false (.op 0 [] (some 3) none false (.box 3 (.t 0))
  (.op 1 [] (some 4) none false (.mov (.v (.bool false)))
  .done)))
 (.seq (.reg false (.op 0 [] (some 5) none false (.fad (.t 3) 1)
  (.op 1 [] (some 6) none false (.load none (.t 5))
  (.op 2 [] (some 7) none false (.bin .eql (.t 6) (.v (.int .i64 6)))
  (.op 3 [] (some 8) none false (.mov (.t 7))
  (.op 4 [] (some 9) (some (8, false)) false (.fad (.t 3) 0)
  (.op 5 [] (some 10) (some (8, false)) false (.load (some 1) (.t 9))
  (.op 6 [] (some 11) (some (8, false)) false (.load (some 1) (.t 1))
  (.op 7 [] (some 12) (some (8, false)) false (.call 12 91 [(.t 10), (.t 11)])
  (.op 8 [] (some 13) (some (8, false)) false (.un .not (.t 12))
  (.op 9 [] (some 14) none false (.pick (.t 8) (.v (.bool true)) (.t 13))
  (.op 10 [] (some 15) none false (.mov (.t 14))
  (.op 11 [] (some 16) (some (15, false)) false (.load none (.t 2))
  (.op 12 [] (some 17) (some (15, false)) false (.bin .neq (.t 16) (.v (.int .i64 255)))
  (.op 13 [] (some 18) (some (15, false)) false (.mov (.t 17))
  (.op 14 [] (some 19) (some (18, true)) false (.fad (.t 3) 1)
  (.op 15 [] (some 20) (some (18, true)) false (.load none (.t 19))
  (.op 16 [] (some 21) (some (18, true)) false (.load none (.t 2))
  (.op 17 [] (some 22) (some (18, true)) false (.bin .neq (.t 20) (.t 21))
  (.op 18 [] (some 23) (some (15, false)) false (.pick (.t 18) (.t 22) (.v (.bool false)))
  (.op 19 [] (some 24) none false (.pick (.t 15) (.v (.bool true)) (.t 23))
  (.op 20 [] (some 4) none false (.mov (.t 24))
  .done))))))))))))))))))))))
 .ret))
theorem dg_impl_Zone_withoutSet_1 : Tryz.f181.body.bind (digC Tryz.prog Tryz.f181.ntmps []) = some c_impl_Zone_withoutSet_1 := by kernel_rfl
theorem rs_impl_Zone_withoutSet_1 : resSlots Tryz.prog Tryz.f181 = some [.s 4] := by kernel_rfl
theorem ok_impl_Zone_withoutSet_1 (r : Rr) (n : List (List UInt8)) (t : Int) (hr : SmallR r) (hn : n.length ≤ 4194304) :
    FnOK Tryz.prog 181 [.agg (r.cells.map .d), .one (.ptr [.d (encBB n)]), .one (.ptr [.d (.sc (.int .i64 t))])] (fun ra _ => ra = [.one (.d (.sc (.bool (!goneR n t r))))]) := by
  refine FnOK.ofK Tryz.func181 (by kernel_rfl) dg_impl_Zone_withoutSet_1 rs_impl_Zone_withoutSet_1 rfl rfl ?_
  unfold c_impl_Zone_withoutSet_1
  have n1 := hr.n.len
  refine kSeq (kReg (kBox rfl rfl rfl rfl rfl (kMovC rfl (kDone (kSeq (kReg (kFadP rfl rfl (kLoadP rfl rfl rfl (kBin rfl rfl rfl (kMovC rfl (kGP rfl (fun g0 => kGF rfl (kGF rfl (kGF rfl (kMem [(16384, ⟨1, 0, .box [.d _, .d _, .d _, .d _, .d _, .d _, .d _]⟩)] [(10, .c (.un)), (11, .c (.un)), (12, .c (.un)), (8, .c (.d _)), (13, .c (.un)), (14, .c (.un)), (16, .c (.un)), (17, .c (.un)), (3, .c (.ptr 16384 1 0)), (19, .c (.un)), (20, .c (.un)), (21, .c (.un)), (18, .c (.un)), (22, .c (.un)), (15, .c (.un)), (23, .c (.un)), (24, .c (.un))] [] ⟨rfl, trivial⟩ ⟨rfl, rfl, rfl, rfl, rfl, rfl, rfl, rfl, rfl, rfl, rfl, rfl, rfl, rfl, rfl, rfl, rfl, trivial⟩ rfl (kGF rfl (kGF rfl (kPickT rfl (kMovC rfl (kMovC rfl (kGF rfl (kGF rfl (kGF rfl (kGU rfl (kGU rfl (kGU rfl (kGU rfl (kGF rfl (kPickT rfl (kMovC rfl (kMovC rfl (kDone (kRet (endRetA (ra := [.one (.d _)]) rfl ?_))))))))))))))))))))))) (fun g0 => kGT rfl (kFadP rfl rfl (kGT rfl (kLoadP rfl rfl rfl (kMem [(16384, ⟨1, 0, .box [.d _, .d _, .d _, .d _, .d _, .d _, .d _]⟩)] [(10, .g [.d _]), (11, .c (.un)), (12, .c (.un)), (8, .c (.d _)), (13, .c (.un)), (14, .c (.un)), (16, .c (.un)), (17, .c (.un)), (3, .c (.ptr 16384 1 0)), (19, .c (.un)), (20, .c (.un)), (21, .c (.un)), (18, .c (.un)), (22, .c (.un)), (15, .c (.un)), (23, .c (.un)), (24, .c (.un))] [] ⟨rfl, trivial⟩ ⟨rfl, rfl, rfl, rfl, rfl, rfl, rfl, rfl, rfl, rfl, rfl, rfl, rfl, rfl, rfl, rfl, rfl, trivial⟩ rfl (kGT rfl (kLoadC rfl rfl (kGT rfl (kCallD (ok_impl_Name_is _ _ (by first | assumption | omega | solve_by_elim [List.getElem_mem] | (simp only [szOut] at *; omega)) (by first | assumption | omega | solve_by_elim [List.getElem_mem] | (simp only [szOut] at *; omega))) ⟨⟨⟨rfl, trivial⟩, Nat.le_of_ble_eq_true rfl⟩, ⟨⟨rfl, trivial⟩, Nat.le_of_ble_eq_true rfl⟩, trivial⟩ rfl rfl rfl rfl rfl (kGT rfl (kUn rfl rfl (kPickF rfl (kMovC rfl (kMovC rfl (kGN rfl (fun g1 => kGF rfl (kGF rfl (kGF rfl (kGU rfl (kGU rfl (kGU rfl (kGU rfl (kGF rfl (kPickT rfl (kMovC rfl (kMovC rfl (kDone (kRet (endRetA (ra := [.one (.d _)]) rfl ?_)))))))))))))) (fun g1 => kGT rfl (kLoadC rfl rfl (kGT rfl (kBin rfl rfl rfl (kGT rfl (kMovC rfl (kGIN rfl (fun g2 => kGT rfl (kFadP rfl rfl (kGT rfl (kLoadP rfl rfl rfl (kGT rfl (kLoadC rfl rfl (kGT rfl (kBin rfl rfl rfl (kGT rfl (kPickT rfl (kMovC rfl (kPickF rfl (kMovC rfl (kMovC rfl (kDone (kRet (endRetA (ra := [.one (.d _)]) rfl ?_))))))))))))))))) (fun g2 => kGF rfl (kGF rfl (kGF rfl (kGF rfl (kGT rfl (kPickF rfl (kMovC rfl (kPickF rfl (kMovC rfl (kMovC rfl (kDone (kRet (endRetA (ra := [.one (.d _)]) rfl ?_))))))))))))))))))))))))))))))))))))))))))))))
  all_goals first
    | (simp_all [goneR]; done)
    | (refine congrArg (fun z : Bool => [RA.one (RV.d (DV.sc (Value.bool z)))]) ?_; rw [Bool.eq_iff_iff]; simp_all [goneR])

def c_impl_Zone_withoutSet : C := (.seq (.reg false (.op 0 [] (some 3) none false (.box 3 (.t 0))
  (.op 1 [] (some 4) none false (.box 4 (.t 1))
  (.op 2 [] (some 5) none false (.box 5 (.t 2))
  (.op 3 [] (some 6) none false (.alloc 6 [(.n 1), (.n 7)])
  .done)))))
 (.seq (.reg false (.op 0 [] (some 7) none false (.load (some 2) (.t 3))
  (.op 1 [] (some 8) none false (.clo 181 [] [(.t 4), (.t 5)])
  (.op 2 [] (some 9) none false (.call 9 180 [(.t 7), (.t 8)])
  (.op 3 [] none none false (.store (some 2) (.t 6) (.t 9))
  .done)))))
 .ret))
theorem dg_impl_Zone_withoutSet : Tryz.f74.body.bind (digC Tryz.prog Tryz.f74.ntmps []) = some c_impl_Zone_withoutSet := by kernel_rfl
theorem rs_impl_Zone_withoutSet : resSlots Tryz.prog Tryz.f74 = some [.m 6 (some 2)] := by kernel_rfl
theorem ok_impl_Zone_withoutSet (z : Zone) (n : List (List UInt8)) (t : Int) (hs : SmallZ z) (hn : n.length ≤ 4194304) :
    FnOK Tryz.prog 74 [.agg (z.cells.map .d), .agg [.d (encBB n)], .one (.d (.sc (.int .i64 t)))] (fun ra _ => ra = [.agg [.d (encBB z.origin), .d (encR (z.rrs.filter fun r => !goneR n t r))]]) := by
  refine FnOK.ofK Tryz.func74 (by kernel_rfl) dg_impl_Zone_withoutSet rs_impl_Zone_withoutSet rfl rfl ?_
  unfold c_impl_Zone_withoutSet
  refine kSeq (kReg (kBox rfl rfl rfl rfl rfl (kBox rfl rfl rfl rfl rfl (kBox rfl rfl rfl rfl rfl (kAlloc rfl rfl (kDone (kSeq (kReg (kLoadP rfl rfl rfl (kClo rfl rfl ?_))))))))))
  refine kCall1 false (ok_impl_Zone_kept z SmallR (fun r => !goneR n t r) hs hs.r.mem) ⟨⟨⟨rfl, rfl, trivial⟩, Nat.le_of_ble_eq_true rfl⟩, ⟨rfl, ⟨_, Tryz.func181, rfl, by kernel_rfl⟩, _, rfl, ?_⟩, trivial⟩ rfl rfl rfl fun os => ?_
  · rintro _ R ⟨x, hx, rfl, rfl⟩
    exact ⟨by rintro _ rfl; rfl, ok_impl_Zone_withoutSet_1 x n t hx hn⟩
  refine kMem [(28672, ⟨1, 0, .box [.nil 1, .nil 7]⟩)] [(6, .c (.ptr 28672 1 0)), (9, .g [.d _, .d _])] [] ⟨rfl, trivial⟩ ⟨rfl, rfl, trivial⟩ rfl (kStoreP rfl rfl rfl rfl (kDone (kMem [(28672, ⟨1, 0, .box [.d _, .d _]⟩)] [(6, .c (.ptr 28672 1 0))] [] ⟨rfl, trivial⟩ ⟨rfl, trivial⟩ rfl (kRet (endRetA (ra := [.agg [(.d _), (.d _)]]) rfl rfl)))))

def c_bytes_Clone : C := (.seq (.reg false (.op 0 [] (some 2) none false (.mov (.n 1))
  .done))
 (.seq (.seq (.reg false (.op 0 [] (some 3) none false (.mov (.t 0))
  (.op 1 [] (some 4) none false (.eqn false (.t 3))
  .done)))
 (.cond (.t 4)
 (.seq (.reg false (.op 0 [] (some 2) none false (.mov (.n 1))
  .done))
 .ret)
 .skip))
 (.seq (.reg false (.op 0 [] (some 5) none false (.lit 5 1 [(.v (.int .u8 0))] 0 [])
  (.op 1 [] (some 6) none false (.mov (.t 0))
  (.op 2 [] (some 7) none false (.app 7 1 1 (.t 5) (.t 6))
  (.op 3 [] (some 2) none false (.mov (.t 7))
  .done)))))
 .ret)))
theorem dg_bytes_Clone : Tryz.f222.body.bind (digC Tryz.prog Tryz.f222.ntmps []) = some c_bytes_Clone := by kernel_rfl
theorem rs_bytes_Clone : resSlots Tryz.prog Tryz.f222 = some [.s 2] := by kernel_rfl
theorem ok_bytes_Clone (b : List UInt8) (hb : b.length ≤ 140737488355328) :
    FnOK Tryz.prog 222 [.one (.d (encB b))] (fun ra _ => ra = [.one (.own true (encB b))]) := by
  refine FnOK.ofK Tryz.func222 (by kernel_rfl) dg_bytes_Clone rs_bytes_Clone rfl rfl ?_
  unfold c_bytes_Clone
  refine kSeq (kReg (kMovC rfl (kDone ?_)))
  refine kSeq (kSeq (kReg (kMovC rfl (kEqn rfl rfl rfl fun n hn => kDone ?_))))
  refine kCond rfl (fun h => ?_) (fun h => ?_)
  · refine kSeq (kReg (kMovC rfl (kDone (kRet ?_))))
    refine endRet (ra := [.one (.own true (.sl 1 []))]) rfl ⟨⟨rfl, trivial⟩, nodupB_sound rfl, trivial, trivial⟩ ?_
    have : b = [] := by
      rw [len_encB] at hn
      cases b with
      | nil => rfl
      | cons x l => have := hn (by simp); simp [this] at h
    rw [this]; rfl
  · refine kSkip (kSeq (kReg ?_))
    refine kLit rfl rfl rfl rfl (kMovC rfl ?_)
    refine kApp (cy := .d (encB b)) rfl rfl rfl (src_encB _ b) rfl rfl ⟨rfl, rfl, Nat.zero_lt_one⟩ rfl ?_ (kMovC rfl (kDone (kRet ?_)))
    · show ((DV.sl 1 (chunk 1 0 [])).len + (encB b).len) * 1 ≤ _ ∧ _
      rw [len_encB]; simp [DV.len, chunk]; omega
    refine endRet (ra := [.one (.own true _)]) rfl ⟨⟨⟨⟨_, rfl, fun _ => rfl⟩, .inl (Nat.zero_lt_succ _)⟩, trivial⟩, nodupB_sound rfl, trivial, trivial⟩ ?_
    exact congrArg (fun x => [RA.one (RV.own true x)]) (app_nil_encB b)

def c_impl_Name_copied : C := (.seq (.reg false (.op 0 [] (some 1) none false (.box 1 (.t 0))
  (.op 1 [] (some 2) none false (.alloc 2 [(.n 1)])
  .done)))
 (.seq (.reg false (.op 0 [] (some 6) none false (.build [(.n 1)] [])
  (.op 1 [] (some 3) none false (.alloc 3 [(.n 1)])
  (.op 2 [] none none false (.store (some 1) (.t 3) (.t 6))
  .done))))
 (.seq (.seq (.reg false (.op 0 [] (some 7) none false (.fad (.t 1) 0)
  (.op 1 [] (some 8) none false (.load none (.t 7))
  (.op 2 [] (some 9) none false (.len (.t 8))
  (.op 3 [] (some 10) none false (.mov (.v (.int .i64 0)))
  .done)))))
 (.block 0 (.loop (.seq (.reg false (.op 0 [] (some 11) none false (.bin .lss (.t 10) (.t 9))
  .done))
 (.seq (.cond (.t 11)
 .skip
 (.exit 0))
 (.seq (.block 1 (.seq (.reg false (.op 0 [] (some 12) none false (.iad 1 (.t 8) (.t 10))
  (.op 1 [] (some 13) none false (.load none (.t 12))
  (.op 2 [] (some 5) none false (.mov (.t 13))
  .done))))
 (.reg true (.op 0 [] (some 14) none true (.fad (.t 3) 0)
  (.op 1 [] (some 15) none true (.load none (.t 14))
  (.op 2 [] (some 16) none true (.mov (.t 5))
  (.op 3 [] (some 17) none false (.call 17 222 [(.t 16)])
  (.op 4 [] (some 18) none false (.lit 18 1 [(.n 1)] 1 [(0, 1, (.t 17))])
  (.op 5 [1] (some 19) none false (.app 19 1 24 (.t 15) (.t 18))
  (.op 6 [] (some 20) none true (.fad (.t 3) 0)
  (.op 7 [1] none none false (.store none (.t 20) (.t 19))
  .done)))))))))))
 (.reg false (.op 0 [] (some 21) none false (.bin .add (.t 10) (.v (.int .i64 1)))
  (.op 1 [] (some 10) none false (.mov (.t 21))
  .done)))))))))
 (.seq (.reg false (.op 0 [] (some 22) none false (.load (some 1) (.t 3))
  (.op 1 [] none none false (.store (some 1) (.t 2) (.t 22))
  .done)))
 .ret))))
theorem dg_impl_Name_copied : Tryz.f110.body.bind (digC Tryz.prog Tryz.f110.ntmps []) = some c_impl_Name_copied := by kernel_rfl
theorem rs_impl_Name_copied : resSlots Tryz.prog Tryz.f110 = some [.m 2 (some 1)] := by kernel_rfl
theorem ok_impl_Name_copied (a : List (List UInt8)) (ha : a.length ≤ 4194304) (hb : ∀ b ∈ a, b.length ≤ 4194304) :
    FnOK Tryz.prog 110 [.agg [.d (encBB a)]] (fun ra _ => ra = [.agg [.own true (encBB a)]]) := by
  refine FnOK.ofK Tryz.func110 (by kernel_rfl) dg_impl_Name_copied rs_impl_Name_copied rfl rfl ?_
  unfold c_impl_Name_copied
  refine kSeq (kReg (kBox rfl rfl rfl rfl rfl (kAlloc rfl rfl (kDone ?_))))
  refine kSeq (kReg (kBuild rfl (kAlloc rfl rfl (kStoreP rfl rfl rfl rfl (kDone ?_)))))
  refine kSeq (kSeq (kReg (kFadP rfl rfl (kLoadP rfl rfl rfl (kLen rfl rfl rfl (kMovC rfl (kDone (kBlock ?_))))))))
  rw [len_encBB]
  refine kSub (Sub.nilBox (id := rid 3 0) (id2 := rid 5000 0) (j := 0) rfl rfl rfl (by decide) (by decide)) ?_
  refine kLoop (α := { i : Nat // i ≤ a.length })
    (fun y => ⟨tabSl [(1, .c (.ptr (rid 1 0) 1 0)), (2, .c (.ptr (rid 2 0) 1 0)), (3, .c (.ptr (rid 3 0) 1 0)), (8, .dv (encBB a)), (9, .i a.length), (10, .i y.1)],
      obTab 1 [(rid 1 0, ⟨1, 0, .box [.d (encBB a)]⟩), (rid 2 0, ⟨1, 0, .box [.nil 1]⟩), (rid 3 0, ⟨1, 0, .box [.arr (rid 5000 0) 1]⟩), (rid 5000 0, ⟨1, 0, .arr true (encBB (a.take y.1))⟩)], []⟩) (fun y => a.length - y.1) ⟨0, by simp⟩
    (.norm ?_ ?_) ?_
  · repeat' first | exact trivial | exact rfl | exact .inl rfl | refine ⟨_, rfl, ?_⟩ | refine ⟨?_, ?_⟩ | fail
  · repeat' first | exact trivial | exact rfl | exact .inl rfl | refine ⟨_, rfl, ?_⟩ | refine ⟨?_, ?_⟩ | fail
  rintro ⟨i, hi⟩
  simp only at hi ⊢
  refine kSeq (kReg (kBin rfl rfl rfl (kDone (kSeq ?_))))
  refine kCond rfl (fun h1 => ?_) (fun h1 => ?_)
  · have hlt : i < a.length := by simp at h1; omega
    refine kSkip (kSeq (kBlock (kSeq (kReg ?_))))
    refine kIadD rfl rfl rfl rfl ?_ ?_
    · rw [len_encBB]; omega
    rw [show (encBB a).row (i : Int).toNat = [encB a[i]] from row_encBB a i hlt]
    refine kLoadD rfl rfl (kMovC rfl (kDone (kRegD (kFadP rfl rfl (kLoadP rfl rfl rfl (kMovC rfl ?_))))))
    refine kCall1 false (ok_bytes_Clone a[i] (Nat.le_trans (hb _ (List.getElem_mem hlt)) (by omega))) ⟨rfl, trivial⟩ rfl rfl rfl fun os => ?_
    refine kLit rfl rfl rfl rfl (kRelF rfl rfl ?_)
    refine kApp rfl rfl rfl rfl rfl rfl ⟨rfl, rfl, Nat.zero_lt_one⟩ rfl ?_ ?_
    · show ((encBB (a.take i)).len + (DV.sl 1 [[encB a[i]]]).len) * 24 ≤ _ ∧ (encBB (a.take i)).len + (DV.sl 1 [[encB a[i]]]).len ≤ _
      rw [len_encBB, List.length_take]; simp [DV.len, DV.rows]; omega
    refine kFadP rfl rfl (kRelF rfl rfl (kStoreP rfl rfl rfl rfl (kDone (kH (kBk (kReg (kAdd rfl rfl (by omega) (kMovC rfl (kDone ?_)))))))))
    refine kInv ⟨⟨i + 1, hlt⟩, by simp only; omega, .norm ?_ ?_⟩
    · repeat' first | exact trivial | exact rfl | exact .inl rfl | refine ⟨_, rfl, ?_⟩ | refine ⟨?_, ?_⟩ | fail
    · repeat' first | exact trivial | exact rfl | exact .inl rfl | refine ⟨_, rfl, ?_⟩ | refine ⟨?_, ?_⟩ | fail
      rw [← List.take_append_getElem hlt, ← app_encBB]
      rfl
  · refine kExit (kExC (kExI (kExB (kSeq (kReg (kLoadP rfl rfl rfl (kStoreP rfl rfl rfl rfl (kDone ?_))))))))
    have hge : i = a.length := by simp at h1; omega
    subst hge
    refine kRet (endRet (ra := [.agg [.own true _]]) rfl ⟨⟨⟨⟨⟨⟨_, rfl, fun _ => rfl⟩, .inl Nat.zero_lt_one⟩, trivial⟩, Nat.le_of_ble_eq_true rfl⟩, trivial⟩, nodupB_sound rfl, ⟨trivial, trivial⟩, trivial⟩ ?_)
    rw [List.take_length]

def c_slices_Clone_Lint_int : C := (.seq (.reg false (.op 0 [] (some 2) none false (.mov (.n 1))
  .done))
 (.seq (.seq (.reg false (.op 0 [] (some 3) none false (.mov (.t 0))
  (.op 1 [] (some 4) none false (.eqn false (.t 3))
  .done)))
 (.cond (.t 4)
 (.seq (.reg false (.op 0 [] (some 2) none false (.mov (.n 1))
  .done))
 .ret)
 .skip))
 (.seq (.reg false (.op 0 [] (some 5) none false (.lit 5 1 [(.v (.int .i64 0))] 0 [])
  (.op 1 [] (some 6) none false (.mov (.t 0))
  (.op 2 [] (some 7) none false (.app 7 1 8 (.t 5) (.t 6))
  (.op 3 [] (some 2) none false (.mov (.t 7))
  .done)))))
 .ret)))
theorem dg_slices_Clone_Lint_int : Tryz.f235.body.bind (digC Tryz.prog Tryz.f235.ntmps []) = some c_slices_Clone_Lint_int := by kernel_rfl
theorem rs_slices_Clone_Lint_int : resSlots Tryz.prog Tryz.f235 = some [.s 2] := by kernel_rfl
theorem ok_slices_Clone_Lint_int (b : List Int) (hb : b.length ≤ 4194304) :
    FnOK Tryz.prog 235 [.one (.d (encI b))] (fun ra _ => ra = [.one (.own true (encI b))]) := by
  refine FnOK.ofK Tryz.func235 (by kernel_rfl) dg_slices_Clone_Lint_int rs_slices_Clone_Lint_int rfl rfl ?_
  unfold c_slices_Clone_Lint_int
  refine kSeq (kReg (kMovC rfl (kDone ?_)))
  refine kSeq (kSeq (kReg (kMovC rfl (kEqn rfl rfl rfl fun n hn => kDone ?_))))
  refine kCond rfl (fun h => ?_) (fun h => ?_)
  · refine kSeq (kReg (kMovC rfl (kDone (kRet ?_))))
    refine endRet (ra := [.one (.own true (.sl 1 []))]) rfl ⟨⟨rfl, trivial⟩, nodupB_sound rfl, trivial, trivial⟩ ?_
    have : b = [] := by
      rw [len_encI] at hn
      cases b with
      | nil => rfl
      | cons x l => have := hn (by simp); simp [this] at h
    rw [this]; rfl
  · refine kSkip (kSeq (kReg ?_))
    refine kLit rfl rfl rfl rfl (kMovC rfl ?_)
    refine kApp (cy := .d (encI b)) rfl rfl rfl (src_encI _ b) rfl rfl ⟨rfl, rfl, Nat.zero_lt_one⟩ rfl ?_ (kMovC rfl (kDone (kRet ?_)))
    · show ((DV.sl 1 (chunk 1 0 [])).len + (encI b).len) * 8 ≤ _ ∧ _
      rw [len_encI]; simp [DV.len, chunk]; omega
    refine endRet (ra := [.one (.own true _)]) rfl ⟨⟨⟨⟨_, rfl, fun _ => rfl⟩, .inl (Nat.zero_lt_succ _)⟩, trivial⟩, nodupB_sound rfl, trivial, trivial⟩ ?_
    exact congrArg (fun x => [RA.one (RV.own true x)]) (app_nil_encI b)

def c_impl_Rr_copied : C := (.seq (.reg false (.op 0 [] (some 1) none false (.box 1 (.t 0))
  (.op 1 [] (some 2) none false (.alloc 2 [(.n 1), (.v (.int .i64 0)), (.v (.int .i64 0)), (.v (.int .i64 0)), (.n 1), (.n 1), (.n 1)])
  .done)))
 (.seq (.reg true (.op 0 [] (some 3) none true (.fad (.t 1) 0)
  (.op 1 [] (some 4) none true (.load (some 1) (.t 3))
  (.op 3 [] (some 6) none true (.fad (.t 1) 4)
  (.op 4 [] (some 7) none true (.load (some 1) (.t 6))
  (.op 6 [] (some 9) none true (.fad (.t 1) 5)
  (.op 7 [] (some 10) none true (.load none (.t 9))
  (.op 9 [] (some 12) none true (.fad (.t 1) 6)
  (.op 10 [] (some 13) none true (.load none (.t 12))
  (.op 2 [1] (some 5) none false (.call 5 110 [(.t 4)])
  (.op 12 [] (some 15) none true (.fad (.t 1) 0)
  (.op 5 [4, 1] (some 8) none false (.call 8 110 [(.t 7)])
  (.op 8 [7, 4, 1] (some 11) none false (.call 11 222 [(.t 10)])
  (.op 11 [10, 7, 4, 1] (some 14) none false (.call 14 235 [(.t 13)])
  (.op 13 [1, 4, 7, 10] none none false (.store (some 1) (.t 15) (.t 5))
  (.op 14 [] (some 16) none true (.fad (.t 1) 4)
  (.op 15 [1, 4, 7, 10] none none false (.store (some 1) (.t 16) (.t 8))
  (.op 16 [] (some 17) none true (.fad (.t 1) 5)
  (.op 17 [1, 4, 7, 10] none none false (.store none (.t 17) (.t 11))
  (.op 18 [] (some 18) none true (.fad (.t 1) 6)
  (.op 19 [1, 4, 7, 10] none none false (.store none (.t 18) (.t 14))
  .done)))))))))))))))))))))
 (.seq (.reg false (.op 0 [] (some 19) none false (.load (some 7) (.t 1))
  (.op 1 [] none none false (.store (some 7) (.t 2) (.t 19))
  .done)))
 .ret)))
theorem dg_impl_Rr_copied : Tryz.f188.body.bind (digC Tryz.prog Tryz.f188.ntmps []) = some c_impl_Rr_copied := by kernel_rfl
theorem rs_impl_Rr_copied : resSlots Tryz.prog Tryz.f188 = some [.m 2 (some 7)] := by kernel_rfl
theorem ok_impl_Rr_copied (r : Rr) (hs : SmallR r) :
    FnOK Tryz.prog 188 [.agg (r.cells.map .d)] (fun ra _ => ra = [.agg [.own true (encBB r.name), .d (.sc (.int .i64 r.ty)), .d (.sc (.int .i64 r.ttl)), .d (.sc (.int .i64 r.addr)), .own true (encBB r.to), .own true (encB r.text), .own true (encI r.nums)]]) := by
  refine FnOK.ofK Tryz.func188 (by kernel_rfl) dg_impl_Rr_copied rs_impl_Rr_copied rfl rfl ?_
  unfold c_impl_Rr_copied
  have n1 := hs.n.len
  have n2 := hs.n.mem
  have t1 := hs.t.len
  have t2 := hs.t.mem
  have x1 := hs.x
  have m1 := hs.m
  refine kSeq (kCut ⟨tabSl [(1, .c (.ptr (rid 1 0) 1 0)), (2, .c (.ptr (rid 2 0) 1 0))], obTab 1 [(rid 1 0, ⟨1, 0, .box (r.cells.map .d)⟩), (rid 2 0, ⟨1, 0, .box [.nil 1, .d (.sc (.int .i64 0)), .d (.sc (.int .i64 0)), .d (.sc (.int .i64 0)), .nil 1, .nil 1, .nil 1]⟩)], []⟩ ?_ (fun x hc => ?_))
  case refine_2 => refine kReg (kBox rfl rfl rfl rfl rfl (kAlloc rfl rfl (kDone (kMem [(8192, ⟨1, 0, .box [.d _, .d _, .d _, .d _, .d _, .d _, .d _]⟩), (12288, ⟨1, 0, .box [.nil 1, .d _, .d _, .d _, .nil 1, .nil 1, .nil 1]⟩)] [(1, .c (.ptr 8192 1 0)), (2, .c (.ptr 12288 1 0))] [] ⟨rfl, rfl, trivial⟩ ⟨rfl, rfl, trivial⟩ rfl (hc _ .normA)))))
  refine kSeq (kCut ⟨tabSl [(1, .c (.ptr (rid 1 0) 1 0)), (2, .c (.ptr (rid 2 0) 1 0))], obTab 1 [(rid 1 0, ⟨1, 0, .box [.arr (rid 5 0) 1, .d (.sc (.int .i64 r.ty)), .d (.sc (.int .i64 r.ttl)), .d (.sc (.int .i64 r.addr)), .arr (rid 8 0) 1, .arr (rid 11 0) 1, .arr (rid 14 0) 1]⟩), (rid 2 0, ⟨1, 0, .box [.nil 1, .d (.sc (.int .i64 0)), .d (.sc (.int .i64 0)), .d (.sc (.int .i64 0)), .nil 1, .nil 1, .nil 1]⟩), (rid 5 0, ⟨1, 0, .arr true (encBB r.name)⟩), (rid 8 0, ⟨1, 0, .arr true (encBB r.to)⟩), (rid 11 0, ⟨1, 0, .arr true (encB r.text)⟩), (rid 14 0, ⟨1, 0, .arr true (encI r.nums)⟩)], []⟩ ?_ (fun x hc => ?_))
  case refine_2 => refine kRegD (kFadP rfl rfl (kLoadP rfl rfl rfl (kFadP rfl rfl (kLoadP rfl rfl rfl (kFadP rfl rfl (kLoadP rfl rfl rfl (kFadP rfl rfl (kLoadP rfl rfl rfl (kMem [(8192, ⟨1, 0, .box [.d _, .d _, .d _, .d _, .d _, .d _, .d _]⟩)] [(4, .g [.d _]), (1, .c (.ptr 8192 1 0)), (7, .g [.d _]), (10, .c (.d _)), (13, .c (.d _))] [8192, 8192, 8192, 8192] ⟨rfl, trivial⟩ ⟨rfl, rfl, rfl, rfl, rfl, trivial⟩ rfl (kRelK rfl rfl (kCall1 true (ok_impl_Name_copied _ (by first | assumption | omega | solve_by_elim [List.getElem_mem] | (simp only [szOut] at *; omega)) (by first | assumption | omega | solve_by_elim [List.getElem_mem] | (simp only [szOut] at *; omega))) ⟨⟨⟨rfl, trivial⟩, Nat.le_of_ble_eq_true rfl⟩, trivial⟩ rfl rfl rfl (fun _ => (kFadP rfl rfl (kRelK rfl rfl (kCall1 true (ok_impl_Name_copied _ (by first | assumption | omega | solve_by_elim [List.getElem_mem] | (simp only [szOut] at *; omega)) (by first | assumption | omega | solve_by_elim [List.getElem_mem] | (simp only [szOut] at *; omega))) ⟨⟨⟨rfl, trivial⟩, Nat.le_of_ble_eq_true rfl⟩, trivial⟩ rfl rfl rfl (fun _ => (kRelK rfl rfl (kCall1 true (ok_bytes_Clone _ (by first | assumption | omega | solve_by_elim [List.getElem_mem] | (simp only [szOut] at *; omega))) ⟨rfl, trivial⟩ rfl rfl rfl (fun _ => (kRelF rfl rfl (kCall1 true (ok_slices_Clone_Lint_int _ (by first | assumption | omega | solve_by_elim [List.getElem_mem] | (simp only [szOut] at *; omega))) ⟨rfl, trivial⟩ rfl rfl rfl (fun _ => (kRelF rfl rfl (kStoreP rfl rfl rfl rfl (kFadP rfl rfl (kRelF rfl rfl (kStoreP rfl rfl rfl rfl (kFadP rfl rfl (kRelF rfl rfl (kStoreP rfl rfl rfl rfl (kFadP rfl rfl (kRelF rfl rfl (kStoreP rfl rfl rfl rfl (kDone (kH (kMem [(8192, ⟨1, 0, .box [.arr 24576 2, .d _, .d _, .d _, .arr 36864 2, .arr 49152 2, .arr 61440 2]⟩), (12288, ⟨1, 0, .box [.nil 1, .d _, .d _, .d _, .nil 1, .nil 1, .nil 1]⟩), (24576, ⟨2, 0, .arr true _⟩), (36864, ⟨2, 0, .arr true _⟩), (49152, ⟨2, 0, .arr true _⟩), (61440, ⟨2, 0, .arr true _⟩)] [(1, .c (.ptr 8192 1 0)), (2, .c (.ptr 12288 1 0))] [] ⟨rfl, rfl, rfl, rfl, rfl, rfl, trivial⟩ ⟨rfl, rfl, trivial⟩ rfl (hc _ .normA)))))))))))))))))))))))))))))))))))))
  refine kSeq (kCut ⟨tabSl [(2, .c (.ptr (rid 2 0) 1 0))], obTab 1 [(rid 2 0, ⟨1, 0, .box [.arr (rid 5 0) 1, .d (.sc (.int .i64 r.ty)), .d (.sc (.int .i64 r.ttl)), .d (.sc (.int .i64 r.addr)), .arr (rid 8 0) 1, .arr (rid 11 0) 1, .arr (rid 14 0) 1]⟩), (rid 5 0, ⟨1, 0, .arr true (encBB r.name)⟩), (rid 8 0, ⟨1, 0, .arr true (encBB r.to)⟩), (rid 11 0, ⟨1, 0, .arr true (encB r.text)⟩), (rid 14 0, ⟨1, 0, .arr true (encI r.nums)⟩)], []⟩ ?_ (fun x hc => ?_))
  case refine_2 => refine kReg (kLoadP rfl rfl rfl (kMem [(12288, ⟨1, 0, .box [.nil 1, .d _, .d _, .d _, .nil 1, .nil 1, .nil 1]⟩), (24576, ⟨1, 0, .arr true _⟩), (36864, ⟨1, 0, .arr true _⟩), (49152, ⟨1, 0, .arr true _⟩), (61440, ⟨1, 0, .arr true _⟩)] [(2, .c (.ptr 12288 1 0)), (19, .g [.arr 24576 1, .d _, .d _, .d _, .arr 36864 1, .arr 49152 1, .arr 61440 1])] [] ⟨rfl, rfl, rfl, rfl, rfl, trivial⟩ ⟨rfl, rfl, trivial⟩ rfl (kStoreP rfl rfl rfl rfl (kDone (kMem [(12288, ⟨1, 0, .box [.arr 24576 1, .d _, .d _, .d _, .arr 36864 1, .arr 49152 1, .arr 61440 1]⟩), (24576, ⟨1, 0, .arr true _⟩), (36864, ⟨1, 0, .arr true _⟩), (49152, ⟨1, 0, .arr true _⟩), (61440, ⟨1, 0, .arr true _⟩)] [(2, .c (.ptr 12288 1 0))] [] ⟨rfl, rfl, rfl, rfl, rfl, trivial⟩ ⟨rfl, trivial⟩ rfl (hc _ .normA))))))
  refine kMem [(12288, ⟨1, 0, .box [.arr 24576 1, .d _, .d _, .d _, .arr 36864 1, .arr 49152 1, .arr 61440 1]⟩), (24576, ⟨1, 0, .arr true _⟩), (36864, ⟨1, 0, .arr true _⟩), (49152, ⟨1, 0, .arr true _⟩), (61440, ⟨1, 0, .arr true _⟩)] [(2, .c (.ptr 12288 1 0))] [] ⟨rfl, rfl, rfl, rfl, rfl, trivial⟩ ⟨rfl, trivial⟩ rfl (kRet (endRetA (ra := [.agg [(.own true _), (.d _), (.d _), (.d _), (.own true _), (.own true _), (.own true _)]]) rfl rfl))

def c_impl_copyRrs : C := (.seq (.reg false (.op 0 [] (some 2) none false (.mov (.n 7))
  .done))
 (.seq (.reg false (.op 0 [] (some 6) none false (.lit 6 7 [(.n 1), (.v (.int .i64 0)), (.v (.int .i64 0)), (.v (.int .i64 0)), (.n 1), (.n 1), (.n 1)] 0 [])
  (.op 1 [] (some 3) none false (.mov (.t 6))
  .done)))
 (.seq (.seq (.reg false (.op 0 [] (some 7) none false (.mov (.t 0))
  (.op 1 [] (some 8) none false (.len (.t 7))
  (.op 2 [] (some 9) none false (.mov (.v (.int .i64 0)))
  .done))))
 (.block 0 (.loop (.seq (.reg false (.op 0 [] (some 10) none false (.bin .lss (.t 9) (.t 8))
  .done))
 (.seq (.cond (.t 10)
 .skip
 (.exit 0))
 (.seq (.block 1 (.seq (.reg false (.op 0 [] (some 11) none false (.iad 7 (.t 7) (.t 9))
  (.op 1 [] (some 12) none false (.load (some 7) (.t 11))
  (.op 2 [] (some 5) none false (.alloc 5 [(.n 1), (.v (.int .i64 0)), (.v (.int .i64 0)), (.v (.int .i64 0)), (.n 1), (.n 1), (.n 1)])
  (.op 3 [] none none false (.store (some 7) (.t 5) (.t 12))
  .done)))))
 (.reg false (.op 0 [] (some 13) none false (.mov (.t 3))
  (.op 1 [] (some 14) none false (.load (some 7) (.t 5))
  (.op 2 [] (some 15) none false (.call 15 188 [(.t 14)])
  (.op 3 [] (some 16) none false (.lit 16 7 [(.n 1), (.v (.int .i64 0)), (.v (.int .i64 0)), (.v (.int .i64 0)), (.n 1), (.n 1), (.n 1)] 1 [(0, 7, (.t 15))])
  (.op 4 [] (some 17) none false (.app 17 7 120 (.t 13) (.t 16))
  (.op 5 [] (some 3) none false (.mov (.t 17))
  .done)))))))))
 (.reg false (.op 0 [] (some 18) none false (.bin .add (.t 9) (.v (.int .i64 1)))
  (.op 1 [] (some 9) none false (.mov (.t 18))
  .done)))))))))
 (.seq (.reg false (.op 0 [] (some 19) none false (.mov (.t 3))
  (.op 1 [] (some 2) none false (.mov (.t 19))
  .done)))
 .ret))))
theorem dg_impl_copyRrs : Tryz.f84.body.bind (digC Tryz.prog Tryz.f84.ntmps []) = some c_impl_copyRrs := by kernel_rfl
theorem rs_impl_copyRrs : resSlots Tryz.prog Tryz.f84 = some [.s 2] := by kernel_rfl
theorem ok_impl_copyRrs (l : List Rr) (hs : SmallRs l) :
    FnOK Tryz.prog 84 [.one (.d (encR l))] (fun ra _ => ra = [.one (.own true (encR l))]) := by
  refine FnOK.ofK Tryz.func84 (by kernel_rfl) dg_impl_copyRrs rs_impl_copyRrs rfl rfl ?_
  unfold c_impl_copyRrs
  have h1 := hs.len
  refine kSeq (kReg (kMovC rfl (kDone (kSeq (kReg (kLit rfl rfl rfl rfl (kMovC rfl (kDone (kSeq (kSeq (kReg (kMovC rfl (kLenR rfl rfl (kMovC rfl (kDone (kBlock ?_))))))))))))))))
  refine kLoop (α := { i : Nat // i ≤ l.length }) (fun y => ⟨tabSl [(3, .c (.arr (rid 6 0) 1)), (7, .dv (encR l)), (8, .i l.length), (9, .i y.1)], obTab 1 [(rid 6 0, ⟨1, 0, .arr true (encR (l.take y.1))⟩)], []⟩) (fun y => l.length - y.1) ⟨0, by simp⟩ .normA ?_
  rintro ⟨i, hi⟩
  simp only
  have hlen : (l.take i).length = i := by simp; omega
  rcases Nat.lt_or_ge i l.length with hlt | hge
  · have hbi := hs.mem _ (List.getElem_mem hlt)
    refine kSeq (kReg (kBin rfl rfl rfl (kDone (kSeq (kCondP rfl (fun g0 => kSkip (kSeq (kBlock (kSeq (kReg (kIadR rfl rfl rfl (by omega) (kLoadD rfl rfl (kAlloc rfl rfl (kMem [(24576, ⟨2, 0, .box [.nil 1, .d _, .d _, .d _, .nil 1, .nil 1, .nil 1]⟩)] [(5, .c (.ptr 24576 2 0)), (12, .g [.d _, .d _, .d _, .d _, .d _, .d _, .d _])] [] ⟨rfl, trivial⟩ ⟨rfl, rfl, trivial⟩ rfl (kStoreP rfl rfl rfl rfl (kDone (kReg (kMovC rfl (kLoadP rfl rfl rfl (kCall1 true (ok_impl_Rr_copied _ (by first | assumption | omega | solve_by_elim [List.getElem_mem] | (simp only [szOut] at *; omega))) ⟨⟨⟨rfl, rfl, rfl, rfl, rfl, rfl, rfl, trivial⟩, Nat.le_of_ble_eq_true rfl⟩, trivial⟩ rfl rfl rfl (fun _ => (kLit rfl rfl rfl rfl (kAppRec rfl rfl rfl rfl rfl rfl rfl (by omega) (kMem [(28672, ⟨2, 0, .arr true _⟩)] [(17, .c (.arr 28672 2))] [] ⟨rfl, trivial⟩ ⟨rfl, trivial⟩ rfl (kMovC rfl (kDone (kBk (kReg (kAdd rfl rfl (by omega) (kMovC rfl (kDone ?_)))))))))))))))))))))))))) (fun g0 => (by omega)))))))
    exact kInv ⟨⟨i + 1, by omega⟩, by simp only; omega, .normA⟩
  · refine kSeq (kReg (kBin rfl rfl rfl (kDone (kSeq (kCondP rfl (fun g0 => (by omega)) (fun g0 => kExit (kExC (kExI (kExB (kSeq (kReg (kMovC rfl (kMovC rfl (kDone (kMem [(28672, ⟨1, 0, .arr true _⟩)] [(2, .c (.arr 28672 1))] [] ⟨rfl, trivial⟩ ⟨rfl, trivial⟩ rfl (kRet (endRetA (ra := [.one (.own true _)]) rfl ?_)))))))))))))))))
    rw [show i = l.length by omega, List.take_length]

def c_impl_Zone_copied : C := (.seq (.reg false (.op 0 [] (some 1) none false (.box 1 (.t 0))
  (.op 1 [] (some 2) none false (.alloc 2 [(.n 1), (.n 7)])
  .done)))
 (.seq (.reg true (.op 0 [] (some 3) none true (.fad (.t 1) 0)
  (.op 1 [] (some 4) none true (.load (some 1) (.t 3))
  (.op 3 [] (some 6) none true (.fad (.t 1) 1)
  (.op 4 [] (some 7) none true (.load none (.t 6))
  (.op 2 [1] (some 5) none false (.call 5 110 [(.t 4)])
  (.op 5 [4, 1] (some 8) none false (.call 8 84 [(.t 7)])
  (.op 6 [] (some 9) none true (.build [(.n 1), (.n 7)] [(0, 1, (.t 5)), (1, 1, (.t 8))])
  (.op 7 [1, 4] none none false (.store (some 2) (.t 2) (.t 9))
  .done)))))))))
 .ret))
theorem dg_impl_Zone_copied : Tryz.f75.body.bind (digC Tryz.prog Tryz.f75.ntmps []) = some c_impl_Zone_copied := by kernel_rfl
theorem rs_impl_Zone_copied : resSlots Tryz.prog Tryz.f75 = some [.m 2 (some 2)] := by kernel_rfl
theorem ok_impl_Zone_copied (z : Zone) (hs : SmallZ z) :
    FnOK Tryz.prog 75 [.agg (z.cells.map .d)] (fun ra _ => ra = [.agg [.own true (encBB z.origin), .own true (encR z.rrs)]]) := by
  refine FnOK.ofK Tryz.func75 (by kernel_rfl) dg_impl_Zone_copied rs_impl_Zone_copied rfl rfl ?_
  unfold c_impl_Zone_copied
  have o1 := hs.o.len
  have o2 := hs.o.mem
  have h1 := hs.r
  refine kSeq (kReg (kBox rfl rfl rfl rfl rfl (kAlloc rfl rfl (kDone (kSeq (kRegD (kFadP rfl rfl (kLoadP rfl rfl rfl (kFadP rfl rfl (kLoadP rfl rfl rfl (kRelK rfl rfl (kCall1 true (ok_impl_Name_copied _ (by first | assumption | omega | solve_by_elim [List.getElem_mem] | (simp only [szOut] at *; omega)) (by first | assumption | omega | solve_by_elim [List.getElem_mem] | (simp only [szOut] at *; omega))) ⟨⟨⟨rfl, trivial⟩, Nat.le_of_ble_eq_true rfl⟩, trivial⟩ rfl rfl rfl (fun _ => (kMem [(24576, ⟨1, 0, .arr true _⟩), (12288, ⟨1, 0, .box [.nil 1, .nil 7]⟩)] [(7, .c (.d _)), (5, .g [.arr 24576 1]), (8, .c (.un)), (2, .c (.ptr 12288 1 0)), (9, .c (.un))] [8192, 8192] ⟨rfl, rfl, trivial⟩ ⟨rfl, rfl, rfl, rfl, rfl, trivial⟩ rfl (kRelF rfl rfl (kCall1 true (ok_impl_copyRrs _ (by first | assumption | omega | solve_by_elim [List.getElem_mem] | (simp only [szOut] at *; omega))) ⟨rfl, trivial⟩ rfl rfl rfl (fun _ => (kBuildG rfl (kMem [(12288, ⟨1, 0, .box [.nil 1, .nil 7]⟩), (24576, ⟨1, 0, .arr true _⟩), (36864, ⟨1, 0, .arr true _⟩)] [(2, .c (.ptr 12288 1 0)), (9, .g [.arr 24576 1, .arr 36864 1])] [] ⟨rfl, rfl, rfl, trivial⟩ ⟨rfl, rfl, trivial⟩ rfl (kRelF rfl rfl (kStoreP rfl rfl rfl rfl (kDone (kH (kMem [(12288, ⟨1, 0, .box [.arr 24576 1, .arr 36864 1]⟩), (24576, ⟨1, 0, .arr true _⟩), (36864, ⟨1, 0, .arr true _⟩)] [(2, .c (.ptr 12288 1 0))] [] ⟨rfl, rfl, rfl, trivial⟩ ⟨rfl, trivial⟩ rfl (kRet (endRetA (ra := [.agg [(.own true _), (.own true _)]]) rfl rfl))))))))))))))))))))))))))

def c_impl_DropSet : C := (.seq (.reg false (.op 0 [] (some 3) none false (.box 3 (.t 0))
  (.op 1 [] (some 4) none false (.box 4 (.t 1))
  (.op 2 [] (some 6) none false (.alloc 6 [(.n 1), (.n 7)])
  (.op 3 [] (some 7) none false (.mov (.v (.int .i64 0)))
  .done)))))
 (.seq (.seq (.reg false (.op 0 [] (some 9) none false (.load (some 2) (.t 3))
  (.op 1 [] (some 10) none false (.call 10 19 [(.t 9)])
  (.op 2 [] (some 11) none false (.un .not (.t 10))
  (.op 3 [] (some 12) none false (.mov (.t 11))
  (.op 4 [] (some 13) (some (12, false)) false (.load (some 1) (.t 4))
  (.op 5 [] (some 14) (some (12, false)) false (.call 14 72 [(.t 13)])
  (.op 6 [] (some 15) (some (12, false)) false (.un .not (.t 14))
  (.op 7 [] (some 16) none false (.pick (.t 12) (.v (.bool true)) (.t 15))
  (.op 8 [] (some 17) none false (.mov (.t 16))
  (.op 9 [] (some 18) (some (17, false)) false (.mov (.t 2))
  (.op 10 [] (some 19) (some (17, false)) false (.call 19 73 [(.t 18)])
  (.op 11 [] (some 20) (some (17, false)) false (.un .not (.t 19))
  (.op 12 [] (some 21) none false (.pick (.t 17) (.v (.bool true)) (.t 20))
  .done))))))))))))))
 (.cond (.t 21)
 (.seq (.reg false (.op 0 [] (some 22) none false (.build [(.n 1), (.n 7)] [])
  (.op 1 [] none none false (.store (some 2) (.t 6) (.t 22))
  (.op 2 [] (some 7) none false (.mov (.v (.int .i64 0)))
  .done))))
 .ret)
 .skip))
 (.seq (.reg false (.op 0 [] (some 23) none false (.load (some 2) (.t 3))
  (.op 1 [] (some 24) none false (.load (some 1) (.t 4))
  (.op 2 [] (some 25) none false (.mov (.t 2))
  (.op 3 [] (some 26) none false (.call 26 74 [(.t 23), (.t 24), (.t 25)])
  (.op 4 [] (some 8) none false (.alloc 8 [(.n 1), (.n 7)])
  (.op 5 [] none none false (.store (some 2) (.t 8) (.t 26))
  .done)))))))
 (.seq (.reg true (.op 0 [] (some 27) none true (.load (some 2) (.t 8))
  (.op 2 [] (some 29) none true (.fad (.t 3) 1)
  (.op 3 [] (some 30) none true (.load none (.t 29))
  (.op 4 [] (some 31) none true (.len (.t 30))
  (.op 5 [] (some 32) none true (.fad (.t 8) 1)
  (.op 6 [] (some 33) none true (.load none (.t 32))
  (.op 7 [] (some 34) none true (.len (.t 33))
  (.op 8 [] (some 35) none true (.bin .sub (.t 31) (.t 34))
  (.op 1 [0] (some 28) none false (.call 28 75 [(.t 27)])
  (.op 9 [0] none none false (.store (some 2) (.t 6) (.t 28))
  (.op 10 [] (some 7) none true (.mov (.t 35))
  .done))))))))))))
 .ret))))
theorem dg_impl_DropSet : Tryz.f13.body.bind (digC Tryz.prog Tryz.f13.ntmps []) = some c_impl_DropSet := by kernel_rfl
theorem rs_impl_DropSet : resSlots Tryz.prog Tryz.f13 = some [.m 6 (some 2), .s 7] := by kernel_rfl
theorem ok_impl_DropSet (z : Zone) (n : List (List UInt8)) (t : Int) (hs : SmallZ z) (hn : SmallBB n) :
    FnOK Tryz.prog 13 [.agg (z.cells.map .d), .agg [.d (encBB n)], .one (.d (.sc (.int .i64 t)))] (fun ra _ => ra = [.agg [.own true (encBB (dropSetZ z n t).origin), .own true (encR (dropSetZ z n t).rrs)], .one (.d (.sc (.int .i64 (dropSetK z n t))))]) := by
  refine FnOK.ofK Tryz.func13 (by kernel_rfl) dg_impl_DropSet rs_impl_DropSet rfl rfl ?_
  unfold c_impl_DropSet
  have h1 := hs.r.len
  have n1 := hn.len
  have n2 := hn.mem
  have hf := filter_split (goneR n t) z.rrs
  have hks := hs.kept (fun r => !goneR n t r)
  cases h : zoneOk z && nameOk n && askedT t
  · rw [show dropSetZ z n t = zeroZ by unfold dropSetZ; rw [h]; rfl, show dropSetK z n t = 0 by unfold dropSetK; rw [h]; rfl]
    refine kSeq (kReg (kBox rfl rfl rfl rfl rfl (kBox rfl rfl rfl rfl rfl (kAlloc rfl rfl (kMovC rfl (kDone (kSeq (kSeq (kReg (kLoadP rfl rfl rfl (kCallD (ok_impl_ZoneOk _ (by first | assumption | omega | solve_by_elim [List.getElem_mem] | (simp only [szOut] at *; omega))) ⟨⟨⟨rfl, rfl, trivial⟩, Nat.le_of_ble_eq_true rfl⟩, trivial⟩ rfl rfl rfl rfl rfl (kUn rfl rfl (kMovC rfl (kMem [(20480, ⟨1, 0, .box [.d _]⟩)] [(4, .c (.ptr 20480 1 0)), (13, .c (.un)), (14, .c (.un)), (12, .c (.d _)), (15, .c (.un)), (16, .c (.un)), (2, .c (.d _)), (18, .c (.un)), (19, .c (.un)), (17, .c (.un)), (20, .c (.un))] [] ⟨rfl, trivial⟩ ⟨rfl, rfl, rfl, rfl, rfl, rfl, rfl, rfl, rfl, rfl, rfl, trivial⟩ rfl (kGN rfl (fun g0 => kGF rfl (kGF rfl (kGF rfl (kPickT rfl (kMovC rfl (kMovC rfl (kGF rfl (kGF rfl (kGF rfl (kPickT rfl (kMovC rfl (kDone (kCondT rfl (kSeq (kReg (kMem [(28672, ⟨1, 0, .box [.nil 1, .nil 7]⟩)] [(6, .c (.ptr 28672 1 0)), (22, .c (.un))] [] ⟨rfl, trivial⟩ ⟨rfl, rfl, trivial⟩ rfl (kBuildG rfl (kMem [(28672, ⟨1, 0, .box [.nil 1, .nil 7]⟩)] [(6, .c (.ptr 28672 1 0)), (22, .g [.nil 1, .nil 7])] [] ⟨rfl, trivial⟩ ⟨rfl, rfl, trivial⟩ rfl (kStoreP rfl rfl rfl rfl (kMovC rfl (kDone (kMem [(28672, ⟨1, 0, .box [.nil 1, .nil 7]⟩)] [(6, .c (.ptr 28672 1 0)), (7, .c (.d _))] [] ⟨rfl, trivial⟩ ⟨rfl, rfl, trivial⟩ rfl (kRet (endRetA (ra := [.agg [(.own true _), (.own true _)], .one (.d _)]) rfl rfl)))))))))))))))))))))))) (fun g0 => kGT rfl (kLoadP rfl rfl rfl (kGT rfl (kCallD (ok_impl_NameOk _ (by first | assumption | omega | solve_by_elim [List.getElem_mem] | (simp only [szOut] at *; omega)) (by first | assumption | omega | solve_by_elim [List.getElem_mem] | (simp only [szOut] at *; omega))) ⟨⟨⟨rfl, trivial⟩, Nat.le_of_ble_eq_true rfl⟩, trivial⟩ rfl rfl rfl rfl rfl (kGT rfl (kUn rfl rfl (kPickF rfl (kMovC rfl (kMovC rfl (kGN rfl (fun g1 => kGF rfl (kGF rfl (kGF rfl (kPickT rfl (kMovC rfl (kDone (kCondT rfl (kSeq (kReg (kMem [(28672, ⟨1, 0, .box [.nil 1, .nil 7]⟩)] [(6, .c (.ptr 28672 1 0)), (22, .c (.un))] [] ⟨rfl, trivial⟩ ⟨rfl, rfl, trivial⟩ rfl (kBuildG rfl (kMem [(28672, ⟨1, 0, .box [.nil 1, .nil 7]⟩)] [(6, .c (.ptr 28672 1 0)), (22, .g [.nil 1, .nil 7])] [] ⟨rfl, trivial⟩ ⟨rfl, rfl, trivial⟩ rfl (kStoreP rfl rfl rfl rfl (kMovC rfl (kDone (kMem [(28672, ⟨1, 0, .box [.nil 1, .nil 7]⟩)] [(6, .c (.ptr 28672 1 0)), (7, .c (.d _))] [] ⟨rfl, trivial⟩ ⟨rfl, rfl, trivial⟩ rfl (kRet (endRetA (ra := [.agg [(.own true _), (.own true _)], .one (.d _)]) rfl rfl)))))))))))))))))) (fun g1 => kGT rfl (kMovC rfl (kGT rfl (kCallD (ok_impl_isAsked _) ⟨rfl, trivial⟩ rfl rfl rfl rfl rfl (kGT rfl (kUn rfl rfl (kPickF rfl (kMovC rfl (kDone (kCondN rfl (fun g2 => kSeq (kReg (kMem [(28672, ⟨1, 0, .box [.nil 1, .nil 7]⟩)] [(6, .c (.ptr 28672 1 0)), (22, .c (.un))] [] ⟨rfl, trivial⟩ ⟨rfl, rfl, trivial⟩ rfl (kBuildG rfl (kMem [(28672, ⟨1, 0, .box [.nil 1, .nil 7]⟩)] [(6, .c (.ptr 28672 1 0)), (22, .g [.nil 1, .nil 7])] [] ⟨rfl, trivial⟩ ⟨rfl, rfl, trivial⟩ rfl (kStoreP rfl rfl rfl rfl (kMovC rfl (kDone (kMem [(28672, ⟨1, 0, .box [.nil 1, .nil 7]⟩)] [(6, .c (.ptr 28672 1 0)), (7, .c (.d _))] [] ⟨rfl, trivial⟩ ⟨rfl, rfl, trivial⟩ rfl (kRet (endRetA (ra := [.agg [(.own true _), (.own true _)], .one (.d _)]) rfl rfl))))))))))) (fun g2 => kSkip (kSeq (kReg (kMem [(16384, ⟨1, 0, .box [.d _, .d _]⟩), (20480, ⟨1, 0, .box [.d _]⟩)] [(3, .c (.ptr 16384 1 0)), (4, .c (.ptr 20480 1 0)), (2, .c (.d _)), (23, .c (.un)), (24, .c (.un)), (25, .c (.un)), (8, .c (.un)), (26, .c (.un))] [] ⟨rfl, rfl, trivial⟩ ⟨rfl, rfl, rfl, rfl, rfl, rfl, rfl, rfl, trivial⟩ rfl (kLoadP rfl rfl rfl (kLoadP rfl rfl rfl (kMovC rfl (kCallD2 (ok_impl_Zone_withoutSet _ _ _ (by first | assumption | omega | solve_by_elim [List.getElem_mem] | (simp only [szOut] at *; omega)) (by first | assumption | omega | solve_by_elim [List.getElem_mem] | (simp only [szOut] at *; omega))) ⟨⟨⟨rfl, rfl, trivial⟩, Nat.le_of_ble_eq_true rfl⟩, ⟨⟨rfl, trivial⟩, Nat.le_of_ble_eq_true rfl⟩, rfl, trivial⟩ rfl rfl rfl rfl (kAlloc rfl rfl (kMem [(36864, ⟨1, 0, .box [.nil 1, .nil 7]⟩)] [(8, .c (.ptr 36864 1 0)), (26, .g [.d _, .d _])] [] ⟨rfl, trivial⟩ ⟨rfl, rfl, trivial⟩ rfl (kStoreP rfl rfl rfl rfl (kDone (kSeq (kRegD (kLoadP rfl rfl rfl (kFadP rfl rfl (kLoadP rfl rfl rfl (kLenR rfl rfl (kFadP rfl rfl (kLoadP rfl rfl rfl (kLenR rfl rfl (kMem [(28672, ⟨1, 0, .box [.nil 1, .nil 7]⟩)] [(31, .c (.d _)), (34, .c (.d _)), (27, .g [.d _, .d _]), (6, .c (.ptr 28672 1 0)), (28, .c (.un)), (35, .c (.un))] [36864, 16384, 36864] ⟨rfl, trivial⟩ ⟨rfl, rfl, rfl, rfl, rfl, rfl, trivial⟩ rfl (kDif rfl rfl (by omega) (kRelK rfl rfl ?_)))))))))))))))))))))))))))))))))))))))))))))))))))))))))))
    all_goals simp_all
  · rw [show dropSetZ z n t = keptR z (fun r => !goneR n t r) by unfold dropSetZ; rw [h]; rfl, show dropSetK z n t = ((z.rrs.length : Int) - ((z.rrs.filter fun r => !goneR n t r).length : Int)) by unfold dropSetK; rw [h, if_pos rfl]; omega]
    have h' := h
    simp only [Bool.and_eq_true] at h'
    obtain ⟨⟨a1, a2⟩, a3⟩ := h'
    refine kSeq (kReg (kBox rfl rfl rfl rfl rfl (kBox rfl rfl rfl rfl rfl (kAlloc rfl rfl (kMovC rfl (kDone (kSeq (kSeq (kReg (kLoadP rfl rfl rfl (kCallD (ok_impl_ZoneOk _ (by first | assumption | omega | solve_by_elim [List.getElem_mem] | (simp only [szOut] at *; omega))) ⟨⟨⟨rfl, rfl, trivial⟩, Nat.le_of_ble_eq_true rfl⟩, trivial⟩ rfl rfl rfl rfl rfl (kUn rfl rfl (kMovC rfl (kMem [(20480, ⟨1, 0, .box [.d _]⟩)] [(4, .c (.ptr 20480 1 0)), (13, .c (.un)), (14, .c (.un)), (12, .c (.d _)), (15, .c (.un)), (16, .c (.un)), (2, .c (.d _)), (18, .c (.un)), (19, .c (.un)), (17, .c (.un)), (20, .c (.un))] [] ⟨rfl, trivial⟩ ⟨rfl, rfl, rfl, rfl, rfl, rfl, rfl, rfl, rfl, rfl, rfl, trivial⟩ rfl (kGN rfl (fun g0 => (by (simp [*] at g0))) (fun g0 => kGT rfl (kLoadP rfl rfl rfl (kGT rfl (kCallD (ok_impl_NameOk _ (by first | assumption | omega | solve_by_elim [List.getElem_mem] | (simp only [szOut] at *; omega)) (by first | assumption | omega | solve_by_elim [List.getElem_mem] | (simp only [szOut] at *; omega))) ⟨⟨⟨rfl, trivial⟩, Nat.le_of_ble_eq_true rfl⟩, trivial⟩ rfl rfl rfl rfl rfl (kGT rfl (kUn rfl rfl (kPickF rfl (kMovC rfl (kMovC rfl (kGN rfl (fun g1 => (by (simp [*] at g1))) (fun g1 => kGT rfl (kMovC rfl (kGT rfl (kCallD (ok_impl_isAsked _) ⟨rfl, trivial⟩ rfl rfl rfl rfl rfl (kGT rfl (kUn rfl rfl (kPickF rfl (kMovC rfl (kDone (kCondN rfl (fun g2 => (by (simp [*] at g2))) (fun g2 => kSkip (kSeq (kReg (kMem [(16384, ⟨1, 0, .box [.d _, .d _]⟩), (20480, ⟨1, 0, .box [.d _]⟩)] [(3, .c (.ptr 16384 1 0)), (4, .c (.ptr 20480 1 0)), (2, .c (.d _)), (23, .c (.un)), (24, .c (.un)), (25, .c (.un)), (8, .c (.un)), (26, .c (.un))] [] ⟨rfl, rfl, trivial⟩ ⟨rfl, rfl, rfl, rfl, rfl, rfl, rfl, rfl, trivial⟩ rfl (kLoadP rfl rfl rfl (kLoadP rfl rfl rfl (kMovC rfl (kCallD2 (ok_impl_Zone_withoutSet _ _ _ (by first | assumption | omega | solve_by_elim [List.getElem_mem] | (simp only [szOut] at *; omega)) (by first | assumption | omega | solve_by_elim [List.getElem_mem] | (simp only [szOut] at *; omega))) ⟨⟨⟨rfl, rfl, trivial⟩, Nat.le_of_ble_eq_true rfl⟩, ⟨⟨rfl, trivial⟩, Nat.le_of_ble_eq_true rfl⟩, rfl, trivial⟩ rfl rfl rfl rfl (kAlloc rfl rfl (kMem [(36864, ⟨1, 0, .box [.nil 1, .nil 7]⟩)] [(8, .c (.ptr 36864 1 0)), (26, .g [.d _, .d _])] [] ⟨rfl, trivial⟩ ⟨rfl, rfl, trivial⟩ rfl (kStoreP rfl rfl rfl rfl (kDone (kSeq (kRegD (kLoadP rfl rfl rfl (kFadP rfl rfl (kLoadP rfl rfl rfl (kLenR rfl rfl (kFadP rfl rfl (kLoadP rfl rfl rfl (kLenR rfl rfl (kMem [(28672, ⟨1, 0, .box [.nil 1, .nil 7]⟩)] [(31, .c (.d _)), (34, .c (.d _)), (27, .g [.d _, .d _]), (6, .c (.ptr 28672 1 0)), (28, .c (.un)), (35, .c (.un))] [36864, 16384, 36864] ⟨rfl, trivial⟩ ⟨rfl, rfl, rfl, rfl, rfl, rfl, trivial⟩ rfl (kDif rfl rfl (by omega) (kRelK rfl rfl ?_)))))))))))))))))))))))))))))))))))))))))))))))))))))))))))
    refine kCall1 true (ok_impl_Zone_copied (keptR z (fun r => !goneR n t r)) hks) ⟨⟨⟨rfl, rfl, trivial⟩, Nat.le_of_ble_eq_true rfl⟩, trivial⟩ rfl rfl rfl (fun _ => ?_)
    refine kMem [(28672, ⟨1, 0, .box [.nil 1, .nil 7]⟩), (118784, ⟨1, 0, .arr true _⟩), (118785, ⟨1, 0, .arr true _⟩)] [(6, .c (.ptr 28672 1 0)), (28, .g [.arr 118784 1, .arr 118785 1]), (35, .c (.d _))] [36864, 16384, 36864] ⟨rfl, rfl, rfl, trivial⟩ ⟨rfl, rfl, rfl, trivial⟩ rfl (kRelK rfl rfl (kStoreP rfl rfl rfl rfl (kMovC rfl (kDone (kH (kMem [(28672, ⟨1, 0, .box [.arr 118784 1, .arr 118785 1]⟩), (118784, ⟨1, 0, .arr true _⟩), (118785, ⟨1, 0, .arr true _⟩)] [(6, .c (.ptr 28672 1 0)), (7, .c (.d _))] [] ⟨rfl, rfl, rfl, trivial⟩ ⟨rfl, rfl, trivial⟩ rfl (kRet (endRetA (ra := [.agg [(.own true _), (.own true _)], .one (.d _)]) rfl rfl))))))))

def c_laws_name : C := (.seq (.reg false (.op 0 [] (some 2) none false (.alloc 2 [(.n 1)])
  .done))
 (.seq (.reg false (.op 0 [] (some 6) none false (.mov (.t 0))
  (.op 1 [] (some 7) none false (.s2b (.t 6))
  (.op 2 [] (some 8) none false (.call 8 187 [(.t 7)])
  (.op 3 [] (some 5) none false (.mov (.t 8))
  (.op 4 [] (some 9) none false (.ext (.t 5) 0)
  (.op 5 [] (some 10) none false (.ext (.t 5) 1)
  (.op 6 [] (some 3) none false (.alloc 3 [(.n 1)])
  (.op 7 [] none none false (.store (some 1) (.t 3) (.t 9))
  (.op 8 [] (some 4) none false (.mov (.t 10))
  .done))))))))))
 (.seq (.reg false (.op 0 [] (some 11) none false (.load (some 1) (.t 3))
  (.op 1 [] none none false (.store (some 1) (.t 2) (.t 11))
  .done)))
 .ret)))
theorem dg_laws_name : Tryz.f83.body.bind (digC Tryz.prog Tryz.f83.ntmps []) = some c_laws_name := by kernel_rfl
theorem rs_laws_name : resSlots Tryz.prog Tryz.f83 = some [.m 2 (some 1)] := by kernel_rfl
theorem ok_laws_name (b : ByteArray) (hb : b.size ≤ 4194303) :
    FnOK Tryz.prog 83 [.one (.d (.sc (.string b)))] (fun ra _ => ra = [.agg [.own true (encBB (readN b.toList))]]) := by
  refine FnOK.ofK Tryz.func83 (by kernel_rfl) dg_laws_name rs_laws_name rfl rfl ?_
  unfold c_laws_name
  have h : b.toList.length ≤ 4194303 := by rw [bt_len]; exact hb
  refine kSeq (kReg (kAlloc rfl rfl (kDone (kSeq (kReg (kMovC rfl (kS2b rfl (by omega) (kCall1 true (ok_spec_NameRead _ (by first | assumption | omega | solve_by_elim [List.getElem_mem] | (simp only [szOut] at *; omega) | exact rfl | exact Nat.le_of_ble_eq_true rfl)) ⟨rfl, trivial⟩ rfl rfl rfl (fun _ => (kMovT rfl (kExtC rfl rfl (kExtC rfl rfl (kAlloc rfl rfl (kStoreP rfl rfl rfl rfl (kMovC rfl (kDone (kSeq (kReg (kMem [(16384, ⟨1, 0, .box [.arr 36864 1]⟩), (12288, ⟨1, 0, .box [.nil 1]⟩), (36864, ⟨1, 0, .arr true _⟩)] [(3, .c (.ptr 16384 1 0)), (2, .c (.ptr 12288 1 0)), (11, .c (.un))] [] ⟨rfl, rfl, rfl, trivial⟩ ⟨rfl, rfl, rfl, trivial⟩ rfl (kLoadP rfl rfl rfl (kStoreP rfl rfl rfl rfl (kDone (kMem [(12288, ⟨1, 0, .box [.arr 36864 1]⟩), (36864, ⟨1, 0, .arr true _⟩)] [(2, .c (.ptr 12288 1 0))] [] ⟨rfl, rfl, trivial⟩ ⟨rfl, trivial⟩ rfl (kRet (endRetA (ra := [.agg [(.own true _)]]) rfl rfl)))))))))))))))))))))))))

def c_impl_topRr : C := (.seq (.reg false (.op 0 [] (some 2) none false (.box 2 (.t 0))
  (.op 1 [] (some 4) none false (.alloc 4 [(.n 1), (.v (.int .i64 0)), (.v (.int .i64 0)), (.v (.int .i64 0)), (.n 1), (.n 1), (.n 1)])
  .done)))
 (.seq (.reg false (.op 0 [] (some 5) none false (.load (some 1) (.t 2))
  (.op 1 [] (some 6) none false (.load (some 1) (.t 2))
  (.op 2 [] (some 7) none false (.mov (.t 1))
  (.op 3 [] (some 8) none false (.lit 8 1 [(.v (.int .i64 0))] 2 [(0, 1, (.t 7)), (1, 1, (.v (.int .i64 60)))])
  (.op 4 [] (some 9) none false (.build [(.n 1), (.v (.int .i64 0)), (.v (.int .i64 0)), (.v (.int .i64 0)), (.n 1), (.n 1), (.n 1)] [(0, 1, (.t 5)), (1, 1, (.v (.int .i64 6))), (2, 1, (.v (.int .i64 60))), (4, 1, (.t 6)), (6, 1, (.t 8))])
  (.op 5 [] none none false (.store (some 7) (.t 4) (.t 9))
  .done)))))))
 .ret))
theorem dg_impl_topRr : Tryz.f186.body.bind (digC Tryz.prog Tryz.f186.ntmps []) = some c_impl_topRr := by kernel_rfl
theorem rs_impl_topRr : resSlots Tryz.prog Tryz.f186 = some [.m 4 (some 7)] := by kernel_rfl
theorem ok_impl_topRr (o : List (List UInt8)) (s : Int) :
    FnOK Tryz.prog 186 [.agg [.d (encBB o)], .one (.d (.sc (.int .i64 s)))] (fun ra _ => ra = [.agg [.d (encBB o), .d (.sc (.int .i64 6)), .d (.sc (.int .i64 60)), .d (.sc (.int .i64 0)), .d (encBB o), .d (.sl 1 []), .own true (encI [s, 60])]]) := by
  refine FnOK.ofK Tryz.func186 (by kernel_rfl) dg_impl_topRr rs_impl_topRr rfl rfl ?_
  unfold c_impl_topRr
  refine kSeq (kReg (kBox rfl rfl rfl rfl rfl (kAlloc rfl rfl (kDone (kSeq (kReg (kLoadP rfl rfl rfl (kLoadP rfl rfl rfl (kMovC rfl (kLit rfl rfl rfl rfl (kMem [(36864, ⟨1, 0, .arr true _⟩), (20480, ⟨1, 0, .box [.nil 1, .d _, .d _, .d _, .nil 1, .nil 1, .nil 1]⟩)] [(5, .g [.d _]), (6, .g [.d _]), (8, .c (.arr 36864 1)), (4, .c (.ptr 20480 1 0)), (9, .c (.un))] [] ⟨rfl, rfl, trivial⟩ ⟨rfl, rfl, rfl, rfl, rfl, trivial⟩ rfl (kBuildG rfl (kMem [(20480, ⟨1, 0, .box [.nil 1, .d _, .d _, .d _, .nil 1, .nil 1, .nil 1]⟩), (36864, ⟨1, 0, .arr true _⟩)] [(4, .c (.ptr 20480 1 0)), (9, .g [.d _, .d _, .d _, .d _, .d _, .nil 1, .arr 36864 1])] [] ⟨rfl, rfl, trivial⟩ ⟨rfl, rfl, trivial⟩ rfl (kStoreP rfl rfl rfl rfl (kDone (kMem [(20480, ⟨1, 0, .box [.d _, .d _, .d _, .d _, .d _, .nil 1, .arr 36864 1]⟩), (36864, ⟨1, 0, .arr true _⟩)] [(4, .c (.ptr 20480 1 0))] [] ⟨rfl, rfl, trivial⟩ ⟨rfl, trivial⟩ rfl (kRet (endRetA (ra := [.agg [(.d _), (.d _), (.d _), (.d _), (.d _), (.d _), (.own true _)]]) rfl rfl))))))))))))))))))

def c_impl_ZoneNew : C := (.seq (.reg false (.op 0 [] (some 2) none false (.box 2 (.t 0))
  (.op 1 [] (some 4) none false (.alloc 4 [(.n 1), (.n 7)])
  (.op 2 [] (some 5) none false (.mov (.v (.bool false)))
  .done))))
 (.seq (.reg true (.op 0 [] (some 7) none true (.load (some 1) (.t 2))
  (.op 1 [] (some 8) none true (.load (some 1) (.t 2))
  (.op 2 [] (some 9) none true (.mov (.t 1))
  (.alt (.op 3 [1] (some 10) none false (.call 10 186 [(.t 8), (.t 9)])
  (.alt (.op 4 [1] (some 11) none false (.lit 11 7 [(.n 1), (.v (.int .i64 0)), (.v (.int .i64 0)), (.v (.int .i64 0)), (.n 1), (.n 1), (.n 1)] 1 [(0, 7, (.t 10))])
  (.op 5 [] (some 12) none true (.build [(.n 1), (.n 7)] [(0, 1, (.t 7)), (1, 1, (.t 11))])
  (.op 6 [] (some 6) none false (.alloc 6 [(.n 1), (.n 7)])
  (.op 7 [0, 1] none none false (.store (some 2) (.t 6) (.t 12))
  .done))))
  (.op 6 [] (some 6) none false (.alloc 6 [(.n 1), (.n 7)])
  (.op 4 [1] (some 11) none false (.lit 11 7 [(.n 1), (.v (.int .i64 0)), (.v (.int .i64 0)), (.v (.int .i64 0)), (.n 1), (.n 1), (.n 1)] 1 [(0, 7, (.t 10))])
  (.op 5 [] (some 12) none true (.build [(.n 1), (.n 7)] [(0, 1, (.t 7)), (1, 1, (.t 11))])
  (.op 7 [0, 1] none none false (.store (some 2) (.t 6) (.t 12))
  .done))))))
  (.op 6 [] (some 6) none false (.alloc 6 [(.n 1), (.n 7)])
  (.op 3 [1] (some 10) none false (.call 10 186 [(.t 8), (.t 9)])
  (.op 4 [1] (some 11) none false (.lit 11 7 [(.n 1), (.v (.int .i64 0)), (.v (.int .i64 0)), (.v (.int .i64 0)), (.n 1), (.n 1), (.n 1)] 1 [(0, 7, (.t 10))])
  (.op 5 [] (some 12) none true (.build [(.n 1), (.n 7)] [(0, 1, (.t 7)), (1, 1, (.t 11))])
  (.op 7 [0, 1] none none false (.store (some 2) (.t 6) (.t 12))
  .done))))))))))
 (.seq (.seq (.reg false (.op 0 [] (some 13) none false (.load (some 2) (.t 6))
  (.op 1 [] (some 14) none false (.call 14 19 [(.t 13)])
  (.op 2 [] (some 15) none false (.un .not (.t 14))
  .done))))
 (.cond (.t 15)
 (.seq (.reg false (.op 0 [] (some 16) none false (.build [(.n 1), (.n 7)] [])
  (.op 1 [] none none false (.store (some 2) (.t 4) (.t 16))
  (.op 2 [] (some 5) none false (.mov (.v (.bool false)))
  .done))))
 .ret)
 .skip))
 (.seq (.reg false (.op 0 [] (some 17) none false (.load (some 2) (.t 6))
  (.op 1 [] (some 18) none false (.call 18 75 [(.t 17)])
  (.op 2 [] none none false (.store (some 2) (.t 4) (.t 18))
  (.op 3 [] (some 5) none false (.mov (.v (.bool true)))
  .done)))))
 .ret))))
theorem dg_impl_ZoneNew : Tryz.f82.body.bind (digC Tryz.prog Tryz.f82.ntmps []) = some c_impl_ZoneNew := by kernel_rfl
theorem rs_impl_ZoneNew : resSlots Tryz.prog Tryz.f82 = some [.m 4 (some 2), .s 5] := by kernel_rfl
theorem ok_impl_ZoneNew (o : List (List UInt8)) (s : Int) (ho : SmallBB o) :
    FnOK Tryz.prog 82 [.agg [.d (encBB o)], .one (.d (.sc (.int .i64 s)))] (fun ra _ => ra = [.agg [.own true (encBB (zoneNewN o s).origin), .own true (encR (zoneNewN o s).rrs)], .one (.d (.sc (.bool (zoneOk (newZ o s)))))]) := by
  refine FnOK.ofK Tryz.func82 (by kernel_rfl) dg_impl_ZoneNew rs_impl_ZoneNew rfl rfl ?_
  unfold c_impl_ZoneNew
  have hs := SmallZ.top s ho
  refine kSeq (kCut ⟨tabSl [(1, .i s), (2, .c (.ptr (rid 2 0) 1 0)), (4, .c (.ptr (rid 4 0) 1 0)), (5, .b false)], obTab 1 [(rid 2 0, ⟨1, 0, .box [.d (encBB o)]⟩), (rid 4 0, ⟨1, 0, .box [.nil 1, .nil 7]⟩)], []⟩ ?_ (fun x hc => ?_))
  case refine_2 => refine kReg (kBox rfl rfl rfl rfl rfl (kAlloc rfl rfl (kMovC rfl (kDone (kMem [(12288, ⟨1, 0, .box [.d _]⟩), (20480, ⟨1, 0, .box [.nil 1, .nil 7]⟩)] [(1, .c (.d _)), (2, .c (.ptr 12288 1 0)), (4, .c (.ptr 20480 1 0)), (5, .c (.d _))] [] ⟨rfl, rfl, trivial⟩ ⟨rfl, rfl, rfl, rfl, trivial⟩ rfl (hc _ .normA))))))
  refine kSeq (kCut ⟨tabSl [(4, .c (.ptr (rid 4 0) 1 0)), (5, .b false), (6, .c (.ptr (rid 6 0) 1 0))], obTab 1 [(rid 4 0, ⟨1, 0, .box [.nil 1, .nil 7]⟩), (rid 6 0, ⟨1, 0, .box [.d (encBB o), .arr (rid 11 0) 1]⟩), (rid 11 0, ⟨1, 0, .arr false (encR [topR o s])⟩)], []⟩ ?_ (fun x hc => ?_))
  case refine_2 => refine kRegD (kLoadP rfl rfl rfl (kLoadP rfl rfl rfl (kMovC rfl (kAlt (kRelK rfl rfl (kCall1 false (ok_impl_topRr _ _) ⟨⟨⟨rfl, trivial⟩, Nat.le_of_ble_eq_true rfl⟩, rfl, trivial⟩ rfl rfl rfl (fun _ => (kAlt (kRelK rfl rfl (kLit rfl rfl rfl rfl (kMem [(49152, ⟨2, 0, .arr false _⟩)] [(7, .g [.d _]), (11, .c (.arr 49152 2))] [12288, 12288] ⟨rfl, trivial⟩ ⟨rfl, rfl, trivial⟩ rfl (kBuildG rfl (kAlloc rfl rfl (kMem [(28672, ⟨2, 0, .box [.nil 1, .nil 7]⟩), (49152, ⟨2, 0, .arr false _⟩)] [(6, .c (.ptr 28672 2 0)), (12, .g [.d _, .arr 49152 2])] [12288, 12288] ⟨rfl, rfl, trivial⟩ ⟨rfl, rfl, trivial⟩ rfl (kRelF rfl rfl (kStoreP rfl rfl rfl rfl (kDone (kH (kMem [(20480, ⟨1, 0, .box [.nil 1, .nil 7]⟩), (28672, ⟨2, 0, .box [.d _, .arr 49152 2]⟩), (49152, ⟨2, 0, .arr false _⟩)] [(4, .c (.ptr 20480 1 0)), (5, .c (.d _)), (6, .c (.ptr 28672 2 0))] [] ⟨rfl, rfl, rfl, trivial⟩ ⟨rfl, rfl, rfl, trivial⟩ rfl (hc _ .normA)))))))))))) (kAlloc rfl rfl (kRelK rfl rfl (kLit rfl rfl rfl rfl (kMem [(49152, ⟨2, 0, .arr false _⟩), (28672, ⟨2, 0, .box [.nil 1, .nil 7]⟩)] [(7, .g [.d _]), (11, .c (.arr 49152 2)), (6, .c (.ptr 28672 2 0))] [12288, 12288] ⟨rfl, rfl, trivial⟩ ⟨rfl, rfl, rfl, trivial⟩ rfl (kBuildG rfl (kMem [(28672, ⟨2, 0, .box [.nil 1, .nil 7]⟩), (49152, ⟨2, 0, .arr false _⟩)] [(6, .c (.ptr 28672 2 0)), (12, .g [.d _, .arr 49152 2])] [12288, 12288] ⟨rfl, rfl, trivial⟩ ⟨rfl, rfl, trivial⟩ rfl (kRelF rfl rfl (kStoreP rfl rfl rfl rfl (kDone (kH (kMem [(20480, ⟨1, 0, .box [.nil 1, .nil 7]⟩), (28672, ⟨2, 0, .box [.d _, .arr 49152 2]⟩), (49152, ⟨2, 0, .arr false _⟩)] [(4, .c (.ptr 20480 1 0)), (5, .c (.d _)), (6, .c (.ptr 28672 2 0))] [] ⟨rfl, rfl, rfl, trivial⟩ ⟨rfl, rfl, rfl, trivial⟩ rfl (hc _ .normA)))))))))))))))) (kAlloc rfl rfl (kRelK rfl rfl (kCall1 false (ok_impl_topRr _ _) ⟨⟨⟨rfl, trivial⟩, Nat.le_of_ble_eq_true rfl⟩, rfl, trivial⟩ rfl rfl rfl (fun _ => (kRelK rfl rfl (kLit rfl rfl rfl rfl (kMem [(49152, ⟨2, 0, .arr false _⟩), (28672, ⟨2, 0, .box [.nil 1, .nil 7]⟩)] [(7, .g [.d _]), (11, .c (.arr 49152 2)), (6, .c (.ptr 28672 2 0))] [12288, 12288] ⟨rfl, rfl, trivial⟩ ⟨rfl, rfl, rfl, trivial⟩ rfl (kBuildG rfl (kMem [(28672, ⟨2, 0, .box [.nil 1, .nil 7]⟩), (49152, ⟨2, 0, .arr false _⟩)] [(6, .c (.ptr 28672 2 0)), (12, .g [.d _, .arr 49152 2])] [12288, 12288] ⟨rfl, rfl, trivial⟩ ⟨rfl, rfl, trivial⟩ rfl (kRelF rfl rfl (kStoreP rfl rfl rfl rfl (kDone (kH (kMem [(20480, ⟨1, 0, .box [.nil 1, .nil 7]⟩), (28672, ⟨2, 0, .box [.d _, .arr 49152 2]⟩), (49152, ⟨2, 0, .arr false _⟩)] [(4, .c (.ptr 20480 1 0)), (5, .c (.d _)), (6, .c (.ptr 28672 2 0))] [] ⟨rfl, rfl, rfl, trivial⟩ ⟨rfl, rfl, rfl, trivial⟩ rfl (hc _ .normA)))))))))))))))))))
  refine kSeq (kSeq (kReg (kLoadP rfl rfl rfl ?_)))
  refine kCallD (ok_impl_ZoneOk (newZ o s) hs) ⟨⟨⟨rfl, rfl, trivial⟩, Nat.le_of_ble_eq_true rfl⟩, trivial⟩ rfl rfl rfl rfl rfl ?_
  cases hok : zoneOk (newZ o s)
  · rw [show zoneNewN o s = zeroZ by unfold zoneNewN; rw [hok]; rfl]
    refine kUn rfl rfl (kDone (kCondT rfl (kSeq (kReg (kMem [(20480, ⟨1, 0, .box [.nil 1, .nil 7]⟩)] [(4, .c (.ptr 20480 1 0))] [] ⟨rfl, trivial⟩ ⟨rfl, trivial⟩ rfl (kBuildG rfl (kMem [(20480, ⟨1, 0, .box [.nil 1, .nil 7]⟩)] [(4, .c (.ptr 20480 1 0)), (16, .g [.nil 1, .nil 7])] [] ⟨rfl, trivial⟩ ⟨rfl, rfl, trivial⟩ rfl (kStoreP rfl rfl rfl rfl (kMovC rfl (kDone (kMem [(20480, ⟨1, 0, .box [.nil 1, .nil 7]⟩)] [(4, .c (.ptr 20480 1 0)), (5, .c (.d _))] [] ⟨rfl, trivial⟩ ⟨rfl, rfl, trivial⟩ rfl (kRet (endRetA (ra := [.agg [(.own true _), (.own true _)], .one (.d _)]) rfl rfl)))))))))))))
  · rw [show zoneNewN o s = newZ o s by unfold zoneNewN; rw [hok]; rfl]
    refine kUn rfl rfl (kDone (kCondF rfl (kSkip (kSeq (kReg (kLoadP rfl rfl rfl ?_))))))
    refine kCall1 true (ok_impl_Zone_copied (newZ o s) hs) ⟨⟨⟨rfl, rfl, trivial⟩, Nat.le_of_ble_eq_true rfl⟩, trivial⟩ rfl rfl rfl (fun _ => ?_)
    refine kMem [(20480, ⟨1, 0, .box [.nil 1, .nil 7]⟩), (77824, ⟨2, 0, .arr true _⟩), (77825, ⟨2, 0, .arr true _⟩)] [(4, .c (.ptr 20480 1 0)), (18, .g [.arr 77824 2, .arr 77825 2])] [] ⟨rfl, rfl, rfl, trivial⟩ ⟨rfl, rfl, trivial⟩ rfl (kStoreP rfl rfl rfl rfl (kMovC rfl (kDone (kMem [(20480, ⟨1, 0, .box [.arr 77824 2, .arr 77825 2]⟩), (77824, ⟨2, 0, .arr true _⟩), (77825, ⟨2, 0, .arr true _⟩)] [(4, .c (.ptr 20480 1 0)), (5, .c (.d _))] [] ⟨rfl, rfl, rfl, trivial⟩ ⟨rfl, rfl, trivial⟩ rfl (kRet (endRetA (ra := [.agg [(.own true _), (.own true _)], .one (.d _)]) rfl rfl))))))

def c_impl_Zone_top_1 : C := (.seq (.reg false (.op 0 [] (some 1) none false (.box 1 (.t 0))
  (.op 1 [] (some 2) none false (.mov (.v (.bool false)))
  .done)))
 (.seq (.reg false (.op 0 [] (some 3) none false (.fad (.t 1) 1)
  (.op 1 [] (some 4) none false (.load none (.t 3))
  (.op 2 [] (some 5) none false (.bin .eql (.t 4) (.v (.int .i64 6)))
  (.op 3 [] (some 2) none false (.mov (.t 5))
  .done)))))
 .ret))
theorem dg_impl_Zone_top_1 : Tryz.f262.body.bind (digC Tryz.prog Tryz.f262.ntmps []) = some c_impl_Zone_top_1 := by kernel_rfl
theorem rs_impl_Zone_top_1 : resSlots Tryz.prog Tryz.f262 = some [.s 2] := by kernel_rfl
theorem ok_impl_Zone_top_1 (r : Rr) :
    FnOK Tryz.prog 262 [.agg (r.cells.map .d)] (fun ra _ => ra = [.one (.d (.sc (.bool (r.ty == 6))))]) := by
  refine FnOK.ofK Tryz.func262 (by kernel_rfl) dg_impl_Zone_top_1 rs_impl_Zone_top_1 rfl rfl ?_
  unfold c_impl_Zone_top_1
  refine kSeq (kReg (kBox rfl rfl rfl rfl rfl (kMovC rfl (kDone (kSeq (kReg (kFadP rfl rfl (kLoadP rfl rfl rfl (kBin rfl rfl rfl (kMovC rfl (kDone (kRet (endRetA (ra := [.one (.d _)]) rfl rfl)))))))))))))

def c_impl_Zone_top : C := (.seq (.reg false (.op 0 [] (some 1) none false (.box 1 (.t 0))
  (.op 1 [] (some 2) none false (.mov (.v (.int .i64 0)))
  .done)))
 (.seq (.reg false (.op 0 [] (some 3) none false (.fad (.t 1) 1)
  (.op 1 [] (some 4) none false (.load none (.t 3))
  (.op 2 [] (some 5) none false (.call 5 261 [(.t 4), (.fn 262)])
  (.op 3 [] (some 2) none false (.mov (.t 5))
  .done)))))
 .ret))
theorem dg_impl_Zone_top : Tryz.f189.body.bind (digC Tryz.prog Tryz.f189.ntmps []) = some c_impl_Zone_top := by kernel_rfl
theorem rs_impl_Zone_top : resSlots Tryz.prog Tryz.f189 = some [.s 2] := by kernel_rfl
theorem ok_impl_Zone_top (z : Zone) (hs : SmallZ z) :
    FnOK Tryz.prog 189 [.agg (z.cells.map .d)] (fun ra _ => ra = [.one (.d (.sc (.int .i64 (topIx z.rrs))))]) := by
  refine FnOK.ofK Tryz.func189 (by kernel_rfl) dg_impl_Zone_top rs_impl_Zone_top rfl rfl ?_
  unfold c_impl_Zone_top
  have h1 := hs.r.len
  refine kSeq (kReg (kBox rfl rfl rfl rfl rfl (kMovC rfl (kDone (kSeq (kReg (kFadP rfl rfl (kLoadP rfl rfl rfl ?_))))))))
  refine kCallD (ok_slices_IndexFunc_Limpl_Rr_impl_Rr z.rrs SmallR (fun r => r.ty == 6) h1 hs.r.mem) ⟨rfl, ⟨rfl, rfl, ⟨_, Tryz.func262, rfl, by kernel_rfl⟩, ?_⟩, trivial⟩ rfl rfl rfl rfl rfl ?_
  · rintro _ R ⟨x, h, rfl, rfl⟩
    exact ok_impl_Zone_top_1 x
  refine kMovC rfl (kDone (kRet (endRetA (ra := [.one (.d _)]) rfl rfl)))

def c_impl_Zone_serial : C := (.seq (.reg false (.op 0 [] (some 1) none false (.box 1 (.t 0))
  (.op 1 [] (some 2) none false (.mov (.v (.int .i64 0)))
  .done)))
 (.seq (.reg true (.op 0 [] (some 3) none true (.fad (.t 1) 1)
  (.op 1 [] (some 4) none true (.load none (.t 3))
  (.op 2 [] (some 5) none true (.load (some 2) (.t 1))
  (.op 3 [2] (some 6) none false (.call 6 189 [(.t 5)])
  (.op 4 [] (some 7) none true (.iad 7 (.t 4) (.t 6))
  (.op 5 [] (some 8) none true (.fad (.t 7) 6)
  (.op 6 [] (some 9) none true (.load none (.t 8))
  (.op 7 [] (some 10) none true (.iad 1 (.t 9) (.v (.int .i64 0)))
  (.op 8 [] (some 11) none true (.load none (.t 10))
  (.op 9 [] (some 2) none true (.mov (.t 11))
  .done)))))))))))
 .ret))
theorem dg_impl_Zone_serial : Tryz.f92.body.bind (digC Tryz.prog Tryz.f92.ntmps []) = some c_impl_Zone_serial := by kernel_rfl
theorem rs_impl_Zone_serial : resSlots Tryz.prog Tryz.f92 = some [.s 2] := by kernel_rfl
theorem ok_impl_Zone_serial (z : Zone) (hs : SmallZ z) (hz : zoneOk z = true) (h0 : (topIx z.rrs).toNat < z.rrs.length) (h1 : 0 < (z.rrs[(topIx z.rrs).toNat]).nums.length) :
    FnOK Tryz.prog 92 [.agg (z.cells.map .d)] (fun ra _ => ra = [.one (.d (.sc (.int .i64 ((z.rrs[(topIx z.rrs).toNat]).nums[0]))))]) := by
  refine FnOK.ofK Tryz.func92 (by kernel_rfl) dg_impl_Zone_serial rs_impl_Zone_serial rfl rfl ?_
  unfold c_impl_Zone_serial
  have ht := topIx_lt hz
  refine kSeq (kReg (kBox rfl rfl rfl rfl rfl (kMovC rfl (kDone (kSeq (kRegD (kFadP rfl rfl (kLoadP rfl rfl rfl (kLoadP rfl rfl rfl (kRelK rfl rfl (kCallD (ok_impl_Zone_top _ (by first | assumption | omega | solve_by_elim [List.getElem_mem] | (simp only [szOut] at *; omega))) ⟨⟨⟨rfl, rfl, trivial⟩, Nat.le_of_ble_eq_true rfl⟩, trivial⟩ rfl rfl rfl rfl rfl (kIadT rfl rfl (by omega) (kFadD rfl (kLoadD rfl rfl (kIadR (m := 0) rfl rfl rfl (by omega) (kLoadD rfl rfl (kMovC rfl (kDone (kH (kRet (endRetA (ra := [.one (.d _)]) rfl rfl)))))))))))))))))))))

def c_impl_Serial : C := (.seq (.reg false (.op 0 [] (some 1) none false (.box 1 (.t 0))
  (.op 1 [] (some 2) none false (.mov (.v (.int .i64 0)))
  .done)))
 (.seq (.seq (.reg false (.op 0 [] (some 3) none false (.load (some 2) (.t 1))
  (.op 1 [] (some 4) none false (.call 4 19 [(.t 3)])
  (.op 2 [] (some 5) none false (.un .not (.t 4))
  .done))))
 (.cond (.t 5)
 (.seq (.reg false (.op 0 [] (some 2) none false (.mov (.v (.int .i64 0)))
  .done))
 .ret)
 .skip))
 (.seq (.reg false (.op 0 [] (some 6) none false (.load (some 2) (.t 1))
  (.op 1 [] (some 7) none false (.call 7 92 [(.t 6)])
  (.op 2 [] (some 2) none false (.mov (.t 7))
  .done))))
 .ret)))
theorem dg_impl_Serial : Tryz.f20.body.bind (digC Tryz.prog Tryz.f20.ntmps []) = some c_impl_Serial := by kernel_rfl
theorem rs_impl_Serial : resSlots Tryz.prog Tryz.f20 = some [.s 2] := by kernel_rfl
theorem ok_impl_Serial (z : Zone) (hs : SmallZ z) :
    FnOK Tryz.prog 20 [.agg (z.cells.map .d)] (fun ra _ => ra = [.one (.d (.sc (.int .i64 (serialN z))))]) := by
  refine FnOK.ofK Tryz.func20 (by kernel_rfl) dg_impl_Serial rs_impl_Serial rfl rfl ?_
  unfold c_impl_Serial
  cases h : zoneOk z
  · rw [show serialN z = 0 by unfold serialN; rw [h]; rfl]
    refine kSeq (kReg (kBox rfl rfl rfl rfl rfl (kMovC rfl (kDone (kSeq (kSeq (kReg (kLoadP rfl rfl rfl (kCallD (ok_impl_ZoneOk _ (by first | assumption | omega | solve_by_elim [List.getElem_mem] | (simp only [szOut] at *; omega) | exact rfl | exact Nat.le_of_ble_eq_true rfl)) ⟨⟨⟨rfl, rfl, trivial⟩, Nat.le_of_ble_eq_true rfl⟩, trivial⟩ rfl rfl rfl rfl rfl (kUn rfl rfl (kDone (kCondN rfl (fun g0 => kSeq (kReg (kMovC rfl (kDone (kRet (endRetA (ra := [.one (.d _)]) rfl rfl)))))) (fun g0 => (by (simp [*] at g0)))))))))))))))
  · obtain ⟨h0, h1, e⟩ := serialN_eq h
    rw [e]
    refine kSeq (kReg (kBox rfl rfl rfl rfl rfl (kMovC rfl (kDone (kSeq (kSeq (kReg (kLoadP rfl rfl rfl (kCallD (ok_impl_ZoneOk _ (by first | assumption | omega | solve_by_elim [List.getElem_mem] | (simp only [szOut] at *; omega) | exact rfl | exact Nat.le_of_ble_eq_true rfl)) ⟨⟨⟨rfl, rfl, trivial⟩, Nat.le_of_ble_eq_true rfl⟩, trivial⟩ rfl rfl rfl rfl rfl (kUn rfl rfl (kDone (kCondN rfl (fun g0 => (by (simp [*] at g0))) (fun g0 => kSkip (kSeq (kReg (kLoadP rfl rfl rfl (kCallD (ok_impl_Zone_serial _ (by first | assumption | omega | solve_by_elim [List.getElem_mem] | (simp only [szOut] at *; omega) | exact rfl | exact Nat.le_of_ble_eq_true rfl) (by first | assumption | omega | solve_by_elim [List.getElem_mem] | (simp only [szOut] at *; omega) | exact rfl | exact Nat.le_of_ble_eq_true rfl) (by first | assumption | omega | solve_by_elim [List.getElem_mem] | (simp only [szOut] at *; omega) | exact rfl | exact Nat.le_of_ble_eq_true rfl) (by first | assumption | omega | solve_by_elim [List.getElem_mem] | (simp only [szOut] at *; omega) | exact rfl | exact Nat.le_of_ble_eq_true rfl)) ⟨⟨⟨rfl, rfl, trivial⟩, Nat.le_of_ble_eq_true rfl⟩, trivial⟩ rfl rfl rfl rfl rfl (kMovC rfl (kDone (kRet (endRetA (ra := [.one (.d _)]) rfl rfl)))))))))))))))))))))

def c_laws_zones : C := (.seq (.reg false (.op 0 [] (some 0) none false (.mov (.v (.bool false)))
  .done))
 (.seq (.reg false (.op 0 [] (some 4) none false (.call 4 83 [(.v (.string ⟨#[104, 111, 109, 101, 46]⟩))])
  (.op 1 [] (some 5) none false (.call 5 82 [(.t 4), (.v (.int .i64 5))])
  (.op 2 [] (some 3) none false (.mov (.t 5))
  (.op 3 [] (some 6) none false (.ext (.t 3) 0)
  (.op 4 [] (some 7) none false (.ext (.t 3) 1)
  (.op 5 [] (some 1) none false (.alloc 1 [(.n 1), (.n 7)])
  (.op 6 [] none none false (.store (some 2) (.t 1) (.t 6))
  (.op 7 [] (some 2) none false (.mov (.t 7))
  .done)))))))))
 (.seq (.reg false (.op 0 [] (some 8) none false (.mov (.t 2))
  (.op 1 [] (some 9) none false (.mov (.t 8))
  (.op 2 [] (some 10) (some (9, true)) false (.fad (.t 1) 1)
  (.op 3 [] (some 11) (some (9, true)) false (.load none (.t 10))
  (.op 4 [] (some 12) (some (9, true)) false (.len (.t 11))
  (.op 5 [] (some 13) (some (9, true)) false (.bin .eql (.t 12) (.v (.int .i64 1)))
  (.op 6 [] (some 14) none false (.pick (.t 9) (.t 13) (.v (.bool false)))
  (.op 7 [] (some 15) none false (.mov (.t 14))
  (.op 8 [] (some 16) (some (15, true)) false (.load (some 2) (.t 1))
  (.op 9 [] (some 17) (some (15, true)) false (.call 17 20 [(.t 16)])
  (.op 10 [] (some 18) (some (15, true)) false (.bin .eql (.t 17) (.v (.int .i64 5)))
  (.op 11 [] (some 19) none false (.pick (.t 15) (.t 18) (.v (.bool false)))
  (.op 12 [] (some 0) none false (.mov (.t 19))
  .done))))))))))))))
 .ret)))
theorem dg_laws_zones : Tryz.f16.body.bind (digC Tryz.prog Tryz.f16.ntmps []) = some c_laws_zones := by kernel_rfl
theorem rs_laws_zones : resSlots Tryz.prog Tryz.f16 = some [.s 0] := by kernel_rfl
theorem ok_laws_zones : FnOK Tryz.prog 16 [] (fun ra _ => ra = [.one (.d (.sc (.bool true)))]) := by
  refine FnOK.ofK Tryz.func16 (by kernel_rfl) dg_laws_zones rs_laws_zones rfl rfl ?_
  unfold c_laws_zones
  have e : readN (ByteArray.mk #[104, 111, 109, 101, 46]).toList = [[104, 111, 109, 101]] := by rw [bt_list]; decide
  have sa : SmallBB [[104, 111, 109, 101]] := SmallBB.ok (by decide)
  have ok := ok_laws_name ⟨#[104, 111, 109, 101, 46]⟩ (by decide)
  rw [e] at ok
  have hz : zoneOk (newZ [[104, 111, 109, 101]] 5) = true := by decide
  have ok2 := ok_impl_ZoneNew [[104, 111, 109, 101]] 5 sa
  rw [show zoneNewN [[104, 111, 109, 101]] 5 = newZ [[104, 111, 109, 101]] 5 by unfold zoneNewN; rw [hz]; rfl, hz] at ok2
  have ok3 := ok_impl_Serial (newZ [[104, 111, 109, 101]] 5) (SmallZ.top 5 sa)
  rw [show serialN (newZ [[104, 111, 109, 101]] 5) = 5 by decide] at ok3
  refine kSeq (kReg (kMovC rfl (kDone ?_)))
  refine kSeq (kReg (kCall1 true ok ⟨rfl, trivial⟩ rfl rfl rfl (fun _ => ?_)))
  refine kCall1 true ok2 ⟨⟨⟨rfl, trivial⟩, Nat.le_of_ble_eq_true rfl⟩, rfl, trivial⟩ rfl rfl rfl (fun _ => ?_)
  refine kMovT rfl (kExtC rfl rfl (kExtC rfl rfl (kAlloc rfl rfl (kMem [(8192, ⟨1, 0, .box [.nil 1, .nil 7]⟩), (24576, ⟨1, 0, .arr true _⟩), (24577, ⟨1, 0, .arr true _⟩)] [(1, .c (.ptr 8192 1 0)), (6, .g [.arr 24576 1, .arr 24577 1]), (7, .c (.d _))] [] ⟨rfl, rfl, rfl, trivial⟩ ⟨rfl, rfl, rfl, trivial⟩ rfl (kStoreP rfl rfl rfl rfl (kMovC rfl (kDone (kSeq (kReg (kMovC rfl (kMovC rfl (kGT rfl (kFadP rfl rfl (kGT rfl (kLoadP rfl rfl rfl (kGT rfl (kLenR rfl rfl (kGT rfl (kBin rfl rfl rfl (kPickT rfl (kMovC rfl (kMovC rfl (kMem [(8192, ⟨1, 0, .box [.arr 24576 1, .arr 24577 1]⟩), (24576, ⟨1, 0, .arr true _⟩), (24577, ⟨1, 0, .arr true _⟩)] [(1, .c (.ptr 8192 1 0)), (16, .c (.un)), (17, .c (.un)), (15, .c (.d _)), (18, .c (.un)), (19, .c (.un))] [] ⟨rfl, rfl, rfl, trivial⟩ ⟨rfl, rfl, rfl, rfl, rfl, rfl, trivial⟩ rfl (kGT rfl (kLoadP rfl rfl rfl (kGT rfl ?_))))))))))))))))))))))))))
  refine kCall1 true ok3 ⟨⟨⟨rfl, rfl, trivial⟩, Nat.le_of_ble_eq_true rfl⟩, trivial⟩ rfl rfl rfl (fun _ => ?_)
  refine kGT rfl (kBin rfl rfl rfl (kPickT rfl (kMovC rfl (kMovC rfl (kDone (kRet (endRetA (ra := [.one (.d _)]) rfl rfl)))))))

def c_impl_SetOf : C := (.seq (.reg false (.op 0 [] (some 3) none false (.box 3 (.t 0))
  (.op 1 [] (some 4) none false (.box 4 (.t 1))
  (.op 2 [] (some 6) none false (.mov (.n 7))
  .done))))
 (.seq (.seq (.reg false (.op 0 [] (some 7) none false (.load (some 2) (.t 3))
  (.op 1 [] (some 8) none false (.call 8 19 [(.t 7)])
  (.op 2 [] (some 9) none false (.un .not (.t 8))
  (.op 3 [] (some 10) none false (.mov (.t 9))
  (.op 4 [] (some 11) (some (10, false)) false (.load (some 1) (.t 4))
  (.op 5 [] (some 12) (some (10, false)) false (.call 12 72 [(.t 11)])
  (.op 6 [] (some 13) (some (10, false)) false (.un .not (.t 12))
  (.op 7 [] (some 14) none false (.pick (.t 10) (.v (.bool true)) (.t 13))
  .done)))))))))
 (.cond (.t 14)
 (.seq (.reg false (.op 0 [] (some 6) none false (.mov (.n 7))
  .done))
 .ret)
 .skip))
 (.seq (.reg false (.op 0 [] (some 15) none false (.load (some 2) (.t 3))
  (.op 1 [] (some 16) none false (.load (some 1) (.t 4))
  (.op 2 [] (some 17) none false (.mov (.t 2))
  (.op 3 [] (some 18) none false (.call 18 85 [(.t 15), (.t 16), (.t 17)])
  (.op 4 [] (some 19) none false (.call 19 84 [(.t 18)])
  (.op 5 [] (some 6) none false (.mov (.t 19))
  .done)))))))
 .ret)))
theorem dg_impl_SetOf : Tryz.f17.body.bind (digC Tryz.prog Tryz.f17.ntmps []) = some c_impl_SetOf := by kernel_rfl
theorem rs_impl_SetOf : resSlots Tryz.prog Tryz.f17 = some [.s 6] := by kernel_rfl
theorem ok_impl_SetOf (z : Zone) (n : List (List UInt8)) (t : Int) (hs : SmallZ z) (hn : SmallBB n) :
    FnOK Tryz.prog 17 [.agg (z.cells.map .d), .agg [.d (encBB n)], .one (.d (.sc (.int .i64 t)))] (fun ra _ => ra = [.one (.own true (encR (setN z n t)))]) := by
  refine FnOK.ofK Tryz.func17 (by kernel_rfl) dg_impl_SetOf rs_impl_SetOf rfl rfl ?_
  unfold c_impl_SetOf
  have n1 := hn.len
  have n2 := hn.mem
  have hsm : SmallRs (setOf z.rrs n t) := hs.r.filter _
  cases h : zoneOk z && nameOk n
  · rw [show setN z n t = [] by unfold setN; rw [h]; rfl]
    refine kSeq (kReg (kBox rfl rfl rfl rfl rfl (kBox rfl rfl rfl rfl rfl (kMovC rfl (kDone (kSeq (kSeq (kReg (kLoadP rfl rfl rfl (kCallD (ok_impl_ZoneOk _ (by first | assumption | omega | solve_by_elim [List.getElem_mem] | (simp only [szOut] at *; omega))) ⟨⟨⟨rfl, rfl, trivial⟩, Nat.le_of_ble_eq_true rfl⟩, trivial⟩ rfl rfl rfl rfl rfl (kUn rfl rfl (kMovC rfl (kGN rfl (fun g0 => kGF rfl (kGF rfl (kGF rfl (kPickT rfl (kMovC rfl (kDone (kCondT rfl (kSeq (kReg (kMovC rfl (kDone (kRet (endRetA (ra := [.one (.own true _)]) rfl rfl))))))))))))) (fun g0 => kGT rfl (kLoadP rfl rfl rfl (kGT rfl (kCallD (ok_impl_NameOk _ (by first | assumption | omega | solve_by_elim [List.getElem_mem] | (simp only [szOut] at *; omega)) (by first | assumption | omega | solve_by_elim [List.getElem_mem] | (simp only [szOut] at *; omega))) ⟨⟨⟨rfl, trivial⟩, Nat.le_of_ble_eq_true rfl⟩, trivial⟩ rfl rfl rfl rfl rfl (kGT rfl (kUn rfl rfl (kPickF rfl (kMovC rfl (kDone (kCondN rfl (fun g1 => kSeq (kReg (kMovC rfl (kDone (kRet (endRetA (ra := [.one (.own true _)]) rfl rfl)))))) (fun g1 => kSkip (kSeq (kReg (kMem [(16384, ⟨1, 0, .box [.d _, .d _]⟩), (20480, ⟨1, 0, .box [.d _]⟩)] [(3, .c (.ptr 16384 1 0)), (4, .c (.ptr 20480 1 0)), (2, .c (.d _)), (15, .c (.un)), (16, .c (.un)), (17, .c (.un)), (18, .c (.un)), (19, .c (.un))] [] ⟨rfl, rfl, trivial⟩ ⟨rfl, rfl, rfl, rfl, rfl, rfl, rfl, rfl, trivial⟩ rfl (kLoadP rfl rfl rfl (kLoadP rfl rfl rfl (kMovC rfl (kCallD2 (ok_impl_Zone_set _ _ _ (by first | assumption | omega | solve_by_elim [List.getElem_mem] | (simp only [szOut] at *; omega)) (by first | assumption | omega | solve_by_elim [List.getElem_mem] | (simp only [szOut] at *; omega))) ⟨⟨⟨rfl, rfl, trivial⟩, Nat.le_of_ble_eq_true rfl⟩, ⟨⟨rfl, trivial⟩, Nat.le_of_ble_eq_true rfl⟩, rfl, trivial⟩ rfl rfl rfl rfl (kCall1 true (ok_impl_copyRrs _ (by first | assumption | omega | solve_by_elim [List.getElem_mem] | (simp only [szOut] at *; omega))) ⟨rfl, trivial⟩ rfl rfl rfl (fun _ => (kMovC rfl (kDone (kMem [(81920, ⟨1, 0, .arr true _⟩)] [(6, .c (.arr 81920 1))] [] ⟨rfl, trivial⟩ ⟨rfl, trivial⟩ rfl (kRet (endRetA (ra := [.one (.own true _)]) rfl ?_))))))))))))))))))))))))))))))))))))))
    all_goals simp_all
  · rw [show setN z n t = setOf z.rrs n t by unfold setN; rw [h]; rfl]
    have h' := h
    simp only [Bool.and_eq_true] at h'
    obtain ⟨a1, a2⟩ := h'
    refine kSeq (kReg (kBox rfl rfl rfl rfl rfl (kBox rfl rfl rfl rfl rfl (kMovC rfl (kDone (kSeq (kSeq (kReg (kLoadP rfl rfl rfl (kCallD (ok_impl_ZoneOk _ (by first | assumption | omega | solve_by_elim [List.getElem_mem] | (simp only [szOut] at *; omega))) ⟨⟨⟨rfl, rfl, trivial⟩, Nat.le_of_ble_eq_true rfl⟩, trivial⟩ rfl rfl rfl rfl rfl (kUn rfl rfl (kMovC rfl (kGN rfl (fun g0 => (by (simp [*] at g0))) (fun g0 => kGT rfl (kLoadP rfl rfl rfl (kGT rfl (kCallD (ok_impl_NameOk _ (by first | assumption | omega | solve_by_elim [List.getElem_mem] | (simp only [szOut] at *; omega)) (by first | assumption | omega | solve_by_elim [List.getElem_mem] | (simp only [szOut] at *; omega))) ⟨⟨⟨rfl, trivial⟩, Nat.le_of_ble_eq_true rfl⟩, trivial⟩ rfl rfl rfl rfl rfl (kGT rfl (kUn rfl rfl (kPickF rfl (kMovC rfl (kDone (kCondN rfl (fun g1 => (by (simp [*] at g1))) (fun g1 => kSkip (kSeq (kReg (kMem [(16384, ⟨1, 0, .box [.d _, .d _]⟩), (20480, ⟨1, 0, .box [.d _]⟩)] [(3, .c (.ptr 16384 1 0)), (4, .c (.ptr 20480 1 0)), (2, .c (.d _)), (15, .c (.un)), (16, .c (.un)), (17, .c (.un)), (18, .c (.un)), (19, .c (.un))] [] ⟨rfl, rfl, trivial⟩ ⟨rfl, rfl, rfl, rfl, rfl, rfl, rfl, rfl, trivial⟩ rfl (kLoadP rfl rfl rfl (kLoadP rfl rfl rfl (kMovC rfl (kCallD2 (ok_impl_Zone_set _ _ _ (by first | assumption | omega | solve_by_elim [List.getElem_mem] | (simp only [szOut] at *; omega)) (by first | assumption | omega | solve_by_elim [List.getElem_mem] | (simp only [szOut] at *; omega))) ⟨⟨⟨rfl, rfl, trivial⟩, Nat.le_of_ble_eq_true rfl⟩, ⟨⟨rfl, trivial⟩, Nat.le_of_ble_eq_true rfl⟩, rfl, trivial⟩ rfl rfl rfl rfl (kCall1 true (ok_impl_copyRrs _ (by first | assumption | omega | solve_by_elim [List.getElem_mem] | (simp only [szOut] at *; omega))) ⟨rfl, trivial⟩ rfl rfl rfl (fun _ => (kMovC rfl (kDone (kMem [(81920, ⟨1, 0, .arr true _⟩)] [(6, .c (.arr 81920 1))] [] ⟨rfl, trivial⟩ ⟨rfl, trivial⟩ rfl (kRet (endRetA (ra := [.one (.own true _)]) rfl rfl))))))))))))))))))))))))))))))))))))))

def c_impl_Zone_bumped : C := (.seq (.reg false (.op 0 [] (some 1) none false (.box 1 (.t 0))
  (.op 1 [] (some 2) none false (.alloc 2 [(.n 1), (.n 7)])
  .done)))
 (.seq (.reg false (.op 0 [] (some 4) none false (.load (some 2) (.t 1))
  (.op 1 [] (some 5) none false (.call 5 75 [(.t 4)])
  (.op 2 [] (some 3) none false (.alloc 3 [(.n 1), (.n 7)])
  (.op 3 [] none none false (.store (some 2) (.t 3) (.t 5))
  .done)))))
 (.seq (.reg true (.op 0 [] (some 6) none true (.fad (.t 3) 1)
  (.op 1 [] (some 7) none true (.load none (.t 6))
  (.op 2 [] (some 8) none true (.load (some 2) (.t 3))
  (.op 7 [] (some 13) none true (.load (some 2) (.t 1))
  (.op 3 [2] (some 9) none false (.call 9 189 [(.t 8)])
  (.op 4 [] (some 10) none true (.iad 7 (.t 7) (.t 9))
  (.op 5 [] (some 11) none true (.fad (.t 10) 6)
  (.op 6 [] (some 12) none true (.load none (.t 11))
  (.op 8 [7, 2] (some 14) none false (.call 14 92 [(.t 13)])
  (.op 9 [] (some 15) none true (.bin .add (.t 14) (.v (.int .i64 1)))
  (.op 10 [] (some 16) none true (.bin .rem (.t 15) (.v (.int .i64 4294967296)))
  (.op 11 [] (some 17) none true (.iad 1 (.t 12) (.v (.int .i64 0)))
  (.op 12 [6, 1, 2, 7] none none false (.store none (.t 17) (.t 16))
  .done))))))))))))))
 (.seq (.reg false (.op 0 [] (some 18) none false (.load (some 2) (.t 3))
  (.op 1 [] none none false (.store (some 2) (.t 2) (.t 18))
  .done)))
 .ret))))
theorem dg_impl_Zone_bumped : Tryz.f86.body.bind (digC Tryz.prog Tryz.f86.ntmps []) = some c_impl_Zone_bumped := by kernel_rfl
theorem rs_impl_Zone_bumped : resSlots Tryz.prog Tryz.f86 = some [.m 2 (some 2)] := by kernel_rfl
theorem ok_impl_Zone_bumped (z : Zone) (hs : SmallZ z) (hz : zoneOk z = true) (h0 : (topIx z.rrs).toNat < z.rrs.length) (h1 : 0 < (z.rrs[(topIx z.rrs).toNat]).nums.length)
    (hw : 0 ≤ (z.rrs[(topIx z.rrs).toNat]).nums[0] ∧ (z.rrs[(topIx z.rrs).toNat]).nums[0] < 4294967296) :
    FnOK Tryz.prog 86 [.agg (z.cells.map .d)] (fun ra _ => ra = [.agg [.own true (encBB z.origin), .own true (encR (bumpZ z).rrs)]]) := by
  refine FnOK.ofK Tryz.func86 (by kernel_rfl) dg_impl_Zone_bumped rs_impl_Zone_bumped rfl rfl ?_
  unfold c_impl_Zone_bumped
  have ht := topIx_lt hz
  refine kSeq (kCut ⟨tabSl [(1, .c (.ptr (rid 1 0) 1 0)), (2, .c (.ptr (rid 2 0) 1 0))], obTab 1 [(rid 1 0, ⟨1, 0, .box (z.cells.map .d)⟩), (rid 2 0, ⟨1, 0, .box [.nil 1, .nil 7]⟩)], []⟩ ?_ (fun x hc => ?_))
  case refine_2 => refine kReg (kBox rfl rfl rfl rfl rfl (kAlloc rfl rfl (kDone (kMem [(8192, ⟨1, 0, .box [.d _, .d _]⟩), (12288, ⟨1, 0, .box [.nil 1, .nil 7]⟩)] [(1, .c (.ptr 8192 1 0)), (2, .c (.ptr 12288 1 0))] [] ⟨rfl, rfl, trivial⟩ ⟨rfl, rfl, trivial⟩ rfl (hc _ .normA)))))
  refine kSeq (kCut ⟨tabSl [(1, .c (.ptr (rid 1 0) 1 0)), (2, .c (.ptr (rid 2 0) 1 0)), (3, .c (.ptr (rid 3 0) 1 0))], obTab 1 [(rid 1 0, ⟨1, 0, .box (z.cells.map .d)⟩), (rid 2 0, ⟨1, 0, .box [.nil 1, .nil 7]⟩), (rid 3 0, ⟨1, 0, .box [.arr (rid 5 0) 1, .arr (rid 5 1) 1]⟩), (rid 5 0, ⟨1, 0, .arr true (encBB z.origin)⟩), (rid 5 1, ⟨1, 0, .arr true (encR z.rrs)⟩)], []⟩ ?_ (fun x hc => ?_))
  case refine_2 => refine kReg (kLoadP rfl rfl rfl (kCall1 true (ok_impl_Zone_copied _ (by first | assumption | omega | solve_by_elim [List.getElem_mem] | (simp only [szOut] at *; omega))) ⟨⟨⟨rfl, rfl, trivial⟩, Nat.le_of_ble_eq_true rfl⟩, trivial⟩ rfl rfl rfl (fun _ => (kAlloc rfl rfl (kMem [(16384, ⟨2, 0, .box [.nil 1, .nil 7]⟩), (24576, ⟨2, 0, .arr true _⟩), (24577, ⟨2, 0, .arr true _⟩)] [(3, .c (.ptr 16384 2 0)), (5, .g [.arr 24576 2, .arr 24577 2])] [] ⟨rfl, rfl, rfl, trivial⟩ ⟨rfl, rfl, trivial⟩ rfl (kStoreP rfl rfl rfl rfl (kDone (kMem [(8192, ⟨1, 0, .box [.d _, .d _]⟩), (12288, ⟨1, 0, .box [.nil 1, .nil 7]⟩), (16384, ⟨2, 0, .box [.arr 24576 2, .arr 24577 2]⟩), (24576, ⟨2, 0, .arr true _⟩), (24577, ⟨2, 0, .arr true _⟩)] [(1, .c (.ptr 8192 1 0)), (2, .c (.ptr 12288 1 0)), (3, .c (.ptr 16384 2 0))] [] ⟨rfl, rfl, rfl, rfl, rfl, trivial⟩ ⟨rfl, rfl, rfl, trivial⟩ rfl (hc _ .normA)))))))))
  refine kSeq (kCut ⟨tabSl [(2, .c (.ptr (rid 2 0) 1 0)), (3, .c (.ptr (rid 3 0) 1 0))], obTab 1 [(rid 2 0, ⟨1, 0, .box [.nil 1, .nil 7]⟩), (rid 3 0, ⟨1, 0, .box [.arr (rid 5 0) 1, .arr (rid 5 1) 1]⟩), (rid 5 0, ⟨1, 0, .arr true (encBB z.origin)⟩), (rid 5 1, ⟨1, 0, .arr true (encR (bumpZ z).rrs)⟩)], []⟩ ?_ (fun x hc => ?_))
  case refine_2 =>
    refine kRegD (kFadP rfl rfl (kLoadP rfl rfl rfl (kLoadP rfl rfl rfl (kLoadP rfl rfl rfl (kRelK rfl rfl (kCallD (ok_impl_Zone_top _ (by first | assumption | omega | solve_by_elim [List.getElem_mem] | (simp only [szOut] at *; omega))) ⟨⟨⟨rfl, rfl, trivial⟩, Nat.le_of_ble_eq_true rfl⟩, trivial⟩ rfl rfl rfl rfl rfl ?_))))))
    refine kIadA rfl rfl rfl rfl ⟨ht.1, by rw [len_encR]; exact h0⟩ ?_
    refine kFadE rfl rfl ?_
    refine kLoadE rfl rfl (v := .c (.sub (rid 5 1) 1 0 (topIx z.rrs).toNat 6)) ?_ ?_
    · show pickCells none (AC.ofCells _ _ _ _ 6 (((encR z.rrs).row _).drop 6)) = _
      rw [row_encR _ _ h0]
      rfl
    refine kRelK rfl rfl (kCallD (ok_impl_Zone_serial _ (by first | assumption | omega | solve_by_elim [List.getElem_mem] | (simp only [szOut] at *; omega)) (by first | assumption | omega | solve_by_elim [List.getElem_mem] | (simp only [szOut] at *; omega)) (by first | assumption | omega | solve_by_elim [List.getElem_mem] | (simp only [szOut] at *; omega)) (by first | assumption | omega | solve_by_elim [List.getElem_mem] | (simp only [szOut] at *; omega))) ⟨⟨⟨rfl, rfl, trivial⟩, Nat.le_of_ble_eq_true rfl⟩, trivial⟩ rfl rfl rfl rfl rfl (kAdd rfl rfl (by omega) (kBin rfl rfl rfl ?_)))
    have hat : (encR z.rrs).at (topIx z.rrs).toNat 6 = encI (z.rrs[(topIx z.rrs).toNat]).nums := by rw [at_encR _ _ _ h0]; rfl
    refine kIadS rfl rfl rfl (by rw [hat]; rfl) (by rw [hat]; rfl) ⟨by decide, by rw [hat, len_encI]; exact h1⟩ ?_
    refine kRelF rfl rfl ?_
    refine kStoreS rfl rfl rfl rfl (by rw [hat]; exact Nat.zero_lt_one) (by rw [hat]; show ((DV.row _ 0).getD 0 _).isSc = true; rw [row_encI _ _ h1]; rfl) ?_
    have key : (encR z.rrs).setCell (topIx z.rrs).toNat 6 (((encR z.rrs).at (topIx z.rrs).toNat 6).setCell (Int.toNat 0) 0 (.sc (.int .i64 (Int.tmod ((z.rrs[(topIx z.rrs).toNat]).nums[0] + 1) 4294967296)))) = encR (bumpZ z).rrs := by
      rw [hat, show Int.toNat 0 = 0 from rfl, setCell_encI _ _ _ h1, Int.tmod_eq_emod_of_nonneg (by omega)]
      have e1 : z.rrs.getD (topIx z.rrs).toNat emptyR = z.rrs[(topIx z.rrs).toNat] := by rw [List.getD_eq_getElem?_getD, List.getElem?_eq_getElem h0]; rfl
      have e2 : (z.rrs[(topIx z.rrs).toNat]).nums.getD 0 0 = (z.rrs[(topIx z.rrs).toNat]).nums[0] := by rw [List.getD_eq_getElem?_getD, List.getElem?_eq_getElem h1]; rfl
      rw [setCell_encR _ _ _ (bumpR (z.rrs[(topIx z.rrs).toNat])) _ h0 (by simp only [bumpR, e2]; rfl)]
      simp only [bumpZ, e1]
    rw [key]
    refine kDone ?_
    refine kH ?_
    exact hc _ .normA
  refine kSeq (kReg (kLoadP rfl rfl rfl (kMem [(12288, ⟨1, 0, .box [.nil 1, .nil 7]⟩), (24576, ⟨1, 0, .arr true _⟩), (24577, ⟨1, 0, .arr true _⟩)] [(2, .c (.ptr 12288 1 0)), (18, .g [.arr 24576 1, .arr 24577 1])] [] ⟨rfl, rfl, rfl, trivial⟩ ⟨rfl, rfl, trivial⟩ rfl (kStoreP rfl rfl rfl rfl (kDone (kMem [(12288, ⟨1, 0, .box [.arr 24576 1, .arr 24577 1]⟩), (24576, ⟨1, 0, .arr true _⟩), (24577, ⟨1, 0, .arr true _⟩)] [(2, .c (.ptr 12288 1 0))] [] ⟨rfl, rfl, rfl, trivial⟩ ⟨rfl, trivial⟩ rfl (kRet (endRetA (ra := [.agg [(.own true _), (.own true _)]]) rfl rfl))))))))

def c_impl_Bump : C := (.seq (.reg false (.op 0 [] (some 1) none false (.box 1 (.t 0))
  (.op 1 [] (some 2) none false (.alloc 2 [(.n 1), (.n 7)])
  (.op 2 [] (some 3) none false (.mov (.v (.bool false)))
  .done))))
 (.seq (.seq (.reg false (.op 0 [] (some 4) none false (.load (some 2) (.t 1))
  (.op 1 [] (some 5) none false (.call 5 19 [(.t 4)])
  (.op 2 [] (some 6) none false (.un .not (.t 5))
  .done))))
 (.cond (.t 6)
 (.seq (.reg false (.op 0 [] (some 7) none false (.build [(.n 1), (.n 7)] [])
  (.op 1 [] none none false (.store (some 2) (.t 2) (.t 7))
  (.op 2 [] (some 3) none false (.mov (.v (.bool false)))
  .done))))
 .ret)
 .skip))
 (.seq (.reg false (.op 0 [] (some 8) none false (.load (some 2) (.t 1))
  (.op 1 [] (some 9) none false (.call 9 86 [(.t 8)])
  (.op 2 [] none none false (.store (some 2) (.t 2) (.t 9))
  (.op 3 [] (some 3) none false (.mov (.v (.bool true)))
  .done)))))
 .ret)))
theorem dg_impl_Bump : Tryz.f18.body.bind (digC Tryz.prog Tryz.f18.ntmps []) = some c_impl_Bump := by kernel_rfl
theorem rs_impl_Bump : resSlots Tryz.prog Tryz.f18 = some [.m 2 (some 2), .s 3] := by kernel_rfl
theorem ok_impl_Bump (z : Zone) (hs : SmallZ z) :
    FnOK Tryz.prog 18 [.agg (z.cells.map .d)] (fun ra _ => ra = [.agg [.own true (encBB (bumpN z).origin), .own true (encR (bumpN z).rrs)], .one (.d (.sc (.bool (zoneOk z))))]) := by
  refine FnOK.ofK Tryz.func18 (by kernel_rfl) dg_impl_Bump rs_impl_Bump rfl rfl ?_
  unfold c_impl_Bump
  cases h : zoneOk z
  · rw [show bumpN z = zeroZ by unfold bumpN; rw [h]; rfl]
    refine kSeq (kReg (kBox rfl rfl rfl rfl rfl (kAlloc rfl rfl (kMovC rfl (kDone (kSeq (kSeq (kReg (kLoadP rfl rfl rfl (kCallD (ok_impl_ZoneOk _ (by first | assumption | omega | solve_by_elim [List.getElem_mem] | (simp only [szOut] at *; omega))) ⟨⟨⟨rfl, rfl, trivial⟩, Nat.le_of_ble_eq_true rfl⟩, trivial⟩ rfl rfl rfl rfl rfl (kUn rfl rfl (kDone (kCondN rfl (fun g0 => kSeq (kReg (kMem [(12288, ⟨1, 0, .box [.nil 1, .nil 7]⟩)] [(2, .c (.ptr 12288 1 0)), (7, .c (.un))] [] ⟨rfl, trivial⟩ ⟨rfl, rfl, trivial⟩ rfl (kBuildG rfl (kMem [(12288, ⟨1, 0, .box [.nil 1, .nil 7]⟩)] [(2, .c (.ptr 12288 1 0)), (7, .g [.nil 1, .nil 7])] [] ⟨rfl, trivial⟩ ⟨rfl, rfl, trivial⟩ rfl (kStoreP rfl rfl rfl rfl (kMovC rfl (kDone (kMem [(12288, ⟨1, 0, .box [.nil 1, .nil 7]⟩)] [(2, .c (.ptr 12288 1 0)), (3, .c (.d _))] [] ⟨rfl, trivial⟩ ⟨rfl, rfl, trivial⟩ rfl (kRet (endRetA (ra := [.agg [(.own true _), (.own true _)], .one (.d _)]) rfl rfl))))))))))) (fun g0 => (by (simp [*] at g0))))))))))))))))
  · rw [show bumpN z = bumpZ z by unfold bumpN; rw [h]; rfl]
    have ht := topIx_lt h
    have h0 : (topIx z.rrs).toNat < z.rrs.length := by omega
    obtain ⟨s1, s2, s3, s4⟩ := rdata_soa (zone_rrs h _ (List.getElem_mem h0)) (topIx_ty h h0)
    have h1 : 0 < (z.rrs[(topIx z.rrs).toNat]).nums.length := by omega
    have ho : (bumpZ z).origin = z.origin := rfl
    rw [ho]
    refine kSeq (kReg (kBox rfl rfl rfl rfl rfl (kAlloc rfl rfl (kMovC rfl (kDone (kSeq (kSeq (kReg (kLoadP rfl rfl rfl (kCallD (ok_impl_ZoneOk _ (by first | assumption | omega | solve_by_elim [List.getElem_mem] | (simp only [szOut] at *; omega))) ⟨⟨⟨rfl, rfl, trivial⟩, Nat.le_of_ble_eq_true rfl⟩, trivial⟩ rfl rfl rfl rfl rfl (kUn rfl rfl (kDone (kCondN rfl (fun g0 => (by (simp [*] at g0))) (fun g0 => kSkip (kSeq (kReg (kLoadP rfl rfl rfl (kCall1 true (ok_impl_Zone_bumped _ (by first | assumption | omega | solve_by_elim [List.getElem_mem] | (simp only [szOut] at *; omega)) (by first | assumption | omega | solve_by_elim [List.getElem_mem] | (simp only [szOut] at *; omega)) (by first | assumption | omega | solve_by_elim [List.getElem_mem] | (simp only [szOut] at *; omega)) (by first | assumption | omega | solve_by_elim [List.getElem_mem] | (simp only [szOut] at *; omega)) (by first | assumption | omega | solve_by_elim [List.getElem_mem] | (simp only [szOut] at *; omega))) ⟨⟨⟨rfl, rfl, trivial⟩, Nat.le_of_ble_eq_true rfl⟩, trivial⟩ rfl rfl rfl (fun _ => (kMem [(12288, ⟨1, 0, .box [.nil 1, .nil 7]⟩), (40960, ⟨1, 0, .arr true _⟩), (40961, ⟨1, 0, .arr true _⟩)] [(2, .c (.ptr 12288 1 0)), (9, .g [.arr 40960 1, .arr 40961 1])] [] ⟨rfl, rfl, rfl, trivial⟩ ⟨rfl, rfl, trivial⟩ rfl (kStoreP rfl rfl rfl rfl (kMovC rfl (kDone (kMem [(12288, ⟨1, 0, .box [.arr 40960 1, .arr 40961 1]⟩), (40960, ⟨1, 0, .arr true _⟩), (40961, ⟨1, 0, .arr true _⟩)] [(2, .c (.ptr 12288 1 0)), (3, .c (.d _))] [] ⟨rfl, rfl, rfl, trivial⟩ ⟨rfl, rfl, trivial⟩ rfl (kRet (endRetA (ra := [.agg [(.own true _), (.own true _)], .one (.d _)]) rfl rfl))))))))))))))))))))))))))

end Go.Proofs.YtbmagbgdpmgbmaaGreat.FnDropSetsFn
