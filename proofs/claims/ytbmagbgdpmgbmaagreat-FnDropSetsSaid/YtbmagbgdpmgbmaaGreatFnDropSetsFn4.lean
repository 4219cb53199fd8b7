/- What the functions that FnDropSets reaches compute, one contract each; each with the bounds that it states. -/
import Derived.Test.YtbmagbgdpmgbmaaGreatFnDropSetsFn3
import Derived.Test.YtbmagbgdpmgbmaaGreatProg
import Derived.KernelRfl
set_option maxRecDepth 100000
set_option maxHeartbeats 8000000
set_option linter.unusedVariables false
set_option linter.unusedSimpArgs false
namespace Go.Proofs.YtbmagbgdpmgbmaaGreat.FnDropSetsFn
open Go Hearth Go.Proofs

def c_laws_FnDropSets : C := (.seq (.reg false (.op 0 [] (some 2) none false (.mov (.v (.bool false)))
  .done))
 (.seq (.reg false (.op 0 [] (some 13) none false (.mov (.t 0))
  (.op 1 [] (some 14) none false (.call 14 12 [(.t 13)])
  (.op 2 [] (some 12) none false (.mov (.t 14))
  (.op 3 [] (some 15) none false (.ext (.t 12) 0)
  (.op 4 [] (some 16) none false (.ext (.t 12) 1)
  (.op 5 [] (some 17) none false (.ext (.t 12) 2)
  (.op 6 [] (some 3) none false (.alloc 3 [(.n 1), (.n 7)])
  (.op 7 [] (some 4) none false (.alloc 4 [(.n 1)])
  (.op 8 [] none none false (.store (some 2) (.t 3) (.t 15))
  (.op 9 [] none none false (.store (some 1) (.t 4) (.t 16))
  (.op 10 [] (some 5) none false (.mov (.t 17))
  .done))))))))))))
 (.seq (.reg false (.op 0 [] (some 19) none false (.load (some 2) (.t 3))
  (.op 1 [] (some 20) none false (.load (some 1) (.t 4))
  (.op 2 [] (some 21) none false (.mov (.t 5))
  (.op 3 [] (some 22) none false (.call 22 13 [(.t 19), (.t 20), (.t 21)])
  (.op 4 [] (some 18) none false (.mov (.t 22))
  (.op 5 [] (some 23) none false (.ext (.t 18) 0)
  (.op 6 [] (some 24) none false (.ext (.t 18) 1)
  (.op 7 [] (some 6) none false (.alloc 6 [(.n 1), (.n 7)])
  (.op 8 [] none none false (.store (some 2) (.t 6) (.t 23))
  (.op 9 [] (some 7) none false (.mov (.t 24))
  .done)))))))))))
 (.seq (.seq (.reg false (.op 0 [] (some 25) none false (.load (some 2) (.t 3))
  (.op 1 [] (some 26) none false (.call 26 14 [(.t 25)])
  (.op 2 [] (some 27) none false (.un .not (.t 26))
  (.op 3 [] (some 28) none false (.mov (.t 27))
  (.op 4 [] (some 29) (some (28, false)) false (.load (some 1) (.t 4))
  (.op 5 [] (some 30) (some (28, false)) false (.call 30 15 [(.t 29)])
  (.op 6 [] (some 31) (some (28, false)) false (.un .not (.t 30))
  (.op 7 [] (some 32) none false (.pick (.t 28) (.v (.bool true)) (.t 31))
  (.op 8 [] (some 33) none false (.mov (.t 32))
  (.op 9 [] (some 34) (some (33, false)) false (.fad (.t 6) 1)
  (.op 10 [] (some 35) (some (33, false)) false (.load none (.t 34))
  (.op 11 [] (some 36) (some (33, false)) false (.len (.t 35))
  (.op 12 [] (some 37) (some (33, false)) false (.bin .eql (.t 36) (.v (.int .i64 0)))
  (.op 13 [] (some 38) none false (.pick (.t 33) (.v (.bool true)) (.t 37))
  .done)))))))))))))))
 (.cond (.t 38)
 (.seq (.reg false (.op 0 [] (some 39) none false (.mov (.t 7))
  (.op 1 [] (some 40) none false (.bin .eql (.t 39) (.v (.int .i64 0)))
  (.op 2 [] (some 41) none false (.mov (.t 40))
  (.op 3 [] (some 42) (some (41, true)) false (.fad (.t 6) 1)
  (.op 4 [] (some 43) (some (41, true)) false (.load none (.t 42))
  (.op 5 [] (some 44) (some (41, true)) false (.len (.t 43))
  (.op 6 [] (some 45) (some (41, true)) false (.bin .eql (.t 44) (.v (.int .i64 0)))
  (.op 7 [] (some 46) none false (.pick (.t 41) (.t 45) (.v (.bool false)))
  (.op 8 [] (some 47) none false (.mov (.t 46))
  (.op 9 [] (some 48) (some (47, true)) false (.call 48 16 [])
  (.op 10 [] (some 49) none false (.pick (.t 47) (.t 48) (.v (.bool false)))
  (.op 11 [] (some 2) none false (.mov (.t 49))
  .done)))))))))))))
 .ret)
 .skip))
 (.seq (.reg false (.op 0 [] (some 50) none false (.load (some 2) (.t 6))
  (.op 1 [] (some 51) none false (.load (some 1) (.t 4))
  (.op 2 [] (some 52) none false (.mov (.t 5))
  (.op 3 [] (some 53) none false (.call 53 17 [(.t 50), (.t 51), (.t 52)])
  (.op 4 [] (some 8) none false (.mov (.t 53))
  .done))))))
 (.seq (.seq (.reg false (.op 0 [] (some 9) none false (.mov (.v (.int .i64 0)))
  .done))
 (.block 0 (.loop (.seq (.seq (.reg false (.op 0 [] (some 54) none false (.mov (.t 9))
  (.op 1 [] (some 55) none false (.mov (.t 8))
  (.op 2 [] (some 56) none false (.len (.t 55))
  (.op 3 [] (some 57) none false (.bin .lss (.t 54) (.t 56))
  .done)))))
 (.cond (.t 57)
 .skip
 (.exit 0)))
 (.seq (.block 1 (.seq (.reg false (.op 0 [] (some 60) none false (.mov (.t 8))
  (.op 1 [] (some 61) none false (.mov (.t 9))
  (.op 2 [] (some 62) none false (.iad 7 (.t 60) (.t 61))
  (.op 3 [] (some 63) none false (.fad (.t 62) 1)
  (.op 4 [] (some 64) none false (.load none (.t 63))
  (.op 5 [] (some 65) none false (.bin .neq (.t 64) (.v (.int .i64 6)))
  .done)))))))
 (.cond (.t 65)
 (.seq (.reg false (.op 0 [] (some 2) none false (.mov (.v (.bool false)))
  .done))
 .ret)
 .skip)))
 (.reg false (.op 0 [] (some 58) none false (.mov (.t 9))
  (.op 1 [] (some 59) none false (.bin .add (.t 58) (.v (.int .i64 1)))
  (.op 2 [] (some 9) none false (.mov (.t 59))
  .done)))))))))
 (.seq (.reg false (.op 0 [] (some 67) none false (.load (some 2) (.t 3))
  (.op 1 [] (some 68) none false (.call 68 18 [(.t 67)])
  (.op 2 [] (some 66) none false (.mov (.t 68))
  (.op 3 [] (some 69) none false (.ext (.t 66) 0)
  (.op 4 [] (some 70) none false (.ext (.t 66) 1)
  (.op 5 [] (some 10) none false (.alloc 10 [(.n 1), (.n 7)])
  (.op 6 [] none none false (.store (some 2) (.t 10) (.t 69))
  (.op 7 [] (some 11) none false (.mov (.t 70))
  .done)))))))))
 (.seq (.reg true (.op 0 [] (some 71) none true (.load (some 2) (.t 6))
  (.op 1 [0] (some 72) none false (.call 72 19 [(.t 71)])
  (.op 2 [] (some 73) none true (.mov (.t 72))
  (.op 3 [] (some 74) (some (73, true)) true (.fad (.t 6) 1)
  (.op 4 [] (some 75) (some (73, true)) true (.load none (.t 74))
  (.op 5 [] (some 76) (some (73, true)) true (.len (.t 75))
  (.op 6 [] (some 77) (some (73, true)) true (.mov (.t 7))
  (.op 7 [] (some 78) (some (73, true)) true (.bin .add (.t 76) (.t 77))
  (.op 8 [] (some 79) (some (73, true)) true (.fad (.t 3) 1)
  (.op 9 [] (some 80) (some (73, true)) true (.load none (.t 79))
  (.op 10 [] (some 81) (some (73, true)) true (.len (.t 80))
  (.op 11 [] (some 82) (some (73, true)) true (.bin .eql (.t 78) (.t 81))
  (.op 12 [] (some 83) none true (.pick (.t 73) (.t 82) (.v (.bool false)))
  (.op 13 [] (some 84) none true (.mov (.t 83))
  (.op 14 [] (some 85) (some (84, true)) true (.load (some 2) (.t 3))
  (.op 15 [] (some 86) (some (84, true)) true (.load (some 1) (.t 4))
  (.op 16 [] (some 87) (some (84, true)) true (.mov (.t 5))
  (.op 19 [] (some 90) (some (84, true)) true (.mov (.t 7))
  (.op 20 [] (some 91) (some (84, true)) true (.mov (.t 8))
  (.op 21 [] (some 92) (some (84, true)) true (.len (.t 91))
  (.op 22 [] (some 93) (some (84, true)) true (.bin .add (.t 90) (.t 92))
  (.op 17 [14, 0, 9, 15, 4] (some 88) (some (84, true)) false (.call 88 17 [(.t 85), (.t 86), (.t 87)])
  (.op 18 [] (some 89) (some (84, true)) true (.len (.t 88))
  (.op 23 [] (some 94) (some (84, true)) true (.bin .eql (.t 89) (.t 93))
  (.op 24 [] (some 95) none true (.pick (.t 84) (.t 94) (.v (.bool false)))
  (.op 25 [] (some 96) none true (.mov (.t 95))
  (.op 26 [] (some 97) (some (96, true)) true (.load (some 2) (.t 10))
  (.op 28 [] (some 99) (some (96, true)) true (.load (some 2) (.t 3))
  (.op 27 [26, 14, 15, 0] (some 98) (some (96, true)) false (.call 98 20 [(.t 97)])
  (.op 29 [28, 14, 15, 26, 0] (some 100) (some (96, true)) false (.call 100 20 [(.t 99)])
  (.op 30 [] (some 101) (some (96, true)) true (.bin .add (.t 100) (.v (.int .i64 1)))
  (.op 31 [] (some 102) (some (96, true)) true (.bin .rem (.t 101) (.v (.int .i64 4294967296)))
  (.op 32 [] (some 103) (some (96, true)) true (.bin .eql (.t 98) (.t 102))
  (.op 33 [] (some 104) none true (.pick (.t 96) (.t 103) (.v (.bool false)))
  (.op 34 [] (some 2) none true (.mov (.t 104))
  .done))))))))))))))))))))))))))))))))))))
 .ret))))))))
theorem dg_laws_FnDropSets : Tryz.f3.body.bind (digC Tryz.prog Tryz.f3.ntmps []) = some c_laws_FnDropSets := by kernel_rfl
theorem rs_laws_FnDropSets : resSlots Tryz.prog Tryz.f3 = some [.s 2] := by kernel_rfl
theorem ok_laws_FnDropSets (code : List UInt8) (hb : (code.length : Int) ≤ 9223372036854775807) :
    FnOK Tryz.prog 3 [.one (.d (encB code))] (fun ra _ => ra = [.one (.d (.sc (.bool true)))]) := by
  refine FnOK.ofK Tryz.func3 (by kernel_rfl) dg_laws_FnDropSets rs_laws_FnDropSets rfl rfl ?_
  unfold c_laws_FnDropSets
  refine kSeq (kReg (kMovC rfl (kDone (kSeq (kReg (kMovC rfl (kCallX false (ok_spec_DrawDropSet _ (by first | assumption | omega | solve_by_elim [List.getElem_mem] | (simp only [szOut] at *; omega) | exact rfl | exact Nat.le_of_ble_eq_true rfl | exact rrOk_small (by assumption) | exact zoneOk_small (by assumption) | exact SmallBB.ok (by assumption) | exact (SmallBB.ok (by assumption)).len | exact (SmallBB.ok (by assumption)).mem | exact SmallBB.bent (by assumption))) ⟨rfl, trivial⟩ rfl (fun _ => rfl) (fun _ => rfl) (fun x0 _ hx0 => (kMovT rfl (kExtC rfl rfl (kExtC rfl rfl (kExtC rfl rfl (kAlloc rfl rfl (kAlloc rfl rfl (kMem [(16384, ⟨1, 0, .box [.nil 1, .nil 7]⟩), (20480, ⟨1, 0, .box [.nil 1]⟩)] [(3, .c (.ptr 16384 1 0)), (15, .g [.d _, .d _]), (4, .c (.ptr 20480 1 0)), (16, .g [.d _]), (17, .c (.d _))] [] ⟨rfl, rfl, trivial⟩ ⟨rfl, rfl, rfl, rfl, rfl, trivial⟩ rfl (kStoreP rfl rfl rfl rfl (kStoreP rfl rfl rfl rfl (kMovC rfl (kDone (kSeq (kReg (kLoadP rfl rfl rfl (kLoadP rfl rfl rfl (kMovC rfl ?_))))))))))))))))))))))))
  obtain ⟨h1, h2⟩ := hx0
  generalize x0.1 = z at *
  generalize x0.2.1 = n at *
  generalize x0.2.2 = t at *
  have z1 := h2.len
  have z2 := h2.mem
  have hzl := h1.r.len
  have hkl : (z.rrs.filter (goneR n t)).length ≤ z.rrs.length := List.length_filter_le _ _
  cases hc : (zoneOk z && nameOk n && askedT t)
  · have hlen : (dropSetZ z n t).rrs.length = 0 := by unfold dropSetZ; rw [hc]; rfl
    have hK : dropSetK z n t = 0 := by unfold dropSetK; rw [hc]; rfl
    refine kCall1 true (ok_impl_DropSet _ _ _ (by first | assumption | omega | solve_by_elim [List.getElem_mem] | (simp only [szOut] at *; omega) | exact rfl | exact Nat.le_of_ble_eq_true rfl | exact rrOk_small (by assumption) | exact zoneOk_small (by assumption) | exact SmallBB.ok (by assumption) | exact (SmallBB.ok (by assumption)).len | exact (SmallBB.ok (by assumption)).mem | exact SmallBB.bent (by assumption)) (by first | assumption | omega | solve_by_elim [List.getElem_mem] | (simp only [szOut] at *; omega) | exact rfl | exact Nat.le_of_ble_eq_true rfl | exact rrOk_small (by assumption) | exact zoneOk_small (by assumption) | exact SmallBB.ok (by assumption) | exact (SmallBB.ok (by assumption)).len | exact (SmallBB.ok (by assumption)).mem | exact SmallBB.bent (by assumption))) ⟨⟨⟨rfl, rfl, trivial⟩, Nat.le_of_ble_eq_true rfl⟩, ⟨⟨rfl, trivial⟩, Nat.le_of_ble_eq_true rfl⟩, rfl, trivial⟩ rfl rfl rfl (fun _ => (kMovT rfl (kExtC rfl rfl (kMem [(94208, ⟨1, 0, .arr true _⟩), (94209, ⟨1, 0, .arr true _⟩)] [(6, .c (.un)), (23, .g [.arr 94208 1, .arr 94209 1]), (24, .c (.un))] [] ⟨rfl, rfl, trivial⟩ ⟨rfl, rfl, rfl, trivial⟩ rfl (kExtC rfl rfl (kAlloc rfl rfl (kMem [(28672, ⟨1, 0, .box [.nil 1, .nil 7]⟩), (94208, ⟨1, 0, .arr true _⟩), (94209, ⟨1, 0, .arr true _⟩)] [(6, .c (.ptr 28672 1 0)), (23, .g [.arr 94208 1, .arr 94209 1]), (24, .c (.d _))] [] ⟨rfl, rfl, rfl, trivial⟩ ⟨rfl, rfl, rfl, trivial⟩ rfl (kStoreP rfl rfl rfl rfl (kMovC rfl (kDone (kSeq (kSeq (kReg (kLoadP rfl rfl rfl (kCallD (ok_spec_ZoneOk _ (by first | assumption | omega | solve_by_elim [List.getElem_mem] | (simp only [szOut] at *; omega) | exact rfl | exact Nat.le_of_ble_eq_true rfl | exact rrOk_small (by assumption) | exact zoneOk_small (by assumption) | exact SmallBB.ok (by assumption) | exact (SmallBB.ok (by assumption)).len | exact (SmallBB.ok (by assumption)).mem | exact SmallBB.bent (by assumption))) ⟨⟨⟨rfl, rfl, trivial⟩, Nat.le_of_ble_eq_true rfl⟩, trivial⟩ rfl rfl rfl rfl rfl (kUn rfl rfl (kMovC rfl (kGN rfl (fun g0 => kGF rfl (kGF rfl (kGF rfl (kMem [(28672, ⟨1, 0, .box [.arr 94208 1, .arr 94209 1]⟩), (94208, ⟨1, 0, .arr true _⟩), (94209, ⟨1, 0, .arr true _⟩)] [(28, .c (.d _)), (31, .c (.un)), (32, .c (.un)), (6, .c (.ptr 28672 1 0)), (34, .c (.un)), (35, .c (.un)), (36, .c (.un)), (33, .c (.un)), (37, .c (.un))] [] ⟨rfl, rfl, rfl, trivial⟩ ⟨rfl, rfl, rfl, rfl, rfl, rfl, rfl, rfl, rfl, trivial⟩ rfl (kPickT rfl (kMovC rfl (kMovC rfl (kGF rfl (kGF rfl (kGF rfl (kGF rfl (kPickT rfl (kMovC rfl (kDone (kCondT rfl (kSeq (kReg (kMovC rfl (kBin rfl rfl rfl (kMovC rfl (kGP rfl (fun g1 => kGT rfl (kFadP rfl rfl (kMem [(28672, ⟨1, 0, .box [.arr 94208 1, .arr 94209 1]⟩), (94208, ⟨1, 0, .arr true _⟩), (94209, ⟨1, 0, .arr true _⟩)] [(42, .c (.ptr 28672 1 1)), (43, .c (.un)), (44, .c (.un)), (41, .c (.d _)), (45, .c (.un)), (46, .c (.un)), (47, .c (.un)), (48, .c (.un)), (49, .c (.un))] [] ⟨rfl, rfl, rfl, trivial⟩ ⟨rfl, rfl, rfl, rfl, rfl, rfl, rfl, rfl, rfl, trivial⟩ rfl (kGT rfl (kLoadP rfl rfl rfl (kGT rfl (kLenR rfl rfl (kGT rfl (kBin rfl rfl rfl (kPickT rfl (kMovC rfl (kMovC rfl (kGP rfl (fun g2 => kGT rfl (kCallD (ok_laws_zones) trivial rfl rfl rfl rfl rfl (kPickT rfl (kMovC rfl (kMovC rfl (kDone (kRet (endRetA (ra := [.one (.d _)]) rfl rfl)))))))) (fun g2 => (by omega))))))))))))))) (fun g1 => (by omega))))))))))))))))))))))) (fun g0 => kGT rfl (kLoadP rfl rfl rfl (kGT rfl (kCallD (ok_spec_NameOk _ (by first | assumption | omega | solve_by_elim [List.getElem_mem] | (simp only [szOut] at *; omega) | exact rfl | exact Nat.le_of_ble_eq_true rfl | exact rrOk_small (by assumption) | exact zoneOk_small (by assumption) | exact SmallBB.ok (by assumption) | exact (SmallBB.ok (by assumption)).len | exact (SmallBB.ok (by assumption)).mem | exact SmallBB.bent (by assumption)) (by first | assumption | omega | solve_by_elim [List.getElem_mem] | (simp only [szOut] at *; omega) | exact rfl | exact Nat.le_of_ble_eq_true rfl | exact rrOk_small (by assumption) | exact zoneOk_small (by assumption) | exact SmallBB.ok (by assumption) | exact (SmallBB.ok (by assumption)).len | exact (SmallBB.ok (by assumption)).mem | exact SmallBB.bent (by assumption))) ⟨⟨⟨rfl, trivial⟩, Nat.le_of_ble_eq_true rfl⟩, trivial⟩ rfl rfl rfl rfl rfl (kMem [(28672, ⟨1, 0, .box [.arr 94208 1, .arr 94209 1]⟩), (94208, ⟨1, 0, .arr true _⟩), (94209, ⟨1, 0, .arr true _⟩)] [(30, .c (.d _)), (28, .c (.d _)), (31, .c (.un)), (32, .c (.un)), (6, .c (.ptr 28672 1 0)), (34, .c (.un)), (35, .c (.un)), (36, .c (.un)), (33, .c (.un)), (37, .c (.un))] [] ⟨rfl, rfl, rfl, trivial⟩ ⟨rfl, rfl, rfl, rfl, rfl, rfl, rfl, rfl, rfl, rfl, trivial⟩ rfl (kGT rfl (kUn rfl rfl (kPickF rfl (kMovC rfl (kMovC rfl (kGN rfl (fun g3 => kGF rfl (kGF rfl (kGF rfl (kGF rfl (kPickT rfl (kMovC rfl (kDone (kCondT rfl (kSeq (kReg (kMovC rfl (kBin rfl rfl rfl (kMovC rfl (kMem [(28672, ⟨1, 0, .box [.arr 94208 1, .arr 94209 1]⟩), (94208, ⟨1, 0, .arr true _⟩), (94209, ⟨1, 0, .arr true _⟩)] [(6, .c (.ptr 28672 1 0)), (42, .c (.un)), (43, .c (.un)), (44, .c (.un)), (41, .c (.d _)), (45, .c (.un)), (46, .c (.un)), (47, .c (.un)), (48, .c (.un)), (49, .c (.un))] [] ⟨rfl, rfl, rfl, trivial⟩ ⟨rfl, rfl, rfl, rfl, rfl, rfl, rfl, rfl, rfl, rfl, trivial⟩ rfl (kGP rfl (fun g4 => kGT rfl (kFadP rfl rfl (kGT rfl (kLoadP rfl rfl rfl (kGT rfl (kLenR rfl rfl (kGT rfl (kBin rfl rfl rfl (kPickT rfl (kMovC rfl (kMovC rfl (kGP rfl (fun g5 => kGT rfl (kCallD (ok_laws_zones) trivial rfl rfl rfl rfl rfl (kPickT rfl (kMovC rfl (kMovC rfl (kDone (kRet (endRetA (ra := [.one (.d _)]) rfl rfl)))))))) (fun g5 => (by omega)))))))))))))) (fun g4 => (by omega))))))))))))))))) (fun g3 => kGT rfl (kFadP rfl rfl (kGT rfl (kLoadP rfl rfl rfl (kGT rfl (kLenR rfl rfl (kGT rfl (kBin rfl rfl rfl (kPickF rfl (kMovC rfl (kDone (kCondP rfl (fun g6 => kSeq (kReg (kMovC rfl (kBin rfl rfl rfl (kMem [(28672, ⟨1, 0, .box [.arr 94208 1, .arr 94209 1]⟩), (94208, ⟨1, 0, .arr true _⟩), (94209, ⟨1, 0, .arr true _⟩)] [(40, .c (.d _)), (6, .c (.ptr 28672 1 0)), (42, .c (.un)), (43, .c (.un)), (44, .c (.un)), (41, .c (.un)), (45, .c (.un)), (46, .c (.un)), (47, .c (.un)), (48, .c (.un)), (49, .c (.un))] [] ⟨rfl, rfl, rfl, trivial⟩ ⟨rfl, rfl, rfl, rfl, rfl, rfl, rfl, rfl, rfl, rfl, rfl, trivial⟩ rfl (kMovC rfl (kGP rfl (fun g7 => kGT rfl (kFadP rfl rfl (kGT rfl (kLoadP rfl rfl rfl (kGT rfl (kLenR rfl rfl (kGT rfl (kBin rfl rfl rfl (kPickT rfl (kMovC rfl (kMovC rfl (kGP rfl (fun g8 => kGT rfl (kCallD (ok_laws_zones) trivial rfl rfl rfl rfl rfl (kPickT rfl (kMovC rfl (kMovC rfl (kDone (kRet (endRetA (ra := [.one (.d _)]) rfl rfl)))))))) (fun g8 => (by omega)))))))))))))) (fun g7 => (by omega))))))))) (fun g6 => (by omega)))))))))))))))))))))))))))))))))))))))))))
  · simp only [Bool.and_eq_true] at hc
    obtain ⟨⟨a1, a2⟩, a3⟩ := hc
    obtain ⟨f1, f2, f3, f4⟩ := dropSet_facts a1 a2 a3
    have hK : 0 ≤ dropSetK z n t := by unfold dropSetK; split <;> omega
    have hp := zoneOk_pos f1
    have hxs := zoneOk_small f1
    have hser := serial_bump a1
    have hbs := h1.bump
    have hln0 : (setN z n t).length ≤ z.rrs.length := by
      unfold setN
      split
      · exact List.length_filter_le _ _
      · simp
    have hln : (setN (dropSetZ z n t) n t).length ≤ 4194304 := by omega
    refine kCall1 true (ok_impl_DropSet _ _ _ (by first | assumption | omega | solve_by_elim [List.getElem_mem] | (simp only [szOut] at *; omega) | exact rfl | exact Nat.le_of_ble_eq_true rfl | exact rrOk_small (by assumption) | exact zoneOk_small (by assumption) | exact SmallBB.ok (by assumption) | exact (SmallBB.ok (by assumption)).len | exact (SmallBB.ok (by assumption)).mem | exact SmallBB.bent (by assumption)) (by first | assumption | omega | solve_by_elim [List.getElem_mem] | (simp only [szOut] at *; omega) | exact rfl | exact Nat.le_of_ble_eq_true rfl | exact rrOk_small (by assumption) | exact zoneOk_small (by assumption) | exact SmallBB.ok (by assumption) | exact (SmallBB.ok (by assumption)).len | exact (SmallBB.ok (by assumption)).mem | exact SmallBB.bent (by assumption))) ⟨⟨⟨rfl, rfl, trivial⟩, Nat.le_of_ble_eq_true rfl⟩, ⟨⟨rfl, trivial⟩, Nat.le_of_ble_eq_true rfl⟩, rfl, trivial⟩ rfl rfl rfl (fun _ => (kMovT rfl (kExtC rfl rfl (kMem [(94208, ⟨1, 0, .arr true _⟩), (94209, ⟨1, 0, .arr true _⟩)] [(6, .c (.un)), (23, .g [.arr 94208 1, .arr 94209 1]), (24, .c (.un))] [] ⟨rfl, rfl, trivial⟩ ⟨rfl, rfl, rfl, trivial⟩ rfl (kExtC rfl rfl (kAlloc rfl rfl (kMem [(28672, ⟨1, 0, .box [.nil 1, .nil 7]⟩), (94208, ⟨1, 0, .arr true _⟩), (94209, ⟨1, 0, .arr true _⟩)] [(6, .c (.ptr 28672 1 0)), (23, .g [.arr 94208 1, .arr 94209 1]), (24, .c (.d _))] [] ⟨rfl, rfl, rfl, trivial⟩ ⟨rfl, rfl, rfl, trivial⟩ rfl (kStoreP rfl rfl rfl rfl (kMovC rfl (kDone (kSeq (kSeq (kReg (kLoadP rfl rfl rfl (kCallD (ok_spec_ZoneOk _ (by first | assumption | omega | solve_by_elim [List.getElem_mem] | (simp only [szOut] at *; omega) | exact rfl | exact Nat.le_of_ble_eq_true rfl | exact rrOk_small (by assumption) | exact zoneOk_small (by assumption) | exact SmallBB.ok (by assumption) | exact (SmallBB.ok (by assumption)).len | exact (SmallBB.ok (by assumption)).mem | exact SmallBB.bent (by assumption))) ⟨⟨⟨rfl, rfl, trivial⟩, Nat.le_of_ble_eq_true rfl⟩, trivial⟩ rfl rfl rfl rfl rfl (kUn rfl rfl (kMovC rfl (kGN rfl (fun g0 => (by (simp [*] at g0))) (fun g0 => kGT rfl (kLoadP rfl rfl rfl (kGT rfl (kCallD (ok_spec_NameOk _ (by first | assumption | omega | solve_by_elim [List.getElem_mem] | (simp only [szOut] at *; omega) | exact rfl | exact Nat.le_of_ble_eq_true rfl | exact rrOk_small (by assumption) | exact zoneOk_small (by assumption) | exact SmallBB.ok (by assumption) | exact (SmallBB.ok (by assumption)).len | exact (SmallBB.ok (by assumption)).mem | exact SmallBB.bent (by assumption)) (by first | assumption | omega | solve_by_elim [List.getElem_mem] | (simp only [szOut] at *; omega) | exact rfl | exact Nat.le_of_ble_eq_true rfl | exact rrOk_small (by assumption) | exact zoneOk_small (by assumption) | exact SmallBB.ok (by assumption) | exact (SmallBB.ok (by assumption)).len | exact (SmallBB.ok (by assumption)).mem | exact SmallBB.bent (by assumption))) ⟨⟨⟨rfl, trivial⟩, Nat.le_of_ble_eq_true rfl⟩, trivial⟩ rfl rfl rfl rfl rfl (kMem [(28672, ⟨1, 0, .box [.arr 94208 1, .arr 94209 1]⟩), (94208, ⟨1, 0, .arr true _⟩), (94209, ⟨1, 0, .arr true _⟩)] [(30, .c (.d _)), (28, .c (.d _)), (31, .c (.un)), (32, .c (.un)), (6, .c (.ptr 28672 1 0)), (34, .c (.un)), (35, .c (.un)), (36, .c (.un)), (33, .c (.un)), (37, .c (.un))] [] ⟨rfl, rfl, rfl, trivial⟩ ⟨rfl, rfl, rfl, rfl, rfl, rfl, rfl, rfl, rfl, rfl, trivial⟩ rfl (kGT rfl (kUn rfl rfl (kPickF rfl (kMovC rfl (kMovC rfl (kGN rfl (fun g1 => (by (simp [*] at g1))) (fun g1 => kGT rfl (kFadP rfl rfl (kGT rfl (kLoadP rfl rfl rfl (kGT rfl (kLenR rfl rfl (kGT rfl (kBin rfl rfl rfl (kPickF rfl (kMovC rfl (kDone (kCondP rfl (fun g2 => (by omega)) (fun g2 => kSkip (kSeq (kReg (kLoadP rfl rfl rfl (kMem [(20480, ⟨1, 0, .box [.d _]⟩), (94208, ⟨1, 0, .arr true _⟩), (94209, ⟨1, 0, .arr true _⟩)] [(4, .c (.ptr 20480 1 0)), (5, .c (.d _)), (50, .g [.arr 94208 1, .arr 94209 1]), (51, .c (.un)), (52, .c (.un)), (53, .c (.un))] [] ⟨rfl, rfl, rfl, trivial⟩ ⟨rfl, rfl, rfl, rfl, rfl, rfl, trivial⟩ rfl (kLoadP rfl rfl rfl (kMovC rfl (kCall1 true (ok_impl_SetOf _ _ _ (by first | assumption | omega | solve_by_elim [List.getElem_mem] | (simp only [szOut] at *; omega) | exact rfl | exact Nat.le_of_ble_eq_true rfl | exact rrOk_small (by assumption) | exact zoneOk_small (by assumption) | exact SmallBB.ok (by assumption) | exact (SmallBB.ok (by assumption)).len | exact (SmallBB.ok (by assumption)).mem | exact SmallBB.bent (by assumption)) (by first | assumption | omega | solve_by_elim [List.getElem_mem] | (simp only [szOut] at *; omega) | exact rfl | exact Nat.le_of_ble_eq_true rfl | exact rrOk_small (by assumption) | exact zoneOk_small (by assumption) | exact SmallBB.ok (by assumption) | exact (SmallBB.ok (by assumption)).len | exact (SmallBB.ok (by assumption)).mem | exact SmallBB.bent (by assumption))) ⟨⟨⟨rfl, rfl, trivial⟩, Nat.le_of_ble_eq_true rfl⟩, ⟨⟨rfl, trivial⟩, Nat.le_of_ble_eq_true rfl⟩, rfl, trivial⟩ rfl rfl rfl (fun _ => (kMovC rfl (kDone (kSeq (kSeq (kReg (kMovC rfl (kDone (kBlock ?_))))))))))))))))))))))))))))))))))))))))))))))))))))))))))
    refine kSub (Sub.frz (j := 8) rfl rfl (Nat.zero_lt_succ _)) ?_
    refine kLoop (α := { i : Nat // i ≤ (setN (dropSetZ z n t) n t).length }) (fun y => ⟨tabSl [(3, .c (.ptr (rid 3 0) 1 0)), (4, .c (.ptr (rid 4 0) 1 0)), (5, .i t), (6, .c (.ptr (rid 6 0) 1 0)), (7, .i (dropSetK z n t)), (8, .dv (encR (setN (dropSetZ z n t) n t))), (9, .i y.1)], obTab 1 [(rid 3 0, ⟨1, 0, .box (z.cells.map .d)⟩), (rid 4 0, ⟨1, 0, .box [.d (encBB n)]⟩), (rid 6 0, ⟨1, 0, .box [.arr (rid 22 0) 1, .arr (rid 22 1) 1]⟩), (rid 22 0, ⟨1, 0, .arr true (encBB (dropSetZ z n t).origin)⟩), (rid 22 1, ⟨1, 0, .arr true (encR (dropSetZ z n t).rrs)⟩)], []⟩) (fun y => (setN (dropSetZ z n t) n t).length - y.1) ⟨0, by simp⟩ .normA ?_
    rintro ⟨i, hi⟩
    simp only
    rcases Nat.lt_or_ge i (setN (dropSetZ z n t) n t).length with hlt | hge
    · have h6 := f3 _ (List.getElem_mem hlt)
      refine kSeq (kSeq (kReg (kMovC rfl (kMovC rfl (kLenR rfl rfl (kBin rfl rfl rfl (kDone (kCondP rfl (fun g0 => kSkip (kSeq (kBlock (kSeq (kReg (kMovC rfl (kMovC rfl (kIadR rfl rfl rfl (by first | omega | (simp only [List.length_append, List.length_cons, List.length_nil]; omega)) (kFadD rfl (kLoadD rfl rfl (kBin rfl rfl rfl (kDone (kCondIN rfl (fun g1 => (by omega)) (fun g1 => kSkip (kBk (kReg (kMovC rfl (kAdd rfl rfl (by omega) (kMovC rfl (kDone ?_)))))))))))))))))))) (fun g0 => (by omega))))))))))
      exact kInv ⟨⟨i + 1, by omega⟩, by simp only; omega, .normA⟩
    · have hsi := serialN_in z
      refine kSeq (kSeq (kReg (kMovC rfl (kMovC rfl (kLenR rfl rfl (kBin rfl rfl rfl (kDone (kCondP rfl (fun g0 => (by omega)) (fun g0 => kExit (kExC (kExI (kExB (kSeq (kReg (kLoadP rfl rfl rfl (kCall1 true (ok_impl_Bump _ (by first | assumption | omega | solve_by_elim [List.getElem_mem] | (simp only [szOut] at *; omega) | exact rfl | exact Nat.le_of_ble_eq_true rfl | exact rrOk_small (by assumption) | exact zoneOk_small (by assumption) | exact SmallBB.ok (by assumption) | exact (SmallBB.ok (by assumption)).len | exact (SmallBB.ok (by assumption)).mem | exact SmallBB.bent (by assumption))) ⟨⟨⟨rfl, rfl, trivial⟩, Nat.le_of_ble_eq_true rfl⟩, trivial⟩ rfl rfl rfl (fun _ => (kMovT rfl (kExtC rfl rfl (kExtC rfl rfl (kAlloc rfl rfl (kMem [(45056, ⟨2, 0, .box [.nil 1, .nil 7]⟩), (282624, ⟨2, 0, .arr true _⟩), (282625, ⟨2, 0, .arr true _⟩)] [(10, .c (.ptr 45056 2 0)), (69, .g [.arr 282624 2, .arr 282625 2]), (70, .c (.d _))] [] ⟨rfl, rfl, rfl, trivial⟩ ⟨rfl, rfl, rfl, trivial⟩ rfl (kStoreP rfl rfl rfl rfl (kMovC rfl (kDone (kSeq (kRegD (kLoadP rfl rfl rfl (kRelF rfl rfl (kCallD (ok_impl_ZoneOk _ (by first | assumption | omega | solve_by_elim [List.getElem_mem] | (simp only [szOut] at *; omega) | exact rfl | exact Nat.le_of_ble_eq_true rfl | exact rrOk_small (by assumption) | exact zoneOk_small (by assumption) | exact SmallBB.ok (by assumption) | exact (SmallBB.ok (by assumption)).len | exact (SmallBB.ok (by assumption)).mem | exact SmallBB.bent (by assumption))) ⟨⟨⟨rfl, rfl, trivial⟩, Nat.le_of_ble_eq_true rfl⟩, trivial⟩ rfl rfl rfl rfl rfl (kMovC rfl (kGS rfl (fun g1 => kGT rfl (kFadP rfl rfl (kGT rfl (kLoadP rfl rfl rfl (kGT rfl (kLenR rfl rfl (kGT rfl (kMovC rfl (kGT rfl (kAdd rfl rfl (by omega) (kGT rfl (kFadP rfl rfl (kGT rfl (kLoadP rfl rfl rfl (kMem [(16384, ⟨1, 0, .box [.d _, .d _]⟩), (20480, ⟨1, 0, .box [.d _]⟩), (45056, ⟨2, 0, .box [.arr 282624 2, .arr 282625 2]⟩), (282624, ⟨2, 0, .arr true _⟩), (282625, ⟨2, 0, .arr true _⟩)] [(80, .c (.d _)), (78, .c (.d _)), (73, .c (.d _)), (3, .c (.ptr 16384 1 0)), (4, .c (.ptr 20480 1 0)), (5, .c (.d _)), (7, .c (.d _)), (8, .c (.d _)), (10, .c (.ptr 45056 2 0))] [16384, 28672] ⟨rfl, rfl, rfl, rfl, rfl, trivial⟩ ⟨rfl, rfl, rfl, rfl, rfl, rfl, rfl, rfl, rfl, trivial⟩ rfl (kGT rfl (kLenR rfl rfl (kGT rfl (kBin rfl rfl rfl (kPickT rfl (kMovC rfl (kMovC rfl (kGP rfl (fun g2 => kGT rfl (kLoadP rfl rfl rfl (kGT rfl (kLoadP rfl rfl rfl (kGT rfl (kMovC rfl (kGT rfl (kMovC rfl (kGT rfl (kMovC rfl (kMem [(45056, ⟨2, 0, .box [.arr 282624 2, .arr 282625 2]⟩), (16384, ⟨1, 0, .box [.d _, .d _]⟩), (282624, ⟨2, 0, .arr true _⟩), (282625, ⟨2, 0, .arr true _⟩)] [(91, .c (.d _)), (90, .c (.d _)), (85, .g [.d _, .d _]), (86, .g [.d _]), (87, .c (.d _)), (84, .c (.d _)), (10, .c (.ptr 45056 2 0)), (3, .c (.ptr 16384 1 0))] [20480, 16384, 16384, 28672] ⟨rfl, rfl, rfl, rfl, trivial⟩ ⟨rfl, rfl, rfl, rfl, rfl, rfl, rfl, rfl, trivial⟩ rfl (kGT rfl (kLenR rfl rfl (kGT rfl (kAdd rfl rfl (by omega) (kRelF rfl rfl (kGT rfl (kCall1 true (ok_impl_SetOf _ _ _ (by first | assumption | omega | solve_by_elim [List.getElem_mem] | (simp only [szOut] at *; omega) | exact rfl | exact Nat.le_of_ble_eq_true rfl | exact rrOk_small (by assumption) | exact zoneOk_small (by assumption) | exact SmallBB.ok (by assumption) | exact (SmallBB.ok (by assumption)).len | exact (SmallBB.ok (by assumption)).mem | exact SmallBB.bent (by assumption)) (by first | assumption | omega | solve_by_elim [List.getElem_mem] | (simp only [szOut] at *; omega) | exact rfl | exact Nat.le_of_ble_eq_true rfl | exact rrOk_small (by assumption) | exact zoneOk_small (by assumption) | exact SmallBB.ok (by assumption) | exact (SmallBB.ok (by assumption)).len | exact (SmallBB.ok (by assumption)).mem | exact SmallBB.bent (by assumption))) ⟨⟨⟨rfl, rfl, trivial⟩, Nat.le_of_ble_eq_true rfl⟩, ⟨⟨rfl, trivial⟩, Nat.le_of_ble_eq_true rfl⟩, rfl, trivial⟩ rfl rfl rfl (fun _ => (kGT rfl (kLenR rfl rfl (kGT rfl (kBin rfl rfl rfl (kPickT rfl (kMovC rfl (kMovC rfl (kGP rfl (fun g3 => kGT rfl (kLoadP rfl rfl rfl (kGT rfl (kLoadP rfl rfl rfl (kRelK rfl rfl (kGT rfl (kCallD (ok_impl_Serial _ (by first | assumption | omega | solve_by_elim [List.getElem_mem] | (simp only [szOut] at *; omega) | exact rfl | exact Nat.le_of_ble_eq_true rfl | exact rrOk_small (by assumption) | exact zoneOk_small (by assumption) | exact SmallBB.ok (by assumption) | exact (SmallBB.ok (by assumption)).len | exact (SmallBB.ok (by assumption)).mem | exact SmallBB.bent (by assumption))) ⟨⟨⟨rfl, rfl, trivial⟩, Nat.le_of_ble_eq_true rfl⟩, trivial⟩ rfl rfl rfl rfl rfl (kRelF rfl rfl (kGT rfl (kCallD (ok_impl_Serial _ (by first | assumption | omega | solve_by_elim [List.getElem_mem] | (simp only [szOut] at *; omega) | exact rfl | exact Nat.le_of_ble_eq_true rfl | exact rrOk_small (by assumption) | exact zoneOk_small (by assumption) | exact SmallBB.ok (by assumption) | exact (SmallBB.ok (by assumption)).len | exact (SmallBB.ok (by assumption)).mem | exact SmallBB.bent (by assumption))) ⟨⟨⟨rfl, rfl, trivial⟩, Nat.le_of_ble_eq_true rfl⟩, trivial⟩ rfl rfl rfl rfl rfl (kGT rfl (kAdd rfl rfl (by omega) (kGT rfl (kBin rfl rfl rfl (kGT rfl (kBin rfl rfl rfl (kPickT rfl (kMovC rfl (kMovC rfl (kDone (kH (kRet (endRetA (ra := [.one (.d _)]) rfl ?_))))))))))))))))))))))) (fun g3 => (by omega))))))))))))))))))))))))))))) (fun g2 => (by omega))))))))))))))))))))))))) (fun g1 => (by (simp [*] at g1)))))))))))))))))))))))))))))))))))
      rw [hser, Int.tmod_eq_emod_of_nonneg (by omega)]
      simp

end Go.Proofs.YtbmagbgdpmgbmaaGreat.FnDropSetsFn
