/- What the functions that FnTimes reaches compute, one contract each; each with the bounds that it states. -/
import Derived.WalkKit
import Derived.Deep.RegionLaw
import Derived.Lib.Walk
import Derived.Lib.SliceRun
import Derived.Shelf.SlSortCmp.WholeK
import Derived.Test.YtmdmlncdjdphdaaGreatFnTimesFn2
import Derived.Test.YtmdmlncdjdphdaaGreatProg
import Derived.KernelRfl
set_option maxRecDepth 100000
set_option maxHeartbeats 8000000
set_option linter.unusedVariables false
set_option linter.unusedSimpArgs false
namespace Go.Proofs.YtmdmlncdjdphdaaGreat.FnTimesFn
open Go Hearth Go.Proofs

def c_spec_CacheOk : C := (.g (.o 0 1 (.box 1 (.t 0)) (.o 1 2 (.mov (.v (.bool false))) .done)) (.seq (.g (.o 0 6 (.fad (.t 1) 0) (.o 1 7 (.load none (.t 6)) (.o 2 8 (.bin .lss (.t 7) (.i 0)) (.o 3 9 (.mov (.t 8)) (.op 4 [] (some 10) (some (9, false)) false (.fad (.t 1) 0) (.op 5 [] (some 11) (some (9, false)) false (.load none (.t 10)) (.op 6 [] (some 12) (some (9, false)) false (.bin .gtr (.t 11) (.i 1000000)) (.o 7 13 (.pick (.t 9) (.v (.bool true)) (.t 12)) (.o 8 14 (.mov (.t 13)) (.op 9 [] (some 15) (some (14, false)) false (.fad (.t 1) 1) (.op 10 [] (some 16) (some (14, false)) false (.load none (.t 15)) (.op 11 [] (some 17) (some (14, false)) false (.bin .lss (.t 16) (.i 0)) (.o 12 18 (.pick (.t 14) (.v (.bool true)) (.t 17)) (.o 13 19 (.mov (.t 18)) (.op 14 [] (some 20) (some (19, false)) false (.fad (.t 1) 1) (.op 15 [] (some 21) (some (19, false)) false (.load none (.t 20)) (.op 16 [] (some 22) (some (19, false)) false (.bin .gtr (.t 21) (.i 1000000)) (.o 17 23 (.pick (.t 19) (.v (.bool true)) (.t 22)) (.o 18 24 (.mov (.t 23)) (.op 19 [] (some 25) (some (24, false)) false (.fad (.t 1) 2) (.op 20 [] (some 26) (some (24, false)) false (.load none (.t 25)) (.op 21 [] (some 27) (some (24, false)) false (.len (.t 26)) (.op 22 [] (some 28) (some (24, false)) false (.bin .gtr (.t 27) (.i 8)) (.o 23 29 (.pick (.t 24) (.v (.bool true)) (.t 28)) .done)))))))))))))))))))))))) (.cond (.t 29) (.g (.o 0 2 (.mov (.v (.bool false))) .done) .ret) .skip)) (.seq (.g (.o 0 3 (.mov (.i 0)) .done) (.block 0 (.loop (.seq (.g (.o 0 30 (.mov (.t 3)) (.o 1 31 (.fad (.t 1) 2) (.o 2 32 (.load none (.t 31)) (.o 3 33 (.len (.t 32)) (.o 4 34 (.bin .lss (.t 30) (.t 33)) .done))))) (.cond (.t 34) .skip (.exit 0))) (.seq (.block 1 (.g (.o 0 37 (.fad (.t 1) 2) (.o 1 38 (.load none (.t 37)) (.o 2 39 (.mov (.t 3)) (.o 3 40 (.iad 7 (.t 38) (.t 39)) (.o 4 41 (.load (some 7) (.t 40)) (.o 5 4 (.alloc 4 [(.n 1), (.i 0), (.i 0), (.n 7), (.i 0), (.i 0), (.i 0)]) (.op 6 [] none none false (.store (some 7) (.t 4) (.t 41)) .done))))))) (.seq (.seq (.reg true (.op 0 [] (some 42) none true (.fad (.t 4) 0) (.op 1 [] (some 43) none true (.load (some 1) (.t 42)) (.op 2 [1] (some 44) none false (.call 44 47 [(.t 43)]) (.op 3 [] (some 45) none true (.un .not (.t 44)) (.op 4 [] (some 46) none true (.mov (.t 45)) (.op 5 [] (some 47) (some (46, false)) true (.fad (.t 4) 1) (.op 6 [] (some 48) (some (46, false)) true (.load none (.t 47)) (.op 7 [6, 1] (some 49) (some (46, false)) false (.call 49 48 [(.t 48)]) (.op 8 [] (some 50) (some (46, false)) true (.un .not (.t 49)) (.op 9 [] (some 51) none true (.pick (.t 46) (.v (.bool true)) (.t 50)) (.op 10 [] (some 52) none true (.mov (.t 51)) (.op 11 [] (some 53) (some (52, false)) true (.fad (.t 4) 2) (.op 12 [] (some 54) (some (52, false)) true (.load none (.t 53)) (.op 13 [] (some 55) (some (52, false)) true (.bin .lss (.t 54) (.i 1)) (.op 14 [] (some 56) none true (.pick (.t 52) (.v (.bool true)) (.t 55)) (.op 15 [] (some 57) none true (.mov (.t 56)) (.op 16 [] (some 58) (some (57, false)) true (.fad (.t 4) 2) (.op 17 [] (some 59) (some (57, false)) true (.load none (.t 58)) (.op 18 [] (some 60) (some (57, false)) true (.bin .gtr (.t 59) (.i 3)) (.op 19 [] (some 61) none true (.pick (.t 57) (.v (.bool true)) (.t 60)) (.op 20 [] (some 62) none true (.mov (.t 61)) (.op 21 [] (some 63) (some (62, false)) true (.fad (.t 4) 4) (.op 22 [] (some 64) (some (62, false)) true (.load none (.t 63)) (.op 23 [] (some 65) (some (62, false)) true (.bin .lss (.t 64) (.i 0)) (.op 24 [] (some 66) none true (.pick (.t 62) (.v (.bool true)) (.t 65)) (.op 25 [] (some 67) none true (.mov (.t 66)) (.op 26 [] (some 68) (some (67, false)) true (.fad (.t 4) 4) (.op 27 [] (some 69) (some (67, false)) true (.load none (.t 68)) (.op 28 [] (some 70) (some (67, false)) true (.bin .gtr (.t 69) (.i 3)) (.op 29 [] (some 71) none true (.pick (.t 67) (.v (.bool true)) (.t 70)) (.op 30 [] (some 72) none true (.mov (.t 71)) (.op 31 [] (some 73) (some (72, false)) true (.fad (.t 4) 5) (.op 32 [] (some 74) (some (72, false)) true (.load none (.t 73)) (.op 33 [] (some 75) (some (72, false)) true (.fad (.t 1) 0) (.op 34 [] (some 76) (some (72, false)) true (.load none (.t 75)) (.op 35 [] (some 77) (some (72, false)) true (.bin .leq (.t 74) (.t 76)) (.op 36 [] (some 78) none true (.pick (.t 72) (.v (.bool true)) (.t 77)) (.op 37 [] (some 79) none true (.mov (.t 78)) (.op 38 [] (some 80) (some (79, false)) true (.fad (.t 4) 5) (.op 39 [] (some 81) (some (79, false)) true (.load none (.t 80)) (.op 40 [] (some 82) (some (79, false)) true (.fad (.t 1) 0) (.op 41 [] (some 83) (some (79, false)) true (.load none (.t 82)) (.op 42 [] (some 84) (some (79, false)) true (.bin .add (.t 83) (.i 1000)) (.op 43 [] (some 85) (some (79, false)) true (.bin .gtr (.t 81) (.t 84)) (.op 44 [] (some 86) none true (.pick (.t 79) (.v (.bool true)) (.t 85)) (.op 45 [] (some 87) none true (.mov (.t 86)) (.op 46 [] (some 88) (some (87, false)) true (.fad (.t 4) 6) (.op 47 [] (some 89) (some (87, false)) true (.load none (.t 88)) (.op 48 [] (some 90) (some (87, false)) true (.bin .lss (.t 89) (.i 1)) (.op 49 [] (some 91) none true (.pick (.t 87) (.v (.bool true)) (.t 90)) (.op 50 [] (some 92) none true (.mov (.t 91)) (.op 51 [] (some 93) (some (92, false)) true (.fad (.t 4) 6) (.op 52 [] (some 94) (some (92, false)) true (.load none (.t 93)) (.op 53 [] (some 95) (some (92, false)) true (.fad (.t 1) 1) (.op 54 [] (some 96) (some (92, false)) true (.load none (.t 95)) (.op 55 [] (some 97) (some (92, false)) true (.bin .gtr (.t 94) (.t 96)) (.op 56 [] (some 98) none true (.pick (.t 92) (.v (.bool true)) (.t 97)) (.op 57 [] (some 99) none true (.mov (.t 98)) (.op 58 [] (some 100) (some (99, false)) true (.mov (.t 3)) (.op 59 [] (some 101) (some (99, false)) true (.bin .gtr (.t 100) (.i 0)) (.op 60 [] (some 102) (some (99, false)) true (.mov (.t 101)) (.op 61 [] (some 103) (some (102, true)) true (.fad (.t 1) 2) (.op 62 [] (some 104) (some (102, true)) true (.load none (.t 103)) (.op 63 [] (some 105) (some (102, true)) true (.mov (.t 3)) (.op 64 [] (some 106) (some (102, true)) true (.bin .sub (.t 105) (.i 1)) (.op 65 [] (some 107) (some (102, true)) true (.iad 7 (.t 104) (.t 106)) (.op 66 [] (some 108) (some (102, true)) true (.load (some 7) (.t 107)) (.op 67 [] (some 109) (some (102, true)) true (.load (some 7) (.t 4)) (.op 68 [66, 62, 52, 54, 67, 47] (some 110) (some (102, true)) false (.call 110 145 [(.t 108), (.t 109)]) (.op 69 [] (some 111) (some (102, true)) true (.un .not (.t 110)) (.op 70 [] (some 112) (some (99, false)) true (.pick (.t 102) (.t 111) (.v (.bool false))) (.op 71 [] (some 113) none true (.pick (.t 99) (.v (.bool true)) (.t 112)) .done))))))))))))))))))))))))))))))))))))))))))))))))))))))))))))))))))))))))) (.cond (.t 113) (.g (.o 0 2 (.mov (.v (.bool false))) .done) .ret) .skip)) (.seq (.seq (.reg true (.op 0 [] (some 114) none true (.fad (.t 4) 2) (.op 1 [] (some 115) none true (.load none (.t 114)) (.op 2 [] (some 116) none true (.bin .eql (.t 115) (.i 1)) (.op 3 [] (some 117) none true (.fad (.t 4) 3) (.op 4 [] (some 118) none true (.load none (.t 117)) (.op 5 [4] (some 119) none false (.call 119 146 [(.t 118)]) (.op 6 [] (some 120) none true (.beq true (.t 116) (.t 119)) (.op 7 [] (some 121) none true (.mov (.t 120)) (.op 8 [] (some 122) (some (121, false)) true (.fad (.t 4) 2) (.op 9 [] (some 123) (some (121, false)) true (.load none (.t 122)) (.op 10 [] (some 124) (some (121, false)) true (.bin .neq (.t 123) (.i 1)) (.op 11 [] (some 125) (some (121, false)) true (.mov (.t 124)) (.op 12 [] (some 126) (some (125, true)) true (.fad (.t 4) 3) (.op 13 [] (some 127) (some (125, true)) true (.load none (.t 126)) (.op 14 [] (some 128) (some (125, true)) true (.len (.t 127)) (.op 15 [] (some 129) (some (125, true)) true (.bin .gtr (.t 128) (.i 0)) (.op 16 [] (some 130) (some (121, false)) true (.pick (.t 125) (.t 129) (.v (.bool false))) (.op 17 [] (some 131) none true (.pick (.t 121) (.v (.bool true)) (.t 130)) .done))))))))))))))))))) (.cond (.t 131) (.g (.o 0 2 (.mov (.v (.bool false))) .done) .ret) .skip)) (.seq (.seq (.reg true (.op 0 [] (some 132) none true (.fad (.t 4) 2) (.op 1 [] (some 133) none true (.load none (.t 132)) (.op 2 [] (some 134) none true (.bin .eql (.t 133) (.i 1)) (.op 3 [] (some 135) none true (.mov (.t 134)) (.op 4 [] (some 136) (some (135, true)) true (.fad (.t 4) 3) (.op 5 [] (some 137) (some (135, true)) true (.load none (.t 136)) (.op 6 [] (some 138) (some (135, true)) true (.iad 7 (.t 137) (.i 0)) (.op 7 [] (some 139) (some (135, true)) true (.fad (.t 138) 0) (.op 8 [] (some 140) (some (135, true)) true (.load (some 1) (.t 139)) (.op 9 [] (some 141) (some (135, true)) true (.fad (.t 4) 0) (.op 10 [] (some 142) (some (135, true)) true (.load (some 1) (.t 141)) (.op 11 [8, 5, 1, 10] (some 143) (some (135, true)) false (.call 143 77 [(.t 140), (.t 142)]) (.op 12 [] (some 144) (some (135, true)) true (.bin .neq (.t 143) (.i 0)) (.op 13 [] (some 145) (some (135, true)) true (.mov (.t 144)) (.op 14 [] (some 146) (some (145, false)) true (.fad (.t 4) 3) (.op 15 [] (some 147) (some (145, false)) true (.load none (.t 146)) (.op 16 [] (some 148) (some (145, false)) true (.iad 7 (.t 147) (.i 0)) (.op 17 [] (some 149) (some (145, false)) true (.fad (.t 148) 1) (.op 18 [] (some 150) (some (145, false)) true (.load none (.t 149)) (.op 19 [] (some 151) (some (145, false)) true (.fad (.t 4) 1) (.op 20 [] (some 152) (some (145, false)) true (.load none (.t 151)) (.op 21 [] (some 153) (some (145, false)) true (.bin .neq (.t 150) (.t 152)) (.op 22 [] (some 154) (some (135, true)) true (.pick (.t 145) (.v (.bool true)) (.t 153)) (.op 23 [] (some 155) none true (.pick (.t 135) (.t 154) (.v (.bool false))) .done))))))))))))))))))))))))) (.cond (.t 155) (.g (.o 0 2 (.mov (.v (.bool false))) .done) .ret) .skip)) (.g (.o 0 5 (.mov (.i 0)) .done) (.block 2 (.loop (.seq (.g (.o 0 156 (.mov (.t 5)) (.o 1 157 (.mov (.t 3)) (.o 2 158 (.bin .lss (.t 156) (.t 157)) .done))) (.cond (.t 158) .skip (.exit 2))) (.seq (.block 3 (.seq (.reg true (.op 0 [] (some 161) none true (.fad (.t 1) 2) (.op 1 [] (some 162) none true (.load none (.t 161)) (.op 2 [] (some 163) none true (.mov (.t 5)) (.op 3 [] (some 164) none true (.iad 7 (.t 162) (.t 163)) (.op 4 [] (some 165) none true (.fad (.t 164) 6) (.op 5 [] (some 166) none true (.load none (.t 165)) (.op 6 [] (some 167) none true (.fad (.t 4) 6) (.op 7 [] (some 168) none true (.load none (.t 167)) (.op 8 [] (some 169) none true (.bin .eql (.t 166) (.t 168)) .done)))))))))) (.cond (.t 169) (.g (.o 0 2 (.mov (.v (.bool false))) .done) .ret) .skip))) (.reg false (.o 0 159 (.mov (.t 5)) (.o 1 160 (.bin .add (.t 159) (.i 1)) (.o 2 5 (.mov (.t 160)) .done)))))))))))))) (.reg false (.o 0 35 (.mov (.t 3)) (.o 1 36 (.bin .add (.t 35) (.i 1)) (.o 2 3 (.mov (.t 36)) .done))))))))) (.g (.o 0 2 (.mov (.v (.bool true))) .done) .ret))))
theorem dg_spec_CacheOk : Tryz.f58.body.bind (digC Tryz.prog Tryz.f58.ntmps []) = some c_spec_CacheOk := by kernel_rfl
theorem rs_spec_CacheOk : resSlots Tryz.prog Tryz.f58 = some [.s 2] := by kernel_rfl
theorem ok_spec_CacheOk (c : Cache) (hs : SmallSs c.slots) :
    FnOK Tryz.prog 58 [.agg (c.cells.map .d)] (fun ra _ => ra = [.one (.d (.sc (.bool (cacheOk c))))]) := by
  refine FnOK.ofK Tryz.func58 (by kernel_rfl) dg_spec_CacheOk rs_spec_CacheOk rfl rfl ?_
  delta c_spec_CacheOk T.o X.i C.g
  have h1 := hs.len
  have hm := hs.mem
  by_cases h0 : (0 ≤ c.now ∧ c.now ≤ 1000000) ∧ (0 ≤ c.turn ∧ c.turn ≤ 1000000) ∧ c.slots.length ≤ 8
  case neg =>
    rw [show cacheOk c = false by
      rw [Bool.eq_false_iff]; intro h
      unfold cacheOk at h
      simp only [Bool.and_eq_true, decide_eq_true_eq] at h
      exact h0 ⟨h.1.1.1.1, h.1.1.1.2, h.1.1.2⟩]
    by_cases k1 : 0 ≤ c.now
    case neg => refine kSeq (kReg (kBox rfl rfl rfl rfl rfl (kMovC rfl (kDone (kSeq (kSeq (kReg (kFadP rfl rfl (kLoadP rfl rfl rfl (kBin rfl rfl rfl (kMovC rfl (kGP rfl (fun g0 => kGF rfl (kGF rfl (kGF rfl (kPickT rfl (kMovC rfl (kMovC rfl (kGF rfl (kGF rfl (kGF rfl (kPickT rfl (kMovC rfl (kMovC rfl (kGF rfl (kGF rfl (kGF rfl (kPickT rfl (kMovC rfl (kMovC rfl (kGF rfl (kGF rfl (kGF rfl (kGF rfl (kPickT rfl (kMovC rfl (kDone (kCondT rfl (kSeq (kReg (kMovC rfl (kDone (kRet (endRetA (ra := [.one (.d _)]) rfl rfl)))))))))))))))))))))))))))))))) (fun g0 => (by omega))))))))))))))
    by_cases k2 : c.now ≤ 1000000
    case neg => refine kSeq (kReg (kBox rfl rfl rfl rfl rfl (kMovC rfl (kDone (kSeq (kSeq (kReg (kFadP rfl rfl (kLoadP rfl rfl rfl (kBin rfl rfl rfl (kMovC rfl (kGP rfl (fun g0 => (by omega)) (fun g0 => kGT rfl (kFadP rfl rfl (kGT rfl (kLoadP rfl rfl rfl (kGT rfl (kBin rfl rfl rfl (kPickF rfl (kMovC rfl (kMovC rfl (kGP rfl (fun g1 => kGF rfl (kGF rfl (kGF rfl (kPickT rfl (kMovC rfl (kMovC rfl (kGF rfl (kGF rfl (kGF rfl (kPickT rfl (kMovC rfl (kMovC rfl (kGF rfl (kGF rfl (kGF rfl (kGF rfl (kPickT rfl (kMovC rfl (kDone (kCondT rfl (kSeq (kReg (kMovC rfl (kDone (kRet (endRetA (ra := [.one (.d _)]) rfl rfl)))))))))))))))))))))))))) (fun g1 => (by omega))))))))))))))))))))))))
    by_cases k3 : 0 ≤ c.turn
    case neg => refine kSeq (kReg (kBox rfl rfl rfl rfl rfl (kMovC rfl (kDone (kSeq (kSeq (kReg (kFadP rfl rfl (kLoadP rfl rfl rfl (kBin rfl rfl rfl (kMovC rfl (kGP rfl (fun g0 => (by omega)) (fun g0 => kGT rfl (kFadP rfl rfl (kGT rfl (kLoadP rfl rfl rfl (kGT rfl (kBin rfl rfl rfl (kPickF rfl (kMovC rfl (kMovC rfl (kGP rfl (fun g1 => (by omega)) (fun g1 => kGT rfl (kFadP rfl rfl (kGT rfl (kLoadP rfl rfl rfl (kGT rfl (kBin rfl rfl rfl (kPickF rfl (kMovC rfl (kMovC rfl (kGP rfl (fun g2 => kGF rfl (kGF rfl (kGF rfl (kPickT rfl (kMovC rfl (kMovC rfl (kGF rfl (kGF rfl (kGF rfl (kGF rfl (kPickT rfl (kMovC rfl (kDone (kCondT rfl (kSeq (kReg (kMovC rfl (kDone (kRet (endRetA (ra := [.one (.d _)]) rfl rfl)))))))))))))))))))) (fun g2 => (by omega))))))))))))))))))))))))))))))))))
    by_cases k4 : c.turn ≤ 1000000
    case neg => refine kSeq (kReg (kBox rfl rfl rfl rfl rfl (kMovC rfl (kDone (kSeq (kSeq (kReg (kFadP rfl rfl (kLoadP rfl rfl rfl (kBin rfl rfl rfl (kMovC rfl (kGP rfl (fun g0 => (by omega)) (fun g0 => kGT rfl (kFadP rfl rfl (kGT rfl (kLoadP rfl rfl rfl (kGT rfl (kBin rfl rfl rfl (kPickF rfl (kMovC rfl (kMovC rfl (kGP rfl (fun g1 => (by omega)) (fun g1 => kGT rfl (kFadP rfl rfl (kGT rfl (kLoadP rfl rfl rfl (kGT rfl (kBin rfl rfl rfl (kPickF rfl (kMovC rfl (kMovC rfl (kGP rfl (fun g2 => (by omega)) (fun g2 => kGT rfl (kFadP rfl rfl (kGT rfl (kLoadP rfl rfl rfl (kGT rfl (kBin rfl rfl rfl (kPickF rfl (kMovC rfl (kMovC rfl (kGP rfl (fun g3 => kGF rfl (kGF rfl (kGF rfl (kGF rfl (kPickT rfl (kMovC rfl (kDone (kCondT rfl (kSeq (kReg (kMovC rfl (kDone (kRet (endRetA (ra := [.one (.d _)]) rfl rfl)))))))))))))) (fun g3 => (by omega))))))))))))))))))))))))))))))))))))))))))))
    have k5 : ¬ c.slots.length ≤ 8 := fun h => h0 ⟨⟨k1, k2⟩, ⟨k3, k4⟩, h⟩
    refine Kbc (kBox Y Y Y Y Y (Ka Y (Kdb (Kbc (Kf Y Y (Ke Y Y Y (Kj Y Y Y (Ka Y (kGP Y (fun g0 => om) (fun g0 => Ki Y (Kf Y Y (Ki Y (Ke Y Y Y (Ki Y (Kj Y Y Y (Kl Y (Ka Y (Ka Y (kGP Y (fun g1 => om) (fun g1 => Ki Y (Kf Y Y (Ki Y (Ke Y Y Y (Ki Y (Kj Y Y Y (Kl Y (Ka Y (Ka Y (kGP Y (fun g2 => om) (fun g2 => Ki Y (Kf Y Y (Ki Y (Ke Y Y Y (Ki Y (Kj Y Y Y (Kl Y (Ka Y (Ka Y (kGP Y (fun g3 => om) (fun g3 => Ki Y (Kf Y Y (Ki Y (Ke Y Y Y (Ki Y (Kq Y Y (Ki Y (Kj Y Y Y (Kl Y (Ka Y (Kd (Km Y (fun g4 => Kbc (Ka Y (Kd (Kr (Er (ra := [.one (.d _)]) rfl rfl))))) (fun g4 => om))))))))))))))))))))))))))))))))))))))))))))))))))))
  obtain ⟨⟨j1, j2⟩, ⟨j3, j4⟩, k3⟩ := h0
  refine Kbc (kBox Y Y Y Y Y (Ka Y (Kdb (Kbc (Kf Y Y (Ke Y Y Y (Kj Y Y Y (Ka Y (kGP Y (fun g0 => om) (fun g0 => Ki Y (Kf Y Y (Ki Y (Ke Y Y Y (Ki Y (Kj Y Y Y (Kl Y (Ka Y (Ka Y (kGP Y (fun g1 => om) (fun g1 => Ki Y (Kf Y Y (Ki Y (Ke Y Y Y (Ki Y (Kj Y Y Y (Kl Y (Ka Y (Ka Y (kGP Y (fun g2 => om) (fun g2 => Ki Y (Kf Y Y (Ki Y (Ke Y Y Y (Ki Y (Kj Y Y Y (Kl Y (Ka Y (Ka Y (kGP Y (fun g3 => om) (fun g3 => Ki Y (Kf Y Y (Ki Y (Ke Y Y Y (Ki Y (Kq Y Y (Ki Y (Kj Y Y Y (Kl Y (Ka Y (Kd (Km Y (fun g4 => om) (fun g4 => Kn (Kb (Kbc (Ka Y (Kd (Kt ?_)))))))))))))))))))))))))))))))))))))))))))))))))))))))))
  refine kLoop (α := { i : Nat // i ≤ c.slots.length ∧ (c.slots.take i).all (slotOk c.now c.turn) = true ∧ (List.range i).all (sAt c.slots) = true }) (fun y => ⟨tabSl [(1, .c (.ptr (rid 1 0) 1 0)), (3, .i y.1)], obTab 1 [(rid 1 0, ⟨1, 0, .box (c.cells.map .d)⟩)], []⟩) (fun y => c.slots.length - y.1) ⟨0, by simp⟩ .normA ?_
  rintro ⟨i, hi, ha, hz⟩
  simp only
  rcases Nat.lt_or_ge i c.slots.length with hlt | hge
  · have hbi := hm _ (List.getElem_mem hlt)
    have n1 := hbi.n.len
    have n2 := hbi.n.mem
    have r1 := hbi.r
    have r2 := hbi.r.len
    have hq := sAt_eq hlt
    have he : c.slots[i] ∈ c.slots := List.getElem_mem hlt
    have hpm : ∀ h : ((i : Int) - 1).toNat < c.slots.length, SmallS (c.slots[((i : Int) - 1).toNat]'h) := fun h => hm _ (List.getElem_mem h)
    cases hsl : slotOk c.now c.turn c.slots[i]
    · rw [show cacheOk c = false from cache_no2 hlt hsl]
      cases k1 : nameOk c.slots[i].name
      · refine Kb (Kbc (Ka Y (Kf Y Y (Ke Y Y Y (Kq Y Y (Kj Y Y Y (Kd (Km Y (fun g0 => Kn (Kb (Kt (Kbc (Kf Y Y (Ke Y Y Y (Ka Y (kIadR Y Y Y prl (Ky Y Y (kAlloc Y Y (Ko Y Y Y Y (Kdb (Kb (kRegD (Kf Y Y (Ke Y Y Y (Ks Y Y (Kp (ok_spec_NameOk _ prx prx) ⟨⟨⟨Y, trivial⟩, leb⟩, trivial⟩ Y Y Y Y Y (Kw Y Y (Ka Y (kGN Y (fun g1 => Kg Y (Kg Y (Ks Y Y (Kg Y (Kg Y (Kk Y (Ka Y (Ka Y (Kg Y (Kg Y (Kg Y (Kk Y (Ka Y (Ka Y (Kg Y (Kg Y (Kg Y (Kk Y (Ka Y (Ka Y (Kg Y (Kg Y (Kg Y (Kk Y (Ka Y (Ka Y (Kg Y (Kg Y (Kg Y (Kk Y (Ka Y (Ka Y (Kg Y (Kg Y (Kg Y (Kg Y (Kg Y (Kk Y (Ka Y (Ka Y (Kg Y (Kg Y (Kg Y (Kg Y (Kg Y (Kg Y (Kk Y (Ka Y (Ka Y (Kg Y (Kg Y (Kg Y (Kk Y (Ka Y (Ka Y (Kg Y (Kg Y (Kg Y (Kg Y (Kg Y (Kk Y (Ka Y (Ka Y (Kg Y (Kg Y (Kg Y (kGU Y (kGU Y (kGU Y (kGU Y (kGU Y (kGU Y (kGU Y (Ks Y Y (kGU Y (kGU Y (Kg Y (Kk Y (Ka Y (Kd (kH (kCondT Y (Kbc (Ka Y (Kd (Kr (Er (ra := [.one (.d _)]) rfl rfl))))))))))))))))))))))))))))))))))))))))))))))))))))))))))))))))))))))))))))))))))))))) (fun g1 => (by (simp [*] at g1)))))))))))))))))))))))) (fun g0 => om)))))))))
      cases k2 : tyOk c.slots[i].ty
      · refine Kb (Kbc (Ka Y (Kf Y Y (Ke Y Y Y (Kq Y Y (Kj Y Y Y (Kd (Km Y (fun g0 => Kn (Kb (Kt (Kbc (Kf Y Y (Ke Y Y Y (Ka Y (kIadR Y Y Y prl (Ky Y Y (kAlloc Y Y (Ko Y Y Y Y (Kdb (Kb (kRegD (Kf Y Y (Ke Y Y Y (Ks Y Y (Kp (ok_spec_NameOk _ prx prx) ⟨⟨⟨Y, trivial⟩, leb⟩, trivial⟩ Y Y Y Y Y (Kw Y Y (Ka Y (kGN Y (fun g1 => (by (simp [*] at g1))) (fun g1 => Ki Y (Kf Y Y (Ki Y (Ke Y Y Y (Ks Y Y (Ki Y (Kp (ok_spec_TypeOk _) ⟨Y, trivial⟩ Y Y Y Y Y (Ki Y (Kw Y Y (Kl Y (Ka Y (Ka Y (kGN Y (fun g2 => Kg Y (Kg Y (Kg Y (Kk Y (Ka Y (Ka Y (Kg Y (Kg Y (Kg Y (Kk Y (Ka Y (Ka Y (Kg Y (Kg Y (Kg Y (Kk Y (Ka Y (Ka Y (Kg Y (Kg Y (Kg Y (Kk Y (Ka Y (Ka Y (Kg Y (Kg Y (Kg Y (Kg Y (Kg Y (Kk Y (Ka Y (Ka Y (Kg Y (Kg Y (Kg Y (Kg Y (Kg Y (Kg Y (Kk Y (Ka Y (Ka Y (Kg Y (Kg Y (Kg Y (Kk Y (Ka Y (Ka Y (Kg Y (Kg Y (Kg Y (Kg Y (Kg Y (Kk Y (Ka Y (Ka Y (Kg Y (Kg Y (Kg Y (kGU Y (kGU Y (kGU Y (kGU Y (kGU Y (kGU Y (kGU Y (Ks Y Y (kGU Y (kGU Y (Kg Y (Kk Y (Ka Y (Kd (kH (kCondT Y (Kbc (Ka Y (Kd (Kr (Er (ra := [.one (.d _)]) rfl rfl))))))))))))))))))))))))))))))))))))))))))))))))))))))))))))))))))))))))))))))) (fun g2 => (by (simp [*] at g2))))))))))))))))))))))))))))))))))))) (fun g0 => om)))))))))
      by_cases k3 : 1 ≤ c.slots[i].kind
      case neg => refine kSeq (kSeq (kReg (kMovC rfl (kFadP rfl rfl (kLoadP rfl rfl rfl (kLenR rfl rfl (kBin rfl rfl rfl (kDone (kCondP rfl (fun g0 => kSkip (kSeq (kBlock (kSeq (kReg (kFadP rfl rfl (kLoadP rfl rfl rfl (kMovC rfl (kIadR rfl rfl rfl prl (kLoadD rfl rfl (kAlloc rfl rfl (kStoreP rfl rfl rfl rfl (kDone (kSeq (kSeq (kRegD (kFadP rfl rfl (kLoadP rfl rfl rfl (kRelF rfl rfl (kCallD (ok_spec_NameOk _ prx prx) ⟨⟨⟨rfl, trivial⟩, leb⟩, trivial⟩ rfl rfl rfl rfl rfl (kUn rfl rfl (kMovC rfl (kGN rfl (fun g1 => (by (simp [*] at g1))) (fun g1 => kGT rfl (kFadP rfl rfl (kGT rfl (kLoadP rfl rfl rfl (kRelF rfl rfl (kGT rfl (kCallD (ok_spec_TypeOk _) ⟨rfl, trivial⟩ rfl rfl rfl rfl rfl (kGT rfl (kUn rfl rfl (kPickF rfl (kMovC rfl (kMovC rfl (kGN rfl (fun g2 => (by (simp [*] at g2))) (fun g2 => kGT rfl (kFadP rfl rfl (kGT rfl (kLoadP rfl rfl rfl (kGT rfl (kBin rfl rfl rfl (kPickF rfl (kMovC rfl (kMovC rfl (kGP rfl (fun g3 => (kGF rfl (kGF rfl (kGF rfl (kPickT rfl (kMovC rfl (kMovC rfl (kGF rfl (kGF rfl (kGF rfl (kPickT rfl (kMovC rfl (kMovC rfl (kGF rfl (kGF rfl (kGF rfl (kPickT rfl (kMovC rfl (kMovC rfl (kGF rfl (kGF rfl (kGF rfl (kGF rfl (kGF rfl (kPickT rfl (kMovC rfl (kMovC rfl (kGF rfl (kGF rfl (kGF rfl (kGF rfl (kGF rfl (kGF rfl (kPickT rfl (kMovC rfl (kMovC rfl (kGF rfl (kGF rfl (kGF rfl (kPickT rfl (kMovC rfl (kMovC rfl (kGF rfl (kGF rfl (kGF rfl (kGF rfl (kGF rfl (kPickT rfl (kMovC rfl (kMovC rfl (kGF rfl (kGF rfl (kGF rfl (kGU rfl (kGU rfl (kGU rfl (kGU rfl (kGU rfl (kGU rfl (kGU rfl (kRelK rfl rfl (kGU rfl (kGU rfl (kGF rfl (kPickT rfl (kMovC rfl (kDone (kH (kCondT rfl (kSeq (kReg (kMovC rfl (kDone (kRet (endRetA (ra := [.one (.d _)]) rfl rfl))))))))))))))))))))))))))))))))))))))))))))))))))))))))))))))))))))))))))) (fun g3 => (by omega)))))))))))))))))))))))))))))))))))))))))))))))) (fun g0 => (by omega)))))))))))
      by_cases k4 : c.slots[i].kind ≤ 3
      case neg => refine kSeq (kSeq (kReg (kMovC rfl (kFadP rfl rfl (kLoadP rfl rfl rfl (kLenR rfl rfl (kBin rfl rfl rfl (kDone (kCondP rfl (fun g0 => kSkip (kSeq (kBlock (kSeq (kReg (kFadP rfl rfl (kLoadP rfl rfl rfl (kMovC rfl (kIadR rfl rfl rfl prl (kLoadD rfl rfl (kAlloc rfl rfl (kStoreP rfl rfl rfl rfl (kDone (kSeq (kSeq (kRegD (kFadP rfl rfl (kLoadP rfl rfl rfl (kRelF rfl rfl (kCallD (ok_spec_NameOk _ prx prx) ⟨⟨⟨rfl, trivial⟩, leb⟩, trivial⟩ rfl rfl rfl rfl rfl (kUn rfl rfl (kMovC rfl (kGN rfl (fun g1 => (by (simp [*] at g1))) (fun g1 => kGT rfl (kFadP rfl rfl (kGT rfl (kLoadP rfl rfl rfl (kRelF rfl rfl (kGT rfl (kCallD (ok_spec_TypeOk _) ⟨rfl, trivial⟩ rfl rfl rfl rfl rfl (kGT rfl (kUn rfl rfl (kPickF rfl (kMovC rfl (kMovC rfl (kGN rfl (fun g2 => (by (simp [*] at g2))) (fun g2 => kGT rfl (kFadP rfl rfl (kGT rfl (kLoadP rfl rfl rfl (kGT rfl (kBin rfl rfl rfl (kPickF rfl (kMovC rfl (kMovC rfl (kGP rfl (fun g3 => (by omega)) (fun g3 => (kGT rfl (kFadP rfl rfl (kGT rfl (kLoadP rfl rfl rfl (kGT rfl (kBin rfl rfl rfl (kPickF rfl (kMovC rfl (kMovC rfl (kGP rfl (fun g4 => kGF rfl (kGF rfl (kGF rfl (kPickT rfl (kMovC rfl (kMovC rfl (kGF rfl (kGF rfl (kGF rfl (kPickT rfl (kMovC rfl (kMovC rfl (kGF rfl (kGF rfl (kGF rfl (kGF rfl (kGF rfl (kPickT rfl (kMovC rfl (kMovC rfl (kGF rfl (kGF rfl (kGF rfl (kGF rfl (kGF rfl (kGF rfl (kPickT rfl (kMovC rfl (kMovC rfl (kGF rfl (kGF rfl (kGF rfl (kPickT rfl (kMovC rfl (kMovC rfl (kGF rfl (kGF rfl (kGF rfl (kGF rfl (kGF rfl (kPickT rfl (kMovC rfl (kMovC rfl (kGF rfl (kGF rfl (kGF rfl (kGU rfl (kGU rfl (kGU rfl (kGU rfl (kGU rfl (kGU rfl (kGU rfl (kRelK rfl rfl (kGU rfl (kGU rfl (kGF rfl (kPickT rfl (kMovC rfl (kDone (kH (kCondT rfl (kSeq (kReg (kMovC rfl (kDone (kRet (endRetA (ra := [.one (.d _)]) rfl rfl)))))))))))))))))))))))))))))))))))))))))))))))))))))))))))))))))))) (fun g4 => (by omega))))))))))))))))))))))))))))))))))))))))))))))))))))))))))) (fun g0 => (by omega)))))))))))
      by_cases k5 : 0 ≤ c.slots[i].rank
      case neg => refine kSeq (kSeq (kReg (kMovC rfl (kFadP rfl rfl (kLoadP rfl rfl rfl (kLenR rfl rfl (kBin rfl rfl rfl (kDone (kCondP rfl (fun g0 => kSkip (kSeq (kBlock (kSeq (kReg (kFadP rfl rfl (kLoadP rfl rfl rfl (kMovC rfl (kIadR rfl rfl rfl prl (kLoadD rfl rfl (kAlloc rfl rfl (kStoreP rfl rfl rfl rfl (kDone (kSeq (kSeq (kRegD (kFadP rfl rfl (kLoadP rfl rfl rfl (kRelF rfl rfl (kCallD (ok_spec_NameOk _ prx prx) ⟨⟨⟨rfl, trivial⟩, leb⟩, trivial⟩ rfl rfl rfl rfl rfl (kUn rfl rfl (kMovC rfl (kGN rfl (fun g1 => (by (simp [*] at g1))) (fun g1 => kGT rfl (kFadP rfl rfl (kGT rfl (kLoadP rfl rfl rfl (kRelF rfl rfl (kGT rfl (kCallD (ok_spec_TypeOk _) ⟨rfl, trivial⟩ rfl rfl rfl rfl rfl (kGT rfl (kUn rfl rfl (kPickF rfl (kMovC rfl (kMovC rfl (kGN rfl (fun g2 => (by (simp [*] at g2))) (fun g2 => kGT rfl (kFadP rfl rfl (kGT rfl (kLoadP rfl rfl rfl (kGT rfl (kBin rfl rfl rfl (kPickF rfl (kMovC rfl (kMovC rfl (kGP rfl (fun g3 => (by omega)) (fun g3 => (kGT rfl (kFadP rfl rfl (kGT rfl (kLoadP rfl rfl rfl (kGT rfl (kBin rfl rfl rfl (kPickF rfl (kMovC rfl (kMovC rfl (kGP rfl (fun g4 => (by omega)) (fun g4 => kGT rfl (kFadP rfl rfl (kGT rfl (kLoadP rfl rfl rfl (kGT rfl (kBin rfl rfl rfl (kPickF rfl (kMovC rfl (kMovC rfl (kGP rfl (fun g5 => kGF rfl (kGF rfl (kGF rfl (kPickT rfl (kMovC rfl (kMovC rfl (kGF rfl (kGF rfl (kGF rfl (kGF rfl (kGF rfl (kPickT rfl (kMovC rfl (kMovC rfl (kGF rfl (kGF rfl (kGF rfl (kGF rfl (kGF rfl (kGF rfl (kPickT rfl (kMovC rfl (kMovC rfl (kGF rfl (kGF rfl (kGF rfl (kPickT rfl (kMovC rfl (kMovC rfl (kGF rfl (kGF rfl (kGF rfl (kGF rfl (kGF rfl (kPickT rfl (kMovC rfl (kMovC rfl (kGF rfl (kGF rfl (kGF rfl (kGU rfl (kGU rfl (kGU rfl (kGU rfl (kGU rfl (kGU rfl (kGU rfl (kRelK rfl rfl (kGU rfl (kGU rfl (kGF rfl (kPickT rfl (kMovC rfl (kDone (kH (kCondT rfl (kSeq (kReg (kMovC rfl (kDone (kRet (endRetA (ra := [.one (.d _)]) rfl rfl)))))))))))))))))))))))))))))))))))))))))))))))))))))))))))))) (fun g5 => (by omega))))))))))))))))))))))))))))))))))))))))))))))))))))))))))))))))))))) (fun g0 => (by omega)))))))))))
      by_cases k6 : c.slots[i].rank ≤ 3
      case neg => refine kSeq (kSeq (kReg (kMovC rfl (kFadP rfl rfl (kLoadP rfl rfl rfl (kLenR rfl rfl (kBin rfl rfl rfl (kDone (kCondP rfl (fun g0 => kSkip (kSeq (kBlock (kSeq (kReg (kFadP rfl rfl (kLoadP rfl rfl rfl (kMovC rfl (kIadR rfl rfl rfl prl (kLoadD rfl rfl (kAlloc rfl rfl (kStoreP rfl rfl rfl rfl (kDone (kSeq (kSeq (kRegD (kFadP rfl rfl (kLoadP rfl rfl rfl (kRelF rfl rfl (kCallD (ok_spec_NameOk _ prx prx) ⟨⟨⟨rfl, trivial⟩, leb⟩, trivial⟩ rfl rfl rfl rfl rfl (kUn rfl rfl (kMovC rfl (kGN rfl (fun g1 => (by (simp [*] at g1))) (fun g1 => kGT rfl (kFadP rfl rfl (kGT rfl (kLoadP rfl rfl rfl (kRelF rfl rfl (kGT rfl (kCallD (ok_spec_TypeOk _) ⟨rfl, trivial⟩ rfl rfl rfl rfl rfl (kGT rfl (kUn rfl rfl (kPickF rfl (kMovC rfl (kMovC rfl (kGN rfl (fun g2 => (by (simp [*] at g2))) (fun g2 => kGT rfl (kFadP rfl rfl (kGT rfl (kLoadP rfl rfl rfl (kGT rfl (kBin rfl rfl rfl (kPickF rfl (kMovC rfl (kMovC rfl (kGP rfl (fun g3 => (by omega)) (fun g3 => (kGT rfl (kFadP rfl rfl (kGT rfl (kLoadP rfl rfl rfl (kGT rfl (kBin rfl rfl rfl (kPickF rfl (kMovC rfl (kMovC rfl (kGP rfl (fun g4 => (by omega)) (fun g4 => kGT rfl (kFadP rfl rfl (kGT rfl (kLoadP rfl rfl rfl (kGT rfl (kBin rfl rfl rfl (kPickF rfl (kMovC rfl (kMovC rfl (kGP rfl (fun g5 => (by omega)) (fun g5 => kGT rfl (kFadP rfl rfl (kGT rfl (kLoadP rfl rfl rfl (kGT rfl (kBin rfl rfl rfl (kPickF rfl (kMovC rfl (kMovC rfl (kGP rfl (fun g6 => kGF rfl (kGF rfl (kGF rfl (kGF rfl (kGF rfl (kPickT rfl (kMovC rfl (kMovC rfl (kGF rfl (kGF rfl (kGF rfl (kGF rfl (kGF rfl (kGF rfl (kPickT rfl (kMovC rfl (kMovC rfl (kGF rfl (kGF rfl (kGF rfl (kPickT rfl (kMovC rfl (kMovC rfl (kGF rfl (kGF rfl (kGF rfl (kGF rfl (kGF rfl (kPickT rfl (kMovC rfl (kMovC rfl (kGF rfl (kGF rfl (kGF rfl (kGU rfl (kGU rfl (kGU rfl (kGU rfl (kGU rfl (kGU rfl (kGU rfl (kRelK rfl rfl (kGU rfl (kGU rfl (kGF rfl (kPickT rfl (kMovC rfl (kDone (kH (kCondT rfl (kSeq (kReg (kMovC rfl (kDone (kRet (endRetA (ra := [.one (.d _)]) rfl rfl)))))))))))))))))))))))))))))))))))))))))))))))))))))))) (fun g6 => (by omega))))))))))))))))))))))))))))))))))))))))))))))))))))))))))))))))))))))))))))))) (fun g0 => (by omega)))))))))))
      by_cases k7 : c.now + 1 ≤ c.slots[i].til
      case neg => refine kSeq (kSeq (kReg (kMovC rfl (kFadP rfl rfl (kLoadP rfl rfl rfl (kLenR rfl rfl (kBin rfl rfl rfl (kDone (kCondP rfl (fun g0 => kSkip (kSeq (kBlock (kSeq (kReg (kFadP rfl rfl (kLoadP rfl rfl rfl (kMovC rfl (kIadR rfl rfl rfl prl (kLoadD rfl rfl (kAlloc rfl rfl (kStoreP rfl rfl rfl rfl (kDone (kSeq (kSeq (kRegD (kFadP rfl rfl (kLoadP rfl rfl rfl (kRelF rfl rfl (kCallD (ok_spec_NameOk _ prx prx) ⟨⟨⟨rfl, trivial⟩, leb⟩, trivial⟩ rfl rfl rfl rfl rfl (kUn rfl rfl (kMovC rfl (kGN rfl (fun g1 => (by (simp [*] at g1))) (fun g1 => kGT rfl (kFadP rfl rfl (kGT rfl (kLoadP rfl rfl rfl (kRelF rfl rfl (kGT rfl (kCallD (ok_spec_TypeOk _) ⟨rfl, trivial⟩ rfl rfl rfl rfl rfl (kGT rfl (kUn rfl rfl (kPickF rfl (kMovC rfl (kMovC rfl (kGN rfl (fun g2 => (by (simp [*] at g2))) (fun g2 => kGT rfl (kFadP rfl rfl (kGT rfl (kLoadP rfl rfl rfl (kGT rfl (kBin rfl rfl rfl (kPickF rfl (kMovC rfl (kMovC rfl (kGP rfl (fun g3 => (by omega)) (fun g3 => (kGT rfl (kFadP rfl rfl (kGT rfl (kLoadP rfl rfl rfl (kGT rfl (kBin rfl rfl rfl (kPickF rfl (kMovC rfl (kMovC rfl (kGP rfl (fun g4 => (by omega)) (fun g4 => kGT rfl (kFadP rfl rfl (kGT rfl (kLoadP rfl rfl rfl (kGT rfl (kBin rfl rfl rfl (kPickF rfl (kMovC rfl (kMovC rfl (kGP rfl (fun g5 => (by omega)) (fun g5 => kGT rfl (kFadP rfl rfl (kGT rfl (kLoadP rfl rfl rfl (kGT rfl (kBin rfl rfl rfl (kPickF rfl (kMovC rfl (kMovC rfl (kGP rfl (fun g6 => (by omega)) (fun g6 => kGT rfl (kFadP rfl rfl (kGT rfl (kLoadP rfl rfl rfl (kGT rfl (kFadP rfl rfl (kGT rfl (kLoadP rfl rfl rfl (kGT rfl (kBin rfl rfl rfl (kPickF rfl (kMovC rfl (kMovC rfl (kGP rfl (fun g7 => kGF rfl (kGF rfl (kGF rfl (kGF rfl (kGF rfl (kGF rfl (kPickT rfl (kMovC rfl (kMovC rfl (kGF rfl (kGF rfl (kGF rfl (kPickT rfl (kMovC rfl (kMovC rfl (kGF rfl (kGF rfl (kGF rfl (kGF rfl (kGF rfl (kPickT rfl (kMovC rfl (kMovC rfl (kGF rfl (kGF rfl (kGF rfl (kGU rfl (kGU rfl (kGU rfl (kGU rfl (kGU rfl (kGU rfl (kGU rfl (kRelK rfl rfl (kGU rfl (kGU rfl (kGF rfl (kPickT rfl (kMovC rfl (kDone (kH (kCondT rfl (kSeq (kReg (kMovC rfl (kDone (kRet (endRetA (ra := [.one (.d _)]) rfl rfl)))))))))))))))))))))))))))))))))))))))))))))))) (fun g7 => (by omega))))))))))))))))))))))))))))))))))))))))))))))))))))))))))))))))))))))))))))))))))))))))))))) (fun g0 => (by omega)))))))))))
      by_cases k8 : c.slots[i].til ≤ c.now + 1000
      case neg => refine kSeq (kSeq (kReg (kMovC rfl (kFadP rfl rfl (kLoadP rfl rfl rfl (kLenR rfl rfl (kBin rfl rfl rfl (kDone (kCondP rfl (fun g0 => kSkip (kSeq (kBlock (kSeq (kReg (kFadP rfl rfl (kLoadP rfl rfl rfl (kMovC rfl (kIadR rfl rfl rfl prl (kLoadD rfl rfl (kAlloc rfl rfl (kStoreP rfl rfl rfl rfl (kDone (kSeq (kSeq (kRegD (kFadP rfl rfl (kLoadP rfl rfl rfl (kRelF rfl rfl (kCallD (ok_spec_NameOk _ prx prx) ⟨⟨⟨rfl, trivial⟩, leb⟩, trivial⟩ rfl rfl rfl rfl rfl (kUn rfl rfl (kMovC rfl (kGN rfl (fun g1 => (by (simp [*] at g1))) (fun g1 => kGT rfl (kFadP rfl rfl (kGT rfl (kLoadP rfl rfl rfl (kRelF rfl rfl (kGT rfl (kCallD (ok_spec_TypeOk _) ⟨rfl, trivial⟩ rfl rfl rfl rfl rfl (kGT rfl (kUn rfl rfl (kPickF rfl (kMovC rfl (kMovC rfl (kGN rfl (fun g2 => (by (simp [*] at g2))) (fun g2 => kGT rfl (kFadP rfl rfl (kGT rfl (kLoadP rfl rfl rfl (kGT rfl (kBin rfl rfl rfl (kPickF rfl (kMovC rfl (kMovC rfl (kGP rfl (fun g3 => (by omega)) (fun g3 => (kGT rfl (kFadP rfl rfl (kGT rfl (kLoadP rfl rfl rfl (kGT rfl (kBin rfl rfl rfl (kPickF rfl (kMovC rfl (kMovC rfl (kGP rfl (fun g4 => (by omega)) (fun g4 => kGT rfl (kFadP rfl rfl (kGT rfl (kLoadP rfl rfl rfl (kGT rfl (kBin rfl rfl rfl (kPickF rfl (kMovC rfl (kMovC rfl (kGP rfl (fun g5 => (by omega)) (fun g5 => kGT rfl (kFadP rfl rfl (kGT rfl (kLoadP rfl rfl rfl (kGT rfl (kBin rfl rfl rfl (kPickF rfl (kMovC rfl (kMovC rfl (kGP rfl (fun g6 => (by omega)) (fun g6 => kGT rfl (kFadP rfl rfl (kGT rfl (kLoadP rfl rfl rfl (kGT rfl (kFadP rfl rfl (kGT rfl (kLoadP rfl rfl rfl (kGT rfl (kBin rfl rfl rfl (kPickF rfl (kMovC rfl (kMovC rfl (kGP rfl (fun g7 => (by omega)) (fun g7 => kGT rfl (kFadP rfl rfl (kGT rfl (kLoadP rfl rfl rfl (kGT rfl (kFadP rfl rfl (kGT rfl (kLoadP rfl rfl rfl (kGT rfl (kAdd rfl rfl (by omega) (kGT rfl (kBin rfl rfl rfl (kPickF rfl (kMovC rfl (kMovC rfl (kGP rfl (fun g8 => kGF rfl (kGF rfl (kGF rfl (kPickT rfl (kMovC rfl (kMovC rfl (kGF rfl (kGF rfl (kGF rfl (kGF rfl (kGF rfl (kPickT rfl (kMovC rfl (kMovC rfl (kGF rfl (kGF rfl (kGF rfl (kGU rfl (kGU rfl (kGU rfl (kGU rfl (kGU rfl (kGU rfl (kGU rfl (kRelK rfl rfl (kGU rfl (kGU rfl (kGF rfl (kPickT rfl (kMovC rfl (kDone (kH (kCondT rfl (kSeq (kReg (kMovC rfl (kDone (kRet (endRetA (ra := [.one (.d _)]) rfl rfl))))))))))))))))))))))))))))))))))))))) (fun g8 => (by omega))))))))))))))))))))))))))))))))))))))))))))))))))))))))))))))))))))))))))))))))))))))))))))))))))))))))))))) (fun g0 => (by omega)))))))))))
      by_cases k9 : 1 ≤ c.slots[i].used
      case neg => refine kSeq (kSeq (kReg (kMovC rfl (kFadP rfl rfl (kLoadP rfl rfl rfl (kLenR rfl rfl (kBin rfl rfl rfl (kDone (kCondP rfl (fun g0 => kSkip (kSeq (kBlock (kSeq (kReg (kFadP rfl rfl (kLoadP rfl rfl rfl (kMovC rfl (kIadR rfl rfl rfl prl (kLoadD rfl rfl (kAlloc rfl rfl (kStoreP rfl rfl rfl rfl (kDone (kSeq (kSeq (kRegD (kFadP rfl rfl (kLoadP rfl rfl rfl (kRelF rfl rfl (kCallD (ok_spec_NameOk _ prx prx) ⟨⟨⟨rfl, trivial⟩, leb⟩, trivial⟩ rfl rfl rfl rfl rfl (kUn rfl rfl (kMovC rfl (kGN rfl (fun g1 => (by (simp [*] at g1))) (fun g1 => kGT rfl (kFadP rfl rfl (kGT rfl (kLoadP rfl rfl rfl (kRelF rfl rfl (kGT rfl (kCallD (ok_spec_TypeOk _) ⟨rfl, trivial⟩ rfl rfl rfl rfl rfl (kGT rfl (kUn rfl rfl (kPickF rfl (kMovC rfl (kMovC rfl (kGN rfl (fun g2 => (by (simp [*] at g2))) (fun g2 => kGT rfl (kFadP rfl rfl (kGT rfl (kLoadP rfl rfl rfl (kGT rfl (kBin rfl rfl rfl (kPickF rfl (kMovC rfl (kMovC rfl (kGP rfl (fun g3 => (by omega)) (fun g3 => (kGT rfl (kFadP rfl rfl (kGT rfl (kLoadP rfl rfl rfl (kGT rfl (kBin rfl rfl rfl (kPickF rfl (kMovC rfl (kMovC rfl (kGP rfl (fun g4 => (by omega)) (fun g4 => kGT rfl (kFadP rfl rfl (kGT rfl (kLoadP rfl rfl rfl (kGT rfl (kBin rfl rfl rfl (kPickF rfl (kMovC rfl (kMovC rfl (kGP rfl (fun g5 => (by omega)) (fun g5 => kGT rfl (kFadP rfl rfl (kGT rfl (kLoadP rfl rfl rfl (kGT rfl (kBin rfl rfl rfl (kPickF rfl (kMovC rfl (kMovC rfl (kGP rfl (fun g6 => (by omega)) (fun g6 => kGT rfl (kFadP rfl rfl (kGT rfl (kLoadP rfl rfl rfl (kGT rfl (kFadP rfl rfl (kGT rfl (kLoadP rfl rfl rfl (kGT rfl (kBin rfl rfl rfl (kPickF rfl (kMovC rfl (kMovC rfl (kGP rfl (fun g7 => (by omega)) (fun g7 => kGT rfl (kFadP rfl rfl (kGT rfl (kLoadP rfl rfl rfl (kGT rfl (kFadP rfl rfl (kGT rfl (kLoadP rfl rfl rfl (kGT rfl (kAdd rfl rfl (by omega) (kGT rfl (kBin rfl rfl rfl (kPickF rfl (kMovC rfl (kMovC rfl (kGP rfl (fun g8 => (by omega)) (fun g8 => kGT rfl (kFadP rfl rfl (kGT rfl (kLoadP rfl rfl rfl (kGT rfl (kBin rfl rfl rfl (kPickF rfl (kMovC rfl (kMovC rfl (kGP rfl (fun g9 => (kGF rfl (kGF rfl (kGF rfl (kGF rfl (kGF rfl (kPickT rfl (kMovC rfl (kMovC rfl (kGF rfl (kGF rfl (kGF rfl (kGU rfl (kGU rfl (kGU rfl (kGU rfl (kGU rfl (kGU rfl (kGU rfl (kRelK rfl rfl (kGU rfl (kGU rfl (kGF rfl (kPickT rfl (kMovC rfl (kDone (kH (kCondT rfl (kSeq (kReg (kMovC rfl (kDone (kRet (endRetA (ra := [.one (.d _)]) rfl rfl)))))))))))))))))))))))))))))))))) (fun g9 => (by omega))))))))))))))))))))))))))))))))))))))))))))))))))))))))))))))))))))))))))))))))))))))))))))))))))))))))))))))))))))))) (fun g0 => (by omega)))))))))))
      by_cases k10 : c.slots[i].used ≤ c.turn
      case neg => refine kSeq (kSeq (kReg (kMovC rfl (kFadP rfl rfl (kLoadP rfl rfl rfl (kLenR rfl rfl (kBin rfl rfl rfl (kDone (kCondP rfl (fun g0 => kSkip (kSeq (kBlock (kSeq (kReg (kFadP rfl rfl (kLoadP rfl rfl rfl (kMovC rfl (kIadR rfl rfl rfl prl (kLoadD rfl rfl (kAlloc rfl rfl (kStoreP rfl rfl rfl rfl (kDone (kSeq (kSeq (kRegD (kFadP rfl rfl (kLoadP rfl rfl rfl (kRelF rfl rfl (kCallD (ok_spec_NameOk _ prx prx) ⟨⟨⟨rfl, trivial⟩, leb⟩, trivial⟩ rfl rfl rfl rfl rfl (kUn rfl rfl (kMovC rfl (kGN rfl (fun g1 => (by (simp [*] at g1))) (fun g1 => kGT rfl (kFadP rfl rfl (kGT rfl (kLoadP rfl rfl rfl (kRelF rfl rfl (kGT rfl (kCallD (ok_spec_TypeOk _) ⟨rfl, trivial⟩ rfl rfl rfl rfl rfl (kGT rfl (kUn rfl rfl (kPickF rfl (kMovC rfl (kMovC rfl (kGN rfl (fun g2 => (by (simp [*] at g2))) (fun g2 => kGT rfl (kFadP rfl rfl (kGT rfl (kLoadP rfl rfl rfl (kGT rfl (kBin rfl rfl rfl (kPickF rfl (kMovC rfl (kMovC rfl (kGP rfl (fun g3 => (by omega)) (fun g3 => (kGT rfl (kFadP rfl rfl (kGT rfl (kLoadP rfl rfl rfl (kGT rfl (kBin rfl rfl rfl (kPickF rfl (kMovC rfl (kMovC rfl (kGP rfl (fun g4 => (by omega)) (fun g4 => kGT rfl (kFadP rfl rfl (kGT rfl (kLoadP rfl rfl rfl (kGT rfl (kBin rfl rfl rfl (kPickF rfl (kMovC rfl (kMovC rfl (kGP rfl (fun g5 => (by omega)) (fun g5 => kGT rfl (kFadP rfl rfl (kGT rfl (kLoadP rfl rfl rfl (kGT rfl (kBin rfl rfl rfl (kPickF rfl (kMovC rfl (kMovC rfl (kGP rfl (fun g6 => (by omega)) (fun g6 => kGT rfl (kFadP rfl rfl (kGT rfl (kLoadP rfl rfl rfl (kGT rfl (kFadP rfl rfl (kGT rfl (kLoadP rfl rfl rfl (kGT rfl (kBin rfl rfl rfl (kPickF rfl (kMovC rfl (kMovC rfl (kGP rfl (fun g7 => (by omega)) (fun g7 => kGT rfl (kFadP rfl rfl (kGT rfl (kLoadP rfl rfl rfl (kGT rfl (kFadP rfl rfl (kGT rfl (kLoadP rfl rfl rfl (kGT rfl (kAdd rfl rfl (by omega) (kGT rfl (kBin rfl rfl rfl (kPickF rfl (kMovC rfl (kMovC rfl (kGP rfl (fun g8 => (by omega)) (fun g8 => kGT rfl (kFadP rfl rfl (kGT rfl (kLoadP rfl rfl rfl (kGT rfl (kBin rfl rfl rfl (kPickF rfl (kMovC rfl (kMovC rfl (kGP rfl (fun g9 => (by omega)) (fun g9 => (kGT rfl (kFadP rfl rfl (kGT rfl (kLoadP rfl rfl rfl (kGT rfl (kFadP rfl rfl (kGT rfl (kLoadP rfl rfl rfl (kGT rfl (kBin rfl rfl rfl (kPickF rfl (kMovC rfl (kMovC rfl (kGP rfl (fun g10 => kGF rfl (kGF rfl (kGF rfl (kGU rfl (kGU rfl (kGU rfl (kGU rfl (kGU rfl (kGU rfl (kGU rfl (kRelK rfl rfl (kGU rfl (kGU rfl (kGF rfl (kPickT rfl (kMovC rfl (kDone (kH (kCondT rfl (kSeq (kReg (kMovC rfl (kDone (kRet (endRetA (ra := [.one (.d _)]) rfl rfl))))))))))))))))))))))))) (fun g10 => (by omega)))))))))))))))))))))))))))))))))))))))))))))))))))))))))))))))))))))))))))))))))))))))))))))))))))))))))))))))))))))))))))))))))))))) (fun g0 => (by omega)))))))))))
      have hh : hitOk c.slots[i] = false := by
        rw [← hsl]; unfold slotOk; rw [k1, k2, decide_eq_true ⟨k3, k4⟩, decide_eq_true ⟨k5, k6⟩, decide_eq_true ⟨k7, k8⟩, decide_eq_true ⟨k9, k10⟩]; rfl
      by_cases kk : c.slots[i].kind = 1
      case neg =>
        have kl : ¬ (c.slots[i].rrs.length : Int) = 0 := fun h => by
          have : hitOk c.slots[i] = true := by unfold hitOk; rw [if_neg kk]; exact decide_eq_true (by omega)
          rw [this] at hh; cases hh
        cases kset : isSetR c.slots[i].rrs
        · refine Kb (Kbc (Ka Y (Kf Y Y (Ke Y Y Y (Kq Y Y (Kj Y Y Y (Kd (Km Y (fun g0 => Kn (Kb (Kt (Kbc (Kf Y Y (Ke Y Y Y (Ka Y (kIadR Y Y Y prl (Ky Y Y (kAlloc Y Y (Ko Y Y Y Y (Kdb (Kb (kRegD (Kf Y Y (Ke Y Y Y (Ks Y Y (Kp (ok_spec_NameOk _ prx prx) ⟨⟨⟨Y, trivial⟩, leb⟩, trivial⟩ Y Y Y Y Y (Kw Y Y (Ka Y (kGN Y (fun g1 => (by (simp [*] at g1))) (fun g1 => Ki Y (Kf Y Y (Ki Y (Ke Y Y Y (Ks Y Y (Ki Y (Kp (ok_spec_TypeOk _) ⟨Y, trivial⟩ Y Y Y Y Y (Ki Y (Kw Y Y (Kl Y (Ka Y (Ka Y (kGN Y (fun g2 => (by (simp [*] at g2))) (fun g2 => Ki Y (Kf Y Y (Ki Y (Ke Y Y Y (Ki Y (Kj Y Y Y (Kl Y (Ka Y (Ka Y (kGP Y (fun g3 => om) (fun g3 => (Ki Y (Kf Y Y (Ki Y (Ke Y Y Y (Ki Y (Kj Y Y Y (Kl Y (Ka Y (Ka Y (kGP Y (fun g4 => om) (fun g4 => Ki Y (Kf Y Y (Ki Y (Ke Y Y Y (Ki Y (Kj Y Y Y (Kl Y (Ka Y (Ka Y (kGP Y (fun g5 => om) (fun g5 => Ki Y (Kf Y Y (Ki Y (Ke Y Y Y (Ki Y (Kj Y Y Y (Kl Y (Ka Y (Ka Y (kGP Y (fun g6 => om) (fun g6 => Ki Y (Kf Y Y (Ki Y (Ke Y Y Y (Ki Y (Kf Y Y (Ki Y (Ke Y Y Y (Ki Y (Kj Y Y Y (Kl Y (Ka Y (Ka Y (kGP Y (fun g7 => om) (fun g7 => Ki Y (Kf Y Y (Ki Y (Ke Y Y Y (Ki Y (Kf Y Y (Ki Y (Ke Y Y Y (Ki Y (kAdd Y Y om (Ki Y (Kj Y Y Y (Kl Y (Ka Y (Ka Y (kGP Y (fun g8 => om) (fun g8 => Ki Y (Kf Y Y (Ki Y (Ke Y Y Y (Ki Y (Kj Y Y Y (Kl Y (Ka Y (Ka Y (kGP Y (fun g9 => om) (fun g9 => (Ki Y (Kf Y Y (Ki Y (Ke Y Y Y (Ki Y (Kf Y Y (Ki Y (Ke Y Y Y (Ki Y (Kj Y Y Y (Kl Y (Ka Y (Ka Y (kGP Y (fun g10 => om) (fun g10 => Ki Y (Ka Y (Ki Y (Kj Y Y Y (Ki Y (Ka Y (kGP Y (fun g11 => Ki Y (Kf Y Y (Ki Y (Ke Y Y Y (Ki Y (Ka Y (Ki Y (kDif Y Y om (Ki Y (kIadT Y Y prl (Ki Y (Ky Y Y (Ki Y (Ke Y Y Y (Kx Y Y (Ki Y (Kp (ok_spec_l10ahead _ _ prx prx) ⟨⟨⟨Y, Y, Y, Y, Y, Y, Y, trivial⟩, leb⟩, ⟨⟨Y, Y, Y, Y, Y, Y, Y, trivial⟩, leb⟩, trivial⟩ Y Y Y Y Y (Ki Y (Kw Y Y (Ki Y (Kk Y (Ka Y (Kl Y (Ka Y (Kd (kH (kCondN Y (fun g12 => Kbc (Ka Y (Kd (Kr (Er (ra := [.one (.d _)]) rfl rfl))))) (fun g12 => Kn (Kb (Kb (kRegD (Kf Y Y (Ke Y Y Y (Kj Y Y Y (Kf Y Y (Ke Y Y Y (Kx Y Y (Kp (ok_spec_l10set _ prx) ⟨Y, trivial⟩ Y Y Y Y Y (kBeq Y Y (Ka Y (kGN Y (fun g13 => (by (simp [*] at g13))) (fun g13 => Ki Y (Kf Y Y (Ki Y (Ke Y Y Y (Ki Y (Kj Y Y Y (Ki Y (Ka Y (kGIN Y (fun g14 => Ki Y (Kf Y Y (Ki Y (Ke Y Y Y (Ki Y (Kq Y Y (Ki Y (Kj Y Y Y (Ki Y (Kk Y (Ka Y (Kl Y (Ka Y (Kd (kH (Km Y (fun g15 => Kbc (Ka Y (Kd (Kr (Er (ra := [.one (.d _)]) rfl rfl))))) (fun g15 => om))))))))))))))))) (fun g14 => om))))))))))))))))))))))))))))))))))))))))))))))))))) (fun g11 => Kg Y (Kg Y (Kg Y (Kg Y (Kg Y (Kg Y (Kg Y (Kx Y Y (Kg Y (Kg Y (Ki Y (Kl Y (Ka Y (Kl Y (Ka Y (Kd (kH (kCondF Y (Kn (Kb (Kb (kRegD (Kf Y Y (Ke Y Y Y (Kj Y Y Y (Kf Y Y (Ke Y Y Y (Kx Y Y (Kp (ok_spec_l10set _ prx) ⟨Y, trivial⟩ Y Y Y Y Y (kBeq Y Y (Ka Y (kGN Y (fun g16 => (by (simp [*] at g16))) (fun g16 => Ki Y (Kf Y Y (Ki Y (Ke Y Y Y (Ki Y (Kj Y Y Y (Ki Y (Ka Y (kGIN Y (fun g17 => Ki Y (Kf Y Y (Ki Y (Ke Y Y Y (Ki Y (Kq Y Y (Ki Y (Kj Y Y Y (Ki Y (Kk Y (Ka Y (Kl Y (Ka Y (Kd (kH (Km Y (fun g18 => Kbc (Ka Y (Kd (Kr (Er (ra := [.one (.d _)]) rfl rfl))))) (fun g18 => om))))))))))))))))) (fun g17 => om))))))))))))))))))))))))))))))))))))))))))))))))))))))))))))))))))))))))))))))))))))))))))))))))))))))))))))))))))))))))))))))))))))))))))))))))))))))))))))))))))))))))))))))))))) (fun g0 => om)))))))))
        · refine Kb (Kbc (Ka Y (Kf Y Y (Ke Y Y Y (Kq Y Y (Kj Y Y Y (Kd (Km Y (fun g0 => Kn (Kb (Kt (Kbc (Kf Y Y (Ke Y Y Y (Ka Y (kIadR Y Y Y prl (Ky Y Y (kAlloc Y Y (Ko Y Y Y Y (Kdb (Kb (kRegD (Kf Y Y (Ke Y Y Y (Ks Y Y (Kp (ok_spec_NameOk _ prx prx) ⟨⟨⟨Y, trivial⟩, leb⟩, trivial⟩ Y Y Y Y Y (Kw Y Y (Ka Y (kGN Y (fun g1 => (by (simp [*] at g1))) (fun g1 => Ki Y (Kf Y Y (Ki Y (Ke Y Y Y (Ks Y Y (Ki Y (Kp (ok_spec_TypeOk _) ⟨Y, trivial⟩ Y Y Y Y Y (Ki Y (Kw Y Y (Kl Y (Ka Y (Ka Y (kGN Y (fun g2 => (by (simp [*] at g2))) (fun g2 => Ki Y (Kf Y Y (Ki Y (Ke Y Y Y (Ki Y (Kj Y Y Y (Kl Y (Ka Y (Ka Y (kGP Y (fun g3 => om) (fun g3 => (Ki Y (Kf Y Y (Ki Y (Ke Y Y Y (Ki Y (Kj Y Y Y (Kl Y (Ka Y (Ka Y (kGP Y (fun g4 => om) (fun g4 => Ki Y (Kf Y Y (Ki Y (Ke Y Y Y (Ki Y (Kj Y Y Y (Kl Y (Ka Y (Ka Y (kGP Y (fun g5 => om) (fun g5 => Ki Y (Kf Y Y (Ki Y (Ke Y Y Y (Ki Y (Kj Y Y Y (Kl Y (Ka Y (Ka Y (kGP Y (fun g6 => om) (fun g6 => Ki Y (Kf Y Y (Ki Y (Ke Y Y Y (Ki Y (Kf Y Y (Ki Y (Ke Y Y Y (Ki Y (Kj Y Y Y (Kl Y (Ka Y (Ka Y (kGP Y (fun g7 => om) (fun g7 => Ki Y (Kf Y Y (Ki Y (Ke Y Y Y (Ki Y (Kf Y Y (Ki Y (Ke Y Y Y (Ki Y (kAdd Y Y om (Ki Y (Kj Y Y Y (Kl Y (Ka Y (Ka Y (kGP Y (fun g8 => om) (fun g8 => Ki Y (Kf Y Y (Ki Y (Ke Y Y Y (Ki Y (Kj Y Y Y (Kl Y (Ka Y (Ka Y (kGP Y (fun g9 => om) (fun g9 => (Ki Y (Kf Y Y (Ki Y (Ke Y Y Y (Ki Y (Kf Y Y (Ki Y (Ke Y Y Y (Ki Y (Kj Y Y Y (Kl Y (Ka Y (Ka Y (kGP Y (fun g10 => om) (fun g10 => Ki Y (Ka Y (Ki Y (Kj Y Y Y (Ki Y (Ka Y (kGP Y (fun g11 => Ki Y (Kf Y Y (Ki Y (Ke Y Y Y (Ki Y (Ka Y (Ki Y (kDif Y Y om (Ki Y (kIadT Y Y prl (Ki Y (Ky Y Y (Ki Y (Ke Y Y Y (Kx Y Y (Ki Y (Kp (ok_spec_l10ahead _ _ prx prx) ⟨⟨⟨Y, Y, Y, Y, Y, Y, Y, trivial⟩, leb⟩, ⟨⟨Y, Y, Y, Y, Y, Y, Y, trivial⟩, leb⟩, trivial⟩ Y Y Y Y Y (Ki Y (Kw Y Y (Ki Y (Kk Y (Ka Y (Kl Y (Ka Y (Kd (kH (kCondN Y (fun g12 => Kbc (Ka Y (Kd (Kr (Er (ra := [.one (.d _)]) rfl rfl))))) (fun g12 => Kn (Kb (Kb (kRegD (Kf Y Y (Ke Y Y Y (Kj Y Y Y (Kf Y Y (Ke Y Y Y (Kx Y Y (Kp (ok_spec_l10set _ prx) ⟨Y, trivial⟩ Y Y Y Y Y (kBeq Y Y (Ka Y (kGN Y (fun g13 => Kg Y (Kg Y (Kg Y (Kg Y (kGU Y (kGU Y (kGU Y (kGU Y (Kg Y (Kk Y (Ka Y (Kd (kH (kCondT Y (Kbc (Ka Y (Kd (Kr (Er (ra := [.one (.d _)]) rfl rfl))))))))))))))))))) (fun g13 => (by (simp [*] at g13)))))))))))))))))))))))))))))))))))))))))))) (fun g11 => Kg Y (Kg Y (Kg Y (Kg Y (Kg Y (Kg Y (Kg Y (Kx Y Y (Kg Y (Kg Y (Ki Y (Kl Y (Ka Y (Kl Y (Ka Y (Kd (kH (kCondF Y (Kn (Kb (Kb (kRegD (Kf Y Y (Ke Y Y Y (Kj Y Y Y (Kf Y Y (Ke Y Y Y (Kx Y Y (Kp (ok_spec_l10set _ prx) ⟨Y, trivial⟩ Y Y Y Y Y (kBeq Y Y (Ka Y (kGN Y (fun g14 => Kg Y (Kg Y (Kg Y (Kg Y (kGU Y (kGU Y (kGU Y (kGU Y (Kg Y (Kk Y (Ka Y (Kd (kH (kCondT Y (Kbc (Ka Y (Kd (Kr (Er (ra := [.one (.d _)]) rfl rfl))))))))))))))))))) (fun g14 => (by (simp [*] at g14)))))))))))))))))))))))))))))))))))))))))))))))))))))))))))))))))))))))))))))))))))))))))))))))))))))))))))))))))))))))))))))))))))))))))))))))))))))))))))))))))))))))))))) (fun g0 => om)))))))))
      cases kset : isSetR c.slots[i].rrs
      · refine Kb (Kbc (Ka Y (Kf Y Y (Ke Y Y Y (Kq Y Y (Kj Y Y Y (Kd (Km Y (fun g0 => Kn (Kb (Kt (Kbc (Kf Y Y (Ke Y Y Y (Ka Y (kIadR Y Y Y prl (Ky Y Y (kAlloc Y Y (Ko Y Y Y Y (Kdb (Kb (kRegD (Kf Y Y (Ke Y Y Y (Ks Y Y (Kp (ok_spec_NameOk _ prx prx) ⟨⟨⟨Y, trivial⟩, leb⟩, trivial⟩ Y Y Y Y Y (Kw Y Y (Ka Y (kGN Y (fun g1 => (by (simp [*] at g1))) (fun g1 => Ki Y (Kf Y Y (Ki Y (Ke Y Y Y (Ks Y Y (Ki Y (Kp (ok_spec_TypeOk _) ⟨Y, trivial⟩ Y Y Y Y Y (Ki Y (Kw Y Y (Kl Y (Ka Y (Ka Y (kGN Y (fun g2 => (by (simp [*] at g2))) (fun g2 => Ki Y (Kf Y Y (Ki Y (Ke Y Y Y (Ki Y (Kj Y Y Y (Kl Y (Ka Y (Ka Y (kGP Y (fun g3 => om) (fun g3 => (Ki Y (Kf Y Y (Ki Y (Ke Y Y Y (Ki Y (Kj Y Y Y (Kl Y (Ka Y (Ka Y (kGP Y (fun g4 => om) (fun g4 => Ki Y (Kf Y Y (Ki Y (Ke Y Y Y (Ki Y (Kj Y Y Y (Kl Y (Ka Y (Ka Y (kGP Y (fun g5 => om) (fun g5 => Ki Y (Kf Y Y (Ki Y (Ke Y Y Y (Ki Y (Kj Y Y Y (Kl Y (Ka Y (Ka Y (kGP Y (fun g6 => om) (fun g6 => Ki Y (Kf Y Y (Ki Y (Ke Y Y Y (Ki Y (Kf Y Y (Ki Y (Ke Y Y Y (Ki Y (Kj Y Y Y (Kl Y (Ka Y (Ka Y (kGP Y (fun g7 => om) (fun g7 => Ki Y (Kf Y Y (Ki Y (Ke Y Y Y (Ki Y (Kf Y Y (Ki Y (Ke Y Y Y (Ki Y (kAdd Y Y om (Ki Y (Kj Y Y Y (Kl Y (Ka Y (Ka Y (kGP Y (fun g8 => om) (fun g8 => Ki Y (Kf Y Y (Ki Y (Ke Y Y Y (Ki Y (Kj Y Y Y (Kl Y (Ka Y (Ka Y (kGP Y (fun g9 => om) (fun g9 => (Ki Y (Kf Y Y (Ki Y (Ke Y Y Y (Ki Y (Kf Y Y (Ki Y (Ke Y Y Y (Ki Y (Kj Y Y Y (Kl Y (Ka Y (Ka Y (kGP Y (fun g10 => om) (fun g10 => Ki Y (Ka Y (Ki Y (Kj Y Y Y (Ki Y (Ka Y (kGP Y (fun g11 => Ki Y (Kf Y Y (Ki Y (Ke Y Y Y (Ki Y (Ka Y (Ki Y (kDif Y Y om (Ki Y (kIadT Y Y prl (Ki Y (Ky Y Y (Ki Y (Ke Y Y Y (Kx Y Y (Ki Y (Kp (ok_spec_l10ahead _ _ prx prx) ⟨⟨⟨Y, Y, Y, Y, Y, Y, Y, trivial⟩, leb⟩, ⟨⟨Y, Y, Y, Y, Y, Y, Y, trivial⟩, leb⟩, trivial⟩ Y Y Y Y Y (Ki Y (Kw Y Y (Ki Y (Kk Y (Ka Y (Kl Y (Ka Y (Kd (kH (kCondN Y (fun g12 => Kbc (Ka Y (Kd (Kr (Er (ra := [.one (.d _)]) rfl rfl))))) (fun g12 => Kn (Kb (Kb (kRegD (Kf Y Y (Ke Y Y Y (Kj Y Y Y (Kf Y Y (Ke Y Y Y (Kx Y Y (Kp (ok_spec_l10set _ prx) ⟨Y, trivial⟩ Y Y Y Y Y (kBeq Y Y (Ka Y (kGN Y (fun g13 => Kg Y (Kg Y (Kg Y (Kg Y (kGU Y (kGU Y (kGU Y (kGU Y (Kg Y (Kk Y (Ka Y (Kd (kH (kCondT Y (Kbc (Ka Y (Kd (Kr (Er (ra := [.one (.d _)]) rfl rfl))))))))))))))))))) (fun g13 => (by (simp [*] at g13)))))))))))))))))))))))))))))))))))))))))))) (fun g11 => Kg Y (Kg Y (Kg Y (Kg Y (Kg Y (Kg Y (Kg Y (Kx Y Y (Kg Y (Kg Y (Ki Y (Kl Y (Ka Y (Kl Y (Ka Y (Kd (kH (kCondF Y (Kn (Kb (Kb (kRegD (Kf Y Y (Ke Y Y Y (Kj Y Y Y (Kf Y Y (Ke Y Y Y (Kx Y Y (Kp (ok_spec_l10set _ prx) ⟨Y, trivial⟩ Y Y Y Y Y (kBeq Y Y (Ka Y (kGN Y (fun g14 => Kg Y (Kg Y (Kg Y (Kg Y (kGU Y (kGU Y (kGU Y (kGU Y (Kg Y (Kk Y (Ka Y (Kd (kH (kCondT Y (Kbc (Ka Y (Kd (Kr (Er (ra := [.one (.d _)]) rfl rfl))))))))))))))))))) (fun g14 => (by (simp [*] at g14)))))))))))))))))))))))))))))))))))))))))))))))))))))))))))))))))))))))))))))))))))))))))))))))))))))))))))))))))))))))))))))))))))))))))))))))))))))))))))))))))))))))))))) (fun g0 => om)))))))))
      have hp := (isSetR_len kset).1
      have hb0 := r1.mem _ (List.getElem_mem hp)
      have m1 := hb0.n.len
      have m2 := hb0.n.mem
      have hcz : cmpN c.slots[i].rrs[0].name c.slots[i].name = 0 → c.slots[i].rrs[0].name = c.slots[i].name := cmpN_z.1
      have e0 : c.slots[i].rrs.getD 0 emptyR = c.slots[i].rrs[0] := by rw [List.getD_eq_getElem?_getD, List.getElem?_eq_getElem hp]; rfl
      have hne : ¬ (c.slots[i].rrs[0].name = c.slots[i].name ∧ c.slots[i].rrs[0].ty = c.slots[i].ty) := fun h => by
        have : hitOk c.slots[i] = true := by unfold hitOk; rw [if_pos kk, kset, e0, decide_eq_true h.1, decide_eq_true h.2]; rfl
        rw [this] at hh; cases hh
      refine Kb (Kbc (Ka Y (Kf Y Y (Ke Y Y Y (Kq Y Y (Kj Y Y Y (Kd (Km Y (fun g0 => Kn (Kb (Kt (Kbc (Kf Y Y (Ke Y Y Y (Ka Y (kIadR Y Y Y prl (Ky Y Y (kAlloc Y Y (Ko Y Y Y Y (Kdb (Kb (kRegD (Kf Y Y (Ke Y Y Y (Ks Y Y (Kp (ok_spec_NameOk _ prx prx) ⟨⟨⟨Y, trivial⟩, leb⟩, trivial⟩ Y Y Y Y Y (Kw Y Y (Ka Y (kGN Y (fun g1 => (by (simp [*] at g1))) (fun g1 => Ki Y (Kf Y Y (Ki Y (Ke Y Y Y (Ks Y Y (Ki Y (Kp (ok_spec_TypeOk _) ⟨Y, trivial⟩ Y Y Y Y Y (Ki Y (Kw Y Y (Kl Y (Ka Y (Ka Y (kGN Y (fun g2 => (by (simp [*] at g2))) (fun g2 => Ki Y (Kf Y Y (Ki Y (Ke Y Y Y (Ki Y (Kj Y Y Y (Kl Y (Ka Y (Ka Y (kGP Y (fun g3 => om) (fun g3 => (Ki Y (Kf Y Y (Ki Y (Ke Y Y Y (Ki Y (Kj Y Y Y (Kl Y (Ka Y (Ka Y (kGP Y (fun g4 => om) (fun g4 => Ki Y (Kf Y Y (Ki Y (Ke Y Y Y (Ki Y (Kj Y Y Y (Kl Y (Ka Y (Ka Y (kGP Y (fun g5 => om) (fun g5 => Ki Y (Kf Y Y (Ki Y (Ke Y Y Y (Ki Y (Kj Y Y Y (Kl Y (Ka Y (Ka Y (kGP Y (fun g6 => om) (fun g6 => Ki Y (Kf Y Y (Ki Y (Ke Y Y Y (Ki Y (Kf Y Y (Ki Y (Ke Y Y Y (Ki Y (Kj Y Y Y (Kl Y (Ka Y (Ka Y (kGP Y (fun g7 => om) (fun g7 => Ki Y (Kf Y Y (Ki Y (Ke Y Y Y (Ki Y (Kf Y Y (Ki Y (Ke Y Y Y (Ki Y (kAdd Y Y om (Ki Y (Kj Y Y Y (Kl Y (Ka Y (Ka Y (kGP Y (fun g8 => om) (fun g8 => Ki Y (Kf Y Y (Ki Y (Ke Y Y Y (Ki Y (Kj Y Y Y (Kl Y (Ka Y (Ka Y (kGP Y (fun g9 => om) (fun g9 => (Ki Y (Kf Y Y (Ki Y (Ke Y Y Y (Ki Y (Kf Y Y (Ki Y (Ke Y Y Y (Ki Y (Kj Y Y Y (Kl Y (Ka Y (Ka Y (kGP Y (fun g10 => om) (fun g10 => Ki Y (Ka Y (Ki Y (Kj Y Y Y (Ki Y (Ka Y (kGP Y (fun g11 => Ki Y (Kf Y Y (Ki Y (Ke Y Y Y (Ki Y (Ka Y (Ki Y (kDif Y Y om (Ki Y (kIadT Y Y prl (Ki Y (Ky Y Y (Ki Y (Ke Y Y Y (Kx Y Y (Ki Y (Kp (ok_spec_l10ahead _ _ prx prx) ⟨⟨⟨Y, Y, Y, Y, Y, Y, Y, trivial⟩, leb⟩, ⟨⟨Y, Y, Y, Y, Y, Y, Y, trivial⟩, leb⟩, trivial⟩ Y Y Y Y Y (Ki Y (Kw Y Y (Ki Y (Kk Y (Ka Y (Kl Y (Ka Y (Kd (kH (kCondN Y (fun g12 => Kbc (Ka Y (Kd (Kr (Er (ra := [.one (.d _)]) rfl rfl))))) (fun g12 => Kn (Kb (Kb (kRegD (Kf Y Y (Ke Y Y Y (Kj Y Y Y (Kf Y Y (Ke Y Y Y (Kx Y Y (Kp (ok_spec_l10set _ prx) ⟨Y, trivial⟩ Y Y Y Y Y (kBeq Y Y (Ka Y (kGN Y (fun g13 => (by (simp [*] at g13))) (fun g13 => Ki Y (Kf Y Y (Ki Y (Ke Y Y Y (Ki Y (Kj Y Y Y (Ki Y (Ka Y (kGIN Y (fun g14 => om) (fun g14 => Kg Y (Kg Y (Kg Y (Kg Y (Ki Y (Kl Y (Ka Y (Kl Y (Ka Y (Kd (kH (kCondF Y (Kn (Kb (Kb (kRegD (Kf Y Y (Ke Y Y Y (Kj Y Y Y (Ka Y (kGP Y (fun g15 => Ki Y (Kf Y Y (Ki Y (Ke Y Y Y (Ki Y (kIadR (m := 0) Y Y Y prl (Ki Y (kFadD Y (Ki Y (Ky Y Y (Ki Y (Kf Y Y (Ki Y (Ke Y Y Y (Ks Y Y (Ki Y (Kp (ok_spec_l2cmp _ _ prx prx) ⟨⟨⟨Y, trivial⟩, leb⟩, ⟨⟨Y, trivial⟩, leb⟩, trivial⟩ Y Y Y Y Y (Ki Y (Kj Y Y Y (Ki Y (Ka Y (kGIN Y (fun g16 => Kg Y (Kg Y (Kg Y (Kg Y (Kg Y (Kg Y (Kg Y (Kg Y (Ki Y (Kk Y (Ka Y (Kk Y (Ka Y (Kd (kH (kCondT Y (Kbc (Ka Y (Kd (Kr (Er (ra := [.one (.d _)]) rfl rfl))))))))))))))))))))) (fun g16 => Ki Y (Kf Y Y (Ki Y (Ke Y Y Y (Ki Y (kIadR (m := 0) Y Y Y prl (Ki Y (kFadD Y (Ki Y (Ky Y Y (Ki Y (Kf Y Y (Ki Y (Ke Y Y Y (Ki Y (Kj Y Y Y (Ki Y (Kl Y (Ka Y (Kk Y (Ka Y (Kd (kH (kCondIN Y (fun g17 => Kbc (Ka Y (Kd (Kr (Er (ra := [.one (.d _)]) rfl rfl))))) (fun g17 => Kn (Kbc (Ka Y (Kd (Kt ?_))))))))))))))))))))))))))))))))))))))))))))))))))) (fun g15 => om)))))))))))))))))))))))))))))))))))))))))))))))))))))))))))))))))))))))) (fun g11 => Kg Y (Kg Y (Kg Y (Kg Y (Kg Y (Kg Y (Kg Y (Kx Y Y (Kg Y (Kg Y (Ki Y (Kl Y (Ka Y (Kl Y (Ka Y (Kd (kH (kCondF Y (Kn (Kb (Kb (kRegD (Kf Y Y (Ke Y Y Y (Kj Y Y Y (Kf Y Y (Ke Y Y Y (Kx Y Y (Kp (ok_spec_l10set _ prx) ⟨Y, trivial⟩ Y Y Y Y Y (kBeq Y Y (Ka Y (kGN Y (fun g18 => (by (simp [*] at g18))) (fun g18 => Ki Y (Kf Y Y (Ki Y (Ke Y Y Y (Ki Y (Kj Y Y Y (Ki Y (Ka Y (kGIN Y (fun g19 => om) (fun g19 => Kg Y (Kg Y (Kg Y (Kg Y (Ki Y (Kl Y (Ka Y (Kl Y (Ka Y (Kd (kH (kCondF Y (Kn (Kb (Kb (kRegD (Kf Y Y (Ke Y Y Y (Kj Y Y Y (Ka Y (kGP Y (fun g20 => Ki Y (Kf Y Y (Ki Y (Ke Y Y Y (Ki Y (kIadR (m := 0) Y Y Y prl (Ki Y (kFadD Y (Ki Y (Ky Y Y (Ki Y (Kf Y Y (Ki Y (Ke Y Y Y (Ks Y Y (Ki Y (Kp (ok_spec_l2cmp _ _ prx prx) ⟨⟨⟨Y, trivial⟩, leb⟩, ⟨⟨Y, trivial⟩, leb⟩, trivial⟩ Y Y Y Y Y (Ki Y (Kj Y Y Y (Ki Y (Ka Y (kGIN Y (fun g21 => Kg Y (Kg Y (Kg Y (Kg Y (Kg Y (Kg Y (Kg Y (Kg Y (Ki Y (Kk Y (Ka Y (Kk Y (Ka Y (Kd (kH (kCondT Y (Kbc (Ka Y (Kd (Kr (Er (ra := [.one (.d _)]) rfl rfl))))))))))))))))))))) (fun g21 => Ki Y (Kf Y Y (Ki Y (Ke Y Y Y (Ki Y (kIadR (m := 0) Y Y Y prl (Ki Y (kFadD Y (Ki Y (Ky Y Y (Ki Y (Kf Y Y (Ki Y (Ke Y Y Y (Ki Y (Kj Y Y Y (Ki Y (Kl Y (Ka Y (Kk Y (Ka Y (Kd (kH (kCondIN Y (fun g22 => Kbc (Ka Y (Kd (Kr (Er (ra := [.one (.d _)]) rfl rfl))))) (fun g22 => Kn (Kbc (Ka Y (Kd (Kt ?_))))))))))))))))))))))))))))))))))))))))))))))))))) (fun g20 => om)))))))))))))))))))))))))))))))))))))))))))))))))))))))))))))))))))))))))))))))))))))))))))))))))))))))))))))))))))))))))))))))))))))))))))))))))))))))))))))))))))))))))))))))))))))))))))))))))))))))) (fun g0 => om)))))))))
      all_goals exact absurd ⟨hcz (by assumption), by assumption⟩ hne
    obtain ⟨k1, k2, ⟨k3, k4⟩, ⟨k5, k6⟩, ⟨k7, k8⟩, ⟨k9, k10⟩, hh⟩ : nameOk c.slots[i].name = true ∧ tyOk c.slots[i].ty = true ∧ (1 ≤ c.slots[i].kind ∧ c.slots[i].kind ≤ 3) ∧ (0 ≤ c.slots[i].rank ∧ c.slots[i].rank ≤ 3) ∧ (c.now + 1 ≤ c.slots[i].til ∧ c.slots[i].til ≤ c.now + 1000) ∧ (1 ≤ c.slots[i].used ∧ c.slots[i].used ≤ c.turn) ∧ hitOk c.slots[i] = true := by
      unfold slotOk at hsl
      simp only [Bool.and_eq_true, decide_eq_true_eq] at hsl
      exact ⟨hsl.1.1.1.1.1.1, hsl.1.1.1.1.1.2, hsl.1.1.1.1.2, hsl.1.1.1.2, hsl.1.1.2, hsl.1.2, hsl.2⟩
    have hset : ((c.slots[i].kind == 1) == isSetR c.slots[i].rrs) = true := by
      unfold hitOk at hh
      by_cases kk : c.slots[i].kind = 1
      · rw [if_pos kk] at hh
        simp only [Bool.and_eq_true] at hh
        rw [hh.1.1, kk]; rfl
      · rw [if_neg kk] at hh
        have : isSetR c.slots[i].rrs = false := by rw [Bool.eq_false_iff]; intro h; have := isSetR_len h; simp at hh; rw [hh] at this; simp at this
        rw [this]; simp [kk]
    have kset : c.slots[i].kind = 1 → isSetR c.slots[i].rrs = true := fun kk => by rw [kk] at hset; simpa using hset
    have hp : c.slots[i].kind = 1 → 0 < c.slots[i].rrs.length := fun kk => (isSetR_len (kset kk)).1
    have hcz : ∀ kk : c.slots[i].kind = 1, cmpN (c.slots[i].rrs[0]'(hp kk)).name c.slots[i].name = 0 ∧ (c.slots[i].rrs[0]'(hp kk)).ty = c.slots[i].ty := fun kk => by
      have e0 : c.slots[i].rrs.getD 0 emptyR = c.slots[i].rrs[0]'(hp kk) := by rw [List.getD_eq_getElem?_getD, List.getElem?_eq_getElem (hp kk)]; rfl
      unfold hitOk at hh
      rw [if_pos kk, e0] at hh
      simp only [Bool.and_eq_true, decide_eq_true_eq] at hh
      exact ⟨cmpN_z.2 hh.1.2, hh.2⟩
    have hnk : c.slots[i].kind ≠ 1 → (c.slots[i].rrs.length : Int) = 0 := fun kk => by
      unfold hitOk at hh
      rw [if_neg kk] at hh
      simpa using hh
    have hstopr := trivial
    refine Kb (Kbc (Ka Y (Kf Y Y (Ke Y Y Y (Kq Y Y (Kj Y Y Y (Kd (Km Y (fun g0 => Kn (Kb (Kt (Kbc (Kf Y Y (Ke Y Y Y (Ka Y (kIadR Y Y Y prl (Ky Y Y (kAlloc Y Y (Ko Y Y Y Y (Kdb (Kb ?_))))))))))))) (fun g0 => om)))))))))
    clear hstopr
    refine kCut ⟨tabSl [(1, .c (.ptr (rid 1 0) 1 0)), (3, .i i), (4, .c (.ptr (rid 4 0) 1 0)), (113, .b (!prevS c.slots i))], obTab 1 [(rid 1 0, ⟨1, 0, .box (c.cells.map .d)⟩), (rid 4 0, ⟨1, 0, .box (c.slots[i].cells.map .d)⟩)], []⟩ ?_ (fun x hc => ?_)
    case refine_2 =>
      refine kRegD (Kf Y Y (Ke Y Y Y (Ks Y Y (Kp (ok_spec_NameOk _ prx prx) ⟨⟨⟨Y, trivial⟩, leb⟩, trivial⟩ Y Y Y Y Y (Kw Y Y (Ka Y (kGN Y (fun g0 => (by (simp [*] at g0))) (fun g0 => Ki Y (Kf Y Y (Ki Y (Ke Y Y Y (Ks Y Y (Ki Y (Kp (ok_spec_TypeOk _) ⟨Y, trivial⟩ Y Y Y Y Y (Ki Y (Kw Y Y (Kl Y (Ka Y (Ka Y (kGN Y (fun g1 => (by (simp [*] at g1))) (fun g1 => Ki Y (Kf Y Y (Ki Y (Ke Y Y Y (Ki Y (Kj Y Y Y (Kl Y (Ka Y (Ka Y (kGP Y (fun g2 => om) (fun g2 => (Ki Y (Kf Y Y (Ki Y (Ke Y Y Y (Ki Y (Kj Y Y Y (Kl Y (Ka Y (Ka Y (kGP Y (fun g3 => om) (fun g3 => Ki Y (Kf Y Y (Ki Y (Ke Y Y Y (Ki Y (Kj Y Y Y (Kl Y (Ka Y (Ka Y (kGP Y (fun g4 => om) (fun g4 => Ki Y (Kf Y Y (Ki Y (Ke Y Y Y (Ki Y (Kj Y Y Y (Kl Y (Ka Y (Ka Y (kGP Y (fun g5 => om) (fun g5 => Ki Y (Kf Y Y (Ki Y (Ke Y Y Y (Ki Y (Kf Y Y (Ki Y (Ke Y Y Y (Ki Y (Kj Y Y Y (Kl Y (Ka Y (Ka Y (kGP Y (fun g6 => om) (fun g6 => Ki Y (Kf Y Y (Ki Y (Ke Y Y Y (Ki Y (Kf Y Y (Ki Y (Ke Y Y Y (Ki Y (kAdd Y Y om (Ki Y (Kj Y Y Y (Kl Y (Ka Y (Ka Y (kGP Y (fun g7 => om) (fun g7 => Ki Y (Kf Y Y (Ki Y (Ke Y Y Y (Ki Y (Kj Y Y Y (Kl Y (Ka Y (Ka Y (kGP Y (fun g8 => om) (fun g8 => (Ki Y (Kf Y Y (Ki Y (Ke Y Y Y (Ki Y (Kf Y Y (Ki Y (Ke Y Y Y (Ki Y (Kj Y Y Y (Kl Y (Ka Y (Ka Y (kGP Y (fun g9 => om) (fun g9 => Ki Y (Ka Y (Ki Y (Kj Y Y Y (Ki Y (Ka Y (kGP Y (fun g10 => Ki Y (Kf Y Y (Ki Y (Ke Y Y Y (Ki Y (Ka Y (Ki Y (kDif Y Y om (Ki Y (kIadT Y Y prl (Ki Y (Ky Y Y (Ki Y (Ke Y Y Y (Kx Y Y (Ki Y (Kp (ok_spec_l10ahead _ _ prx prx) ⟨⟨⟨Y, Y, Y, Y, Y, Y, Y, trivial⟩, leb⟩, ⟨⟨Y, Y, Y, Y, Y, Y, Y, trivial⟩, leb⟩, trivial⟩ Y Y Y Y Y (Ki Y (Kw Y Y (Ki Y (Kk Y (Ka Y (Kl Y (Ka Y (Kd (kH ?_)))))))))))))))))))))))))) (fun g10 => Kg Y (Kg Y (Kg Y (Kg Y (Kg Y (Kg Y (Kg Y (Kx Y Y (Kg Y (Kg Y (Ki Y (Kl Y (Ka Y (Kl Y (Ka Y (Kd (kH ?_))))))))))))))))))))))))))))))))))))))))))))))))))))))))))))))))))))))))))))))))))))))))))))))))))))))))))))))))))))))))))))))))))))))))))))
      · rw [prevS_pos (by omega) hlt (by omega)] at hc
        refine (hc _ .normA)
      · rw [show prevS c.slots i = true from (by cases (show i = 0 by omega); exact prevS_zero), Bool.not_true] at hc
        refine (hc _ .normA)
    cases hpv : prevS c.slots i
    · rw [show cacheOk c = false from cache_no hlt (by rw [hq, hpv]; rfl)]
      refine kCondT Y (Kbc (Ka Y (Kd (Kr (Er (ra := [.one (.d _)]) rfl rfl)))))
    have hstopr := trivial
    refine kCondF Y (Kn (Kb (Kb ?_)))
    clear hstopr
    refine kCut ⟨tabSl [(1, .c (.ptr (rid 1 0) 1 0)), (3, .i i), (4, .c (.ptr (rid 4 0) 1 0)), (131, .b false)], obTab 1 [(rid 1 0, ⟨1, 0, .box (c.cells.map .d)⟩), (rid 4 0, ⟨1, 0, .box (c.slots[i].cells.map .d)⟩)], []⟩ ?_ (fun x hc => ?_)
    case refine_2 => refine kRegD (kFadP rfl rfl (kLoadP rfl rfl rfl (kBin rfl rfl rfl (kFadP rfl rfl (kLoadP rfl rfl rfl (kRelK rfl rfl (kCallD (ok_spec_l10set _ prx) ⟨rfl, trivial⟩ rfl rfl rfl rfl rfl (kBeq rfl rfl (kMovC rfl (kGN rfl (fun g0 => (by (simp [*] at g0))) (fun g0 => kGT rfl (kFadP rfl rfl (kGT rfl (kLoadP rfl rfl rfl (kGT rfl (kBin rfl rfl rfl (kGT rfl (kMovC rfl (kGIN rfl (fun g1 => kGT rfl (kFadP rfl rfl (kGT rfl (kLoadP rfl rfl rfl (kGT rfl (kLenR rfl rfl (kGT rfl (kBin rfl rfl rfl (kGT rfl (kPickT rfl (kMovC rfl (kPickF rfl (kMovC rfl (kDone (kH (hc _ .normA)))))))))))))))) (fun g1 => kGF rfl (kGF rfl (kGF rfl (kGF rfl (kGT rfl (kPickF rfl (kMovC rfl (kPickF rfl (kMovC rfl (kDone (kH (hc _ .normA)))))))))))))))))))))))))))))))
    have hstopr := trivial
    refine kCondF Y (Kn (Kb (Kb ?_)))
    clear hstopr
    refine kCut ⟨tabSl [(1, .c (.ptr (rid 1 0) 1 0)), (3, .i i), (4, .c (.ptr (rid 4 0) 1 0)), (155, .b false)], obTab 1 [(rid 1 0, ⟨1, 0, .box (c.cells.map .d)⟩), (rid 4 0, ⟨1, 0, .box (c.slots[i].cells.map .d)⟩)], []⟩ ?_ (fun x hc => ?_)
    case refine_2 =>
      by_cases kk : c.slots[i].kind = 1
      · have hp' := hp kk
        have hb0 := r1.mem _ (List.getElem_mem hp')
        have m1 := hb0.n.len
        have m2 := hb0.n.mem
        obtain ⟨hc1, hc2⟩ := hcz kk
        refine kRegD (Kf Y Y (Ke Y Y Y (Kj Y Y Y (Ka Y (kGP Y (fun g0 => Ki Y (Kf Y Y (Ki Y (Ke Y Y Y (Ki Y (kIadR (m := 0) Y Y Y prl (Ki Y (kFadD Y (Ki Y (Ky Y Y (Ki Y (Kf Y Y (Ki Y (Ke Y Y Y (Ks Y Y (Ki Y (Kp (ok_spec_l2cmp _ _ prx prx) ⟨⟨⟨Y, trivial⟩, leb⟩, ⟨⟨Y, trivial⟩, leb⟩, trivial⟩ Y Y Y Y Y (Ki Y (Kj Y Y Y (Ki Y (Ka Y (kGIN Y (fun g1 => om) (fun g1 => Ki Y (Kf Y Y (Ki Y (Ke Y Y Y (Ki Y (kIadR (m := 0) Y Y Y prl (Ki Y (kFadD Y (Ki Y (Ky Y Y (Ki Y (Kf Y Y (Ki Y (Ke Y Y Y (Ki Y (Kj Y Y Y (Ki Y (Kl Y (Ka Y (Kk Y (Ka Y (Kd (kH (hc _ .normA)))))))))))))))))))))))))))))))))))))))))))))) (fun g0 => om))))))
      · refine kRegD (Kf Y Y (Ke Y Y Y (Kj Y Y Y (Ka Y (kGP Y (fun g0 => om) (fun g0 => Kg Y (Kg Y (Kg Y (Kg Y (Kg Y (Kg Y (Kg Y (Ks Y Y (Kg Y (Kg Y (Kg Y (kGU Y (kGU Y (kGU Y (kGU Y (kGU Y (kGU Y (kGU Y (kGU Y (Kg Y (Kl Y (Ka Y (Kd (kH (hc _ .normA))))))))))))))))))))))))))))))
    refine kCondF Y (Kn (Kbc (Ka Y (Kd (Kt ?_)))))
    refine kLoop (α := { k : Nat // k ≤ i ∧ ((c.slots.take k).any fun o => o.used == c.slots[i].used) = false }) (fun y => ⟨tabSl [(1, .c (.ptr (rid 1 0) 1 0)), (3, .i i), (4, .c (.ptr (rid 4 0) 1 0)), (5, .i y.1)], obTab 1 [(rid 1 0, ⟨1, 0, .box (c.cells.map .d)⟩), (rid 4 0, ⟨1, 0, .box (c.slots[i].cells.map .d)⟩)], []⟩) (fun y => i - y.1) ⟨0, by simp⟩ .normA ?_
    rintro ⟨k, hk, hu⟩
    simp only
    rcases Nat.lt_or_ge k i with hkl | hkg
    · have hkc : k < c.slots.length := by omega
      refine Kb (Kbc (Ka Y (Ka Y (Kj Y Y Y (Kd (Km Y (fun g0 => Kn (Kb (Kt (Kb (kRegD (Kf Y Y (Ke Y Y Y (Ka Y (kIadR Y Y Y prl (kFadD Y (Ky Y Y (Kf Y Y (Ke Y Y Y (Kj Y Y Y (Kd (kH (Km Y (fun g1 => Kbc (Ka Y (Kd (Kr (Er (ra := [.one (.d _)]) rfl ?_))))) (fun g1 => Kn (Kv (Kc (Ka Y (kAdd Y Y om (Ka Y (Kd ?_)))))))))))))))))))))))) (fun g0 => om)))))))
      · rw [show cacheOk c = false from cache_no hlt (by
          have : ((c.slots.take i).any fun o => o.used == c.slots[i].used) = true := List.any_eq_true.2 ⟨c.slots[k], by rw [List.mem_take_iff_getElem]; exact ⟨k, by omega, rfl⟩, by simpa using g1⟩
          rw [hq, hpv, this]; rfl)]
      · refine kInv ⟨⟨k + 1, by omega, ?_⟩, by simp only; omega, .normA⟩
        rw [← List.take_append_getElem hkc, List.any_append, hu]
        simpa using g1
    · refine Kb (Kbc (Ka Y (Ka Y (Kj Y Y Y (Kd (Km Y (fun g0 => om) (fun g0 => kExit (kExC (kExI (kExB (Kv (Kc (Ka Y (kAdd Y Y om (Ka Y (Kd ?_))))))))))))))))
      obtain rfl : k = i := by omega
      exact kInv ⟨⟨k + 1, by omega, all_take_succ _ hlt ha hsl, range_all hz (by rw [hq, hpv, hu]; rfl)⟩, by simp only; omega, .normA⟩
  · refine Kb (Kbc (Ka Y (Kf Y Y (Ke Y Y Y (Kq Y Y (Kj Y Y Y (Kd (Km Y (fun g0 => om) (fun g0 => kExit (kExC (kExI (kExB (Kbc (Ka Y (Kd (Kr (Er (ra := [.one (.d _)]) rfl ?_)))))))))))))))))
    obtain rfl : i = c.slots.length := by omega
    rw [List.take_length] at ha
    rw [show cacheOk c = true by unfold cacheOk; rw [ha, decide_eq_true ⟨j1, j2⟩, decide_eq_true ⟨j3, j4⟩, decide_eq_true k3, hz]; rfl]

def c_impl_Cache_find_1 : C := (.g (.o 0 3 (.box 3 (.t 0)) (.o 1 4 (.mov (.v (.bool false))) .done)) (.g (.o 0 5 (.fad (.t 3) 1) (.o 1 6 (.load none (.t 5)) (.o 2 7 (.load none (.t 1)) (.o 3 8 (.bin .eql (.t 6) (.t 7)) (.o 4 9 (.mov (.t 8)) (.op 5 [] (some 10) (some (9, true)) false (.fad (.t 3) 0) (.op 6 [] (some 11) (some (9, true)) false (.load (some 1) (.t 10)) (.op 7 [] (some 12) (some (9, true)) false (.load (some 1) (.t 2)) (.op 8 [] (some 13) (some (9, true)) false (.call 13 131 [(.t 11), (.t 12)]) (.o 9 14 (.pick (.t 9) (.t 13) (.v (.bool false))) (.o 10 4 (.mov (.t 14)) .done))))))))))) .ret))
theorem dg_impl_Cache_find_1 : Tryz.f251.body.bind (digC Tryz.prog Tryz.f251.ntmps []) = some c_impl_Cache_find_1 := by kernel_rfl
theorem rs_impl_Cache_find_1 : resSlots Tryz.prog Tryz.f251 = some [.s 4] := by kernel_rfl
theorem ok_impl_Cache_find_1 (s : Slot) (n : List (List UInt8)) (t : Int) (hs : SmallS s) (hn : n.length ≤ 4194304) :
    FnOK Tryz.prog 251 [.agg (s.cells.map .d), .one (.ptr [.d (.sc (.int .i64 t))]), .one (.ptr [.d (encBB n)])] (fun ra _ => ra = [.one (.d (.sc (.bool (decide (s.name = n) && s.ty == t))))]) := by
  refine FnOK.ofK Tryz.func251 (by kernel_rfl) dg_impl_Cache_find_1 rs_impl_Cache_find_1 rfl rfl ?_
  delta c_impl_Cache_find_1 T.o X.i C.g
  have hml := hs.n.len
  refine Kbc (kBox Y Y Y Y Y (Ka Y (Kdb (Kc (Kf Y Y (Ke Y Y Y (kLoadC Y Y (Kj Y Y Y (Ka Y (kGP Y (fun g0 => Ki Y (Kf Y Y (Ki Y (Ke Y Y Y (Ki Y (kLoadC Y Y (Ki Y (Kp (ok_impl_Name_is _ _ prx prx) ⟨⟨⟨Y, trivial⟩, leb⟩, ⟨⟨Y, trivial⟩, leb⟩, trivial⟩ Y Y Y Y Y (Kk Y (Ka Y (Ka Y (Kd (Kr (Er (ra := [.one (.d _)]) rfl ?_)))))))))))))) (fun g0 => Kg Y (Kg Y (Kg Y (Kg Y (Kl Y (Ka Y (Ka Y (Kd (Kr (Er (ra := [.one (.d _)]) rfl ?_))))))))))))))))))))
  · rw [show (s.ty == t) = true by simp [*], Bool.and_true]
  · rw [show (s.ty == t) = false by simp [*], Bool.and_false]

def c_impl_Cache_find : C := (.g (.o 0 3 (.box 3 (.t 0)) (.o 1 4 (.box 4 (.t 1)) (.o 2 5 (.box 5 (.t 2)) (.o 3 6 (.mov (.i 0)) .done)))) (.g (.o 0 7 (.fad (.t 3) 2) (.o 1 8 (.load none (.t 7)) (.o 2 9 (.clo 251 [] [(.t 5), (.t 4)]) (.o 3 10 (.call 10 231 [(.t 8), (.t 9)]) (.o 4 6 (.mov (.t 10)) .done))))) .ret))
theorem dg_impl_Cache_find : Tryz.f181.body.bind (digC Tryz.prog Tryz.f181.ntmps []) = some c_impl_Cache_find := by kernel_rfl
theorem rs_impl_Cache_find : resSlots Tryz.prog Tryz.f181 = some [.s 6] := by kernel_rfl
theorem ok_impl_Cache_find (c : Cache) (n : List (List UInt8)) (t : Int) (hs : SmallSs c.slots) (hn : n.length ≤ 4194304) :
    FnOK Tryz.prog 181 [.agg (c.cells.map .d), .agg [.d (encBB n)], .one (.d (.sc (.int .i64 t)))] (fun ra _ => ra = [.one (.d (.sc (.int .i64 (findS c.slots n t))))]) := by
  refine FnOK.ofK Tryz.func181 (by kernel_rfl) dg_impl_Cache_find rs_impl_Cache_find rfl rfl ?_
  delta c_impl_Cache_find T.o X.i C.g
  have h1 := hs.len
  refine Kbc (kBox Y Y Y Y Y (kBox Y Y Y Y Y (kBox Y Y Y Y Y (Ka Y (Kdb (Kc (Kf Y Y (Ke Y Y Y (kClo Y Y ?_)))))))))
  refine Kp (ok_slices_IndexFunc_Limpl_Slot_impl_Slot c.slots SmallS (fun s => decide (s.name = n) && s.ty == t) h1 hs.mem) ⟨rfl, ⟨rfl, ⟨_, Tryz.func251, rfl, by kernel_rfl⟩, _, rfl, ?_⟩, trivial⟩ Y Y Y Y Y ?_
  · rintro _ R ⟨x, hx, rfl, rfl⟩
    exact ⟨by rintro _ rfl; rfl, ok_impl_Cache_find_1 x n t hx hn⟩
  refine Ka Y (Kd (Kr (Er (ra := [.one (.d _)]) rfl rfl)))

def c_impl_Cache_get : C := (.g (.o 0 3 (.box 3 (.t 0)) (.o 1 4 (.box 4 (.t 1)) (.o 2 6 (.alloc 6 [(.i 0), (.i 0), (.n 7)]) (.o 3 7 (.mov (.n 7)) (.o 4 8 (.mov (.i 0)) .done))))) (.g (.o 0 13 (.load (some 3) (.t 3)) (.o 1 14 (.load (some 1) (.t 4)) (.o 2 15 (.mov (.t 2)) (.o 3 16 (.call 16 181 [(.t 13), (.t 14), (.t 15)]) (.o 4 9 (.mov (.t 16)) .done))))) (.seq (.g (.o 0 17 (.mov (.t 9)) (.o 1 18 (.bin .lss (.t 17) (.i 0)) .done)) (.cond (.t 18) (.g (.o 0 19 (.load (some 3) (.t 3)) (.op 1 [] none none false (.store (some 3) (.t 6) (.t 19)) (.o 2 7 (.mov (.n 7)) (.o 3 8 (.mov (.i 0)) .done)))) .ret) .skip)) (.g (.o 0 20 (.load (some 3) (.t 3)) (.o 1 21 (.call 21 91 [(.t 20)]) (.op 2 [] none none false (.store (some 3) (.t 3) (.t 21)) .done))) (.g (.o 0 22 (.fad (.t 3) 2) (.o 1 23 (.load none (.t 22)) (.o 2 24 (.mov (.t 9)) (.o 3 25 (.iad 7 (.t 23) (.t 24)) (.o 4 10 (.mov (.t 25)) .done))))) (.seq (.g (.o 0 26 (.fad (.t 3) 1) (.o 1 27 (.load none (.t 26)) (.o 2 28 (.bin .lss (.t 27) (.i 1000000)) .done))) (.cond (.t 28) (.g (.o 0 29 (.fad (.t 3) 1) (.o 1 30 (.load none (.t 29)) (.o 2 31 (.bin .add (.t 30) (.i 1)) (.o 3 32 (.fad (.t 3) 1) (.op 4 [] none none false (.store none (.t 32) (.t 31)) .done))))) (.reg false (.o 0 33 (.mov (.t 10)) (.o 1 34 (.fad (.t 3) 1) (.o 2 35 (.load none (.t 34)) (.o 3 36 (.nck (.t 33)) (.o 4 37 (.fad (.t 36) 6) (.op 5 [] none none false (.store none (.t 37) (.t 35)) .done)))))))) .skip)) (.g (.o 0 38 (.mov (.t 10)) (.o 1 39 (.nck (.t 38)) (.o 2 40 (.fad (.t 39) 3) (.o 3 41 (.load none (.t 40)) (.o 4 42 (.call 42 81 [(.t 41)]) (.o 5 11 (.mov (.t 42)) .done)))))) (.seq (.g (.o 0 43 (.mov (.t 11)) (.o 1 44 (.len (.t 43)) (.o 2 45 (.mov (.i 0)) .done))) (.block 0 (.loop (.g (.o 0 46 (.bin .lss (.t 45) (.t 44)) .done) (.seq (.cond (.t 46) .skip (.exit 0)) (.seq (.block 1 (.g (.o 0 47 (.mov (.t 45)) (.o 1 12 (.mov (.t 47)) .done)) (.reg true (.op 0 [] (some 48) none true (.mov (.t 11)) (.op 1 [] (some 49) none true (.mov (.t 12)) (.op 2 [] (some 50) none true (.mov (.t 11)) (.op 3 [] (some 51) none true (.mov (.t 12)) (.op 4 [] (some 52) none true (.iad 7 (.t 50) (.t 51)) (.op 5 [] (some 53) none true (.fad (.t 52) 2) (.op 6 [] (some 54) none true (.load none (.t 53)) (.op 7 [] (some 55) none true (.mov (.t 10)) (.op 8 [] (some 56) none true (.nck (.t 55)) (.op 9 [] (some 57) none true (.fad (.t 56) 5) (.op 10 [] (some 58) none true (.load none (.t 57)) (.op 11 [] (some 59) none true (.fad (.t 3) 0) (.op 12 [] (some 60) none true (.load none (.t 59)) (.op 13 [] (some 61) none true (.bin .sub (.t 58) (.t 60)) (.op 14 [] (some 62) none true (.mm false (.t 54) (.t 61)) (.op 15 [] (some 63) none true (.iad 7 (.t 48) (.t 49)) (.op 16 [] (some 64) none true (.fad (.t 63) 2) (.op 17 [6, 10, 12] none none false (.store none (.t 64) (.t 62)) .done))))))))))))))))))))) (.reg false (.o 0 65 (.bin .add (.t 45) (.i 1)) (.o 1 45 (.mov (.t 65)) .done))))))))) (.seq (.reg true (.op 0 [] (some 66) none true (.load (some 3) (.t 3)) (.op 1 [] (some 67) none true (.mov (.t 11)) (.op 2 [] (some 68) none true (.mov (.t 10)) (.op 3 [] (some 69) none true (.nck (.t 68)) (.op 4 [] (some 70) none true (.fad (.t 69) 2) (.op 5 [] (some 71) none true (.load none (.t 70)) (.op 6 [0] none none false (.store (some 3) (.t 6) (.t 66)) (.op 7 [] (some 7) none true (.mov (.t 67)) (.op 8 [] (some 8) none true (.mov (.t 71)) .done)))))))))) .ret)))))))))
theorem dg_impl_Cache_get : Tryz.f90.body.bind (digC Tryz.prog Tryz.f90.ntmps []) = some c_impl_Cache_get := by kernel_rfl
theorem rs_impl_Cache_get : resSlots Tryz.prog Tryz.f90 = some [.m 6 (some 3), .s 7, .s 8] := by kernel_rfl
theorem ok_impl_Cache_get (c : Cache) (n : List (List UInt8)) (t : Int) (hs : SmallSs c.slots) (hn : n.length ≤ 4194304) (hc : 0 ≤ c.now ∧ 0 ≤ c.turn ∧ c.turn ≤ 1000000) (hu : ∀ s ∈ c.slots, 0 ≤ s.til ∧ s.til ≤ 100000000 ∧ c.now ≤ 100000000) :
    FnOK Tryz.prog 90 [.agg (c.cells.map .d), .agg [.d (encBB n)], .one (.d (.sc (.int .i64 t)))] (fun ra _ => ra = [.agg [.d (.sc (.int .i64 (getC c n t).now)), .d (.sc (.int .i64 (getC c n t).turn)), .d (encS (getC c n t).slots)], .one (.own true (encR (getL c n t))), .one (.d (.sc (.int .i64 (getK c n t))))]) := by
  refine FnOK.ofK Tryz.func90 (by kernel_rfl) dg_impl_Cache_get rs_impl_Cache_get rfl rfl ?_
  delta c_impl_Cache_get T.o X.i C.g
  have hl := hs.len
  have hstopo18 := trivial
  refine Kbc (kBox Y Y Y Y Y (kBox Y Y Y Y Y (kAlloc Y Y (Ka Y (Ka Y (Kdb (Kc (Ke Y Y Y (Ke Y Y Y (Ka Y (Kp (ok_impl_Cache_find _ _ _ prx prx) ⟨⟨⟨Y, Y, Y, trivial⟩, leb⟩, ⟨⟨Y, trivial⟩, leb⟩, rfl, trivial⟩ Y Y Y Y Y (Ka Y (Kdb (Kb ?_))))))))))))))
  clear hstopo18
  rcases findS_cases c.slots n t with e | ⟨i, hi, e⟩
  · rw [e]
    have e1 : getC c n t = c := by unfold getC; rw [e]; rfl
    have e2 : getL c n t = [] := by unfold getL; rw [e]; rfl
    have e3 : getK c n t = 0 := by unfold getK; rw [e]; rfl
    rw [e1, e2, e3]
    refine Kc (Ka Y (Kj Y Y Y (Kd (kCondT Y (Kbc (kMem [(16384, ⟨1, 0, .box [.d _, .d _, .d _]⟩), (28672, ⟨1, 0, .box [.d _, .d _, .nil 7]⟩)] [(3, .c (.ptr 16384 1 0)), (6, .c (.ptr 28672 1 0)), (19, .c (.un))] [] ⟨Y, Y, trivial⟩ ⟨Y, Y, Y, trivial⟩ Y (Ke Y Y Y (kMem [(28672, ⟨1, 0, .box [.d _, .d _, .nil 7]⟩)] [(6, .c (.ptr 28672 1 0)), (19, .g [.d _, .d _, .d _])] [] ⟨Y, trivial⟩ ⟨Y, Y, trivial⟩ Y (Ko Y Y Y Y (Ka Y (Ka Y (Kd (kMem [(28672, ⟨1, 0, .box [.d _, .d _, .d _]⟩)] [(6, .c (.ptr 28672 1 0)), (7, .c (.nil 7)), (8, .c (.d _))] [] ⟨Y, trivial⟩ ⟨Y, Y, Y, trivial⟩ Y (Kr (Er (ra := [.agg [(.d _), (.d _), (.d _)], .one (.own true _), .one (.d _)]) rfl rfl)))))))))))))))
  · rw [e]
    have hsi := slotAt_eq hi e
    have hu1 := hu _ (List.getElem_mem hi)
    have hsm := hs.mem _ (List.getElem_mem hi)
    have hsr := hsm.r
    have hsrl := hsr.len
    have e2 : getL c n t = c.slots[i].rrs.map (cutTtl (c.slots[i].til - c.now)) := by unfold getL; rw [e, if_neg (by omega), hsi]
    have e3 : getK c n t = c.slots[i].kind := by unfold getK; rw [e, if_neg (by omega), hsi]
    rw [e2, e3]
    have hg : getC c n t = (if c.turn < 1000000 then (⟨c.now, c.turn + 1, c.slots.set i { c.slots[i] with used := c.turn + 1 }⟩ : Cache) else c) := by
      unfold getC; rw [hsi, e, if_neg (show ¬ ((i : Int) < 0) by omega), Int.toNat_natCast]
    have c1 : (getC c n t).now = c.now := by rw [hg]; split <;> rfl
    have c2 : (getC c n t).slots.length = c.slots.length := by rw [hg]; split <;> simp
    have c3 : ∀ h : i < (getC c n t).slots.length, (getC c n t).slots[i].rrs = c.slots[i].rrs ∧ (getC c n t).slots[i].til = c.slots[i].til ∧ (getC c n t).slots[i].kind = c.slots[i].kind := by
      rw [hg]; intro h; split <;> simp
    have hstopo26 := trivial
    refine Kc (Ka Y (Kj Y Y Y (Kd (kCondF Y (Kn (Kbc (kMem [(16384, ⟨1, 0, .box [.d _, .d _, .d _]⟩)] [(3, .c (.ptr 16384 1 0)), (20, .c (.un)), (21, .c (.un))] [] ⟨Y, trivial⟩ ⟨Y, Y, Y, trivial⟩ Y (Ke Y Y Y (Ku true (ok_impl_Cache_copied _ prx) ⟨⟨⟨Y, Y, Y, trivial⟩, leb⟩, trivial⟩ Y Y Y (fun _ => (kMem [(16384, ⟨1, 0, .box [.d _, .d _, .d _]⟩), (90114, ⟨1, 0, .arr true _⟩)] [(3, .c (.ptr 16384 1 0)), (21, .g [.d _, .d _, .arr 90114 1])] [] ⟨Y, Y, trivial⟩ ⟨Y, Y, trivial⟩ Y (Ko Y Y Y Y (Kdb (Kc (Kf Y Y (Ke Y Y Y (Ka Y (kIadAR Y Y Y Y prl (Ka Y (Kdb (Kb ?_)))))))))))))))))))))
    clear hstopo26
    refine kCut2 ⟨tabSl [(3, .c (.ptr (rid 3 0) 1 0)), (6, .c (.ptr (rid 6 0) 1 0)), (9, .i i), (10, .c (.ept (rid 21 2) 1 i 0))], obTab 1 [(rid 3 0, ⟨1, 0, .box [.d (.sc (.int .i64 c.now)), .d (.sc (.int .i64 (getC c n t).turn)), .arr (rid 21 2) 1]⟩), (rid 6 0, ⟨1, 0, .box [.d (.sc (.int .i64 0)), .d (.sc (.int .i64 0)), .nil 7]⟩), (rid 21 2, ⟨1, 0, .arr true (encS (getC c n t).slots)⟩)], []⟩ ?_ (fun x hc => ?_)
    case refine_2 =>
      refine Kc (Kf Y Y (Ke Y Y Y (Kj Y Y Y (Kd (Km Y (fun g0 => Kbc (kMem [(16384, ⟨1, 0, .box [.d _, .d _, .arr 90114 1]⟩), (90114, ⟨1, 0, .arr true _⟩)] [(3, .c (.ptr 16384 1 0)), (29, .c (.un)), (30, .c (.un)), (32, .c (.un)), (31, .c (.un))] [] ⟨Y, Y, trivial⟩ ⟨Y, Y, Y, Y, Y, trivial⟩ Y (Kf Y Y (Ke Y Y Y (kAdd Y Y om (Kf Y Y (Ko Y Y Y Y (Kd (Kc (Ka Y (Kf Y Y (Ke Y Y Y (kNck Y Y (kFadE Y Y ?_)))))))))))))) (fun g0 => Kn ?_))))))
      · refine kStoreER (f := Slot.cells) (l := c.slots) (i := i) (z := { c.slots[i] with used := c.turn + 1 }) Y Y Y Y Y Y Y hi rfl ?_
        refine Kd ?_
        exact hc _ (by rw [hg, if_pos (by assumption)]; exact .normA)
      · exact hc _ (by rw [hg, if_neg (by assumption)]; exact .normA)
    clear hg e2 e3
    rw [c1]
    generalize getC c n t = D at *
    have hiD : i < D.slots.length := by omega
    obtain ⟨d1, d2, d3⟩ := c3 hiD
    have hDr : SmallRs D.slots[i].rrs := by rw [d1]; exact hsr
    have hdt : 0 ≤ D.slots[i].til ∧ D.slots[i].til ≤ 100000000 := by rw [d2]; omega
    rw [← d1, ← d2, ← d3]
    refine Kbc (Ka Y (kNck Y Y (kFadE Y Y (kLoadER Y Y prl rfl ?_))))
    refine Ku true (ok_impl_copyRrs D.slots[i].rrs hDr) ⟨rd_subS rfl hiD rfl, trivial⟩ Y Y Y (fun _ => ?_)
    refine Ka Y (Kdb (Kbc (Ka Y (Kq Y Y (Ka Y (Kd (Kt ?_)))))))
    obtain ⟨m, em⟩ : ∃ m, m = D.slots[i].til - c.now := ⟨_, rfl⟩
    rw [← em]
    refine kLoop (α := { y : Nat × List Rr // y.1 ≤ D.slots[i].rrs.length ∧ y.2 = (D.slots[i].rrs.take y.1).map (cutTtl m) ++ D.slots[i].rrs.drop y.1 }) (fun y => ⟨tabSl [(3, .c (.ptr (rid 3 0) 1 0)), (6, .c (.ptr (rid 6 0) 1 0)), (10, .c (.ept (rid 21 2) 1 i 0)), (11, .c (.arr (rid 42 0) 1)), (44, .i D.slots[i].rrs.length), (45, .i y.1.1)], obTab 1 [(rid 3 0, ⟨1, 0, .box [.d (.sc (.int .i64 c.now)), .d (.sc (.int .i64 D.turn)), .arr (rid 21 2) 1]⟩), (rid 6 0, ⟨1, 0, .box [.d (.sc (.int .i64 0)), .d (.sc (.int .i64 0)), .nil 7]⟩), (rid 21 2, ⟨1, 0, .arr true (encS D.slots)⟩), (rid 42 0, ⟨1, 0, .arr true (encR y.1.2)⟩)], []⟩) (fun y => D.slots[i].rrs.length - y.1.1) ⟨(0, D.slots[i].rrs), Nat.zero_le _, by simp⟩ .normA ?_
    rintro ⟨⟨j, V⟩, hj, hV⟩
    simp only at hj hV ⊢
    have hVl : V.length = D.slots[i].rrs.length := by rw [hV]; simp; omega
    have hrl := hDr.len
    rcases Nat.lt_or_ge j D.slots[i].rrs.length with hlt | hge
    · have hjV : j < V.length := by omega
      have hVj : V[j] = D.slots[i].rrs[j] := by
        simp only [hV]
        rw [List.getElem_append_right (by simp; omega)]
        simp; congr 1; omega
      have hmin : min V[j].ttl (D.slots[i].til - c.now) = (cutTtl m D.slots[i].rrs[j]).ttl := by
        rw [← hVj, em]; unfold cutTtl; split <;> (first | omega | (simp only; omega))
      have he : cutTtl m D.slots[i].rrs[j] = { V[j] with ttl := (cutTtl m D.slots[i].rrs[j]).ttl } := by
        rw [← hVj]; unfold cutTtl; split <;> rfl
      have hstep : V.set j (cutTtl m D.slots[i].rrs[j]) = (D.slots[i].rrs.take (j + 1)).map (cutTtl m) ++ D.slots[i].rrs.drop (j + 1) := by
        rw [hV, List.set_append_right _ _ (by simp; omega)]
        rw [show j - (List.map (cutTtl m) (List.take j D.slots[i].rrs)).length = 0 by simp; omega, List.drop_eq_getElem_cons hlt, List.set_cons_zero, ← List.take_append_getElem hlt, List.map_append]
        simp
      refine Kbc (Kj Y Y Y (Kdb (Km Y (fun g0 => Kn (Kb (Kt (Kbc (Ka Y (Ka Y (Kd (kRegD (Ka Y (Ka Y (Ka Y (Ka Y (kIadAR Y Y Y Y prl (kFadE Y Y (kLoadER Y Y prl rfl (Ka Y (kMem [(16384, ⟨1, 0, .box [.d _, .d _, .arr 90114 1]⟩), (176128, ⟨1, 0, .arr true _⟩), (90114, ⟨1, 0, .arr true _⟩)] [(3, .c (.ptr 16384 1 0)), (54, .c (.d _)), (48, .c (.arr 176128 1)), (49, .c (.d _))] [176128] ⟨Y, Y, Y, trivial⟩ ⟨Y, Y, Y, Y, trivial⟩ Y (kNck Y Y (kFadE Y Y (kLoadER Y Y prl rfl (Kf Y Y (Ke Y Y Y (kDif Y Y om (kMmMin Y Y (kIadAR Y Y Y Y prl (kFadE Y Y (Ks Y Y ?_))))))))))))))))))))))))))) (fun g0 => om))))
      refine kStoreER (f := Rr.cells) (l := V) (i := j) (z := { V[j] with ttl := min V[j].ttl (D.slots[i].til - c.now) }) rfl rfl rfl rfl rfl rfl rfl hjV rfl ?_
      refine Kd (kH (Kv (Kc (kAdd Y Y om (Ka Y (Kd ?_))))))
      exact kInv ⟨⟨(j + 1, V.set j { V[j] with ttl := min V[j].ttl (D.slots[i].til - c.now) }), by omega, by rw [hmin, ← he]; exact hstep⟩, by simp only; omega, .normA⟩
    · have hjL : j = D.slots[i].rrs.length := by omega
      have hVe : V = D.slots[i].rrs.map (cutTtl m) := by rw [hV, hjL]; simp
      refine Kbc (Kj Y Y Y (Kdb (Km Y (fun g0 => om) (fun g0 => kExit (kExC (kExI (kExB (Kb (kRegD (Ke Y Y Y (Ka Y (Ka Y (kNck Y Y (kFadE Y Y (kLoadER Y Y prl rfl (kMem [(28672, ⟨1, 0, .box [.d _, .d _, .nil 7]⟩), (90114, ⟨1, 0, .arr true _⟩), (176128, ⟨1, 0, .arr true _⟩)] [(6, .c (.ptr 28672 1 0)), (66, .g [.d _, .d _, .arr 90114 1]), (67, .c (.arr 176128 1)), (71, .c (.d _))] [90114, 16384] ⟨Y, Y, Y, trivial⟩ ⟨Y, Y, Y, Y, trivial⟩ Y (Kx Y Y (Ko Y Y Y Y (Ka Y (Ka Y (Kd (kH (kMem [(28672, ⟨1, 0, .box [.d _, .d _, .arr 90114 1]⟩), (176128, ⟨1, 0, .arr true _⟩), (90114, ⟨1, 0, .arr true _⟩)] [(6, .c (.ptr 28672 1 0)), (7, .c (.arr 176128 1)), (8, .c (.d _))] [] ⟨Y, Y, Y, trivial⟩ ⟨Y, Y, Y, trivial⟩ Y (Kr (Er (ra := [.agg [(.d _), (.d _), (.d _)], .one (.own true _), .one (.d _)]) rfl ?_)))))))))))))))))))))))))
      rw [hVe]

def c_impl_CacheGet : C := (.g (.o 0 3 (.box 3 (.t 0)) (.o 1 4 (.box 4 (.t 1)) (.o 2 6 (.alloc 6 [(.i 0), (.i 0), (.n 7)]) (.o 3 7 (.mov (.n 7)) (.o 4 8 (.mov (.i 0)) .done))))) (.seq (.g (.o 0 12 (.load (some 3) (.t 3)) (.o 1 13 (.call 13 56 [(.t 12)]) (.o 2 14 (.un .not (.t 13)) (.o 3 15 (.mov (.t 14)) (.op 4 [] (some 16) (some (15, false)) false (.load (some 1) (.t 4)) (.op 5 [] (some 17) (some (15, false)) false (.call 17 71 [(.t 16)]) (.op 6 [] (some 18) (some (15, false)) false (.un .not (.t 17)) (.o 7 19 (.pick (.t 15) (.v (.bool true)) (.t 18)) (.o 8 20 (.mov (.t 19)) (.op 9 [] (some 21) (some (20, false)) false (.mov (.t 2)) (.op 10 [] (some 22) (some (20, false)) false (.call 22 89 [(.t 21)]) (.op 11 [] (some 23) (some (20, false)) false (.un .not (.t 22)) (.o 12 24 (.pick (.t 20) (.v (.bool true)) (.t 23)) .done))))))))))))) (.cond (.t 24) (.g (.o 0 25 (.build [(.i 0), (.i 0), (.n 7)] []) (.op 1 [] none none false (.store (some 3) (.t 6) (.t 25)) (.o 2 7 (.mov (.n 7)) (.o 3 8 (.mov (.i 0)) .done)))) .ret) .skip)) (.g (.o 0 27 (.load (some 3) (.t 3)) (.o 1 28 (.load (some 1) (.t 4)) (.o 2 29 (.mov (.t 2)) (.o 3 30 (.call 30 90 [(.t 27), (.t 28), (.t 29)]) (.o 4 26 (.mov (.t 30)) (.o 5 31 (.ext (.t 26) 0) (.o 6 32 (.ext (.t 26) 1) (.o 7 33 (.ext (.t 26) 2) (.o 8 9 (.alloc 9 [(.i 0), (.i 0), (.n 7)]) (.op 9 [] none none false (.store (some 3) (.t 9) (.t 31)) (.o 10 10 (.mov (.t 32)) (.o 11 11 (.mov (.t 33)) .done)))))))))))) (.g (.o 0 34 (.load (some 3) (.t 9)) (.o 1 35 (.call 35 91 [(.t 34)]) (.o 2 36 (.mov (.t 10)) (.o 3 37 (.mov (.t 11)) (.op 4 [] none none false (.store (some 3) (.t 6) (.t 35)) (.o 5 7 (.mov (.t 36)) (.o 6 8 (.mov (.t 37)) .done))))))) .ret))))
theorem dg_impl_CacheGet : Tryz.f23.body.bind (digC Tryz.prog Tryz.f23.ntmps []) = some c_impl_CacheGet := by kernel_rfl
theorem rs_impl_CacheGet : resSlots Tryz.prog Tryz.f23 = some [.m 6 (some 3), .s 7, .s 8] := by kernel_rfl
theorem ok_impl_CacheGet (c : Cache) (n : List (List UInt8)) (t : Int) (hs : SmallSs c.slots) (hn : SmallBB n) :
    FnOK Tryz.prog 23 [.agg (c.cells.map .d), .agg [.d (encBB n)], .one (.d (.sc (.int .i64 t)))] (fun ra _ => ra = [.agg [.d (.sc (.int .i64 (cgC c n t).now)), .d (.sc (.int .i64 (cgC c n t).turn)), .own true (encS (cgC c n t).slots)], .one (.own true (encR (cgL c n t))), .one (.d (.sc (.int .i64 (cgK c n t))))]) := by
  refine FnOK.ofK Tryz.func23 (by kernel_rfl) dg_impl_CacheGet rs_impl_CacheGet rfl rfl ?_
  delta c_impl_CacheGet T.o X.i C.g
  have hn1 := hn.len
  have hn2 := hn.mem
  by_cases hok : cgOk c n t = true
  case neg =>
    rw [show cgC c n t = zeroCg by unfold cgC; rw [if_neg hok], show cgL c n t = [] by unfold cgL; rw [if_neg hok], show cgK c n t = 0 by unfold cgK; rw [if_neg hok]]
    cases k1 : cacheOk c
    · refine Kbc (kBox Y Y Y Y Y (kBox Y Y Y Y Y (kAlloc Y Y (Ka Y (Ka Y (Kdb (Kbc (Ke Y Y Y (Kp (ok_impl_CacheOk _ prx) ⟨⟨⟨Y, Y, Y, trivial⟩, leb⟩, trivial⟩ Y Y Y Y Y (Kw Y Y (kMem [(20480, ⟨1, 0, .box [.d _]⟩)] [(14, .c (.d _)), (4, .c (.ptr 20480 1 0)), (16, .c (.un)), (17, .c (.un)), (15, .c (.un)), (18, .c (.un)), (19, .c (.un)), (2, .c (.d _)), (21, .c (.un)), (22, .c (.un)), (20, .c (.un)), (23, .c (.un))] [] ⟨Y, trivial⟩ ⟨Y, Y, Y, Y, Y, Y, Y, Y, Y, Y, Y, Y, trivial⟩ Y (Ka Y (kGN Y (fun g0 => Kg Y (Kg Y (Kg Y (Kk Y (Ka Y (Ka Y (Kg Y (Kg Y (Kg Y (Kk Y (Ka Y (Kd (kCondT Y (Kbc (kMem [(28672, ⟨1, 0, .box [.d _, .d _, .nil 7]⟩)] [(6, .c (.ptr 28672 1 0)), (25, .c (.un))] [] ⟨Y, trivial⟩ ⟨Y, Y, trivial⟩ Y (kBuildG Y (kMem [(28672, ⟨1, 0, .box [.d _, .d _, .nil 7]⟩)] [(6, .c (.ptr 28672 1 0)), (25, .g [.d _, .d _, .nil 7])] [] ⟨Y, trivial⟩ ⟨Y, Y, trivial⟩ Y (Ko Y Y Y Y (Ka Y (Ka Y (Kd (kMem [(28672, ⟨1, 0, .box [.d _, .d _, .nil 7]⟩)] [(6, .c (.ptr 28672 1 0)), (7, .c (.nil 7)), (8, .c (.d _))] [] ⟨Y, trivial⟩ ⟨Y, Y, Y, trivial⟩ Y (Kr (Er (ra := [.agg [(.d _), (.d _), (.own true _)], .one (.own true _), .one (.d _)]) rfl rfl)))))))))))))))))))))))) (fun g0 => (by (simp [*] at g0))))))))))))))))
    cases k2 : nameOk n
    · refine Kbc (kBox Y Y Y Y Y (kBox Y Y Y Y Y (kAlloc Y Y (Ka Y (Ka Y (Kdb (Kbc (Ke Y Y Y (Kp (ok_impl_CacheOk _ prx) ⟨⟨⟨Y, Y, Y, trivial⟩, leb⟩, trivial⟩ Y Y Y Y Y (Kw Y Y (kMem [(20480, ⟨1, 0, .box [.d _]⟩)] [(14, .c (.d _)), (4, .c (.ptr 20480 1 0)), (16, .c (.un)), (17, .c (.un)), (15, .c (.un)), (18, .c (.un)), (19, .c (.un)), (2, .c (.d _)), (21, .c (.un)), (22, .c (.un)), (20, .c (.un)), (23, .c (.un))] [] ⟨Y, trivial⟩ ⟨Y, Y, Y, Y, Y, Y, Y, Y, Y, Y, Y, Y, trivial⟩ Y (Ka Y (kGN Y (fun g0 => (by (simp [*] at g0))) (fun g0 => Ki Y (Ke Y Y Y (Ki Y (Kp (ok_impl_NameOk _ prx prx) ⟨⟨⟨Y, trivial⟩, leb⟩, trivial⟩ Y Y Y Y Y (Ki Y (Kw Y Y (Kl Y (Ka Y (Ka Y (kGN Y (fun g1 => Kg Y (Kg Y (Kg Y (Kk Y (Ka Y (Kd (kCondT Y (Kbc (kMem [(28672, ⟨1, 0, .box [.d _, .d _, .nil 7]⟩)] [(6, .c (.ptr 28672 1 0)), (25, .c (.un))] [] ⟨Y, trivial⟩ ⟨Y, Y, trivial⟩ Y (kBuildG Y (kMem [(28672, ⟨1, 0, .box [.d _, .d _, .nil 7]⟩)] [(6, .c (.ptr 28672 1 0)), (25, .g [.d _, .d _, .nil 7])] [] ⟨Y, trivial⟩ ⟨Y, Y, trivial⟩ Y (Ko Y Y Y Y (Ka Y (Ka Y (Kd (kMem [(28672, ⟨1, 0, .box [.d _, .d _, .nil 7]⟩)] [(6, .c (.ptr 28672 1 0)), (7, .c (.nil 7)), (8, .c (.d _))] [] ⟨Y, trivial⟩ ⟨Y, Y, Y, trivial⟩ Y (Kr (Er (ra := [.agg [(.d _), (.d _), (.own true _)], .one (.own true _), .one (.d _)]) rfl rfl)))))))))))))))))) (fun g1 => (by (simp [*] at g1))))))))))))))))))))))))))
    have k3 : tyOk t = false := by
      unfold cgOk at hok; rw [k1, k2] at hok; simpa using hok
    refine Kbc (kBox Y Y Y Y Y (kBox Y Y Y Y Y (kAlloc Y Y (Ka Y (Ka Y (Kdb (Kbc (Ke Y Y Y (Kp (ok_impl_CacheOk _ prx) ⟨⟨⟨Y, Y, Y, trivial⟩, leb⟩, trivial⟩ Y Y Y Y Y (Kw Y Y (kMem [(20480, ⟨1, 0, .box [.d _]⟩)] [(14, .c (.d _)), (4, .c (.ptr 20480 1 0)), (16, .c (.un)), (17, .c (.un)), (15, .c (.un)), (18, .c (.un)), (19, .c (.un)), (2, .c (.d _)), (21, .c (.un)), (22, .c (.un)), (20, .c (.un)), (23, .c (.un))] [] ⟨Y, trivial⟩ ⟨Y, Y, Y, Y, Y, Y, Y, Y, Y, Y, Y, Y, trivial⟩ Y (Ka Y (kGN Y (fun g0 => (by (simp [*] at g0))) (fun g0 => Ki Y (Ke Y Y Y (Ki Y (Kp (ok_impl_NameOk _ prx prx) ⟨⟨⟨Y, trivial⟩, leb⟩, trivial⟩ Y Y Y Y Y (Ki Y (Kw Y Y (Kl Y (Ka Y (Ka Y (kGN Y (fun g1 => (by (simp [*] at g1))) (fun g1 => Ki Y (Ka Y (Ki Y (Kp (ok_impl_TypeOk _) ⟨Y, trivial⟩ Y Y Y Y Y (Ki Y (Kw Y Y (Kl Y (Ka Y (Kd (kCondN Y (fun g2 => Kbc (kMem [(28672, ⟨1, 0, .box [.d _, .d _, .nil 7]⟩)] [(6, .c (.ptr 28672 1 0)), (25, .c (.un))] [] ⟨Y, trivial⟩ ⟨Y, Y, trivial⟩ Y (kBuildG Y (kMem [(28672, ⟨1, 0, .box [.d _, .d _, .nil 7]⟩)] [(6, .c (.ptr 28672 1 0)), (25, .g [.d _, .d _, .nil 7])] [] ⟨Y, trivial⟩ ⟨Y, Y, trivial⟩ Y (Ko Y Y Y Y (Ka Y (Ka Y (Kd (kMem [(28672, ⟨1, 0, .box [.d _, .d _, .nil 7]⟩)] [(6, .c (.ptr 28672 1 0)), (7, .c (.nil 7)), (8, .c (.d _))] [] ⟨Y, trivial⟩ ⟨Y, Y, Y, trivial⟩ Y (Kr (Er (ra := [.agg [(.d _), (.d _), (.own true _)], .one (.own true _), .one (.d _)]) rfl rfl))))))))))) (fun g2 => (by (simp [*] at g2))))))))))))))))))))))))))))))))))))
  rw [show cgC c n t = getC c n t by unfold cgC; rw [if_pos hok], show cgL c n t = getL c n t by unfold cgL; rw [if_pos hok], show cgK c n t = getK c n t by unfold cgK; rw [if_pos hok]]
  unfold cgOk at hok
  simp only [Bool.and_eq_true] at hok
  obtain ⟨⟨k1, k2⟩, k3⟩ := hok
  obtain ⟨b1, b2⟩ := cache_bounds k1
  have hgs := getC_small (n := n) (t := t) hs
  refine Kbc (kBox Y Y Y Y Y (kBox Y Y Y Y Y (kAlloc Y Y (Ka Y (Ka Y (Kdb (Kbc (Ke Y Y Y (Kp (ok_impl_CacheOk _ prx) ⟨⟨⟨Y, Y, Y, trivial⟩, leb⟩, trivial⟩ Y Y Y Y Y (Kw Y Y (kMem [(20480, ⟨1, 0, .box [.d _]⟩)] [(14, .c (.d _)), (4, .c (.ptr 20480 1 0)), (16, .c (.un)), (17, .c (.un)), (15, .c (.un)), (18, .c (.un)), (19, .c (.un)), (2, .c (.d _)), (21, .c (.un)), (22, .c (.un)), (20, .c (.un)), (23, .c (.un))] [] ⟨Y, trivial⟩ ⟨Y, Y, Y, Y, Y, Y, Y, Y, Y, Y, Y, Y, trivial⟩ Y (Ka Y (kGN Y (fun g0 => (by (simp [*] at g0))) (fun g0 => Ki Y (Ke Y Y Y (Ki Y (Kp (ok_impl_NameOk _ prx prx) ⟨⟨⟨Y, trivial⟩, leb⟩, trivial⟩ Y Y Y Y Y (Ki Y (Kw Y Y (Kl Y (Ka Y (Ka Y (kGN Y (fun g1 => (by (simp [*] at g1))) (fun g1 => Ki Y (Ka Y (Ki Y (Kp (ok_impl_TypeOk _) ⟨Y, trivial⟩ Y Y Y Y Y (Ki Y (Kw Y Y (Kl Y (Ka Y (Kd (kCondN Y (fun g2 => (by (simp [*] at g2))) (fun g2 => Kn (Kbc (kMem [(16384, ⟨1, 0, .box [.d _, .d _, .d _]⟩), (20480, ⟨1, 0, .box [.d _]⟩)] [(3, .c (.ptr 16384 1 0)), (4, .c (.ptr 20480 1 0)), (2, .c (.d _)), (27, .c (.un)), (28, .c (.un)), (29, .c (.un)), (30, .c (.un)), (26, .c (.un)), (9, .c (.un)), (31, .c (.un)), (32, .c (.un)), (33, .c (.un))] [] ⟨Y, Y, trivial⟩ ⟨Y, Y, Y, Y, Y, Y, Y, Y, Y, Y, Y, Y, trivial⟩ Y (Ke Y Y Y (Ke Y Y Y (Ka Y (Ku false (ok_impl_Cache_get _ _ _ prx prx prx prx) ⟨⟨⟨Y, Y, Y, trivial⟩, leb⟩, ⟨⟨Y, trivial⟩, leb⟩, rfl, trivial⟩ Y Y Y (fun _ => (kMovT Y (kExtC Y Y (kExtC Y Y (kExtC Y Y (kAlloc Y Y (kMem [(40960, ⟨1, 0, .box [.d _, .d _, .nil 7]⟩), (127040, ⟨1, 0, .arr true _⟩)] [(9, .c (.ptr 40960 1 0)), (31, .g [.d _, .d _, .d _]), (32, .c (.arr 127040 1)), (33, .c (.d _))] [] ⟨Y, Y, trivial⟩ ⟨Y, Y, Y, Y, trivial⟩ Y (Ko Y Y Y Y (Ka Y (Ka Y (Kdb (Kc (Ke Y Y Y (Ku true (ok_impl_Cache_copied _ prx) ⟨⟨⟨Y, Y, Y, trivial⟩, leb⟩, trivial⟩ Y Y Y (fun _ => (Ka Y (Ka Y (kMem [(28672, ⟨1, 0, .box [.d _, .d _, .nil 7]⟩), (147458, ⟨1, 0, .arr true _⟩), (127040, ⟨1, 0, .arr true _⟩)] [(6, .c (.ptr 28672 1 0)), (35, .g [.d _, .d _, .arr 147458 1]), (36, .c (.arr 127040 1)), (37, .c (.d _))] [] ⟨Y, Y, Y, trivial⟩ ⟨Y, Y, Y, Y, trivial⟩ Y (Ko Y Y Y Y (Ka Y (Ka Y (Kd (kMem [(28672, ⟨1, 0, .box [.d _, .d _, .arr 147458 1]⟩), (127040, ⟨1, 0, .arr true _⟩), (147458, ⟨1, 0, .arr true _⟩)] [(6, .c (.ptr 28672 1 0)), (7, .c (.arr 127040 1)), (8, .c (.d _))] [] ⟨Y, Y, Y, trivial⟩ ⟨Y, Y, Y, trivial⟩ Y (Kr (Er (ra := [.agg [(.d _), (.d _), (.own true _)], .one (.own true _), .one (.d _)]) rfl rfl)))))))))))))))))))))))))))))))))))))))))))))))))))))))))))))))))

def rA : Rr := ⟨[[97]], 1, 5, 7, [], [], []⟩
def sA : Slot := ⟨[[97]], 1, 1, [rA], 1, 5, 1⟩
theorem caches_put {d : Cache} {ok : Bool} (h : PutR ⟨0, 0, []⟩ [rA] 1 d ok) : ok = true ∧ d = ⟨0, 1, [sA]⟩ := by
  unfold PutR at h
  rw [if_pos (by first | decide | rfl)] at h
  unfold KeepR at h
  rw [if_neg (by first | decide | exact nofun)] at h
  obtain ⟨h1, h2⟩ := h
  refine ⟨h1, ?_⟩
  have hp := h2.p
  have hb : baseC ⟨0, 0, []⟩ (putS [rA] 1) ++ [newS ⟨0, 0, []⟩ (putS [rA] 1) ([rA].getD 0 ⟨[], 0, 0, 0, [], [], []⟩).ttl] = [sA] := by first | decide | rfl
  rw [hb, List.perm_singleton] at hp
  have hn := h2.n
  have ht := h2.t
  cases d
  simp only at hp hn ht
  rw [hp, hn, ht]
  rfl
theorem caches_get : cgL ⟨0, 1, [sA]⟩ [[97]] 1 = [rA] ∧ cgK ⟨0, 1, [sA]⟩ [[97]] 1 = 1 := by first | decide | exact ⟨rfl, rfl⟩

def c_slices_Clone_Limpl_Slot_impl_Slot : C := (.g (.o 0 2 (.mov (.n 7)) .done) (.seq (.g (.o 0 3 (.mov (.t 0)) (.o 1 4 (.eqn false (.t 3)) .done)) (.cond (.t 4) (.g (.o 0 2 (.mov (.n 7)) .done) .ret) .skip)) (.g (.o 0 5 (.lit 5 7 [(.n 1), (.i 0), (.i 0), (.n 7), (.i 0), (.i 0), (.i 0)] 0 []) (.o 1 6 (.mov (.t 0)) (.o 2 7 (.app 7 7 88 (.t 5) (.t 6)) (.o 3 2 (.mov (.t 7)) .done)))) .ret)))
theorem dg_slices_Clone_Limpl_Slot_impl_Slot : Tryz.f295.body.bind (digC Tryz.prog Tryz.f295.ntmps []) = some c_slices_Clone_Limpl_Slot_impl_Slot := by kernel_rfl
theorem rs_slices_Clone_Limpl_Slot_impl_Slot : resSlots Tryz.prog Tryz.f295 = some [.s 2] := by kernel_rfl
theorem ok_slices_Clone_Limpl_Slot_impl_Slot (b : List Slot) (hb : b.length ≤ 4194304) :
    FnOK Tryz.prog 295 [.one (.d (encS b))] (fun ra _ => ra = [.one (.own false (encS b))]) := by
  refine FnOK.ofK Tryz.func295 (by kernel_rfl) dg_slices_Clone_Limpl_Slot_impl_Slot rs_slices_Clone_Limpl_Slot_impl_Slot rfl rfl ?_
  delta c_slices_Clone_Limpl_Slot_impl_Slot T.o X.i C.g
  have hl : (encS b).len = b.length := len_encL _ _ _
  refine Kbc (Ka Y (Kd ?_))
  refine Kb (Kbc (Ka Y (kEqn Y Y Y fun n hn => Kd ?_)))
  refine kCond Y (fun h => ?_) (fun h => ?_)
  · refine Kbc (Ka Y (Kd (Kr ?_)))
    refine endRet (ra := [.one (.own false (.sl 7 []))]) rfl ⟨⟨rfl, trivial⟩, nodupB_sound rfl, trivial, trivial⟩ ?_
    have : b = [] := by
      rw [hl] at hn
      cases b with
      | nil => rfl
      | cons x l => have := hn (by simp); simp [this] at h
    rw [this]; rfl
  · refine Kn (Kbc ?_)
    refine kLit Y Y Y Y (Ka Y ?_)
    refine kApp (cy := .d (encS b)) rfl rfl rfl (rfl : _ = some (noNest (encS b), encS b, [])) rfl rfl ⟨rfl, rfl, Nat.succ_pos 6⟩ Y ?_ (Ka Y (Kd (Kr ?_)))
    · show ((DV.sl 7 (chunk 7 0 [])).len + (encS b).len) * 88 ≤ _ ∧ _
      rw [hl]; simp [DV.len, chunk]; omega
    refine endRet (ra := [.one (.own false _)]) rfl ⟨⟨⟨⟨_, rfl, fun h => absurd h (by decide)⟩, .inl (Nat.zero_lt_succ _)⟩, trivial⟩, nodupB_sound rfl, trivial, trivial⟩ ?_
    have e : (DV.sl 7 (chunk 7 0 [])).app (encS b) = encS b := by simp [DV.app, encL, DV.rows, DV.esz, chunk]
    exact congrArg (fun x => [RA.one (RV.own false x)]) e

theorem run_clear_rows {P : Program} (w : World) (t e ty : TypeId) (z : Value) (ht : P.underlying t = some (.slice e)) (hv : ∀ w, (zeroValue e).run P w = .ok z w) (h1 : ∀ v ∈ z.cells, v.oneCell' = true) (b o n c : Nat) (hn : 0 < n)
    (hc : ∀ j, j < (Builtin.zeroCells z.cells n).size → (w.cell? ⟨b, o + j, none⟩).isSome = true) (hf : ∀ j, j < (Builtin.zeroCells z.cells n).size → w.frozen? ⟨b, o + j, none⟩ = false) (h2 : ∀ v ∈ (Builtin.zeroCells z.cells n).toList, v.oneCell' = true) :
    (Builtin.clear_ #[t] ty #[.slice (some ⟨b, o, none⟩) n c]).run P w = .ok (.tuple #[]) (w.setCells b o (Builtin.zeroCells z.cells n).toList) := by
  have hst := run_storeCells_cells (P := P) b o (Builtin.zeroCells z.cells n).toList 0 w (by simpa using hc) (by simpa using hf) h2
  simp only [Nat.add_zero] at hst
  obtain ⟨m, rfl⟩ : ∃ m, n = m + 1 := ⟨n - 1, by omega⟩
  simp [Builtin.clear_, run_underlying ht, hv, hst]
theorem setCells_block {e : TypeId} (b : Nat) : ∀ (vs : List Value) (o : Nat) (w : World) (cur : Array Value), w.heap[b]? = some (.cells cur e (0, 0)) → o + vs.length ≤ cur.size →
    ∃ cur', (w.setCells b o vs).heap[b]? = some (.cells cur' e (0, 0)) ∧ cur'.size = cur.size ∧ (∀ t, t < o ∨ o + vs.length ≤ t → cur'[t]? = cur[t]?) ∧ (∀ j, j < vs.length → cur'[o + j]? = vs[j]?)
  | [], o, w, cur, h, _ => ⟨cur, h, rfl, fun _ _ => rfl, fun j hj => by simp at hj⟩
  | v :: r, o, w, cur, h, hl => by
    have hb : (w.setCell ⟨b, o, none⟩ v).heap[b]? = some (.cells (cur.setIfInBounds o v) e (0, 0)) := by
      have hlt : b < w.heap.size := (Array.getElem?_eq_some_iff.1 h).1
      simp [World.setCell, Array.getElem?_modify, h]
    simp only [List.length_cons] at hl
    obtain ⟨cur', h1, h2, h3, h4⟩ := setCells_block b r (o + 1) (w.setCell ⟨b, o, none⟩ v) (cur.setIfInBounds o v) hb (by simp; omega)
    refine ⟨cur', h1, by rw [h2]; simp, fun t ht => ?_, fun j hj => ?_⟩
    · simp only [List.length_cons] at ht
      rw [h3 t (by omega), Array.getElem?_setIfInBounds]
      rw [if_neg (by omega)]
    · match j with
      | 0 =>
        rw [Nat.add_zero, h3 o (by omega), Array.getElem?_setIfInBounds]
        simp; omega
      | j + 1 =>
        simp only [List.length_cons] at hj
        rw [show o + (j + 1) = o + 1 + j by omega, h4 j (by omega)]
        simp
theorem del_block {e : TypeId} {w : World} {b sz n i : Nat} {cur : Array Value} (hb : w.heap[b]? = some (.cells cur e (0, 0))) (hi : i < n) (hn : n * sz ≤ cur.size) {news zs : List Value}
    (hl : news.length = (n - (i + 1)) * sz) (hnews : ∀ j, j < news.length → cur[(i + 1) * sz + j]? = news[j]?) (hz : zs.length = sz) :
    ∃ cur', ((w.drew.setCells b (i * sz) news).setCells b ((n - 1) * sz) zs).heap[b]? = some (.cells cur' e (0, 0)) ∧ cur'.size = cur.size ∧ (∀ t, t < i * sz → cur'[t]? = cur[t]?) ∧ ∀ t, i * sz ≤ t → t < (n - 1) * sz → cur'[t]? = cur[t + sz]? := by
  have e1 : (n - 1) * sz + sz = n * sz := by
    obtain ⟨m, rfl⟩ : ∃ m, n = m + 1 := ⟨n - 1, by omega⟩
    simp [Nat.add_mul]
  have e2 : i * sz + (n - (i + 1)) * sz = (n - 1) * sz := by
    rw [← Nat.add_mul]; congr 1; omega
  have e3 : (i + 1) * sz = i * sz + sz := by rw [Nat.add_mul, Nat.one_mul]
  obtain ⟨c1, h1, h2, h3, h4⟩ := setCells_block b news (i * sz) w.drew cur hb (by omega)
  obtain ⟨c2, k1, k2, k3, k4⟩ := setCells_block b zs ((n - 1) * sz) _ c1 h1 (by omega)
  refine ⟨c2, k1, k2.trans h2, fun t ht => ?_, fun t ht1 ht2 => ?_⟩
  · rw [k3 t (by omega), h3 t (by omega)]
  · rw [k3 t (by omega)]
    obtain ⟨j, rfl⟩ : ∃ j, t = i * sz + j := ⟨t - i * sz, by omega⟩
    rw [h4 j (by omega), ← hnews j (by omega)]
    congr 1; omega
theorem setCells_other (b c : Nat) (hc : c ≠ b) : ∀ (vs : List Value) (o : Nat) (w : World), (w.setCells b o vs).heap[c]? = w.heap[c]? ∧ (w.setCells b o vs).heap.size = w.heap.size ∧ (w.setCells b o vs).os = w.os ∧ (w.setCells b o vs).tape = w.tape ∧ (w.setCells b o vs).output = w.output ∧ (w.setCells b o vs).drawn = w.drawn
  | [], _, _ => ⟨rfl, rfl, rfl, rfl, rfl, rfl⟩
  | v :: r, o, w => by
    obtain ⟨h1, h2, h3, h4, h5, h6⟩ := setCells_other b c hc r (o + 1) (w.setCell ⟨b, o, none⟩ v)
    have e : (w.setCell ⟨b, o, none⟩ v).heap[c]? = w.heap[c]? := by simp [World.setCell, Array.getElem?_modify, Ne.symm hc]
    exact ⟨h1.trans e, h2.trans (by simp [World.setCell]), h3, h4, h5, h6⟩
theorem FnOK.ofDelete {P : Program} {f : FuncId} {fn : Func} (hf : P.funcs[f]? = some fn) (hb : fn.body.isSome = true) (hname : (fn.name == "runtime.NumGoroutine") = false) {sz : Nat} {dp : Bool} {xs : List (List DV)} {i : Nat} (hi : i < xs.length)
    (walk : ∀ (w : World) (b cap : Nat) (cur : Array Value) (e : TypeId) (news : List Value), w.heap[b]? = some (.cells cur e (0, 0)) → xs.length ≤ cap → cap ≤ maxLen → cur.size = cap * sz → news.length = (xs.length - (i + 1)) * sz →
      (∀ j, j < news.length → cur[(i + 1) * sz + j]? = news[j]?) → (∀ u ∈ news, u.oneCell' = true) →
      Calls P f #[.slice (some ⟨b, 0, none⟩) xs.length cap, .int .i64 i, .int .i64 ((i : Int) + 1)] w fun e w' => e = .returned (.slice (some ⟨b, 0, none⟩) (xs.length - 1) cap) ∧ ∃ zs : List Value, zs.length = sz ∧ w' = (w.drew.setCells b (i * sz) news).setCells b ((xs.length - 1) * sz) zs) :
    FnOK P f [.one (.arr true dp (.sl sz xs)), .one (.d (.sc (.int .i64 i))), .one (.d (.sc (.int .i64 ((i : Int) + 1))))] (fun ra _ => ra = [.one (.own dp (.sl sz (xs.eraseIdx i)))]) := by
  refine ⟨⟨fn, hf, hb, hname⟩, fun w S Fs vs hs hv _ hFl hS _ => ?_⟩
  have hs3 : vs.size = 3 := hs
  obtain ⟨_, hp0⟩ := (hv 0 _ vs[0] rfl (Array.getElem?_eq_getElem (by omega)))
  have hp1 : vs[1] = _ := Pers.scEq (hv 1 _ vs[1] rfl (Array.getElem?_eq_getElem (by omega)))
  have hp2 : vs[2] = _ := Pers.scEq (hv 2 _ vs[2] rfl (Array.getElem?_eq_getElem (by omega)))
  rcases hp0 with ⟨h0, _⟩ | ⟨b, cap, cur, e, us, FsN, g1, g2, g3, g4, g5, g6, g7, g8, g9, g10, g11⟩
  · have : xs = [] := h0
    rw [this] at hi; simp at hi
  simp only [DV.rows, DV.esz] at g1 g4 g6 g7 g8 g11
  have hvs : vs = #[.slice (some ⟨b, 0, none⟩) xs.length cap, .int .i64 i, .int .i64 ((i : Int) + 1)] := by
    apply Array.ext
    · simpa using hs3
    · intro k h1' h2'
      match k with
      | 0 => exact g1
      | 1 => exact hp1
      | 2 => exact hp2
      | k + 3 => omega
  have hrow : ∀ k (hk : k < xs.length), xs[k]? = some xs[k] := fun k hk => List.getElem?_eq_getElem hk
  have hcellW : ∀ t, t < xs.length * sz → ∃ v : Value, cur[t]? = some v ∧ v.oneCell' = true := by
    intro t ht
    have hz0 : 0 < sz := Nat.pos_of_ne_zero fun h => by rw [h] at ht; omega
    have hk : t / sz < xs.length := Nat.div_lt_of_lt_mul (by rw [Nat.mul_comm]; exact ht)
    have hj : t % sz < sz := Nat.mod_lt _ hz0
    have hlen := g7 (t / sz) _ (hrow _ hk)
    have hd := List.getElem?_eq_getElem (l := xs[t / sz]) (i := t % sz) (by rw [hlen]; exact hj)
    have h1 := g8 (t / sz) (t % sz) _ _ (hrow _ hk) hd
    rw [Nat.div_add_mod' t sz] at h1
    exact ⟨_, h1, (g11 (t / sz) (t % sz) _ _ (hrow _ hk) hd).one⟩
  have hcap : xs.length * sz ≤ cur.size := by rw [g6]; exact Nat.mul_le_mul_right _ g4
  have e2 : (i + 1) * sz + (xs.length - (i + 1)) * sz = xs.length * sz := by
    rw [← Nat.add_mul]; congr 1; omega
  obtain ⟨news, hnews⟩ : ∃ news, news = (cur.toList.drop ((i + 1) * sz)).take ((xs.length - (i + 1)) * sz) := ⟨_, rfl⟩
  have hnl : news.length = (xs.length - (i + 1)) * sz := by rw [hnews]; simp; omega
  have hng : ∀ j, j < news.length → cur[(i + 1) * sz + j]? = news[j]? := by
    intro j hj
    rw [hnl] at hj
    rw [hnews, List.getElem?_take, if_pos hj, List.getElem?_drop]
    simp
  have hn1 : ∀ u ∈ news, u.oneCell' = true := by
    intro u hu
    obtain ⟨j, hj, rfl⟩ := List.getElem_of_mem hu
    obtain ⟨v, h1, h2⟩ := hcellW ((i + 1) * sz + j) (by rw [hnl] at hj; omega)
    rw [hng j hj, List.getElem?_eq_getElem hj] at h1
    cases h1
    exact h2
  rw [hvs]
  refine (walk w b cap cur e news g2 g4 g5 g6 hnl hng hn1).mono fun e' w' hm => ?_
  obtain ⟨rfl, zs, hz, rfl⟩ := hm
  obtain ⟨cur', k1, k2, k3, k4⟩ := del_block g2 hi hcap hnl hng hz
  have hbw : b < w.heap.size := (hFl _ b g3).1
  generalize hW : (w.drew.setCells b (i * sz) news).setCells b ((xs.length - 1) * sz) zs = W at k1
  have hoth : ∀ c, c ≠ b → W.heap[c]? = w.heap[c]? ∧ W.heap.size = w.heap.size ∧ W.os = w.os ∧ W.tape = w.tape ∧ W.output = w.output ∧ W.drawn = w.drew.drawn := by
    intro c hc
    obtain ⟨a1, a2, a3, a4, a5, a6⟩ := setCells_other b c hc zs ((xs.length - 1) * sz) (w.drew.setCells b (i * sz) news)
    obtain ⟨b1, b2, b3, b4, b5, b6⟩ := setCells_other b c hc news (i * sz) w.drew
    rw [← hW]
    exact ⟨a1.trans b1, a2.trans b2, a3.trans b3, a4.trans b4, a5.trans b5, a6.trans b6⟩
  obtain ⟨-, o2, o3, o4, o5, o6⟩ := hoth (b + 1) (by omega)
  have hS' : ∀ c, S c → c < w.heap.size ∧ c ≠ b := fun c hc => ⟨hS c hc, fun e => (hFl _ b g3).2 (e ▸ hc)⟩
  refine ⟨_, [.one (.own dp (.sl sz (xs.eraseIdx i)))], ⟨fun _ => .sl 0 [], fun _ => []⟩, fun q c => q = aid 0 0 ∧ Fs (aid 0 0) c, rfl, rfl, ⟨o3, o4, o5, by rw [o2]; exact Nat.le_refl _, fun c hc hM => (hoth c fun e => hM ⟨_, e ▸ g3⟩).1, by rw [o6]; exact Nat.le_succ _⟩,
    ⟨fun i j c h1 h2 => h1.1.trans h2.1.symm, fun i c hc => by rw [o2]; exact (hFl _ _ hc.2).1, fun i c hc => .inr ⟨aid 0 0, dp, .sl sz xs, rfl, hc.2⟩⟩, ⟨#[.slice (some ⟨b, 0, none⟩) (xs.length - 1) cap], rfl, rfl, fun t a u ha hu => ?_⟩, fun t k g v p u hg _ hp _ => ?_⟩
  · match t with
    | t + 1 => simp at ha
    | 0 =>
      simp at ha hu; subst ha; subst hu
      have hσ : ∀ (k : Nat) (cs : List DV), (xs.eraseIdx i)[k]? = some cs → k < xs.length - 1 ∧ xs[if k < i then k else k + 1]? = some cs := by
        intro k cs h
        have hk : k < (xs.eraseIdx i).length := (List.getElem?_eq_some_iff.1 h).1
        rw [List.length_eraseIdx, if_pos hi] at hk
        refine ⟨hk, ?_⟩
        rw [List.getElem?_eraseIdx] at h
        by_cases hki : k < i
        · rw [if_pos hki] at h ⊢
          exact h
        · rw [if_neg hki] at h ⊢
          exact h
      refine ⟨rfl, .inr ⟨b, cap, cur', e, fun k j => us (if k < i then k else k + 1) j, fun k j c => FsN (if k < i then k else k + 1) j c, ?_, k1, ⟨rfl, g3⟩, ?_, g5, by rw [k2]; exact g6, ?_, ?_, fun k j c hc => ⟨⟨rfl, (g9 _ j c hc).1⟩, (g9 _ j c hc).2⟩, ?_, ?_⟩⟩
      · simp [DV.rows, List.length_eraseIdx, hi]
      · simp only [DV.rows, List.length_eraseIdx, if_pos hi]; omega
      · intro k cs h
        exact g7 _ cs (hσ k cs h).2
      · intro k j cs d h hd
        obtain ⟨hk, h2⟩ := hσ k cs h
        have hj : j < sz := by rw [← g7 _ cs h2]; exact (List.getElem?_eq_some_iff.1 hd).1
        have hold := g8 _ j cs d h2 hd
        show cur'[k * sz + j]? = some (us (if k < i then k else k + 1) j)
        have f1 : (k + 1) * sz = k * sz + sz := by rw [Nat.add_mul, Nat.one_mul]
        have f2 := Nat.mul_le_mul_right sz (show k + 1 ≤ xs.length - 1 from hk)
        by_cases hki : k < i
        · have f3 := Nat.mul_le_mul_right sz (show k + 1 ≤ i from hki)
          rw [if_pos hki] at hold
          rw [k3 _ (by omega), if_pos hki]
          exact hold
        · have f3 := Nat.mul_le_mul_right sz (show i ≤ k by omega)
          rw [if_neg hki] at hold
          rw [k4 _ (by omega) (by omega), if_neg hki, ← hold]
          congr 1; omega
      · intro k j k' j' c h1 h2
        obtain ⟨a1, a2⟩ := g10 _ _ _ _ c h1 h2
        refine ⟨?_, a2⟩
        split at a1 <;> split at a1 <;> omega
      · intro k j cs d h hd
        obtain ⟨hk, h2⟩ := hσ k cs h
        refine (g11 _ j cs d h2 hd).mono (fun h => h) (fun c hc => ⟨(hoth c (hS' c hc).2).1, by rw [o2]; exact (hS' c hc).1, .inl hc, fun q hq => (hFl _ c hq.2).2 hc⟩) _ fun c hc => ⟨(hoth c (g9 _ j c hc).2).1, hc⟩
  · match t with
    | 0 =>
      simp at hg; subst hg
      simp only [GA.at] at hp
      split at hp
      · simp at hp; subst hp; trivial
      · simp at hp
    | 1 =>
      simp at hg; subst hg
      simp only [GA.at] at hp
      split at hp
      · simp at hp; subst hp; trivial
      · simp at hp
    | 2 =>
      simp at hg; subst hg
      simp only [GA.at] at hp
      split at hp
      · simp at hp; subst hp; trivial
      · simp at hp
    | t + 3 => simp at hg

def c_laws_name : C := (.g (.o 0 2 (.alloc 2 [(.n 1)]) .done) (.g (.o 0 6 (.mov (.t 0)) (.o 1 7 (.s2b (.t 6)) (.o 2 8 (.call 8 170 [(.t 7)]) (.o 3 5 (.mov (.t 8)) (.o 4 9 (.ext (.t 5) 0) (.o 5 10 (.ext (.t 5) 1) (.o 6 3 (.alloc 3 [(.n 1)]) (.op 7 [] none none false (.store (some 1) (.t 3) (.t 9)) (.o 8 4 (.mov (.t 10)) .done))))))))) (.g (.o 0 11 (.load (some 1) (.t 3)) (.op 1 [] none none false (.store (some 1) (.t 2) (.t 11)) .done)) .ret)))
theorem dg_laws_name : Tryz.f79.body.bind (digC Tryz.prog Tryz.f79.ntmps []) = some c_laws_name := by kernel_rfl
theorem rs_laws_name : resSlots Tryz.prog Tryz.f79 = some [.m 2 (some 1)] := by kernel_rfl
theorem ok_laws_name (b : ByteArray) (hb : b.size ≤ 4194303) :
    FnOK Tryz.prog 79 [.one (.d (.sc (.string b)))] (fun ra _ => ra = [.agg [.own true (encBB (readN b.toList))]]) := by
  refine FnOK.ofK Tryz.func79 (by kernel_rfl) dg_laws_name rs_laws_name rfl rfl ?_
  delta c_laws_name T.o X.i C.g
  have h : b.toList.length ≤ 4194303 := by rw [bt_len]; exact hb
  refine Kbc (kAlloc Y Y (Kdb (Kc (Ka Y (kS2b Y om (Ku true (ok_spec_NameRead _ pry) ⟨Y, trivial⟩ Y Y Y (fun _ => (kMovT Y (kExtC Y Y (kExtC Y Y (kAlloc Y Y (Ko Y Y Y Y (Ka Y (Kdb (Kc (Ke Y Y Y (Ko Y Y Y Y (Kd (Kr (Er (ra := [.agg [(.own true _)]]) rfl rfl))))))))))))))))))))

def c_spec_RrSame : C := (.g (.o 0 2 (.box 2 (.t 0)) (.o 1 3 (.box 3 (.t 1)) (.o 2 4 (.mov (.v (.bool false))) .done))) (.g (.o 0 5 (.load (some 7) (.t 2)) (.o 1 6 (.call 6 73 [(.t 5)]) (.o 2 7 (.mov (.t 6)) (.op 3 [] (some 8) (some (7, true)) false (.load (some 7) (.t 3)) (.op 4 [] (some 9) (some (7, true)) false (.call 9 73 [(.t 8)]) (.o 5 10 (.pick (.t 7) (.t 9) (.v (.bool false))) (.o 6 11 (.mov (.t 10)) (.op 7 [] (some 12) (some (11, true)) false (.load (some 7) (.t 2)) (.op 8 [] (some 13) (some (11, true)) false (.load (some 7) (.t 3)) (.op 9 [] (some 14) (some (11, true)) false (.call 14 75 [(.t 12), (.t 13)]) (.op 10 [] (some 15) (some (11, true)) false (.bin .eql (.t 14) (.i 0)) (.o 11 16 (.pick (.t 11) (.t 15) (.v (.bool false))) (.o 12 4 (.mov (.t 16)) .done))))))))))))) .ret))
theorem dg_spec_RrSame : Tryz.f61.body.bind (digC Tryz.prog Tryz.f61.ntmps []) = some c_spec_RrSame := by kernel_rfl
theorem rs_spec_RrSame : resSlots Tryz.prog Tryz.f61 = some [.s 4] := by kernel_rfl
theorem ok_spec_RrSame (a b : Rr) (ha : SmallR a) (hb : SmallR b) :
    FnOK Tryz.prog 61 [.agg (a.cells.map .d), .agg (b.cells.map .d)] (fun ra _ => ra = [.one (.d (.sc (.bool (sameR a b))))]) := by
  refine FnOK.ofK Tryz.func61 (by kernel_rfl) dg_spec_RrSame rs_spec_RrSame rfl rfl ?_
  delta c_spec_RrSame T.o X.i C.g
  refine Kbc (kBox Y Y Y Y Y (kBox Y Y Y Y Y (Ka Y (Kdb (Kc (Ke Y Y Y (Kp (ok_spec_RrOk _ pry) ⟨⟨⟨Y, Y, Y, Y, Y, Y, Y, trivial⟩, leb⟩, trivial⟩ Y Y Y Y Y (Ka Y (kGS Y (fun g0 => Ki Y (Ke Y Y Y (Ki Y (Kp (ok_spec_RrOk _ pry) ⟨⟨⟨Y, Y, Y, Y, Y, Y, Y, trivial⟩, leb⟩, trivial⟩ Y Y Y Y Y (Kk Y (Ka Y (Ka Y (kGS Y (fun g1 => Ki Y (Ke Y Y Y (Ki Y (Ke Y Y Y (Ki Y (Kp (ok_spec_l3cmp _ _ pry pry pry pry) ⟨⟨⟨Y, Y, Y, Y, Y, Y, Y, trivial⟩, leb⟩, ⟨⟨Y, Y, Y, Y, Y, Y, Y, trivial⟩, leb⟩, trivial⟩ Y Y Y Y Y (Ki Y (Kj Y Y Y (Kk Y (Ka Y (Ka Y (Kd (Kr (Er (ra := [.one (.d _)]) rfl ?_)))))))))))))) (fun g1 => Kg Y (Kg Y (Kg Y (Kg Y (Kl Y (Ka Y (Ka Y (Kd (Kr (Er (ra := [.one (.d _)]) rfl ?_)))))))))))))))))) (fun g0 => Kg Y (Kg Y (Kl Y (Ka Y (Ka Y (Kg Y (Kg Y (Kg Y (Kg Y (Kl Y (Ka Y (Ka Y (Kd (Kr (Er (ra := [.one (.d _)]) rfl ?_))))))))))))))))))))))))
  all_goals (refine congrArg (fun z : Bool => [RA.one (RV.d (DV.sc (Value.bool z)))]) ?_; rw [Bool.eq_iff_iff]; simp [sameR, *])

def c_laws_sameRrs : C := (.g (.o 0 4 (.mov (.v (.bool false))) .done) (.seq (.g (.o 0 6 (.mov (.t 0)) (.o 1 7 (.len (.t 6)) (.o 2 8 (.mov (.t 1)) (.o 3 9 (.len (.t 8)) (.o 4 10 (.bin .neq (.t 7) (.t 9)) .done))))) (.cond (.t 10) (.g (.o 0 4 (.mov (.v (.bool false))) .done) .ret) .skip)) (.seq (.g (.o 0 5 (.mov (.i 0)) .done) (.block 0 (.loop (.seq (.g (.o 0 11 (.mov (.t 5)) (.o 1 12 (.mov (.t 0)) (.o 2 13 (.len (.t 12)) (.o 3 14 (.bin .lss (.t 11) (.t 13)) .done)))) (.cond (.t 14) .skip (.exit 0))) (.seq (.block 1 (.seq (.reg true (.op 0 [] (some 17) none true (.mov (.t 0)) (.op 1 [] (some 18) none true (.mov (.t 5)) (.op 2 [] (some 19) none true (.iad 7 (.t 17) (.t 18)) (.op 3 [] (some 20) none true (.load (some 7) (.t 19)) (.op 4 [] (some 21) none true (.mov (.t 1)) (.op 5 [] (some 22) none true (.mov (.t 5)) (.op 6 [] (some 23) none true (.iad 7 (.t 21) (.t 22)) (.op 7 [] (some 24) none true (.load (some 7) (.t 23)) (.op 8 [3, 7] (some 25) none false (.call 25 61 [(.t 20), (.t 24)]) (.op 9 [] (some 26) none true (.un .not (.t 25)) (.op 10 [] (some 27) none true (.mov (.t 26)) (.op 11 [] (some 28) (some (27, false)) true (.mov (.t 0)) (.op 12 [] (some 29) (some (27, false)) true (.mov (.t 5)) (.op 13 [] (some 30) (some (27, false)) true (.iad 7 (.t 28) (.t 29)) (.op 14 [] (some 31) (some (27, false)) true (.fad (.t 30) 2) (.op 15 [] (some 32) (some (27, false)) true (.load none (.t 31)) (.op 16 [] (some 33) (some (27, false)) true (.mov (.t 1)) (.op 17 [] (some 34) (some (27, false)) true (.mov (.t 5)) (.op 18 [] (some 35) (some (27, false)) true (.iad 7 (.t 33) (.t 34)) (.op 19 [] (some 36) (some (27, false)) true (.fad (.t 35) 2) (.op 20 [] (some 37) (some (27, false)) true (.load none (.t 36)) (.op 21 [] (some 38) (some (27, false)) true (.bin .neq (.t 32) (.t 37)) (.op 22 [] (some 39) none true (.pick (.t 27) (.v (.bool true)) (.t 38)) .done)))))))))))))))))))))))) (.cond (.t 39) (.g (.o 0 4 (.mov (.v (.bool false))) .done) .ret) .skip))) (.reg false (.o 0 15 (.mov (.t 5)) (.o 1 16 (.bin .add (.t 15) (.i 1)) (.o 2 5 (.mov (.t 16)) .done))))))))) (.g (.o 0 4 (.mov (.v (.bool true))) .done) .ret))))
theorem dg_laws_sameRrs : Tryz.f39.body.bind (digC Tryz.prog Tryz.f39.ntmps []) = some c_laws_sameRrs := by kernel_rfl
theorem rs_laws_sameRrs : resSlots Tryz.prog Tryz.f39 = some [.s 4] := by kernel_rfl
theorem ok_laws_sameRrs (a b : List Rr) (ha : SmallRs a) (hb : SmallRs b) :
    FnOK Tryz.prog 39 [.one (.d (encR a)), .one (.d (encR b))] (fun ra _ => ra = [.one (.d (.sc (.bool (sameRs a b))))]) := by
  refine FnOK.ofK Tryz.func39 (by kernel_rfl) dg_laws_sameRrs rs_laws_sameRrs rfl rfl ?_
  delta c_laws_sameRrs T.o X.i C.g
  have h1 := ha.len
  have h2 := hb.len
  by_cases hl : a.length = b.length
  case neg =>
    rw [show sameRs a b = false by unfold sameRs; simp [hl]]
    refine Kbc (Ka Y (Kdb (Kbc (Ka Y (Kq Y Y (Ka Y (Kq Y Y (Kj Y Y Y (Kd (kCondIN Y (fun g0 => Kbc (Ka Y (Kd (Kr (Er (ra := [.one (.d _)]) rfl rfl))))) (fun g0 => om)))))))))))
  refine Kbc (Ka Y (Kdb (Kbc (Ka Y (Kq Y Y (Ka Y (Kq Y Y (Kj Y Y Y (Kd (kCondIN Y (fun g0 => om) (fun g0 => Kn (Kb (Kbc (Ka Y (Kd (Kt ?_))))))))))))))))
  refine kLoop (α := { i : Nat // i ≤ a.length ∧ ∀ k < i, same1 a b k = true }) (fun y => ⟨tabSl [(0, .dv (encR a)), (1, .dv (encR b)), (5, .i y.1)], obTab 1 [], []⟩) (fun y => a.length - y.1) ⟨0, by simp⟩ .normA ?_
  rintro ⟨i, hi, hno⟩
  simp only
  rcases Nat.lt_or_ge i a.length with hlt | hge
  · have hbi := ha.mem _ (List.getElem_mem hlt)
    have hlt2 : i < b.length := by omega
    have hbi2 := hb.mem _ (List.getElem_mem hlt2)
    have hs1 := same1_eq hlt hlt2
    by_cases c1 : sameR a[i] b[i] = true ∧ a[i].ttl = b[i].ttl
    · obtain ⟨c2, c3⟩ := c1
      refine Kb (Kbc (Ka Y (Ka Y (Kq Y Y (Kj Y Y Y (Kd (Km Y (fun g0 => Kn (Kb (Kt (Kb (kRegD (Ka Y (Ka Y (kIadR Y Y Y prl (Ky Y Y (Ka Y (Ka Y (kIadR Y Y Y prl (Ky Y Y (Ks Y Y (Kp (ok_spec_RrSame _ _ prx prx) ⟨⟨⟨Y, Y, Y, Y, Y, Y, Y, trivial⟩, leb⟩, ⟨⟨Y, Y, Y, Y, Y, Y, Y, trivial⟩, leb⟩, trivial⟩ Y Y Y Y Y (Kw Y Y (Ka Y (kGN Y (fun g1 => (by (simp [*] at g1))) (fun g1 => Ki Y (Ka Y (Ki Y (Ka Y (Ki Y (kIadR Y Y Y prl (Ki Y (kFadD Y (Ki Y (Ky Y Y (Ki Y (Ka Y (Ki Y (Ka Y (Ki Y (kIadR Y Y Y prl (Ki Y (kFadD Y (Ki Y (Ky Y Y (Ki Y (Kj Y Y Y (Kl Y (Ka Y (Kd (kH (kCondIN Y (fun g2 => om) (fun g2 => Kn (Kv (Kc (Ka Y (kAdd Y Y om (Ka Y (Kd ?_)))))))))))))))))))))))))))))))))))))))))))))))))))) (fun g0 => om))))))))
      refine kInv ⟨⟨i + 1, by omega, fun k hk => ?_⟩, by simp only; omega, .normA⟩
      rcases Nat.lt_or_ge k i with h | h
      · exact hno k h
      · rw [show k = i by omega, hs1]; simp [c2, c3]
    · have hf : same1 a b i = false := by rw [hs1]; simpa using c1
      rw [show sameRs a b = false from sameRs_no hlt hf]
      have c4 : ¬ (sameR a[i] b[i] = true ∧ a[i].ttl = b[i].ttl) := c1
      refine Kb (Kbc (Ka Y (Ka Y (Kq Y Y (Kj Y Y Y (Kd (Km Y (fun g0 => Kn (Kb (Kt (Kb (kRegD (Ka Y (Ka Y (kIadR Y Y Y prl (Ky Y Y (Ka Y (Ka Y (kIadR Y Y Y prl (Ky Y Y (Ks Y Y (Kp (ok_spec_RrSame _ _ prx prx) ⟨⟨⟨Y, Y, Y, Y, Y, Y, Y, trivial⟩, leb⟩, ⟨⟨Y, Y, Y, Y, Y, Y, Y, trivial⟩, leb⟩, trivial⟩ Y Y Y Y Y (Kw Y Y (Ka Y (kGN Y (fun g1 => Kg Y (Kg Y (Kg Y (Kg Y (Kg Y (Kg Y (Kg Y (Kg Y (Kg Y (Kg Y (Kg Y (Kk Y (Ka Y (Kd (kH (kCondT Y (Kbc (Ka Y (Kd (Kr (Er (ra := [.one (.d _)]) rfl rfl))))))))))))))))))))) (fun g1 => Ki Y (Ka Y (Ki Y (Ka Y (Ki Y (kIadR Y Y Y prl (Ki Y (kFadD Y (Ki Y (Ky Y Y (Ki Y (Ka Y (Ki Y (Ka Y (Ki Y (kIadR Y Y Y prl (Ki Y (kFadD Y (Ki Y (Ky Y Y (Ki Y (Kj Y Y Y (Kl Y (Ka Y (Kd (kH (kCondIN Y (fun g2 => Kbc (Ka Y (Kd (Kr (Er (ra := [.one (.d _)]) rfl rfl))))) (fun g2 => Kn (Kv (Kc (Ka Y (kAdd Y Y om (Ka Y (Kd ?_)))))))))))))))))))))))))))))))))))))))))))))))))))) (fun g0 => om))))))))
      exact absurd ⟨by assumption, by assumption⟩ c4
  · have ht : sameRs a b = true := sameRs_yes hl fun k hk => hno k (by omega)
    rw [ht]
    refine Kb (Kbc (Ka Y (Ka Y (Kq Y Y (Kj Y Y Y (Kd (Km Y (fun g0 => om) (fun g0 => kExit (kExC (kExI (kExB (Kbc (Ka Y (Kd (Kr (Er (ra := [.one (.d _)]) rfl rfl))))))))))))))))

def c_spec_l2text : C := (.g (.o 0 1 (.box 1 (.t 0)) (.o 1 2 (.mov (.n 1)) .done)) (.seq (.g (.o 0 5 (.fad (.t 1) 0) (.o 1 6 (.load none (.t 5)) (.o 2 7 (.len (.t 6)) (.o 3 8 (.bin .eql (.t 7) (.i 0)) .done)))) (.cond (.t 8) (.g (.o 0 9 (.lit 9 1 [(.v (.int .u8 0))] 1 [(0, 1, (.v (.int .u8 46)))]) (.o 1 10 (.s2s (.t 9)) (.o 2 2 (.mov (.t 10)) .done))) .ret) .skip)) (.g (.o 0 3 (.mov (.n 1)) .done) (.seq (.g (.o 0 4 (.mov (.i 0)) .done) (.block 0 (.loop (.seq (.g (.o 0 11 (.mov (.t 4)) (.o 1 12 (.fad (.t 1) 0) (.o 2 13 (.load none (.t 12)) (.o 3 14 (.len (.t 13)) (.o 4 15 (.bin .lss (.t 11) (.t 14)) .done))))) (.cond (.t 15) .skip (.exit 0))) (.seq (.block 1 (.reg false (.o 0 18 (.mov (.t 3)) (.o 1 19 (.fad (.t 1) 0) (.o 2 20 (.load none (.t 19)) (.o 3 21 (.mov (.t 4)) (.o 4 22 (.iad 1 (.t 20) (.t 21)) (.o 5 23 (.load none (.t 22)) (.o 6 24 (.app 24 1 1 (.t 18) (.t 23)) (.o 7 25 (.lit 25 1 [(.v (.int .u8 0))] 1 [(0, 1, (.v (.int .u8 46)))]) (.o 8 26 (.app 26 1 1 (.t 24) (.t 25)) (.o 9 3 (.mov (.t 26)) .done)))))))))))) (.reg false (.o 0 16 (.mov (.t 4)) (.o 1 17 (.bin .add (.t 16) (.i 1)) (.o 2 4 (.mov (.t 17)) .done))))))))) (.g (.o 0 27 (.mov (.t 3)) (.o 1 2 (.mov (.t 27)) .done)) .ret)))))
theorem dg_spec_l2text : Tryz.f261.body.bind (digC Tryz.prog Tryz.f261.ntmps []) = some c_spec_l2text := by kernel_rfl
theorem rs_spec_l2text : resSlots Tryz.prog Tryz.f261 = some [.s 2] := by kernel_rfl
theorem ok_spec_l2text (a : List (List UInt8)) (ha : SmallBB a) :
    FnOK Tryz.prog 261 [.agg [.d (encBB a)]] (fun ra _ => ra = [.one (.d (encB (textN a)))]) := by
  refine FnOK.ofK Tryz.func261 (by kernel_rfl) dg_spec_l2text rs_spec_l2text rfl rfl ?_
  delta c_spec_l2text T.o X.i C.g
  have a1 := ha.len
  have a2 := ha.flat
  refine Kbc (kBox Y Y Y Y Y (Ka Y (Kdb (Kbc (Kf Y Y (Ke Y Y Y (Kq Y Y (Kj Y Y Y (Kd (Km Y (fun g0 => Kbc (kLitG Y Y Y Y (kS2sB (y := 46) (ys := []) Y Y Y (Ka Y (Kd (Kr (Er (ra := [.one (.d _)]) rfl ?_))))))) (fun g0 => Kn (Kbc (Ka Y (Kdb (Kbc (Ka Y (Kd (Kt ?_))))))))))))))))))
  · have : a = [] := List.eq_nil_of_length_eq_zero (by omega)
    subst this; rfl
  have hne : a ≠ [] := fun h => g0 (by rw [h]; rfl)
  rw [show textN a = textL a by unfold textN; rw [if_neg hne]]
  refine kSub (Sub.nilArr (j := 3) (id := rid 5000 0) (sz := 1) rfl (by decide)) ?_
  refine kLoop (α := { i : Nat // i ≤ a.length }) (fun y => ⟨tabSl [(1, .c (.ptr (rid 1 0) 1 0)), (3, .c (.arr (rid 5000 0) 1)), (4, .i y.1)], obTab 1 [(rid 1 0, ⟨1, 0, .box [.d (encBB a)]⟩), (rid 5000 0, ⟨1, 0, .arr true (encB (textL (a.take y.1)))⟩)], []⟩) (fun y => a.length - y.1) ⟨0, by simp⟩ .normA ?_
  rintro ⟨i, hi⟩
  simp only
  have hle := textL_le a i
  rcases Nat.lt_or_ge i a.length with hlt | hge
  · have hst := textL_take a i hlt
    have hle2 := textL_le a (i + 1)
    have hle3 : (textL (a.take (i + 1))).length = (textL (a.take i)).length + a[i].length + 1 := by rw [hst]; simp only [List.length_append, List.length_cons, List.length_nil]
    refine Kb (Kbc (Ka Y (Kf Y Y (Ke Y Y Y (Kq Y Y (Kj Y Y Y (Kd (Km Y (fun g0 => Kn (Kb (Kt (Kc (Ka Y (Kf Y Y (Ke Y Y Y (Ka Y (kIadR Y Y Y om (Ky Y Y (kAppR Y Y Y (src_encB _ _) rfl rfl rfl rfl prl (kLitG Y Y Y Y (kAppR1 (z := (46 : UInt8)) rfl rfl rfl rfl rfl rfl rfl rfl prl (Ka Y (Kd (Kv (Kc (Ka Y (kAdd Y Y om (Ka Y (Kd ?_))))))))))))))))))))) (fun g0 => om)))))))))
    refine kInv ⟨⟨i + 1, by omega⟩, by simp only; omega, ?_⟩
    simp only [hst]
    exact .normA
  · refine Kb (Kbc (Ka Y (Kf Y Y (Ke Y Y Y (Kq Y Y (Kj Y Y Y (Kd (Km Y (fun g0 => om) (fun g0 => kExit (kExC (kExI (kExB (Kbc (Ka Y (Ka Y (Kd (Kr (Er (ra := [.one (.d _)]) rfl ?_))))))))))))))))))
    rw [show i = a.length by omega, List.take_length]

def c_spec_NameText : C := (.g (.o 0 1 (.box 1 (.t 0)) (.o 1 2 (.mov (.n 1)) .done)) (.seq (.g (.o 0 3 (.load (some 1) (.t 1)) (.o 1 4 (.call 4 47 [(.t 3)]) (.o 2 5 (.un .not (.t 4)) .done))) (.cond (.t 5) (.g (.o 0 2 (.mov (.n 1)) .done) .ret) .skip)) (.g (.o 0 6 (.load (some 1) (.t 1)) (.o 1 7 (.call 7 261 [(.t 6)]) (.o 2 2 (.mov (.t 7)) .done))) .ret)))
theorem dg_spec_NameText : Tryz.f190.body.bind (digC Tryz.prog Tryz.f190.ntmps []) = some c_spec_NameText := by kernel_rfl
theorem rs_spec_NameText : resSlots Tryz.prog Tryz.f190 = some [.s 2] := by kernel_rfl
theorem ok_spec_NameText (a : List (List UInt8)) (ha : SmallBB a) :
    FnOK Tryz.prog 190 [.agg [.d (encBB a)]] (fun ra _ => ra = [.one (.d (encB (if nameOk a then textN a else [])))]) := by
  refine FnOK.ofK Tryz.func190 (by kernel_rfl) dg_spec_NameText rs_spec_NameText rfl rfl ?_
  delta c_spec_NameText T.o X.i C.g
  have a1 := ha.len
  have a2 := ha.mem
  cases hno : nameOk a
  · refine Kbc (kBox Y Y Y Y Y (Ka Y (Kdb (Kbc (Ke Y Y Y (Kp (ok_spec_NameOk _ pry pry) ⟨⟨⟨Y, trivial⟩, leb⟩, trivial⟩ Y Y Y Y Y (Kw Y Y (Kd (kCondN Y (fun g0 => Kbc (Ka Y (Kd (Kr (Er (ra := [.one (.d _)]) rfl rfl))))) (fun g0 => (by (simp [*] at g0))))))))))))
    all_goals rfl
  · refine Kbc (kBox Y Y Y Y Y (Ka Y (Kdb (Kbc (Ke Y Y Y (Kp (ok_spec_NameOk _ pry pry) ⟨⟨⟨Y, trivial⟩, leb⟩, trivial⟩ Y Y Y Y Y (Kw Y Y (Kd (kCondN Y (fun g0 => (by (simp [*] at g0))) (fun g0 => Kn (Kbc (Ke Y Y Y (kCallD2 (ok_spec_l2text _ pry) ⟨⟨⟨Y, trivial⟩, leb⟩, trivial⟩ Y Y Y Y (Ka Y (Kd (Kr (Er (ra := [.one (.d _)]) rfl rfl)))))))))))))))))
    all_goals rfl

def c_laws_same : C := (.g (.o 0 4 (.mov (.v (.bool false))) .done) (.g (.o 0 5 (.mov (.t 0)) (.o 1 6 (.b2s (.t 5)) (.o 2 7 (.mov (.t 1)) (.o 3 8 (.b2s (.t 7)) (.o 4 9 (.bin .eql (.t 6) (.t 8)) (.o 5 4 (.mov (.t 9)) .done)))))) .ret))
theorem dg_laws_same : Tryz.f17.body.bind (digC Tryz.prog Tryz.f17.ntmps []) = some c_laws_same := by kernel_rfl
theorem rs_laws_same : resSlots Tryz.prog Tryz.f17 = some [.s 4] := by kernel_rfl
theorem ok_laws_same (a b : List UInt8) :
    FnOK Tryz.prog 17 [.one (.d (encB a)), .one (.d (encB b))] (fun ra _ => ra = [.one (.d (.sc (.bool (decide (a = b)))))]) := by
  refine FnOK.ofK Tryz.func17 (by kernel_rfl) dg_laws_same rs_laws_same rfl rfl ?_
  delta c_laws_same T.o X.i C.g
  refine Kbc (Ka Y (Kdb (Kc (Ka Y (kB2s Y Y (Ka Y (kB2s Y Y (Kj Y Y Y (Ka Y (Kd (Kr (Er (ra := [.one (.d _)]) rfl ?_))))))))))))
  refine congrArg (fun z : Bool => [RA.one (RV.d (DV.sc (Value.bool z)))]) ?_
  rw [ByteArray.toList_eq, ByteArray.toList_eq, Bool.eq_iff_iff]
  simp

def c_laws_sameName : C := (.g (.o 0 2 (.box 2 (.t 0)) (.o 1 3 (.box 3 (.t 1)) (.o 2 4 (.mov (.v (.bool false))) .done))) (.seq (.reg true (.op 0 [] (some 5) none true (.load (some 1) (.t 2)) (.op 2 [] (some 7) none true (.load (some 1) (.t 3)) (.op 1 [0] (some 6) none false (.call 6 190 [(.t 5)]) (.op 3 [2, 0] (some 8) none false (.call 8 190 [(.t 7)]) (.op 4 [0, 2] (some 9) none false (.call 9 17 [(.t 6), (.t 8)]) (.op 5 [] (some 4) none true (.mov (.t 9)) .done))))))) .ret))
theorem dg_laws_sameName : Tryz.f108.body.bind (digC Tryz.prog Tryz.f108.ntmps []) = some c_laws_sameName := by kernel_rfl
theorem rs_laws_sameName : resSlots Tryz.prog Tryz.f108 = some [.s 4] := by kernel_rfl
theorem ok_laws_sameName (a b : List (List UInt8)) (ha : SmallBB a) (hb : SmallBB b) :
    FnOK Tryz.prog 108 [.agg [.d (encBB a)], .agg [.d (encBB b)]] (fun ra _ => ra = [.one (.d (.sc (.bool (decide ((if nameOk a then textN a else []) = (if nameOk b then textN b else []))))))]) := by
  refine FnOK.ofK Tryz.func108 (by kernel_rfl) dg_laws_sameName rs_laws_sameName rfl rfl ?_
  delta c_laws_sameName T.o X.i C.g
  refine Kbc (kBox Y Y Y Y Y (kBox Y Y Y Y Y (Ka Y (Kdb (kRegD (Ke Y Y Y (Ke Y Y Y (Kx Y Y (kCallD2 (ok_spec_NameText _ pry) ⟨⟨⟨Y, trivial⟩, leb⟩, trivial⟩ Y Y Y Y (Ks Y Y (kCallD2 (ok_spec_NameText _ pry) ⟨⟨⟨Y, trivial⟩, leb⟩, trivial⟩ Y Y Y Y (Ks Y Y (Kp (ok_laws_same _ _) ⟨Y, Y, trivial⟩ Y Y Y Y Y (Ka Y (Kd (kH (Kr (Er (ra := [.one (.d _)]) rfl rfl))))))))))))))))))

def c_laws_sameCache : C := (.g (.o 0 2 (.box 2 (.t 0)) (.o 1 3 (.box 3 (.t 1)) (.o 2 4 (.mov (.v (.bool false))) .done))) (.seq (.g (.o 0 8 (.fad (.t 2) 0) (.o 1 9 (.load none (.t 8)) (.o 2 10 (.fad (.t 3) 0) (.o 3 11 (.load none (.t 10)) (.o 4 12 (.bin .neq (.t 9) (.t 11)) (.o 5 13 (.mov (.t 12)) (.op 6 [] (some 14) (some (13, false)) false (.fad (.t 2) 1) (.op 7 [] (some 15) (some (13, false)) false (.load none (.t 14)) (.op 8 [] (some 16) (some (13, false)) false (.fad (.t 3) 1) (.op 9 [] (some 17) (some (13, false)) false (.load none (.t 16)) (.op 10 [] (some 18) (some (13, false)) false (.bin .neq (.t 15) (.t 17)) (.o 11 19 (.pick (.t 13) (.v (.bool true)) (.t 18)) (.o 12 20 (.mov (.t 19)) (.op 13 [] (some 21) (some (20, false)) false (.fad (.t 2) 2) (.op 14 [] (some 22) (some (20, false)) false (.load none (.t 21)) (.op 15 [] (some 23) (some (20, false)) false (.len (.t 22)) (.op 16 [] (some 24) (some (20, false)) false (.fad (.t 3) 2) (.op 17 [] (some 25) (some (20, false)) false (.load none (.t 24)) (.op 18 [] (some 26) (some (20, false)) false (.len (.t 25)) (.op 19 [] (some 27) (some (20, false)) false (.bin .neq (.t 23) (.t 26)) (.o 20 28 (.pick (.t 20) (.v (.bool true)) (.t 27)) .done))))))))))))))))))))) (.cond (.t 28) (.g (.o 0 4 (.mov (.v (.bool false))) .done) .ret) .skip)) (.seq (.g (.o 0 5 (.mov (.i 0)) .done) (.block 0 (.loop (.seq (.g (.o 0 29 (.mov (.t 5)) (.o 1 30 (.fad (.t 2) 2) (.o 2 31 (.load none (.t 30)) (.o 3 32 (.len (.t 31)) (.o 4 33 (.bin .lss (.t 29) (.t 32)) .done))))) (.cond (.t 33) .skip (.exit 0))) (.seq (.block 1 (.seq (.reg true (.op 0 [] (some 36) none true (.fad (.t 2) 2) (.op 1 [] (some 37) none true (.load none (.t 36)) (.op 2 [] (some 38) none true (.mov (.t 5)) (.op 3 [] (some 39) none true (.iad 7 (.t 37) (.t 38)) (.op 4 [] (some 40) none true (.load (some 7) (.t 39)) (.op 5 [] (some 41) none true (.fad (.t 3) 2) (.op 6 [] (some 42) none true (.load none (.t 41)) (.op 7 [] (some 43) none true (.mov (.t 5)) (.op 8 [] (some 44) none true (.iad 7 (.t 42) (.t 43)) (.op 9 [] (some 45) none true (.load (some 7) (.t 44)) (.alt (.o 10 6 (.alloc 6 [(.n 1), (.i 0), (.i 0), (.n 7), (.i 0), (.i 0), (.i 0)]) (.o 11 7 (.alloc 7 [(.n 1), (.i 0), (.i 0), (.n 7), (.i 0), (.i 0), (.i 0)]) (.op 12 [4, 1] none none false (.store (some 7) (.t 6) (.t 40)) (.op 13 [9, 6, 4, 1] none none false (.store (some 7) (.t 7) (.t 45)) .done)))) (.o 11 7 (.alloc 7 [(.n 1), (.i 0), (.i 0), (.n 7), (.i 0), (.i 0), (.i 0)]) (.o 10 6 (.alloc 6 [(.n 1), (.i 0), (.i 0), (.n 7), (.i 0), (.i 0), (.i 0)]) (.op 12 [4, 1] none none false (.store (some 7) (.t 6) (.t 40)) (.op 13 [9, 6, 4, 1] none none false (.store (some 7) (.t 7) (.t 45)) .done)))))))))))))))) (.g (.o 0 46 (.fad (.t 6) 0) (.o 1 47 (.load (some 1) (.t 46)) (.o 2 48 (.fad (.t 7) 0) (.o 3 49 (.load (some 1) (.t 48)) (.o 4 50 (.call 50 108 [(.t 47), (.t 49)]) (.o 5 51 (.un .not (.t 50)) (.o 6 52 (.mov (.t 51)) (.op 7 [] (some 53) (some (52, false)) false (.fad (.t 6) 1) (.op 8 [] (some 54) (some (52, false)) false (.load none (.t 53)) (.op 9 [] (some 55) (some (52, false)) false (.fad (.t 7) 1) (.op 10 [] (some 56) (some (52, false)) false (.load none (.t 55)) (.op 11 [] (some 57) (some (52, false)) false (.bin .neq (.t 54) (.t 56)) (.o 12 58 (.pick (.t 52) (.v (.bool true)) (.t 57)) (.o 13 59 (.mov (.t 58)) (.op 14 [] (some 60) (some (59, false)) false (.fad (.t 6) 2) (.op 15 [] (some 61) (some (59, false)) false (.load none (.t 60)) (.op 16 [] (some 62) (some (59, false)) false (.fad (.t 7) 2) (.op 17 [] (some 63) (some (59, false)) false (.load none (.t 62)) (.op 18 [] (some 64) (some (59, false)) false (.bin .neq (.t 61) (.t 63)) (.o 19 65 (.pick (.t 59) (.v (.bool true)) (.t 64)) (.o 20 66 (.mov (.t 65)) (.op 21 [] (some 67) (some (66, false)) false (.fad (.t 6) 3) (.op 22 [] (some 68) (some (66, false)) false (.load none (.t 67)) (.op 23 [] (some 69) (some (66, false)) false (.fad (.t 7) 3) (.op 24 [] (some 70) (some (66, false)) false (.load none (.t 69)) (.op 25 [] (some 71) (some (66, false)) false (.call 71 39 [(.t 68), (.t 70)]) (.op 26 [] (some 72) (some (66, false)) false (.un .not (.t 71)) (.o 27 73 (.pick (.t 66) (.v (.bool true)) (.t 72)) (.o 28 74 (.mov (.t 73)) (.op 29 [] (some 75) (some (74, false)) false (.fad (.t 6) 4) (.op 30 [] (some 76) (some (74, false)) false (.load none (.t 75)) (.op 31 [] (some 77) (some (74, false)) false (.fad (.t 7) 4) (.op 32 [] (some 78) (some (74, false)) false (.load none (.t 77)) (.op 33 [] (some 79) (some (74, false)) false (.bin .neq (.t 76) (.t 78)) (.o 34 80 (.pick (.t 74) (.v (.bool true)) (.t 79)) (.o 35 81 (.mov (.t 80)) (.op 36 [] (some 82) (some (81, false)) false (.fad (.t 6) 5) (.op 37 [] (some 83) (some (81, false)) false (.load none (.t 82)) (.op 38 [] (some 84) (some (81, false)) false (.fad (.t 7) 5) (.op 39 [] (some 85) (some (81, false)) false (.load none (.t 84)) (.op 40 [] (some 86) (some (81, false)) false (.bin .neq (.t 83) (.t 85)) (.o 41 87 (.pick (.t 81) (.v (.bool true)) (.t 86)) (.o 42 88 (.mov (.t 87)) (.op 43 [] (some 89) (some (88, false)) false (.fad (.t 6) 6) (.op 44 [] (some 90) (some (88, false)) false (.load none (.t 89)) (.op 45 [] (some 91) (some (88, false)) false (.fad (.t 7) 6) (.op 46 [] (some 92) (some (88, false)) false (.load none (.t 91)) (.op 47 [] (some 93) (some (88, false)) false (.bin .neq (.t 90) (.t 92)) (.o 48 94 (.pick (.t 88) (.v (.bool true)) (.t 93)) .done))))))))))))))))))))))))))))))))))))))))))))))))) (.cond (.t 94) (.g (.o 0 4 (.mov (.v (.bool false))) .done) .ret) .skip)))) (.reg false (.o 0 34 (.mov (.t 5)) (.o 1 35 (.bin .add (.t 34) (.i 1)) (.o 2 5 (.mov (.t 35)) .done))))))))) (.g (.o 0 4 (.mov (.v (.bool true))) .done) .ret))))
theorem dg_laws_sameCache : Tryz.f53.body.bind (digC Tryz.prog Tryz.f53.ntmps []) = some c_laws_sameCache := by kernel_rfl
theorem rs_laws_sameCache : resSlots Tryz.prog Tryz.f53 = some [.s 4] := by kernel_rfl
theorem ok_laws_sameCache (c : Cache) (hs : SmallSs c.slots) (hR : ∀ s ∈ c.slots, sameRs s.rrs s.rrs = true) :
    FnOK Tryz.prog 53 [.agg (c.cells.map .d), .agg (c.cells.map .d)] (fun ra _ => ra = [.one (.d (.sc (.bool true)))]) := by
  refine FnOK.ofK Tryz.func53 (by kernel_rfl) dg_laws_sameCache rs_laws_sameCache rfl rfl ?_
  delta c_laws_sameCache T.o X.i C.g
  have hl := hs.len
  refine Kbc (kBox Y Y Y Y Y (kBox Y Y Y Y Y (Ka Y (Kdb (Kbc (Kf Y Y (Ke Y Y Y (Kf Y Y (Ke Y Y Y (Kj Y Y Y (kMem [(12288, ⟨1, 0, .box [.d _, .d _, .d _]⟩), (16384, ⟨1, 0, .box [.d _, .d _, .d _]⟩)] ((12, .c (.d _)) :: (2, .c (.ptr 12288 1 0)) :: (14, .c (.un)) :: (3, .c (.ptr 16384 1 0)) :: (16, .c (.un)) :: (15, .c (.un)) :: (17, .c (.un)) :: (13, .c (.un)) :: (18, .c (.un)) :: (19, .c (.un)) :: (21, .c (.un)) :: (22, .c (.un)) :: (24, .c (.un)) :: (25, .c (.un)) :: (23, .c (.un)) :: (26, .c (.un)) :: (20, .c (.un)) :: (27, .c (.un)) :: []) [] ⟨Y, Y, trivial⟩ ⟨Y, Y, Y, Y, Y, Y, Y, Y, Y, Y, Y, Y, Y, Y, Y, Y, Y, Y, trivial⟩ Y (Ka Y (kGIN Y (fun g0 => om) (fun g0 => Ki Y (Kf Y Y (Ki Y (Ke Y Y Y (Ki Y (Kf Y Y (Ki Y (Ke Y Y Y (Ki Y (Kj Y Y Y (Kl Y (Ka Y (Ka Y (kGIN Y (fun g1 => om) (fun g1 => kMem [(12288, ⟨1, 0, .box [.d _, .d _, .d _]⟩), (16384, ⟨1, 0, .box [.d _, .d _, .d _]⟩)] [(2, .c (.ptr 12288 1 0)), (21, .c (.un)), (22, .c (.un)), (3, .c (.ptr 16384 1 0)), (24, .c (.un)), (25, .c (.un)), (23, .c (.un)), (26, .c (.un)), (20, .c (.d _)), (27, .c (.un))] [] ⟨Y, Y, trivial⟩ ⟨Y, Y, Y, Y, Y, Y, Y, Y, Y, Y, trivial⟩ Y (Ki Y (Kf Y Y (Ki Y (Ke Y Y Y (Ki Y (Kq Y Y (Ki Y (Kf Y Y (Ki Y (Ke Y Y Y (Ki Y (Kq Y Y (Ki Y (Kj Y Y Y (Kl Y (Ka Y (Kd (kCondIN Y (fun g2 => om) (fun g2 => Kn (Kb (Kbc (Ka Y (Kd (Kt ?_))))))))))))))))))))))))))))))))))))))))))))))))))))
  refine kLoop (α := { i : Nat // i ≤ c.slots.length }) (fun y => ⟨tabSl [(2, .c (.ptr (rid 2 0) 1 0)), (3, .c (.ptr (rid 3 0) 1 0)), (5, .i y.1)], obTab 1 [(rid 2 0, ⟨1, 0, .box (c.cells.map .d)⟩), (rid 3 0, ⟨1, 0, .box (c.cells.map .d)⟩)], []⟩) (fun y => c.slots.length - y.1) ⟨0, Nat.zero_le _⟩ .normA ?_
  rintro ⟨i, hi⟩
  simp only
  rcases Nat.lt_or_ge i c.slots.length with hlt | hge
  · have hm := hs.mem _ (List.getElem_mem hlt)
    have hn1 := hm.n
    have hr1 := hm.r
    have hq := hR _ (List.getElem_mem hlt)
    have hstopr := trivial
    refine Kb (Kbc (Ka Y (Kf Y Y (Ke Y Y Y (Kq Y Y (Kj Y Y Y (Kd (Km Y (fun g0 => Kn (Kb (Kt (Kb ?_)))) (fun g0 => om)))))))))
    clear hstopr
    refine kCut ⟨tabSl [(2, .c (.ptr (rid 2 0) 1 0)), (3, .c (.ptr (rid 3 0) 1 0)), (5, .i i), (6, .c (.ptr (rid 6 0) 1 0)), (7, .c (.ptr (rid 7 0) 1 0))], obTab 1 [(rid 2 0, ⟨1, 0, .box (c.cells.map .d)⟩), (rid 3 0, ⟨1, 0, .box (c.cells.map .d)⟩), (rid 6 0, ⟨1, 0, .box (c.slots[i].cells.map .d)⟩), (rid 7 0, ⟨1, 0, .box (c.slots[i].cells.map .d)⟩)], []⟩ ?_ (fun x hc => ?_)
    case refine_2 => refine kRegD (kFadP rfl rfl (kLoadP rfl rfl rfl (kMovC rfl (kIadR rfl rfl rfl prl (kLoadD rfl rfl (kMem [(16384, ⟨1, 0, .box [.d _, .d _, .d _]⟩)] [(3, .c (.ptr 16384 1 0)), (5, .c (.d _)), (40, .g [.d _, .d _, .d _, .d _, .d _, .d _, .d _])] [12288] ⟨rfl, trivial⟩ ⟨rfl, rfl, rfl, trivial⟩ rfl (kFadP rfl rfl (kLoadP rfl rfl rfl (kMovC rfl (kIadR rfl rfl rfl prl (kLoadD rfl rfl (kAlt (kAlloc rfl rfl (kAlloc rfl rfl (kMem [(28672, ⟨2, 0, .box [.nil 1, .d _, .d _, .nil 7, .d _, .d _, .d _]⟩), (32768, ⟨2, 0, .box [.nil 1, .d _, .d _, .nil 7, .d _, .d _, .d _]⟩)] [(6, .c (.ptr 28672 2 0)), (40, .g [.d _, .d _, .d _, .d _, .d _, .d _, .d _]), (7, .c (.ptr 32768 2 0)), (45, .g [.d _, .d _, .d _, .d _, .d _, .d _, .d _])] [16384, 12288] ⟨rfl, rfl, trivial⟩ ⟨rfl, rfl, rfl, rfl, trivial⟩ rfl (kRelK rfl rfl (kStoreP rfl rfl rfl rfl (kMem [(32768, ⟨2, 0, .box [.nil 1, .d _, .d _, .nil 7, .d _, .d _, .d _]⟩)] [(7, .c (.ptr 32768 2 0)), (45, .g [.d _, .d _, .d _, .d _, .d _, .d _, .d _])] [16384, 12288] ⟨rfl, trivial⟩ ⟨rfl, rfl, trivial⟩ rfl (kRelF rfl rfl (kStoreP rfl rfl rfl rfl (kDone (kH (kMem [(12288, ⟨1, 0, .box [.d _, .d _, .d _]⟩), (16384, ⟨1, 0, .box [.d _, .d _, .d _]⟩), (28672, ⟨2, 0, .box [.d _, .d _, .d _, .d _, .d _, .d _, .d _]⟩), (32768, ⟨2, 0, .box [.d _, .d _, .d _, .d _, .d _, .d _, .d _]⟩)] [(2, .c (.ptr 12288 1 0)), (3, .c (.ptr 16384 1 0)), (5, .c (.d _)), (6, .c (.ptr 28672 2 0)), (7, .c (.ptr 32768 2 0))] [] ⟨rfl, rfl, rfl, rfl, trivial⟩ ⟨rfl, rfl, rfl, rfl, rfl, trivial⟩ rfl (hc _ .normA)))))))))))) (kAlloc rfl rfl (kAlloc rfl rfl (kMem [(28672, ⟨2, 0, .box [.nil 1, .d _, .d _, .nil 7, .d _, .d _, .d _]⟩), (32768, ⟨2, 0, .box [.nil 1, .d _, .d _, .nil 7, .d _, .d _, .d _]⟩)] [(6, .c (.ptr 28672 2 0)), (40, .g [.d _, .d _, .d _, .d _, .d _, .d _, .d _]), (7, .c (.ptr 32768 2 0)), (45, .g [.d _, .d _, .d _, .d _, .d _, .d _, .d _])] [16384, 12288] ⟨rfl, rfl, trivial⟩ ⟨rfl, rfl, rfl, rfl, trivial⟩ rfl (kRelK rfl rfl (kStoreP rfl rfl rfl rfl (kMem [(32768, ⟨2, 0, .box [.nil 1, .d _, .d _, .nil 7, .d _, .d _, .d _]⟩)] [(7, .c (.ptr 32768 2 0)), (45, .g [.d _, .d _, .d _, .d _, .d _, .d _, .d _])] [16384, 12288] ⟨rfl, trivial⟩ ⟨rfl, rfl, trivial⟩ rfl (kRelF rfl rfl (kStoreP rfl rfl rfl rfl (kDone (kH (kMem [(12288, ⟨1, 0, .box [.d _, .d _, .d _]⟩), (16384, ⟨1, 0, .box [.d _, .d _, .d _]⟩), (28672, ⟨2, 0, .box [.d _, .d _, .d _, .d _, .d _, .d _, .d _]⟩), (32768, ⟨2, 0, .box [.d _, .d _, .d _, .d _, .d _, .d _, .d _]⟩)] [(2, .c (.ptr 12288 1 0)), (3, .c (.ptr 16384 1 0)), (5, .c (.d _)), (6, .c (.ptr 28672 2 0)), (7, .c (.ptr 32768 2 0))] [] ⟨rfl, rfl, rfl, rfl, trivial⟩ ⟨rfl, rfl, rfl, rfl, rfl, trivial⟩ rfl (hc _ .normA))))))))))))))))))))))))
    refine Kbc (Kf Y Y (Ke Y Y Y (Kf Y Y (Ke Y Y Y (Kp (ok_laws_sameName _ _ prx prx) ⟨⟨⟨Y, trivial⟩, leb⟩, ⟨⟨Y, trivial⟩, leb⟩, trivial⟩ Y Y Y Y Y (Kw Y Y (Ka Y (kGN Y (fun g0 => (by (simp at g0))) (fun g0 => Ki Y (Kf Y Y (Ki Y (Ke Y Y Y (kMem [(32768, ⟨1, 0, .box [.d _, .d _, .d _, .d _, .d _, .d _, .d _]⟩), (28672, ⟨1, 0, .box [.d _, .d _, .d _, .d _, .d _, .d _, .d _]⟩)] [(7, .c (.ptr 32768 1 0)), (54, .c (.d _)), (52, .c (.d _)), (6, .c (.ptr 28672 1 0))] [] ⟨Y, Y, trivial⟩ ⟨Y, Y, Y, Y, trivial⟩ Y (Ki Y (Kf Y Y (Ki Y (Ke Y Y Y (Ki Y (Kj Y Y Y (Kl Y (Ka Y (Ka Y (kGIN Y (fun g1 => om) (fun g1 => Ki Y (Kf Y Y (Ki Y (Ke Y Y Y (Ki Y (Kf Y Y (Ki Y (Ke Y Y Y (kMem [(28672, ⟨1, 0, .box [.d _, .d _, .d _, .d _, .d _, .d _, .d _]⟩), (32768, ⟨1, 0, .box [.d _, .d _, .d _, .d _, .d _, .d _, .d _]⟩)] [(61, .c (.d _)), (63, .c (.d _)), (59, .c (.d _)), (6, .c (.ptr 28672 1 0)), (7, .c (.ptr 32768 1 0))] [] ⟨Y, Y, trivial⟩ ⟨Y, Y, Y, Y, Y, trivial⟩ Y (Ki Y (Kj Y Y Y (Kl Y (Ka Y (Ka Y (kGIN Y (fun g2 => om) (fun g2 => Ki Y (Kf Y Y (Ki Y (Ke Y Y Y (Ki Y (Kf Y Y (Ki Y (Ke Y Y Y (Ki Y (Kp (ok_laws_sameRrs _ _ prx prx) ⟨Y, Y, trivial⟩ Y Y Y Y Y (Ki Y (Kw Y Y (kMem [(28672, ⟨1, 0, .box [.d _, .d _, .d _, .d _, .d _, .d _, .d _]⟩), (32768, ⟨1, 0, .box [.d _, .d _, .d _, .d _, .d _, .d _, .d _]⟩)] [(66, .c (.d _)), (72, .c (.d _)), (6, .c (.ptr 28672 1 0)), (7, .c (.ptr 32768 1 0))] [] ⟨Y, Y, trivial⟩ ⟨Y, Y, Y, Y, trivial⟩ Y (Kl Y (Ka Y (Ka Y (kGN Y (fun g3 => (by (simp [*] at g3))) (fun g3 => Ki Y (Kf Y Y (Ki Y (Ke Y Y Y (Ki Y (Kf Y Y (Ki Y (Ke Y Y Y (Ki Y (Kj Y Y Y (Kl Y (Ka Y (Ka Y (kMem [(28672, ⟨1, 0, .box [.d _, .d _, .d _, .d _, .d _, .d _, .d _]⟩), (32768, ⟨1, 0, .box [.d _, .d _, .d _, .d _, .d _, .d _, .d _]⟩)] [(6, .c (.ptr 28672 1 0)), (7, .c (.ptr 32768 1 0)), (81, .c (.d _))] [] ⟨Y, Y, trivial⟩ ⟨Y, Y, Y, trivial⟩ Y (kGIN Y (fun g4 => om) (fun g4 => Ki Y (Kf Y Y (Ki Y (Ke Y Y Y (Ki Y (Kf Y Y (Ki Y (Ke Y Y Y (Ki Y (Kj Y Y Y (Kl Y (Ka Y (Ka Y (kGIN Y (fun g5 => om) (fun g5 => Ki Y (Kf Y Y (kMem [(28672, ⟨1, 0, .box [.d _, .d _, .d _, .d _, .d _, .d _, .d _]⟩), (32768, ⟨1, 0, .box [.d _, .d _, .d _, .d _, .d _, .d _, .d _]⟩)] [(89, .c (.ptr 28672 1 6)), (7, .c (.ptr 32768 1 0)), (88, .c (.d _))] [] ⟨Y, Y, trivial⟩ ⟨Y, Y, Y, trivial⟩ Y (Ki Y (Ke Y Y Y (Ki Y (Kf Y Y (Ki Y (Ke Y Y Y (Ki Y (Kj Y Y Y (Kl Y (Ka Y (Kd (kCondIN Y (fun g6 => om) (fun g6 => Kn (Kv (Kc (Ka Y (kAdd Y Y om (Ka Y (Kd ?_))))))))))))))))))))))))))))))))))))))))))))))))))))))))))))))))))))))))))))))))))))))))))))))))))))))))))
    all_goals first | exact kInv ⟨⟨i + 1, by omega⟩, by simp only; omega, .normA⟩ | (exfalso; simp_all; done) | trace "GOALX"
  · refine Kb (Kbc (Ka Y (Kf Y Y (Ke Y Y Y (Kq Y Y (Kj Y Y Y (Kd (Km Y (fun g0 => om) (fun g0 => kExit (kExC (kExI (kExB (Kbc (Ka Y (Kd (Kr (Er (ra := [.one (.d _)]) rfl rfl)))))))))))))))))

set_option maxRecDepth 1000000 in
theorem slot_delete_walk (w : World) (b cap n i j : Nat) (cur : Array Value) (e : TypeId) (news : List Value) (hb : w.heap[b]? = some (.cells cur e (0, 0))) (hcap : n ≤ cap) (hm : cap ≤ 9223372036854775807) (hcur : cur.size = cap * 7)
    (hlt : i < j) (hj : j ≤ n) (hnl : news.length = (n - j) * 7) (hng : ∀ t, t < news.length → cur[j * 7 + t]? = news[t]?) (hn1 : ∀ u ∈ news, u.oneCell' = true) :
    Calls Tryz.prog 296 #[.slice (some ⟨b, 0, none⟩) n cap, .int .i64 i, .int .i64 j] w fun e w' => e = .returned (.slice (some ⟨b, 0, none⟩) (i + (n - j)) cap) ∧ ∃ zs : List Value, zs.length = (j - i) * 7 ∧ w' = (w.drew.setCells b (i * 7) news).setCells b ((i + (n - j)) * 7) zs := by
  have hs : (Tryz.prog.info? 100).map (fun i => i.size) = some 7 := by kernel_rfl
  obtain ⟨i0, hi0⟩ : ∃ i0, Tryz.prog.info? 100 = some i0 := by
    cases h : Tryz.prog.info? 100 with
    | none => rw [h] at hs; cases hs
    | some i => exact ⟨i, rfl⟩
  rw [hi0] at hs
  have hz1 : i0.size = 7 := by simpa using hs
  have t1 : Tryz.prog.underlying 47 = some (.slice 100) := by kernel_rfl
  obtain ⟨A, hA, hsrc⟩ : ∃ A : Addr, (if cap = j then some (⟨b, 0, none⟩ : Addr) else some ⟨b, j * 7, none⟩) = some A ∧ Go.RowKit.Hid (∀ t u, news[t]? = some u → w.drew.cell? (A.add t) = some u) := by
    by_cases h : cap = j
    · refine ⟨⟨b, 0, none⟩, by simp [h], fun t u hu => ?_⟩
      have h0 : news.length = 0 := by rw [hnl]; omega
      rw [List.length_eq_zero_iff.1 h0] at hu
      simp at hu
    · refine ⟨⟨b, j * 7, none⟩, by simp [h], fun t u hu => ?_⟩
      have ht : t < news.length := (List.getElem?_eq_some_iff.1 hu).1
      rw [Addr.add_lit]
      show w.cell? _ = _
      simp only [World.cell?, hb]
      rw [hng t ht]; exact hu
  have s1 : Go.RowKit.Hid (news.length = (n - j) * 7) := hnl
  have s2 : Go.RowKit.Hid (∀ u ∈ news, u.oneCell' = true) := hn1
  have s3 : Go.RowKit.Hid (∀ t, t < news.length → (w.drew.cell? ⟨b, 0 + i * 7 + t, none⟩).isSome = true ∧ w.drew.frozen? ⟨b, 0 + i * 7 + t, none⟩ = false) := by
    intro t ht
    rw [hnl] at ht
    have hlt' : i * 7 + t < cur.size := by rw [hcur]; omega
    refine ⟨?_, ?_⟩
    · show (w.cell? _).isSome = true
      simp only [World.cell?, hb, Nat.zero_add]
      simp [Array.getElem?_eq_getElem hlt']
    · show w.frozen? _ = false
      simp [World.frozen?, hb]
  obtain ⟨W1, hW1⟩ : ∃ W1, W1 = w.drew.setCells b (0 + i * 7) news := ⟨_, rfl⟩
  have hW : Go.RowKit.Hid (W1 = w.drew.setCells b (0 + i * 7) news) := hW1
  have hic : i ≤ cap := by omega
  have hjc : j ≤ cap := by omega
  have hij : i ≤ j := by omega
  obtain ⟨z, hz, hzs, hzo⟩ : ∃ z : Value, (∀ w, (zeroValue 100).run Tryz.prog w = .ok z w) ∧ z.cells.size = 7 ∧ ∀ v ∈ z.cells, v.oneCell' = true := ⟨_, Tryz.zeroValue100, rfl, by decide⟩
  have hzn : (Builtin.zeroCells z.cells (n - (i + (n - j)))).size = (j - i) * 7 := by
    rw [size_zeroCells, hzs]; congr 1; omega
  have hcell : ∀ t, t < n * 7 → (W1.cell? ⟨b, t, none⟩).isSome = true ∧ W1.frozen? ⟨b, t, none⟩ = false := by
    intro t ht
    have hlt' : i * 7 + news.length ≤ cur.size := by rw [hcur, hnl]; omega
    obtain ⟨cur', k1, k2, -, -⟩ := setCells_block b news (0 + i * 7) w.drew cur hb (by omega)
    rw [← hW1] at k1
    have hlt2 : t < cur'.size := by rw [k2, hcur]; omega
    refine ⟨?_, ?_⟩
    · simp only [World.cell?, k1]
      simp [Array.getElem?_eq_getElem hlt2]
    · simp [World.frozen?, k1]
  have hcl0 : ∀ ty, (Builtin.clear_ #[47] ty #[.slice (some ⟨b, (i + (n - j)) * 7, none⟩) (n - (i + (n - j))) (cap - (i + (n - j)))]).run Tryz.prog W1 = .ok (.tuple #[]) (W1.setCells b ((i + (n - j)) * 7) (Builtin.zeroCells z.cells (n - (i + (n - j)))).toList) := by
    intro ty
    refine run_clear_rows W1 _ _ ty z t1 hz hzo b _ _ _ (by omega) (fun t ht => (hcell _ ?_).1) (fun t ht => (hcell _ ?_).2) ?_
    · rw [hzn] at ht; omega
    · rw [hzn] at ht; omega
    · intro v hv
      simp only [Builtin.zeroCells, Array.toList_map, List.mem_map] at hv
      obtain ⟨t, _, rfl⟩ := hv
      have ht : t % z.cells.size < z.cells.size := Nat.mod_lt _ (by omega)
      rw [getElem!_pos z.cells _ ht]
      exact hzo _ (Array.getElem_mem ht)
  obtain ⟨zs, hcl, hzl⟩ : ∃ zs : List Value, (∀ ty, (Builtin.clear_ #[47] ty #[.slice (some ⟨b, (i + (n - j)) * 7, none⟩) (n - (i + (n - j))) (cap - (i + (n - j)))]).run Tryz.prog W1 = .ok (.tuple #[]) (W1.setCells b ((i + (n - j)) * 7) zs)) ∧ zs.length = (j - i) * 7 := ⟨_, hcl0, by simpa using hzn⟩
  clear hng hn1 hcur hcell hW1 hb hcl0 hzn hzo hzs hz z
  go_enter Tryz.func296, Tryz.ntmps296
  go_wp2_with fail
  go_region_law (refine step_append_room rfl (.tmp 22) (.tmp 25) 47 rfl 100 i0 7 t1 hi0 hz1 b 0 i cap (by simp [Act.eval, Act.put]) A (n - j) (cap - j) news (by simp [Act.eval, Act.put]) s1.out hsrc.out s2.out (by omega) s3.out ?_; rw [← hW.out])
  go_wp2
  go_ret
  refine ⟨rfl, zs, hzl, ?_⟩
  rw [hW.out, Nat.zero_add]
theorem ok_slices_Delete_Limpl_Slot_impl_Slot (xs : List (List DV)) (dp : Bool) (i : Nat) (hi : i < xs.length) :
    FnOK Tryz.prog 296 [.one (.arr true dp (.sl 7 xs)), .one (.d (.sc (.int .i64 i))), .one (.d (.sc (.int .i64 ((i : Int) + 1))))] (fun ra _ => ra = [.one (.own dp (.sl 7 (xs.eraseIdx i)))]) := by
  refine FnOK.ofDelete Tryz.func296 rfl (by kernel_rfl) hi fun w b cap cur e news hb hcap hmax hcur hnl hng hn1 => ?_
  have h := slot_delete_walk w b cap xs.length i (i + 1) cur e news hb hcap (by unfold maxLen at hmax; omega) hcur (by omega) (by omega) hnl hng hn1
  rw [show i + (xs.length - (i + 1)) = xs.length - 1 by omega, show (i + 1 - i) * 7 = 7 by omega] at h
  exact h

theorem ext_grown {w w' : World} {M : Nat → Prop} (h : Ext w w' M) (hM : ∀ b, ¬ M b) : ∃ q os, w' = Go.Sort.grow (w.drewN q) os := by
  obtain ⟨h1, h2, h3, h4, h5, h6⟩ := h
  refine ⟨w'.drawn - w.drawn, w'.heap.extract w.heap.size w'.heap.size, ?_⟩
  have e1 : w'.heap = w.heap ++ w'.heap.extract w.heap.size w'.heap.size := by
    apply Array.ext_getElem?
    intro i
    rw [Array.getElem?_append]
    split
    · rename_i hi
      exact h5 i hi (hM i)
    · rename_i hi
      rw [Array.getElem?_extract]
      by_cases hlt : i < w'.heap.size
      · rw [if_pos (by omega), show w.heap.size + (i - w.heap.size) = i by omega]
      · rw [if_neg (by omega), Array.getElem?_eq_none (by omega)]
  have e2 : w'.drawn = w.drawn + (w'.drawn - w.drawn) := by omega
  obtain ⟨heap, tape, drawn, os, output⟩ := w'
  obtain ⟨heap0, tape0, drawn0, os0, output0⟩ := w
  simp only at e1 e2 h1 h2 h3
  subst h1 h2 h3
  simp only [Go.Sort.grow, World.drewN]
  rw [← e1, ← e2]
section
variable {α : Type} [Inhabited α] {enc : α → List Value} {k : Nat} {w : World} {blk m : Nat} {dk : Array α} {os : Array Obj}
theorem sortWorldK_same {c : Nat} (hc : c < w.heap.size) (hne : c ≠ blk) : (Go.Proofs.sortWorldK enc k w blk 0 m dk os).heap[c]? = w.heap[c]? := by
  unfold Go.Proofs.sortWorldK
  have h : c < (Go.Sort.putRowK enc k (Go.Sort.ahead w m) blk 0 dk).heap.size := by rw [show (Go.Sort.putRowK enc k (Go.Sort.ahead w m) blk 0 dk).heap.size = w.heap.size from by simp [Go.Sort.putRowK]]; exact hc
  rw [Go.Sort.heap_grow_old _ _ h]
  simp only [Go.Sort.putRowK, Go.Sort.putRow, Go.Sort.mapBlock, Go.Sort.heap_ahead, Array.getElem?_modify]
  rw [if_neg (Ne.symm hne)]
theorem sortWorldK_size : w.heap.size ≤ (Go.Proofs.sortWorldK enc k w blk 0 m dk os).heap.size := by
  unfold Go.Proofs.sortWorldK
  rw [Go.Sort.size_grow, show (Go.Sort.putRowK enc k (Go.Sort.ahead w m) blk 0 dk).heap.size = w.heap.size from by simp [Go.Sort.putRowK]]
  exact Nat.le_add_right _ _
theorem sortWorldK_row {cur : Array Value} {e : TypeId} (hb : w.heap[blk]? = some (.cells cur e (0, 0))) : (Go.Proofs.sortWorldK enc k w blk 0 m dk os).heap[blk]? = some (.cells (Go.Sort.putCells id 0 (Go.Sort.flatK enc k dk) cur) e (0, 0)) := by
  unfold Go.Proofs.sortWorldK
  have hlt : blk < w.heap.size := (Array.getElem?_eq_some_iff.1 hb).1
  have h : blk < (Go.Sort.putRowK enc k (Go.Sort.ahead w m) blk 0 dk).heap.size := by rw [show (Go.Sort.putRowK enc k (Go.Sort.ahead w m) blk 0 dk).heap.size = w.heap.size from by simp [Go.Sort.putRowK]]; exact hlt
  rw [Go.Sort.heap_grow_old _ _ h]
  simp only [Go.Sort.putRowK, Go.Sort.putRow, Go.Sort.mapBlock, Go.Sort.heap_ahead, Array.getElem?_modify, if_true, hb, Option.map_some, Go.Sort.onCells]
end
theorem putCells_size {F cur : Array Value} : (Go.Sort.putCells id 0 F cur).size = cur.size := by simp [Go.Sort.putCells]
theorem putCells_at {F cur : Array Value} {t : Nat} (h : t < F.size) (h' : F.size ≤ cur.size) : (Go.Sort.putCells id 0 F cur)[t]? = some F[t]! := by
  simp only [Go.Sort.putCells, Array.getElem?_mapIdx]
  rw [Array.getElem?_eq_getElem (by omega)]
  simp only [Option.map_some]
  rw [if_pos ⟨Nat.zero_le _, by omega⟩]
  simp
theorem sortFunc_ok {P : Program} {ρ : Go.Shelf.Ren} (L : Go.Proofs.SlLaysF0.n6 P ρ) {g : Nat} (he : Hearth.Enters P (ρ.f 6)) (hg : Hearth.Enters P g) {α : Type} (sz : Nat) (enc : α → List DV) (l : List α) (cf : α → α → Int) (dp : Bool)
    (aE : ∀ w, (isAgg (ρ.t 24)).run P w = .ok true w) (zE : ∀ w, (Go.sizeOf (ρ.t 24)).run P w = .ok sz w) (hsz : 0 < sz ∧ sz ≤ 64) (hne : l ≠ []) (hlt : l.length < 4611686018427387904)
    (hO : Go.Sort.SWO (Go.Proofs.ltOf fun i j : Fin l.length => cf l[i] l[j]))
    (hcmp : ∀ x ∈ l, ∀ y ∈ l, FnOK P g [.agg ((enc x).map .d), .agg ((enc y).map .d)] (fun ra _ => ra = [.one (.d (.sc (.int .i64 (cf x y))))])) :
    FnOK P (ρ.f 6) [.one (.arr false dp (.sl sz (l.map enc))), .one (.d (.sc (.func (.func g) #[] #[])))]
      (fun ra os => ∃ l' : List α, (l'.Perm l ∧ ∀ i j (h : i < j) (hj : j < l'.length), ¬ cf l'[j] l'[i] < 0) ∧ ra = [] ∧ os.a 0 = .sl sz (l'.map enc)) := by
  have hpos : 0 < l.length := List.length_pos_iff.2 hne
  haveI : Inhabited (Fin l.length) := ⟨⟨0, hpos⟩⟩
  refine ⟨he, fun w S Fs vs hs hv hdis hFl hS hF => ?_⟩
  have hs2 : vs.size = 2 := hs
  obtain ⟨_, hp0⟩ := (hv 0 _ vs[0] rfl (Array.getElem?_eq_getElem (by omega)))
  have hp1 : vs[1] = .func (.func g) #[] #[] := Pers.scEq (hv 1 _ vs[1] rfl (Array.getElem?_eq_getElem (by omega)))
  have hvs : vs = #[vs[0], .func (.func g) #[] #[]] := by
    apply Array.ext
    · simpa using hs2
    · intro i h1' h2'
      match i with
      | 0 => rfl
      | 1 => exact hp1
      | i + 2 => omega
  rcases hp0 with ⟨h0, _⟩ | ⟨b, cap, cur, e, us, FsN, g1, g2, g3, g4, g5, g6, g7, g8, g9, g10, g11⟩
  · exact absurd (by simpa [DV.rows] using h0) hne
  simp only [DV.rows, DV.esz] at g1 g4 g6 g7 g8 g11
  simp only [List.length_map] at g1 g4
  have hrow : ∀ i (hi : i < l.length), (l.map enc)[i]? = some (enc l[i]) := fun i hi => by simp [hi]
  have hencl : ∀ i (hi : i < l.length), (enc l[i]).length = sz := fun i hi => g7 i _ (hrow i hi)
  have hbw : b < w.heap.size := (hFl _ b g3).1
  -- the elements' cells
  let encV : Fin l.length → List Value := fun i => (List.range sz).map (us i.1)
  have hk : ∀ x, (encV x).length = sz := fun x => by simp [encV]
  have hEnc : ∀ (x : Fin l.length) (j : Nat), j < sz → (encV x)[j]? = some (us x.1 j) := fun x j hj => by simp [encV, hj]
  let d0 : Array (Fin l.length) := Array.ofFn id
  have hd0 : d0.size = l.length := by simp [d0]
  have hd0g : ∀ i (hi : i < l.length), d0[i]! = ⟨i, hi⟩ := fun i hi => by
    rw [getElem!_pos d0 i (by rw [hd0]; exact hi)]; simp [d0]
  have hcellW : ∀ t, t < l.length * sz → t / sz < l.length ∧ cur[t]? = some (us (t / sz) (t % sz)) := by
    intro t ht
    have hi : t / sz < l.length := Nat.div_lt_of_lt_mul (by rw [Nat.mul_comm]; exact ht)
    have hj : t % sz < sz := Nat.mod_lt _ hsz.1
    have := g8 (t / sz) (t % sz) _ ((enc l[t / sz])[t % sz]'(by rw [hencl _ hi]; exact hj)) (hrow _ hi) (List.getElem?_eq_getElem _)
    rw [Nat.div_add_mod' t sz] at this
    exact ⟨hi, this⟩
  have hH : Go.Sort.HoldsK encV sz w b 0 d0 := by
    intro t ht
    rw [Go.Sort.size_flatK, hd0] at ht
    obtain ⟨hi, hc⟩ := hcellW t ht
    have hj : t % sz < sz := Nat.mod_lt _ hsz.1
    refine ⟨?_, ?_⟩
    · rw [Go.Sort.get_flatK _ _ _ _ (by rw [hd0]; exact ht), hd0g _ hi, List.getElem!_of_getElem? (hEnc ⟨t / sz, hi⟩ (t % sz) hj)]
      simp only [World.cell?, g2, Nat.zero_add]
      exact hc
    · simp [World.frozen?, g2]
  have h1 : ∀ x, ∀ v ∈ encV x, v.oneCell' = true := by
    intro x v hv
    simp only [encV, List.mem_map, List.mem_range] at hv
    obtain ⟨j, hj, rfl⟩ := hv
    exact (g11 x.1 j _ _ (hrow x.1 x.2) (List.getElem?_eq_getElem (by rw [hencl x.1 x.2]; exact hj))).one
  have hS' : ∀ c, S c → c < w.heap.size ∧ c ≠ b := fun c hc => ⟨hS c hc, fun e => (hFl _ b g3).2 (e ▸ hc)⟩
  have pers : ∀ (i j : Nat) (hi : i < l.length) (d : DV), (enc l[i])[j]? = some d → ∀ W : World, (∀ c, c < w.heap.size → c ≠ b → W.heap[c]? = w.heap[c]?) → Pers W (fun c => c < w.heap.size ∧ c ≠ b) d (us i j) := by
    intro i j hi d hd W hW
    have := (g11 i j _ d (hrow i hi) hd).toPers (S' := fun c => c < w.heap.size ∧ c ≠ b) hS' (fun c hc => ⟨(hFl _ c (g9 i j c hc).1).1, (g9 i j c hc).2⟩)
    exact this.mono fun c hc => ⟨hW c hc.1 hc.2, hc⟩
  have hC : Go.Proofs.CmpLays P g #[] encV sz (fun i j => cf l[i] l[j]) b 0 d0.size w := by
    intro m os dk hdk x y
    generalize hW : Go.Proofs.sortWorldK encV sz w b 0 m dk os = W
    have hWs : ∀ c, c < w.heap.size → c ≠ b → W.heap[c]? = w.heap[c]? := fun c h1 h2 => by rw [← hW]; exact sortWorldK_same h1 h2
    have hWz : w.heap.size ≤ W.heap.size := by rw [← hW]; exact sortWorldK_size
    have one : ∀ (x : Fin l.length) (Fs' : Nat → Nat → Prop) (t : Nat), GAr P W (fun c => c < w.heap.size ∧ c ≠ b) (fun b => b < W.heap.size ∧ ∀ q, ¬ (fun _ _ => False : Nat → Nat → Prop) q b) t Fs' (.agg ((enc l[x]).map .d)) (.agg (encV x).toArray) := by
      intro x Fs' t
      refine ⟨_, rfl, by simp [hk, hencl x.1 x.2], by simp [hencl x.1 x.2]; exact hsz.2, fun k p u hp hu => ?_⟩
      simp only [List.getElem?_map, Option.map_eq_some_iff] at hp
      obtain ⟨d, hd, rfl⟩ := hp
      have hks : k < sz := by rw [← hencl x.1 x.2]; exact (List.getElem?_eq_some_iff.1 hd).1
      have : u = us x.1 k := by
        have h2 := hEnc x k hks
        simp only [List.getElem?_toArray] at hu
        rw [h2] at hu; simpa using hu.symm
      rw [this]
      exact pers x.1 k x.2 d hd W hWs
    have key := (hcmp l[x] (List.getElem_mem x.2) l[y] (List.getElem_mem y.2)).2 W (fun c => c < w.heap.size ∧ c ≠ b) (fun _ _ => False) #[.agg (encV x).toArray, .agg (encV y).toArray] rfl (fun t ga v h1 h2 => by
        match t with
        | 0 => simp at h1 h2; subst h1; subst h2; exact one x _ _
        | 1 => simp at h1 h2; subst h1; subst h2; exact one y _ _
        | t + 2 => simp at h1) (fun _ _ _ h => h.elim) (fun _ _ h => h.elim) (fun c hc => Nat.lt_of_lt_of_le hc.1 hWz) (fun _ _ h => h.elim)
    rw [Array.append_empty]
    refine key.mono ?_
    rintro e w' ⟨v, ra, os', G, rfl, rfl, hx, hf, ⟨rs, rfl, hr1, hr2⟩, _⟩
    have hr1' : rs.size = 1 := hr1
    rw [dif_pos hr1']
    have := Pers.scEq (hr2 0 _ rs[0] rfl (Array.getElem?_eq_getElem (by omega)))
    exact ⟨by rw [this], ext_grown hx (by rintro c ⟨q, h⟩; exact h)⟩
  have eg : ∀ args w, (callFunc g args).run P w = .ok (.enter g args) w := fun args w => Hearth.run_callFunc hg args
  have main := Go.Proofs.AnyQ.slices_SortFunc L sz aE zE encV hk h1 (fun i j => cf l[i] l[j]) hO g #[] b 0 cap d0 w eg hC hH hbw (by rw [hd0]; exact hlt)
  have hvs' : vs = #[.slice (some ⟨b, 0, none⟩) d0.size cap, .func (.func g) #[] #[]] := hvs.trans (by rw [g1, hd0])
  have main2 : Calls P (ρ.f 6) vs w fun e w' => e = .returned (.tuple #[]) ∧ ∃ d' n os, Go.Sort.PermIn 0 d0.size d0 d' ∧ Go.Sort.SortedIn (Go.Proofs.ltOf fun i j : Fin l.length => cf l[i] l[j]) 0 d0.size d' ∧ w' = Go.Proofs.sortWorldK encV sz w b 0 n d' os := by
    rw [hvs']; exact main
  refine main2.mono ?_
  clear main main2 hC hH
  rintro e w' ⟨rfl, d', n, os, ⟨p1, _, p3⟩, hsorted, rfl⟩
  have hn : d'.size = l.length := p1.trans hd0
  have p4 : d'.toList.Perm d0.toList := by
    have a1 : d'.extract 0 d0.size = d' := by rw [← p1]; simp
    have a2 : d0.extract 0 d0.size = d0 := by simp
    rwa [a1, a2] at p3
  have hget : ∀ i (hi : i < l.length), d'[i]! = d'[i]'(by rw [hn]; exact hi) := fun i hi => getElem!_pos d' i (by rw [hn]; exact hi)
  have hnd : d'.toList.Nodup := by
    refine p4.nodup_iff.2 ?_
    rw [List.nodup_iff_pairwise_ne, List.pairwise_iff_getElem]
    intro i j hi hj hij e
    simp [d0] at e
    omega
  have hinj : ∀ i i', i < l.length → i' < l.length → (d'[i]!).1 = (d'[i']!).1 → i = i' := by
    intro i i' hi hi' e
    rw [hget i hi, hget i' hi'] at e
    have e2 : d'.toList[i]'(by simpa [hn] using hi) = d'.toList[i']'(by simpa [hn] using hi') := by
      simp only [Array.getElem_toList]
      exact Fin.ext e
    rcases Nat.lt_trichotomy i i' with h | h | h
    · exact absurd e2 (List.pairwise_iff_getElem.1 hnd i i' _ _ h)
    · exact h
    · exact absurd e2.symm (List.pairwise_iff_getElem.1 hnd i' i _ _ h)
  let l' : List α := d'.toList.map fun i => l[i]
  have hl' : l'.length = l.length := by simp [l', hn]
  have hl'g : ∀ i (hi : i < l.length), l'[i]'(by rw [hl']; exact hi) = l[(d'[i]!).1] := by
    intro i hi
    simp only [l', List.getElem_map, Array.getElem_toList, hget i hi]
    rfl
  have hperm : l'.Perm l := by
    have h2 : (d0.toList.map fun i => l[i]) = l := by
      apply List.ext_getElem
      · simp [hd0]
      · intro i h1 h2
        simp [d0]
    have h3 := p4.map fun i : Fin l.length => l[i]
    rwa [h2] at h3
  refine ⟨.tuple #[], [], ⟨fun _ => .sl sz (l'.map enc), fun _ => []⟩, fun _ _ => False, rfl, ⟨l', ⟨hperm, fun i j h hj => ?_⟩, rfl, rfl⟩, ⟨rfl, rfl, rfl, sortWorldK_size, fun c hc hM => sortWorldK_same hc fun e => hM ⟨_, e ▸ g3⟩, Nat.le_add_right _ _⟩,
    ⟨fun _ _ _ h => h.elim, fun _ _ h => h.elim, fun _ _ h => h.elim⟩, ⟨#[], rfl, rfl, fun t a u h => by simp at h⟩, fun t k ga v p u hga hvt hp hu => ?_⟩
  · have hj' : j < l.length := hl' ▸ hj
    have := hsorted i j (Nat.zero_le _) h (by rw [hd0]; exact hj')
    simp only [Go.Proofs.ltOf, decide_eq_false_iff_not] at this
    rw [hl'g j hj', hl'g i (by omega)]
    exact this
  · match t with
    | 1 =>
      simp at hga; subst hga
      simp only [GA.at] at hp
      split at hp
      · simp at hp; subst hp; trivial
      · simp at hp
    | t + 2 => simp at hga
    | 0 =>
      simp at hga; subst hga
      simp only [GA.at] at hp
      split at hp
      · rename_i hk0
        subst hk0
        simp at hp; subst hp
        simp only at hu ⊢
        rw [hu]
        have hv0 : v = .slice (some ⟨b, 0, none⟩) l.length cap := by
          rw [Array.getElem?_eq_getElem (by omega)] at hvt
          simp at hvt
          rw [← hvt, g1]
        have hrow' : ∀ (i : Nat) (cs : List DV), (l'.map enc)[i]? = some cs → ∃ hi : i < l.length, cs = enc l[(d'[i]!).1] := by
          intro i cs h
          have hi : i < l.length := by
            have := (List.getElem?_eq_some_iff.1 h).1
            simpa [hl'] using this
          refine ⟨hi, ?_⟩
          rw [List.getElem?_map, List.getElem?_eq_getElem (by rw [hl']; exact hi), hl'g i hi] at h
          simpa using h.symm
        refine ⟨rfl, rfl, .inr ⟨b, cap, Go.Sort.putCells id 0 (Go.Sort.flatK encV sz d') cur, e, fun i j => us (d'[i]!).1 j, fun i j c => i < l.length ∧ FsN (d'[i]!).1 j c, by rw [hv0]; simp [DV.rows, hl'], sortWorldK_row g2, g3, by simpa [DV.rows, hl'] using g4, g5, by rw [putCells_size]; exact g6, ?_, ?_, fun i j c hc => g9 _ j c hc.2, ?_, ?_⟩⟩
        · intro i cs hcs
          obtain ⟨hi, rfl⟩ := hrow' i cs hcs
          exact hencl _ _
        · intro i j cs d hcs hd
          obtain ⟨hi, rfl⟩ := hrow' i cs hcs
          have hj : j < sz := by rw [← hencl (d'[i]!).1 (d'[i]!).2]; exact (List.getElem?_eq_some_iff.1 hd).1
          have ht : i * sz + j < d'.size * sz := by
            rw [hn]
            have := Nat.mul_le_mul_right sz (show i + 1 ≤ l.length from hi)
            rw [Nat.add_mul, Nat.one_mul] at this
            omega
          have hsz2 : (Go.Sort.flatK encV sz d').size ≤ cur.size := by
            rw [Go.Sort.size_flatK, hn, g6]
            exact Nat.mul_le_mul_right _ g4
          show (Go.Sort.putCells id 0 (Go.Sort.flatK encV sz d') cur)[i * sz + j]? = some (us (d'[i]!).1 j)
          rw [putCells_at (by rw [Go.Sort.size_flatK]; exact ht) hsz2, Go.Sort.get_flatK _ _ _ _ ht]
          have e1 : (i * sz + j) / sz = i := by rw [Nat.mul_comm, Nat.mul_add_div hsz.1, Nat.div_eq_of_lt hj, Nat.add_zero]
          have e2 : (i * sz + j) % sz = j := by rw [Nat.mul_comm, Nat.mul_add_mod, Nat.mod_eq_of_lt hj]
          rw [e1, e2, List.getElem!_of_getElem? (hEnc (d'[i]!) j hj)]
        · intro i j i' j' c h1 h2
          obtain ⟨e1, e2⟩ := g10 _ _ _ _ c h1.2 h2.2
          exact ⟨hinj i i' h1.1 h2.1 e1, e2⟩
        · intro i j cs d hcs hd
          obtain ⟨hi, rfl⟩ := hrow' i cs hcs
          refine (g11 (d'[i]!).1 j _ d (hrow _ (d'[i]!).2) hd).mono (fun h => h) (fun c hc => ⟨sortWorldK_same (hS' c hc).1 (hS' c hc).2, Nat.lt_of_lt_of_le (hS' c hc).1 sortWorldK_size, .inl hc, fun _ h => h⟩) _ fun c hc => ⟨sortWorldK_same (hFl _ c (g9 _ j c hc).1).1 (g9 _ j c hc).2, hi, hc⟩
      · simp at hp

def lays_slices_SortFunc_Limpl_Slot_impl_Slot_ren : Go.Shelf.Ren := ⟨fun | 6 => 297 | 15 => 223 | 14 => 336 | 28 => 288 | 29 => 289 | 20 => 348 | 21 => 349 | 22 => 350 | 23 => 351 | 24 => 352 | 25 => 353 | 26 => 354 | 27 => 355 | 46 => 358 | 47 => 329 | 48 => 330 | 49 => 359 | 50 => 360 | 57 => 361 | n => n, fun | 22 => 47 | 24 => 100 | 25 => 274 | 3 => 3 | 39 => 212 | 0 => 0 | 53 => 231 | 55 => 268 | 4 => 4 | 46 => 260 | 45 => 259 | 50 => 264 | 5 => 5 | 9 => 9 | 66 => 300 | 70 => 304 | 76 => 315 | 77 => 316 | n => n, fun | n => n⟩
theorem lays_slices_SortFunc_Limpl_Slot_impl_Slot : Go.Proofs.SlLaysF0.n6 Tryz.prog lays_slices_SortFunc_Limpl_Slot_impl_Slot_ren := {
  mixed := by kernel_rfl
  f6 := ⟨Tryz.f297.name, by decide, Tryz.func297.trans (congrArg some (by kernel_rfl))⟩
  f14 := ⟨Tryz.f336.name, by decide, Tryz.func336.trans (congrArg some (by kernel_rfl))⟩
  f15 := Tryz.func223.trans (congrArg some (by kernel_rfl))
  f20 := ⟨Tryz.f348.name, by decide, Tryz.func348.trans (congrArg some (by kernel_rfl))⟩
  f21 := ⟨Tryz.f349.name, by decide, Tryz.func349.trans (congrArg some (by kernel_rfl))⟩
  f22 := ⟨Tryz.f350.name, by decide, Tryz.func350.trans (congrArg some (by kernel_rfl))⟩
  f23 := ⟨Tryz.f351.name, by decide, Tryz.func351.trans (congrArg some (by kernel_rfl))⟩
  f24 := ⟨Tryz.f352.name, by decide, Tryz.func352.trans (congrArg some (by kernel_rfl))⟩
  f25 := ⟨Tryz.f353.name, by decide, Tryz.func353.trans (congrArg some (by kernel_rfl))⟩
  f26 := ⟨Tryz.f354.name, by decide, Tryz.func354.trans (congrArg some (by kernel_rfl))⟩
  f27 := ⟨Tryz.f355.name, by decide, Tryz.func355.trans (congrArg some (by kernel_rfl))⟩
  f28 := Tryz.func288.trans (congrArg some (by kernel_rfl))
  f29 := Tryz.func289.trans (congrArg some (by kernel_rfl))
  f46 := ⟨Tryz.f358.name, by decide, Tryz.func358.trans (congrArg some (by kernel_rfl))⟩
  f47 := Tryz.func329.trans (congrArg some (by kernel_rfl))
  f48 := Tryz.func330.trans (congrArg some (by kernel_rfl))
  f49 := ⟨Tryz.f359.name, by decide, Tryz.func359.trans (congrArg some (by kernel_rfl))⟩
  f50 := ⟨Tryz.f360.name, by decide, Tryz.func360.trans (congrArg some (by kernel_rfl))⟩
  f57 := ⟨Tryz.f361.name, by decide, Tryz.func361.trans (congrArg some (by kernel_rfl))⟩
  t0 := Tryz.underlying0
  a0 := Tryz.isAgg0
  z0 := Tryz.sizeOf0
  v0 := Tryz.zeroValue0
  t3 := Tryz.underlying3
  a3 := Tryz.isAgg3
  z3 := Tryz.sizeOf3
  v3 := Tryz.zeroValue3
  t4 := Tryz.underlying4
  a4 := Tryz.isAgg4
  z4 := Tryz.sizeOf4
  v4 := Tryz.zeroValue4
  t5 := Tryz.underlying5
  a5 := Tryz.isAgg5
  z5 := Tryz.sizeOf5
  v5 := Tryz.zeroValue5
  t9 := Tryz.underlying9
  a9 := Tryz.isAgg9
  z9 := Tryz.sizeOf9
  v9 := Tryz.zeroValue9
  t22 := Tryz.underlying47
  a22 := Tryz.isAgg47
  z22 := Tryz.sizeOf47
  v22 := Tryz.zeroValue47
  t25 := Tryz.underlying274
  a25 := Tryz.isAgg274
  z25 := Tryz.sizeOf274
  v25 := Tryz.zeroValue274
  t39 := Tryz.underlying212
  a39 := Tryz.isAgg212
  z39 := Tryz.sizeOf212
  v39 := Tryz.zeroValue212
  t45 := Tryz.underlying259
  a45 := Tryz.isAgg259
  z45 := Tryz.sizeOf259
  v45 := Tryz.zeroValue259
  t46 := Tryz.underlying260
  a46 := Tryz.isAgg260
  z46 := Tryz.sizeOf260
  v46 := Tryz.zeroValue260
  t50 := Tryz.underlying264
  a50 := Tryz.isAgg264
  z50 := Tryz.sizeOf264
  v50 := Tryz.zeroValue264
  t53 := Tryz.underlying231
  a53 := Tryz.isAgg231
  z53 := Tryz.sizeOf231
  v53 := Tryz.zeroValue231
  t55 := Tryz.underlying268
  a55 := Tryz.isAgg268
  z55 := Tryz.sizeOf268
  v55 := Tryz.zeroValue268
  t66 := Tryz.underlying300
  a66 := Tryz.isAgg300
  z66 := Tryz.sizeOf300
  v66 := Tryz.zeroValue300
  t70 := Tryz.underlying304
  a70 := Tryz.isAgg304
  z70 := Tryz.sizeOf304
  v70 := Tryz.zeroValue304
  t76 := Tryz.underlying315
  a76 := Tryz.isAgg315
  z76 := Tryz.sizeOf315
  v76 := Tryz.zeroValue315
  t77 := Tryz.underlying316
  a77 := Tryz.isAgg316
  z77 := Tryz.sizeOf316
  v77 := Tryz.zeroValue316 }
theorem cmpS_cmp : Cmp cmpS := (cmpN_cmp.comap Slot.name).lex (cmpI_cmp.comap Slot.ty)
theorem cmpS_self (a : Slot) : cmpS a a = 0 := by
  have := cmpS_cmp.neg a a
  omega
theorem ok_slices_SortFunc_Limpl_Slot_impl_Slot (l : List Slot) (dp : Bool) (hl : ∀ r ∈ l, SmallS r) (hne : l ≠ []) (hlen : l.length ≤ 4194304) :
    FnOK Tryz.prog 297 [.one (.arr false dp (encS l)), .one (.d (.sc (.func (.func 142) #[] #[])))]
      (fun ra os => ∃ l' : List Slot, (l'.Perm l ∧ ∀ i j (h : i < j) (hj : j < l'.length), ¬ cmpS l'[j] l'[i] < 0) ∧ ra = [] ∧ os.a 0 = encS l') := by
  refine sortFunc_ok (ρ := lays_slices_SortFunc_Limpl_Slot_impl_Slot_ren) lays_slices_SortFunc_Limpl_Slot_impl_Slot ⟨_, Tryz.func297, rfl, by kernel_rfl⟩ ⟨_, Tryz.func142, rfl, by kernel_rfl⟩ 7 Slot.cells l cmpS dp Tryz.isAgg100 Tryz.sizeOf100 (by decide) hne (by omega) ?_ (fun x hx y hy => ok_impl_Slot_compare x y (hl x hx) (hl y hy))
  refine ⟨fun i => ?_, fun i j k h1 h2 => ?_, fun i j k h1 h2 => ?_⟩
  · simp [Go.Proofs.ltOf, cmpS_self]
  · simp only [Go.Proofs.ltOf, decide_eq_true_eq] at h1 h2 ⊢
    exact cmpS_cmp.lt h1 h2
  · simp only [Go.Proofs.ltOf, decide_eq_false_iff_not] at h1 h2 ⊢
    have e1 := cmpS_cmp.neg l[i] l[j]
    have e2 := cmpS_cmp.neg l[j] l[k]
    have e3 := cmpS_cmp.neg l[i] l[k]
    have := cmpS_cmp.tr l[k] l[j] l[i] (by omega) (by omega)
    omega

theorem okS_slices_Delete (l : List Slot) (dp : Bool) (i : Nat) (hi : i < l.length) :
    FnOK Tryz.prog 296 [.one (.arr true dp (encS l)), .one (.d (.sc (.int .i64 i))), .one (.d (.sc (.int .i64 ((i : Int) + 1))))] (fun ra _ => ra = [.one (.own dp (encS (l.eraseIdx i)))]) := by
  have h := ok_slices_Delete_Limpl_Slot_impl_Slot (l.map Slot.cells) dp i (by simpa using hi)
  rw [show (l.map Slot.cells).eraseIdx i = (l.eraseIdx i).map Slot.cells by simp only [List.eraseIdx_eq_take_drop_succ, List.map_append, List.map_take, List.map_drop]] at h
  exact h
def c_impl_Cache_keep : C := (.g (.o 0 3 (.box 3 (.t 0)) (.o 1 4 (.box 4 (.t 1)) (.o 2 6 (.alloc 6 [(.i 0), (.i 0), (.n 7)]) (.o 3 7 (.mov (.v (.bool false))) .done)))) (.g (.o 0 12 (.load (some 3) (.t 3)) (.o 1 13 (.fad (.t 4) 0) (.o 2 14 (.load (some 1) (.t 13)) (.o 3 15 (.fad (.t 4) 1) (.o 4 16 (.load none (.t 15)) (.o 5 17 (.call 17 181 [(.t 12), (.t 14), (.t 16)]) (.o 6 8 (.mov (.t 17)) .done))))))) (.seq (.seq (.reg true (.op 0 [] (some 18) none true (.mov (.t 2)) (.op 1 [] (some 19) none true (.bin .eql (.t 18) (.i 0)) (.op 2 [] (some 20) none true (.mov (.t 19)) (.op 3 [] (some 21) (some (20, false)) true (.fad (.t 3) 1) (.op 4 [] (some 22) (some (20, false)) true (.load none (.t 21)) (.op 5 [] (some 23) (some (20, false)) true (.bin .eql (.t 22) (.i 1000000)) (.op 6 [] (some 24) none true (.pick (.t 20) (.v (.bool true)) (.t 23)) (.op 7 [] (some 25) none true (.mov (.t 24)) (.op 8 [] (some 26) (some (25, false)) true (.mov (.t 8)) (.op 9 [] (some 27) (some (25, false)) true (.bin .geq (.t 26) (.i 0)) (.op 10 [] (some 28) (some (25, false)) true (.mov (.t 27)) (.op 11 [] (some 29) (some (28, true)) true (.fad (.t 3) 2) (.op 12 [] (some 30) (some (28, true)) true (.load none (.t 29)) (.op 13 [] (some 31) (some (28, true)) true (.mov (.t 8)) (.op 14 [] (some 32) (some (28, true)) true (.iad 7 (.t 30) (.t 31)) (.op 15 [] (some 33) (some (28, true)) true (.fad (.t 32) 4) (.op 16 [] (some 34) (some (28, true)) true (.load none (.t 33)) (.op 17 [] (some 35) (some (28, true)) true (.fad (.t 4) 4) (.op 18 [] (some 36) (some (28, true)) true (.load none (.t 35)) (.op 19 [] (some 37) (some (28, true)) true (.bin .gtr (.t 34) (.t 36)) (.op 20 [] (some 38) (some (25, false)) true (.pick (.t 28) (.t 37) (.v (.bool false))) (.op 21 [] (some 39) none true (.pick (.t 25) (.v (.bool true)) (.t 38)) .done))))))))))))))))))))))) (.cond (.t 39) (.g (.o 0 40 (.load (some 3) (.t 3)) (.op 1 [] none none false (.store (some 3) (.t 6) (.t 40)) (.o 2 7 (.mov (.v (.bool false))) .done))) .ret) .skip)) (.seq (.reg true (.op 0 [] (some 41) none true (.fad (.t 3) 0) (.op 1 [] (some 42) none true (.load none (.t 41)) (.op 2 [] (some 43) none true (.fad (.t 3) 1) (.op 3 [] (some 44) none true (.load none (.t 43)) (.op 4 [] (some 45) none true (.bin .add (.t 44) (.i 1)) (.op 5 [] (some 46) none true (.fad (.t 3) 2) (.op 6 [] (some 47) none true (.load none (.t 46)) (.alt (.op 7 [6] (some 48) none false (.call 48 295 [(.t 47)]) (.op 8 [] (some 49) none true (.build [(.i 0), (.i 0), (.n 7)] [(0, 1, (.t 42)), (1, 1, (.t 45)), (2, 1, (.t 48))]) (.o 9 9 (.alloc 9 [(.i 0), (.i 0), (.n 7)]) (.op 10 [1, 3, 6] none none false (.store (some 3) (.t 9) (.t 49)) .done)))) (.o 9 9 (.alloc 9 [(.i 0), (.i 0), (.n 7)]) (.op 7 [6] (some 48) none false (.call 48 295 [(.t 47)]) (.op 8 [] (some 49) none true (.build [(.i 0), (.i 0), (.n 7)] [(0, 1, (.t 42)), (1, 1, (.t 45)), (2, 1, (.t 48))]) (.op 10 [1, 3, 6] none none false (.store (some 3) (.t 9) (.t 49)) .done))))))))))))) (.seq (.g (.o 0 50 (.mov (.t 8)) (.o 1 51 (.bin .lss (.t 50) (.i 0)) (.o 2 52 (.mov (.t 51)) (.op 3 [] (some 53) (some (52, true)) false (.fad (.t 9) 2) (.op 4 [] (some 54) (some (52, true)) false (.load none (.t 53)) (.op 5 [] (some 55) (some (52, true)) false (.len (.t 54)) (.op 6 [] (some 56) (some (52, true)) false (.bin .eql (.t 55) (.i 8)) (.o 7 57 (.pick (.t 52) (.t 56) (.v (.bool false))) .done)))))))) (.cond (.t 57) (.g (.o 0 8 (.mov (.i 0)) .done) (.g (.o 0 58 (.fad (.t 9) 2) (.o 1 59 (.load none (.t 58)) (.o 2 60 (.len (.t 59)) (.o 3 61 (.mov (.i 0)) .done)))) (.block 0 (.loop (.g (.o 0 62 (.bin .lss (.t 61) (.t 60)) .done) (.seq (.cond (.t 62) .skip (.exit 0)) (.seq (.block 1 (.g (.o 0 63 (.mov (.t 61)) (.o 1 64 (.iad 7 (.t 59) (.t 61)) (.o 2 65 (.load (some 7) (.t 64)) (.o 3 11 (.alloc 11 [(.n 1), (.i 0), (.i 0), (.n 7), (.i 0), (.i 0), (.i 0)]) (.o 4 10 (.mov (.t 63)) (.op 5 [] none none false (.store (some 7) (.t 11) (.t 65)) .done)))))) (.seq (.reg true (.op 0 [] (some 66) none true (.fad (.t 11) 6) (.op 1 [] (some 67) none true (.load none (.t 66)) (.op 2 [] (some 68) none true (.fad (.t 9) 2) (.op 3 [] (some 69) none true (.load none (.t 68)) (.op 4 [] (some 70) none true (.mov (.t 8)) (.op 5 [] (some 71) none true (.iad 7 (.t 69) (.t 70)) (.op 6 [] (some 72) none true (.fad (.t 71) 6) (.op 7 [] (some 73) none true (.load none (.t 72)) (.op 8 [] (some 74) none true (.bin .lss (.t 67) (.t 73)) .done)))))))))) (.cond (.t 74) (.reg false (.o 0 75 (.mov (.t 10)) (.o 1 8 (.mov (.t 75)) .done))) .skip)))) (.reg false (.o 0 76 (.bin .add (.t 61) (.i 1)) (.o 1 61 (.mov (.t 76)) .done)))))))))) .skip)) (.seq (.g (.o 0 77 (.mov (.t 8)) (.o 1 78 (.bin .geq (.t 77) (.i 0)) .done)) (.cond (.t 78) (.reg false (.o 0 79 (.fad (.t 9) 2) (.o 1 80 (.load none (.t 79)) (.o 2 81 (.mov (.t 8)) (.o 3 82 (.mov (.t 8)) (.o 4 83 (.bin .add (.t 82) (.i 1)) (.o 5 84 (.call 84 296 [(.t 80), (.t 81), (.t 83)]) (.o 6 85 (.fad (.t 9) 2) (.op 7 [] none none false (.store none (.t 85) (.t 84)) .done))))))))) .skip)) (.seq (.reg true (.op 0 [] (some 86) none true (.fad (.t 3) 0) (.op 1 [] (some 87) none true (.load none (.t 86)) (.op 2 [] (some 88) none true (.mov (.t 2)) (.op 3 [] (some 89) none true (.mm false (.t 88) (.i 1000)) (.op 4 [] (some 90) none true (.bin .add (.t 87) (.t 89)) (.op 5 [] (some 91) none true (.fad (.t 9) 1) (.op 6 [] (some 92) none true (.load none (.t 91)) (.op 7 [] (some 93) none true (.fad (.t 4) 5) (.op 8 [1] none none false (.store none (.t 93) (.t 90)) (.op 9 [] (some 94) none true (.fad (.t 4) 6) (.op 10 [1, 6] none none false (.store none (.t 94) (.t 92)) .done)))))))))))) (.g (.o 0 95 (.fad (.t 9) 2) (.o 1 96 (.load none (.t 95)) (.o 2 97 (.load (some 7) (.t 4)) (.o 3 98 (.lit 98 7 [(.n 1), (.i 0), (.i 0), (.n 7), (.i 0), (.i 0), (.i 0)] 1 [(0, 7, (.t 97))]) (.o 4 99 (.app 99 7 88 (.t 96) (.t 98)) (.o 5 100 (.fad (.t 9) 2) (.op 6 [] none none false (.store none (.t 100) (.t 99)) .done))))))) (.g (.o 0 101 (.fad (.t 9) 2) (.o 1 102 (.load none (.t 101)) (.o 2 103 (.call 103 297 [(.t 102), (.fn 142)]) .done))) (.g (.o 0 104 (.load (some 3) (.t 9)) (.op 1 [] none none false (.store (some 3) (.t 6) (.t 104)) (.o 2 7 (.mov (.v (.bool true))) .done))) .ret))))))))))
theorem dg_impl_Cache_keep : Tryz.f229.body.bind (digC Tryz.prog Tryz.f229.ntmps []) = some c_impl_Cache_keep := by kernel_rfl
theorem rs_impl_Cache_keep : resSlots Tryz.prog Tryz.f229 = some [.m 6 (some 3), .s 7] := by kernel_rfl
theorem ok_impl_Cache_keep (c : Cache) (s : Slot) (ttl : Int) (hs : SmallSs c.slots) (h8 : c.slots.length ≤ 8) (hsm : SmallS s) (hc : -10 ≤ c.now ∧ c.now ≤ 2000000 ∧ 0 ≤ c.turn ∧ c.turn ≤ 1000000) (ht : -10 ≤ ttl ∧ ttl ≤ 10000000000) :
    FnOK Tryz.prog 229 [.agg (c.cells.map .d), .agg (s.cells.map .d), .one (.d (.sc (.int .i64 ttl)))] (fun ra _ => ∃ x : Cache × Bool, KeepR c s ttl x.1 x.2 ∧ ra = [.agg [.d (.sc (.int .i64 x.1.now)), .d (.sc (.int .i64 x.1.turn)), .d (encS x.1.slots)], .one (.d (.sc (.bool x.2)))]) := by
  refine FnOK.ofK Tryz.func229 (by kernel_rfl) dg_impl_Cache_keep rs_impl_Cache_keep rfl rfl ?_
  delta c_impl_Cache_keep T.o X.i C.g
  have hl := hs.len
  have hnl := hsm.n.len
  have hstopo39 := trivial
  refine Kbc (kBox Y Y Y Y Y (kBox Y Y Y Y Y (kAlloc Y Y (Ka Y (Kdb (Kc (Ke Y Y Y (Kf Y Y (Ke Y Y Y (Kf Y Y (Ke Y Y Y (Kp (ok_impl_Cache_find _ _ _ prx prx) ⟨⟨⟨Y, Y, Y, trivial⟩, leb⟩, ⟨⟨Y, trivial⟩, leb⟩, rfl, trivial⟩ Y Y Y Y Y (Ka Y (Kdb (Kb ?_)))))))))))))))
  clear hstopo39
  obtain ⟨f, hf⟩ : ∃ f, f = findS c.slots s.name s.ty := ⟨_, rfl⟩
  have hfc := findS_cases c.slots s.name s.ty
  rw [← hf] at hfc ⊢
  refine kJoin2 (α := { _x : Unit // refuse c s ttl = false }) (fun _ => ⟨tabSl [(2, .i ttl), (3, .c (.ptr (rid 3 0) 1 0)), (4, .c (.ptr (rid 4 0) 1 0)), (6, .c (.ptr (rid 6 0) 1 0)), (8, .i f)], obTab 1 [(rid 3 0, ⟨1, 0, .box (c.cells.map .d)⟩), (rid 4 0, ⟨1, 0, .box (s.cells.map .d)⟩), (rid 6 0, ⟨1, 0, .box [.d (.sc (.int .i64 0)), .d (.sc (.int .i64 0)), .nil 7]⟩)], []⟩) ?_ (fun x' hc2 => ?_)
  case refine_2 =>
    rcases hfc with e | ⟨i, hi, e⟩
    · have hr : refuse c s ttl = (decide (ttl = 0) || decide (c.turn = 1000000)) := by unfold refuse; rw [← hf, e]; simp
      rw [e]
      refine kRegD (Ka Y (Kj Y Y Y (Ka Y (kGP Y (fun g0 => Kg Y (Kg Y (Kg Y (Kk Y (Ka Y (Ka Y (Kg Y (Kg Y (Kg Y (kGU Y (kGU Y (kGU Y (kGU Y (kGU Y (kGU Y (kGU Y (kGU Y (kGU Y (Kg Y (Kk Y (Ka Y (Kd (kH (kCondT Y (Kbc (Ke Y Y Y (Ko Y Y Y Y (Ka Y (Kd (Kr (Er (ra := [.agg [(.d _), (.d _), (.d _)], .one (.d _)]) rfl ?_))))))))))))))))))))))))))))))) (fun g0 => Ki Y (Kf Y Y (Ki Y (Ke Y Y Y (Ki Y (Kj Y Y Y (Kl Y (Ka Y (Ka Y (kGP Y (fun g1 => Kg Y (Kg Y (Kg Y (kGU Y (kGU Y (kGU Y (kGU Y (kGU Y (kGU Y (kGU Y (kGU Y (kGU Y (Kg Y (Kk Y (Ka Y (Kd (kH (kCondT Y (Kbc (Ke Y Y Y (Ko Y Y Y Y (Ka Y (Kd (Kr (Er (ra := [.agg [(.d _), (.d _), (.d _)], .one (.d _)]) rfl ?_))))))))))))))))))))))))) (fun g1 => Ki Y (Ka Y (Ki Y (Kj Y Y Y (Ki Y (Ka Y (Kg Y (Kg Y (Kg Y (Kg Y (Kg Y (Kg Y (Kg Y (Kg Y (Kg Y (Ki Y (Kl Y (Ka Y (Kl Y (Ka Y (Kd (kH (kCondF Y (Kn ?_))))))))))))))))))))))))))))))))))))))
      · exact ⟨(c, false), by unfold KeepR; rw [if_pos (by rw [hr]; simp [*])]; exact ⟨rfl, rfl⟩, rfl⟩
      · exact ⟨(c, false), by unfold KeepR; rw [if_pos (by rw [hr]; simp [*])]; exact ⟨rfl, rfl⟩, rfl⟩
      · refine hc2 _ ⟨(), by rw [hr]; simp [*]⟩ ?_
        rw [e]
        exact .normA
    · have hsi := slotAt_eq hi (hf ▸ e)
      have hr : refuse c s ttl = (decide (ttl = 0) || decide (c.turn = 1000000) || decide (s.rank < c.slots[i].rank)) := by unfold refuse; rw [← hf, e, hsi]; simp
      rw [e]
      refine kRegD (Ka Y (Kj Y Y Y (Ka Y (kGP Y (fun g0 => Kg Y (Kg Y (Kg Y (Kk Y (Ka Y (Ka Y (Kg Y (Kg Y (Kg Y (kGU Y (kGU Y (kGU Y (kGU Y (kGU Y (kGU Y (kGU Y (kGU Y (kGU Y (Kg Y (Kk Y (Ka Y (Kd (kH (kCondT Y (Kbc (Ke Y Y Y (Ko Y Y Y Y (Ka Y (Kd (Kr (Er (ra := [.agg [(.d _), (.d _), (.d _)], .one (.d _)]) rfl ?_))))))))))))))))))))))))))))))) (fun g0 => Ki Y (Kf Y Y (Ki Y (Ke Y Y Y (Ki Y (Kj Y Y Y (Kl Y (Ka Y (Ka Y (kGP Y (fun g1 => Kg Y (Kg Y (Kg Y (kGU Y (kGU Y (kGU Y (kGU Y (kGU Y (kGU Y (kGU Y (kGU Y (kGU Y (Kg Y (Kk Y (Ka Y (Kd (kH (kCondT Y (Kbc (Ke Y Y Y (Ko Y Y Y Y (Ka Y (Kd (Kr (Er (ra := [.agg [(.d _), (.d _), (.d _)], .one (.d _)]) rfl ?_))))))))))))))))))))))))) (fun g1 => Ki Y (Ka Y (Ki Y (Kj Y Y Y (Ki Y (Ka Y (Ki Y (Kf Y Y (Ki Y (Ke Y Y Y (Ki Y (Ka Y (Ki Y (kIadR Y Y Y prl (Ki Y (kFadD Y (Ki Y (Ky Y Y (Ki Y (Kf Y Y (Ki Y (Ke Y Y Y (Ki Y (Kj Y Y Y (Ki Y (Kk Y (Ka Y (Kl Y (Ka Y (Kd (kH (Km Y (fun g2 => Kbc (Ke Y Y Y (Ko Y Y Y Y (Ka Y (Kd (Kr (Er (ra := [.agg [(.d _), (.d _), (.d _)], .one (.d _)]) rfl ?_))))))) (fun g2 => Kn ?_)))))))))))))))))))))))))))))))))))))))))))))))
      · exact ⟨(c, false), by unfold KeepR; rw [if_pos (by rw [hr]; simp [*])]; exact ⟨rfl, rfl⟩, rfl⟩
      · exact ⟨(c, false), by unfold KeepR; rw [if_pos (by rw [hr]; simp [*])]; exact ⟨rfl, rfl⟩, rfl⟩
      · exact ⟨(c, false), by unfold KeepR; rw [if_pos (by rw [hr]; simp [*])]; exact ⟨rfl, rfl⟩, rfl⟩
      · refine hc2 _ ⟨(), by rw [hr]; simp [*]⟩ ?_
        rw [e]
        exact .normA
  rintro ⟨_, href⟩
  refine Kb ?_
  refine kCut ⟨tabSl [(2, .i ttl), (3, .c (.ptr (rid 3 0) 1 0)), (4, .c (.ptr (rid 4 0) 1 0)), (6, .c (.ptr (rid 6 0) 1 0)), (8, .i f), (9, .c (.ptr (rid 9 0) 1 0))], obTab 1 [(rid 3 0, ⟨1, 0, .box (c.cells.map .d)⟩), (rid 4 0, ⟨1, 0, .box (s.cells.map .d)⟩), (rid 6 0, ⟨1, 0, .box [.d (.sc (.int .i64 0)), .d (.sc (.int .i64 0)), .nil 7]⟩), (rid 9 0, ⟨1, 0, .box [.d (.sc (.int .i64 c.now)), .d (.sc (.int .i64 (c.turn + 1))), .arr (rid 48 0) 1]⟩), (rid 48 0, ⟨1, 0, .arr false (encS c.slots)⟩)], []⟩ ?_ (fun x hc => ?_)
  case refine_2 => refine kRegD (kFadP rfl rfl (kLoadP rfl rfl rfl (kFadP rfl rfl (kLoadP rfl rfl rfl (kAdd rfl rfl (by omega) (kFadP rfl rfl (kLoadP rfl rfl rfl (kAlt (kRelK rfl rfl (kCall1 false (ok_slices_Clone_Limpl_Slot_impl_Slot _ prx) ⟨rfl, trivial⟩ rfl rfl rfl (fun _ => (kBuildG rfl (kAlloc rfl rfl (kRelF rfl rfl (kStoreP rfl rfl rfl rfl (kDone (kH (hc _ .normA)))))))))) (kAlloc rfl rfl (kRelK rfl rfl (kCall1 false (ok_slices_Clone_Limpl_Slot_impl_Slot _ prx) ⟨rfl, trivial⟩ rfl rfl rfl (fun _ => (kBuildG rfl (kRelF rfl rfl (kStoreP rfl rfl rfl rfl (kDone (kH (hc _ .normA))))))))))))))))))
  have hstopo57 := trivial
  refine Kb (Kb ?_)
  clear hstopo57
  refine kJoin2 (α := { g : Int // (0 ≤ g → ∃ i : Nat, g = i ∧ i < c.slots.length) ∧ baseC c s = if 0 ≤ g then c.slots.eraseIdx g.toNat else c.slots }) (fun y => ⟨tabSl [(2, .i ttl), (3, .c (.ptr (rid 3 0) 1 0)), (4, .c (.ptr (rid 4 0) 1 0)), (6, .c (.ptr (rid 6 0) 1 0)), (8, .i y.1), (9, .c (.ptr (rid 9 0) 1 0))], obTab 1 [(rid 3 0, ⟨1, 0, .box (c.cells.map .d)⟩), (rid 4 0, ⟨1, 0, .box (s.cells.map .d)⟩), (rid 6 0, ⟨1, 0, .box [.d (.sc (.int .i64 0)), .d (.sc (.int .i64 0)), .nil 7]⟩), (rid 9 0, ⟨1, 0, .box [.d (.sc (.int .i64 c.now)), .d (.sc (.int .i64 (c.turn + 1))), .arr (rid 48 0) 1]⟩), (rid 48 0, ⟨1, 0, .arr false (encS c.slots)⟩)], []⟩) ?_ (fun x' hc2 => ?_)
  case refine_2 =>
    refine Kc (Ka Y (Kj Y Y Y (Ka Y (kGP Y (fun g0 => Ki Y (Kf Y Y (Ki Y (Ke Y Y Y (Ki Y (Kq Y Y (Ki Y (Kj Y Y Y (Kk Y (Ka Y (Kd (Km Y (fun g1 => Kbc (Ka Y (Kdb (Kc (Kf Y Y (Ke Y Y Y (Kq Y Y (Ka Y (Kd (Kt ?_)))))))))) (fun g1 => Kn ?_))))))))))))) (fun g0 => Kg Y (Kg Y (Kg Y (Kg Y (Kl Y (Ka Y (Kd (kCondF Y (Kn ?_)))))))))))))
    · have h8' : c.slots.length = 8 := by omega
      refine kLoop (α := { k : Nat // k ≤ 8 }) (fun y => ⟨tabSl [(2, .i ttl), (3, .c (.ptr (rid 3 0) 1 0)), (4, .c (.ptr (rid 4 0) 1 0)), (6, .c (.ptr (rid 6 0) 1 0)), (8, .i (oldN c.slots y.1)), (9, .c (.ptr (rid 9 0) 1 0)), (59, .c (.arr (rid 48 0) 1)), (60, .i c.slots.length), (61, .i y.1)], obTab 1 [(rid 3 0, ⟨1, 0, .box (c.cells.map .d)⟩), (rid 4 0, ⟨1, 0, .box (s.cells.map .d)⟩), (rid 6 0, ⟨1, 0, .box [.d (.sc (.int .i64 0)), .d (.sc (.int .i64 0)), .nil 7]⟩), (rid 9 0, ⟨1, 0, .box [.d (.sc (.int .i64 c.now)), .d (.sc (.int .i64 (c.turn + 1))), .arr (rid 48 0) 1]⟩), (rid 48 0, ⟨1, 0, .arr false (encS c.slots)⟩)], []⟩) (fun y => 8 - y.1) ⟨0, by omega⟩ .normA ?_
      rintro ⟨k, hk⟩
      simp only
      have ho := oldN_lt c.slots k (by omega) (by omega)
      obtain ⟨o, eo⟩ : ∃ o, o = oldN c.slots k := ⟨_, rfl⟩
      rw [← eo] at ho ⊢
      rcases Nat.lt_or_ge k 8 with hlt | hge
      · have hk3 : k < c.slots.length := by omega
        have hst : oldN c.slots (k + 1) = if c.slots[k].used < c.slots[o].used then k else o := by
          rw [oldN, ← eo, usedAt_eq hk3, usedAt_eq ho]
        refine Kbc (Kj Y Y Y (Kdb (Km Y (fun g0 => Kn (Kb (Kt (Kbc (Ka Y (kIadAR Y Y Y Y prl (kLoadER Y Y prl rfl (kAlloc Y Y (Ka Y (Ko Y Y Y Y (Kdb (kRegD (Kf Y Y (Ke Y Y Y (Kf Y Y (Ke Y Y Y (Ka Y (kIadAR Y Y Y Y prl (kFadE Y Y (kLoadER Y Y prl rfl (Kj Y Y Y (Kd (kH (Km Y (fun g1 => Kc (Ka Y (Ka Y (Kd (Kv (Kc (kAdd Y Y om (Ka Y (Kd ?_))))))))) (fun g1 => Kn (Kv (Kc (kAdd Y Y om (Ka Y (Kd ?_)))))))))))))))))))))))))))))) (fun g0 => om))))
        · exact kInv ⟨⟨k + 1, by omega⟩, by simp only; omega, by simp only; rw [hst, if_pos (by assumption)]; exact .normA⟩
        · exact kInv ⟨⟨k + 1, by omega⟩, by simp only; omega, by simp only; rw [hst, if_neg (by assumption)]; exact .normA⟩
      · have hk8 : k = 8 := by omega
        refine Kbc (Kj Y Y Y (Kdb (Km Y (fun g0 => om) (fun g0 => kExit (kExC (kExI (kExB ?_)))))))
        exact hc2 _ ⟨(o : Int), fun _ => ⟨o, rfl, ho⟩, by unfold baseC; rw [← hf, if_neg (by omega), if_pos h8', if_pos (by omega), Int.toNat_natCast, eo, hk8]⟩ .normA
    · exact hc2 _ ⟨f, by omega, by unfold baseC; rw [← hf, if_neg (by omega), if_neg (by omega), if_neg (by omega)]⟩ .normA
    · exact hc2 _ ⟨f, fun h => (hfc.resolve_left (by omega)).elim fun i h => ⟨i, h.2, h.1⟩, by unfold baseC; rw [← hf, if_pos (by omega), if_pos (by omega)]⟩ .normA
  rintro ⟨g, hg1, hg2⟩
  simp only
  have hstopo78 := trivial
  refine Kb (Kb ?_)
  clear hstopo78
  refine kJoin2 (α := Unit) (fun _ => ⟨tabSl [(2, .i ttl), (3, .c (.ptr (rid 3 0) 1 0)), (4, .c (.ptr (rid 4 0) 1 0)), (6, .c (.ptr (rid 6 0) 1 0)), (9, .c (.ptr (rid 9 0) 1 0))], obTab 1 [(rid 3 0, ⟨1, 0, .box (c.cells.map .d)⟩), (rid 4 0, ⟨1, 0, .box (s.cells.map .d)⟩), (rid 6 0, ⟨1, 0, .box [.d (.sc (.int .i64 0)), .d (.sc (.int .i64 0)), .nil 7]⟩), (rid 9 0, ⟨1, 0, .box [.d (.sc (.int .i64 c.now)), .d (.sc (.int .i64 (c.turn + 1))), .arr (rid 48 0) 1]⟩), (rid 48 0, ⟨1, 0, .arr false (encS (baseC c s))⟩)], []⟩) ?_ (fun x' hc2 => ?_)
  case refine_2 =>
    rcases Int.lt_or_le g 0 with hg | hg
    · rw [if_neg (by omega)] at hg2
      refine Kc (Ka Y (Kj Y Y Y (Kd (Km Y (fun g0 => om) (fun g0 => Kn ?_)))))
      exact hc2 _ () (by rw [hg2]; exact .normA)
    · obtain ⟨i, rfl, hi⟩ := hg1 hg
      rw [if_pos hg, Int.toNat_natCast] at hg2
      refine Kc (Ka Y (Kj Y Y Y (Kd (kCondT Y (Kc (Kf Y Y (Ke Y Y Y (Ka Y (Ka Y (kAdd Y Y om ?_))))))))))
      refine Ku false (okS_slices_Delete c.slots false i hi) ⟨⟨false, rfl, .inl rfl⟩, rfl, rfl, trivial⟩ Y Y Y (fun _ => ?_)
      refine Kf Y Y (Ko Y Y Y Y (Kd ?_))
      exact hc2 _ () (by rw [hg2]; exact (Sub.renBox (rid 9 0) (rid 84 0) (rid 48 0) 2 rfl rfl rfl rfl rfl rfl).trans .normA)
  intro _
  have hB : SmallSs (baseC c s) ∧ (baseC c s).length ≤ 8 := by
    unfold baseC
    split
    · exact ⟨⟨by rw [List.length_eraseIdx]; split <;> omega, fun x hx => hs.mem x (List.mem_of_mem_eraseIdx hx)⟩, by rw [List.length_eraseIdx]; split <;> omega⟩
    · split
      · exact ⟨⟨by rw [List.length_eraseIdx]; split <;> omega, fun x hx => hs.mem x (List.mem_of_mem_eraseIdx hx)⟩, by rw [List.length_eraseIdx]; split <;> omega⟩
      · exact ⟨hs, h8⟩
  obtain ⟨hB1, hB2⟩ := hB
  have hBl := hB1.len
  obtain ⟨B, eB⟩ : ∃ B, B = baseC c s := ⟨_, rfl⟩
  rw [← eB] at hB1 hB2 hBl ⊢
  refine Kb (kRegD (Kf Y Y (Ke Y Y Y (Ka Y (kMmMin Y Y (kAdd Y Y om (Kf Y Y (Ke Y Y Y (Kf Y Y (Kx Y Y (Ko Y Y Y Y (Kf Y Y (Ks Y Y (Ko Y Y Y Y (Kd (kH (Kbc (Kf Y Y (Ke Y Y Y (Ke Y Y Y (kLitG Y Y Y Y (kAppSlot Y Y Y Y Y Y Y prl (Kf Y Y (Ko Y Y Y Y (Kdb (Kc (Kf Y Y (Ke Y Y Y ?_))))))))))))))))))))))))))))
  have hV : ∀ x ∈ B ++ [newS c s ttl], SmallS x := fun x hx => by
    rcases List.mem_append.1 hx with h | h
    · exact hB1.mem x h
    · simp only [List.mem_singleton] at h; rw [h]; exact ⟨hsm.n, hsm.r⟩
  refine kCallEA (ok_slices_SortFunc_Limpl_Slot_impl_Slot (B ++ [newS c s ttl]) false hV (by simp) (by simp; omega)) ⟨⟨false, rfl, .inl rfl⟩, rfl, trivial⟩ Y Y Y (fun _ => rfl) (fun l' hl' => ?_)
  refine Kdb (Kc (Ke Y Y Y (Ko Y Y Y Y (Ka Y (Kd (Kr (Er (ra := [.agg [(.d _), (.d _), (.d _)], .one (.d _)]) rfl ?_)))))))
  exact ⟨(⟨c.now, c.turn + 1, l'⟩, true), by unfold KeepR; rw [if_neg (by rw [href]; decide)]; exact ⟨rfl, rfl, rfl, by rw [← eB]; exact hl'.1, hl'.2⟩, rfl⟩

def c_impl_Cache_put : C := (.g (.o 0 3 (.box 3 (.t 0)) (.o 1 6 (.alloc 6 [(.i 0), (.i 0), (.n 7)]) (.o 2 7 (.mov (.v (.bool false))) .done))) (.seq (.reg true (.op 0 [] (some 8) none true (.load (some 3) (.t 3)) (.op 1 [] (some 9) none true (.mov (.t 1)) (.op 2 [] (some 10) none true (.iad 7 (.t 9) (.i 0)) (.op 3 [] (some 11) none true (.fad (.t 10) 0) (.op 4 [] (some 12) none true (.load (some 1) (.t 11)) (.op 5 [] (some 13) none true (.mov (.t 1)) (.op 6 [] (some 14) none true (.iad 7 (.t 13) (.i 0)) (.op 7 [] (some 15) none true (.fad (.t 14) 1) (.op 8 [] (some 16) none true (.load none (.t 15)) (.op 9 [] (some 17) none true (.mov (.t 1)) (.op 10 [] (some 18) none true (.mov (.t 2)) (.op 11 [] (some 19) none true (.build [(.n 1), (.i 0), (.i 0), (.n 7), (.i 0), (.i 0), (.i 0)] [(0, 1, (.t 12)), (1, 1, (.t 16)), (2, 1, (.i 1)), (3, 1, (.t 17)), (4, 1, (.t 18))]) (.op 12 [] (some 20) none true (.mov (.t 1)) (.op 13 [] (some 21) none true (.iad 7 (.t 20) (.i 0)) (.op 14 [] (some 22) none true (.fad (.t 21) 2) (.op 15 [] (some 23) none true (.load none (.t 22)) (.op 16 [0, 4, 8, 15] (some 24) none false (.call 24 229 [(.t 8), (.t 19), (.t 23)]) (.op 17 [] (some 25) none true (.ext (.t 24) 0) (.op 18 [] (some 26) none true (.ext (.t 24) 1) (.op 19 [0, 4, 8, 15] none none false (.store (some 3) (.t 6) (.t 25)) (.op 20 [] (some 7) none true (.mov (.t 26)) .done)))))))))))))))))))))) .ret))
theorem dg_impl_Cache_put : Tryz.f150.body.bind (digC Tryz.prog Tryz.f150.ntmps []) = some c_impl_Cache_put := by kernel_rfl
theorem rs_impl_Cache_put : resSlots Tryz.prog Tryz.f150 = some [.m 6 (some 3), .s 7] := by kernel_rfl
theorem ok_impl_Cache_put (c : Cache) (l : List Rr) (rank : Int) (hs : SmallSs c.slots) (h8 : c.slots.length ≤ 8) (hl : SmallRs l) (h1 : 0 < l.length) (hc : -10 ≤ c.now ∧ c.now ≤ 2000000 ∧ 0 ≤ c.turn ∧ c.turn ≤ 1000000) (ht : -10 ≤ l[0].ttl ∧ l[0].ttl ≤ 10000000000) :
    FnOK Tryz.prog 150 [.agg (c.cells.map .d), .one (.d (encR l)), .one (.d (.sc (.int .i64 rank)))] (fun ra _ => ∃ x : Cache × Bool, KeepR c ⟨l[0].name, l[0].ty, 1, l, rank, 0, 0⟩ l[0].ttl x.1 x.2 ∧ ra = [.agg [.d (.sc (.int .i64 x.1.now)), .d (.sc (.int .i64 x.1.turn)), .d (encS x.1.slots)], .one (.d (.sc (.bool x.2)))]) := by
  refine FnOK.ofK Tryz.func150 (by kernel_rfl) dg_impl_Cache_put rs_impl_Cache_put rfl rfl ?_
  delta c_impl_Cache_put T.o X.i C.g
  have hll := hl.len
  have hr := hl.mem _ (List.getElem_mem h1)
  have hsm : SmallS ⟨l[0].name, l[0].ty, 1, l, rank, 0, 0⟩ := ⟨hr.n, hl⟩
  refine Kbc (kBox Y Y Y Y Y (kAlloc Y Y (Ka Y (Kdb (kRegD (Ke Y Y Y (Ka Y (kIadR (m := 0) Y Y Y prl (kFadD Y (Ky Y Y (Ka Y (kMem [(28672, ⟨1, 0, .box [.d _, .d _, .nil 7]⟩)] ((13, .c (.d _)) :: (14, .c (.un)) :: (15, .c (.un)) :: (1, .c (.d _)) :: (2, .c (.d _)) :: (12, .g [.d _]) :: (16, .c (.un)) :: (17, .c (.un)) :: (18, .c (.un)) :: (20, .c (.un)) :: (21, .c (.un)) :: (22, .c (.un)) :: (8, .g [.d _, .d _, .d _]) :: (19, .c (.un)) :: (23, .c (.un)) :: (24, .c (.un)) :: (6, .c (.ptr 28672 1 0)) :: (25, .c (.un)) :: (26, .c (.un)) :: []) [16384] ⟨Y, trivial⟩ ⟨Y, Y, Y, Y, Y, Y, Y, Y, Y, Y, Y, Y, Y, Y, Y, Y, Y, Y, Y, trivial⟩ Y (kIadR (m := 0) Y Y Y prl (kFadD Y (Ky Y Y (Ka Y (Ka Y (kMem [(28672, ⟨1, 0, .box [.d _, .d _, .nil 7]⟩)] ((12, .g [.d _]) :: (16, .c (.d _)) :: (17, .c (.d _)) :: (18, .c (.d _)) :: (1, .c (.d _)) :: (20, .c (.un)) :: (21, .c (.un)) :: (22, .c (.un)) :: (8, .g [.d _, .d _, .d _]) :: (19, .c (.un)) :: (23, .c (.un)) :: (24, .c (.un)) :: (6, .c (.ptr 28672 1 0)) :: (25, .c (.un)) :: (26, .c (.un)) :: []) [16384] ⟨Y, trivial⟩ ⟨Y, Y, Y, Y, Y, Y, Y, Y, Y, Y, Y, Y, Y, Y, Y, trivial⟩ Y (kBuildG Y (Ka Y (kIadR (m := 0) Y Y Y prl (kFadD Y (Ky Y Y (Ks Y Y ?_))))))))))))))))))))))))
  refine kCallX false (ok_impl_Cache_keep c ⟨l[0].name, l[0].ty, 1, l, rank, 0, 0⟩ l[0].ttl hs h8 hsm hc ht) ⟨⟨⟨Y, Y, Y, trivial⟩, leb⟩, ⟨⟨Y, Y, Y, Y, Y, Y, Y, trivial⟩, leb⟩, rfl, trivial⟩ Y (fun _ => rfl) (fun _ => rfl) (fun x os hx => ?_)
  refine kExtC Y Y (kExtC Y Y (kMem [(28672, ⟨1, 0, .box [.d _, .d _, .nil 7]⟩)] [(6, .c (.ptr 28672 1 0)), (25, .g [.d _, .d _, .d _]), (26, .c (.d _))] [] ⟨Y, trivial⟩ ⟨Y, Y, Y, trivial⟩ Y (Ks Y Y (Ko Y Y Y Y (Ka Y (Kd (kH (kMem [(28672, ⟨1, 0, .box [.d _, .d _, .d _]⟩)] [(6, .c (.ptr 28672 1 0)), (7, .c (.d _))] [] ⟨Y, trivial⟩ ⟨Y, Y, trivial⟩ Y (Kr (Er (ra := [.agg [(.d _), (.d _), (.d _)], .one (.d _)]) rfl ?_))))))))))
  exact ⟨x, hx, rfl⟩

def c_impl_CachePut : C := (.g (.o 0 3 (.box 3 (.t 0)) (.o 1 6 (.alloc 6 [(.i 0), (.i 0), (.n 7)]) (.o 2 7 (.mov (.v (.bool false))) .done))) (.seq (.g (.o 0 10 (.load (some 3) (.t 3)) (.o 1 11 (.call 11 56 [(.t 10)]) (.o 2 12 (.un .not (.t 11)) (.o 3 13 (.mov (.t 12)) (.op 4 [] (some 14) (some (13, false)) false (.mov (.t 1)) (.op 5 [] (some 15) (some (13, false)) false (.call 15 149 [(.t 14)]) (.op 6 [] (some 16) (some (13, false)) false (.un .not (.t 15)) (.o 7 17 (.pick (.t 13) (.v (.bool true)) (.t 16)) (.o 8 18 (.mov (.t 17)) (.op 9 [] (some 19) (some (18, false)) false (.mov (.t 2)) (.op 10 [] (some 20) (some (18, false)) false (.call 20 109 [(.t 19), (.i 0), (.i 3)]) (.op 11 [] (some 21) (some (18, false)) false (.un .not (.t 20)) (.o 12 22 (.pick (.t 18) (.v (.bool true)) (.t 21)) .done))))))))))))) (.cond (.t 22) (.g (.o 0 23 (.build [(.i 0), (.i 0), (.n 7)] []) (.op 1 [] none none false (.store (some 3) (.t 6) (.t 23)) (.o 2 7 (.mov (.v (.bool false))) .done))) .ret) .skip)) (.g (.o 0 25 (.load (some 3) (.t 3)) (.o 1 26 (.mov (.t 1)) (.o 2 27 (.mov (.t 2)) (.o 3 28 (.call 28 150 [(.t 25), (.t 26), (.t 27)]) (.o 4 24 (.mov (.t 28)) (.o 5 29 (.ext (.t 24) 0) (.o 6 30 (.ext (.t 24) 1) (.o 7 8 (.alloc 8 [(.i 0), (.i 0), (.n 7)]) (.op 8 [] none none false (.store (some 3) (.t 8) (.t 29)) (.o 9 9 (.mov (.t 30)) .done)))))))))) (.g (.o 0 31 (.load (some 3) (.t 8)) (.o 1 32 (.call 32 91 [(.t 31)]) (.o 2 33 (.mov (.t 9)) (.op 3 [] none none false (.store (some 3) (.t 6) (.t 32)) (.o 4 7 (.mov (.t 33)) .done))))) .ret))))
theorem dg_impl_CachePut : Tryz.f60.body.bind (digC Tryz.prog Tryz.f60.ntmps []) = some c_impl_CachePut := by kernel_rfl
theorem rs_impl_CachePut : resSlots Tryz.prog Tryz.f60 = some [.m 6 (some 3), .s 7] := by kernel_rfl
theorem ok_impl_CachePut (c : Cache) (l : List Rr) (rank : Int) (hs : SmallSs c.slots) (hl : SmallRs l) :
    FnOK Tryz.prog 60 [.agg (c.cells.map .d), .one (.d (encR l)), .one (.d (.sc (.int .i64 rank)))] (fun ra _ => ∃ x : Cache × Bool, PutR c l rank x.1 x.2 ∧ ra = [.agg [.d (.sc (.int .i64 x.1.now)), .d (.sc (.int .i64 x.1.turn)), .own true (encS x.1.slots)], .one (.d (.sc (.bool x.2)))]) := by
  refine FnOK.ofK Tryz.func60 (by kernel_rfl) dg_impl_CachePut rs_impl_CachePut rfl rfl ?_
  delta c_impl_CachePut T.o X.i C.g
  have hll := hl.len
  have hstopo28 := trivial
  refine Kbc (kBox Y Y Y Y Y (kAlloc Y Y (Ka Y (Kdb (Kbc (Ke Y Y Y (Kp (ok_impl_CacheOk _ prx) ⟨⟨⟨Y, Y, Y, trivial⟩, leb⟩, trivial⟩ Y Y Y Y Y (Kw Y Y (Ka Y (kGN Y (fun g0 => Kg Y (Kg Y (Kg Y (Kk Y (Ka Y (Ka Y (Kg Y (Kg Y (Kg Y (Kk Y (Ka Y (Kd (kCondT Y (Kbc (kMem [(28672, ⟨1, 0, .box [.d _, .d _, .nil 7]⟩)] [(6, .c (.ptr 28672 1 0)), (23, .c (.un))] [] ⟨Y, trivial⟩ ⟨Y, Y, trivial⟩ Y (kBuildG Y (kMem [(28672, ⟨1, 0, .box [.d _, .d _, .nil 7]⟩)] [(6, .c (.ptr 28672 1 0)), (23, .g [.d _, .d _, .nil 7])] [] ⟨Y, trivial⟩ ⟨Y, Y, trivial⟩ Y (Ko Y Y Y Y (Ka Y (Kd (kMem [(28672, ⟨1, 0, .box [.d _, .d _, .nil 7]⟩)] [(6, .c (.ptr 28672 1 0)), (7, .c (.d _))] [] ⟨Y, trivial⟩ ⟨Y, Y, trivial⟩ Y (Kr (Er (ra := [.agg [(.d _), (.d _), (.own true _)], .one (.d _)]) rfl ?_))))))))))))))))))))))) (fun g0 => Ki Y (Ka Y (Ki Y (Kp (ok_impl_isSet _ prx) ⟨Y, trivial⟩ Y Y Y Y Y (Ki Y (Kw Y Y (Kl Y (Ka Y (Ka Y (kGN Y (fun g1 => Kg Y (Kg Y (Kg Y (Kk Y (Ka Y (Kd (kCondT Y (Kbc (kMem [(28672, ⟨1, 0, .box [.d _, .d _, .nil 7]⟩)] [(6, .c (.ptr 28672 1 0)), (23, .c (.un))] [] ⟨Y, trivial⟩ ⟨Y, Y, trivial⟩ Y (kBuildG Y (kMem [(28672, ⟨1, 0, .box [.d _, .d _, .nil 7]⟩)] [(6, .c (.ptr 28672 1 0)), (23, .g [.d _, .d _, .nil 7])] [] ⟨Y, trivial⟩ ⟨Y, Y, trivial⟩ Y (Ko Y Y Y Y (Ka Y (Kd (kMem [(28672, ⟨1, 0, .box [.d _, .d _, .nil 7]⟩)] [(6, .c (.ptr 28672 1 0)), (7, .c (.d _))] [] ⟨Y, trivial⟩ ⟨Y, Y, trivial⟩ Y (Kr (Er (ra := [.agg [(.d _), (.d _), (.own true _)], .one (.d _)]) rfl ?_))))))))))))))))) (fun g1 => Ki Y (Ka Y (Ki Y (Kp (ok_impl_within _ _ _) ⟨Y, Y, Y, trivial⟩ Y Y Y Y Y (Ki Y (Kw Y Y (Kl Y (Ka Y (Kd (kCondN Y (fun g2 => Kbc (kMem [(28672, ⟨1, 0, .box [.d _, .d _, .nil 7]⟩)] [(6, .c (.ptr 28672 1 0)), (23, .c (.un))] [] ⟨Y, trivial⟩ ⟨Y, Y, trivial⟩ Y (kBuildG Y (kMem [(28672, ⟨1, 0, .box [.d _, .d _, .nil 7]⟩)] [(6, .c (.ptr 28672 1 0)), (23, .g [.d _, .d _, .nil 7])] [] ⟨Y, trivial⟩ ⟨Y, Y, trivial⟩ Y (Ko Y Y Y Y (Ka Y (Kd (kMem [(28672, ⟨1, 0, .box [.d _, .d _, .nil 7]⟩)] [(6, .c (.ptr 28672 1 0)), (7, .c (.d _))] [] ⟨Y, trivial⟩ ⟨Y, Y, trivial⟩ Y (Kr (Er (ra := [.agg [(.d _), (.d _), (.own true _)], .one (.d _)]) rfl ?_)))))))))) (fun g2 => Kn (Kb ?_))))))))))))))))))))))))))))))))
  · exact ⟨(⟨0, 0, []⟩, false), by unfold PutR; rw [if_neg (by unfold putOk; simp [*])]; exact ⟨rfl, rfl⟩, rfl⟩
  · exact ⟨(⟨0, 0, []⟩, false), by unfold PutR; rw [if_neg (by unfold putOk; simp [*])]; exact ⟨rfl, rfl⟩, rfl⟩
  · exact ⟨(⟨0, 0, []⟩, false), by unfold PutR; rw [if_neg (by unfold putOk; simp [*])]; exact ⟨rfl, rfl⟩, rfl⟩
  · have hok : putOk c l rank = true := by unfold putOk; simp_all
    have hp := set_pos (by assumption : isSetR l = true)
    obtain ⟨h1, hr⟩ := hp
    obtain ⟨b1, b2⟩ := cache_bounds (by assumption : cacheOk c = true)
    obtain ⟨h8, b3⟩ := cache_len (by assumption : cacheOk c = true)
    have hty := rrOk_ty (hr _ (List.getElem_mem h1))
    have e0 : l.getD 0 ⟨[], 0, 0, 0, [], [], []⟩ = l[0] := by simp [List.getD_eq_getElem?_getD, h1]
    have hc : -10 ≤ c.now ∧ c.now ≤ 2000000 ∧ 0 ≤ c.turn ∧ c.turn ≤ 1000000 := by omega
    have ht : -10 ≤ l[0].ttl ∧ l[0].ttl ≤ 10000000000 := by omega
    clear hstopo28
    have hstopo32 := trivial
    refine Kc (kMem [(16384, ⟨1, 0, .box [.d _, .d _, .d _]⟩)] [(3, .c (.ptr 16384 1 0)), (1, .c (.d _)), (2, .c (.d _)), (25, .c (.un)), (26, .c (.un)), (27, .c (.un)), (28, .c (.un)), (24, .c (.un)), (8, .c (.un)), (29, .c (.un)), (30, .c (.un))] [] ⟨Y, trivial⟩ ⟨Y, Y, Y, Y, Y, Y, Y, Y, Y, Y, Y, trivial⟩ Y (Ke Y Y Y (Ka Y (Ka Y (kCallX false (ok_impl_Cache_put _ _ _ prx prx prx prx prx prx) ⟨⟨⟨Y, Y, Y, trivial⟩, leb⟩, rfl, rfl, trivial⟩ Y (fun _ => rfl) (fun _ => rfl) (fun x0 _ hx0 => (kMovT Y (kExtC Y Y (kExtC Y Y (kAlloc Y Y (kMem [(36864, ⟨1, 0, .box [.d _, .d _, .nil 7]⟩)] [(8, .c (.ptr 36864 1 0)), (29, .g [.d _, .d _, .d _]), (30, .c (.d _))] [] ⟨Y, trivial⟩ ⟨Y, Y, Y, trivial⟩ Y (Ko Y Y Y Y (Ka Y (Kdb ?_))))))))))))))
    clear hstopo32
    have hsm : SmallS ⟨l[0].name, l[0].ty, 1, l, rank, 0, 0⟩ := ⟨(hl.mem _ (List.getElem_mem h1)).n, hl⟩
    have hx := hx0.small hs h8 hsm
    refine Kc (Ke Y Y Y (Ku true (ok_impl_Cache_copied _ prx) ⟨⟨⟨Y, Y, Y, trivial⟩, leb⟩, trivial⟩ Y Y Y (fun _ => (Ka Y (kMem [(28672, ⟨1, 0, .box [.d _, .d _, .nil 7]⟩), (135170, ⟨1, 0, .arr true _⟩)] [(6, .c (.ptr 28672 1 0)), (32, .g [.d _, .d _, .arr 135170 1]), (33, .c (.d _))] [] ⟨Y, Y, trivial⟩ ⟨Y, Y, Y, trivial⟩ Y (Ko Y Y Y Y (Ka Y (Kd (kMem [(28672, ⟨1, 0, .box [.d _, .d _, .arr 135170 1]⟩), (135170, ⟨1, 0, .arr true _⟩)] [(6, .c (.ptr 28672 1 0)), (7, .c (.d _))] [] ⟨Y, Y, trivial⟩ ⟨Y, Y, trivial⟩ Y (Kr (Er (ra := [.agg [(.d _), (.d _), (.own true _)], .one (.d _)]) rfl ?_)))))))))))
    exact ⟨x0, by unfold PutR putS; rw [if_pos hok, e0]; exact hx0, rfl⟩

def c_laws_caches : C := (.g (.o 0 0 (.mov (.v (.bool false))) .done) (.g (.o 0 7 (.call 7 79 [(.v (.string ⟨#[97, 46]⟩))]) (.o 1 8 (.build [(.n 1), (.i 0), (.i 0), (.i 0), (.n 1), (.n 1), (.n 1)] [(0, 1, (.t 7)), (1, 1, (.i 1)), (2, 1, (.i 5)), (3, 1, (.i 7))]) (.o 2 1 (.alloc 1 [(.n 1), (.i 0), (.i 0), (.i 0), (.n 1), (.n 1), (.n 1)]) (.op 3 [] none none false (.store (some 7) (.t 1) (.t 8)) .done)))) (.g (.o 0 10 (.build [(.i 0), (.i 0), (.n 7)] []) (.o 1 11 (.load (some 7) (.t 1)) (.o 2 12 (.lit 12 7 [(.n 1), (.i 0), (.i 0), (.i 0), (.n 1), (.n 1), (.n 1)] 1 [(0, 7, (.t 11))]) (.o 3 13 (.call 13 60 [(.t 10), (.t 12), (.i 1)]) (.o 4 9 (.mov (.t 13)) (.o 5 14 (.ext (.t 9) 0) (.o 6 15 (.ext (.t 9) 1) (.o 7 2 (.alloc 2 [(.i 0), (.i 0), (.n 7)]) (.op 8 [] none none false (.store (some 3) (.t 2) (.t 14)) (.o 9 3 (.mov (.t 15)) .done)))))))))) (.g (.o 0 17 (.load (some 3) (.t 2)) (.o 1 18 (.fad (.t 1) 0) (.o 2 19 (.load (some 1) (.t 18)) (.o 3 20 (.fad (.t 1) 1) (.o 4 21 (.load none (.t 20)) (.o 5 22 (.call 22 23 [(.t 17), (.t 19), (.t 21)]) (.o 6 16 (.mov (.t 22)) (.o 7 23 (.ext (.t 16) 0) (.o 8 24 (.ext (.t 16) 1) (.o 9 25 (.ext (.t 16) 2) (.o 10 4 (.alloc 4 [(.i 0), (.i 0), (.n 7)]) (.op 11 [] none none false (.store (some 3) (.t 4) (.t 23)) (.o 12 5 (.mov (.t 24)) (.o 13 6 (.mov (.t 25)) .done)))))))))))))) (.g (.o 0 26 (.mov (.t 3)) (.o 1 27 (.mov (.t 26)) (.op 2 [] (some 28) (some (27, true)) false (.mov (.t 6)) (.op 3 [] (some 29) (some (27, true)) false (.bin .eql (.t 28) (.i 1)) (.o 4 30 (.pick (.t 27) (.t 29) (.v (.bool false))) (.o 5 31 (.mov (.t 30)) (.op 6 [] (some 32) (some (31, true)) false (.mov (.t 5)) (.op 7 [] (some 33) (some (31, true)) false (.load (some 7) (.t 1)) (.op 8 [] (some 34) (some (31, true)) false (.lit 34 7 [(.n 1), (.i 0), (.i 0), (.i 0), (.n 1), (.n 1), (.n 1)] 1 [(0, 7, (.t 33))]) (.op 9 [] (some 35) (some (31, true)) false (.call 35 39 [(.t 32), (.t 34)]) (.o 10 36 (.pick (.t 31) (.t 35) (.v (.bool false))) (.o 11 0 (.mov (.t 36)) .done)))))))))))) .ret)))))
theorem dg_laws_caches : Tryz.f54.body.bind (digC Tryz.prog Tryz.f54.ntmps []) = some c_laws_caches := by kernel_rfl
theorem rs_laws_caches : resSlots Tryz.prog Tryz.f54 = some [.s 0] := by kernel_rfl
theorem ok_laws_caches : FnOK Tryz.prog 54 [] (fun ra _ => ra = [.one (.d (.sc (.bool true)))]) := by
  refine FnOK.ofK Tryz.func54 (by kernel_rfl) dg_laws_caches rs_laws_caches rfl rfl ?_
  delta c_laws_caches T.o X.i C.g
  have hstopo13 := trivial
  refine Kbc (Ka Y (Kdb (Kc (Ku true (ok_laws_name _ prx) ⟨Y, trivial⟩ Y Y Y (fun _ => (kBuildG Y (kAlloc Y Y (kMem [(8192, ⟨1, 0, .box [.nil 1, .d _, .d _, .d _, .nil 1, .nil 1, .nil 1]⟩), (32768, ⟨1, 0, .arr true _⟩)] [(1, .c (.ptr 8192 1 0)), (8, .g [.arr 32768 1, .d _, .d _, .d _, .nil 1, .nil 1, .nil 1])] [] ⟨Y, Y, trivial⟩ ⟨Y, Y, trivial⟩ Y (Ko Y Y Y Y (Kdb ?_))))))))))
  clear hstopo13
  refine kSub (Sub.frzBox (rid 1 0) (rid 7 0) 0 rfl rfl rfl rfl rfl) ?_
  refine kSub (t := ⟨tabSl [(0, .b false), (1, .c (.ptr (rid 1 0) 1 0))], obTab 1 [(rid 1 0, ⟨1, 0, .box [.d (encBB (readN (⟨#[97, 46]⟩ : ByteArray).toList)), .d (.sc (.int .i64 1)), .d (.sc (.int .i64 5)), .d (.sc (.int .i64 7)), .d (encBB []), .d (encB []), .d (Hearth.encI [])]⟩)], []⟩) .normA ?_
  rw [show readN (⟨#[97, 46]⟩ : ByteArray).toList = [[97]] by first | (rw [ByteArray.toList_eq]; rfl) | rfl | decide]
  refine kSub (t := ⟨tabSl [(0, .b false), (1, .c (.ptr (rid 1 0) 1 0))], obTab 1 [(rid 1 0, ⟨1, 0, .box (rA.cells.map .d)⟩)], []⟩) .normA ?_
  have hsA : SmallR rA := rrOk_small (by first | decide | rfl)
  have hl : SmallRs [rA] := ⟨by decide, fun r hr => by simp only [List.mem_singleton] at hr; rw [hr]; exact hsA⟩
  refine Kc (kBuildG Y (Ke Y Y Y (kLitD Y Y Y Y ?_)))
  refine kCallX false (ok_impl_CachePut ⟨0, 0, []⟩ [rA] 1 .nil hl) ⟨⟨⟨Y, Y, Y, trivial⟩, leb⟩, rfl, rfl, trivial⟩ Y (fun _ => rfl) (fun _ => rfl) (fun x os hx => ?_)
  obtain ⟨d, ok⟩ := x
  obtain ⟨rfl, rfl⟩ := caches_put hx
  refine kMovT Y (kExtC Y Y (kExtC Y Y (kAlloc Y Y (kMem [(12288, ⟨2, 0, .box [.d _, .d _, .nil 7]⟩), (57346, ⟨2, 0, .arr true _⟩)] [(2, .c (.ptr 12288 2 0)), (14, .g [.d _, .d _, .arr 57346 2]), (15, .c (.d _))] [] ⟨Y, Y, trivial⟩ ⟨Y, Y, Y, trivial⟩ Y (Ko Y Y Y Y (Ka Y (Kdb (Kc (Ke Y Y Y (Kf Y Y (Ke Y Y Y (Kf Y Y (Ke Y Y Y ?_)))))))))))))
  have hsS : SmallSs [sA] := ⟨by decide, fun r hr => by simp only [List.mem_singleton] at hr; rw [hr]; exact ⟨hsA.n, hl⟩⟩
  refine Ku true (ok_impl_CacheGet ⟨0, 1, [sA]⟩ [[97]] 1 hsS hsA.n) ⟨⟨⟨Y, Y, Y, trivial⟩, leb⟩, ⟨⟨Y, trivial⟩, leb⟩, rfl, trivial⟩ Y Y Y (fun _ => ?_)
  rw [caches_get.1, caches_get.2]
  refine kMovT Y (kExtC Y Y (kMem [(94210, ⟨2, 0, .arr true _⟩)] [(23, .g [.d _, .d _, .arr 94210 2])] [] ⟨Y, trivial⟩ ⟨Y, trivial⟩ Y (kExtC Y Y (kExtC Y Y (kAlloc Y Y (kMem [(20480, ⟨2, 0, .box [.d _, .d _, .nil 7]⟩), (94210, ⟨2, 0, .arr true _⟩), (94272, ⟨2, 0, .arr true _⟩)] [(4, .c (.ptr 20480 2 0)), (23, .g [.d _, .d _, .arr 94210 2]), (24, .c (.arr 94272 2)), (25, .c (.d _))] [] ⟨Y, Y, Y, trivial⟩ ⟨Y, Y, Y, Y, trivial⟩ Y (Ko Y Y Y Y (Ka Y (Ka Y (Kdb (Kc (Ka Y (Ka Y (Ki Y (Ka Y (Ki Y (Kj Y Y Y (Kk Y (Ka Y (Ka Y (Ki Y (Ka Y (Ki Y (Ke Y Y Y (kMem [(94272, ⟨2, 0, .arr true _⟩)] [(33, .g [.d _, .d _, .d _, .d _, .d _, .d _, .d _]), (32, .c (.arr 94272 2)), (31, .c (.d _))] [] ⟨Y, trivial⟩ ⟨Y, Y, Y, trivial⟩ Y (Ki Y (kLitD Y Y Y Y (Ki Y ?_))))))))))))))))))))))))))))
  refine Ku true (ok_laws_sameRrs [rA] [rA] hl hl) ⟨Y, Y, trivial⟩ Y Y Y (fun _ => ?_)
  rw [show sameRs [rA] [rA] = true by first | decide | rfl]
  refine Kk Y (Ka Y (Ka Y (Kd (Kr (Er (ra := [.one (.d _)]) rfl rfl)))))

def c_laws_FnTimes : C := (.g (.o 0 2 (.mov (.v (.bool false))) .done) (.g (.o 0 21 (.mov (.t 0)) (.o 1 22 (.call 22 57 [(.t 21)]) (.o 2 20 (.mov (.t 22)) (.o 3 23 (.ext (.t 20) 0) (.o 4 24 (.ext (.t 20) 1) (.o 5 3 (.alloc 3 [(.i 0), (.i 0), (.n 7)]) (.op 6 [] none none false (.store (some 3) (.t 3) (.t 23)) (.o 7 4 (.mov (.t 24)) .done)))))))) (.g (.o 0 26 (.load (some 3) (.t 3)) (.o 1 27 (.mov (.t 4)) (.o 2 28 (.call 28 55 [(.t 26), (.t 27)]) (.o 3 25 (.mov (.t 28)) (.o 4 29 (.ext (.t 25) 0) (.o 5 30 (.ext (.t 25) 1) (.o 6 5 (.alloc 5 [(.i 0), (.i 0), (.n 7)]) (.op 7 [] none none false (.store (some 3) (.t 5) (.t 29)) (.o 8 6 (.mov (.t 30)) .done))))))))) (.seq (.g (.o 0 31 (.load (some 3) (.t 3)) (.o 1 32 (.call 32 58 [(.t 31)]) (.o 2 33 (.un .not (.t 32)) (.o 3 34 (.mov (.t 33)) (.op 4 [] (some 35) (some (34, false)) false (.mov (.t 4)) (.op 5 [] (some 36) (some (34, false)) false (.fad (.t 3) 0) (.op 6 [] (some 37) (some (34, false)) false (.load none (.t 36)) (.op 7 [] (some 38) (some (34, false)) false (.bin .lss (.t 35) (.t 37)) (.o 8 39 (.pick (.t 34) (.v (.bool true)) (.t 38)) (.o 9 40 (.mov (.t 39)) (.op 10 [] (some 41) (some (40, false)) false (.mov (.t 4)) (.op 11 [] (some 42) (some (40, false)) false (.bin .gtr (.t 41) (.i 1000000)) (.o 12 43 (.pick (.t 40) (.v (.bool true)) (.t 42)) .done))))))))))))) (.cond (.t 43) (.g (.o 0 44 (.mov (.t 6)) (.o 1 45 (.bin .eql (.t 44) (.i 0)) (.o 2 46 (.mov (.t 45)) (.op 3 [] (some 47) (some (46, true)) false (.fad (.t 5) 2) (.op 4 [] (some 48) (some (46, true)) false (.load none (.t 47)) (.op 5 [] (some 49) (some (46, true)) false (.len (.t 48)) (.op 6 [] (some 50) (some (46, true)) false (.bin .eql (.t 49) (.i 0)) (.o 7 51 (.pick (.t 46) (.t 50) (.v (.bool false))) (.o 8 52 (.mov (.t 51)) (.op 9 [] (some 53) (some (52, true)) false (.call 53 54 []) (.o 10 54 (.pick (.t 52) (.t 53) (.v (.bool false))) (.o 11 2 (.mov (.t 54)) .done)))))))))))) .ret) .skip)) (.seq (.g (.o 0 7 (.mov (.i 0)) .done) (.block 0 (.loop (.seq (.g (.o 0 55 (.mov (.t 7)) (.o 1 56 (.fad (.t 3) 2) (.o 2 57 (.load none (.t 56)) (.o 3 58 (.len (.t 57)) (.o 4 59 (.bin .lss (.t 55) (.t 58)) .done))))) (.cond (.t 59) .skip (.exit 0))) (.seq (.block 1 (.g (.o 0 62 (.fad (.t 3) 2) (.o 1 63 (.load none (.t 62)) (.o 2 64 (.mov (.t 7)) (.o 3 65 (.iad 7 (.t 63) (.t 64)) (.o 4 66 (.load (some 7) (.t 65)) (.o 5 8 (.alloc 8 [(.n 1), (.i 0), (.i 0), (.n 7), (.i 0), (.i 0), (.i 0)]) (.op 6 [] none none false (.store (some 7) (.t 8) (.t 66)) .done))))))) (.g (.o 0 68 (.load (some 3) (.t 3)) (.o 1 69 (.fad (.t 8) 0) (.o 2 70 (.load (some 1) (.t 69)) (.o 3 71 (.fad (.t 8) 1) (.o 4 72 (.load none (.t 71)) (.o 5 73 (.call 73 23 [(.t 68), (.t 70), (.t 72)]) (.o 6 67 (.mov (.t 73)) (.o 7 74 (.ext (.t 67) 0) (.o 8 75 (.ext (.t 67) 1) (.o 9 76 (.ext (.t 67) 2) (.o 10 9 (.alloc 9 [(.i 0), (.i 0), (.n 7)]) (.op 11 [] none none false (.store (some 3) (.t 9) (.t 74)) (.o 12 10 (.mov (.t 75)) (.o 13 11 (.mov (.t 76)) .done)))))))))))))) (.g (.o 0 78 (.load (some 3) (.t 5)) (.o 1 79 (.fad (.t 8) 0) (.o 2 80 (.load (some 1) (.t 79)) (.o 3 81 (.fad (.t 8) 1) (.o 4 82 (.load none (.t 81)) (.o 5 83 (.call 83 23 [(.t 78), (.t 80), (.t 82)]) (.o 6 77 (.mov (.t 83)) (.o 7 84 (.ext (.t 77) 0) (.o 8 85 (.ext (.t 77) 1) (.o 9 86 (.ext (.t 77) 2) (.o 10 12 (.alloc 12 [(.i 0), (.i 0), (.n 7)]) (.op 11 [] none none false (.store (some 3) (.t 12) (.t 84)) (.o 12 13 (.mov (.t 85)) (.o 13 14 (.mov (.t 86)) .done)))))))))))))) (.seq (.g (.o 0 87 (.mov (.t 14)) (.o 1 88 (.bin .eql (.t 87) (.i 0)) (.o 2 89 (.fad (.t 8) 5) (.o 3 90 (.load none (.t 89)) (.o 4 91 (.mov (.t 4)) (.o 5 92 (.bin .leq (.t 90) (.t 91)) (.o 6 93 (.beq true (.t 88) (.t 92)) .done))))))) (.cond (.t 93) (.g (.o 0 2 (.mov (.v (.bool false))) .done) .ret) .skip)) (.g (.o 0 15 (.mov (.i 0)) .done) (.block 2 (.loop (.seq (.g (.o 0 94 (.mov (.t 15)) (.o 1 95 (.mov (.t 13)) (.o 2 96 (.len (.t 95)) (.o 3 97 (.bin .lss (.t 94) (.t 96)) .done)))) (.cond (.t 97) .skip (.exit 2))) (.seq (.block 3 (.seq (.reg true (.op 0 [] (some 100) none true (.mov (.t 13)) (.op 1 [] (some 101) none true (.mov (.t 15)) (.op 2 [] (some 102) none true (.iad 7 (.t 100) (.t 101)) (.op 3 [] (some 103) none true (.fad (.t 102) 2) (.op 4 [] (some 104) none true (.load none (.t 103)) (.op 5 [] (some 105) none true (.mov (.t 10)) (.op 6 [] (some 106) none true (.mov (.t 15)) (.op 7 [] (some 107) none true (.iad 7 (.t 105) (.t 106)) (.op 8 [] (some 108) none true (.fad (.t 107) 2) (.op 9 [] (some 109) none true (.load none (.t 108)) (.op 10 [] (some 110) none true (.bin .gtr (.t 104) (.t 109)) (.op 11 [] (some 111) none true (.mov (.t 110)) (.op 12 [] (some 112) (some (111, false)) true (.mov (.t 13)) (.op 13 [] (some 113) (some (111, false)) true (.mov (.t 15)) (.op 14 [] (some 114) (some (111, false)) true (.iad 7 (.t 112) (.t 113)) (.op 15 [] (some 115) (some (111, false)) true (.fad (.t 114) 2) (.op 16 [] (some 116) (some (111, false)) true (.load none (.t 115)) (.op 17 [] (some 117) (some (111, false)) true (.fad (.t 8) 5) (.op 18 [] (some 118) (some (111, false)) true (.load none (.t 117)) (.op 19 [] (some 119) (some (111, false)) true (.mov (.t 4)) (.op 20 [] (some 120) (some (111, false)) true (.bin .sub (.t 118) (.t 119)) (.op 21 [] (some 121) (some (111, false)) true (.bin .gtr (.t 116) (.t 120)) (.op 22 [] (some 122) none true (.pick (.t 111) (.v (.bool true)) (.t 121)) .done)))))))))))))))))))))))) (.cond (.t 122) (.g (.o 0 2 (.mov (.v (.bool false))) .done) .ret) .skip))) (.reg false (.o 0 98 (.mov (.t 15)) (.o 1 99 (.bin .add (.t 98) (.i 1)) (.o 2 15 (.mov (.t 99)) .done)))))))))))))) (.reg false (.o 0 60 (.mov (.t 7)) (.o 1 61 (.bin .add (.t 60) (.i 1)) (.o 2 7 (.mov (.t 61)) .done))))))))) (.g (.o 0 124 (.load (some 3) (.t 3)) (.o 1 125 (.fad (.t 3) 0) (.o 2 126 (.load none (.t 125)) (.o 3 127 (.mov (.t 4)) (.o 4 128 (.fad (.t 3) 0) (.o 5 129 (.load none (.t 128)) (.o 6 130 (.bin .sub (.t 127) (.t 129)) (.o 7 131 (.bin .quo (.t 130) (.i 2)) (.o 8 132 (.bin .add (.t 126) (.t 131)) (.o 9 133 (.call 133 55 [(.t 124), (.t 132)]) (.o 10 123 (.mov (.t 133)) (.o 11 134 (.ext (.t 123) 0) (.o 12 135 (.ext (.t 123) 1) (.o 13 16 (.alloc 16 [(.i 0), (.i 0), (.n 7)]) (.op 14 [] none none false (.store (some 3) (.t 16) (.t 134)) (.o 15 17 (.mov (.t 135)) .done)))))))))))))))) (.g (.o 0 137 (.load (some 3) (.t 16)) (.o 1 138 (.mov (.t 4)) (.o 2 139 (.call 139 55 [(.t 137), (.t 138)]) (.o 3 136 (.mov (.t 139)) (.o 4 140 (.ext (.t 136) 0) (.o 5 141 (.ext (.t 136) 1) (.o 6 18 (.alloc 18 [(.i 0), (.i 0), (.n 7)]) (.op 7 [] none none false (.store (some 3) (.t 18) (.t 140)) (.o 8 19 (.mov (.t 141)) .done))))))))) (.g (.o 0 142 (.load (some 3) (.t 5)) (.o 1 143 (.call 143 56 [(.t 142)]) (.o 2 144 (.mov (.t 143)) (.op 3 [] (some 145) (some (144, true)) false (.load (some 3) (.t 18)) (.op 4 [] (some 146) (some (144, true)) false (.load (some 3) (.t 5)) (.op 5 [] (some 147) (some (144, true)) false (.call 147 53 [(.t 145), (.t 146)]) (.o 6 148 (.pick (.t 144) (.t 147) (.v (.bool false))) (.o 7 149 (.mov (.t 148)) (.op 8 [] (some 150) (some (149, true)) false (.mov (.t 17)) (.op 9 [] (some 151) (some (149, true)) false (.mov (.t 19)) (.op 10 [] (some 152) (some (149, true)) false (.bin .add (.t 150) (.t 151)) (.op 11 [] (some 153) (some (149, true)) false (.mov (.t 6)) (.op 12 [] (some 154) (some (149, true)) false (.bin .eql (.t 152) (.t 153)) (.o 13 155 (.pick (.t 149) (.t 154) (.v (.bool false))) (.o 14 2 (.mov (.t 155)) .done))))))))))))))) .ret))))))))
theorem dg_laws_FnTimes : Tryz.f10.body.bind (digC Tryz.prog Tryz.f10.ntmps []) = some c_laws_FnTimes := by kernel_rfl
theorem rs_laws_FnTimes : resSlots Tryz.prog Tryz.f10 = some [.s 2] := by kernel_rfl
theorem ok_laws_FnTimes (code : List UInt8) (hb : (code.length : Int) ≤ 9223372036854775807) :
    FnOK Tryz.prog 10 [.one (.d (encB code))] (fun ra _ => ra = [.one (.d (.sc (.bool true)))]) := by
  refine FnOK.ofK Tryz.func10 (by kernel_rfl) dg_laws_FnTimes rs_laws_FnTimes rfl rfl ?_
  delta c_laws_FnTimes T.o X.i C.g
  have hstopo28 := trivial
  refine Kbc (Ka Y (Kdb (Kc (Ka Y (kCallX false (ok_spec_DrawCacheTick _ prx) ⟨Y, trivial⟩ Y (fun _ => rfl) (fun _ => rfl) (fun x0 _ hx0 => (kMovT Y (kExtC Y Y (kExtC Y Y (kAlloc Y Y (Ko Y Y Y Y (Ka Y (Kdb ?_)))))))))))))
  clear hstopo28
  obtain ⟨c, now⟩ := x0
  simp only at hx0 ⊢
  obtain ⟨hc, hn1, hn2⟩ := hx0
  have hss := hc.ss
  have hcn := hc.n
  by_cases hk : cacheOk c = true ∧ c.now ≤ now ∧ now ≤ 1000000
  case neg =>
    obtain ⟨e1, e2⟩ := tick_off hk
    have hstopo32 := trivial
    refine Kc (Ke Y Y Y (Ka Y (Ku true (ok_impl_CacheTick _ _ prx) ⟨⟨⟨Y, Y, Y, trivial⟩, leb⟩, rfl, trivial⟩ Y Y Y (fun _ => (kMovT Y (kExtC Y Y (kExtC Y Y (kAlloc Y Y (Ko Y Y Y Y (Ka Y (Kdb (Kb ?_))))))))))))
    clear hstopo32
    rw [e1, e2]
    refine Kc (Ke Y Y Y (Kp (ok_spec_CacheOk _ prx) ⟨⟨⟨Y, Y, Y, trivial⟩, leb⟩, trivial⟩ Y Y Y Y Y (Kw Y Y (Ka Y (kGN Y (fun g0 => Kg Y (Kg Y (Kg Y (Kg Y (Kk Y (Ka Y (Ka Y (Kg Y (Kg Y (Kk Y (Ka Y (Kd (kCondT Y (Kbc (Ka Y (Kj Y Y Y (Ka Y (Ki Y (Kf Y Y (Ki Y (Ke Y Y Y (Ki Y (Kq Y Y (Ki Y (Kj Y Y Y (Kk Y (Ka Y (Ka Y (Ki Y (Kp (ok_laws_caches) trivial rfl rfl rfl rfl rfl (Kk Y (Ka Y (Ka Y (Kd (Kr (Er (ra := [.one (.d _)]) rfl rfl)))))))))))))))))))))))))))))))))))) (fun g0 => Ki Y (Ka Y (Ki Y (Kf Y Y (Ki Y (Ke Y Y Y (Ki Y (Kj Y Y Y (Kl Y (Ka Y (Ka Y (kGP Y (fun g1 => Kg Y (Kg Y (Kk Y (Ka Y (Kd (kCondT Y (Kbc (Ka Y (Kj Y Y Y (Ka Y (Ki Y (Kf Y Y (Ki Y (Ke Y Y Y (Ki Y (Kq Y Y (Ki Y (Kj Y Y Y (Kk Y (Ka Y (Ka Y (Ki Y (Kp (ok_laws_caches) trivial rfl rfl rfl rfl rfl (Kk Y (Ka Y (Ka Y (Kd (Kr (Er (ra := [.one (.d _)]) rfl rfl))))))))))))))))))))))))))))) (fun g1 => Ki Y (Ka Y (Ki Y (Kj Y Y Y (Kl Y (Ka Y (Kd (Km Y (fun g2 => Kbc (Ka Y (Kj Y Y Y (Ka Y (Ki Y (Kf Y Y (Ki Y (Ke Y Y Y (Ki Y (Kq Y Y (Ki Y (Kj Y Y Y (Kk Y (Ka Y (Ka Y (Ki Y (Kp (ok_laws_caches) trivial rfl rfl rfl rfl rfl (Kk Y (Ka Y (Ka Y (Kd (Kr (Er (ra := [.one (.d _)]) rfl rfl))))))))))))))))))))))) (fun g2 => Kn (Kb (Kbc (Ka Y (Kd (Kt ?_)))))))))))))))))))))))))))))))
    exact absurd ⟨g0, by omega, by omega⟩ hk
  case pos =>
    obtain ⟨hk1, hk2, hk3⟩ := hk
    have hC := cOk.1 hk1
    have hxe := tickN_eq hC hk2 hk3
    have hxs : SmallSs (tickN c now).slots := by rw [hxe]; exact hss.filter _
    have hX : COk (tickN c now) := by rw [hxe]; exact hC.tick hk2 hk3
    have hround := fun s (hs : s ∈ c.slots) => times_round hC hk2 hk3 hs
    have hmid : c.now + (now - c.now).tdiv 2 ≤ now ∧ c.now ≤ c.now + (now - c.now).tdiv 2 := by
      rw [Int.tdiv_eq_ediv_of_nonneg (by omega)]; omega
    have htwo := tick_two hC hk2 hk3 hmid.2 hmid.1
    have hms : SmallSs (tickN c (c.now + (now - c.now).tdiv 2)).slots := by
      rw [tickN_eq hC hmid.2 (by omega)]; exact hss.filter _
    have hlen := hss.len
    have hKb : 0 ≤ tickK c now ∧ tickK c now ≤ 8 := by
      rw [tickK_eq hC hk2 hk3]
      have h1 : (tickS c.slots now).length ≤ c.slots.length := List.length_filter_le _ _
      have h2 := hC.len
      omega
    have hstopo32 := trivial
    refine Kc (Ke Y Y Y (Ka Y (Ku true (ok_impl_CacheTick _ _ prx) ⟨⟨⟨Y, Y, Y, trivial⟩, leb⟩, rfl, trivial⟩ Y Y Y (fun _ => (kMovT Y (kExtC Y Y (kExtC Y Y (kAlloc Y Y (Ko Y Y Y Y (Ka Y (Kdb (Kb ?_))))))))))))
    clear hstopo32
    generalize tickN c now = x at *
    generalize tickK c now = K at *
    refine Kc (Ke Y Y Y (Kp (ok_spec_CacheOk _ prx) ⟨⟨⟨Y, Y, Y, trivial⟩, leb⟩, trivial⟩ Y Y Y Y Y (Kw Y Y (Ka Y (kGN Y (fun g0 => (by (simp [*] at g0))) (fun g0 => Ki Y (Ka Y (Ki Y (Kf Y Y (Ki Y (Ke Y Y Y (Ki Y (Kj Y Y Y (Kl Y (Ka Y (Ka Y (kGP Y (fun g1 => om) (fun g1 => Ki Y (Ka Y (Ki Y (Kj Y Y Y (Kl Y (Ka Y (Kd (Km Y (fun g2 => om) (fun g2 => Kn (Kb (Kbc (Ka Y (Kd (Kt ?_)))))))))))))))))))))))))))))))
    refine kSub (Sub.frzBox (rid 5 0) (rid 28 2) 2 rfl rfl rfl rfl rfl) ?_
    refine kLoop (α := { i : Nat // i ≤ c.slots.length }) (fun y => ⟨tabSl [(3, .c (.ptr (rid 3 0) 1 0)), (4, .i now), (5, .c (.ptr (rid 5 0) 1 0)), (6, .i K), (7, .i y.1)], obTab 1 [(rid 3 0, ⟨1, 0, .box (c.cells.map .d)⟩), (rid 5 0, ⟨1, 0, .box (x.cells.map .d)⟩)], []⟩) (fun y => c.slots.length - y.1) ⟨0, Nat.zero_le _⟩ .normA ?_
    rintro ⟨i, hi⟩
    simp only
    rcases Nat.lt_or_ge i c.slots.length with hlt | hge
    · have hsm := hss.mem _ (List.getElem_mem hlt)
      obtain ⟨r1, r2, r3⟩ := hround _ (List.getElem_mem hlt)
      have hA : SmallRs (cgL c c.slots[i].name c.slots[i].ty) := by unfold cgL; split; exact getL_small hss; exact .nil
      have hB : SmallRs (cgL x c.slots[i].name c.slots[i].ty) := by unfold cgL; split; exact getL_small hxs; exact .nil
      have hnm := hsm.n
      have hstopo87 := trivial
      refine Kb (Kbc (Ka Y (Kf Y Y (Ke Y Y Y (Kq Y Y (Kj Y Y Y (Kd (Km Y (fun g0 => Kn (Kb (Kt (Kbc (Kf Y Y (Ke Y Y Y (Ka Y (kIadR Y Y Y prl (Ky Y Y (kAlloc Y Y (Ko Y Y Y Y (Kdb (Kc (Ke Y Y Y (Kf Y Y (Ke Y Y Y (Kf Y Y (Ke Y Y Y (Ku true (ok_impl_CacheGet _ _ _ prx prx) ⟨⟨⟨Y, Y, Y, trivial⟩, leb⟩, ⟨⟨Y, trivial⟩, leb⟩, rfl, trivial⟩ Y Y Y (fun _ => (kMovT Y (kExtC Y Y (kExtC Y Y (kExtC Y Y (kAlloc Y Y (Ko Y Y Y Y (Ka Y (Ka Y (Kdb (Kc (Ke Y Y Y (Kf Y Y (Ke Y Y Y (Kf Y Y (Ke Y Y Y (Ku true (ok_impl_CacheGet _ _ _ prx prx) ⟨⟨⟨Y, Y, Y, trivial⟩, leb⟩, ⟨⟨Y, trivial⟩, leb⟩, rfl, trivial⟩ Y Y Y (fun _ => (kMovT Y (kExtC Y Y (kExtC Y Y (kExtC Y Y (kAlloc Y Y (Ko Y Y Y Y (Ka Y (Ka Y (Kdb (Kb ?_))))))))))))))))))))))))))))))))))))))))))))))) (fun g0 => om)))))))))
      clear hstopo87
      generalize cgL c c.slots[i].name c.slots[i].ty = A at *
      generalize cgL x c.slots[i].name c.slots[i].ty = B at *
      generalize cgK x c.slots[i].name c.slots[i].ty = k at *
      have hkk : ((k == 0) == decide (c.slots[i].til ≤ now)) = true := by
        by_cases h : k = 0
        · rw [decide_eq_true (r1.1 h)]; simp [h]
        · rw [decide_eq_false fun e => h (r1.2 e)]; simp [h]
      refine Kc (Ka Y (Kj Y Y Y (Kf Y Y (Ke Y Y Y (Ka Y (Kj Y Y Y (kBeq Y Y (Kd (kCondN Y (fun g0 => (by (simp [*] at g0))) (fun g0 => Kn (Kbc (Ka Y (Kd (Kt ?_))))))))))))))
      refine kLoop (α := { j : Nat // j ≤ B.length }) (fun z => ⟨tabSl [(3, .c (.ptr (rid 3 0) 1 0)), (4, .i now), (5, .c (.ptr (rid 5 0) 1 0)), (6, .i K), (7, .i i), (8, .c (.ptr (rid 8 0) 1 0)), (10, .c (.arr (rid 73 64) 1)), (13, .c (.arr (rid 83 64) 1)), (15, .i z.1)], obTab 1 [(rid 3 0, ⟨1, 0, .box (c.cells.map .d)⟩), (rid 5 0, ⟨1, 0, .box (x.cells.map .d)⟩), (rid 8 0, ⟨1, 0, .box (c.slots[i].cells.map .d)⟩), (rid 73 64, ⟨1, 0, .arr true (encR A)⟩), (rid 83 64, ⟨1, 0, .arr true (encR B)⟩)], []⟩) (fun z => B.length - z.1) ⟨0, Nat.zero_le _⟩ .normA ?_
      rintro ⟨j, hj⟩
      simp only
      have hBl := hB.len
      rcases Nat.lt_or_ge j B.length with hjl | hjl
      · obtain ⟨hja, q1, q2⟩ := r3 j hjl
        refine Kb (Kbc (Ka Y (Ka Y (Kq Y Y (Kj Y Y Y (Kd (Km Y (fun g0 => Kn (Kb (Kt (Kb (kRegD (Ka Y (Ka Y (kIadAR Y Y Y Y prl (kFadE Y Y (kLoadER Y Y prl rfl (Ka Y (Ka Y (kIadAR Y Y Y Y prl (kFadE Y Y (kLoadER Y Y prl rfl (Kj Y Y Y (Ka Y (kGP Y (fun g1 => om) (fun g1 => Ki Y (Ka Y (Ki Y (Ka Y (Ki Y (kIadAR Y Y Y Y prl (Ki Y (kFadE Y Y (Ki Y (kLoadER Y Y prl rfl (Ki Y (Kf Y Y (Ki Y (Ke Y Y Y (Ki Y (Ka Y (Ki Y (kDif Y Y om (Ki Y (Kj Y Y Y (Kl Y (Ka Y (Kd (kH (Km Y (fun g2 => om) (fun g2 => Kn (Kv (Kc (Ka Y (kAdd Y Y om (Ka Y (Kd ?_)))))))))))))))))))))))))))))))))))))))))))))))))) (fun g0 => om))))))))
        exact kInv ⟨⟨j + 1, by omega⟩, by simp only; omega, .normA⟩
      · refine Kb (Kbc (Ka Y (Ka Y (Kq Y Y (Kj Y Y Y (Kd (Km Y (fun g0 => om) (fun g0 => kExit (kExC (kExI (kExB (Kv (Kc (Ka Y (kAdd Y Y om (Ka Y (Kd ?_)))))))))))))))))
        exact kInv ⟨⟨i + 1, by omega⟩, by simp only; omega, .normA⟩
    · have hw : IntKind.i64.wrap (c.now + IntKind.i64.wrap ((now - c.now).tdiv 2)) = c.now + (now - c.now).tdiv 2 := by
        rw [show IntKind.i64.wrap ((now - c.now).tdiv 2) = (now - c.now).tdiv 2 by unfold IntKind.wrap; simp [IntKind.bits, IntKind.signed]; omega]
        unfold IntKind.wrap
        simp [IntKind.bits, IntKind.signed]
        omega
      have hstopo139 := trivial
      refine Kb (Kbc (Ka Y (Kf Y Y (Ke Y Y Y (Kq Y Y (Kj Y Y Y (Kd (Km Y (fun g0 => om) (fun g0 => kExit (kExC (kExI (kExB (Kbc (Ke Y Y Y (Kf Y Y (Ke Y Y Y (Ka Y (Kf Y Y (Ke Y Y Y (kDif Y Y om (Kj Y Y Y (Kj Y Y Y (Ku true (ok_impl_CacheTick _ _ prx) ⟨⟨⟨Y, Y, Y, trivial⟩, leb⟩, rfl, trivial⟩ Y Y Y (fun _ => (kMovT Y (kExtC Y Y (kExtC Y Y (kAlloc Y Y (Ko Y Y Y Y (Ka Y (Kdb ?_)))))))))))))))))))))))))))))))
      clear hstopo139
      rw [hw]
      generalize tickN c (c.now + (now - c.now).tdiv 2) = M at *
      generalize tickK c (c.now + (now - c.now).tdiv 2) = k1 at *
      have hstopo142 := trivial
      refine Kc (Ke Y Y Y (Ka Y (Ku true (ok_impl_CacheTick _ _ prx) ⟨⟨⟨Y, Y, Y, trivial⟩, leb⟩, rfl, trivial⟩ Y Y Y (fun _ => (kMovT Y (kExtC Y Y (kExtC Y Y (kAlloc Y Y (Ko Y Y Y Y (Ka Y (Kdb ?_)))))))))))
      clear hstopo142
      rw [htwo.1]
      have hxk := cOk.2 hX
      have hxsame := hX.same
      have hK := htwo.2
      generalize tickK M now = k2 at *
      refine Kc (Ke Y Y Y (Kp (ok_impl_CacheOk _ prx) ⟨⟨⟨Y, Y, Y, trivial⟩, leb⟩, trivial⟩ Y Y Y Y Y (Ka Y (kGS Y (fun g0 => Ki Y (Ke Y Y Y (Ki Y (Ke Y Y Y (Ki Y (Kp (ok_laws_sameCache _ prx prx) ⟨⟨⟨Y, Y, Y, trivial⟩, leb⟩, ⟨⟨Y, Y, Y, trivial⟩, leb⟩, trivial⟩ Y Y Y Y Y (Kk Y (Ka Y (Ka Y (Ki Y (Ka Y (Ki Y (Ka Y (Ki Y (kAdd Y Y om (Ki Y (Ka Y (Ki Y (Kj Y Y Y (Kk Y (Ka Y (Ka Y (Kd (Kr (Er (ra := [.one (.d _)]) rfl ?_))))))))))))))))))))))))) (fun g0 => Kg Y (Kg Y (Kg Y (Kl Y (Ka Y (Ka Y (Kg Y (Kg Y (Kg Y (Kg Y (Kg Y (Kl Y (Ka Y (Ka Y (Kd (Kr (Er (ra := [.one (.d _)]) rfl ?_)))))))))))))))))))))
      · rw [hK, beq_self_eq_true]
      · rw [hxk] at g0; cases g0

end Go.Proofs.YtmdmlncdjdphdaaGreat.FnTimesFn
