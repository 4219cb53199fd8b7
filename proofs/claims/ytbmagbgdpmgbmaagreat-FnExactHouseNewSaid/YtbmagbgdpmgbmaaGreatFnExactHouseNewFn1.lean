/- What the functions that FnExactHouseNew reaches compute, one contract each; each with the bounds that it states. -/
import Derived.Test.YtbmagbgdpmgbmaaGreatHearth3
import Derived.Test.YtbmagbgdpmgbmaaGreatProg
import Derived.KernelRfl
set_option maxRecDepth 100000
set_option maxHeartbeats 8000000
set_option linter.unusedVariables false
set_option linter.unusedSimpArgs false
namespace Go.Proofs.YtbmagbgdpmgbmaaGreat.FnExactHouseNewFn
open Go Hearth Go.Proofs

def c_spec_Lower : C := (.seq (.reg false (.o 0 2 (.mov (.n 1)) .done)) (.seq (.reg false (.o 0 5 (.lit 5 1 [(.v (.int .u8 0))] 0 []) (.o 1 6 (.mov (.t 0)) (.o 2 7 (.app 7 1 1 (.t 5) (.t 6)) (.o 3 3 (.mov (.t 7)) .done))))) (.seq (.seq (.reg false (.o 0 4 (.mov (.i 0)) .done)) (.block 0 (.loop (.seq (.seq (.reg false (.o 0 8 (.mov (.t 4)) (.o 1 9 (.mov (.t 3)) (.o 2 10 (.len (.t 9)) (.o 3 11 (.bin .lss (.t 8) (.t 10)) .done))))) (.cond (.t 11) .skip (.exit 0))) (.seq (.block 1 (.seq (.reg false (.o 0 14 (.mov (.t 3)) (.o 1 15 (.mov (.t 4)) (.o 2 16 (.iad 1 (.t 14) (.t 15)) (.o 3 17 (.load none (.t 16)) (.o 4 18 (.bin .geq (.t 17) (.v (.int .u8 65))) (.o 5 19 (.mov (.t 18)) (.op 6 [] (some 20) (some (19, true)) false (.mov (.t 3)) (.op 7 [] (some 21) (some (19, true)) false (.mov (.t 4)) (.op 8 [] (some 22) (some (19, true)) false (.iad 1 (.t 20) (.t 21)) (.op 9 [] (some 23) (some (19, true)) false (.load none (.t 22)) (.op 10 [] (some 24) (some (19, true)) false (.bin .leq (.t 23) (.v (.int .u8 90))) (.o 11 25 (.pick (.t 19) (.t 24) (.v (.bool false))) .done))))))))))))) (.cond (.t 25) (.reg false (.o 0 26 (.mov (.t 3)) (.o 1 27 (.mov (.t 4)) (.o 2 28 (.mov (.t 3)) (.o 3 29 (.mov (.t 4)) (.o 4 30 (.iad 1 (.t 28) (.t 29)) (.o 5 31 (.load none (.t 30)) (.o 6 32 (.bin .add (.t 31) (.v (.int .u8 32))) (.o 7 33 (.iad 1 (.t 26) (.t 27)) (.op 8 [] none none false (.store none (.t 33) (.t 32)) .done)))))))))) .skip))) (.reg false (.o 0 12 (.mov (.t 4)) (.o 1 13 (.bin .add (.t 12) (.i 1)) (.o 2 4 (.mov (.t 13)) .done))))))))) (.seq (.reg false (.o 0 34 (.mov (.t 3)) (.o 1 2 (.mov (.t 34)) .done))) .ret))))
theorem dg_spec_Lower : Tryz.f260.body.bind (digC Tryz.prog Tryz.f260.ntmps []) = some c_spec_Lower := by kernel_rfl
theorem rs_spec_Lower : resSlots Tryz.prog Tryz.f260 = some [.s 2] := by kernel_rfl
theorem ok_spec_Lower (b : List UInt8) (hb : b.length ≤ 4194304) :
    FnOK Tryz.prog 260 [.one (.d (encB b))] (fun ra _ => ra = [.one (.own true (encB (lowerB b)))]) := by
  refine FnOK.ofK Tryz.func260 (by kernel_rfl) dg_spec_Lower rs_spec_Lower rfl rfl ?_
  delta c_spec_Lower T.o X.i
  refine kSeq (kReg (kMovC rfl (kDone (kSeq (kReg (kLit rfl rfl rfl rfl (kMovC rfl (kAppN rfl rfl rfl (src_encB _ _) rfl rfl rfl rfl (by omega) (kMovC rfl (kDone (kSeq (kSeq (kReg (kMovC rfl (kDone (kBlock ?_))))))))))))))))
  refine kLoop (α := { i : Nat // i ≤ b.length }) (fun y => ⟨tabSl [(3, .c (.arr (rid 5 0) 1)), (4, .i y.1)], obTab 1 [(rid 5 0, ⟨1, 0, .arr true (encB (lowerB (b.take y.1) ++ b.drop y.1))⟩)], []⟩) (fun y => b.length - y.1) ⟨0, by simp⟩ .normA ?_
  rintro ⟨i, hi⟩
  simp only
  have hlen : (lowerB (b.take i) ++ b.drop i).length = b.length := by simp [lowerB]; omega
  rcases Nat.lt_or_ge i b.length with hlt | hge
  · have hget : (lowerB (b.take i) ++ b.drop i)[i]? = some b[i] := by
      rw [List.getElem?_append_right (by simp [lowerB]; omega)]; simp [lowerB, Nat.min_eq_left hi]
    have hst : ∀ c, c = lowC b[i] → (lowerB (b.take i) ++ b.drop i).set i c = lowerB (b.take (i + 1)) ++ b.drop (i + 1) := by
      rintro c rfl
      rw [take_set_succ _ _ _ _ hlt (by simp [lowerB]; omega)]
      unfold lowerB
      rw [← List.take_append_getElem hlt, List.map_append]
      rfl
    revert hget hst hlen
    generalize lowerB (b.take i) ++ b.drop i = L
    intro hlen hget hst
    have hiL : i < L.length := by omega
    have hg : L[i] = b[i] := by rw [List.getElem?_eq_getElem hiL] at hget; simpa using hget
    have hw : IntKind.u8.wrap (((L[i]).toNat : Int) + 32) = ((L[i] + 32 : UInt8).toNat : Int) := by
      have := (L[i]).toNat_lt
      simp [IntKind.wrap, IntKind.bits, IntKind.signed, UInt8.toNat_add]
    have hno : (¬ ((L[i]).toNat : Int) ≥ 65 ∨ ¬ ((L[i]).toNat : Int) ≤ 90) → L = lowerB (b.take (i + 1)) ++ b.drop (i + 1) := by
      intro h
      rw [← hst L[i] (by
        rw [hg] at h ⊢
        unfold lowC
        rw [if_neg]
        rintro ⟨h1, h2⟩
        have h1 := UInt8.le_iff_toNat_le.1 h1
        have h2 := UInt8.le_iff_toNat_le.1 h2
        simp at h1 h2
        omega)]
      simp
    refine kSeq (kSeq (kReg (kMovC rfl (kMovC rfl (kLenR rfl rfl (kBin rfl rfl rfl (kDone (kCondP rfl (fun g0 => kSkip (kSeq (kBlock (kSeq (kReg (kMovC rfl (kMovC rfl (kIadAR rfl rfl rfl rfl (by omega) (kLoadER rfl rfl (by omega) rfl (kBin rfl rfl rfl (kMovC rfl (kGP rfl (fun g1 => (kGT rfl (kMovC rfl (kGT rfl (kMovC rfl (kGT rfl (kIadAR rfl rfl rfl rfl (by omega) (kGT rfl (kLoadER rfl rfl (by omega) rfl (kGT rfl (kBin rfl rfl rfl (kPickT rfl (kMovC rfl (kDone (kCondP rfl (fun g2 => kReg (kMovC rfl (kMovC rfl (kMovC rfl (kMovC rfl (kIadAR rfl rfl rfl rfl (by omega) (kLoadER rfl rfl (by omega) rfl (kBin rfl rfl rfl (kIadAR rfl rfl rfl rfl (by omega) ?_))))))))) (fun g2 => kSkip (kBk (kReg (kMovC rfl (kAdd rfl rfl (by omega) (kMovC rfl (kDone ?_)))))))))))))))))))))) (fun g1 => (kGF rfl (kGF rfl (kGF rfl (kGF rfl (kGF rfl (kPickF rfl (kMovC rfl (kDone (kCondF rfl (kSkip (kBk (kReg (kMovC rfl (kAdd rfl rfl (by omega) (kMovC rfl (kDone ?_))))))))))))))))))))))))))))) (fun g0 => (by omega))))))))))
    · refine kStoreER (z := L[i] + 32) rfl rfl rfl rfl rfl rfl rfl hiL (by rw [← hw]; rfl) ?_
      refine kDone (kBk (kReg (kMovC rfl (kAdd rfl rfl (by omega) (kMovC rfl (kDone ?_))))))
      refine kInv ⟨⟨i + 1, by omega⟩, by simp only; omega, ?_⟩
      simp only
      rw [← hst (L[i] + 32) (by
        rw [hg] at *
        unfold lowC
        rw [if_pos]
        simp only [UInt8.le_iff_toNat_le]
        exact ⟨by simp; omega, by simp; omega⟩)]
      exact .normA
    all_goals
      refine kInv ⟨⟨i + 1, by omega⟩, by simp only; omega, ?_⟩
      simp only
      rw [← hno (by omega)]
      exact .normA
  · refine kSeq (kSeq (kReg (kMovC rfl (kMovC rfl (kLenR rfl rfl (kBin rfl rfl rfl (kDone (kCondP rfl (fun g0 => (by omega)) (fun g0 => kExit (kExC (kExI (kExB (kSeq (kReg (kMovC rfl (kMovC rfl (kDone (kRet (endRetA (ra := [.one (.own true _)]) rfl ?_)))))))))))))))))))
    rw [show i = b.length by omega]
    simp

def c_spec_LabelOk : C := (.seq (.reg false (.o 0 2 (.mov (.v (.bool false))) .done)) (.seq (.seq (.reg false (.o 0 4 (.mov (.t 0)) (.o 1 5 (.len (.t 4)) (.o 2 6 (.bin .lss (.t 5) (.i 1)) (.o 3 7 (.mov (.t 6)) (.op 4 [] (some 8) (some (7, false)) false (.mov (.t 0)) (.op 5 [] (some 9) (some (7, false)) false (.len (.t 8)) (.op 6 [] (some 10) (some (7, false)) false (.bin .gtr (.t 9) (.i 15)) (.o 7 11 (.pick (.t 7) (.v (.bool true)) (.t 10)) .done))))))))) (.cond (.t 11) (.seq (.reg false (.o 0 2 (.mov (.v (.bool false))) .done)) .ret) .skip)) (.seq (.seq (.reg false (.o 0 3 (.mov (.i 0)) .done)) (.block 0 (.loop (.seq (.seq (.reg false (.o 0 12 (.mov (.t 3)) (.o 1 13 (.mov (.t 0)) (.o 2 14 (.len (.t 13)) (.o 3 15 (.bin .lss (.t 12) (.t 14)) .done))))) (.cond (.t 15) .skip (.exit 0))) (.seq (.block 1 (.seq (.reg false (.o 0 18 (.mov (.t 0)) (.o 1 19 (.mov (.t 3)) (.o 2 20 (.iad 1 (.t 18) (.t 19)) (.o 3 21 (.load none (.t 20)) (.o 4 22 (.bin .geq (.t 21) (.v (.int .u8 97))) (.o 5 23 (.mov (.t 22)) (.op 6 [] (some 24) (some (23, true)) false (.mov (.t 0)) (.op 7 [] (some 25) (some (23, true)) false (.mov (.t 3)) (.op 8 [] (some 26) (some (23, true)) false (.iad 1 (.t 24) (.t 25)) (.op 9 [] (some 27) (some (23, true)) false (.load none (.t 26)) (.op 10 [] (some 28) (some (23, true)) false (.bin .leq (.t 27) (.v (.int .u8 122))) (.o 11 29 (.pick (.t 23) (.t 28) (.v (.bool false))) (.o 12 30 (.un .not (.t 29)) (.o 13 31 (.mov (.t 30)) (.op 14 [] (some 32) (some (31, true)) false (.mov (.t 0)) (.op 15 [] (some 33) (some (31, true)) false (.mov (.t 3)) (.op 16 [] (some 34) (some (31, true)) false (.iad 1 (.t 32) (.t 33)) (.op 17 [] (some 35) (some (31, true)) false (.load none (.t 34)) (.op 18 [] (some 36) (some (31, true)) false (.bin .geq (.t 35) (.v (.int .u8 48))) (.op 19 [] (some 37) (some (31, true)) false (.mov (.t 36)) (.op 20 [] (some 38) (some (37, true)) false (.mov (.t 0)) (.op 21 [] (some 39) (some (37, true)) false (.mov (.t 3)) (.op 22 [] (some 40) (some (37, true)) false (.iad 1 (.t 38) (.t 39)) (.op 23 [] (some 41) (some (37, true)) false (.load none (.t 40)) (.op 24 [] (some 42) (some (37, true)) false (.bin .leq (.t 41) (.v (.int .u8 57))) (.op 25 [] (some 43) (some (31, true)) false (.pick (.t 37) (.t 42) (.v (.bool false))) (.op 26 [] (some 44) (some (31, true)) false (.un .not (.t 43)) (.o 27 45 (.pick (.t 31) (.t 44) (.v (.bool false))) (.o 28 46 (.mov (.t 45)) (.op 29 [] (some 47) (some (46, true)) false (.mov (.t 0)) (.op 30 [] (some 48) (some (46, true)) false (.mov (.t 3)) (.op 31 [] (some 49) (some (46, true)) false (.iad 1 (.t 47) (.t 48)) (.op 32 [] (some 50) (some (46, true)) false (.load none (.t 49)) (.op 33 [] (some 51) (some (46, true)) false (.bin .neq (.t 50) (.v (.int .u8 45))) (.o 34 52 (.pick (.t 46) (.t 51) (.v (.bool false))) .done)))))))))))))))))))))))))))))))))))) (.cond (.t 52) (.seq (.reg false (.o 0 2 (.mov (.v (.bool false))) .done)) .ret) .skip))) (.reg false (.o 0 16 (.mov (.t 3)) (.o 1 17 (.bin .add (.t 16) (.i 1)) (.o 2 3 (.mov (.t 17)) .done))))))))) (.seq (.reg false (.o 0 2 (.mov (.v (.bool true))) .done)) .ret))))
theorem dg_spec_LabelOk : Tryz.f81.body.bind (digC Tryz.prog Tryz.f81.ntmps []) = some c_spec_LabelOk := by kernel_rfl
theorem rs_spec_LabelOk : resSlots Tryz.prog Tryz.f81 = some [.s 2] := by kernel_rfl
theorem ok_spec_LabelOk (b : List UInt8) (hb : b.length ≤ 4194304) :
    FnOK Tryz.prog 81 [.one (.d (encB b))] (fun ra _ => ra = [.one (.d (.sc (.bool (labelOk b))))]) := by
  refine FnOK.ofK Tryz.func81 (by kernel_rfl) dg_spec_LabelOk rs_spec_LabelOk rfl rfl ?_
  delta c_spec_LabelOk T.o X.i
  refine kSeq (kReg (kMovC rfl (kDone (kSeq (kSeq (kReg (kMovC rfl (kLenR rfl rfl (kBin rfl rfl rfl (kMovC rfl (kGP rfl (fun g0 => kGF rfl (kGF rfl (kGF rfl (kPickT rfl (kMovC rfl (kDone (kCondT rfl (kSeq (kReg (kMovC rfl (kDone (kRet (endRetA (ra := [.one (.d _)]) rfl ?_))))))))))))) (fun g0 => kGT rfl (kMovC rfl (kGT rfl (kLenR rfl rfl (kGT rfl (kBin rfl rfl rfl (kPickF rfl (kMovC rfl (kDone (kCondP rfl (fun g1 => kSeq (kReg (kMovC rfl (kDone (kRet (endRetA (ra := [.one (.d _)]) rfl ?_)))))) (fun g1 => kSkip (kSeq (kSeq (kReg (kMovC rfl (kDone (kBlock ?_))))))))))))))))))))))))))))
  · rw [show labelOk b = false by simp only [labelOk]; rw [decide_eq_false (by omega)]; rfl]
  · rw [show labelOk b = false by simp only [labelOk]; rw [decide_eq_false (p := b.length ≤ 15) (by omega)]; simp]
  refine kLoop (α := { i : Nat // i ≤ b.length ∧ (b.take i).all okLetter = true })
    (fun y => ⟨tabSl [(0, .dv (encB b)), (3, .i y.1)], (St.init [.one (.d (encB b))]).ob, []⟩) (fun y => b.length - y.1) ⟨0, by simp⟩
    (.tab rfl ⟨.refl _, .refl _, trivial⟩) ?_
  rintro ⟨i, hi, hl⟩
  simp only
  refine kSeq (kSeq (kReg (kMovC rfl (kMovC rfl (kLenR rfl rfl (kBin rfl rfl rfl (kDone (kCondP rfl (fun g0 => kSkip (kSeq (kBlock (kSeq (kReg (kMovC rfl (kMovC rfl (kIadR rfl rfl rfl (by omega) (kLoadD rfl rfl (kBin rfl rfl rfl (kMovC rfl (kGP rfl (fun g1 => kGT rfl (kMovC rfl (kGT rfl (kMovC rfl (kGT rfl (kIadR rfl rfl rfl (by omega) (kGT rfl (kLoadD rfl rfl (kGT rfl (kBin rfl rfl rfl (kPickT rfl (kMovC rfl (kUn rfl rfl (kMovC rfl (kGN rfl (fun g2 => kGT rfl (kMovC rfl (kGT rfl (kMovC rfl (kGT rfl (kIadR rfl rfl rfl (by omega) (kGT rfl (kLoadD rfl rfl (kGT rfl (kBin rfl rfl rfl (kGT rfl (kMovC rfl (kGP rfl (fun g3 => kGT rfl (kMovC rfl (kGT rfl (kMovC rfl (kGT rfl (kIadR rfl rfl rfl (by omega) (kGT rfl (kLoadD rfl rfl (kGT rfl (kBin rfl rfl rfl (kGT rfl (kPickT rfl (kMovC rfl (kGT rfl (kUn rfl rfl (kPickT rfl (kMovC rfl (kMovC rfl (kGN rfl (fun g4 => kGT rfl (kMovC rfl (kGT rfl (kMovC rfl (kGT rfl (kIadR rfl rfl rfl (by omega) (kGT rfl (kLoadD rfl rfl (kGT rfl (kBin rfl rfl rfl (kPickT rfl (kMovC rfl (kDone (kCondN rfl (fun g5 => kSeq (kReg (kMovC rfl (kDone (kRet (endRetA (ra := [.one (.d _)]) rfl ?_)))))) (fun g5 => kSkip (kBk (kReg (kMovC rfl (kAdd rfl rfl (by omega) (kMovC rfl (kDone ?_))))))))))))))))))))) (fun g4 => kGF rfl (kGF rfl (kGF rfl (kGF rfl (kGF rfl (kPickF rfl (kMovC rfl (kDone (kCondF rfl (kSkip (kBk (kReg (kMovC rfl (kAdd rfl rfl (by omega) (kMovC rfl (kDone ?_))))))))))))))))))))))))))))))))))) (fun g3 => (by omega))))))))))))))) (fun g2 => kGF rfl (kGF rfl (kGF rfl (kGF rfl (kGF rfl (kGF rfl (kGU rfl (kGU rfl (kGU rfl (kGU rfl (kGU rfl (kGF rfl (kGF rfl (kPickF rfl (kMovC rfl (kMovC rfl (kGF rfl (kGF rfl (kGF rfl (kGF rfl (kGF rfl (kPickF rfl (kMovC rfl (kDone (kCondF rfl (kSkip (kBk (kReg (kMovC rfl (kAdd rfl rfl (by omega) (kMovC rfl (kDone ?_))))))))))))))))))))))))))))))))))))))))))))))) (fun g1 => kGF rfl (kGF rfl (kGF rfl (kGF rfl (kGF rfl (kPickF rfl (kMovC rfl (kUn rfl rfl (kMovC rfl (kGT rfl (kMovC rfl (kGT rfl (kMovC rfl (kGT rfl (kIadR rfl rfl rfl (by omega) (kGT rfl (kLoadD rfl rfl (kGT rfl (kBin rfl rfl rfl (kGT rfl (kMovC rfl (kGP rfl (fun g6 => kGT rfl (kMovC rfl (kGT rfl (kMovC rfl (kGT rfl (kIadR rfl rfl rfl (by omega) (kGT rfl (kLoadD rfl rfl (kGT rfl (kBin rfl rfl rfl (kGT rfl (kPickT rfl (kMovC rfl (kGT rfl (kUn rfl rfl (kPickT rfl (kMovC rfl (kMovC rfl (kGN rfl (fun g7 => kGT rfl (kMovC rfl (kGT rfl (kMovC rfl (kGT rfl (kIadR rfl rfl rfl (by omega) (kGT rfl (kLoadD rfl rfl (kGT rfl (kBin rfl rfl rfl (kPickT rfl (kMovC rfl (kDone (kCondN rfl (fun g8 => kSeq (kReg (kMovC rfl (kDone (kRet (endRetA (ra := [.one (.d _)]) rfl ?_)))))) (fun g8 => kSkip (kBk (kReg (kMovC rfl (kAdd rfl rfl (by omega) (kMovC rfl (kDone ?_))))))))))))))))))))) (fun g7 => kGF rfl (kGF rfl (kGF rfl (kGF rfl (kGF rfl (kPickF rfl (kMovC rfl (kDone (kCondF rfl (kSkip (kBk (kReg (kMovC rfl (kAdd rfl rfl (by omega) (kMovC rfl (kDone ?_))))))))))))))))))))))))))))))))))) (fun g6 => kGF rfl (kGF rfl (kGF rfl (kGF rfl (kGF rfl (kGT rfl (kPickF rfl (kMovC rfl (kGT rfl (kUn rfl rfl (kPickT rfl (kMovC rfl (kMovC rfl (kGT rfl (kMovC rfl (kGT rfl (kMovC rfl (kGT rfl (kIadR rfl rfl rfl (by omega) (kGT rfl (kLoadD rfl rfl (kGT rfl (kBin rfl rfl rfl (kPickT rfl (kMovC rfl (kDone (kCondN rfl (fun g9 => kSeq (kReg (kMovC rfl (kDone (kRet (endRetA (ra := [.one (.d _)]) rfl ?_)))))) (fun g9 => kSkip (kBk (kReg (kMovC rfl (kAdd rfl rfl (by omega) (kMovC rfl (kDone ?_)))))))))))))))))))))))))))))))))))))))))))))))))))))))))))))))))))) (fun g0 => kExit (kExC (kExI (kExB (kSeq (kReg (kMovC rfl (kDone (kRet (endRetA (ra := [.one (.d _)]) rfl ?_))))))))))))))))))
  all_goals try simp only [decide_eq_true_eq, decide_eq_false_iff_not, beq_iff_eq, beq_eq_false_iff_ne] at *
  all_goals first
    | exact kInv ⟨⟨i + 1, by omega, labelOk_step (by omega) hl (by rw [okLetter_iff]; omega)⟩, by simp only; omega, .tab rfl ⟨.refl _, .refl _, trivial⟩⟩
    | rw [labelOk_no (b := b) (i := i) (by omega) (by rw [okLetter_iff]; omega)]
    | skip
  have hge : i = b.length := by omega
  subst hge
  rw [List.take_length] at hl
  rw [show labelOk b = true by simp only [labelOk]; rw [decide_eq_true (by omega), decide_eq_true (by omega), hl]; rfl]

def c_spec_NameOk : C := (.seq (.reg false (.o 0 1 (.box 1 (.t 0)) (.o 1 2 (.mov (.v (.bool false))) .done))) (.seq (.seq (.reg false (.o 0 4 (.fad (.t 1) 0) (.o 1 5 (.load none (.t 4)) (.o 2 6 (.len (.t 5)) (.o 3 7 (.bin .gtr (.t 6) (.i 6)) .done))))) (.cond (.t 7) (.seq (.reg false (.o 0 2 (.mov (.v (.bool false))) .done)) .ret) .skip)) (.seq (.seq (.reg false (.o 0 3 (.mov (.i 0)) .done)) (.block 0 (.loop (.seq (.seq (.reg false (.o 0 8 (.mov (.t 3)) (.o 1 9 (.fad (.t 1) 0) (.o 2 10 (.load none (.t 9)) (.o 3 11 (.len (.t 10)) (.o 4 12 (.bin .lss (.t 8) (.t 11)) .done)))))) (.cond (.t 12) .skip (.exit 0))) (.seq (.block 1 (.seq (.reg false (.o 0 15 (.fad (.t 1) 0) (.o 1 16 (.load none (.t 15)) (.o 2 17 (.mov (.t 3)) (.o 3 18 (.iad 1 (.t 16) (.t 17)) (.o 4 19 (.load none (.t 18)) (.o 5 20 (.call 20 81 [(.t 19)]) (.o 6 21 (.un .not (.t 20)) .done)))))))) (.cond (.t 21) (.seq (.reg false (.o 0 2 (.mov (.v (.bool false))) .done)) .ret) .skip))) (.reg false (.o 0 13 (.mov (.t 3)) (.o 1 14 (.bin .add (.t 13) (.i 1)) (.o 2 3 (.mov (.t 14)) .done))))))))) (.seq (.reg false (.o 0 2 (.mov (.v (.bool true))) .done)) .ret))))
theorem dg_spec_NameOk : Tryz.f15.body.bind (digC Tryz.prog Tryz.f15.ntmps []) = some c_spec_NameOk := by kernel_rfl
theorem rs_spec_NameOk : resSlots Tryz.prog Tryz.f15 = some [.s 2] := by kernel_rfl
theorem ok_spec_NameOk (a : List (List UInt8)) (ha : a.length ≤ 4194304) (hb : ∀ b ∈ a, b.length ≤ 4194304) :
    FnOK Tryz.prog 15 [.agg [.d (encBB a)]] (fun ra _ => ra = [.one (.d (.sc (.bool (nameOk a))))]) := by
  refine FnOK.ofK Tryz.func15 (by kernel_rfl) dg_spec_NameOk rs_spec_NameOk rfl rfl ?_
  delta c_spec_NameOk T.o X.i
  refine kSeq (kReg (kBox rfl rfl rfl rfl rfl (kMovC rfl (kDone (kSeq (kSeq (kReg (kFadP rfl rfl (kLoadP rfl rfl rfl (kLenR rfl rfl (kBin rfl rfl rfl (kDone (kCondP rfl (fun g0 => kSeq (kReg (kMovC rfl (kDone (kRet (endRetA (ra := [.one (.d _)]) rfl ?_)))))) (fun g0 => kSkip (kSeq (kSeq (kReg (kMovC rfl (kDone (kBlock ?_))))))))))))))))))))
  · rw [show nameOk a = false by simp only [nameOk]; rw [decide_eq_false (by omega)]; rfl]
  refine kLoop (α := { i : Nat // i ≤ a.length ∧ (a.take i).all labelOk = true })
    (fun y => ⟨tabSl [(1, .c (.ptr (rid 1 0) 1 0)), (3, .i y.1)], obTab 1 [(rid 1 0, ⟨1, 0, .box [.d (encBB a)]⟩)], []⟩) (fun y => a.length - y.1) ⟨0, by simp⟩
    .normA ?_
  rintro ⟨i, hi, hl⟩
  simp only
  refine kSeq (kSeq (kReg (kMovC rfl (kFadP rfl rfl (kLoadP rfl rfl rfl (kLenR rfl rfl (kBin rfl rfl rfl (kDone (kCondP rfl (fun g0 => kSkip (kSeq (kBlock (kSeq (kReg (kFadP rfl rfl (kLoadP rfl rfl rfl (kMovC rfl (kIadR rfl rfl rfl (by omega) (kLoadD rfl rfl (kCallD (ok_spec_LabelOk _ (by first | assumption | omega | solve_by_elim [List.getElem_mem])) ⟨rfl, trivial⟩ rfl rfl rfl rfl rfl (kUn rfl rfl (kDone (kCondN rfl (fun g1 => kSeq (kReg (kMovC rfl (kDone (kRet (endRetA (ra := [.one (.d _)]) rfl ?_)))))) (fun g1 => kSkip (kBk (kReg (kMovC rfl (kAdd rfl rfl (by omega) (kMovC rfl (kDone ?_))))))))))))))))))))) (fun g0 => kExit (kExC (kExI (kExB (kSeq (kReg (kMovC rfl (kDone (kRet (endRetA (ra := [.one (.d _)]) rfl ?_)))))))))))))))))))
  · rename_i h
    rw [show nameOk a = false by simp only [nameOk]; rw [all_no (i := i) (by omega) (by assumption), Bool.and_false]]
  · exact kInv ⟨⟨i + 1, by omega, all_step (by omega) hl (by assumption)⟩, by simp only; omega, .normA⟩
  · have hge : i = a.length := by omega
    subst hge
    rw [List.take_length] at hl
    rw [show nameOk a = true by simp only [nameOk]; rw [decide_eq_true (by omega), hl]; rfl]

def c_spec_NameRead : C := (.seq (.reg false (.o 0 2 (.alloc 2 [(.n 1)]) (.o 1 3 (.mov (.v (.bool false))) .done))) (.seq (.seq (.reg false (.o 0 7 (.mov (.t 0)) (.o 1 8 (.b2s (.t 7)) (.o 2 9 (.bin .eql (.t 8) (.v (.string ⟨#[46]⟩))) .done)))) (.cond (.t 9) (.seq (.reg false (.o 0 10 (.build [(.n 1)] []) (.op 1 [] none none false (.store (some 1) (.t 2) (.t 10)) (.o 2 3 (.mov (.v (.bool true))) .done)))) .ret) .skip)) (.seq (.reg false (.o 0 4 (.alloc 4 [(.n 1)]) .done)) (.seq (.reg false (.o 0 5 (.mov (.n 1)) .done)) (.seq (.seq (.reg false (.o 0 6 (.mov (.i 0)) .done)) (.block 0 (.loop (.seq (.seq (.reg false (.o 0 11 (.mov (.t 6)) (.o 1 12 (.mov (.t 0)) (.o 2 13 (.len (.t 12)) (.o 3 14 (.bin .leq (.t 11) (.t 13)) .done))))) (.cond (.t 14) .skip (.exit 0))) (.seq (.block 1 (.seq (.seq (.reg false (.o 0 17 (.mov (.t 6)) (.o 1 18 (.mov (.t 0)) (.o 2 19 (.len (.t 18)) (.o 3 20 (.bin .lss (.t 17) (.t 19)) (.o 4 21 (.mov (.t 20)) (.op 5 [] (some 22) (some (21, true)) false (.mov (.t 0)) (.op 6 [] (some 23) (some (21, true)) false (.mov (.t 6)) (.op 7 [] (some 24) (some (21, true)) false (.iad 1 (.t 22) (.t 23)) (.op 8 [] (some 25) (some (21, true)) false (.load none (.t 24)) (.op 9 [] (some 26) (some (21, true)) false (.bin .neq (.t 25) (.v (.int .u8 46))) (.o 10 27 (.pick (.t 21) (.t 26) (.v (.bool false))) .done)))))))))))) (.cond (.t 27) (.seq (.reg false (.o 0 28 (.mov (.t 5)) (.o 1 29 (.mov (.t 0)) (.o 2 30 (.mov (.t 6)) (.o 3 31 (.iad 1 (.t 29) (.t 30)) (.o 4 32 (.load none (.t 31)) (.o 5 33 (.lit 33 1 [(.v (.int .u8 0))] 1 [(0, 1, (.t 32))]) (.o 6 34 (.app 34 1 1 (.t 28) (.t 33)) (.o 7 5 (.mov (.t 34)) .done))))))))) (.exit 1)) .skip)) (.seq (.seq (.reg false (.o 0 35 (.mov (.t 6)) (.o 1 36 (.mov (.t 0)) (.o 2 37 (.len (.t 36)) (.o 3 38 (.bin .eql (.t 35) (.t 37)) (.o 4 39 (.mov (.t 38)) (.op 5 [] (some 40) (some (39, true)) false (.mov (.t 5)) (.op 6 [] (some 41) (some (39, true)) false (.len (.t 40)) (.op 7 [] (some 42) (some (39, true)) false (.bin .eql (.t 41) (.i 0)) (.o 8 43 (.pick (.t 39) (.t 42) (.v (.bool false))) (.o 9 44 (.mov (.t 43)) (.op 10 [] (some 45) (some (44, true)) false (.mov (.t 6)) (.op 11 [] (some 46) (some (44, true)) false (.bin .gtr (.t 45) (.i 0)) (.o 12 47 (.pick (.t 44) (.t 46) (.v (.bool false))) .done)))))))))))))) (.cond (.t 47) (.exit 0) .skip)) (.seq (.reg true (.op 0 [] (some 48) none true (.fad (.t 4) 0) (.op 1 [] (some 49) none true (.load none (.t 48)) (.op 2 [] (some 50) none true (.mov (.t 5)) (.o 3 51 (.call 51 260 [(.t 50)]) (.o 4 52 (.lit 52 1 [(.n 1)] 1 [(0, 1, (.t 51))]) (.op 5 [1] (some 53) none false (.app 53 1 24 (.t 49) (.t 52)) (.op 6 [] (some 54) none true (.fad (.t 4) 0) (.op 7 [1] none none false (.store none (.t 54) (.t 53)) .done))))))))) (.reg false (.o 0 5 (.mov (.n 1)) .done)))))) (.reg false (.o 0 15 (.mov (.t 6)) (.o 1 16 (.bin .add (.t 15) (.i 1)) (.o 2 6 (.mov (.t 16)) .done))))))))) (.seq (.seq (.reg false (.o 0 55 (.load (some 1) (.t 4)) (.o 1 56 (.call 56 15 [(.t 55)]) (.o 2 57 (.un .not (.t 56)) .done)))) (.cond (.t 57) (.seq (.reg false (.o 0 58 (.build [(.n 1)] []) (.op 1 [] none none false (.store (some 1) (.t 2) (.t 58)) (.o 2 3 (.mov (.v (.bool false))) .done)))) .ret) .skip)) (.seq (.reg false (.o 0 59 (.load (some 1) (.t 4)) (.op 1 [] none none false (.store (some 1) (.t 2) (.t 59)) (.o 2 3 (.mov (.v (.bool true))) .done)))) .ret)))))))
theorem dg_spec_NameRead : Tryz.f187.body.bind (digC Tryz.prog Tryz.f187.ntmps []) = some c_spec_NameRead := by kernel_rfl
theorem rs_spec_NameRead : resSlots Tryz.prog Tryz.f187 = some [.m 2 (some 1), .s 3] := by kernel_rfl
theorem ok_spec_NameRead (b : List UInt8) (hb : b.length ≤ 4194303) :
    FnOK Tryz.prog 187 [.one (.d (encB b))] (fun ra _ => ra = [.agg [.own true (encBB (readN b))], .one (.d (.sc (.bool (readOk b))))]) := by
  refine FnOK.ofK Tryz.func187 (by kernel_rfl) dg_spec_NameRead rs_spec_NameRead rfl rfl ?_
  delta c_spec_NameRead T.o X.i
  obtain ⟨rl1, rl2⟩ := readL_small hb
  refine kSeq (kReg (kAlloc rfl rfl (kMovC rfl (kDone (kSeq (kSeq (kReg (kMovC rfl (kB2s rfl rfl (kBin rfl rfl rfl (kDone (kCond rfl (fun g0 => kSeq (kReg (kBuildG rfl (kStoreP rfl rfl rfl rfl (kMovC rfl (kDone (kRet (endRetA (ra := [.agg [(.own true _)], .one (.d _)]) rfl ?_)))))))) (fun g0 => kSkip (kSeq (kReg (kAlloc rfl rfl (kDone (kSeq (kReg (kMovC rfl (kDone (kSeq (kSeq (kReg (kMovC rfl (kDone (kBlock ?_)))))))))))))))))))))))))))
  · rw [eq46] at g0
    have e : b = [46] := of_decide_eq_true g0
    subst e
    rfl
  rw [eq46] at g0
  have hne : b ≠ [46] := of_decide_eq_false g0
  have hrn : readN b = if nameOk (readL b) then readL b else [] := by unfold readN; rw [if_neg hne]
  have hro : readOk b = nameOk (readL b) := by unfold readOk; rw [decide_eq_false hne]; rfl
  rw [hrn, hro]
  refine kSub (Sub.nilBox (id := rid 4 0) (id2 := rid 5001 0) (j := 0) rfl rfl rfl (by decide) (by decide)) ?_
  refine kSub (Sub.nilArr (j := 5) (id := rid 5000 0) (sz := 1) rfl (by decide)) ?_
  refine kLoop (α := { i : Nat // i ≤ b.length + 1 }) (fun y => ⟨tabSl [(0, .dv (encB b)), (2, .c (.ptr (rid 2 0) 1 0)), (4, .c (.ptr (rid 4 0) 1 0)), (5, .c (.arr (rid 5000 0) 1)), (6, .i y.1)], obTab 1 [(rid 2 0, ⟨1, 0, .box [.nil 1]⟩), (rid 4 0, ⟨1, 0, .box [.arr (rid 5001 0) 1]⟩), (rid 5000 0, ⟨1, 0, .arr true (encB (rdW b y.1))⟩), (rid 5001 0, ⟨1, 0, .arr true (encBB (rdL b y.1))⟩)], []⟩) (fun y => b.length + 1 - y.1) ⟨0, by simp⟩ .normA ?_
  rintro ⟨i, hi⟩
  simp only
  have hmem := rdW_mem b i
  rcases Nat.lt_or_ge i b.length with hlt | hge
  · have hlens := rd_lens b i (by omega)
    by_cases hc : b[i] = 46
    · obtain ⟨s1, s2⟩ := rd_dot hlt hc
      have hcn : ((b[i]).toNat : Int) = 46 := by rw [hc]; rfl
      revert s1 s2
      generalize rdL b i = L at *
      generalize rdW b i = W at *
      intro s1 s2
      refine kSeq (kSeq (kReg (kMovC rfl (kMovC rfl (kLenR rfl rfl (kBin rfl rfl rfl (kDone (kCondP rfl (fun g0 => kSkip (kSeq (kBlock (kSeq (kSeq (kReg (kMovC rfl (kMovC rfl (kLenR rfl rfl (kBin rfl rfl rfl (kMovC rfl (kGP rfl (fun g1 => kGT rfl (kMovC rfl (kGT rfl (kMovC rfl (kGT rfl (kIadR rfl rfl rfl (by omega) (kGT rfl (kLoadD rfl rfl (kGT rfl (kBin rfl rfl rfl (kPickT rfl (kMovC rfl (kDone (kCondIN rfl (fun g2 => (by omega)) (fun g2 => kSkip (kSeq (kSeq (kReg (kMovC rfl (kMovC rfl (kLenR rfl rfl (kBin rfl rfl rfl (kMovC rfl (kGP rfl (fun g3 => (by omega)) (fun g3 => kGF rfl (kGF rfl (kGF rfl (kPickF rfl (kMovC rfl (kMovC rfl (kGF rfl (kGF rfl (kPickF rfl (kMovC rfl (kDone (kCondF rfl (kSkip (kSeq (kRegD (kFadP rfl rfl (kLoadP rfl rfl rfl (kMovC rfl (kCall1 true (ok_spec_Lower _ (by first | assumption | omega | solve_by_elim [List.getElem_mem] | (simp only [szOut] at *; omega) | exact rfl | exact leb)) ⟨rfl, trivial⟩ rfl rfl rfl (fun _ => (kLit rfl rfl rfl rfl (kRelF rfl rfl (kAppR1 rfl rfl rfl rfl rfl rfl rfl rfl (by omega) (kFadP rfl rfl (kRelF rfl rfl (kStoreP rfl rfl rfl rfl (kDone (kH (kReg (kMovC rfl (kDone (kBk (kReg (kMovC rfl (kAdd rfl rfl (by omega) (kMovC rfl (kDone ?_))))))))))))))))))))))))))))))))))))))))))))))))))))))))))))) (fun g1 => (by omega)))))))))))))) (fun g0 => (by omega))))))))))
      refine kInv ⟨⟨i + 1, by omega⟩, by simp only; omega, ?_⟩
      simp only [s1, s2]
      exact (Sub.nilArr (j := 5) (id := rid 5000 0) (sz := 1) rfl (by decide)).trans .normA
    · obtain ⟨s1, s2⟩ := rd_char hlt hc
      have hcn : ((b[i]).toNat : Int) ≠ 46 := fun h => hc (UInt8.toNat_inj.1 (by have : b[i].toNat = 46 := by omega
                                                                                 rw [this]; rfl))
      revert s1 s2
      generalize rdL b i = L at *
      generalize rdW b i = W at *
      intro s1 s2
      refine kSeq (kSeq (kReg (kMovC rfl (kMovC rfl (kLenR rfl rfl (kBin rfl rfl rfl (kDone (kCondP rfl (fun g0 => kSkip (kSeq (kBlock (kSeq (kSeq (kReg (kMovC rfl (kMovC rfl (kLenR rfl rfl (kBin rfl rfl rfl (kMovC rfl (kGP rfl (fun g1 => kGT rfl (kMovC rfl (kGT rfl (kMovC rfl (kGT rfl (kIadR rfl rfl rfl (by omega) (kGT rfl (kLoadD rfl rfl (kGT rfl (kBin rfl rfl rfl (kPickT rfl (kMovC rfl (kDone (kCondIN rfl (fun g2 => kSeq (kReg (kMovC rfl (kMovC rfl (kMovC rfl (kIadR rfl rfl rfl (by omega) (kLoadD rfl rfl (kLit rfl rfl rfl rfl (kAppR1 rfl rfl rfl rfl rfl rfl rfl rfl (by omega) (kMovC rfl (kDone (kExit (kExC (kExB (kReg (kMovC rfl (kAdd rfl rfl (by omega) (kMovC rfl (kDone ?_))))))))))))))))))) (fun g2 => (by omega)))))))))))))))) (fun g1 => (by omega)))))))))))))) (fun g0 => (by omega))))))))))
      refine kInv ⟨⟨i + 1, by omega⟩, by simp only; omega, ?_⟩
      simp only [s1, s2]
      exact .normA
  · rcases Nat.lt_or_ge b.length i with hgt | hle
    · have e : i = b.length + 1 := by omega
      subst e
      rw [rd_last.1, rd_last.2]
      cases hno : nameOk (readL b)
      · refine kSeq (kSeq (kReg (kMovC rfl (kMovC rfl (kLenR rfl rfl (kBin rfl rfl rfl (kDone (kCondP rfl (fun g0 => (by omega)) (fun g0 => kExit (kExC (kExI (kExB (kSeq (kSeq (kReg (kLoadP rfl rfl rfl (kCallD (ok_spec_NameOk _ (by first | assumption | omega | solve_by_elim [List.getElem_mem] | (simp only [szOut] at *; omega) | exact rfl | exact leb) (by first | assumption | omega | solve_by_elim [List.getElem_mem] | (simp only [szOut] at *; omega) | exact rfl | exact leb)) ⟨⟨⟨rfl, trivial⟩, leb⟩, trivial⟩ rfl rfl rfl rfl rfl (kUn rfl rfl (kDone (kCondN rfl (fun g1 => kSeq (kReg (kBuildG rfl (kStoreP rfl rfl rfl rfl (kMovC rfl (kDone (kRet (endRetA (ra := [.agg [(.own true _)], .one (.d _)]) rfl rfl)))))))) (fun g1 => (by (simp [*] at g1)))))))))))))))))))))))
      · refine kSeq (kSeq (kReg (kMovC rfl (kMovC rfl (kLenR rfl rfl (kBin rfl rfl rfl (kDone (kCondP rfl (fun g0 => (by omega)) (fun g0 => kExit (kExC (kExI (kExB (kSeq (kSeq (kReg (kLoadP rfl rfl rfl (kCallD (ok_spec_NameOk _ (by first | assumption | omega | solve_by_elim [List.getElem_mem] | (simp only [szOut] at *; omega) | exact rfl | exact leb) (by first | assumption | omega | solve_by_elim [List.getElem_mem] | (simp only [szOut] at *; omega) | exact rfl | exact leb)) ⟨⟨⟨rfl, trivial⟩, leb⟩, trivial⟩ rfl rfl rfl rfl rfl (kUn rfl rfl (kDone (kCondN rfl (fun g1 => (by (simp [*] at g1))) (fun g1 => kSkip (kSeq (kReg (kLoadP rfl rfl rfl (kStoreP rfl rfl rfl rfl (kMovC rfl (kDone (kRet (endRetA (ra := [.agg [(.own true _)], .one (.d _)]) rfl rfl)))))))))))))))))))))))))))))
    · have e : i = b.length := by omega
      subst e
      have hlens := rd_lens b b.length (Nat.le_refl _)
      have s1 := (rd_last (b := b)).1
      have s2 := (rd_last (b := b)).2
      by_cases hw : rdW b b.length = [] ∧ 0 < b.length
      · rw [rd_end, if_pos hw] at *
        rw [hw.1]
        obtain ⟨hw1, hw2⟩ := hw
        cases hno : nameOk (rdL b b.length)
        · refine kSeq (kSeq (kReg (kMovC rfl (kMovC rfl (kLenR rfl rfl (kBin rfl rfl rfl (kDone (kCondP rfl (fun g0 => kSkip (kSeq (kBlock (kSeq (kSeq (kReg (kMovC rfl (kMovC rfl (kLenR rfl rfl (kBin rfl rfl rfl (kMovC rfl (kGP rfl (fun g1 => (by omega)) (fun g1 => kGF rfl (kGF rfl (kGF rfl (kGF rfl (kGF rfl (kPickF rfl (kMovC rfl (kDone (kCondF rfl (kSkip (kSeq (kSeq (kReg (kMovC rfl (kMovC rfl (kLenR rfl rfl (kBin rfl rfl rfl (kMovC rfl (kGP rfl (fun g2 => kGT rfl (kMovC rfl (kGT rfl (kLenR rfl rfl (kGT rfl (kBin rfl rfl rfl (kPickT rfl (kMovC rfl (kMovC rfl (kGT rfl (kMovC rfl (kGT rfl (kBin rfl rfl rfl (kPickT rfl (kMovC rfl (kDone (kCondP rfl (fun g3 => kExit (kExC (kExB' rfl (kExC (kExI (kExB (kSeq (kSeq (kReg (kLoadP rfl rfl rfl (kCallD (ok_spec_NameOk _ (by first | assumption | omega | solve_by_elim [List.getElem_mem] | (simp only [szOut] at *; omega) | exact rfl | exact leb) (by first | assumption | omega | solve_by_elim [List.getElem_mem] | (simp only [szOut] at *; omega) | exact rfl | exact leb)) ⟨⟨⟨rfl, trivial⟩, leb⟩, trivial⟩ rfl rfl rfl rfl rfl (kUn rfl rfl (kDone (kCondN rfl (fun g4 => kSeq (kReg (kBuildG rfl (kStoreP rfl rfl rfl rfl (kMovC rfl (kDone (kRet (endRetA (ra := [.agg [(.own true _)], .one (.d _)]) rfl rfl)))))))) (fun g4 => (by (simp [*] at g4))))))))))))))))) (fun g3 => (by omega))))))))))))))))))) (fun g2 => (by omega))))))))))))))))))))))))))))))))) (fun g0 => (by omega))))))))))
        · refine kSeq (kSeq (kReg (kMovC rfl (kMovC rfl (kLenR rfl rfl (kBin rfl rfl rfl (kDone (kCondP rfl (fun g0 => kSkip (kSeq (kBlock (kSeq (kSeq (kReg (kMovC rfl (kMovC rfl (kLenR rfl rfl (kBin rfl rfl rfl (kMovC rfl (kGP rfl (fun g1 => (by omega)) (fun g1 => kGF rfl (kGF rfl (kGF rfl (kGF rfl (kGF rfl (kPickF rfl (kMovC rfl (kDone (kCondF rfl (kSkip (kSeq (kSeq (kReg (kMovC rfl (kMovC rfl (kLenR rfl rfl (kBin rfl rfl rfl (kMovC rfl (kGP rfl (fun g2 => kGT rfl (kMovC rfl (kGT rfl (kLenR rfl rfl (kGT rfl (kBin rfl rfl rfl (kPickT rfl (kMovC rfl (kMovC rfl (kGT rfl (kMovC rfl (kGT rfl (kBin rfl rfl rfl (kPickT rfl (kMovC rfl (kDone (kCondP rfl (fun g3 => kExit (kExC (kExB' rfl (kExC (kExI (kExB (kSeq (kSeq (kReg (kLoadP rfl rfl rfl (kCallD (ok_spec_NameOk _ (by first | assumption | omega | solve_by_elim [List.getElem_mem] | (simp only [szOut] at *; omega) | exact rfl | exact leb) (by first | assumption | omega | solve_by_elim [List.getElem_mem] | (simp only [szOut] at *; omega) | exact rfl | exact leb)) ⟨⟨⟨rfl, trivial⟩, leb⟩, trivial⟩ rfl rfl rfl rfl rfl (kUn rfl rfl (kDone (kCondN rfl (fun g4 => (by (simp [*] at g4))) (fun g4 => kSkip (kSeq (kReg (kLoadP rfl rfl rfl (kStoreP rfl rfl rfl rfl (kMovC rfl (kDone (kRet (endRetA (ra := [.agg [(.own true _)], .one (.d _)]) rfl rfl))))))))))))))))))))))) (fun g3 => (by omega))))))))))))))))))) (fun g2 => (by omega))))))))))))))))))))))))))))))))) (fun g0 => (by omega))))))))))
      · rw [rd_end, if_neg hw] at *
        have hw' : (rdW b b.length).length ≠ 0 ∨ b.length = 0 := by
          rcases Nat.eq_zero_or_pos b.length with h | h
          · exact .inr h
          · exact .inl fun h0 => hw ⟨List.eq_nil_of_length_eq_zero h0, h⟩
        revert s1 s2
        generalize rdL b b.length = L at *
        generalize rdW b b.length = W at *
        intro s1 s2
        refine kSeq (kSeq (kReg (kMovC rfl (kMovC rfl (kLenR rfl rfl (kBin rfl rfl rfl (kDone (kCondP rfl (fun g0 => kSkip (kSeq (kBlock (kSeq (kSeq (kReg (kMovC rfl (kMovC rfl (kLenR rfl rfl (kBin rfl rfl rfl (kMovC rfl (kGP rfl (fun g1 => (by omega)) (fun g1 => kGF rfl (kGF rfl (kGF rfl (kGF rfl (kGF rfl (kPickF rfl (kMovC rfl (kDone (kCondF rfl (kSkip (kSeq (kSeq (kReg (kMovC rfl (kMovC rfl (kLenR rfl rfl (kBin rfl rfl rfl (kMovC rfl (kGP rfl (fun g2 => kGT rfl (kMovC rfl (kGT rfl (kLenR rfl rfl (kGT rfl (kBin rfl rfl rfl (kPickT rfl (kMovC rfl (kMovC rfl (kGP rfl (fun g3 => kGT rfl (kMovC rfl (kGT rfl (kBin rfl rfl rfl (kPickT rfl (kMovC rfl (kDone (kCondP rfl (fun g4 => (by omega)) (fun g4 => kSkip (kSeq (kRegD (kFadP rfl rfl (kLoadP rfl rfl rfl (kMovC rfl (kCall1 true (ok_spec_Lower _ (by first | assumption | omega | solve_by_elim [List.getElem_mem] | (simp only [szOut] at *; omega) | exact rfl | exact leb)) ⟨rfl, trivial⟩ rfl rfl rfl (fun _ => (kLit rfl rfl rfl rfl (kRelF rfl rfl (kAppR1 rfl rfl rfl rfl rfl rfl rfl rfl (by omega) (kFadP rfl rfl (kRelF rfl rfl (kStoreP rfl rfl rfl rfl (kDone (kH (kReg (kMovC rfl (kDone (kBk (kReg (kMovC rfl (kAdd rfl rfl (by omega) (kMovC rfl (kDone ?_))))))))))))))))))))))))))))))))) (fun g3 => kGF rfl (kGF rfl (kPickF rfl (kMovC rfl (kDone (kCondF rfl (kSkip (kSeq (kRegD (kFadP rfl rfl (kLoadP rfl rfl rfl (kMovC rfl (kCall1 true (ok_spec_Lower _ (by first | assumption | omega | solve_by_elim [List.getElem_mem] | (simp only [szOut] at *; omega) | exact rfl | exact leb)) ⟨rfl, trivial⟩ rfl rfl rfl (fun _ => (kLit rfl rfl rfl rfl (kRelF rfl rfl (kAppR1 rfl rfl rfl rfl rfl rfl rfl rfl (by omega) (kFadP rfl rfl (kRelF rfl rfl (kStoreP rfl rfl rfl rfl (kDone (kH (kReg (kMovC rfl (kDone (kBk (kReg (kMovC rfl (kAdd rfl rfl (by omega) (kMovC rfl (kDone ?_))))))))))))))))))))))))))))))))))))))))) (fun g2 => (by omega))))))))))))))))))))))))))))))))) (fun g0 => (by omega))))))))))
        all_goals
          refine kInv ⟨⟨b.length + 1, by omega⟩, by simp only; omega, ?_⟩
          simp only [s1, s2]
          exact (Sub.nilArr (j := 5) (id := rid 5000 0) (sz := 1) rfl (by decide)).trans .normA

def c_spec_l2of : C := (.seq (.reg false (.o 0 2 (.alloc 2 [(.n 1)]) .done)) (.seq (.reg false (.o 0 6 (.mov (.t 0)) (.o 1 7 (.s2b (.t 6)) (.o 2 8 (.call 8 187 [(.t 7)]) (.o 3 5 (.mov (.t 8)) (.o 4 9 (.ext (.t 5) 0) (.o 5 10 (.ext (.t 5) 1) (.o 6 3 (.alloc 3 [(.n 1)]) (.op 7 [] none none false (.store (some 1) (.t 3) (.t 9)) (.o 8 4 (.mov (.t 10)) .done)))))))))) (.seq (.reg false (.o 0 11 (.load (some 1) (.t 3)) (.op 1 [] none none false (.store (some 1) (.t 2) (.t 11)) .done))) .ret)))
theorem dg_spec_l2of : Tryz.f207.body.bind (digC Tryz.prog Tryz.f207.ntmps []) = some c_spec_l2of := by kernel_rfl
theorem rs_spec_l2of : resSlots Tryz.prog Tryz.f207 = some [.m 2 (some 1)] := by kernel_rfl
theorem ok_spec_l2of (b : ByteArray) (hb : b.size ≤ 4194303) :
    FnOK Tryz.prog 207 [.one (.d (.sc (.string b)))] (fun ra _ => ra = [.agg [.own true (encBB (readN b.toList))]]) := by
  refine FnOK.ofK Tryz.func207 (by kernel_rfl) dg_spec_l2of rs_spec_l2of rfl rfl ?_
  delta c_spec_l2of T.o X.i
  have h : b.toList.length ≤ 4194303 := by rw [bt_len]; exact hb
  refine kSeq (kReg (kAlloc rfl rfl (kDone (kSeq (kReg (kMovC rfl (kS2b rfl (by omega) (kCall1 true (ok_spec_NameRead _ (by first | assumption | omega | solve_by_elim [List.getElem_mem] | (simp only [szOut] at *; omega) | exact rfl | exact leb)) ⟨rfl, trivial⟩ rfl rfl rfl (fun _ => (kMovT rfl (kExtC rfl rfl (kExtC rfl rfl (kAlloc rfl rfl (kStoreP rfl rfl rfl rfl (kMovC rfl (kDone (kSeq (kReg (kLoadP rfl rfl rfl (kStoreP rfl rfl rfl rfl (kDone (kRet (endRetA (ra := [.agg [(.own true _)]]) rfl rfl)))))))))))))))))))))))

def c_spec_l8home : C := (.seq (.reg false (.o 0 0 (.alloc 0 [(.n 1)]) .done)) (.seq (.reg false (.o 0 1 (.call 1 207 [(.v (.string ⟨#[104, 111, 109, 101, 46]⟩))]) (.op 1 [] none none false (.store (some 1) (.t 0) (.t 1)) .done))) .ret))
theorem dg_spec_l8home : Tryz.f135.body.bind (digC Tryz.prog Tryz.f135.ntmps []) = some c_spec_l8home := by kernel_rfl
theorem rs_spec_l8home : resSlots Tryz.prog Tryz.f135 = some [.m 0 (some 1)] := by kernel_rfl
theorem ok_spec_l8home :
    FnOK Tryz.prog 135 [] (fun ra _ => ra = [.agg [.own true (encBB homeN)]]) := by
  refine FnOK.ofK Tryz.func135 (by kernel_rfl) dg_spec_l8home rs_spec_l8home rfl rfl ?_
  delta c_spec_l8home T.o X.i
  refine kSeq (kReg (kAlloc rfl rfl (kDone (kSeq (kReg (kCall1 true (ok_spec_l2of _ (by first | assumption | omega | solve_by_elim [List.getElem_mem] | (simp only [szOut] at *; omega) | exact rfl | exact leb | exact rrOk_small (by assumption) | exact zoneOk_small (by assumption) | exact SmallBB.ok (by assumption) | exact (SmallBB.ok (by assumption)).len | exact (SmallBB.ok (by assumption)).mem | exact SmallBB.bent (by assumption))) ⟨rfl, trivial⟩ rfl rfl rfl (fun _ => (kStoreP rfl rfl rfl rfl (kDone (kMem [(4096, ⟨1, 0, .box [.arr 8192 1]⟩), (8192, ⟨1, 0, .arr true _⟩)] [(0, .c (.ptr 4096 1 0))] [] ⟨rfl, rfl, trivial⟩ ⟨rfl, trivial⟩ rfl (kRet (endRetA (ra := [.agg [(.own true _)]]) rfl ?_))))))))))))
  exact congrArg (fun z => [RA.agg [RV.own true (encBB z)]]) (by rw [ByteArray.toList_eq]; decide)

def c_spec_l8rev : C := (.seq (.reg false (.o 0 0 (.alloc 0 [(.n 1)]) .done)) (.seq (.reg false (.o 0 1 (.call 1 207 [(.v (.string ⟨#[48, 46, 48, 46, 49, 48, 46, 105, 110, 45, 97, 100, 100, 114, 46, 97, 114, 112, 97, 46]⟩))]) (.op 1 [] none none false (.store (some 1) (.t 0) (.t 1)) .done))) .ret))
theorem dg_spec_l8rev : Tryz.f136.body.bind (digC Tryz.prog Tryz.f136.ntmps []) = some c_spec_l8rev := by kernel_rfl
theorem rs_spec_l8rev : resSlots Tryz.prog Tryz.f136 = some [.m 0 (some 1)] := by kernel_rfl
theorem ok_spec_l8rev :
    FnOK Tryz.prog 136 [] (fun ra _ => ra = [.agg [.own true (encBB revN)]]) := by
  refine FnOK.ofK Tryz.func136 (by kernel_rfl) dg_spec_l8rev rs_spec_l8rev rfl rfl ?_
  delta c_spec_l8rev T.o X.i
  refine kSeq (kReg (kAlloc rfl rfl (kDone (kSeq (kReg (kCall1 true (ok_spec_l2of _ (by first | assumption | omega | solve_by_elim [List.getElem_mem] | (simp only [szOut] at *; omega) | exact rfl | exact leb | exact rrOk_small (by assumption) | exact zoneOk_small (by assumption) | exact SmallBB.ok (by assumption) | exact (SmallBB.ok (by assumption)).len | exact (SmallBB.ok (by assumption)).mem | exact SmallBB.bent (by assumption))) ⟨rfl, trivial⟩ rfl rfl rfl (fun _ => (kStoreP rfl rfl rfl rfl (kDone (kMem [(4096, ⟨1, 0, .box [.arr 8192 1]⟩), (8192, ⟨1, 0, .arr true _⟩)] [(0, .c (.ptr 4096 1 0))] [] ⟨rfl, rfl, trivial⟩ ⟨rfl, trivial⟩ rfl (kRet (endRetA (ra := [.agg [(.own true _)]]) rfl ?_))))))))))))
  exact congrArg (fun z => [RA.agg [RV.own true (encBB z)]]) (by rw [ByteArray.toList_eq]; decide)

def c_spec_TypeOk : C := (.seq (.reg false (.o 0 2 (.mov (.v (.bool false))) .done)) (.seq (.seq (.reg false (.o 0 3 (.mov (.t 0)) .done)) (.block 0 (.seq (.seq (.reg false (.o 0 5 (.bin .eql (.t 3) (.i 1)) (.o 1 4 (.mov (.t 5)) .done))) (.cond (.t 4) .skip (.seq (.reg false (.o 0 6 (.bin .eql (.t 3) (.i 2)) (.o 1 4 (.mov (.t 6)) .done))) (.cond (.t 4) .skip (.seq (.reg false (.o 0 7 (.bin .eql (.t 3) (.i 5)) (.o 1 4 (.mov (.t 7)) .done))) (.cond (.t 4) .skip (.seq (.reg false (.o 0 8 (.bin .eql (.t 3) (.i 6)) (.o 1 4 (.mov (.t 8)) .done))) (.cond (.t 4) .skip (.seq (.reg false (.o 0 9 (.bin .eql (.t 3) (.i 12)) (.o 1 4 (.mov (.t 9)) .done))) (.cond (.t 4) .skip (.seq (.reg false (.o 0 10 (.bin .eql (.t 3) (.i 16)) (.o 1 4 (.mov (.t 10)) .done))) (.cond (.t 4) .skip (.reg false (.o 0 11 (.bin .eql (.t 3) (.i 49)) (.o 1 4 (.mov (.t 11)) .done))))))))))))))) (.cond (.t 4) (.seq (.reg false (.o 0 2 (.mov (.v (.bool true))) .done)) .ret) .skip)))) (.seq (.reg false (.o 0 2 (.mov (.v (.bool false))) .done)) .ret)))
theorem dg_spec_TypeOk : Tryz.f152.body.bind (digC Tryz.prog Tryz.f152.ntmps []) = some c_spec_TypeOk := by kernel_rfl
theorem rs_spec_TypeOk : resSlots Tryz.prog Tryz.f152 = some [.s 2] := by kernel_rfl
theorem ok_spec_TypeOk (n : Int) : FnOK Tryz.prog 152 [.one (.d (.sc (.int .i64 n)))] (fun ra _ => ra = [.one (.d (.sc (.bool (tyOk n))))]) := by
  refine FnOK.ofK Tryz.func152 (by kernel_rfl) dg_spec_TypeOk rs_spec_TypeOk rfl rfl ?_
  delta c_spec_TypeOk T.o X.i
  refine kSeq (kReg (kMovC rfl (kDone (kSeq (kSeq (kReg (kMovC rfl (kDone (kBlock (kSeq (kSeq (kReg (kBin rfl rfl rfl (kMovC rfl (kDone (kCondP rfl (fun g0 => kSkip (kCondP rfl (fun g1 => kSeq (kReg (kMovC rfl (kDone (kRet (endRetA (ra := [.one (.d _)]) rfl ?_)))))) (fun g1 => (by omega)))) (fun g0 => kSeq (kReg (kBin rfl rfl rfl (kMovC rfl (kDone (kCondP rfl (fun g2 => kSkip (kCondP rfl (fun g3 => kSeq (kReg (kMovC rfl (kDone (kRet (endRetA (ra := [.one (.d _)]) rfl ?_)))))) (fun g3 => (by omega)))) (fun g2 => kSeq (kReg (kBin rfl rfl rfl (kMovC rfl (kDone (kCondP rfl (fun g4 => kSkip (kCondP rfl (fun g5 => kSeq (kReg (kMovC rfl (kDone (kRet (endRetA (ra := [.one (.d _)]) rfl ?_)))))) (fun g5 => (by omega)))) (fun g4 => kSeq (kReg (kBin rfl rfl rfl (kMovC rfl (kDone (kCondP rfl (fun g6 => kSkip (kCondP rfl (fun g7 => kSeq (kReg (kMovC rfl (kDone (kRet (endRetA (ra := [.one (.d _)]) rfl ?_)))))) (fun g7 => (by omega)))) (fun g6 => kSeq (kReg (kBin rfl rfl rfl (kMovC rfl (kDone (kCondP rfl (fun g8 => kSkip (kCondP rfl (fun g9 => kSeq (kReg (kMovC rfl (kDone (kRet (endRetA (ra := [.one (.d _)]) rfl ?_)))))) (fun g9 => (by omega)))) (fun g8 => kSeq (kReg (kBin rfl rfl rfl (kMovC rfl (kDone (kCondP rfl (fun g10 => kSkip (kCondP rfl (fun g11 => kSeq (kReg (kMovC rfl (kDone (kRet (endRetA (ra := [.one (.d _)]) rfl ?_)))))) (fun g11 => (by omega)))) (fun g10 => kReg (kBin rfl rfl rfl (kMovC rfl (kDone (kCondP rfl (fun g12 => kSeq (kReg (kMovC rfl (kDone (kRet (endRetA (ra := [.one (.d _)]) rfl ?_)))))) (fun g12 => kSkip (kBk (kSeq (kReg (kMovC rfl (kDone (kRet (endRetA (ra := [.one (.d _)]) rfl ?_)))))))))))))))))))))))))))))))))))))))))))))))))))))))))))
  all_goals simp_all [tyOk]

def c_spec_l3named : C := (.seq (.reg false (.o 0 2 (.mov (.v (.bool false))) .done)) (.seq (.reg false (.o 0 3 (.mov (.t 0)) (.o 1 4 (.bin .eql (.t 3) (.i 2)) (.o 2 5 (.mov (.t 4)) (.op 3 [] (some 6) (some (5, false)) false (.mov (.t 0)) (.op 4 [] (some 7) (some (5, false)) false (.bin .eql (.t 6) (.i 5)) (.o 5 8 (.pick (.t 5) (.v (.bool true)) (.t 7)) (.o 6 9 (.mov (.t 8)) (.op 7 [] (some 10) (some (9, false)) false (.mov (.t 0)) (.op 8 [] (some 11) (some (9, false)) false (.bin .eql (.t 10) (.i 6)) (.o 9 12 (.pick (.t 9) (.v (.bool true)) (.t 11)) (.o 10 13 (.mov (.t 12)) (.op 11 [] (some 14) (some (13, false)) false (.mov (.t 0)) (.op 12 [] (some 15) (some (13, false)) false (.bin .eql (.t 14) (.i 12)) (.o 13 16 (.pick (.t 13) (.v (.bool true)) (.t 15)) (.o 14 2 (.mov (.t 16)) .done)))))))))))))))) .ret))
theorem dg_spec_l3named : Tryz.f257.body.bind (digC Tryz.prog Tryz.f257.ntmps []) = some c_spec_l3named := by kernel_rfl
theorem rs_spec_l3named : resSlots Tryz.prog Tryz.f257 = some [.s 2] := by kernel_rfl
theorem ok_spec_l3named (n : Int) : FnOK Tryz.prog 257 [.one (.d (.sc (.int .i64 n)))] (fun ra _ => ra = [.one (.d (.sc (.bool (hasTo n))))]) := by
  refine FnOK.ofK Tryz.func257 (by kernel_rfl) dg_spec_l3named rs_spec_l3named rfl rfl ?_
  delta c_spec_l3named T.o X.i
  refine kSeq (kReg (kMovC rfl (kDone (kSeq (kReg (kMovC rfl (kBin rfl rfl rfl (kMovC rfl (kGP rfl (fun g0 => kGF rfl (kGF rfl (kPickT rfl (kMovC rfl (kMovC rfl (kGF rfl (kGF rfl (kPickT rfl (kMovC rfl (kMovC rfl (kGF rfl (kGF rfl (kPickT rfl (kMovC rfl (kMovC rfl (kDone (kRet (endRetA (ra := [.one (.d _)]) rfl ?_)))))))))))))))))) (fun g0 => kGT rfl (kMovC rfl (kGT rfl (kBin rfl rfl rfl (kPickF rfl (kMovC rfl (kMovC rfl (kGP rfl (fun g1 => kGF rfl (kGF rfl (kPickT rfl (kMovC rfl (kMovC rfl (kGF rfl (kGF rfl (kPickT rfl (kMovC rfl (kMovC rfl (kDone (kRet (endRetA (ra := [.one (.d _)]) rfl ?_))))))))))))) (fun g1 => kGT rfl (kMovC rfl (kGT rfl (kBin rfl rfl rfl (kPickF rfl (kMovC rfl (kMovC rfl (kGP rfl (fun g2 => kGF rfl (kGF rfl (kPickT rfl (kMovC rfl (kMovC rfl (kDone (kRet (endRetA (ra := [.one (.d _)]) rfl ?_)))))))) (fun g2 => kGT rfl (kMovC rfl (kGT rfl (kBin rfl rfl rfl (kPickF rfl (kMovC rfl (kMovC rfl (kDone (kRet (endRetA (ra := [.one (.d _)]) rfl ?_)))))))))))))))))))))))))))))))))))
  all_goals simp_all [hasTo]

def c_spec_l3texted : C := (.seq (.reg false (.o 0 2 (.mov (.v (.bool false))) .done)) (.seq (.reg false (.o 0 3 (.mov (.t 0)) (.o 1 4 (.bin .eql (.t 3) (.i 16)) (.o 2 5 (.mov (.t 4)) (.op 3 [] (some 6) (some (5, false)) false (.mov (.t 0)) (.op 4 [] (some 7) (some (5, false)) false (.bin .eql (.t 6) (.i 49)) (.o 5 8 (.pick (.t 5) (.v (.bool true)) (.t 7)) (.o 6 2 (.mov (.t 8)) .done)))))))) .ret))
theorem dg_spec_l3texted : Tryz.f258.body.bind (digC Tryz.prog Tryz.f258.ntmps []) = some c_spec_l3texted := by kernel_rfl
theorem rs_spec_l3texted : resSlots Tryz.prog Tryz.f258 = some [.s 2] := by kernel_rfl
theorem ok_spec_l3texted (n : Int) : FnOK Tryz.prog 258 [.one (.d (.sc (.int .i64 n)))] (fun ra _ => ra = [.one (.d (.sc (.bool (hasText n))))]) := by
  refine FnOK.ofK Tryz.func258 (by kernel_rfl) dg_spec_l3texted rs_spec_l3texted rfl rfl ?_
  delta c_spec_l3texted T.o X.i
  refine kSeq (kReg (kMovC rfl (kDone (kSeq (kReg (kMovC rfl (kBin rfl rfl rfl (kMovC rfl (kGP rfl (fun g0 => kGF rfl (kGF rfl (kPickT rfl (kMovC rfl (kMovC rfl (kDone (kRet (endRetA (ra := [.one (.d _)]) rfl ?_)))))))) (fun g0 => kGT rfl (kMovC rfl (kGT rfl (kBin rfl rfl rfl (kPickF rfl (kMovC rfl (kMovC rfl (kDone (kRet (endRetA (ra := [.one (.d _)]) rfl ?_)))))))))))))))))))
  all_goals simp_all [hasText]

def c_spec_l3data : C := (.seq (.reg false (.o 0 1 (.box 1 (.t 0)) (.o 1 2 (.mov (.v (.bool false))) .done))) (.seq (.seq (.reg false (.o 0 3 (.fad (.t 1) 1) (.o 1 4 (.load none (.t 3)) (.o 2 5 (.bin .eql (.t 4) (.i 1)) .done)))) (.cond (.t 5) (.seq (.reg false (.o 0 6 (.fad (.t 1) 3) (.o 1 7 (.load none (.t 6)) (.o 2 8 (.bin .lss (.t 7) (.i 0)) (.o 3 9 (.mov (.t 8)) (.op 4 [] (some 10) (some (9, false)) false (.fad (.t 1) 3) (.op 5 [] (some 11) (some (9, false)) false (.load none (.t 10)) (.op 6 [] (some 12) (some (9, false)) false (.bin .geq (.t 11) (.i 4294967296)) (.o 7 13 (.pick (.t 9) (.v (.bool true)) (.t 12)) .done))))))))) (.cond (.t 13) (.seq (.reg false (.o 0 2 (.mov (.v (.bool false))) .done)) .ret) .skip)) (.seq (.reg false (.o 0 14 (.fad (.t 1) 3) (.o 1 15 (.load none (.t 14)) (.o 2 16 (.bin .neq (.t 15) (.i 0)) .done)))) (.cond (.t 16) (.seq (.reg false (.o 0 2 (.mov (.v (.bool false))) .done)) .ret) .skip)))) (.seq (.seq (.reg false (.o 0 17 (.fad (.t 1) 1) (.o 1 18 (.load none (.t 17)) (.o 2 19 (.call 19 257 [(.t 18)]) .done)))) (.cond (.t 19) (.seq (.reg false (.o 0 20 (.fad (.t 1) 4) (.o 1 21 (.load (some 1) (.t 20)) (.o 2 22 (.call 22 15 [(.t 21)]) (.o 3 23 (.un .not (.t 22)) .done))))) (.cond (.t 23) (.seq (.reg false (.o 0 2 (.mov (.v (.bool false))) .done)) .ret) .skip)) (.seq (.reg false (.o 0 24 (.fad (.t 1) 4) (.o 1 25 (.fad (.t 24) 0) (.o 2 26 (.load none (.t 25)) (.o 3 27 (.len (.t 26)) (.o 4 28 (.bin .gtr (.t 27) (.i 0)) .done)))))) (.cond (.t 28) (.seq (.reg false (.o 0 2 (.mov (.v (.bool false))) .done)) .ret) .skip)))) (.seq (.seq (.reg false (.o 0 29 (.fad (.t 1) 1) (.o 1 30 (.load none (.t 29)) (.o 2 31 (.call 31 258 [(.t 30)]) .done)))) (.cond (.t 31) (.seq (.reg false (.o 0 32 (.fad (.t 1) 5) (.o 1 33 (.load none (.t 32)) (.o 2 34 (.len (.t 33)) (.o 3 35 (.bin .gtr (.t 34) (.i 40)) .done))))) (.cond (.t 35) (.seq (.reg false (.o 0 2 (.mov (.v (.bool false))) .done)) .ret) .skip)) (.seq (.reg false (.o 0 36 (.fad (.t 1) 5) (.o 1 37 (.load none (.t 36)) (.o 2 38 (.len (.t 37)) (.o 3 39 (.bin .gtr (.t 38) (.i 0)) .done))))) (.cond (.t 39) (.seq (.reg false (.o 0 2 (.mov (.v (.bool false))) .done)) .ret) .skip)))) (.seq (.seq (.reg false (.o 0 40 (.fad (.t 1) 1) (.o 1 41 (.load none (.t 40)) (.o 2 42 (.bin .neq (.t 41) (.i 6)) .done)))) (.cond (.t 42) (.seq (.reg false (.o 0 43 (.fad (.t 1) 6) (.o 1 44 (.load none (.t 43)) (.o 2 45 (.len (.t 44)) (.o 3 46 (.bin .eql (.t 45) (.i 0)) (.o 4 2 (.mov (.t 46)) .done)))))) .ret) .skip)) (.seq (.seq (.reg false (.o 0 47 (.fad (.t 1) 6) (.o 1 48 (.load none (.t 47)) (.o 2 49 (.len (.t 48)) (.o 3 50 (.bin .neq (.t 49) (.i 2)) (.o 4 51 (.mov (.t 50)) (.op 5 [] (some 52) (some (51, false)) false (.fad (.t 1) 6) (.op 6 [] (some 53) (some (51, false)) false (.load none (.t 52)) (.op 7 [] (some 54) (some (51, false)) false (.iad 1 (.t 53) (.i 0)) (.op 8 [] (some 55) (some (51, false)) false (.load none (.t 54)) (.op 9 [] (some 56) (some (51, false)) false (.bin .lss (.t 55) (.i 0)) (.o 10 57 (.pick (.t 51) (.v (.bool true)) (.t 56)) (.o 11 58 (.mov (.t 57)) (.op 12 [] (some 59) (some (58, false)) false (.fad (.t 1) 6) (.op 13 [] (some 60) (some (58, false)) false (.load none (.t 59)) (.op 14 [] (some 61) (some (58, false)) false (.iad 1 (.t 60) (.i 0)) (.op 15 [] (some 62) (some (58, false)) false (.load none (.t 61)) (.op 16 [] (some 63) (some (58, false)) false (.bin .geq (.t 62) (.i 4294967296)) (.o 17 64 (.pick (.t 58) (.v (.bool true)) (.t 63)) .done))))))))))))))))))) (.cond (.t 64) (.seq (.reg false (.o 0 2 (.mov (.v (.bool false))) .done)) .ret) .skip)) (.seq (.reg false (.o 0 65 (.fad (.t 1) 6) (.o 1 66 (.load none (.t 65)) (.o 2 67 (.iad 1 (.t 66) (.i 1)) (.o 3 68 (.load none (.t 67)) (.o 4 69 (.bin .geq (.t 68) (.i 0)) (.o 5 70 (.mov (.t 69)) (.op 6 [] (some 71) (some (70, true)) false (.fad (.t 1) 6) (.op 7 [] (some 72) (some (70, true)) false (.load none (.t 71)) (.op 8 [] (some 73) (some (70, true)) false (.iad 1 (.t 72) (.i 1)) (.op 9 [] (some 74) (some (70, true)) false (.load none (.t 73)) (.op 10 [] (some 75) (some (70, true)) false (.bin .leq (.t 74) (.i 100000)) (.o 11 76 (.pick (.t 70) (.t 75) (.v (.bool false))) (.o 12 2 (.mov (.t 76)) .done)))))))))))))) .ret)))))))
theorem dg_spec_l3data : Tryz.f182.body.bind (digC Tryz.prog Tryz.f182.ntmps []) = some c_spec_l3data := by kernel_rfl
theorem rs_spec_l3data : resSlots Tryz.prog Tryz.f182 = some [.s 2] := by kernel_rfl
theorem ok_spec_l3data (r : Rr) (hs : SmallR r) :
    FnOK Tryz.prog 182 [.agg (r.cells.map .d)] (fun ra _ => ra = [.one (.d (.sc (.bool (dataOk r))))]) := by
  refine FnOK.ofK Tryz.func182 (by kernel_rfl) dg_spec_l3data rs_spec_l3data rfl rfl ?_
  delta c_spec_l3data T.o X.i
  have t1 := hs.t.len
  have t2 := hs.t.mem
  have x1 := hs.x
  have m1 := hs.m
  refine kSeq (kReg (kBox rfl rfl rfl rfl rfl (kMovC rfl (kDone ?_))))
  by_cases hA : (r.ty = 1 ∧ 0 ≤ r.addr ∧ r.addr < 4294967296) ∨ (r.ty ≠ 1 ∧ r.addr = 0)
  case neg =>
    have e : (if r.ty == 1 then isW r.addr else r.addr == 0) = false := by
      by_cases h : r.ty = 1
      · simp [h, isW]; omega
      · simp [h]; omega
    rw [show dataOk r = false by simp only [dataOk, e, Bool.and_false, Bool.false_and]]
    refine kSeq ?_
    refine kSeq (kReg (kFadP rfl rfl (kLoadP rfl rfl rfl (kBin rfl rfl rfl (kDone (kCondP rfl (fun g0 => kSeq (kReg (kFadP rfl rfl (kLoadP rfl rfl rfl (kBin rfl rfl rfl (kMovC rfl (kGP rfl (fun g1 => kGF rfl (kGF rfl (kGF rfl (kPickT rfl (kMovC rfl (kDone (kCondT rfl (kSeq (kReg (kMovC rfl (kDone (kRet (endRetA (ra := [.one (.d _)]) rfl rfl))))))))))))) (fun g1 => kGT rfl (kFadP rfl rfl (kGT rfl (kLoadP rfl rfl rfl (kGT rfl (kBin rfl rfl rfl (kPickF rfl (kMovC rfl (kDone (kCondP rfl (fun g2 => kSeq (kReg (kMovC rfl (kDone (kRet (endRetA (ra := [.one (.d _)]) rfl rfl)))))) (fun g2 => (by omega))))))))))))))))))) (fun g0 => kSeq (kReg (kFadP rfl rfl (kLoadP rfl rfl rfl (kBin rfl rfl rfl (kDone (kCondIN rfl (fun g3 => kSeq (kReg (kMovC rfl (kDone (kRet (endRetA (ra := [.one (.d _)]) rfl rfl)))))) (fun g3 => (by omega)))))))))))))))
  have eA : (if r.ty == 1 then isW r.addr else r.addr == 0) = true := by
    rcases hA with ⟨h, _, _⟩ | ⟨h, h'⟩
    · simp [h, isW]; omega
    · simp [h, h']
  refine kSeq (kCut ⟨tabSl [(1, .c (.ptr (rid 1 0) 1 0))], obTab 1 [(rid 1 0, ⟨1, 0, .box (r.cells.map .d)⟩)], []⟩ ?_ (fun x hc => ?_))
  case refine_2 =>
    refine kSeq (kReg (kFadP rfl rfl (kLoadP rfl rfl rfl (kBin rfl rfl rfl (kDone (kCondP rfl (fun g0 => kSeq (kReg (kFadP rfl rfl (kLoadP rfl rfl rfl (kBin rfl rfl rfl (kMovC rfl (kGP rfl (fun g1 => (by omega)) (fun g1 => kGT rfl (kFadP rfl rfl (kGT rfl (kLoadP rfl rfl rfl (kGT rfl (kBin rfl rfl rfl (kPickF rfl (kMovC rfl (kDone (kCondP rfl (fun g2 => (by omega)) (fun g2 => kSkip (hc _ .normA))))))))))))))))))) (fun g0 => kSeq (kReg (kFadP rfl rfl (kLoadP rfl rfl rfl (kBin rfl rfl rfl (kDone (kCondIN rfl (fun g3 => (by omega)) (fun g3 => kSkip (hc _ .normA)))))))))))))))
  by_cases eB : (if hasTo r.ty then nameOk r.to else ((r.to.length : Int) == 0)) = true
  case neg =>
    rw [show dataOk r = false by simp only [dataOk, Bool.eq_false_iff.2 eB, Bool.and_false, Bool.false_and]]
    refine kSeq ?_
    cases hT : hasTo r.ty
    case false =>
      have hN : ¬ (r.to.length : Int) = 0 := by simpa [hT] using eB
      have hN' : ¬ r.to.length = 0 := by omega
      refine kSeq (kReg (kFadP rfl rfl (kLoadP rfl rfl rfl (kCallD (ok_spec_l3named _) ⟨rfl, trivial⟩ rfl rfl rfl rfl rfl (kDone (kCond rfl (fun g0 => (by (simp [*] at g0))) (fun g0 => kSeq (kReg (kFadP rfl rfl (kFadP rfl rfl (kLoadP rfl rfl rfl (kLenR rfl rfl (kBin rfl rfl rfl (kDone (kCondP rfl (fun g1 => kSeq (kReg (kMovC rfl (kDone (kRet (endRetA (ra := [.one (.d _)]) rfl rfl)))))) (fun g1 => (by omega)))))))))))))))))
    case true =>
      have hN : nameOk r.to = false := by simpa [hT] using eB
      refine kSeq (kReg (kFadP rfl rfl (kLoadP rfl rfl rfl (kCallD (ok_spec_l3named _) ⟨rfl, trivial⟩ rfl rfl rfl rfl rfl (kDone (kCond rfl (fun g0 => kSeq (kReg (kFadP rfl rfl (kLoadP rfl rfl rfl (kCallD (ok_spec_NameOk _ pr pr) ⟨⟨⟨rfl, trivial⟩, leb⟩, trivial⟩ rfl rfl rfl rfl rfl (kUn rfl rfl (kDone (kCondN rfl (fun g1 => kSeq (kReg (kMovC rfl (kDone (kRet (endRetA (ra := [.one (.d _)]) rfl rfl)))))) (fun g1 => (by (simp [*] at g1))))))))))) (fun g0 => (by (simp [*] at g0)))))))))
  refine kSeq (kCut ⟨tabSl [(1, .c (.ptr (rid 1 0) 1 0))], obTab 1 [(rid 1 0, ⟨1, 0, .box (r.cells.map .d)⟩)], []⟩ ?_ (fun x hc => ?_))
  case refine_2 =>
    cases hT : hasTo r.ty
    case false =>
      have hN : (r.to.length : Int) = 0 := by rw [hT] at eB; simpa using eB
      have hN' : r.to.length = 0 := by omega
      clear hN
      refine kSeq (kReg (kFadP rfl rfl (kLoadP rfl rfl rfl (kCallD (ok_spec_l3named _) ⟨rfl, trivial⟩ rfl rfl rfl rfl rfl (kDone (kCond rfl (fun g0 => (by (simp [*] at g0))) (fun g0 => kSeq (kReg (kFadP rfl rfl (kFadP rfl rfl (kLoadP rfl rfl rfl (kLenR rfl rfl (kBin rfl rfl rfl (kDone (kCondP rfl (fun g1 => (by omega)) (fun g1 => kSkip (hc _ .normA)))))))))))))))))
    case true =>
      have hN : nameOk r.to = true := by simpa [hT] using eB
      refine kSeq (kReg (kFadP rfl rfl (kLoadP rfl rfl rfl (kCallD (ok_spec_l3named _) ⟨rfl, trivial⟩ rfl rfl rfl rfl rfl (kDone (kCond rfl (fun g0 => kSeq (kReg (kFadP rfl rfl (kLoadP rfl rfl rfl (kCallD (ok_spec_NameOk _ pr pr) ⟨⟨⟨rfl, trivial⟩, leb⟩, trivial⟩ rfl rfl rfl rfl rfl (kUn rfl rfl (kDone (kCondN rfl (fun g1 => (by (simp [*] at g1))) (fun g1 => kSkip (hc _ .normA)))))))))) (fun g0 => (by (simp [*] at g0)))))))))
  by_cases eC : (if hasText r.ty then decide ((r.text.length : Int) ≤ 40) else ((r.text.length : Int) == 0)) = true
  case neg =>
    rw [show dataOk r = false by simp only [dataOk, Bool.eq_false_iff.2 eC, Bool.and_false]]
    refine kSeq ?_
    cases hT : hasText r.ty
    case false =>
      have hN' : ¬ r.text.length = 0 := by rw [hT] at eC; simp at eC; simpa using eC
      refine kSeq (kReg (kFadP rfl rfl (kLoadP rfl rfl rfl (kCallD (ok_spec_l3texted _) ⟨rfl, trivial⟩ rfl rfl rfl rfl rfl (kDone (kCond rfl (fun g0 => (by (simp [*] at g0))) (fun g0 => kSeq (kReg (kFadP rfl rfl (kLoadP rfl rfl rfl (kLenR rfl rfl (kBin rfl rfl rfl (kDone (kCondP rfl (fun g1 => kSeq (kReg (kMovC rfl (kDone (kRet (endRetA (ra := [.one (.d _)]) rfl rfl)))))) (fun g1 => (by omega))))))))))))))))
    case true =>
      have hN' : ¬ r.text.length ≤ 40 := by rw [hT] at eC; simp at eC; omega
      refine kSeq (kReg (kFadP rfl rfl (kLoadP rfl rfl rfl (kCallD (ok_spec_l3texted _) ⟨rfl, trivial⟩ rfl rfl rfl rfl rfl (kDone (kCond rfl (fun g0 => kSeq (kReg (kFadP rfl rfl (kLoadP rfl rfl rfl (kLenR rfl rfl (kBin rfl rfl rfl (kDone (kCondP rfl (fun g1 => kSeq (kReg (kMovC rfl (kDone (kRet (endRetA (ra := [.one (.d _)]) rfl rfl)))))) (fun g1 => (by omega)))))))))) (fun g0 => (by (simp [*] at g0)))))))))
  refine kSeq (kCut ⟨tabSl [(1, .c (.ptr (rid 1 0) 1 0))], obTab 1 [(rid 1 0, ⟨1, 0, .box (r.cells.map .d)⟩)], []⟩ ?_ (fun x hc => ?_))
  case refine_2 =>
    cases hT : hasText r.ty
    case false =>
      have hN' : r.text.length = 0 := by rw [hT] at eC; simp at eC; rw [eC]; rfl
      refine kSeq (kReg (kFadP rfl rfl (kLoadP rfl rfl rfl (kCallD (ok_spec_l3texted _) ⟨rfl, trivial⟩ rfl rfl rfl rfl rfl (kDone (kCond rfl (fun g0 => (by (simp [*] at g0))) (fun g0 => kSeq (kReg (kFadP rfl rfl (kLoadP rfl rfl rfl (kLenR rfl rfl (kBin rfl rfl rfl (kDone (kCondP rfl (fun g1 => (by omega)) (fun g1 => kSkip (hc _ .normA))))))))))))))))
    case true =>
      have hN' : r.text.length ≤ 40 := by rw [hT] at eC; simp at eC; omega
      refine kSeq (kReg (kFadP rfl rfl (kLoadP rfl rfl rfl (kCallD (ok_spec_l3texted _) ⟨rfl, trivial⟩ rfl rfl rfl rfl rfl (kDone (kCond rfl (fun g0 => kSeq (kReg (kFadP rfl rfl (kLoadP rfl rfl rfl (kLenR rfl rfl (kBin rfl rfl rfl (kDone (kCondP rfl (fun g1 => (by omega)) (fun g1 => kSkip (hc _ .normA)))))))))) (fun g0 => (by (simp [*] at g0)))))))))
  rw [show dataOk r = (if r.ty == 6 then numsOk r.nums else ((r.nums.length : Int) == 0)) by simp only [dataOk, eA, eB, eC, Bool.and_true]]
  clear eA eB eC hA
  refine kSeq (kSeq (kReg (kFadP rfl rfl (kLoadP rfl rfl rfl (kBin rfl rfl rfl (kDone (kCondIN rfl (fun g0 => kSeq (kReg (kFadP rfl rfl (kLoadP rfl rfl rfl (kLenR rfl rfl (kBin rfl rfl rfl (kMovC rfl (kDone (kRet (endRetA (ra := [.one (.d _)]) rfl ?_)))))))))) (fun g0 => kSkip (kSeq (kSeq (kReg (kFadP rfl rfl (kLoadP rfl rfl rfl (kLenR rfl rfl (kBin rfl rfl rfl (kMovC rfl (kGIN rfl (fun g1 => kGF rfl (kGF rfl (kGF rfl (kGF rfl (kGF rfl (kPickT rfl (kMovC rfl (kMovC rfl (kGF rfl (kGF rfl (kGF rfl (kGF rfl (kGF rfl (kPickT rfl (kMovC rfl (kDone (kCondT rfl (kSeq (kReg (kMovC rfl (kDone (kRet (endRetA (ra := [.one (.d _)]) rfl ?_))))))))))))))))))))))) (fun g1 => kGT rfl (kFadP rfl rfl (kGT rfl (kLoadP rfl rfl rfl (kGT rfl (kIadR (m := 0) rfl rfl rfl (by omega) (kGT rfl (kLoadD rfl rfl (kGT rfl (kBin rfl rfl rfl (kPickF rfl (kMovC rfl (kMovC rfl (kGP rfl (fun g2 => kGF rfl (kGF rfl (kGF rfl (kGF rfl (kGF rfl (kPickT rfl (kMovC rfl (kDone (kCondT rfl (kSeq (kReg (kMovC rfl (kDone (kRet (endRetA (ra := [.one (.d _)]) rfl ?_))))))))))))))) (fun g2 => kGT rfl (kFadP rfl rfl (kGT rfl (kLoadP rfl rfl rfl (kGT rfl (kIadR (m := 0) rfl rfl rfl (by omega) (kGT rfl (kLoadD rfl rfl (kGT rfl (kBin rfl rfl rfl (kPickF rfl (kMovC rfl (kDone (kCondP rfl (fun g3 => kSeq (kReg (kMovC rfl (kDone (kRet (endRetA (ra := [.one (.d _)]) rfl ?_)))))) (fun g3 => kSkip (kSeq (kReg (kFadP rfl rfl (kLoadP rfl rfl rfl (kIadR (m := 1) rfl rfl rfl (by omega) (kLoadD rfl rfl (kBin rfl rfl rfl (kMovC rfl (kGP rfl (fun g4 => kGT rfl (kFadP rfl rfl (kGT rfl (kLoadP rfl rfl rfl (kGT rfl (kIadR (m := 1) rfl rfl rfl (by omega) (kGT rfl (kLoadD rfl rfl (kGT rfl (kBin rfl rfl rfl (kPickT rfl (kMovC rfl (kMovC rfl (kDone (kRet (endRetA (ra := [.one (.d _)]) rfl ?_)))))))))))))))) (fun g4 => kGF rfl (kGF rfl (kGF rfl (kGF rfl (kGF rfl (kPickF rfl (kMovC rfl (kMovC rfl (kDone (kRet (endRetA (ra := [.one (.d _)]) rfl ?_))))))))))))))))))))))))))))))))))))))))))))))))))))))))))))))))))
  all_goals first
    | (simp [*]; done)
    | (rw [if_pos (by simpa using (by assumption : r.ty = 6)), numsOk, dif_pos (by assumption)]
       simp only [isW]
       refine congrArg (fun b : Bool => [RA.one (RV.d (DV.sc (Value.bool b)))]) ?_
       rw [Bool.eq_iff_iff]
       simp
       omega)

def c_spec_RrOk : C := (.seq (.reg false (.o 0 1 (.box 1 (.t 0)) (.o 1 2 (.mov (.v (.bool false))) .done))) (.seq (.reg false (.o 0 3 (.fad (.t 1) 0) (.o 1 4 (.load (some 1) (.t 3)) (.o 2 5 (.call 5 15 [(.t 4)]) (.o 3 6 (.mov (.t 5)) (.op 4 [] (some 7) (some (6, true)) false (.fad (.t 1) 1) (.op 5 [] (some 8) (some (6, true)) false (.load none (.t 7)) (.op 6 [] (some 9) (some (6, true)) false (.call 9 152 [(.t 8)]) (.o 7 10 (.pick (.t 6) (.t 9) (.v (.bool false))) (.o 8 11 (.mov (.t 10)) (.op 9 [] (some 12) (some (11, true)) false (.fad (.t 1) 2) (.op 10 [] (some 13) (some (11, true)) false (.load none (.t 12)) (.op 11 [] (some 14) (some (11, true)) false (.bin .geq (.t 13) (.i 0)) (.o 12 15 (.pick (.t 11) (.t 14) (.v (.bool false))) (.o 13 16 (.mov (.t 15)) (.op 14 [] (some 17) (some (16, true)) false (.fad (.t 1) 2) (.op 15 [] (some 18) (some (16, true)) false (.load none (.t 17)) (.op 16 [] (some 19) (some (16, true)) false (.bin .leq (.t 18) (.i 100000)) (.o 17 20 (.pick (.t 16) (.t 19) (.v (.bool false))) (.o 18 21 (.mov (.t 20)) (.op 19 [] (some 22) (some (21, true)) false (.load (some 7) (.t 1)) (.op 20 [] (some 23) (some (21, true)) false (.call 23 182 [(.t 22)]) (.o 21 24 (.pick (.t 21) (.t 23) (.v (.bool false))) (.o 22 2 (.mov (.t 24)) .done)))))))))))))))))))))))) .ret))
theorem dg_spec_RrOk : Tryz.f76.body.bind (digC Tryz.prog Tryz.f76.ntmps []) = some c_spec_RrOk := by kernel_rfl
theorem rs_spec_RrOk : resSlots Tryz.prog Tryz.f76 = some [.s 2] := by kernel_rfl
theorem ok_spec_RrOk (r : Rr) (hs : SmallR r) :
    FnOK Tryz.prog 76 [.agg (r.cells.map .d)] (fun ra _ => ra = [.one (.d (.sc (.bool (rrOk r))))]) := by
  refine FnOK.ofK Tryz.func76 (by kernel_rfl) dg_spec_RrOk rs_spec_RrOk rfl rfl ?_
  delta c_spec_RrOk T.o X.i
  have n1 := hs.n.len
  have n2 := hs.n.mem
  refine kSeq (kReg (kBox rfl rfl rfl rfl rfl (kMovC rfl (kDone (kSeq (kReg (kFadP rfl rfl (kLoadP rfl rfl rfl (kCallD (ok_spec_NameOk _ pr pr) ⟨⟨⟨rfl, trivial⟩, leb⟩, trivial⟩ rfl rfl rfl rfl rfl (kMovC rfl (kGS rfl (fun g0 => kGT rfl (kFadP rfl rfl (kGT rfl (kLoadP rfl rfl rfl (kGT rfl (kCallD (ok_spec_TypeOk _) ⟨rfl, trivial⟩ rfl rfl rfl rfl rfl (kPickT rfl (kMovC rfl (kMovC rfl (kGS rfl (fun g1 => kGT rfl (kFadP rfl rfl (kGT rfl (kLoadP rfl rfl rfl (kGT rfl (kBin rfl rfl rfl (kPickT rfl (kMovC rfl (kMovC rfl (kGP rfl (fun g2 => kGT rfl (kFadP rfl rfl (kGT rfl (kLoadP rfl rfl rfl (kGT rfl (kBin rfl rfl rfl (kPickT rfl (kMovC rfl (kMovC rfl (kGP rfl (fun g3 => kGT rfl (kLoadP rfl rfl rfl (kGT rfl (kCallD (ok_spec_l3data _ pr) ⟨⟨⟨rfl, rfl, rfl, rfl, rfl, rfl, rfl, trivial⟩, leb⟩, trivial⟩ rfl rfl rfl rfl rfl (kPickT rfl (kMovC rfl (kMovC rfl (kDone (kRet (endRetA (ra := [.one (.d _)]) rfl ?_)))))))))) (fun g3 => kGF rfl (kGF rfl (kPickF rfl (kMovC rfl (kMovC rfl (kDone (kRet (endRetA (ra := [.one (.d _)]) rfl ?_)))))))))))))))))) (fun g2 => kGF rfl (kGF rfl (kGF rfl (kPickF rfl (kMovC rfl (kMovC rfl (kGF rfl (kGF rfl (kPickF rfl (kMovC rfl (kMovC rfl (kDone (kRet (endRetA (ra := [.one (.d _)]) rfl ?_)))))))))))))))))))))))) (fun g1 => kGF rfl (kGF rfl (kGF rfl (kPickF rfl (kMovC rfl (kMovC rfl (kGF rfl (kGF rfl (kGF rfl (kPickF rfl (kMovC rfl (kMovC rfl (kGF rfl (kGF rfl (kPickF rfl (kMovC rfl (kMovC rfl (kDone (kRet (endRetA (ra := [.one (.d _)]) rfl ?_)))))))))))))))))))))))))))))) (fun g0 => kGF rfl (kGF rfl (kGF rfl (kPickF rfl (kMovC rfl (kMovC rfl (kGF rfl (kGF rfl (kGF rfl (kPickF rfl (kMovC rfl (kMovC rfl (kGF rfl (kGF rfl (kGF rfl (kPickF rfl (kMovC rfl (kMovC rfl (kGF rfl (kGF rfl (kPickF rfl (kMovC rfl (kMovC rfl (kDone (kRet (endRetA (ra := [.one (.d _)]) rfl ?_)))))))))))))))))))))))))))))))))))))
  all_goals (simp only [rrOk, *]; first | rfl | (simp; done) | (simp; omega))

def c_spec_l2bytes : C := (.seq (.reg false (.o 0 4 (.mov (.i 0)) .done)) (.seq (.seq (.reg false (.o 0 5 (.mov (.t 0)) (.o 1 6 (.b2s (.t 5)) (.o 2 7 (.mov (.t 1)) (.o 3 8 (.b2s (.t 7)) (.o 4 9 (.bin .lss (.t 6) (.t 8)) .done)))))) (.cond (.t 9) (.seq (.reg false (.o 0 4 (.mov (.i (-1))) .done)) .ret) .skip)) (.seq (.seq (.reg false (.o 0 10 (.mov (.t 0)) (.o 1 11 (.b2s (.t 10)) (.o 2 12 (.mov (.t 1)) (.o 3 13 (.b2s (.t 12)) (.o 4 14 (.bin .gtr (.t 11) (.t 13)) .done)))))) (.cond (.t 14) (.seq (.reg false (.o 0 4 (.mov (.i 1)) .done)) .ret) .skip)) (.seq (.reg false (.o 0 4 (.mov (.i 0)) .done)) .ret))))
theorem dg_spec_l2bytes : Tryz.f184.body.bind (digC Tryz.prog Tryz.f184.ntmps []) = some c_spec_l2bytes := by kernel_rfl
theorem rs_spec_l2bytes : resSlots Tryz.prog Tryz.f184 = some [.s 4] := by kernel_rfl
theorem ok_spec_l2bytes (a b : List UInt8) :
    FnOK Tryz.prog 184 [.one (.d (encB a)), .one (.d (encB b))] (fun ra _ => ra = [.one (.d (.sc (.int .i64 (cmpB a b))))]) := by
  refine FnOK.ofK Tryz.func184 (by kernel_rfl) dg_spec_l2bytes rs_spec_l2bytes rfl rfl ?_
  delta c_spec_l2bytes T.o X.i
  refine kSeq (kReg (kMovC rfl (kDone (kSeq (kSeq (kReg (kMovC rfl (kB2s rfl rfl (kMovC rfl (kB2s rfl rfl (kBin rfl rfl rfl (kDone (kCond rfl (fun g0 => kSeq (kReg (kMovC rfl (kDone (kRet (endRetA (ra := [.one (.d _)]) rfl ?_)))))) (fun g0 => kSkip (kSeq (kSeq (kReg (kMovC rfl (kB2s rfl rfl (kMovC rfl (kB2s rfl rfl (kBin rfl rfl rfl (kDone (kCondN rfl (fun g1 => kSeq (kReg (kMovC rfl (kDone (kRet (endRetA (ra := [.one (.d _)]) rfl ?_)))))) (fun g1 => kSkip (kSeq (kReg (kMovC rfl (kDone (kRet (endRetA (ra := [.one (.d _)]) rfl ?_)))))))))))))))))))))))))))))))
  all_goals simp_all [cmpB]

def c_spec_l2cmp : C := (.seq (.reg false (.o 0 2 (.box 2 (.t 0)) (.o 1 3 (.box 3 (.t 1)) (.o 2 4 (.mov (.i 0)) .done)))) (.seq (.seq (.reg false (.o 0 5 (.mov (.i 1)) .done)) (.block 0 (.loop (.seq (.seq (.reg false (.o 0 7 (.mov (.t 5)) (.o 1 8 (.fad (.t 2) 0) (.o 2 9 (.load none (.t 8)) (.o 3 10 (.len (.t 9)) (.o 4 11 (.bin .leq (.t 7) (.t 10)) (.o 5 12 (.mov (.t 11)) (.op 6 [] (some 13) (some (12, true)) false (.mov (.t 5)) (.op 7 [] (some 14) (some (12, true)) false (.fad (.t 3) 0) (.op 8 [] (some 15) (some (12, true)) false (.load none (.t 14)) (.op 9 [] (some 16) (some (12, true)) false (.len (.t 15)) (.op 10 [] (some 17) (some (12, true)) false (.bin .leq (.t 13) (.t 16)) (.o 11 18 (.pick (.t 12) (.t 17) (.v (.bool false))) .done))))))))))))) (.cond (.t 18) .skip (.exit 0))) (.seq (.block 1 (.seq (.reg true (.op 0 [] (some 21) none true (.fad (.t 2) 0) (.op 1 [] (some 22) none true (.load none (.t 21)) (.op 2 [] (some 23) none true (.fad (.t 2) 0) (.op 3 [] (some 24) none true (.load none (.t 23)) (.op 4 [] (some 25) none true (.len (.t 24)) (.op 5 [] (some 26) none true (.mov (.t 5)) (.op 6 [] (some 27) none true (.bin .sub (.t 25) (.t 26)) (.op 7 [] (some 28) none true (.iad 1 (.t 22) (.t 27)) (.op 8 [] (some 29) none true (.load none (.t 28)) (.op 9 [] (some 30) none true (.fad (.t 3) 0) (.op 10 [] (some 31) none true (.load none (.t 30)) (.op 11 [] (some 32) none true (.fad (.t 3) 0) (.op 12 [] (some 33) none true (.load none (.t 32)) (.op 13 [] (some 34) none true (.len (.t 33)) (.op 14 [] (some 35) none true (.mov (.t 5)) (.op 15 [] (some 36) none true (.bin .sub (.t 34) (.t 35)) (.op 16 [] (some 37) none true (.iad 1 (.t 31) (.t 36)) (.op 17 [] (some 38) none true (.load none (.t 37)) (.op 18 [8, 1, 3, 17, 10, 12] (some 39) none false (.call 39 184 [(.t 29), (.t 38)]) (.op 19 [] (some 6) none true (.mov (.t 39)) .done))))))))))))))))))))) (.seq (.reg false (.o 0 40 (.mov (.t 6)) (.o 1 41 (.bin .neq (.t 40) (.i 0)) .done))) (.cond (.t 41) (.seq (.reg false (.o 0 42 (.mov (.t 6)) (.o 1 4 (.mov (.t 42)) .done))) .ret) .skip)))) (.reg false (.o 0 19 (.mov (.t 5)) (.o 1 20 (.bin .add (.t 19) (.i 1)) (.o 2 5 (.mov (.t 20)) .done))))))))) (.seq (.seq (.reg false (.o 0 43 (.fad (.t 2) 0) (.o 1 44 (.load none (.t 43)) (.o 2 45 (.len (.t 44)) (.o 3 46 (.fad (.t 3) 0) (.o 4 47 (.load none (.t 46)) (.o 5 48 (.len (.t 47)) (.o 6 49 (.bin .neq (.t 45) (.t 48)) .done)))))))) (.cond (.t 49) (.seq (.seq (.reg false (.o 0 50 (.fad (.t 2) 0) (.o 1 51 (.load none (.t 50)) (.o 2 52 (.len (.t 51)) (.o 3 53 (.fad (.t 3) 0) (.o 4 54 (.load none (.t 53)) (.o 5 55 (.len (.t 54)) (.o 6 56 (.bin .lss (.t 52) (.t 55)) .done)))))))) (.cond (.t 56) (.seq (.reg false (.o 0 4 (.mov (.i (-1))) .done)) .ret) .skip)) (.seq (.reg false (.o 0 4 (.mov (.i 1)) .done)) .ret)) .skip)) (.seq (.reg false (.o 0 4 (.mov (.i 0)) .done)) .ret))))
theorem dg_spec_l2cmp : Tryz.f80.body.bind (digC Tryz.prog Tryz.f80.ntmps []) = some c_spec_l2cmp := by kernel_rfl
theorem rs_spec_l2cmp : resSlots Tryz.prog Tryz.f80 = some [.s 4] := by kernel_rfl
theorem ok_spec_l2cmp (a b : List (List UInt8)) (ha : a.length ≤ 4194304) (hb : b.length ≤ 4194304) :
    FnOK Tryz.prog 80 [.agg [.d (encBB a)], .agg [.d (encBB b)]] (fun ra _ => ra = [.one (.d (.sc (.int .i64 (cmpN a b))))]) := by
  refine FnOK.ofK Tryz.func80 (by kernel_rfl) dg_spec_l2cmp rs_spec_l2cmp rfl rfl ?_
  delta c_spec_l2cmp T.o X.i
  refine kSeq (kReg (kBox rfl rfl rfl rfl rfl (kBox rfl rfl rfl rfl rfl (kMovC rfl (kDone (kSeq (kSeq (kReg (kMovC rfl (kDone (kBlock ?_)))))))))))
  refine kLoop (α := { k : Nat // k ≤ a.length ∧ k ≤ b.length ∧ cmpN a b = cmpL (a.reverse.drop k) (b.reverse.drop k) })
    (fun y => ⟨tabSl [(2, .c (.ptr (rid 2 0) 1 0)), (3, .c (.ptr (rid 3 0) 1 0)), (5, .i (y.1 + 1))], obTab 1 [(rid 2 0, ⟨1, 0, .box [.d (encBB a)]⟩), (rid 3 0, ⟨1, 0, .box [.d (encBB b)]⟩)], []⟩) (fun y => a.length - y.1) ⟨0, by simp [cmpN]⟩
    .normA ?_
  rintro ⟨k, h1, h2, h3⟩
  simp only
  rcases Nat.lt_or_ge k a.length with hla | hga
  · rcases Nat.lt_or_ge k b.length with hlb | hgb
    · have hst := cmpL_step a b k hla hlb (a.length - (k + 1) : Int).toNat (b.length - (k + 1) : Int).toNat (by omega) (by omega)
      refine kSeq (kSeq (kReg (kMovC rfl (kFadP rfl rfl (kLoadP rfl rfl rfl (kLenR rfl rfl (kBin rfl rfl rfl (kMovC rfl (kGP rfl (fun g0 => kGT rfl (kMovC rfl (kGT rfl (kFadP rfl rfl (kGT rfl (kLoadP rfl rfl rfl (kGT rfl (kLenR rfl rfl (kGT rfl (kBin rfl rfl rfl (kPickT rfl (kMovC rfl (kDone (kCondP rfl (fun g1 => kSkip (kSeq (kBlock (kSeq (kRegD (kFadP rfl rfl (kLoadP rfl rfl rfl (kFadP rfl rfl (kLoadP rfl rfl rfl (kLenR rfl rfl (kMovC rfl (kDif rfl rfl (by omega) (kIadT rfl rfl (by omega) (kLoadD rfl rfl (kFadP rfl rfl (kLoadP rfl rfl rfl (kFadP rfl rfl (kLoadP rfl rfl rfl (kLenR rfl rfl (kMovC rfl (kDif rfl rfl (by omega) (kIadT rfl rfl (by omega) (kLoadD rfl rfl (kRelF rfl rfl (kCallD (ok_spec_l2bytes _ _) ⟨rfl, rfl, trivial⟩ rfl rfl rfl rfl rfl (kMovC rfl (kDone (kH (kSeq (kReg (kMovC rfl (kBin rfl rfl rfl (kDone (kCondIN rfl (fun g2 => kSeq (kReg (kMovC rfl (kMovC rfl (kDone (kRet (endRetA (ra := [.one (.d _)]) rfl ?_))))))) (fun g2 => kSkip (kBk (kReg (kMovC rfl (kAdd rfl rfl (by omega) (kMovC rfl (kDone ?_))))))))))))))))))))))))))))))))))))))))) (fun g1 => (by omega)))))))))))))))) (fun g0 => (by omega)))))))))))
      · rw [h3, hst, if_neg (by assumption)]
      · refine kInv ⟨⟨k + 1, hla, hlb, ?_⟩, by simp only; omega, .normA⟩
        rw [h3, hst, if_pos (by assumption)]
    · rw [cmpL_end a b k h1 h2 (by omega)] at h3
      refine kSeq (kSeq (kReg (kMovC rfl (kFadP rfl rfl (kLoadP rfl rfl rfl (kLenR rfl rfl (kBin rfl rfl rfl (kMovC rfl (kGP rfl (fun g0 => kGT rfl (kMovC rfl (kGT rfl (kFadP rfl rfl (kGT rfl (kLoadP rfl rfl rfl (kGT rfl (kLenR rfl rfl (kGT rfl (kBin rfl rfl rfl (kPickT rfl (kMovC rfl (kDone (kCondP rfl (fun g1 => (by omega)) (fun g1 => kExit (kExC (kExI (kExB (kSeq (kSeq (kReg (kFadP rfl rfl (kLoadP rfl rfl rfl (kLenR rfl rfl (kFadP rfl rfl (kLoadP rfl rfl rfl (kLenR rfl rfl (kBin rfl rfl rfl (kDone (kCondIN rfl (fun g2 => kSeq (kSeq (kReg (kFadP rfl rfl (kLoadP rfl rfl rfl (kLenR rfl rfl (kFadP rfl rfl (kLoadP rfl rfl rfl (kLenR rfl rfl (kBin rfl rfl rfl (kDone (kCondP rfl (fun g3 => (by omega)) (fun g3 => kSkip (kSeq (kReg (kMovC rfl (kDone (kRet (endRetA (ra := [.one (.d _)]) rfl ?_))))))))))))))))))) (fun g2 => (by omega)))))))))))))))))))))))))))))))) (fun g0 => (by omega)))))))))))
      all_goals (rw [h3]; first | (rw [if_pos (by omega)]; done) | (rw [if_neg (by omega), if_pos (by omega)]; done) | rw [if_neg (by omega), if_neg (by omega)])
  · rw [cmpL_end a b k h1 h2 (by omega)] at h3
    refine kSeq (kSeq (kReg (kMovC rfl (kFadP rfl rfl (kLoadP rfl rfl rfl (kLenR rfl rfl (kBin rfl rfl rfl (kMovC rfl (kGP rfl (fun g0 => (by omega)) (fun g0 => kGF rfl (kGF rfl (kGF rfl (kGF rfl (kGF rfl (kPickF rfl (kMovC rfl (kDone (kCondF rfl (kExit (kExC (kExI (kExB (kSeq (kSeq (kReg (kFadP rfl rfl (kLoadP rfl rfl rfl (kLenR rfl rfl (kFadP rfl rfl (kLoadP rfl rfl rfl (kLenR rfl rfl (kBin rfl rfl rfl (kDone (kCondIN rfl (fun g1 => kSeq (kSeq (kReg (kFadP rfl rfl (kLoadP rfl rfl rfl (kLenR rfl rfl (kFadP rfl rfl (kLoadP rfl rfl rfl (kLenR rfl rfl (kBin rfl rfl rfl (kDone (kCondP rfl (fun g2 => kSeq (kReg (kMovC rfl (kDone (kRet (endRetA (ra := [.one (.d _)]) rfl ?_)))))) (fun g2 => (by omega)))))))))))))) (fun g1 => kSkip (kSeq (kReg (kMovC rfl (kDone (kRet (endRetA (ra := [.one (.d _)]) rfl ?_)))))))))))))))))))))))))))))))))))))))))
    all_goals (rw [h3]; first | (rw [if_pos (by omega)]; done) | (rw [if_neg (by omega), if_pos (by omega)]; done) | rw [if_neg (by omega), if_neg (by omega)])

def c_spec_l2under : C := (.seq (.reg false (.o 0 2 (.box 2 (.t 0)) (.o 1 3 (.box 3 (.t 1)) (.o 2 4 (.mov (.v (.bool false))) .done)))) (.seq (.reg false (.o 0 6 (.fad (.t 2) 0) (.o 1 7 (.load none (.t 6)) (.o 2 8 (.len (.t 7)) (.o 3 9 (.fad (.t 3) 0) (.o 4 10 (.load none (.t 9)) (.o 5 11 (.len (.t 10)) (.o 6 12 (.bin .sub (.t 8) (.t 11)) (.o 7 5 (.mov (.t 12)) .done))))))))) (.seq (.reg true (.op 0 [] (some 13) none true (.mov (.t 5)) (.op 1 [] (some 14) none true (.bin .geq (.t 13) (.i 0)) (.op 2 [] (some 15) none true (.mov (.t 14)) (.op 3 [] (some 16) (some (15, true)) true (.fad (.t 2) 0) (.op 4 [] (some 17) (some (15, true)) true (.load none (.t 16)) (.op 5 [] (some 18) (some (15, true)) true (.mov (.t 5)) (.op 6 [] (some 19) (some (15, true)) true (.cut 1 (.t 17) (some (.t 18)) none) (.op 7 [] (some 20) (some (15, true)) true (.build [(.n 1)] [(0, 1, (.t 19))]) (.op 8 [] (some 21) (some (15, true)) true (.load (some 1) (.t 3)) (.op 9 [4, 8] (some 22) (some (15, true)) false (.call 22 80 [(.t 20), (.t 21)]) (.op 10 [] (some 23) (some (15, true)) true (.bin .eql (.t 22) (.i 0)) (.op 11 [] (some 24) none true (.pick (.t 15) (.t 23) (.v (.bool false))) (.op 12 [] (some 4) none true (.mov (.t 24)) .done)))))))))))))) .ret)))
theorem dg_spec_l2under : Tryz.f77.body.bind (digC Tryz.prog Tryz.f77.ntmps []) = some c_spec_l2under := by kernel_rfl
theorem rs_spec_l2under : resSlots Tryz.prog Tryz.f77 = some [.s 4] := by kernel_rfl
theorem ok_spec_l2under (n z : List (List UInt8)) (hn : n.length ≤ 4194304) (hz : z.length ≤ 4194304) :
    FnOK Tryz.prog 77 [.agg [.d (encBB n)], .agg [.d (encBB z)]] (fun ra _ => ra = [.one (.d (.sc (.bool (underN n z))))]) := by
  refine FnOK.ofK Tryz.func77 (by kernel_rfl) dg_spec_l2under rs_spec_l2under rfl rfl ?_
  delta c_spec_l2under T.o X.i
  have hd : (n.drop (n.length - z.length : Int).toNat).length ≤ 4194304 := by simp; omega
  refine kSeq (kReg (kBox rfl rfl rfl rfl rfl (kBox rfl rfl rfl rfl rfl (kMovC rfl (kDone (kSeq (kReg (kFadP rfl rfl (kLoadP rfl rfl rfl (kLenR rfl rfl (kFadP rfl rfl (kLoadP rfl rfl rfl (kLenR rfl rfl (kDif rfl rfl (by omega) (kMovC rfl (kDone (kSeq (kRegD (kMovC rfl (kBin rfl rfl rfl (kMovC rfl (kGP rfl (fun g0 => kGT rfl (kFadP rfl rfl (kGT rfl (kLoadP rfl rfl rfl (kGT rfl (kMovC rfl (kGT rfl (kCutLT rfl rfl (by omega) (kGT rfl (kBuild rfl (kGT rfl (kLoadP rfl rfl rfl (kRelF rfl rfl (kGT rfl (kCallD (ok_spec_l2cmp _ _ pr pr) ⟨⟨⟨rfl, trivial⟩, leb⟩, ⟨⟨rfl, trivial⟩, leb⟩, trivial⟩ rfl rfl rfl rfl rfl (kGT rfl (kBin rfl rfl rfl (kPickT rfl (kMovC rfl (kMovC rfl (kDone (kH (kRet (endRetA (ra := [.one (.d _)]) rfl ?_)))))))))))))))))))))))) (fun g0 => kGF rfl (kGF rfl (kGF rfl (kGF rfl (kGF rfl (kGF rfl (kRelF rfl rfl (kGF rfl (kGF rfl (kPickF rfl (kMovC rfl (kMovC rfl (kDone (kH (kRet (endRetA (ra := [.one (.d _)]) rfl ?_))))))))))))))))))))))))))))))))))))))
  · rw [cmpN_zero, show (n.length - z.length : Int).toNat = n.length - z.length by omega]
    simp only [underN]
    rw [decide_eq_true (show z.length ≤ n.length by omega), Bool.true_and]
  · rw [show underN n z = false by simp only [underN]; rw [decide_eq_false (by omega)]; rfl]

def c_spec_l3num : C := (.seq (.reg false (.o 0 4 (.mov (.i 0)) .done)) (.seq (.seq (.reg false (.o 0 5 (.mov (.t 0)) (.o 1 6 (.mov (.t 1)) (.o 2 7 (.bin .lss (.t 5) (.t 6)) .done)))) (.cond (.t 7) (.seq (.reg false (.o 0 4 (.mov (.i (-1))) .done)) .ret) .skip)) (.seq (.seq (.reg false (.o 0 8 (.mov (.t 0)) (.o 1 9 (.mov (.t 1)) (.o 2 10 (.bin .gtr (.t 8) (.t 9)) .done)))) (.cond (.t 10) (.seq (.reg false (.o 0 4 (.mov (.i 1)) .done)) .ret) .skip)) (.seq (.reg false (.o 0 4 (.mov (.i 0)) .done)) .ret))))
theorem dg_spec_l3num : Tryz.f183.body.bind (digC Tryz.prog Tryz.f183.ntmps []) = some c_spec_l3num := by kernel_rfl
theorem rs_spec_l3num : resSlots Tryz.prog Tryz.f183 = some [.s 4] := by kernel_rfl
theorem ok_spec_l3num (a b : Int) :
    FnOK Tryz.prog 183 [.one (.d (.sc (.int .i64 a))), .one (.d (.sc (.int .i64 b)))] (fun ra _ => ra = [.one (.d (.sc (.int .i64 (cmpI a b))))]) := by
  refine FnOK.ofK Tryz.func183 (by kernel_rfl) dg_spec_l3num rs_spec_l3num rfl rfl ?_
  delta c_spec_l3num T.o X.i
  refine kSeq (kReg (kMovC rfl (kDone (kSeq (kSeq (kReg (kMovC rfl (kMovC rfl (kBin rfl rfl rfl (kDone (kCondP rfl (fun g0 => kSeq (kReg (kMovC rfl (kDone (kRet (endRetA (ra := [.one (.d _)]) rfl ?_)))))) (fun g0 => kSkip (kSeq (kSeq (kReg (kMovC rfl (kMovC rfl (kBin rfl rfl rfl (kDone (kCondP rfl (fun g1 => kSeq (kReg (kMovC rfl (kDone (kRet (endRetA (ra := [.one (.d _)]) rfl ?_)))))) (fun g1 => kSkip (kSeq (kReg (kMovC rfl (kDone (kRet (endRetA (ra := [.one (.d _)]) rfl ?_)))))))))))))))))))))))))))
  all_goals (refine congrArg (fun z : Int => [RA.one (RV.d (DV.sc (Value.int IntKind.i64 z)))]) ?_; unfold cmpI; split <;> first | omega | (split <;> omega))

def c_spec_Put32 : C := (.seq (.reg false (.o 0 4 (.mov (.n 1)) .done)) (.seq (.reg false (.o 0 6 (.lit 6 1 [(.v (.int .u8 0))] 0 []) (.o 1 7 (.mov (.t 0)) (.o 2 8 (.app 8 1 1 (.t 6) (.t 7)) (.o 3 5 (.mov (.t 8)) .done))))) (.seq (.seq (.reg false (.o 0 9 (.mov (.t 1)) (.o 1 10 (.bin .lss (.t 9) (.i 0)) (.o 2 11 (.mov (.t 10)) (.op 3 [] (some 12) (some (11, false)) false (.mov (.t 1)) (.op 4 [] (some 13) (some (11, false)) false (.bin .geq (.t 12) (.i 4294967296)) (.o 5 14 (.pick (.t 11) (.v (.bool true)) (.t 13)) .done))))))) (.cond (.t 14) (.seq (.reg false (.o 0 15 (.mov (.t 5)) (.o 1 4 (.mov (.t 15)) .done))) .ret) .skip)) (.seq (.reg false (.o 0 16 (.mov (.t 5)) (.o 1 17 (.mov (.t 1)) (.o 2 18 (.bin .shr (.t 17) (.v (.int .u64 24))) (.o 3 19 (.conv .u8 (.t 18)) (.o 4 20 (.mov (.t 1)) (.o 5 21 (.bin .shr (.t 20) (.v (.int .u64 16))) (.o 6 22 (.conv .u8 (.t 21)) (.o 7 23 (.mov (.t 1)) (.o 8 24 (.bin .shr (.t 23) (.v (.int .u64 8))) (.o 9 25 (.conv .u8 (.t 24)) (.o 10 26 (.mov (.t 1)) (.o 11 27 (.conv .u8 (.t 26)) (.o 12 28 (.lit 28 1 [(.v (.int .u8 0))] 4 [(0, 1, (.t 19)), (1, 1, (.t 22)), (2, 1, (.t 25)), (3, 1, (.t 27))]) (.o 13 29 (.app 29 1 1 (.t 16) (.t 28)) (.o 14 4 (.mov (.t 29)) .done)))))))))))))))) .ret))))
theorem dg_spec_Put32 : Tryz.f259.body.bind (digC Tryz.prog Tryz.f259.ntmps []) = some c_spec_Put32 := by kernel_rfl
theorem rs_spec_Put32 : resSlots Tryz.prog Tryz.f259 = some [.s 4] := by kernel_rfl
theorem ok_spec_Put32 (b : List UInt8) (n : Int) (hb : b.length ≤ 16777216) (h0 : 0 ≤ n) (h1 : n < 4294967296) :
    FnOK Tryz.prog 259 [.one (.d (encB b)), .one (.d (.sc (.int .i64 n)))] (fun ra _ => ra = [.one (.own true (encB (b ++ w4 n)))]) := by
  refine FnOK.ofK Tryz.func259 (by kernel_rfl) dg_spec_Put32 rs_spec_Put32 rfl rfl ?_
  delta c_spec_Put32 T.o X.i
  refine kSeq (kReg (kMovC rfl (kDone (kSeq (kReg (kLit rfl rfl rfl rfl (kMovC rfl (kAppN rfl rfl rfl (src_encB _ _) rfl rfl rfl rfl (by omega) (kMovC rfl (kDone (kSeq (kSeq (kReg (kMovC rfl (kBin rfl rfl rfl (kMovC rfl (kGP rfl (fun g0 => (by omega)) (fun g0 => kGT rfl (kMovC rfl (kGT rfl (kBin rfl rfl rfl (kPickF rfl (kMovC rfl (kDone (kCondP rfl (fun g1 => (by omega)) (fun g1 => kSkip (kSeq (kReg (kMovC rfl (kMovC rfl (kShr (m := 24) rfl rfl rfl (kConvU8 rfl (kMovC rfl (kShr (m := 16) rfl rfl rfl (kConvU8 rfl (kMovC rfl (kShr (m := 8) rfl rfl rfl (kConvU8 rfl (kMovC rfl (kConvU8 rfl (kLit rfl rfl rfl rfl (kAppR4 rfl rfl rfl rfl rfl rfl rfl rfl (by omega) (kMovC rfl (kDone (kRet (endRetA (ra := [.one (.own true _)]) rfl rfl))))))))))))))))))))))))))))))))))))))))))))))
theorem ok_spec_Put32_nil (n : Int) (h0 : 0 ≤ n) (h1 : n < 4294967296) :
    FnOK Tryz.prog 259 [.one (.d (.sl 1 [])), .one (.d (.sc (.int .i64 n)))] (fun ra _ => ra = [.one (.own true (encB (w4 n)))]) := ok_spec_Put32 [] n (Nat.zero_le _) h0 h1

def c_spec_l2put : C := (.seq (.reg false (.o 0 3 (.box 3 (.t 1)) (.o 1 4 (.mov (.n 1)) .done))) (.seq (.seq (.reg false (.o 0 5 (.mov (.i 0)) .done)) (.block 0 (.loop (.seq (.seq (.reg false (.o 0 6 (.mov (.t 5)) (.o 1 7 (.fad (.t 3) 0) (.o 2 8 (.load none (.t 7)) (.o 3 9 (.len (.t 8)) (.o 4 10 (.bin .lss (.t 6) (.t 9)) .done)))))) (.cond (.t 10) .skip (.exit 0))) (.seq (.block 1 (.reg true (.op 0 [] (some 13) none true (.mov (.t 0)) (.op 1 [] (some 14) none true (.fad (.t 3) 0) (.op 2 [] (some 15) none true (.load none (.t 14)) (.op 3 [] (some 16) none true (.mov (.t 5)) (.op 4 [] (some 17) none true (.iad 1 (.t 15) (.t 16)) (.op 5 [] (some 18) none true (.load none (.t 17)) (.op 6 [] (some 19) none true (.len (.t 18)) (.op 7 [] (some 20) none true (.conv .u8 (.t 19)) (.op 10 [] (some 23) none true (.fad (.t 3) 0) (.op 11 [] (some 24) none true (.load none (.t 23)) (.op 12 [] (some 25) none true (.mov (.t 5)) (.op 13 [] (some 26) none true (.iad 1 (.t 24) (.t 25)) (.op 14 [] (some 27) none true (.load none (.t 26)) (.op 8 [5, 2] (some 21) none false (.lit 21 1 [(.v (.int .u8 0))] 1 [(0, 1, (.t 20))]) (.op 9 [5, 2] (some 22) none false (.app 22 1 1 (.t 13) (.t 21)) (.op 15 [5, 14, 11] (some 28) none false (.app 28 1 1 (.t 22) (.t 27)) (.op 16 [] (some 0) none true (.mov (.t 28)) .done))))))))))))))))))) (.reg false (.o 0 11 (.mov (.t 5)) (.o 1 12 (.bin .add (.t 11) (.i 1)) (.o 2 5 (.mov (.t 12)) .done))))))))) (.seq (.reg false (.o 0 29 (.mov (.t 0)) (.o 1 30 (.lit 30 1 [(.v (.int .u8 0))] 1 [(0, 1, (.v (.int .u8 0)))]) (.o 2 31 (.app 31 1 1 (.t 29) (.t 30)) (.o 3 4 (.mov (.t 31)) .done))))) .ret)))
theorem dg_spec_l2put : Tryz.f209.body.bind (digC Tryz.prog Tryz.f209.ntmps []) = some c_spec_l2put := by kernel_rfl
theorem rs_spec_l2put : resSlots Tryz.prog Tryz.f209 = some [.s 4] := by kernel_rfl
theorem ok_spec_l2put (b : List UInt8) (a : List (List UInt8)) (hs : SmallBB a) (hb : b.length ≤ 16777216) :
    FnOK Tryz.prog 209 [.one (.arr true true (encB b)), .agg [.d (encBB a)]] (fun ra _ => ra = [.one (.own true (encB (b ++ wireN a)))]) := by
  refine FnOK.ofK Tryz.func209 (by kernel_rfl) dg_spec_l2put rs_spec_l2put rfl rfl ?_
  delta c_spec_l2put T.o X.i
  have h1 := hs.len
  have h2 := hs.flat
  refine kSeq (kReg (kBox rfl rfl rfl rfl rfl (kMovC rfl (kDone (kSeq (kSeq (kReg (kMovC rfl (kDone (kBlock ?_))))))))))
  refine kLoop (α := { i : Nat // i ≤ a.length }) (fun y => ⟨tabSl [(0, .c (.arr 0 1)), (3, .c (.ptr (rid 3 0) 1 0)), (5, .i y.1)], obTab 1 [(0, ⟨1, 0, .arr true (encB (b ++ wireL (a.take y.1)))⟩), (rid 3 0, ⟨1, 0, .box [.d (encBB a)]⟩)], []⟩) (fun y => a.length - y.1) ⟨0, by simp⟩ (by simp only [List.take_zero, wireL, List.flatMap_nil, List.append_nil]; exact .normA) ?_
  rintro ⟨i, hi⟩
  simp only
  have hl := wireL_le a i
  have hl2 : (b ++ wireL (a.take i)).length = b.length + (wireL (a.take i)).length := by simp
  rcases Nat.lt_or_ge i a.length with hlt | hge
  · have hst : b ++ wireL (a.take (i + 1)) = b ++ wireL (a.take i) ++ [u8 a[i].length] ++ a[i] := by rw [wireL_take a i hlt]; simp
    have hm := hs.mem _ (List.getElem_mem hlt)
    have hlen : (b ++ wireL (a.take i) ++ [u8 a[i].length]).length = (b ++ wireL (a.take i)).length + 1 := by simp only [List.length_append, List.length_cons, List.length_nil]
    refine kSeq (kSeq (kReg (kMovC rfl (kFadP rfl rfl (kLoadP rfl rfl rfl (kLenR rfl rfl (kBin rfl rfl rfl (kDone (kCondP rfl (fun g0 => kSkip (kSeq (kBlock (kRegD (kMovC rfl (kFadP rfl rfl (kLoadP rfl rfl rfl (kMovC rfl (kIadR rfl rfl rfl (by omega) (kLoadD rfl rfl (kLenR rfl rfl (kConvU8 rfl (kFadP rfl rfl (kLoadP rfl rfl rfl (kMovC rfl (kIadR rfl rfl rfl (by omega) (kLoadD rfl rfl (kRelK rfl rfl (kLit rfl rfl rfl rfl (kRelK rfl rfl (kAppR1 rfl rfl rfl rfl rfl rfl rfl rfl (by omega) (kRelF rfl rfl (kAppR rfl rfl rfl (src_encB _ _) rfl rfl rfl rfl (by omega) (kMovC rfl (kDone (kH (kBk (kReg (kMovC rfl (kAdd rfl rfl (by omega) (kMovC rfl (kDone ?_)))))))))))))))))))))))))))))))) (fun g0 => (by omega)))))))))))
    refine kInv ⟨⟨i + 1, by omega⟩, by simp only; omega, ?_⟩
    simp only [hst]
    exact .normA
  · have he : b ++ wireN a = b ++ wireL (a.take i) ++ [0] := by rw [show i = a.length by omega, List.take_length]; simp [wireN]
    rw [he]
    refine kSeq (kSeq (kReg (kMovC rfl (kFadP rfl rfl (kLoadP rfl rfl rfl (kLenR rfl rfl (kBin rfl rfl rfl (kDone (kCondP rfl (fun g0 => (by omega)) (fun g0 => kExit (kExC (kExI (kExB (kSeq (kReg (kMovC rfl (kLit rfl rfl rfl rfl (kAppR1 (z := (0 : UInt8)) rfl rfl rfl rfl rfl rfl rfl rfl (by omega) (kMovC rfl (kDone (kRet (endRetA (ra := [.one (.own true _)]) rfl rfl))))))))))))))))))))))
theorem ok_spec_l2put_nil (a : List (List UInt8)) (hs : SmallBB a) :
    FnOK Tryz.prog 209 [.one (.arr true true (.sl 1 [])), .agg [.d (encBB a)]] (fun ra _ => ra = [.one (.own true (encB (wireN a)))]) := ok_spec_l2put [] a hs (Nat.zero_le _)

def c_spec_l3put : C := (.seq (.reg false (.o 0 1 (.box 1 (.t 0)) (.o 1 2 (.mov (.n 1)) .done))) (.seq (.block 0 (.seq (.reg false (.o 0 4 (.fad (.t 1) 1) (.o 1 5 (.load none (.t 4)) (.o 2 6 (.bin .eql (.t 5) (.i 1)) (.o 3 3 (.mov (.t 6)) .done))))) (.cond (.t 3) (.seq (.reg false (.o 0 7 (.fad (.t 1) 3) (.o 1 8 (.load none (.t 7)) (.o 2 9 (.call 9 259 [(.n 1), (.t 8)]) (.o 3 2 (.mov (.t 9)) .done))))) .ret) (.seq (.reg false (.o 0 11 (.fad (.t 1) 1) (.o 1 12 (.load none (.t 11)) (.o 2 13 (.bin .eql (.t 12) (.i 6)) (.o 3 10 (.mov (.t 13)) .done))))) (.cond (.t 10) (.seq (.reg true (.op 0 [] (some 14) none true (.fad (.t 1) 4) (.op 1 [] (some 15) none true (.load (some 1) (.t 14)) (.op 3 [] (some 17) none true (.fad (.t 1) 6) (.op 4 [] (some 18) none true (.load none (.t 17)) (.op 5 [] (some 19) none true (.iad 1 (.t 18) (.i 0)) (.op 6 [] (some 20) none true (.load none (.t 19)) (.op 8 [] (some 22) none true (.fad (.t 1) 6) (.op 9 [] (some 23) none true (.load none (.t 22)) (.op 10 [] (some 24) none true (.iad 1 (.t 23) (.i 1)) (.op 11 [] (some 25) none true (.load none (.t 24)) (.op 2 [1] (some 16) none false (.call 16 209 [(.n 1), (.t 15)]) (.op 7 [1, 6, 4] (some 21) none false (.call 21 259 [(.t 16), (.t 20)]) (.op 12 [1, 6, 4, 11, 9] (some 26) none false (.call 26 259 [(.t 21), (.t 25)]) (.op 13 [] (some 2) none true (.mov (.t 26)) .done))))))))))))))) .ret) (.seq (.reg false (.o 0 28 (.fad (.t 1) 1) (.o 1 29 (.load none (.t 28)) (.o 2 30 (.call 30 257 [(.t 29)]) (.o 3 27 (.mov (.t 30)) .done))))) (.cond (.t 27) (.seq (.reg false (.o 0 31 (.fad (.t 1) 4) (.o 1 32 (.load (some 1) (.t 31)) (.o 2 33 (.call 33 209 [(.n 1), (.t 32)]) (.o 3 2 (.mov (.t 33)) .done))))) .ret) .skip))))))) (.seq (.reg false (.o 0 34 (.fad (.t 1) 5) (.o 1 35 (.load none (.t 34)) (.o 2 36 (.len (.t 35)) (.o 3 37 (.conv .u8 (.t 36)) (.o 4 38 (.lit 38 1 [(.v (.int .u8 0))] 1 [(0, 1, (.t 37))]) (.o 5 39 (.fad (.t 1) 5) (.o 6 40 (.load none (.t 39)) (.o 7 41 (.app 41 1 1 (.t 38) (.t 40)) (.o 8 2 (.mov (.t 41)) .done)))))))))) .ret)))
theorem dg_spec_l3put : Tryz.f185.body.bind (digC Tryz.prog Tryz.f185.ntmps []) = some c_spec_l3put := by kernel_rfl
theorem rs_spec_l3put : resSlots Tryz.prog Tryz.f185 = some [.s 2] := by kernel_rfl
theorem ok_spec_l3put (r : Rr) (hs : SmallR r) (hk : rrOk r = true) :
    FnOK Tryz.prog 185 [.agg (r.cells.map .d)] (fun ra _ => ra = [.one (.own true (encB (rdata r)))]) := by
  refine FnOK.ofK Tryz.func185 (by kernel_rfl) dg_spec_l3put rs_spec_l3put rfl rfl ?_
  delta c_spec_l3put T.o X.i
  have ht := hs.t
  have t1 := hs.t.len
  have t2 := hs.t.flat
  have x1 := hs.x
  have m1 := hs.m
  by_cases h1 : r.ty = 1
  · rw [rdata_A h1]
    have ha := rdata_ad hk h1
    refine kSeq (kReg (kBox rfl rfl rfl rfl rfl (kMovC rfl (kDone (kSeq (kBlock (kSeq (kReg (kFadP rfl rfl (kLoadP rfl rfl rfl (kBin rfl rfl rfl (kMovC rfl (kDone (kCondP rfl (fun g0 => kSeq (kReg (kFadP rfl rfl (kLoadP rfl rfl rfl (kCall1 true (ok_spec_Put32_nil _ pr pr) ⟨rfl, rfl, trivial⟩ rfl rfl rfl (fun _ => (kMovC rfl (kDone (kRet (endRetA (ra := [.one (.own true _)]) rfl rfl)))))))))) (fun g0 => (by omega))))))))))))))))
  by_cases h6 : r.ty = 6
  · obtain ⟨h2, h3, h4, h5⟩ := rdata_soa hk h6
    rw [h5]
    have w1 := wireN_len r.to
    have w2 : (wireN r.to ++ w4 (r.nums[0]'(by omega))).length = (wireN r.to).length + 4 := by rw [List.length_append, w4_len]
    refine kSeq (kReg (kBox rfl rfl rfl rfl rfl (kMovC rfl (kDone (kSeq (kBlock (kSeq (kReg (kFadP rfl rfl (kLoadP rfl rfl rfl (kBin rfl rfl rfl (kMovC rfl (kDone (kCondP rfl (fun g0 => (by omega)) (fun g0 => kSeq (kReg (kFadP rfl rfl (kLoadP rfl rfl rfl (kBin rfl rfl rfl (kMovC rfl (kDone (kCondP rfl (fun g1 => kSeq (kRegD (kFadP rfl rfl (kLoadP rfl rfl rfl (kFadP rfl rfl (kLoadP rfl rfl rfl (kIadR (m := 0) rfl rfl rfl (by omega) (kLoadD rfl rfl (kFadP rfl rfl (kLoadP rfl rfl rfl (kIadR (m := 1) rfl rfl rfl (by omega) (kLoadD rfl rfl (kRelK rfl rfl (kCall1 true (ok_spec_l2put_nil _ pr) ⟨⟨rfl, rfl⟩, ⟨⟨rfl, trivial⟩, leb⟩, trivial⟩ rfl rfl rfl (fun _ => (kRelK rfl rfl (kCall1 true (ok_spec_Put32 _ _ pr pr pr) ⟨rfl, rfl, trivial⟩ rfl rfl rfl (fun _ => (kRelF rfl rfl (kCall1 true (ok_spec_Put32 _ _ pr pr pr) ⟨rfl, rfl, trivial⟩ rfl rfl rfl (fun _ => (kMovC rfl (kDone (kH (kRet (endRetA (ra := [.one (.own true _)]) rfl rfl)))))))))))))))))))))))))) (fun g1 => (by omega))))))))))))))))))))))))
  have hn := rdata_nm hk h6
  cases h2 : hasTo r.ty
  · rw [rdata_text h1 h2]
    refine kSeq (kReg (kBox rfl rfl rfl rfl rfl (kMovC rfl (kDone (kSeq (kBlock (kSeq (kReg (kFadP rfl rfl (kLoadP rfl rfl rfl (kBin rfl rfl rfl (kMovC rfl (kDone (kCondP rfl (fun g0 => (by omega)) (fun g0 => kSeq (kReg (kFadP rfl rfl (kLoadP rfl rfl rfl (kBin rfl rfl rfl (kMovC rfl (kDone (kCondP rfl (fun g1 => (by omega)) (fun g1 => kSeq (kReg (kFadP rfl rfl (kLoadP rfl rfl rfl (kCallD (ok_spec_l3named _) ⟨rfl, trivial⟩ rfl rfl rfl rfl rfl (kMovC rfl (kDone (kCond rfl (fun g2 => (by (simp [*] at g2))) (fun g2 => kSkip (kBk (kSeq (kReg (kFadP rfl rfl (kLoadP rfl rfl rfl (kLenR rfl rfl (kConvU8 rfl (kLit rfl rfl rfl rfl (kFadP rfl rfl (kLoadP rfl rfl rfl (kApp1R rfl rfl (src_encB _ _) rfl rfl rfl rfl rfl (by omega) (kMovC rfl (kDone (kRet (endRetA (ra := [.one (.own true _)]) rfl rfl))))))))))))))))))))))))))))))))))))))))))))))
  · rw [rdata_to h1 h2, hn, List.flatMap_nil, List.append_nil]
    refine kSeq (kReg (kBox rfl rfl rfl rfl rfl (kMovC rfl (kDone (kSeq (kBlock (kSeq (kReg (kFadP rfl rfl (kLoadP rfl rfl rfl (kBin rfl rfl rfl (kMovC rfl (kDone (kCondP rfl (fun g0 => (by omega)) (fun g0 => kSeq (kReg (kFadP rfl rfl (kLoadP rfl rfl rfl (kBin rfl rfl rfl (kMovC rfl (kDone (kCondP rfl (fun g1 => (by omega)) (fun g1 => kSeq (kReg (kFadP rfl rfl (kLoadP rfl rfl rfl (kCallD (ok_spec_l3named _) ⟨rfl, trivial⟩ rfl rfl rfl rfl rfl (kMovC rfl (kDone (kCond rfl (fun g2 => kSeq (kReg (kFadP rfl rfl (kLoadP rfl rfl rfl (kCall1 true (ok_spec_l2put_nil _ pr) ⟨⟨rfl, rfl⟩, ⟨⟨rfl, trivial⟩, leb⟩, trivial⟩ rfl rfl rfl (fun _ => (kMovC rfl (kDone (kRet (endRetA (ra := [.one (.own true _)]) rfl rfl)))))))))) (fun g2 => (by (simp [*] at g2)))))))))))))))))))))))))))))))))

def c_spec_l3cmp : C := (.seq (.reg false (.o 0 2 (.box 2 (.t 0)) (.o 1 3 (.box 3 (.t 1)) (.o 2 4 (.mov (.i 0)) .done)))) (.seq (.reg false (.o 0 6 (.fad (.t 2) 0) (.o 1 7 (.load (some 1) (.t 6)) (.o 2 8 (.fad (.t 3) 0) (.o 3 9 (.load (some 1) (.t 8)) (.o 4 10 (.call 10 80 [(.t 7), (.t 9)]) (.o 5 5 (.mov (.t 10)) .done))))))) (.seq (.seq (.reg false (.o 0 11 (.mov (.t 5)) (.o 1 12 (.bin .eql (.t 11) (.i 0)) .done))) (.cond (.t 12) (.reg false (.o 0 13 (.fad (.t 2) 1) (.o 1 14 (.load none (.t 13)) (.o 2 15 (.fad (.t 3) 1) (.o 3 16 (.load none (.t 15)) (.o 4 17 (.call 17 183 [(.t 14), (.t 16)]) (.o 5 5 (.mov (.t 17)) .done))))))) .skip)) (.seq (.seq (.reg false (.o 0 18 (.mov (.t 5)) (.o 1 19 (.bin .eql (.t 18) (.i 0)) .done))) (.cond (.t 19) (.reg true (.op 0 [] (some 20) none true (.load (some 7) (.t 2)) (.op 2 [] (some 22) none true (.load (some 7) (.t 3)) (.op 1 [0] (some 21) none false (.call 21 185 [(.t 20)]) (.op 3 [2, 0] (some 23) none false (.call 23 185 [(.t 22)]) (.op 4 [0, 2] (some 24) none false (.call 24 184 [(.t 21), (.t 23)]) (.op 5 [] (some 5) none true (.mov (.t 24)) .done))))))) .skip)) (.seq (.reg false (.o 0 25 (.mov (.t 5)) (.o 1 4 (.mov (.t 25)) .done))) .ret)))))
theorem dg_spec_l3cmp : Tryz.f78.body.bind (digC Tryz.prog Tryz.f78.ntmps []) = some c_spec_l3cmp := by kernel_rfl
theorem rs_spec_l3cmp : resSlots Tryz.prog Tryz.f78 = some [.s 4] := by kernel_rfl
theorem ok_spec_l3cmp (a b : Rr) (ha : SmallR a) (hb : SmallR b) (ka : rrOk a = true) (kb : rrOk b = true) :
    FnOK Tryz.prog 78 [.agg (a.cells.map .d), .agg (b.cells.map .d)] (fun ra _ => ra = [.one (.d (.sc (.int .i64 (cmpR a b))))]) := by
  refine FnOK.ofK Tryz.func78 (by kernel_rfl) dg_spec_l3cmp rs_spec_l3cmp rfl rfl ?_
  delta c_spec_l3cmp T.o X.i
  have n1 := ha.n.len
  have n2 := hb.n.len
  by_cases h1 : cmpN a.name b.name = 0
  · by_cases h2 : cmpI a.ty b.ty = 0
    · rw [show cmpR a b = cmpB (rdata a) (rdata b) by unfold cmpR; rw [if_pos h1, if_pos h2]]
      refine kSeq (kReg (kBox rfl rfl rfl rfl rfl (kBox rfl rfl rfl rfl rfl (kMovC rfl (kDone (kSeq (kReg (kFadP rfl rfl (kLoadP rfl rfl rfl (kFadP rfl rfl (kLoadP rfl rfl rfl (kCallD (ok_spec_l2cmp _ _ pr pr) ⟨⟨⟨rfl, trivial⟩, leb⟩, ⟨⟨rfl, trivial⟩, leb⟩, trivial⟩ rfl rfl rfl rfl rfl (kMovC rfl (kDone (kSeq (kSeq (kReg (kMovC rfl (kBin rfl rfl rfl (kDone (kCondP rfl (fun g0 => kReg (kFadP rfl rfl (kLoadP rfl rfl rfl (kFadP rfl rfl (kLoadP rfl rfl rfl (kCallD (ok_spec_l3num _ _) ⟨rfl, rfl, trivial⟩ rfl rfl rfl rfl rfl (kMovC rfl (kDone (kSeq (kSeq (kReg (kMovC rfl (kBin rfl rfl rfl (kDone (kCondP rfl (fun g1 => kRegD (kLoadP rfl rfl rfl (kLoadP rfl rfl rfl (kRelK rfl rfl (kCall1 true (ok_spec_l3put _ pr pr) ⟨⟨⟨rfl, rfl, rfl, rfl, rfl, rfl, rfl, trivial⟩, leb⟩, trivial⟩ rfl rfl rfl (fun _ => (kRelF rfl rfl (kCall1 true (ok_spec_l3put _ pr pr) ⟨⟨⟨rfl, rfl, rfl, rfl, rfl, rfl, rfl, trivial⟩, leb⟩, trivial⟩ rfl rfl rfl (fun _ => (kRelF rfl rfl (kCallD (ok_spec_l2bytes _ _) ⟨rfl, rfl, trivial⟩ rfl rfl rfl rfl rfl (kMovC rfl (kDone (kH (kSeq (kReg (kMovC rfl (kMovC rfl (kDone (kRet (endRetA (ra := [.one (.d _)]) rfl rfl))))))))))))))))))))) (fun g1 => (by omega))))))))))))))))) (fun g0 => (by omega)))))))))))))))))))))))
    · rw [show cmpR a b = cmpI a.ty b.ty by unfold cmpR; rw [if_pos h1, if_neg h2]]
      refine kSeq (kReg (kBox rfl rfl rfl rfl rfl (kBox rfl rfl rfl rfl rfl (kMovC rfl (kDone (kSeq (kReg (kFadP rfl rfl (kLoadP rfl rfl rfl (kFadP rfl rfl (kLoadP rfl rfl rfl (kCallD (ok_spec_l2cmp _ _ pr pr) ⟨⟨⟨rfl, trivial⟩, leb⟩, ⟨⟨rfl, trivial⟩, leb⟩, trivial⟩ rfl rfl rfl rfl rfl (kMovC rfl (kDone (kSeq (kSeq (kReg (kMovC rfl (kBin rfl rfl rfl (kDone (kCondP rfl (fun g0 => kReg (kFadP rfl rfl (kLoadP rfl rfl rfl (kFadP rfl rfl (kLoadP rfl rfl rfl (kCallD (ok_spec_l3num _ _) ⟨rfl, rfl, trivial⟩ rfl rfl rfl rfl rfl (kMovC rfl (kDone (kSeq (kSeq (kReg (kMovC rfl (kBin rfl rfl rfl (kDone (kCondP rfl (fun g1 => (by omega)) (fun g1 => kSkip (kSeq (kReg (kMovC rfl (kMovC rfl (kDone (kRet (endRetA (ra := [.one (.d _)]) rfl rfl))))))))))))))))))))))) (fun g0 => (by omega)))))))))))))))))))))))
  · rw [show cmpR a b = cmpN a.name b.name by unfold cmpR; rw [if_neg h1]]
    refine kSeq (kReg (kBox rfl rfl rfl rfl rfl (kBox rfl rfl rfl rfl rfl (kMovC rfl (kDone (kSeq (kReg (kFadP rfl rfl (kLoadP rfl rfl rfl (kFadP rfl rfl (kLoadP rfl rfl rfl (kCallD (ok_spec_l2cmp _ _ pr pr) ⟨⟨⟨rfl, trivial⟩, leb⟩, ⟨⟨rfl, trivial⟩, leb⟩, trivial⟩ rfl rfl rfl rfl rfl (kMovC rfl (kDone (kSeq (kSeq (kReg (kMovC rfl (kBin rfl rfl rfl (kDone (kCondP rfl (fun g0 => (by omega)) (fun g0 => kSkip (kSeq (kSeq (kReg (kMovC rfl (kBin rfl rfl rfl (kDone (kCondP rfl (fun g1 => (by omega)) (fun g1 => kSkip (kSeq (kReg (kMovC rfl (kMovC rfl (kDone (kRet (endRetA (ra := [.one (.d _)]) rfl rfl)))))))))))))))))))))))))))))))))))))

def c_spec_l5alone : C := (.seq (.reg false (.o 0 4 (.mov (.v (.bool false))) .done)) (.seq (.seq (.reg false (.o 0 6 (.mov (.t 0)) (.o 1 7 (.mov (.t 1)) (.o 2 8 (.iad 7 (.t 6) (.t 7)) (.o 3 9 (.fad (.t 8) 1) (.o 4 10 (.load none (.t 9)) (.o 5 11 (.bin .neq (.t 10) (.i 5)) .done))))))) (.cond (.t 11) (.seq (.reg false (.o 0 4 (.mov (.v (.bool true))) .done)) .ret) .skip)) (.seq (.seq (.reg false (.o 0 5 (.mov (.i 0)) .done)) (.block 0 (.loop (.seq (.seq (.reg false (.o 0 12 (.mov (.t 5)) (.o 1 13 (.mov (.t 0)) (.o 2 14 (.len (.t 13)) (.o 3 15 (.bin .lss (.t 12) (.t 14)) .done))))) (.cond (.t 15) .skip (.exit 0))) (.seq (.block 1 (.seq (.reg true (.op 0 [] (some 18) none true (.mov (.t 5)) (.op 1 [] (some 19) none true (.mov (.t 1)) (.op 2 [] (some 20) none true (.bin .neq (.t 18) (.t 19)) (.op 3 [] (some 21) none true (.mov (.t 20)) (.op 4 [] (some 22) (some (21, true)) true (.mov (.t 0)) (.op 5 [] (some 23) (some (21, true)) true (.mov (.t 5)) (.op 6 [] (some 24) (some (21, true)) true (.iad 7 (.t 22) (.t 23)) (.op 7 [] (some 25) (some (21, true)) true (.fad (.t 24) 0) (.op 8 [] (some 26) (some (21, true)) true (.load (some 1) (.t 25)) (.op 9 [] (some 27) (some (21, true)) true (.mov (.t 0)) (.op 10 [] (some 28) (some (21, true)) true (.mov (.t 1)) (.op 11 [] (some 29) (some (21, true)) true (.iad 7 (.t 27) (.t 28)) (.op 12 [] (some 30) (some (21, true)) true (.fad (.t 29) 0) (.op 13 [] (some 31) (some (21, true)) true (.load (some 1) (.t 30)) (.op 14 [8, 13] (some 32) (some (21, true)) false (.call 32 80 [(.t 26), (.t 31)]) (.op 15 [] (some 33) (some (21, true)) true (.bin .eql (.t 32) (.i 0)) (.op 16 [] (some 34) none true (.pick (.t 21) (.t 33) (.v (.bool false))) .done)))))))))))))))))) (.cond (.t 34) (.seq (.reg false (.o 0 4 (.mov (.v (.bool false))) .done)) .ret) .skip))) (.reg false (.o 0 16 (.mov (.t 5)) (.o 1 17 (.bin .add (.t 16) (.i 1)) (.o 2 5 (.mov (.t 17)) .done))))))))) (.seq (.reg false (.o 0 4 (.mov (.v (.bool true))) .done)) .ret))))
theorem dg_spec_l5alone : Tryz.f79.body.bind (digC Tryz.prog Tryz.f79.ntmps []) = some c_spec_l5alone := by kernel_rfl
theorem rs_spec_l5alone : resSlots Tryz.prog Tryz.f79 = some [.s 4] := by kernel_rfl
theorem ok_spec_l5alone (l : List Rr) (i : Nat) (hs : SmallRs l) (hi : i < l.length) :
    FnOK Tryz.prog 79 [.one (.d (encR l)), .one (.d (.sc (.int .i64 i)))] (fun ra _ => ra = [.one (.d (.sc (.bool (aloneR l i))))]) := by
  refine FnOK.ofK Tryz.func79 (by kernel_rfl) dg_spec_l5alone rs_spec_l5alone rfl rfl ?_
  delta c_spec_l5alone T.o X.i
  have h1 := hs.len
  have hbi := hs.mem _ (List.getElem_mem hi)
  have n1 := hbi.n.len
  by_cases p : l[i].ty = 5
  · refine kSeq (kReg (kMovC rfl (kDone (kSeq (kSeq (kReg (kMovC rfl (kMovC rfl (kIadR rfl rfl rfl (by omega) (kFadD rfl (kLoadD rfl rfl (kBin rfl rfl rfl (kDone (kCondIN rfl (fun g0 => (by omega)) (fun g0 => kSkip (kSeq (kSeq (kReg (kMovC rfl (kDone (kBlock ?_)))))))))))))))))))))
    refine kLoop (α := { k : Nat // k ≤ l.length ∧ ∀ j, (h : j < k) → (h' : j < l.length) → j ≠ i → l[j].name ≠ l[i].name }) (fun y => ⟨tabSl [(0, .dv (encR l)), (1, .i i), (5, .i y.1)], obTab 1 [], []⟩) (fun y => l.length - y.1) ⟨0, by simp, fun _ h => by omega⟩ .normA ?_
    rintro ⟨k, hk, hn⟩
    simp only
    rcases Nat.lt_or_ge k l.length with hlt | hge
    · have hbk := hs.mem _ (List.getElem_mem hlt)
      have n2 := hbk.n.len
      have hz := cmpN_zero l[k].name l[i].name
      by_cases p1 : k = i
      · refine kSeq (kSeq (kReg (kMovC rfl (kMovC rfl (kLenR rfl rfl (kBin rfl rfl rfl (kDone (kCondP rfl (fun g0 => kSkip (kSeq (kBlock (kSeq (kRegD (kMovC rfl (kMovC rfl (kBin rfl rfl rfl (kMovC rfl (kGIN rfl (fun g1 => (by omega)) (fun g1 => kGF rfl (kGF rfl (kGF rfl (kGF rfl (kGF rfl (kGF rfl (kGF rfl (kGF rfl (kGF rfl (kGF rfl (kRelF rfl rfl (kGF rfl (kGF rfl (kPickF rfl (kMovC rfl (kDone (kH (kCondF rfl (kSkip (kBk (kReg (kMovC rfl (kAdd rfl rfl (by omega) (kMovC rfl (kDone ?_))))))))))))))))))))))))))))))))))) (fun g0 => (by omega))))))))))
        refine kInv ⟨⟨k + 1, by omega, fun j h h' hne => hn j (by omega) h' hne⟩, by simp only; omega, .normA⟩
      · by_cases p2 : l[k].name = l[i].name
        · have hc : cmpN l[k].name l[i].name = 0 := by simpa [p2] using hz
          rw [show aloneR l i = false by rw [aloneR_no hi p hlt p1 p2]]
          refine kSeq (kSeq (kReg (kMovC rfl (kMovC rfl (kLenR rfl rfl (kBin rfl rfl rfl (kDone (kCondP rfl (fun g0 => kSkip (kSeq (kBlock (kSeq (kRegD (kMovC rfl (kMovC rfl (kBin rfl rfl rfl (kMovC rfl (kGIN rfl (fun g1 => kGT rfl (kMovC rfl (kGT rfl (kMovC rfl (kGT rfl (kIadR rfl rfl rfl (by omega) (kGT rfl (kFadD rfl (kGT rfl (kLoadD rfl rfl (kGT rfl (kMovC rfl (kGT rfl (kMovC rfl (kGT rfl (kIadR rfl rfl rfl (by omega) (kGT rfl (kFadD rfl (kGT rfl (kLoadD rfl rfl (kRelF rfl rfl (kGT rfl (kCallD (ok_spec_l2cmp _ _ pr pr) ⟨⟨⟨rfl, trivial⟩, leb⟩, ⟨⟨rfl, trivial⟩, leb⟩, trivial⟩ rfl rfl rfl rfl rfl (kGT rfl (kBin rfl rfl rfl (kPickT rfl (kMovC rfl (kDone (kH (kCondP rfl (fun g2 => kSeq (kReg (kMovC rfl (kDone (kRet (endRetA (ra := [.one (.d _)]) rfl rfl)))))) (fun g2 => (by omega)))))))))))))))))))))))))))))))) (fun g1 => (by omega)))))))))))) (fun g0 => (by omega))))))))))
        · have hc : cmpN l[k].name l[i].name ≠ 0 := by simpa [p2] using hz
          refine kSeq (kSeq (kReg (kMovC rfl (kMovC rfl (kLenR rfl rfl (kBin rfl rfl rfl (kDone (kCondP rfl (fun g0 => kSkip (kSeq (kBlock (kSeq (kRegD (kMovC rfl (kMovC rfl (kBin rfl rfl rfl (kMovC rfl (kGIN rfl (fun g1 => kGT rfl (kMovC rfl (kGT rfl (kMovC rfl (kGT rfl (kIadR rfl rfl rfl (by omega) (kGT rfl (kFadD rfl (kGT rfl (kLoadD rfl rfl (kGT rfl (kMovC rfl (kGT rfl (kMovC rfl (kGT rfl (kIadR rfl rfl rfl (by omega) (kGT rfl (kFadD rfl (kGT rfl (kLoadD rfl rfl (kRelF rfl rfl (kGT rfl (kCallD (ok_spec_l2cmp _ _ pr pr) ⟨⟨⟨rfl, trivial⟩, leb⟩, ⟨⟨rfl, trivial⟩, leb⟩, trivial⟩ rfl rfl rfl rfl rfl (kGT rfl (kBin rfl rfl rfl (kPickT rfl (kMovC rfl (kDone (kH (kCondP rfl (fun g2 => (by omega)) (fun g2 => kSkip (kBk (kReg (kMovC rfl (kAdd rfl rfl (by omega) (kMovC rfl (kDone ?_))))))))))))))))))))))))))))))))))))) (fun g1 => (by omega)))))))))))) (fun g0 => (by omega))))))))))
          refine kInv ⟨⟨k + 1, by omega, fun j h h' hne => ?_⟩, by simp only; omega, .normA⟩
          by_cases e : j = k
          · subst e; exact p2
          · exact hn j (by omega) h' hne
    · rw [show aloneR l i = true by exact aloneR_yes hi fun j h' hne => hn j (by omega) h' hne]
      refine kSeq (kSeq (kReg (kMovC rfl (kMovC rfl (kLenR rfl rfl (kBin rfl rfl rfl (kDone (kCondP rfl (fun g0 => (by omega)) (fun g0 => kExit (kExC (kExI (kExB (kSeq (kReg (kMovC rfl (kDone (kRet (endRetA (ra := [.one (.d _)]) rfl rfl))))))))))))))))))
  · rw [show aloneR l i = true by exact aloneR_ty hi p]
    refine kSeq (kReg (kMovC rfl (kDone (kSeq (kSeq (kReg (kMovC rfl (kMovC rfl (kIadR rfl rfl rfl (by omega) (kFadD rfl (kLoadD rfl rfl (kBin rfl rfl rfl (kDone (kCondIN rfl (fun g0 => kSeq (kReg (kMovC rfl (kDone (kRet (endRetA (ra := [.one (.d _)]) rfl rfl)))))) (fun g0 => (by omega))))))))))))))))

def c_spec_ZoneOk : C := (.seq (.reg false (.o 0 1 (.box 1 (.t 0)) (.o 1 2 (.mov (.v (.bool false))) .done))) (.seq (.seq (.reg false (.o 0 6 (.fad (.t 1) 0) (.o 1 7 (.load (some 1) (.t 6)) (.o 2 8 (.call 8 15 [(.t 7)]) (.o 3 9 (.un .not (.t 8)) (.o 4 10 (.mov (.t 9)) (.op 5 [] (some 11) (some (10, false)) false (.fad (.t 1) 1) (.op 6 [] (some 12) (some (10, false)) false (.load none (.t 11)) (.op 7 [] (some 13) (some (10, false)) false (.len (.t 12)) (.op 8 [] (some 14) (some (10, false)) false (.bin .gtr (.t 13) (.i 60)) (.o 9 15 (.pick (.t 10) (.v (.bool true)) (.t 14)) .done))))))))))) (.cond (.t 15) (.seq (.reg false (.o 0 2 (.mov (.v (.bool false))) .done)) .ret) .skip)) (.seq (.reg false (.o 0 3 (.mov (.i 0)) .done)) (.seq (.seq (.reg false (.o 0 4 (.mov (.i 0)) .done)) (.block 0 (.loop (.seq (.seq (.reg false (.o 0 16 (.mov (.t 4)) (.o 1 17 (.fad (.t 1) 1) (.o 2 18 (.load none (.t 17)) (.o 3 19 (.len (.t 18)) (.o 4 20 (.bin .lss (.t 16) (.t 19)) .done)))))) (.cond (.t 20) .skip (.exit 0))) (.seq (.block 1 (.seq (.reg false (.o 0 23 (.fad (.t 1) 1) (.o 1 24 (.load none (.t 23)) (.o 2 25 (.mov (.t 4)) (.o 3 26 (.iad 7 (.t 24) (.t 25)) (.o 4 27 (.load (some 7) (.t 26)) (.o 5 5 (.alloc 5 [(.n 1), (.i 0), (.i 0), (.i 0), (.n 1), (.n 1), (.n 1)]) (.op 6 [] none none false (.store (some 7) (.t 5) (.t 27)) .done)))))))) (.seq (.seq (.reg true (.op 0 [] (some 28) none true (.load (some 7) (.t 5)) (.op 1 [0] (some 29) none false (.call 29 76 [(.t 28)]) (.op 2 [] (some 30) none true (.un .not (.t 29)) (.op 3 [] (some 31) none true (.mov (.t 30)) (.op 4 [] (some 32) (some (31, false)) true (.fad (.t 5) 0) (.op 5 [] (some 33) (some (31, false)) true (.load (some 1) (.t 32)) (.op 6 [] (some 34) (some (31, false)) true (.fad (.t 1) 0) (.op 7 [] (some 35) (some (31, false)) true (.load (some 1) (.t 34)) (.op 8 [5, 0, 7] (some 36) (some (31, false)) false (.call 36 77 [(.t 33), (.t 35)]) (.op 9 [] (some 37) (some (31, false)) true (.un .not (.t 36)) (.op 10 [] (some 38) none true (.pick (.t 31) (.v (.bool true)) (.t 37)) (.op 11 [] (some 39) none true (.mov (.t 38)) (.op 12 [] (some 40) (some (39, false)) true (.mov (.t 4)) (.op 13 [] (some 41) (some (39, false)) true (.bin .gtr (.t 40) (.i 0)) (.op 14 [] (some 42) (some (39, false)) true (.mov (.t 41)) (.op 15 [] (some 43) (some (42, true)) true (.fad (.t 1) 1) (.op 16 [] (some 44) (some (42, true)) true (.load none (.t 43)) (.op 17 [] (some 45) (some (42, true)) true (.mov (.t 4)) (.op 18 [] (some 46) (some (42, true)) true (.bin .sub (.t 45) (.i 1)) (.op 19 [] (some 47) (some (42, true)) true (.iad 7 (.t 44) (.t 46)) (.op 20 [] (some 48) (some (42, true)) true (.load (some 7) (.t 47)) (.op 21 [] (some 49) (some (42, true)) true (.load (some 7) (.t 5)) (.op 22 [20, 16, 5, 7, 21, 0] (some 50) (some (42, true)) false (.call 50 78 [(.t 48), (.t 49)]) (.op 23 [] (some 51) (some (42, true)) true (.bin .geq (.t 50) (.i 0)) (.op 24 [] (some 52) (some (39, false)) true (.pick (.t 42) (.t 51) (.v (.bool false))) (.op 25 [] (some 53) none true (.pick (.t 39) (.v (.bool true)) (.t 52)) (.op 26 [] (some 54) none true (.mov (.t 53)) (.op 27 [] (some 55) (some (54, false)) true (.fad (.t 1) 1) (.op 28 [] (some 56) (some (54, false)) true (.load none (.t 55)) (.op 29 [] (some 57) (some (54, false)) true (.mov (.t 4)) (.op 30 [28, 20, 21, 5, 7, 16] (some 58) (some (54, false)) false (.call 58 79 [(.t 56), (.t 57)]) (.op 31 [] (some 59) (some (54, false)) true (.un .not (.t 58)) (.op 32 [] (some 60) none true (.pick (.t 54) (.v (.bool true)) (.t 59)) .done)))))))))))))))))))))))))))))))))) (.cond (.t 60) (.seq (.reg false (.o 0 2 (.mov (.v (.bool false))) .done)) .ret) .skip)) (.seq (.reg false (.o 0 61 (.fad (.t 5) 1) (.o 1 62 (.load none (.t 61)) (.o 2 63 (.bin .eql (.t 62) (.i 6)) .done)))) (.cond (.t 63) (.seq (.reg false (.o 0 64 (.mov (.t 3)) (.o 1 65 (.bin .add (.t 64) (.i 1)) (.o 2 3 (.mov (.t 65)) .done)))) (.seq (.reg false (.o 0 66 (.fad (.t 5) 0) (.o 1 67 (.load (some 1) (.t 66)) (.o 2 68 (.fad (.t 1) 0) (.o 3 69 (.load (some 1) (.t 68)) (.o 4 70 (.call 70 80 [(.t 67), (.t 69)]) (.o 5 71 (.bin .neq (.t 70) (.i 0)) .done))))))) (.cond (.t 71) (.seq (.reg false (.o 0 2 (.mov (.v (.bool false))) .done)) .ret) .skip))) .skip))))) (.reg false (.o 0 21 (.mov (.t 4)) (.o 1 22 (.bin .add (.t 21) (.i 1)) (.o 2 4 (.mov (.t 22)) .done))))))))) (.seq (.reg false (.o 0 72 (.mov (.t 3)) (.o 1 73 (.bin .eql (.t 72) (.i 1)) (.o 2 2 (.mov (.t 73)) .done)))) .ret)))))
theorem dg_spec_ZoneOk : Tryz.f14.body.bind (digC Tryz.prog Tryz.f14.ntmps []) = some c_spec_ZoneOk := by kernel_rfl
theorem rs_spec_ZoneOk : resSlots Tryz.prog Tryz.f14 = some [.s 2] := by kernel_rfl
theorem ok_spec_ZoneOk (z : Zone) (hs : SmallZ z) :
    FnOK Tryz.prog 14 [.agg (z.cells.map .d)] (fun ra _ => ra = [.one (.d (.sc (.bool (zoneOk z))))]) := by
  refine FnOK.ofK Tryz.func14 (by kernel_rfl) dg_spec_ZoneOk rs_spec_ZoneOk rfl rfl ?_
  delta c_spec_ZoneOk T.o X.i
  have o1 := hs.o.len
  have o2 := hs.o.mem
  have h1 := hs.r.len
  have hm := hs.r.mem
  have hr := hs.r
  cases a1 : nameOk z.origin
  · rw [show zoneOk z = false by unfold zoneOk; rw [a1]; rfl]
    refine kSeq (kReg (kBox rfl rfl rfl rfl rfl (kMovC rfl (kDone (kSeq (kSeq (kReg (kFadP rfl rfl (kLoadP rfl rfl rfl (kCallD (ok_spec_NameOk _ pr pr) ⟨⟨⟨rfl, trivial⟩, leb⟩, trivial⟩ rfl rfl rfl rfl rfl (kUn rfl rfl (kMovC rfl (kGN rfl (fun g0 => kGF rfl (kGF rfl (kGF rfl (kGF rfl (kPickT rfl (kMovC rfl (kDone (kCondT rfl (kSeq (kReg (kMovC rfl (kDone (kRet (endRetA (ra := [.one (.d _)]) rfl rfl)))))))))))))) (fun g0 => (by (simp [*] at g0))))))))))))))))
  by_cases a2 : z.rrs.length ≤ 60
  case neg =>
    rw [show zoneOk z = false by unfold zoneOk; rw [decide_eq_false a2]; simp]
    refine kSeq (kReg (kBox rfl rfl rfl rfl rfl (kMovC rfl (kDone (kSeq (kSeq (kReg (kFadP rfl rfl (kLoadP rfl rfl rfl (kCallD (ok_spec_NameOk _ pr pr) ⟨⟨⟨rfl, trivial⟩, leb⟩, trivial⟩ rfl rfl rfl rfl rfl (kUn rfl rfl (kMovC rfl (kGN rfl (fun g0 => (by (simp [*] at g0))) (fun g0 => kGT rfl (kFadP rfl rfl (kGT rfl (kLoadP rfl rfl rfl (kGT rfl (kLenR rfl rfl (kGT rfl (kBin rfl rfl rfl (kPickF rfl (kMovC rfl (kDone (kCondP rfl (fun g1 => kSeq (kReg (kMovC rfl (kDone (kRet (endRetA (ra := [.one (.d _)]) rfl rfl)))))) (fun g1 => (by omega)))))))))))))))))))))))))))
  refine kSeq (kReg (kBox rfl rfl rfl rfl rfl (kMovC rfl (kDone (kSeq (kSeq (kReg (kFadP rfl rfl (kLoadP rfl rfl rfl (kCallD (ok_spec_NameOk _ pr pr) ⟨⟨⟨rfl, trivial⟩, leb⟩, trivial⟩ rfl rfl rfl rfl rfl (kUn rfl rfl (kMovC rfl (kGN rfl (fun g0 => (by (simp [*] at g0))) (fun g0 => kGT rfl (kFadP rfl rfl (kGT rfl (kLoadP rfl rfl rfl (kGT rfl (kLenR rfl rfl (kGT rfl (kBin rfl rfl rfl (kPickF rfl (kMovC rfl (kDone (kCondP rfl (fun g1 => (by omega)) (fun g1 => kSkip (kSeq (kReg (kMovC rfl (kDone (kSeq (kSeq (kReg (kMovC rfl (kDone (kBlock ?_))))))))))))))))))))))))))))))))))))
  refine kLoop (α := { i : Nat // i ≤ z.rrs.length ∧ (List.range i).all (zAt z) = true ∧ (z.rrs.take i).all rrOk = true }) (fun y => ⟨tabSl [(1, .c (.ptr (rid 1 0) 1 0)), (3, .i (zTops (z.rrs.take y.1))), (4, .i y.1)], obTab 1 [(rid 1 0, ⟨1, 0, .box (z.cells.map .d)⟩)], []⟩) (fun y => z.rrs.length - y.1) ⟨0, by simp⟩ .normA ?_
  rintro ⟨i, hi, hz, hal⟩
  simp only
  have ht := zTops_le z.rrs i
  rcases Nat.lt_or_ge i z.rrs.length with hlt | hge
  · have hbi := hm _ (List.getElem_mem hlt)
    have n1 := hbi.n.len
    have n2 := hbi.n.mem
    have hts := zTops_succ z.rrs i hlt
    have hq := zAt_eq hlt
    have hcz := cmpN_zero z.rrs[i].name z.origin
    cases hk : rrOk z.rrs[i]
    · rw [show zoneOk z = false by unfold zoneOk; rw [all_no hlt hk]; simp]
      refine kSeq (kSeq (kReg (kMovC rfl (kFadP rfl rfl (kLoadP rfl rfl rfl (kLenR rfl rfl (kBin rfl rfl rfl (kDone (kCondP rfl (fun g0 => kSkip (kSeq (kBlock (kSeq (kReg (kFadP rfl rfl (kLoadP rfl rfl rfl (kMovC rfl (kIadR rfl rfl rfl (by omega) (kLoadD rfl rfl (kAlloc rfl rfl (kStoreP rfl rfl rfl rfl (kDone (kSeq (kSeq (kRegD (kLoadP rfl rfl rfl (kRelF rfl rfl (kCallD (ok_spec_RrOk _ pr) ⟨⟨⟨rfl, rfl, rfl, rfl, rfl, rfl, rfl, trivial⟩, leb⟩, trivial⟩ rfl rfl rfl rfl rfl (kUn rfl rfl (kMovC rfl (kGN rfl (fun g1 => kGF rfl (kGF rfl (kGF rfl (kGF rfl (kRelF rfl rfl (kGF rfl (kGF rfl (kPickT rfl (kMovC rfl (kMovC rfl (kGF rfl (kGF rfl (kGF rfl (kGU rfl (kGU rfl (kGU rfl (kGU rfl (kGU rfl (kGU rfl (kGU rfl (kRelF rfl rfl (kGU rfl (kGU rfl (kGF rfl (kPickT rfl (kMovC rfl (kMovC rfl (kGF rfl (kGF rfl (kGF rfl (kRelF rfl rfl (kGF rfl (kGF rfl (kPickT rfl (kMovC rfl (kDone (kH (kCondT rfl (kSeq (kReg (kMovC rfl (kDone (kRet (endRetA (ra := [.one (.d _)]) rfl rfl)))))))))))))))))))))))))))))))))))))))))))) (fun g1 => (by (simp [*] at g1))))))))))))))))))))))))) (fun g0 => (by omega)))))))))))
    have kp : rrOk (z.rrs[((i : Int) - 1).toNat]'(by omega)) = true := by
      rcases Nat.eq_zero_or_pos i with h0 | h0
      · have e : ((i : Int) - 1).toNat = i := by omega
        simp only [e]; exact hk
      · have e : ((i : Int) - 1).toNat = i - 1 := by omega
        simp only [e]
        exact List.all_eq_true.1 hal _ (by rw [List.mem_take_iff_getElem]; exact ⟨i - 1, by omega, rfl⟩)
    refine kSeq ?_
    refine kSeq (kReg (kMovC rfl (kFadP rfl rfl (kLoadP rfl rfl rfl (kLenR rfl rfl (kBin rfl rfl rfl (kDone (kCondP rfl (fun g0 => kSkip (kSeq (kBlock (kSeq (kReg (kFadP rfl rfl (kLoadP rfl rfl rfl (kMovC rfl (kIadR rfl rfl rfl (by omega) (kLoadD rfl rfl (kAlloc rfl rfl (kStoreP rfl rfl rfl rfl (kDone (kSeq (kSeq (kRegD (kLoadP rfl rfl rfl (kRelF rfl rfl (kCallD (ok_spec_RrOk _ pr) ⟨⟨⟨rfl, rfl, rfl, rfl, rfl, rfl, rfl, trivial⟩, leb⟩, trivial⟩ rfl rfl rfl rfl rfl (kUn rfl rfl (kMovC rfl (kGN rfl (fun g1 => (by (simp [*] at g1))) (fun g1 => kGT rfl (kFadP rfl rfl (kGT rfl (kLoadP rfl rfl rfl (kGT rfl (kFadP rfl rfl (kGT rfl (kLoadP rfl rfl rfl (kRelF rfl rfl (kGT rfl (kCallD (ok_spec_l2under _ _ pr pr) ⟨⟨⟨rfl, trivial⟩, leb⟩, ⟨⟨rfl, trivial⟩, leb⟩, trivial⟩ rfl rfl rfl rfl rfl (kGT rfl (kUn rfl rfl (kPickF rfl (kMovC rfl (kMovC rfl (kGN rfl (fun g2 => kGF rfl (kGF rfl (kGF rfl (kGU rfl (kGU rfl (kGU rfl (kGU rfl (kGU rfl (kGU rfl (kGU rfl (kRelF rfl rfl (kGU rfl (kGU rfl (kGF rfl (kPickT rfl (kMovC rfl (kMovC rfl (kGF rfl (kGF rfl (kGF rfl (kRelF rfl rfl (kGF rfl (kGF rfl (kPickT rfl (kMovC rfl (kDone (kH (kCondT rfl (kSeq (kReg (kMovC rfl (kDone (kRet (endRetA (ra := [.one (.d _)]) rfl ?_)))))))))))))))))))))))))))))))))) (fun g2 => kGT rfl (kMovC rfl (kGT rfl (kBin rfl rfl rfl (kGT rfl (kMovC rfl (kGP rfl (fun g3 => kGT rfl (kFadP rfl rfl (kGT rfl (kLoadP rfl rfl rfl (kGT rfl (kMovC rfl (kGT rfl (kDif rfl rfl (by omega) (kGT rfl (kIadT rfl rfl (by omega) (kGT rfl (kLoadD rfl rfl (kGT rfl (kLoadP rfl rfl rfl (kRelF rfl rfl (kGT rfl (kCallD (ok_spec_l3cmp _ _ pr pr pr pr) ⟨⟨⟨rfl, rfl, rfl, rfl, rfl, rfl, rfl, trivial⟩, leb⟩, ⟨⟨rfl, rfl, rfl, rfl, rfl, rfl, rfl, trivial⟩, leb⟩, trivial⟩ rfl rfl rfl rfl rfl (kGT rfl (kBin rfl rfl rfl (kGT rfl (kPickT rfl (kMovC rfl (kPickF rfl (kMovC rfl (kMovC rfl (kGP rfl (fun g4 => kGF rfl (kGF rfl (kGF rfl (kRelF rfl rfl (kGF rfl (kGF rfl (kPickT rfl (kMovC rfl (kDone (kH (kCondT rfl (kSeq (kReg (kMovC rfl (kDone (kRet (endRetA (ra := [.one (.d _)]) rfl ?_))))))))))))))))) (fun g4 => kGT rfl (kFadP rfl rfl (kGT rfl (kLoadP rfl rfl rfl (kGT rfl (kMovC rfl (kRelF rfl rfl (kGT rfl (kCallD (ok_spec_l5alone _ _ pr pr) ⟨rfl, rfl, trivial⟩ rfl rfl rfl rfl rfl (kGT rfl (kUn rfl rfl (kPickF rfl (kMovC rfl (kDone (kH (kCondN rfl (fun g5 => kSeq (kReg (kMovC rfl (kDone (kRet (endRetA (ra := [.one (.d _)]) rfl ?_)))))) (fun g5 => kSkip (kSeq (kReg (kFadP rfl rfl (kLoadP rfl rfl rfl (kBin rfl rfl rfl (kDone (kCondP rfl (fun g6 => kSeq (kReg (kMovC rfl (kAdd rfl rfl (by omega) (kMovC rfl (kDone (kSeq (kReg (kFadP rfl rfl (kLoadP rfl rfl rfl (kFadP rfl rfl (kLoadP rfl rfl rfl (kCallD (ok_spec_l2cmp _ _ pr pr) ⟨⟨⟨rfl, trivial⟩, leb⟩, ⟨⟨rfl, trivial⟩, leb⟩, trivial⟩ rfl rfl rfl rfl rfl (kBin rfl rfl rfl (kDone (kCondIN rfl (fun g7 => kSeq (kReg (kMovC rfl (kDone (kRet (endRetA (ra := [.one (.d _)]) rfl ?_)))))) (fun g7 => kSkip (kBk (kReg (kMovC rfl (kAdd rfl rfl (by omega) (kMovC rfl (kDone ?_))))))))))))))))))))))) (fun g6 => kSkip (kBk (kReg (kMovC rfl (kAdd rfl rfl (by omega) (kMovC rfl (kDone ?_))))))))))))))))))))))))))))))))))))))))))))))))))))))))) (fun g3 => kGF rfl (kGF rfl (kGF rfl (kGF rfl (kGF rfl (kGF rfl (kGF rfl (kRelF rfl rfl (kGF rfl (kGF rfl (kGT rfl (kPickF rfl (kMovC rfl (kPickF rfl (kMovC rfl (kMovC rfl (kGT rfl (kFadP rfl rfl (kGT rfl (kLoadP rfl rfl rfl (kGT rfl (kMovC rfl (kRelF rfl rfl (kGT rfl (kCallD (ok_spec_l5alone _ _ pr pr) ⟨rfl, rfl, trivial⟩ rfl rfl rfl rfl rfl (kGT rfl (kUn rfl rfl (kPickF rfl (kMovC rfl (kDone (kH (kCondN rfl (fun g8 => kSeq (kReg (kMovC rfl (kDone (kRet (endRetA (ra := [.one (.d _)]) rfl ?_)))))) (fun g8 => kSkip (kSeq (kReg (kFadP rfl rfl (kLoadP rfl rfl rfl (kBin rfl rfl rfl (kDone (kCondP rfl (fun g9 => kSeq (kReg (kMovC rfl (kAdd rfl rfl (by omega) (kMovC rfl (kDone (kSeq (kReg (kFadP rfl rfl (kLoadP rfl rfl rfl (kFadP rfl rfl (kLoadP rfl rfl rfl (kCallD (ok_spec_l2cmp _ _ pr pr) ⟨⟨⟨rfl, trivial⟩, leb⟩, ⟨⟨rfl, trivial⟩, leb⟩, trivial⟩ rfl rfl rfl rfl rfl (kBin rfl rfl rfl (kDone (kCondIN rfl (fun g10 => kSeq (kReg (kMovC rfl (kDone (kRet (endRetA (ra := [.one (.d _)]) rfl ?_)))))) (fun g10 => kSkip (kBk (kReg (kMovC rfl (kAdd rfl rfl (by omega) (kMovC rfl (kDone ?_))))))))))))))))))))))) (fun g9 => kSkip (kBk (kReg (kMovC rfl (kAdd rfl rfl (by omega) (kMovC rfl (kDone ?_))))))))))))))))))))))))))))))))))))))))))))))))))))))))))))))))))))))))))))))))))))))))))))) (fun g0 => (by omega))))))))))
    all_goals first
      | (refine congrArg (fun z : Bool => [RA.one (RV.d (DV.sc (Value.bool z)))]) (zone_no hlt (Bool.eq_false_iff.2 fun h => ?_)).symm
         rw [hq] at h
         simp only [Bool.and_eq_true, decide_eq_true_eq, Bool.or_eq_true, Bool.not_eq_true', beq_eq_false_iff_ne] at h
         obtain ⟨⟨⟨k1, k2⟩, k3⟩, k4⟩ := h
         first
           | (rw [prevB_pos (by omega) hlt (by omega), decide_eq_true_eq] at k2; omega)
           | (simp_all; done)
           | (simp_all; omega))
      | (have e1 : prevB z.rrs i = true := by
           first
             | (rw [prevB_pos (by omega) hlt (by omega)]; exact decide_eq_true (by omega))
             | (have : i = 0 := by omega
                subst this; exact prevB_zero)
         have e2 : aloneR z.rrs i = true := by
           first
             | assumption
             | (simp [*]; done)
             | (rw [decide_eq_true (by omega)]; simp)
         have e3 : (!(z.rrs[i].ty == 6) || decide (z.rrs[i].name = z.origin)) = true := by
           first
             | (simp [*]; done)
             | (simp_all; done)
         first
           | rw [if_pos (by assumption)] at hts
           | rw [if_neg (by assumption)] at hts
         have hz' : zAt z i = true := by rw [hq, e1, e2, e3]; simp [*]
         exact kInv ⟨⟨i + 1, by omega, range_all hz hz', all_step hlt hal hk⟩, by simp only; omega, .normA⟩)
  · rw [show zoneOk z = decide (zTops z.rrs = 1) by unfold zoneOk; rw [a1, decide_eq_true a2, show (List.range z.rrs.length).all (zAt z) = true by rw [show z.rrs.length = i by omega]; exact hz, show z.rrs.all rrOk = true by rw [show i = z.rrs.length by omega, List.take_length] at hal; exact hal]; rfl]
    refine kSeq (kSeq (kReg (kMovC rfl (kFadP rfl rfl (kLoadP rfl rfl rfl (kLenR rfl rfl (kBin rfl rfl rfl (kDone (kCondP rfl (fun g0 => (by omega)) (fun g0 => kExit (kExC (kExI (kExB (kSeq (kReg (kMovC rfl (kBin rfl rfl rfl (kMovC rfl (kDone (kRet (endRetA (ra := [.one (.d _)]) rfl ?_)))))))))))))))))))))
    rw [show i = z.rrs.length by omega, List.take_length]
    rfl

def c_spec_l2own : C := (.seq (.reg false (.o 0 1 (.box 1 (.t 0)) (.o 1 2 (.alloc 2 [(.n 1)]) .done))) (.seq (.reg false (.o 0 3 (.alloc 3 [(.n 1)]) .done)) (.seq (.seq (.reg false (.o 0 4 (.mov (.i 0)) .done)) (.block 0 (.loop (.seq (.seq (.reg false (.o 0 5 (.mov (.t 4)) (.o 1 6 (.fad (.t 1) 0) (.o 2 7 (.load none (.t 6)) (.o 3 8 (.len (.t 7)) (.o 4 9 (.bin .lss (.t 5) (.t 8)) .done)))))) (.cond (.t 9) .skip (.exit 0))) (.seq (.block 1 (.reg true (.op 0 [] (some 12) none true (.fad (.t 3) 0) (.op 1 [] (some 13) none true (.load none (.t 12)) (.op 3 [] (some 15) none true (.fad (.t 1) 0) (.op 4 [] (some 16) none true (.load none (.t 15)) (.op 5 [] (some 17) none true (.mov (.t 4)) (.op 6 [] (some 18) none true (.iad 1 (.t 16) (.t 17)) (.op 7 [] (some 19) none true (.load none (.t 18)) (.o 2 14 (.lit 14 1 [(.v (.int .u8 0))] 0 []) (.op 8 [7, 4] (some 20) none false (.app 20 1 1 (.t 14) (.t 19)) (.op 9 [7, 4] (some 21) none false (.lit 21 1 [(.n 1)] 1 [(0, 1, (.t 20))]) (.op 10 [1, 7, 4] (some 22) none false (.app 22 1 24 (.t 13) (.t 21)) (.op 11 [] (some 23) none true (.fad (.t 3) 0) (.op 12 [1, 4, 7] none none false (.store none (.t 23) (.t 22)) .done))))))))))))))) (.reg false (.o 0 10 (.mov (.t 4)) (.o 1 11 (.bin .add (.t 10) (.i 1)) (.o 2 4 (.mov (.t 11)) .done))))))))) (.seq (.reg false (.o 0 24 (.load (some 1) (.t 3)) (.op 1 [] none none false (.store (some 1) (.t 2) (.t 24)) .done))) .ret))))
theorem dg_spec_l2own : Tryz.f107.body.bind (digC Tryz.prog Tryz.f107.ntmps []) = some c_spec_l2own := by kernel_rfl
theorem rs_spec_l2own : resSlots Tryz.prog Tryz.f107 = some [.m 2 (some 1)] := by kernel_rfl
theorem ok_spec_l2own (a : List (List UInt8)) (ha : a.length ≤ 4194304) (hb : ∀ b ∈ a, b.length ≤ 4194304) :
    FnOK Tryz.prog 107 [.agg [.d (encBB a)]] (fun ra _ => ra = [.agg [.own true (encBB a)]]) := by
  refine FnOK.ofK Tryz.func107 (by kernel_rfl) dg_spec_l2own rs_spec_l2own rfl rfl ?_
  delta c_spec_l2own T.o X.i
  refine kSeq (kReg (kBox rfl rfl rfl rfl rfl (kAlloc rfl rfl (kDone (kSeq (kReg (kAlloc rfl rfl (kDone (kSeq (kSeq (kReg (kMovC rfl (kDone (kBlock ?_))))))))))))))
  refine kSub (Sub.nilBox (id := rid 3 0) (id2 := rid 5000 0) (j := 0) rfl rfl rfl (by decide) (by decide)) ?_
  refine kLoop (α := { i : Nat // i ≤ a.length })
    (fun y => ⟨tabSl [(1, .c (.ptr (rid 1 0) 1 0)), (2, .c (.ptr (rid 2 0) 1 0)), (3, .c (.ptr (rid 3 0) 1 0)), (4, .i y.1)],
      obTab 1 [(rid 1 0, ⟨1, 0, .box [.d (encBB a)]⟩), (rid 2 0, ⟨1, 0, .box [.nil 1]⟩), (rid 3 0, ⟨1, 0, .box [.arr (rid 5000 0) 1]⟩), (rid 5000 0, ⟨1, 0, .arr true (encBB (a.take y.1))⟩)], []⟩) (fun y => a.length - y.1) ⟨0, by simp⟩
    .normA ?_
  rintro ⟨i, hi⟩
  simp only
  have hlen : (a.take i).length = i := by simp; omega
  rcases Nat.lt_or_ge i a.length with hlt | hge
  · have hbi := hb _ (List.getElem_mem hlt)
    refine kSeq (kSeq (kReg (kMovC rfl (kFadP rfl rfl (kLoadP rfl rfl rfl (kLenR rfl rfl (kBin rfl rfl rfl (kDone (kCondP rfl (fun g0 => kSkip (kSeq (kBlock (kRegD (kFadP rfl rfl (kLoadP rfl rfl rfl (kFadP rfl rfl (kLoadP rfl rfl rfl (kMovC rfl (kIadR rfl rfl rfl (by omega) (kLoadD rfl rfl (kLit rfl rfl rfl rfl (kRelK rfl rfl (kAppN rfl rfl rfl (src_encB _ _) rfl rfl rfl rfl (by omega) (kRelK rfl rfl (kLit rfl rfl rfl rfl (kRelF rfl rfl (kAppR1 rfl rfl rfl rfl rfl rfl rfl rfl (by omega) (kFadP rfl rfl (kRelF rfl rfl (kStoreP rfl rfl rfl rfl (kDone (kH (kBk (kReg (kMovC rfl (kAdd rfl rfl (by omega) (kMovC rfl (kDone ?_))))))))))))))))))))))))))))) (fun g0 => (by omega)))))))))))
    exact kInv ⟨⟨i + 1, by omega⟩, by simp only; omega, .normA⟩
  · refine kSeq (kSeq (kReg (kMovC rfl (kFadP rfl rfl (kLoadP rfl rfl rfl (kLenR rfl rfl (kBin rfl rfl rfl (kDone (kCondP rfl (fun g0 => (by omega)) (fun g0 => kExit (kExC (kExI (kExB (kSeq (kReg (kLoadP rfl rfl rfl (kStoreP rfl rfl rfl rfl (kDone (kRet (endRetA (ra := [.agg [(.own true _)]]) rfl ?_))))))))))))))))))))
    rw [show i = a.length by omega, List.take_length]

def c_spec_l3own : C := (.seq (.reg false (.o 0 1 (.box 1 (.t 0)) (.o 1 2 (.alloc 2 [(.n 1), (.i 0), (.i 0), (.i 0), (.n 1), (.n 1), (.n 1)]) .done))) (.seq (.reg true (.op 0 [] (some 3) none true (.fad (.t 1) 0) (.op 1 [] (some 4) none true (.load (some 1) (.t 3)) (.op 3 [] (some 6) none true (.fad (.t 1) 1) (.op 4 [] (some 7) none true (.load none (.t 6)) (.op 5 [] (some 8) none true (.fad (.t 1) 2) (.op 6 [] (some 9) none true (.load none (.t 8)) (.op 7 [] (some 10) none true (.fad (.t 1) 3) (.op 8 [] (some 11) none true (.load none (.t 10)) (.op 9 [] (some 12) none true (.fad (.t 1) 4) (.op 10 [] (some 13) none true (.load (some 1) (.t 12)) (.op 13 [] (some 16) none true (.fad (.t 1) 5) (.op 14 [] (some 17) none true (.load none (.t 16)) (.op 17 [] (some 20) none true (.fad (.t 1) 6) (.op 18 [] (some 21) none true (.load none (.t 20)) (.alt (.op 2 [1] (some 5) none false (.call 5 107 [(.t 4)]) (.alt (.op 11 [10, 1] (some 14) none false (.call 14 107 [(.t 13)]) (.alt (.o 12 15 (.lit 15 1 [(.v (.int .u8 0))] 0 []) (.alt (.op 15 [14, 10, 1] (some 18) none false (.app 18 1 1 (.t 15) (.t 17)) (.o 16 19 (.lit 19 1 [(.i 0)] 0 []) (.op 19 [18, 14, 10, 1] (some 22) none false (.app 22 1 8 (.t 19) (.t 21)) (.op 20 [] (some 23) none true (.build [(.n 1), (.i 0), (.i 0), (.i 0), (.n 1), (.n 1), (.n 1)] [(0, 1, (.t 5)), (1, 1, (.t 7)), (2, 1, (.t 9)), (3, 1, (.t 11)), (4, 1, (.t 14)), (5, 1, (.t 18)), (6, 1, (.t 22))]) (.op 21 [1, 4, 6, 8, 10, 14, 18] none none false (.store (some 7) (.t 2) (.t 23)) .done))))) (.o 16 19 (.lit 19 1 [(.i 0)] 0 []) (.op 15 [14, 10, 1] (some 18) none false (.app 18 1 1 (.t 15) (.t 17)) (.op 19 [18, 14, 10, 1] (some 22) none false (.app 22 1 8 (.t 19) (.t 21)) (.op 20 [] (some 23) none true (.build [(.n 1), (.i 0), (.i 0), (.i 0), (.n 1), (.n 1), (.n 1)] [(0, 1, (.t 5)), (1, 1, (.t 7)), (2, 1, (.t 9)), (3, 1, (.t 11)), (4, 1, (.t 14)), (5, 1, (.t 18)), (6, 1, (.t 22))]) (.op 21 [1, 4, 6, 8, 10, 14, 18] none none false (.store (some 7) (.t 2) (.t 23)) .done))))))) (.o 16 19 (.lit 19 1 [(.i 0)] 0 []) (.o 12 15 (.lit 15 1 [(.v (.int .u8 0))] 0 []) (.op 15 [14, 10, 1] (some 18) none false (.app 18 1 1 (.t 15) (.t 17)) (.op 19 [18, 14, 10, 1] (some 22) none false (.app 22 1 8 (.t 19) (.t 21)) (.op 20 [] (some 23) none true (.build [(.n 1), (.i 0), (.i 0), (.i 0), (.n 1), (.n 1), (.n 1)] [(0, 1, (.t 5)), (1, 1, (.t 7)), (2, 1, (.t 9)), (3, 1, (.t 11)), (4, 1, (.t 14)), (5, 1, (.t 18)), (6, 1, (.t 22))]) (.op 21 [1, 4, 6, 8, 10, 14, 18] none none false (.store (some 7) (.t 2) (.t 23)) .done)))))))) (.alt (.o 12 15 (.lit 15 1 [(.v (.int .u8 0))] 0 []) (.alt (.op 11 [10, 1] (some 14) none false (.call 14 107 [(.t 13)]) (.alt (.op 15 [14, 10, 1] (some 18) none false (.app 18 1 1 (.t 15) (.t 17)) (.o 16 19 (.lit 19 1 [(.i 0)] 0 []) (.op 19 [18, 14, 10, 1] (some 22) none false (.app 22 1 8 (.t 19) (.t 21)) (.op 20 [] (some 23) none true (.build [(.n 1), (.i 0), (.i 0), (.i 0), (.n 1), (.n 1), (.n 1)] [(0, 1, (.t 5)), (1, 1, (.t 7)), (2, 1, (.t 9)), (3, 1, (.t 11)), (4, 1, (.t 14)), (5, 1, (.t 18)), (6, 1, (.t 22))]) (.op 21 [1, 4, 6, 8, 10, 14, 18] none none false (.store (some 7) (.t 2) (.t 23)) .done))))) (.o 16 19 (.lit 19 1 [(.i 0)] 0 []) (.op 15 [14, 10, 1] (some 18) none false (.app 18 1 1 (.t 15) (.t 17)) (.op 19 [18, 14, 10, 1] (some 22) none false (.app 22 1 8 (.t 19) (.t 21)) (.op 20 [] (some 23) none true (.build [(.n 1), (.i 0), (.i 0), (.i 0), (.n 1), (.n 1), (.n 1)] [(0, 1, (.t 5)), (1, 1, (.t 7)), (2, 1, (.t 9)), (3, 1, (.t 11)), (4, 1, (.t 14)), (5, 1, (.t 18)), (6, 1, (.t 22))]) (.op 21 [1, 4, 6, 8, 10, 14, 18] none none false (.store (some 7) (.t 2) (.t 23)) .done))))))) (.o 16 19 (.lit 19 1 [(.i 0)] 0 []) (.op 11 [10, 1] (some 14) none false (.call 14 107 [(.t 13)]) (.op 15 [14, 10, 1] (some 18) none false (.app 18 1 1 (.t 15) (.t 17)) (.op 19 [18, 14, 10, 1] (some 22) none false (.app 22 1 8 (.t 19) (.t 21)) (.op 20 [] (some 23) none true (.build [(.n 1), (.i 0), (.i 0), (.i 0), (.n 1), (.n 1), (.n 1)] [(0, 1, (.t 5)), (1, 1, (.t 7)), (2, 1, (.t 9)), (3, 1, (.t 11)), (4, 1, (.t 14)), (5, 1, (.t 18)), (6, 1, (.t 22))]) (.op 21 [1, 4, 6, 8, 10, 14, 18] none none false (.store (some 7) (.t 2) (.t 23)) .done)))))))) (.o 16 19 (.lit 19 1 [(.i 0)] 0 []) (.alt (.op 11 [10, 1] (some 14) none false (.call 14 107 [(.t 13)]) (.o 12 15 (.lit 15 1 [(.v (.int .u8 0))] 0 []) (.op 15 [14, 10, 1] (some 18) none false (.app 18 1 1 (.t 15) (.t 17)) (.op 19 [18, 14, 10, 1] (some 22) none false (.app 22 1 8 (.t 19) (.t 21)) (.op 20 [] (some 23) none true (.build [(.n 1), (.i 0), (.i 0), (.i 0), (.n 1), (.n 1), (.n 1)] [(0, 1, (.t 5)), (1, 1, (.t 7)), (2, 1, (.t 9)), (3, 1, (.t 11)), (4, 1, (.t 14)), (5, 1, (.t 18)), (6, 1, (.t 22))]) (.op 21 [1, 4, 6, 8, 10, 14, 18] none none false (.store (some 7) (.t 2) (.t 23)) .done)))))) (.o 12 15 (.lit 15 1 [(.v (.int .u8 0))] 0 []) (.op 11 [10, 1] (some 14) none false (.call 14 107 [(.t 13)]) (.op 15 [14, 10, 1] (some 18) none false (.app 18 1 1 (.t 15) (.t 17)) (.op 19 [18, 14, 10, 1] (some 22) none false (.app 22 1 8 (.t 19) (.t 21)) (.op 20 [] (some 23) none true (.build [(.n 1), (.i 0), (.i 0), (.i 0), (.n 1), (.n 1), (.n 1)] [(0, 1, (.t 5)), (1, 1, (.t 7)), (2, 1, (.t 9)), (3, 1, (.t 11)), (4, 1, (.t 14)), (5, 1, (.t 18)), (6, 1, (.t 22))]) (.op 21 [1, 4, 6, 8, 10, 14, 18] none none false (.store (some 7) (.t 2) (.t 23)) .done))))))))))) (.alt (.o 12 15 (.lit 15 1 [(.v (.int .u8 0))] 0 []) (.alt (.op 2 [1] (some 5) none false (.call 5 107 [(.t 4)]) (.alt (.op 11 [10, 1] (some 14) none false (.call 14 107 [(.t 13)]) (.alt (.op 15 [14, 10, 1] (some 18) none false (.app 18 1 1 (.t 15) (.t 17)) (.o 16 19 (.lit 19 1 [(.i 0)] 0 []) (.op 19 [18, 14, 10, 1] (some 22) none false (.app 22 1 8 (.t 19) (.t 21)) (.op 20 [] (some 23) none true (.build [(.n 1), (.i 0), (.i 0), (.i 0), (.n 1), (.n 1), (.n 1)] [(0, 1, (.t 5)), (1, 1, (.t 7)), (2, 1, (.t 9)), (3, 1, (.t 11)), (4, 1, (.t 14)), (5, 1, (.t 18)), (6, 1, (.t 22))]) (.op 21 [1, 4, 6, 8, 10, 14, 18] none none false (.store (some 7) (.t 2) (.t 23)) .done))))) (.o 16 19 (.lit 19 1 [(.i 0)] 0 []) (.op 15 [14, 10, 1] (some 18) none false (.app 18 1 1 (.t 15) (.t 17)) (.op 19 [18, 14, 10, 1] (some 22) none false (.app 22 1 8 (.t 19) (.t 21)) (.op 20 [] (some 23) none true (.build [(.n 1), (.i 0), (.i 0), (.i 0), (.n 1), (.n 1), (.n 1)] [(0, 1, (.t 5)), (1, 1, (.t 7)), (2, 1, (.t 9)), (3, 1, (.t 11)), (4, 1, (.t 14)), (5, 1, (.t 18)), (6, 1, (.t 22))]) (.op 21 [1, 4, 6, 8, 10, 14, 18] none none false (.store (some 7) (.t 2) (.t 23)) .done))))))) (.o 16 19 (.lit 19 1 [(.i 0)] 0 []) (.op 11 [10, 1] (some 14) none false (.call 14 107 [(.t 13)]) (.op 15 [14, 10, 1] (some 18) none false (.app 18 1 1 (.t 15) (.t 17)) (.op 19 [18, 14, 10, 1] (some 22) none false (.app 22 1 8 (.t 19) (.t 21)) (.op 20 [] (some 23) none true (.build [(.n 1), (.i 0), (.i 0), (.i 0), (.n 1), (.n 1), (.n 1)] [(0, 1, (.t 5)), (1, 1, (.t 7)), (2, 1, (.t 9)), (3, 1, (.t 11)), (4, 1, (.t 14)), (5, 1, (.t 18)), (6, 1, (.t 22))]) (.op 21 [1, 4, 6, 8, 10, 14, 18] none none false (.store (some 7) (.t 2) (.t 23)) .done)))))))) (.o 16 19 (.lit 19 1 [(.i 0)] 0 []) (.op 2 [1] (some 5) none false (.call 5 107 [(.t 4)]) (.op 11 [10, 1] (some 14) none false (.call 14 107 [(.t 13)]) (.op 15 [14, 10, 1] (some 18) none false (.app 18 1 1 (.t 15) (.t 17)) (.op 19 [18, 14, 10, 1] (some 22) none false (.app 22 1 8 (.t 19) (.t 21)) (.op 20 [] (some 23) none true (.build [(.n 1), (.i 0), (.i 0), (.i 0), (.n 1), (.n 1), (.n 1)] [(0, 1, (.t 5)), (1, 1, (.t 7)), (2, 1, (.t 9)), (3, 1, (.t 11)), (4, 1, (.t 14)), (5, 1, (.t 18)), (6, 1, (.t 22))]) (.op 21 [1, 4, 6, 8, 10, 14, 18] none none false (.store (some 7) (.t 2) (.t 23)) .done))))))))) (.o 16 19 (.lit 19 1 [(.i 0)] 0 []) (.alt (.op 2 [1] (some 5) none false (.call 5 107 [(.t 4)]) (.alt (.op 11 [10, 1] (some 14) none false (.call 14 107 [(.t 13)]) (.o 12 15 (.lit 15 1 [(.v (.int .u8 0))] 0 []) (.op 15 [14, 10, 1] (some 18) none false (.app 18 1 1 (.t 15) (.t 17)) (.op 19 [18, 14, 10, 1] (some 22) none false (.app 22 1 8 (.t 19) (.t 21)) (.op 20 [] (some 23) none true (.build [(.n 1), (.i 0), (.i 0), (.i 0), (.n 1), (.n 1), (.n 1)] [(0, 1, (.t 5)), (1, 1, (.t 7)), (2, 1, (.t 9)), (3, 1, (.t 11)), (4, 1, (.t 14)), (5, 1, (.t 18)), (6, 1, (.t 22))]) (.op 21 [1, 4, 6, 8, 10, 14, 18] none none false (.store (some 7) (.t 2) (.t 23)) .done)))))) (.o 12 15 (.lit 15 1 [(.v (.int .u8 0))] 0 []) (.op 11 [10, 1] (some 14) none false (.call 14 107 [(.t 13)]) (.op 15 [14, 10, 1] (some 18) none false (.app 18 1 1 (.t 15) (.t 17)) (.op 19 [18, 14, 10, 1] (some 22) none false (.app 22 1 8 (.t 19) (.t 21)) (.op 20 [] (some 23) none true (.build [(.n 1), (.i 0), (.i 0), (.i 0), (.n 1), (.n 1), (.n 1)] [(0, 1, (.t 5)), (1, 1, (.t 7)), (2, 1, (.t 9)), (3, 1, (.t 11)), (4, 1, (.t 14)), (5, 1, (.t 18)), (6, 1, (.t 22))]) (.op 21 [1, 4, 6, 8, 10, 14, 18] none none false (.store (some 7) (.t 2) (.t 23)) .done)))))))) (.o 12 15 (.lit 15 1 [(.v (.int .u8 0))] 0 []) (.op 2 [1] (some 5) none false (.call 5 107 [(.t 4)]) (.op 11 [10, 1] (some 14) none false (.call 14 107 [(.t 13)]) (.op 15 [14, 10, 1] (some 18) none false (.app 18 1 1 (.t 15) (.t 17)) (.op 19 [18, 14, 10, 1] (some 22) none false (.app 22 1 8 (.t 19) (.t 21)) (.op 20 [] (some 23) none true (.build [(.n 1), (.i 0), (.i 0), (.i 0), (.n 1), (.n 1), (.n 1)] [(0, 1, (.t 5)), (1, 1, (.t 7)), (2, 1, (.t 9)), (3, 1, (.t 11)), (4, 1, (.t 14)), (5, 1, (.t 18)), (6, 1, (.t 22))]) (.op 21 [1, 4, 6, 8, 10, 14, 18] none none false (.store (some 7) (.t 2) (.t 23)) .done)))))))))))))))))))))))))) .ret))
theorem dg_spec_l3own : Tryz.f275.body.bind (digC Tryz.prog Tryz.f275.ntmps []) = some c_spec_l3own := by kernel_rfl
theorem rs_spec_l3own : resSlots Tryz.prog Tryz.f275 = some [.m 2 (some 7)] := by kernel_rfl
theorem ok_spec_l3own (r : Rr) (hs : SmallR r) :
    FnOK Tryz.prog 275 [.agg (r.cells.map .d)] (fun ra _ => ra = [.agg [.own true (encBB r.name), .d (.sc (.int .i64 r.ty)), .d (.sc (.int .i64 r.ttl)), .d (.sc (.int .i64 r.addr)), .own true (encBB r.to), .own true (encB r.text), .own true (encI r.nums)]]) := by
  refine FnOK.ofK Tryz.func275 (by kernel_rfl) dg_spec_l3own rs_spec_l3own rfl rfl ?_
  delta c_spec_l3own T.o X.i
  have n1 := hs.n.len
  have n2 := hs.n.mem
  have t1 := hs.t.len
  have t2 := hs.t.mem
  have x1 := hs.x
  have m1 := hs.m
  refine kSeq (kCut ⟨tabSl [(1, .c (.ptr (rid 1 0) 1 0)), (2, .c (.ptr (rid 2 0) 1 0))], obTab 1 [(rid 1 0, ⟨1, 0, .box (r.cells.map .d)⟩), (rid 2 0, ⟨1, 0, .box [.nil 1, .d (.sc (.int .i64 0)), .d (.sc (.int .i64 0)), .d (.sc (.int .i64 0)), .nil 1, .nil 1, .nil 1]⟩)], []⟩ ?_ (fun x hc => ?_))
  case refine_2 => refine kReg (kBox rfl rfl rfl rfl rfl (kAlloc rfl rfl (kDone (hc _ .normA))))
  refine kSeq (kCut ⟨tabSl [(2, .c (.ptr (rid 2 0) 1 0))], obTab 1 [(rid 2 0, ⟨1, 0, .box [.arr (rid 5 0) 1, .d (.sc (.int .i64 r.ty)), .d (.sc (.int .i64 r.ttl)), .d (.sc (.int .i64 r.addr)), .arr (rid 14 0) 1, .arr (rid 15 0) 1, .arr (rid 19 0) 1]⟩), (rid 5 0, ⟨1, 0, .arr true (encBB r.name)⟩), (rid 14 0, ⟨1, 0, .arr true (encBB r.to)⟩), (rid 15 0, ⟨1, 0, .arr true (encB r.text)⟩), (rid 19 0, ⟨1, 0, .arr true (encI r.nums)⟩)], []⟩ ?_ (fun x hc => ?_))
  case refine_2 => refine kRegD (kFadP rfl rfl (kLoadP rfl rfl rfl (kFadP rfl rfl (kLoadP rfl rfl rfl (kFadP rfl rfl (kLoadP rfl rfl rfl (kFadP rfl rfl (kLoadP rfl rfl rfl (kFadP rfl rfl (kLoadP rfl rfl rfl (kFadP rfl rfl (kLoadP rfl rfl rfl (kFadP rfl rfl (kLoadP rfl rfl rfl (kAlt (kRelK rfl rfl (kCall1 true (ok_spec_l2own _ pr pr) ⟨⟨⟨rfl, trivial⟩, leb⟩, trivial⟩ rfl rfl rfl (fun _ => (kAlt (kRelK rfl rfl (kCall1 true (ok_spec_l2own _ pr pr) ⟨⟨⟨rfl, trivial⟩, leb⟩, trivial⟩ rfl rfl rfl (fun _ => (kAlt (kLit rfl rfl rfl rfl (kAlt (kRelK rfl rfl (kAppN rfl rfl rfl (src_encB _ _) rfl rfl rfl rfl (by omega) (kLit rfl rfl rfl rfl (kRelK rfl rfl (kAppN rfl rfl rfl (src_encI _ _) rfl rfl rfl rfl (by omega) (kBuildG rfl (kRelF rfl rfl (kStoreP rfl rfl rfl rfl (kDone (kH (hc _ .normA))))))))))) (kLit rfl rfl rfl rfl (kRelK rfl rfl (kAppN rfl rfl rfl (src_encB _ _) rfl rfl rfl rfl (by omega) (kRelK rfl rfl (kAppN rfl rfl rfl (src_encI _ _) rfl rfl rfl rfl (by omega) (kBuildG rfl (kRelF rfl rfl (kStoreP rfl rfl rfl rfl (kDone (kH (hc _ .normA))))))))))))) (kLit rfl rfl rfl rfl (kLit rfl rfl rfl rfl (kRelK rfl rfl (kAppN rfl rfl rfl (src_encB _ _) rfl rfl rfl rfl (by omega) (kRelK rfl rfl (kAppN rfl rfl rfl (src_encI _ _) rfl rfl rfl rfl (by omega) (kBuildG rfl (kRelF rfl rfl (kStoreP rfl rfl rfl rfl (kDone (kH (hc _ .normA)))))))))))))))) (kAlt (kLit rfl rfl rfl rfl (kAlt (kRelK rfl rfl (kCall1 true (ok_spec_l2own _ pr pr) ⟨⟨⟨rfl, trivial⟩, leb⟩, trivial⟩ rfl rfl rfl (fun _ => (kAlt (kRelK rfl rfl (kAppN rfl rfl rfl (src_encB _ _) rfl rfl rfl rfl (by omega) (kLit rfl rfl rfl rfl (kRelK rfl rfl (kAppN rfl rfl rfl (src_encI _ _) rfl rfl rfl rfl (by omega) (kBuildG rfl (kRelF rfl rfl (kStoreP rfl rfl rfl rfl (kDone (kH (hc _ .normA))))))))))) (kLit rfl rfl rfl rfl (kRelK rfl rfl (kAppN rfl rfl rfl (src_encB _ _) rfl rfl rfl rfl (by omega) (kRelK rfl rfl (kAppN rfl rfl rfl (src_encI _ _) rfl rfl rfl rfl (by omega) (kBuildG rfl (kRelF rfl rfl (kStoreP rfl rfl rfl rfl (kDone (kH (hc _ .normA))))))))))))))) (kLit rfl rfl rfl rfl (kRelK rfl rfl (kCall1 true (ok_spec_l2own _ pr pr) ⟨⟨⟨rfl, trivial⟩, leb⟩, trivial⟩ rfl rfl rfl (fun _ => (kRelK rfl rfl (kAppN rfl rfl rfl (src_encB _ _) rfl rfl rfl rfl (by omega) (kRelK rfl rfl (kAppN rfl rfl rfl (src_encI _ _) rfl rfl rfl rfl (by omega) (kBuildG rfl (kRelF rfl rfl (kStoreP rfl rfl rfl rfl (kDone (kH (hc _ .normA)))))))))))))))) (kLit rfl rfl rfl rfl (kAlt (kRelK rfl rfl (kCall1 true (ok_spec_l2own _ pr pr) ⟨⟨⟨rfl, trivial⟩, leb⟩, trivial⟩ rfl rfl rfl (fun _ => (kLit rfl rfl rfl rfl (kRelK rfl rfl (kAppN rfl rfl rfl (src_encB _ _) rfl rfl rfl rfl (by omega) (kRelK rfl rfl (kAppN rfl rfl rfl (src_encI _ _) rfl rfl rfl rfl (by omega) (kBuildG rfl (kRelF rfl rfl (kStoreP rfl rfl rfl rfl (kDone (kH (hc _ .normA)))))))))))))) (kLit rfl rfl rfl rfl (kRelK rfl rfl (kCall1 true (ok_spec_l2own _ pr pr) ⟨⟨⟨rfl, trivial⟩, leb⟩, trivial⟩ rfl rfl rfl (fun _ => (kRelK rfl rfl (kAppN rfl rfl rfl (src_encB _ _) rfl rfl rfl rfl (by omega) (kRelK rfl rfl (kAppN rfl rfl rfl (src_encI _ _) rfl rfl rfl rfl (by omega) (kMem [(24576, ⟨2, 0, .arr true _⟩), (61440, ⟨2, 0, .arr true _⟩), (65536, ⟨3, 0, .arr true _⟩), (81920, ⟨3, 0, .arr true _⟩), (12288, ⟨1, 0, .box [.nil 1, .d _, .d _, .d _, .nil 1, .nil 1, .nil 1]⟩)] [(5, .g [.arr 24576 2]), (7, .c (.d _)), (9, .c (.d _)), (11, .c (.d _)), (14, .g [.arr 61440 2]), (18, .c (.arr 65536 3)), (22, .c (.arr 81920 3)), (2, .c (.ptr 12288 1 0))] [8192, 8192, 8192, 8192, 8192, 8192, 8192] ⟨rfl, rfl, rfl, rfl, rfl, trivial⟩ ⟨rfl, rfl, rfl, rfl, rfl, rfl, rfl, rfl, trivial⟩ rfl (kBuildG rfl (kMem [(12288, ⟨1, 0, .box [.nil 1, .d _, .d _, .d _, .nil 1, .nil 1, .nil 1]⟩), (24576, ⟨2, 0, .arr true _⟩), (61440, ⟨2, 0, .arr true _⟩), (65536, ⟨3, 0, .arr true _⟩), (81920, ⟨3, 0, .arr true _⟩)] [(2, .c (.ptr 12288 1 0)), (23, .g [.arr 24576 2, .d _, .d _, .d _, .arr 61440 2, .arr 65536 3, .arr 81920 3])] [8192, 8192, 8192, 8192, 8192, 8192, 8192] ⟨rfl, rfl, rfl, rfl, rfl, trivial⟩ ⟨rfl, rfl, trivial⟩ rfl (kRelF rfl rfl (kStoreP rfl rfl rfl rfl (kDone (kH (kMem [(12288, ⟨1, 0, .box [.arr 24576 2, .d _, .d _, .d _, .arr 61440 2, .arr 65536 3, .arr 81920 3]⟩), (24576, ⟨2, 0, .arr true _⟩), (61440, ⟨2, 0, .arr true _⟩), (65536, ⟨3, 0, .arr true _⟩), (81920, ⟨3, 0, .arr true _⟩)] [(2, .c (.ptr 12288 1 0))] [] ⟨rfl, rfl, rfl, rfl, rfl, trivial⟩ ⟨rfl, trivial⟩ rfl (hc _ .normA)))))))))))))))))))))))) (kAlt (kLit rfl rfl rfl rfl (kMem [(65536, ⟨2, 0, .arr true _⟩), (12288, ⟨1, 0, .box [.nil 1, .d _, .d _, .d _, .nil 1, .nil 1, .nil 1]⟩)] [(4, .g [.d _]), (13, .g [.d _]), (15, .c (.arr 65536 2)), (17, .c (.d _)), (21, .c (.d _)), (7, .c (.d _)), (9, .c (.d _)), (11, .c (.d _)), (2, .c (.ptr 12288 1 0))] [8192, 8192, 8192, 8192, 8192, 8192, 8192] ⟨rfl, rfl, trivial⟩ ⟨rfl, rfl, rfl, rfl, rfl, rfl, rfl, rfl, rfl, trivial⟩ rfl (kAlt (kRelK rfl rfl (kCall1 true (ok_spec_l2own _ pr pr) ⟨⟨⟨rfl, trivial⟩, leb⟩, trivial⟩ rfl rfl rfl (fun _ => (kAlt (kRelK rfl rfl (kCall1 true (ok_spec_l2own _ pr pr) ⟨⟨⟨rfl, trivial⟩, leb⟩, trivial⟩ rfl rfl rfl (fun _ => (kAlt (kRelK rfl rfl (kAppN rfl rfl rfl (src_encB _ _) rfl rfl rfl rfl (by omega) (kLit rfl rfl rfl rfl (kRelK rfl rfl (kAppN rfl rfl rfl (src_encI _ _) rfl rfl rfl rfl (by omega) (kBuildG rfl (kRelF rfl rfl (kStoreP rfl rfl rfl rfl (kDone (kH (hc _ .normA))))))))))) (kLit rfl rfl rfl rfl (kRelK rfl rfl (kAppN rfl rfl rfl (src_encB _ _) rfl rfl rfl rfl (by omega) (kRelK rfl rfl (kAppN rfl rfl rfl (src_encI _ _) rfl rfl rfl rfl (by omega) (kBuildG rfl (kRelF rfl rfl (kStoreP rfl rfl rfl rfl (kDone (kH (hc _ .normA))))))))))))))) (kLit rfl rfl rfl rfl (kRelK rfl rfl (kCall1 true (ok_spec_l2own _ pr pr) ⟨⟨⟨rfl, trivial⟩, leb⟩, trivial⟩ rfl rfl rfl (fun _ => (kRelK rfl rfl (kAppN rfl rfl rfl (src_encB _ _) rfl rfl rfl rfl (by omega) (kRelK rfl rfl (kAppN rfl rfl rfl (src_encI _ _) rfl rfl rfl rfl (by omega) (kBuildG rfl (kRelF rfl rfl (kStoreP rfl rfl rfl rfl (kDone (kH (hc _ .normA)))))))))))))))))) (kLit rfl rfl rfl rfl (kRelK rfl rfl (kCall1 true (ok_spec_l2own _ pr pr) ⟨⟨⟨rfl, trivial⟩, leb⟩, trivial⟩ rfl rfl rfl (fun _ => (kRelK rfl rfl (kCall1 true (ok_spec_l2own _ pr pr) ⟨⟨⟨rfl, trivial⟩, leb⟩, trivial⟩ rfl rfl rfl (fun _ => (kRelK rfl rfl (kAppN rfl rfl rfl (src_encB _ _) rfl rfl rfl rfl (by omega) (kRelK rfl rfl (kAppN rfl rfl rfl (src_encI _ _) rfl rfl rfl rfl (by omega) (kBuildG rfl (kRelF rfl rfl (kStoreP rfl rfl rfl rfl (kDone (kH (hc _ .normA)))))))))))))))))))) (kLit rfl rfl rfl rfl (kAlt (kRelK rfl rfl (kCall1 true (ok_spec_l2own _ pr pr) ⟨⟨⟨rfl, trivial⟩, leb⟩, trivial⟩ rfl rfl rfl (fun _ => (kAlt (kRelK rfl rfl (kCall1 true (ok_spec_l2own _ pr pr) ⟨⟨⟨rfl, trivial⟩, leb⟩, trivial⟩ rfl rfl rfl (fun _ => (kLit rfl rfl rfl rfl (kRelK rfl rfl (kAppN rfl rfl rfl (src_encB _ _) rfl rfl rfl rfl (by omega) (kRelK rfl rfl (kAppN rfl rfl rfl (src_encI _ _) rfl rfl rfl rfl (by omega) (kBuildG rfl (kRelF rfl rfl (kStoreP rfl rfl rfl rfl (kDone (kH (hc _ .normA)))))))))))))) (kLit rfl rfl rfl rfl (kRelK rfl rfl (kCall1 true (ok_spec_l2own _ pr pr) ⟨⟨⟨rfl, trivial⟩, leb⟩, trivial⟩ rfl rfl rfl (fun _ => (kRelK rfl rfl (kAppN rfl rfl rfl (src_encB _ _) rfl rfl rfl rfl (by omega) (kRelK rfl rfl (kAppN rfl rfl rfl (src_encI _ _) rfl rfl rfl rfl (by omega) (kBuildG rfl (kRelF rfl rfl (kStoreP rfl rfl rfl rfl (kDone (kH (hc _ .normA)))))))))))))))))) (kLit rfl rfl rfl rfl (kRelK rfl rfl (kCall1 true (ok_spec_l2own _ pr pr) ⟨⟨⟨rfl, trivial⟩, leb⟩, trivial⟩ rfl rfl rfl (fun _ => (kRelK rfl rfl (kCall1 true (ok_spec_l2own _ pr pr) ⟨⟨⟨rfl, trivial⟩, leb⟩, trivial⟩ rfl rfl rfl (fun _ => (kRelK rfl rfl (kAppN rfl rfl rfl (src_encB _ _) rfl rfl rfl rfl (by omega) (kRelK rfl rfl (kAppN rfl rfl rfl (src_encI _ _) rfl rfl rfl rfl (by omega) (kBuildG rfl (kRelF rfl rfl (kStoreP rfl rfl rfl rfl (kDone (kH (hc _ .normA)))))))))))))))))))))))))))))))))))
  refine (kRet (endRetA (ra := [.agg [(.own true _), (.d _), (.d _), (.d _), (.own true _), (.own true _), (.own true _)]]) rfl rfl))

def c_spec_l3ownAll : C := (.seq (.reg false (.o 0 2 (.mov (.n 7)) .done)) (.seq (.reg false (.o 0 3 (.mov (.n 7)) .done)) (.seq (.seq (.reg false (.o 0 4 (.mov (.i 0)) .done)) (.block 0 (.loop (.seq (.seq (.reg false (.o 0 5 (.mov (.t 4)) (.o 1 6 (.mov (.t 0)) (.o 2 7 (.len (.t 6)) (.o 3 8 (.bin .lss (.t 5) (.t 7)) .done))))) (.cond (.t 8) .skip (.exit 0))) (.seq (.block 1 (.reg false (.o 0 11 (.mov (.t 3)) (.o 1 12 (.mov (.t 0)) (.o 2 13 (.mov (.t 4)) (.o 3 14 (.iad 7 (.t 12) (.t 13)) (.o 4 15 (.load (some 7) (.t 14)) (.o 5 16 (.call 16 275 [(.t 15)]) (.o 6 17 (.lit 17 7 [(.n 1), (.i 0), (.i 0), (.i 0), (.n 1), (.n 1), (.n 1)] 1 [(0, 7, (.t 16))]) (.o 7 18 (.app 18 7 120 (.t 11) (.t 17)) (.o 8 3 (.mov (.t 18)) .done))))))))))) (.reg false (.o 0 9 (.mov (.t 4)) (.o 1 10 (.bin .add (.t 9) (.i 1)) (.o 2 4 (.mov (.t 10)) .done))))))))) (.seq (.reg false (.o 0 19 (.mov (.t 3)) (.o 1 2 (.mov (.t 19)) .done))) .ret))))
theorem dg_spec_l3ownAll : Tryz.f228.body.bind (digC Tryz.prog Tryz.f228.ntmps []) = some c_spec_l3ownAll := by kernel_rfl
theorem rs_spec_l3ownAll : resSlots Tryz.prog Tryz.f228 = some [.s 2] := by kernel_rfl
theorem ok_spec_l3ownAll (l : List Rr) (hs : SmallRs l) :
    FnOK Tryz.prog 228 [.one (.d (encR l))] (fun ra _ => ra = [.one (.own true (encR l))]) := by
  refine FnOK.ofK Tryz.func228 (by kernel_rfl) dg_spec_l3ownAll rs_spec_l3ownAll rfl rfl ?_
  delta c_spec_l3ownAll T.o X.i
  have h1 := hs.len
  refine kSeq (kReg (kMovC rfl (kDone (kSeq (kReg (kMovC rfl (kDone (kSeq (kSeq (kReg (kMovC rfl (kDone (kBlock ?_)))))))))))))
  refine kSub (Sub.nilArr (j := 3) (id := rid 5000 0) (sz := 7) rfl (by decide)) ?_
  refine kLoop (α := { i : Nat // i ≤ l.length }) (fun y => ⟨tabSl [(0, .dv (encR l)), (3, .c (.arr (rid 5000 0) 1)), (4, .i y.1)], obTab 1 [(rid 5000 0, ⟨1, 0, .arr true (encR (l.take y.1))⟩)], []⟩) (fun y => l.length - y.1) ⟨0, by simp⟩ .normA ?_
  rintro ⟨i, hi⟩
  simp only
  have hlen : (l.take i).length = i := by simp; omega
  rcases Nat.lt_or_ge i l.length with hlt | hge
  · have hbi := hs.mem _ (List.getElem_mem hlt)
    refine kSeq (kSeq (kReg (kMovC rfl (kMovC rfl (kLenR rfl rfl (kBin rfl rfl rfl (kDone (kCondP rfl (fun g0 => kSkip (kSeq (kBlock (kReg (kMovC rfl (kMovC rfl (kMovC rfl (kIadR rfl rfl rfl (by omega) (kLoadD rfl rfl (kCall1 true (ok_spec_l3own _ pr) ⟨⟨⟨rfl, rfl, rfl, rfl, rfl, rfl, rfl, trivial⟩, leb⟩, trivial⟩ rfl rfl rfl (fun _ => (kLit rfl rfl rfl rfl (kAppRec rfl rfl rfl rfl rfl rfl rfl (by omega) (kMovC rfl (kDone (kBk (kReg (kMovC rfl (kAdd rfl rfl (by omega) (kMovC rfl (kDone ?_))))))))))))))))))))) (fun g0 => (by omega))))))))))
    exact kInv ⟨⟨i + 1, by omega⟩, by simp only; omega, .normA⟩
  · refine kSeq (kSeq (kReg (kMovC rfl (kMovC rfl (kLenR rfl rfl (kBin rfl rfl rfl (kDone (kCondP rfl (fun g0 => (by omega)) (fun g0 => kExit (kExC (kExI (kExB (kSeq (kReg (kMovC rfl (kMovC rfl (kDone (kRet (endRetA (ra := [.one (.own true _)]) rfl ?_)))))))))))))))))))
    rw [show i = l.length by omega, List.take_length]

def c_spec_l5own : C := (.seq (.reg false (.o 0 1 (.box 1 (.t 0)) (.o 1 2 (.alloc 2 [(.n 1), (.n 7)]) .done))) (.seq (.reg true (.op 0 [] (some 3) none true (.fad (.t 1) 0) (.op 1 [] (some 4) none true (.load (some 1) (.t 3)) (.op 3 [] (some 6) none true (.fad (.t 1) 1) (.op 4 [] (some 7) none true (.load none (.t 6)) (.op 2 [1] (some 5) none false (.call 5 107 [(.t 4)]) (.op 5 [4, 1] (some 8) none false (.call 8 228 [(.t 7)]) (.op 6 [] (some 9) none true (.build [(.n 1), (.n 7)] [(0, 1, (.t 5)), (1, 1, (.t 8))]) (.op 7 [1, 4] none none false (.store (some 2) (.t 2) (.t 9)) .done))))))))) .ret))
theorem dg_spec_l5own : Tryz.f211.body.bind (digC Tryz.prog Tryz.f211.ntmps []) = some c_spec_l5own := by kernel_rfl
theorem rs_spec_l5own : resSlots Tryz.prog Tryz.f211 = some [.m 2 (some 2)] := by kernel_rfl
theorem ok_spec_l5own (z : Zone) (hs : SmallZ z) :
    FnOK Tryz.prog 211 [.agg (z.cells.map .d)] (fun ra _ => ra = [.agg [.own true (encBB z.origin), .own true (encR z.rrs)]]) := by
  refine FnOK.ofK Tryz.func211 (by kernel_rfl) dg_spec_l5own rs_spec_l5own rfl rfl ?_
  delta c_spec_l5own T.o X.i
  have o1 := hs.o.len
  have o2 := hs.o.mem
  have h1 := hs.r
  refine kSeq (kReg (kBox rfl rfl rfl rfl rfl (kAlloc rfl rfl (kDone (kSeq (kRegD (kFadP rfl rfl (kLoadP rfl rfl rfl (kFadP rfl rfl (kLoadP rfl rfl rfl (kRelK rfl rfl (kCall1 true (ok_spec_l2own _ pr pr) ⟨⟨⟨rfl, trivial⟩, leb⟩, trivial⟩ rfl rfl rfl (fun _ => (kRelF rfl rfl (kCall1 true (ok_spec_l3ownAll _ pr) ⟨rfl, trivial⟩ rfl rfl rfl (fun _ => (kBuildG rfl (kRelF rfl rfl (kStoreP rfl rfl rfl rfl (kDone (kH (kRet (endRetA (ra := [.agg [(.own true _), (.own true _)]]) rfl rfl)))))))))))))))))))))))

def c_spec_ZoneNew : C := (.seq (.reg false (.o 0 2 (.box 2 (.t 0)) (.o 1 4 (.alloc 4 [(.n 1), (.n 7)]) (.o 2 5 (.mov (.v (.bool false))) .done)))) (.seq (.reg false (.o 0 7 (.load (some 1) (.t 2)) (.o 1 8 (.load (some 1) (.t 2)) (.o 2 9 (.load (some 1) (.t 2)) (.o 3 10 (.mov (.t 1)) (.o 4 11 (.lit 11 1 [(.i 0)] 2 [(0, 1, (.t 10)), (1, 1, (.i 60))]) (.o 5 12 (.build [(.n 1), (.i 0), (.i 0), (.i 0), (.n 1), (.n 1), (.n 1)] [(0, 1, (.t 8)), (1, 1, (.i 6)), (2, 1, (.i 60)), (4, 1, (.t 9)), (6, 1, (.t 11))]) (.o 6 13 (.lit 13 7 [(.n 1), (.i 0), (.i 0), (.i 0), (.n 1), (.n 1), (.n 1)] 1 [(0, 7, (.t 12))]) (.o 7 14 (.build [(.n 1), (.n 7)] [(0, 1, (.t 7)), (1, 1, (.t 13))]) (.o 8 6 (.alloc 6 [(.n 1), (.n 7)]) (.op 9 [] none none false (.store (some 2) (.t 6) (.t 14)) .done))))))))))) (.seq (.seq (.reg false (.o 0 15 (.load (some 2) (.t 6)) (.o 1 16 (.call 16 14 [(.t 15)]) (.o 2 17 (.un .not (.t 16)) .done)))) (.cond (.t 17) (.seq (.reg false (.o 0 18 (.build [(.n 1), (.n 7)] []) (.op 1 [] none none false (.store (some 2) (.t 4) (.t 18)) (.o 2 5 (.mov (.v (.bool false))) .done)))) .ret) .skip)) (.seq (.reg false (.o 0 19 (.load (some 2) (.t 6)) (.o 1 20 (.call 20 211 [(.t 19)]) (.op 2 [] none none false (.store (some 2) (.t 4) (.t 20)) (.o 3 5 (.mov (.v (.bool true))) .done))))) .ret))))
theorem dg_spec_ZoneNew : Tryz.f134.body.bind (digC Tryz.prog Tryz.f134.ntmps []) = some c_spec_ZoneNew := by kernel_rfl
theorem rs_spec_ZoneNew : resSlots Tryz.prog Tryz.f134 = some [.m 4 (some 2), .s 5] := by kernel_rfl
theorem ok_spec_ZoneNew (o : List (List UInt8)) (s : Int) (ho : SmallBB o) :
    FnOK Tryz.prog 134 [.agg [.d (encBB o)], .one (.d (.sc (.int .i64 s)))] (fun ra _ => ra = [.agg [.own true (encBB (zoneNewN o s).origin), .own true (encR (zoneNewN o s).rrs)], .one (.d (.sc (.bool (zoneOk (newZ o s)))))]) := by
  refine FnOK.ofK Tryz.func134 (by kernel_rfl) dg_spec_ZoneNew rs_spec_ZoneNew rfl rfl ?_
  delta c_spec_ZoneNew T.o X.i
  have hs := SmallZ.top s ho
  refine kSeq (kCut ⟨tabSl [(1, .i s), (2, .c (.ptr (rid 2 0) 1 0)), (4, .c (.ptr (rid 4 0) 1 0)), (5, .b false)], obTab 1 [(rid 2 0, ⟨1, 0, .box [.d (encBB o)]⟩), (rid 4 0, ⟨1, 0, .box [.nil 1, .nil 7]⟩)], []⟩ ?_ (fun x hc => ?_))
  case refine_2 => refine kReg (kBox rfl rfl rfl rfl rfl (kAlloc rfl rfl (kMovC rfl (kDone (hc _ .normA)))))
  refine kSeq (kCut ⟨tabSl [(4, .c (.ptr (rid 4 0) 1 0)), (5, .b false), (6, .c (.ptr (rid 6 0) 1 0))], obTab 1 [(rid 4 0, ⟨1, 0, .box [.nil 1, .nil 7]⟩), (rid 6 0, ⟨1, 0, .box [.d (encBB o), .arr (rid 13 0) 1]⟩), (rid 13 0, ⟨1, 0, .arr false (encR [topR o s])⟩)], []⟩ ?_ (fun x hc => ?_))
  case refine_2 => refine kReg (kLoadP rfl rfl rfl (kLoadP rfl rfl rfl (kLoadP rfl rfl rfl (kMovC rfl (kLit rfl rfl rfl rfl (kBuildG rfl (kLit rfl rfl rfl rfl (kBuildG rfl (kAlloc rfl rfl (kStoreP rfl rfl rfl rfl (kDone (hc _ .normA))))))))))))
  refine kSeq (kSeq (kReg (kLoadP rfl rfl rfl ?_)))
  refine kCallD (ok_spec_ZoneOk (newZ o s) hs) ⟨⟨⟨rfl, rfl, trivial⟩, leb⟩, trivial⟩ rfl rfl rfl rfl rfl ?_
  cases hok : zoneOk (newZ o s)
  · rw [show zoneNewN o s = zeroZ by unfold zoneNewN; rw [hok]; rfl]
    refine kUn rfl rfl (kDone (kCondT rfl (kSeq (kReg (kBuildG rfl (kStoreP rfl rfl rfl rfl (kMovC rfl (kDone (kRet (endRetA (ra := [.agg [(.own true _), (.own true _)], .one (.d _)]) rfl rfl))))))))))
  · rw [show zoneNewN o s = newZ o s by unfold zoneNewN; rw [hok]; rfl]
    refine kUn rfl rfl (kDone (kCondF rfl (kSkip (kSeq (kReg (kLoadP rfl rfl rfl ?_))))))
    refine kCall1 true (ok_spec_l5own (newZ o s) hs) ⟨⟨⟨rfl, rfl, trivial⟩, leb⟩, trivial⟩ rfl rfl rfl (fun _ => ?_)
    refine (kStoreP rfl rfl rfl rfl (kMovC rfl (kDone (kRet (endRetA (ra := [.agg [(.own true _), (.own true _)], .one (.d _)]) rfl rfl)))))

def c_spec_HouseNew : C := (.seq (.reg false (.o 0 2 (.alloc 2 [(.i 0), (.n 1), (.n 7), (.n 1), (.n 7), (.n 5)]) (.o 1 3 (.mov (.v (.bool false))) .done))) (.seq (.reg false (.o 0 9 (.call 9 135 []) (.o 1 10 (.mov (.t 0)) (.o 2 11 (.call 11 134 [(.t 9), (.t 10)]) (.o 3 8 (.mov (.t 11)) (.o 4 12 (.ext (.t 8) 0) (.o 5 13 (.ext (.t 8) 1) (.o 6 4 (.alloc 4 [(.n 1), (.n 7)]) (.op 7 [] none none false (.store (some 2) (.t 4) (.t 12)) (.o 8 5 (.mov (.t 13)) .done)))))))))) (.seq (.reg false (.o 0 15 (.call 15 136 []) (.o 1 16 (.mov (.t 0)) (.o 2 17 (.call 17 134 [(.t 15), (.t 16)]) (.o 3 14 (.mov (.t 17)) (.o 4 18 (.ext (.t 14) 0) (.o 5 19 (.ext (.t 14) 1) (.o 6 6 (.alloc 6 [(.n 1), (.n 7)]) (.op 7 [] none none false (.store (some 2) (.t 6) (.t 18)) (.o 8 7 (.mov (.t 19)) .done)))))))))) (.seq (.seq (.reg false (.o 0 20 (.mov (.t 5)) (.o 1 21 (.un .not (.t 20)) (.o 2 22 (.mov (.t 21)) (.op 3 [] (some 23) (some (22, false)) false (.mov (.t 7)) (.op 4 [] (some 24) (some (22, false)) false (.un .not (.t 23)) (.o 5 25 (.pick (.t 22) (.v (.bool true)) (.t 24)) .done))))))) (.cond (.t 25) (.seq (.reg false (.o 0 26 (.build [(.i 0), (.n 1), (.n 7), (.n 1), (.n 7), (.n 5)] []) (.op 1 [] none none false (.store (some 6) (.t 2) (.t 26)) (.o 2 3 (.mov (.v (.bool false))) .done)))) .ret) .skip)) (.seq (.reg false (.o 0 27 (.load (some 2) (.t 4)) (.o 1 28 (.load (some 2) (.t 6)) (.o 2 29 (.build [(.i 0), (.n 1), (.n 7), (.n 1), (.n 7), (.n 5)] [(1, 2, (.t 27)), (3, 2, (.t 28))]) (.op 3 [] none none false (.store (some 6) (.t 2) (.t 29)) (.o 4 3 (.mov (.v (.bool true))) .done)))))) .ret)))))
theorem dg_spec_HouseNew : Tryz.f47.body.bind (digC Tryz.prog Tryz.f47.ntmps []) = some c_spec_HouseNew := by kernel_rfl
theorem rs_spec_HouseNew : resSlots Tryz.prog Tryz.f47 = some [.m 2 (some 6), .s 3] := by kernel_rfl
theorem ok_spec_HouseNew (s : Int) :
    FnOK Tryz.prog 47 [.one (.d (.sc (.int .i64 s)))] (fun ra _ => ra = [.agg [.d (.sc (.int .i64 0)), .own true (encBB (hZone homeN s).origin), .own true (encR (hZone homeN s).rrs), .own true (encBB (hZone revN s).origin), .own true (encR (hZone revN s).rrs), .own true (encE [])], .one (.d (.sc (.bool (hOk s))))]) := by
  refine FnOK.ofK Tryz.func47 (by kernel_rfl) dg_spec_HouseNew rs_spec_HouseNew rfl rfl ?_
  delta c_spec_HouseNew T.o X.i
  have q1 := small_homeN
  have q2 := small_revN
  refine kSeq (kReg (kAlloc rfl rfl (kMovC rfl (kDone (kSeq (kReg (kCall1 true (ok_spec_l8home) trivial rfl rfl rfl (fun _ => (kMovC rfl (kCall1 true (ok_spec_ZoneNew _ _ (by first | assumption | omega | solve_by_elim [List.getElem_mem] | (simp only [szOut] at *; omega) | exact rfl | exact leb | exact rrOk_small (by assumption) | exact zoneOk_small (by assumption) | exact SmallBB.ok (by assumption) | exact (SmallBB.ok (by assumption)).len | exact (SmallBB.ok (by assumption)).mem | exact SmallBB.bent (by assumption))) ⟨⟨⟨rfl, trivial⟩, leb⟩, rfl, trivial⟩ rfl rfl rfl (fun _ => (kMovT rfl (kExtC rfl rfl (kExtC rfl rfl (kAlloc rfl rfl (kMem [(20480, ⟨1, 0, .box [.nil 1, .nil 7]⟩), (49152, ⟨1, 0, .arr true _⟩), (49153, ⟨1, 0, .arr true _⟩)] [(4, .c (.ptr 20480 1 0)), (12, .g [.arr 49152 1, .arr 49153 1]), (13, .c (.d _))] [] ⟨rfl, rfl, rfl, trivial⟩ ⟨rfl, rfl, rfl, trivial⟩ rfl (kStoreP rfl rfl rfl rfl (kMovC rfl (kDone (kSeq (kReg (kCall1 true (ok_spec_l8rev) trivial rfl rfl rfl (fun _ => (kMovC rfl (kCall1 true (ok_spec_ZoneNew _ _ (by first | assumption | omega | solve_by_elim [List.getElem_mem] | (simp only [szOut] at *; omega) | exact rfl | exact leb | exact rrOk_small (by assumption) | exact zoneOk_small (by assumption) | exact SmallBB.ok (by assumption) | exact (SmallBB.ok (by assumption)).len | exact (SmallBB.ok (by assumption)).mem | exact SmallBB.bent (by assumption))) ⟨⟨⟨rfl, trivial⟩, leb⟩, rfl, trivial⟩ rfl rfl rfl (fun _ => (kMovT rfl (kExtC rfl rfl (kExtC rfl rfl (kAlloc rfl rfl (kMem [(28672, ⟨1, 0, .box [.nil 1, .nil 7]⟩), (73728, ⟨1, 0, .arr true _⟩), (73729, ⟨1, 0, .arr true _⟩)] [(6, .c (.ptr 28672 1 0)), (18, .g [.arr 73728 1, .arr 73729 1]), (19, .c (.d _))] [] ⟨rfl, rfl, rfl, trivial⟩ ⟨rfl, rfl, rfl, trivial⟩ rfl (kStoreP rfl rfl rfl rfl (kMovC rfl (kDone (kSeq (kSeq (kReg (kMovC rfl (kUn rfl rfl (kMovC rfl (kGN rfl (fun g0 => kGF rfl (kGF rfl (kPickT rfl (kMovC rfl (kDone (kCondT rfl (kSeq (kReg (kMem [(12288, ⟨1, 0, .box [.d _, .nil 1, .nil 7, .nil 1, .nil 7, .nil 5]⟩)] [(2, .c (.ptr 12288 1 0)), (26, .c (.un))] [] ⟨rfl, trivial⟩ ⟨rfl, rfl, trivial⟩ rfl (kBuildG rfl (kMem [(12288, ⟨1, 0, .box [.d _, .nil 1, .nil 7, .nil 1, .nil 7, .nil 5]⟩)] [(2, .c (.ptr 12288 1 0)), (26, .g [.d _, .nil 1, .nil 7, .nil 1, .nil 7, .nil 5])] [] ⟨rfl, trivial⟩ ⟨rfl, rfl, trivial⟩ rfl (kStoreP rfl rfl rfl rfl (kMovC rfl (kDone (kMem [(12288, ⟨1, 0, .box [.d _, .nil 1, .nil 7, .nil 1, .nil 7, .nil 5]⟩)] [(2, .c (.ptr 12288 1 0)), (3, .c (.d _))] [] ⟨rfl, trivial⟩ ⟨rfl, rfl, trivial⟩ rfl (kRet (endRetA (ra := [.agg [(.d _), (.own true _), (.own true _), (.own true _), (.own true _), (.own true _)], .one (.d _)]) rfl ?_))))))))))))))))) (fun g0 => kGT rfl (kMovC rfl (kGT rfl (kUn rfl rfl (kPickF rfl (kMovC rfl (kDone (kCondN rfl (fun g1 => kSeq (kReg (kMem [(12288, ⟨1, 0, .box [.d _, .nil 1, .nil 7, .nil 1, .nil 7, .nil 5]⟩)] [(2, .c (.ptr 12288 1 0)), (26, .c (.un))] [] ⟨rfl, trivial⟩ ⟨rfl, rfl, trivial⟩ rfl (kBuildG rfl (kMem [(12288, ⟨1, 0, .box [.d _, .nil 1, .nil 7, .nil 1, .nil 7, .nil 5]⟩)] [(2, .c (.ptr 12288 1 0)), (26, .g [.d _, .nil 1, .nil 7, .nil 1, .nil 7, .nil 5])] [] ⟨rfl, trivial⟩ ⟨rfl, rfl, trivial⟩ rfl (kStoreP rfl rfl rfl rfl (kMovC rfl (kDone (kMem [(12288, ⟨1, 0, .box [.d _, .nil 1, .nil 7, .nil 1, .nil 7, .nil 5]⟩)] [(2, .c (.ptr 12288 1 0)), (3, .c (.d _))] [] ⟨rfl, trivial⟩ ⟨rfl, rfl, trivial⟩ rfl (kRet (endRetA (ra := [.agg [(.d _), (.own true _), (.own true _), (.own true _), (.own true _), (.own true _)], .one (.d _)]) rfl ?_))))))))))) (fun g1 => kSkip (kSeq (kReg (kLoadP rfl rfl rfl (kMem [(28672, ⟨1, 0, .box [.arr 73728 1, .arr 73729 1]⟩), (49152, ⟨1, 0, .arr true _⟩), (49153, ⟨1, 0, .arr true _⟩), (12288, ⟨1, 0, .box [.d _, .nil 1, .nil 7, .nil 1, .nil 7, .nil 5]⟩), (73728, ⟨1, 0, .arr true _⟩), (73729, ⟨1, 0, .arr true _⟩)] [(6, .c (.ptr 28672 1 0)), (27, .g [.arr 49152 1, .arr 49153 1]), (28, .c (.un)), (2, .c (.ptr 12288 1 0)), (29, .c (.un))] [] ⟨rfl, rfl, rfl, rfl, rfl, rfl, trivial⟩ ⟨rfl, rfl, rfl, rfl, rfl, trivial⟩ rfl (kLoadP rfl rfl rfl (kBuildG rfl (kMem [(12288, ⟨1, 0, .box [.d _, .nil 1, .nil 7, .nil 1, .nil 7, .nil 5]⟩), (49152, ⟨1, 0, .arr true _⟩), (49153, ⟨1, 0, .arr true _⟩), (73728, ⟨1, 0, .arr true _⟩), (73729, ⟨1, 0, .arr true _⟩)] [(2, .c (.ptr 12288 1 0)), (29, .g [.d _, .arr 49152 1, .arr 49153 1, .arr 73728 1, .arr 73729 1, .nil 5])] [] ⟨rfl, rfl, rfl, rfl, rfl, trivial⟩ ⟨rfl, rfl, trivial⟩ rfl (kStoreP rfl rfl rfl rfl (kMovC rfl (kDone (kMem [(12288, ⟨1, 0, .box [.d _, .arr 49152 1, .arr 49153 1, .arr 73728 1, .arr 73729 1, .nil 5]⟩), (49152, ⟨1, 0, .arr true _⟩), (49153, ⟨1, 0, .arr true _⟩), (73728, ⟨1, 0, .arr true _⟩), (73729, ⟨1, 0, .arr true _⟩)] [(2, .c (.ptr 12288 1 0)), (3, .c (.d _))] [] ⟨rfl, rfl, rfl, rfl, rfl, trivial⟩ ⟨rfl, rfl, trivial⟩ rfl (kRet (endRetA (ra := [.agg [(.d _), (.own true _), (.own true _), (.own true _), (.own true _), (.own true _)], .one (.d _)]) rfl ?_)))))))))))))))))))))))))))))))))))))))))))))))))))))))))))))))
  · have e : hOk s = false := by unfold hOk; rw [g0]; rfl
    have e2 : ∀ o, hZone o s = zeroZ := fun o => by unfold hZone; rw [e]; rfl
    rw [e, e2, e2]
    rfl
  · have e : hOk s = false := by unfold hOk; rw [g0, g1]; rfl
    have e2 : ∀ o, hZone o s = zeroZ := fun o => by unfold hZone; rw [e]; rfl
    rw [e, e2, e2]
    rfl
  · have e : hOk s = true := by unfold hOk; rw [g0, g1]; rfl
    have e2 : ∀ o, hZone o s = newZ o s := fun o => by unfold hZone; rw [e]; rfl
    have e3 : zoneNewN homeN s = newZ homeN s := by unfold zoneNewN; rw [if_pos g0]
    have e4 : zoneNewN revN s = newZ revN s := by unfold zoneNewN; rw [if_pos g1]
    rw [e, e2, e2, e3, e4]
    rfl

def c_impl_nameOf : C := (.seq (.reg false (.o 0 2 (.alloc 2 [(.n 1)]) .done)) (.seq (.reg false (.o 0 6 (.build [(.n 1)] []) (.o 1 3 (.alloc 3 [(.n 1)]) (.op 2 [] none none false (.store (some 1) (.t 3) (.t 6)) .done)))) (.seq (.seq (.reg false (.o 0 7 (.mov (.t 0)) (.o 1 8 (.len (.t 7)) (.o 2 9 (.mov (.i 0)) .done)))) (.block 0 (.loop (.seq (.reg false (.o 0 10 (.bin .lss (.t 9) (.t 8)) .done)) (.seq (.cond (.t 10) .skip (.exit 0)) (.seq (.block 1 (.seq (.reg false (.o 0 11 (.iad 1 (.t 7) (.t 9)) (.o 1 12 (.load none (.t 11)) (.o 2 5 (.mov (.t 12)) .done)))) (.reg false (.o 0 13 (.fad (.t 3) 0) (.o 1 14 (.load none (.t 13)) (.o 2 15 (.mov (.t 5)) (.o 3 16 (.s2b (.t 15)) (.o 4 17 (.lit 17 1 [(.n 1)] 1 [(0, 1, (.t 16))]) (.o 5 18 (.app 18 1 24 (.t 14) (.t 17)) (.o 6 19 (.fad (.t 3) 0) (.op 7 [] none none false (.store none (.t 19) (.t 18)) .done))))))))))) (.reg false (.o 0 20 (.bin .add (.t 9) (.i 1)) (.o 1 9 (.mov (.t 20)) .done))))))))) (.seq (.reg false (.o 0 21 (.load (some 1) (.t 3)) (.op 1 [] none none false (.store (some 1) (.t 2) (.t 21)) .done))) .ret))))
theorem dg_impl_nameOf : Tryz.f236.body.bind (digC Tryz.prog Tryz.f236.ntmps []) = some c_impl_nameOf := by kernel_rfl
theorem rs_impl_nameOf : resSlots Tryz.prog Tryz.f236 = some [.m 2 (some 1)] := by kernel_rfl
theorem ok_impl_nameOf (l : List ByteArray) (hl : l.length ≤ 1000) (hb : (l.all fun b => Nat.ble b.size 64) = true) :
    FnOK Tryz.prog 236 [.one (.d (.sl 1 (l.map fun b => [.sc (.string b)])))] (fun ra _ => ra = [.agg [.own false (encBB (l.map fun b => b.toList))]]) := by
  refine FnOK.ofK Tryz.func236 (by kernel_rfl) dg_impl_nameOf rs_impl_nameOf rfl rfl ?_
  delta c_impl_nameOf T.o X.i
  refine kSeq (kReg (kAlloc rfl rfl (kDone (kSeq (kReg (kBuildG rfl (kAlloc rfl rfl (kStoreP rfl rfl rfl rfl (kDone (kSeq (kSeq (kReg (kMovC rfl (kLenR rfl rfl (kMovC rfl (kDone (kBlock ?_)))))))))))))))))
  refine kSub (Sub.nilBox (id := rid 3 0) (id2 := rid 5000 0) (j := 0) rfl rfl rfl (by decide) (by decide)) ?_
  refine kLoop (α := { i : Nat // i ≤ l.length }) (fun y => ⟨tabSl [(2, .c (.ptr (rid 2 0) 1 0)), (3, .c (.ptr (rid 3 0) 1 0)), (7, .dv (.sl 1 (l.map fun b => [.sc (.string b)]))), (8, .i l.length), (9, .i y.1)], obTab 1 [(rid 2 0, ⟨1, 0, .box [.nil 1]⟩), (rid 3 0, ⟨1, 0, .box [.arr (rid 5000 0) 1]⟩), (rid 5000 0, ⟨1, 0, .arr false (encBB ((l.take y.1).map fun b => b.toList))⟩)], []⟩) (fun y => l.length - y.1) ⟨0, by simp⟩ .normA ?_
  rintro ⟨i, hi⟩
  simp only
  rcases Nat.lt_or_ge i l.length with hlt | hge
  · have hbi : (l[i]).size ≤ 64 := Nat.le_of_ble_eq_true (List.all_eq_true.1 hb _ (List.getElem_mem hlt))
    have hlm : ((l.take i).map fun b => b.toList).length = i := by simp; omega
    refine kSeq (kReg (kBin rfl rfl rfl (kDone (kSeq (kCondP rfl (fun g0 => kSkip (kSeq (kBlock (kSeq (kReg (kIadR rfl rfl rfl (by first | omega | (simp only [List.length_append, List.length_cons, List.length_nil]; omega)) (kLoadD rfl rfl (kMovC rfl (kDone (kReg (kFadP rfl rfl (kLoadP rfl rfl rfl (kMovC rfl (kS2b rfl (by omega) (kLitG rfl rfl rfl rfl (kMem [(20484096, ⟨1, 0, .arr false _⟩), (73728, ⟨2, 0, .arr false _⟩), (16384, ⟨1, 0, .box [.arr 20484096 1]⟩)] [(14, .c (.arr 20484096 1)), (17, .c (.arr 73728 2)), (3, .c (.ptr 16384 1 0))] [] ⟨rfl, rfl, rfl, trivial⟩ ⟨rfl, rfl, rfl, trivial⟩ rfl (kAppR1 rfl rfl rfl rfl rfl rfl rfl rfl (by first | omega | (simp only [List.length_append, List.length_cons, List.length_nil]; omega)) (kFadP rfl rfl (kStoreP rfl rfl rfl rfl (kDone (kBk (kReg (kAdd rfl rfl (by omega) (kMovC rfl (kDone ?_))))))))))))))))))))))))) (fun g0 => (by omega)))))))
    refine kInv ⟨⟨i + 1, hlt⟩, by simp only; omega, ?_⟩
    rw [show (l.take (i + 1)).map (fun b => b.toList) = (l.take i).map (fun b => b.toList) ++ [l[i].toList] by rw [← List.take_append_getElem hlt, List.map_append]; rfl]
    exact .normA
  · refine kSeq (kReg (kBin rfl rfl rfl (kDone (kSeq (kCondP rfl (fun g0 => (by omega)) (fun g0 => kExit (kExC (kExI (kExB (kSeq (kReg (kLoadP rfl rfl rfl (kStoreP rfl rfl rfl rfl (kDone ?_))))))))))))))
    rw [List.take_of_length_le (by omega)]
    exact kRet (endRetA (ra := [.agg [.own false _]]) rfl rfl)

def c_impl_home : C := (.seq (.reg false (.o 0 0 (.alloc 0 [(.n 1)]) .done)) (.seq (.reg false (.o 0 1 (.lit 1 1 [(.v (.string ⟨#[]⟩))] 1 [(0, 1, (.v (.string ⟨#[104, 111, 109, 101]⟩)))]) (.o 1 2 (.call 2 236 [(.t 1)]) (.op 2 [] none none false (.store (some 1) (.t 0) (.t 2)) .done)))) .ret))
theorem dg_impl_home : Tryz.f137.body.bind (digC Tryz.prog Tryz.f137.ntmps []) = some c_impl_home := by kernel_rfl
theorem rs_impl_home : resSlots Tryz.prog Tryz.f137 = some [.m 0 (some 1)] := by kernel_rfl
theorem ok_impl_home :
    FnOK Tryz.prog 137 [] (fun ra _ => ra = [.agg [.own false (encBB homeN)]]) := by
  refine FnOK.ofK Tryz.func137 (by kernel_rfl) dg_impl_home rs_impl_home rfl rfl ?_
  delta c_impl_home T.o X.i
  refine kSeq (kReg (kAlloc rfl rfl (kDone (kSeq (kReg (kLitD rfl rfl rfl rfl ?_))))))
  have hl : ([⟨#[104, 111, 109, 101]⟩] : List ByteArray).map (fun b => b.toList) = homeN := by simp only [List.map_cons, List.map_nil, ByteArray.toList_eq]; rfl
  refine kCall1 false (ok_impl_nameOf [⟨#[104, 111, 109, 101]⟩] (by decide) (by decide)) ⟨rfl, trivial⟩ rfl rfl rfl (fun _ => ?_)
  rw [hl]
  refine kStoreP rfl rfl rfl rfl (kDone ?_)
  exact kRet (endRetA (ra := [.agg [.own false _]]) rfl rfl)

def c_impl_rev : C := (.seq (.reg false (.o 0 0 (.alloc 0 [(.n 1)]) .done)) (.seq (.reg false (.o 0 1 (.lit 1 1 [(.v (.string ⟨#[]⟩))] 5 [(0, 1, (.v (.string ⟨#[48]⟩))), (1, 1, (.v (.string ⟨#[48]⟩))), (2, 1, (.v (.string ⟨#[49, 48]⟩))), (3, 1, (.v (.string ⟨#[105, 110, 45, 97, 100, 100, 114]⟩))), (4, 1, (.v (.string ⟨#[97, 114, 112, 97]⟩)))]) (.o 1 2 (.call 2 236 [(.t 1)]) (.op 2 [] none none false (.store (some 1) (.t 0) (.t 2)) .done)))) .ret))
theorem dg_impl_rev : Tryz.f138.body.bind (digC Tryz.prog Tryz.f138.ntmps []) = some c_impl_rev := by kernel_rfl
theorem rs_impl_rev : resSlots Tryz.prog Tryz.f138 = some [.m 0 (some 1)] := by kernel_rfl
theorem ok_impl_rev :
    FnOK Tryz.prog 138 [] (fun ra _ => ra = [.agg [.own false (encBB revN)]]) := by
  refine FnOK.ofK Tryz.func138 (by kernel_rfl) dg_impl_rev rs_impl_rev rfl rfl ?_
  delta c_impl_rev T.o X.i
  refine kSeq (kReg (kAlloc rfl rfl (kDone (kSeq (kReg (kLitD rfl rfl rfl rfl ?_))))))
  have hl : ([⟨#[48]⟩, ⟨#[48]⟩, ⟨#[49, 48]⟩, ⟨#[105, 110, 45, 97, 100, 100, 114]⟩, ⟨#[97, 114, 112, 97]⟩] : List ByteArray).map (fun b => b.toList) = revN := by simp only [List.map_cons, List.map_nil, ByteArray.toList_eq]; rfl
  refine kCall1 false (ok_impl_nameOf [⟨#[48]⟩, ⟨#[48]⟩, ⟨#[49, 48]⟩, ⟨#[105, 110, 45, 97, 100, 100, 114]⟩, ⟨#[97, 114, 112, 97]⟩] (by decide) (by decide)) ⟨rfl, trivial⟩ rfl rfl rfl (fun _ => ?_)
  rw [hl]
  refine kStoreP rfl rfl rfl rfl (kDone ?_)
  exact kRet (endRetA (ra := [.agg [.own false _]]) rfl rfl)

def c_impl_topRr : C := (.seq (.reg false (.o 0 2 (.box 2 (.t 0)) (.o 1 4 (.alloc 4 [(.n 1), (.i 0), (.i 0), (.i 0), (.n 1), (.n 1), (.n 1)]) .done))) (.seq (.reg false (.o 0 5 (.load (some 1) (.t 2)) (.o 1 6 (.load (some 1) (.t 2)) (.o 2 7 (.mov (.t 1)) (.o 3 8 (.lit 8 1 [(.i 0)] 2 [(0, 1, (.t 7)), (1, 1, (.i 60))]) (.o 4 9 (.build [(.n 1), (.i 0), (.i 0), (.i 0), (.n 1), (.n 1), (.n 1)] [(0, 1, (.t 5)), (1, 1, (.i 6)), (2, 1, (.i 60)), (4, 1, (.t 6)), (6, 1, (.t 8))]) (.op 5 [] none none false (.store (some 7) (.t 4) (.t 9)) .done))))))) .ret))
theorem dg_impl_topRr : Tryz.f186.body.bind (digC Tryz.prog Tryz.f186.ntmps []) = some c_impl_topRr := by kernel_rfl
theorem rs_impl_topRr : resSlots Tryz.prog Tryz.f186 = some [.m 4 (some 7)] := by kernel_rfl
theorem ok_impl_topRr (o : List (List UInt8)) (s : Int) :
    FnOK Tryz.prog 186 [.agg [.d (encBB o)], .one (.d (.sc (.int .i64 s)))] (fun ra _ => ra = [.agg [.d (encBB o), .d (.sc (.int .i64 6)), .d (.sc (.int .i64 60)), .d (.sc (.int .i64 0)), .d (encBB o), .d (.sl 1 []), .own true (encI [s, 60])]]) := by
  refine FnOK.ofK Tryz.func186 (by kernel_rfl) dg_impl_topRr rs_impl_topRr rfl rfl ?_
  delta c_impl_topRr T.o X.i
  refine kSeq (kReg (kBox rfl rfl rfl rfl rfl (kAlloc rfl rfl (kDone (kSeq (kReg (kLoadP rfl rfl rfl (kLoadP rfl rfl rfl (kMovC rfl (kLit rfl rfl rfl rfl (kBuildG rfl (kStoreP rfl rfl rfl rfl (kDone (kRet (endRetA (ra := [.agg [(.d _), (.d _), (.d _), (.d _), (.d _), (.d _), (.own true _)]]) rfl rfl)))))))))))))))

def c_impl_within : C := (.seq (.reg false (.o 0 6 (.mov (.v (.bool false))) .done)) (.seq (.reg false (.o 0 7 (.mov (.t 1)) (.o 1 8 (.mov (.t 0)) (.o 2 9 (.bin .leq (.t 7) (.t 8)) (.o 3 10 (.mov (.t 9)) (.op 4 [] (some 11) (some (10, true)) false (.mov (.t 0)) (.op 5 [] (some 12) (some (10, true)) false (.mov (.t 2)) (.op 6 [] (some 13) (some (10, true)) false (.bin .leq (.t 11) (.t 12)) (.o 7 14 (.pick (.t 10) (.t 13) (.v (.bool false))) (.o 8 6 (.mov (.t 14)) .done)))))))))) .ret))
theorem dg_impl_within : Tryz.f147.body.bind (digC Tryz.prog Tryz.f147.ntmps []) = some c_impl_within := by kernel_rfl
theorem rs_impl_within : resSlots Tryz.prog Tryz.f147 = some [.s 6] := by kernel_rfl
theorem ok_impl_within (n lo hi : Int) : FnOK Tryz.prog 147 [.one (.d (.sc (.int .i64 n))), .one (.d (.sc (.int .i64 lo))), .one (.d (.sc (.int .i64 hi)))] (fun ra _ => ra = [.one (.d (.sc (.bool (decide (lo ≤ n ∧ n ≤ hi)))))]) := by
  refine FnOK.ofK Tryz.func147 (by kernel_rfl) dg_impl_within rs_impl_within rfl rfl ?_
  delta c_impl_within T.o X.i
  repeat' first
    | refine kSeq ?_ | refine kReg ?_ | refine kDone ?_ | refine kMovC rfl ?_ | refine kBin rfl rfl rfl ?_
    | refine kGT rfl ?_ | refine kGF rfl ?_ | refine kGU rfl ?_ | refine kG rfl (fun h => ?_) (fun h => ?_)
    | refine kPickT rfl ?_ | refine kPickF rfl ?_ | refine kPick rfl (fun h => ?_) (fun h => ?_) | refine kRet ?_
  all_goals refine endRet (ra := [.one (.d _)]) rfl ⟨⟨⟨rfl, .inl rfl⟩, trivial⟩, .nil, trivial, trivial, trivial, trivial⟩ ?_
  all_goals simp_all
  all_goals omega

def c_impl_all_byte_1 : C := (.seq (.reg false (.o 0 3 (.mov (.v (.bool false))) .done)) (.seq (.reg false (.o 0 4 (.load none (.t 1)) (.o 1 5 (.mov (.t 0)) (.o 2 6 (.callv 6 (.t 4) [(.t 5)]) (.o 3 7 (.un .not (.t 6)) (.o 4 3 (.mov (.t 7)) .done)))))) .ret))
theorem dg_impl_all_byte_1 : Tryz.f292.body.bind (digC Tryz.prog Tryz.f292.ntmps []) = some c_impl_all_byte_1 := by kernel_rfl
theorem rs_impl_all_byte_1 : resSlots Tryz.prog Tryz.f292 = some [.s 3] := by kernel_rfl
theorem ok_impl_all_byte_1 (x : DV) (D : DV → Prop) (g : DV → Bool) (hx : D x) :
    FnOK Tryz.prog 292 [.one (.d x), .one (.ptr [.fv false (fcPred D g)])] (fun ra _ => ra = [.one (.d (.sc (.bool (!g x))))]) := by
  refine FnOK.ofK Tryz.func292 (by kernel_rfl) dg_impl_all_byte_1 rs_impl_all_byte_1 rfl rfl ?_
  delta c_impl_all_byte_1 T.o X.i
  refine kSeq (kReg (kMovC rfl (kDone ?_)))
  refine kSeq (kReg (kLoadC rfl rfl (kMovC rfl (kCallv rfl ⟨x, hx, rfl, rfl⟩ ⟨rfl, trivial⟩ (.inr ?_) rfl ?_ rfl ?_))))
  · rintro _ rfl; rfl
  · rintro _ rfl; exact leb
  rintro _ rfl
  refine kUn rfl rfl (kMovC rfl (kDone (kRet ?_)))
  exact endRet (ra := [.one (.d _)]) rfl ⟨⟨⟨rfl, .inl rfl⟩, trivial⟩, .nil, trivial, trivial, trivial⟩ rfl

def c_slices_IndexFunc_Lbyte_byte : C := (.seq (.reg false (.o 0 4 (.mov (.i 0)) .done)) (.seq (.seq (.reg false (.o 0 6 (.mov (.t 0)) (.o 1 7 (.len (.t 6)) (.o 2 8 (.mov (.i 0)) .done)))) (.block 0 (.loop (.seq (.reg false (.o 0 9 (.bin .lss (.t 8) (.t 7)) .done)) (.seq (.cond (.t 9) .skip (.exit 0)) (.seq (.block 1 (.seq (.reg false (.o 0 10 (.mov (.t 8)) (.o 1 5 (.mov (.t 10)) .done))) (.seq (.reg false (.o 0 11 (.mov (.t 1)) (.o 1 12 (.mov (.t 0)) (.o 2 13 (.mov (.t 5)) (.o 3 14 (.iad 1 (.t 12) (.t 13)) (.o 4 15 (.load none (.t 14)) (.o 5 16 (.callv 16 (.t 11) [(.t 15)]) .done))))))) (.cond (.t 16) (.seq (.reg false (.o 0 17 (.mov (.t 5)) (.o 1 4 (.mov (.t 17)) .done))) .ret) .skip)))) (.reg false (.o 0 18 (.bin .add (.t 8) (.i 1)) (.o 1 8 (.mov (.t 18)) .done))))))))) (.seq (.reg false (.o 0 4 (.mov (.i (-1))) .done)) .ret)))
theorem dg_slices_IndexFunc_Lbyte_byte : Tryz.f303.body.bind (digC Tryz.prog Tryz.f303.ntmps []) = some c_slices_IndexFunc_Lbyte_byte := by kernel_rfl
theorem rs_slices_IndexFunc_Lbyte_byte : resSlots Tryz.prog Tryz.f303 = some [.s 4] := by kernel_rfl
theorem ok_slices_IndexFunc_Lbyte_byte (l : List DV) (D : DV → Prop) (g : DV → Bool) (hl : (l.length : Int) ≤ 9223372036854775807) (hD : ∀ x ∈ l, D x) :
    FnOK Tryz.prog 303 [.one (.d (lst l)), .one (.fv false (fcPred D g))] (fun ra _ => ra = [.one (.d (.sc (.int .i64 (idxF g l))))]) := by
  refine FnOK.ofK Tryz.func303 (by kernel_rfl) dg_slices_IndexFunc_Lbyte_byte rs_slices_IndexFunc_Lbyte_byte rfl rfl ?_
  delta c_slices_IndexFunc_Lbyte_byte T.o X.i
  refine kSeq (kReg (kMovC rfl (kDone ?_)))
  refine kSeq (kSeq (kReg (kMovC rfl (kLen rfl rfl rfl (kMovC rfl (kDone (kBlock ?_)))))))
  rw [len_lst]
  refine kLoop (α := { i : Nat // i ≤ l.length ∧ ∀ x ∈ l.take i, g x = false })
    (fun y => ⟨tabSl [(0, .dv (lst l)), (1, .c (.fv false (fcPred D g))), (7, .i l.length), (8, .i y.1)], (St.init [.one (.d (lst l)), .one (.fv false (fcPred D g))]).ob, []⟩) (fun y => l.length - y.1) ⟨0, by simp⟩
    (.tab rfl ⟨.refl _, .refl _, .refl _, .refl _, trivial⟩) ?_
  rintro ⟨i, hi, hg⟩
  simp only
  refine kSeq (kReg (kBin rfl rfl rfl (kDone ?_)))
  refine kSeq (kCond rfl (fun h1 => ?_) (fun h1 => ?_))
  · have hlt : i < l.length := by simp at h1; omega
    refine kSkip (kSeq (kBlock (kSeq (kReg (kMovC rfl (kMovC rfl (kDone ?_)))))))
    refine kSeq (kReg (kMovC rfl (kMovC rfl (kMovC rfl (kIadD rfl rfl rfl rfl ?_ ?_)))))
    · rw [len_lst]; omega
    rw [show (lst l).row (i : Int).toNat = [l[i]] from row_lst l i hlt]
    refine kLoadD rfl rfl (kCallv rfl ⟨l[i], hD _ (List.getElem_mem hlt), rfl, rfl⟩ ⟨rfl, trivial⟩ (.inr ?_) rfl ?_ rfl ?_)
    · rintro _ rfl; rfl
    · rintro _ rfl; exact leb
    rintro _ rfl
    refine kDone (kCond rfl (fun h2 => ?_) (fun h2 => ?_))
    · refine kSeq (kReg (kMovC rfl (kMovC rfl (kDone (kRet ?_)))))
      refine endRet (ra := [.one (.d _)]) rfl ⟨⟨⟨rfl, .inl rfl⟩, trivial⟩, .nil, trivial, trivial, trivial⟩ ?_
      have : l.findIdx? g = some i := by
        rw [List.findIdx?_eq_some_iff_getElem]
        refine ⟨hlt, h2, fun j hj => ?_⟩
        simpa using hg _ (by rw [List.mem_take_iff_getElem]; exact ⟨j, by omega, rfl⟩)
      simp [idxF, this]
    · refine kSkip (kBk (kReg (kAdd rfl rfl ?_ (kMovC rfl (kDone (kInv ?_))))))
      · omega
      refine ⟨⟨i + 1, hlt, ?_⟩, by simp only; omega, .tab rfl ⟨.refl _, .refl _, .refl _, .refl _, trivial⟩⟩
      intro x hx
      rw [← List.take_append_getElem hlt, List.mem_append] at hx
      rcases hx with hx | hx
      · exact hg x hx
      · simp at hx; rw [hx]; exact h2
  · refine kExit (kExC (kExI (kExB ?_)))
    have hge : i = l.length := by simp at h1; omega
    refine kSeq (kReg (kMovC rfl (kDone (kRet ?_))))
    refine endRet (ra := [.one (.d _)]) rfl ⟨⟨⟨rfl, .inl rfl⟩, trivial⟩, .nil, trivial, trivial, trivial⟩ ?_
    have : l.findIdx? g = none := by
      rw [List.findIdx?_eq_none_iff]
      intro x hx
      rw [hge, List.take_length] at hg
      exact hg x hx
    simp [idxF, this]

def c_slices_ContainsFunc_Lbyte_byte : C := (.seq (.reg false (.o 0 4 (.mov (.v (.bool false))) .done)) (.seq (.reg false (.o 0 5 (.mov (.t 0)) (.o 1 6 (.mov (.t 1)) (.o 2 7 (.call 7 303 [(.t 5), (.t 6)]) (.o 3 8 (.bin .geq (.t 7) (.i 0)) (.o 4 4 (.mov (.t 8)) .done)))))) .ret))
theorem dg_slices_ContainsFunc_Lbyte_byte : Tryz.f291.body.bind (digC Tryz.prog Tryz.f291.ntmps []) = some c_slices_ContainsFunc_Lbyte_byte := by kernel_rfl
theorem rs_slices_ContainsFunc_Lbyte_byte : resSlots Tryz.prog Tryz.f291 = some [.s 4] := by kernel_rfl
theorem ok_slices_ContainsFunc_Lbyte_byte (l : List DV) (D : DV → Prop) (g : DV → Bool) (hl : (l.length : Int) ≤ 9223372036854775807) (hD : ∀ x ∈ l, D x) :
    FnOK Tryz.prog 291 [.one (.d (lst l)), .one (.fv false (fcPred D g))] (fun ra _ => ra = [.one (.d (.sc (.bool (l.any g))))]) := by
  refine FnOK.ofK Tryz.func291 (by kernel_rfl) dg_slices_ContainsFunc_Lbyte_byte rs_slices_ContainsFunc_Lbyte_byte rfl rfl ?_
  delta c_slices_ContainsFunc_Lbyte_byte T.o X.i
  refine kSeq (kReg (kMovC rfl (kDone ?_)))
  refine kSeq (kReg (kMovC rfl (kMovC rfl ?_)))
  refine kCall1 true (ok_slices_IndexFunc_Lbyte_byte l D g hl hD) ⟨rfl, ⟨fun h => h, fun _ _ h => h⟩, trivial⟩ rfl rfl rfl fun os => ?_
  refine kBin rfl rfl rfl (kMovC rfl (kDone (kRet ?_)))
  refine endRet (ra := [.one (.d _)]) rfl ⟨⟨⟨rfl, .inl rfl⟩, trivial⟩, .nil, trivial, trivial, trivial⟩ ?_
  have : decide (idxF g l ≥ 0) = l.any g := by
    unfold idxF
    cases h : l.findIdx? g with
    | none =>
      rw [List.findIdx?_eq_none_iff] at h
      have : l.any g = false := by rw [List.any_eq_false]; intro x hx; simp [h x hx]
      rw [this]; rfl
    | some i =>
      rw [List.findIdx?_eq_some_iff_getElem] at h
      obtain ⟨h1, h2, _⟩ := h
      have : l.any g = true := by rw [List.any_eq_true]; exact ⟨_, List.getElem_mem h1, h2⟩
      rw [this]; simp
  rw [this]

def c_impl_all_byte : C := (.seq (.reg false (.o 0 3 (.box 3 (.t 1)) (.o 1 4 (.mov (.v (.bool false))) .done))) (.seq (.reg false (.o 0 5 (.mov (.t 0)) (.o 1 6 (.clo 292 [] [(.t 3)]) (.o 2 7 (.call 7 291 [(.t 5), (.t 6)]) (.o 3 8 (.un .not (.t 7)) (.o 4 4 (.mov (.t 8)) .done)))))) .ret))
theorem dg_impl_all_byte : Tryz.f255.body.bind (digC Tryz.prog Tryz.f255.ntmps []) = some c_impl_all_byte := by kernel_rfl
theorem rs_impl_all_byte : resSlots Tryz.prog Tryz.f255 = some [.s 4] := by kernel_rfl
theorem ok_impl_all_byte (l : List DV) (D : DV → Prop) (g : DV → Bool) (hl : (l.length : Int) ≤ 9223372036854775807) (hD : ∀ x ∈ l, D x) :
    FnOK Tryz.prog 255 [.one (.d (lst l)), .one (.fv false (fcPred D g))] (fun ra _ => ra = [.one (.d (.sc (.bool (l.all g))))]) := by
  refine FnOK.ofK Tryz.func255 (by kernel_rfl) dg_impl_all_byte rs_impl_all_byte rfl rfl ?_
  delta c_impl_all_byte T.o X.i
  refine kSeq (kReg (kBox rfl rfl rfl rfl rfl (kMovC rfl (kDone ?_))))
  refine kSeq (kReg (kMovC rfl (kClo rfl rfl ?_)))
  refine kCall1 true (ok_slices_ContainsFunc_Lbyte_byte l D (fun x => !g x) hl hD) ⟨rfl, ⟨rfl, ⟨_, Tryz.func292, rfl, by kernel_rfl⟩, _, rfl, ?_⟩, trivial⟩ rfl rfl rfl fun os => ?_
  · rintro l R ⟨x, hx, rfl, rfl⟩
    exact ⟨by rintro _ rfl; rfl, ok_impl_all_byte_1 x D g hx⟩
  refine kUn rfl rfl (kMovC rfl (kDone (kRet ?_)))
  refine endRet (ra := [.one (.d _)]) rfl ⟨⟨⟨rfl, .inl rfl⟩, trivial⟩, .nil, trivial, trivial, trivial⟩ ?_
  simp [List.all_eq_not_any_not]

def c_impl_LabelOk_1 : C := (.seq (.reg false (.o 0 2 (.mov (.v (.bool false))) .done)) (.seq (.reg false (.o 0 3 (.mov (.t 0)) (.o 1 4 (.bin .geq (.t 3) (.v (.int .u8 97))) (.o 2 5 (.mov (.t 4)) (.op 3 [] (some 6) (some (5, true)) false (.mov (.t 0)) (.op 4 [] (some 7) (some (5, true)) false (.bin .leq (.t 6) (.v (.int .u8 122))) (.o 5 8 (.pick (.t 5) (.t 7) (.v (.bool false))) (.o 6 9 (.mov (.t 8)) (.op 7 [] (some 10) (some (9, false)) false (.mov (.t 0)) (.op 8 [] (some 11) (some (9, false)) false (.bin .geq (.t 10) (.v (.int .u8 48))) (.op 9 [] (some 12) (some (9, false)) false (.mov (.t 11)) (.op 10 [] (some 13) (some (12, true)) false (.mov (.t 0)) (.op 11 [] (some 14) (some (12, true)) false (.bin .leq (.t 13) (.v (.int .u8 57))) (.op 12 [] (some 15) (some (9, false)) false (.pick (.t 12) (.t 14) (.v (.bool false))) (.o 13 16 (.pick (.t 9) (.v (.bool true)) (.t 15)) (.o 14 17 (.mov (.t 16)) (.op 15 [] (some 18) (some (17, false)) false (.mov (.t 0)) (.op 16 [] (some 19) (some (17, false)) false (.bin .eql (.t 18) (.v (.int .u8 45))) (.o 17 20 (.pick (.t 17) (.v (.bool true)) (.t 19)) (.o 18 2 (.mov (.t 20)) .done)))))))))))))))))))) .ret))
theorem dg_impl_LabelOk_1 : Tryz.f256.body.bind (digC Tryz.prog Tryz.f256.ntmps []) = some c_impl_LabelOk_1 := by kernel_rfl
theorem rs_impl_LabelOk_1 : resSlots Tryz.prog Tryz.f256 = some [.s 2] := by kernel_rfl
theorem ok_impl_LabelOk_1 (b : UInt8) : FnOK Tryz.prog 256 [.one (.d (.sc (.int .u8 b.toNat)))] (fun ra _ => ra = [.one (.d (.sc (.bool (okLetter b))))]) := by
  refine FnOK.ofK Tryz.func256 (by kernel_rfl) dg_impl_LabelOk_1 rs_impl_LabelOk_1 rfl rfl ?_
  delta c_impl_LabelOk_1 T.o X.i
  repeat' first
    | refine kSeq ?_ | refine kReg ?_ | refine kDone ?_ | refine kMovC rfl ?_ | refine kBin rfl rfl rfl ?_
    | refine kGT rfl ?_ | refine kGF rfl ?_ | refine kGU rfl ?_ | refine kG rfl (fun h => ?_) (fun h => ?_)
    | refine kPickT rfl ?_ | refine kPickF rfl ?_ | refine kPick rfl (fun h => ?_) (fun h => ?_) | refine kRet ?_
  all_goals refine endRet (ra := [.one (.d _)]) rfl ⟨⟨⟨rfl, .inl rfl⟩, trivial⟩, .nil, trivial, trivial⟩ ?_
  all_goals simp_all [okLetter]
  all_goals first | omega | (rw [Bool.eq_iff_iff]; simp; omega)

def c_impl_LabelOk : C := (.seq (.reg false (.o 0 2 (.mov (.v (.bool false))) .done)) (.seq (.reg false (.o 0 3 (.mov (.t 0)) (.o 1 4 (.len (.t 3)) (.o 2 5 (.call 5 147 [(.t 4), (.i 1), (.i 15)]) (.o 3 6 (.mov (.t 5)) (.op 4 [] (some 7) (some (6, true)) false (.mov (.t 0)) (.op 5 [] (some 8) (some (6, true)) false (.call 8 255 [(.t 7), (.fn 256)]) (.o 6 9 (.pick (.t 6) (.t 8) (.v (.bool false))) (.o 7 2 (.mov (.t 9)) .done))))))))) .ret))
theorem dg_impl_LabelOk : Tryz.f179.body.bind (digC Tryz.prog Tryz.f179.ntmps []) = some c_impl_LabelOk := by kernel_rfl
theorem rs_impl_LabelOk : resSlots Tryz.prog Tryz.f179 = some [.s 2] := by kernel_rfl
theorem ok_impl_LabelOk (b : List UInt8) (hb : b.length ≤ 4194304) :
    FnOK Tryz.prog 179 [.one (.d (encB b))] (fun ra _ => ra = [.one (.d (.sc (.bool (labelOk b))))]) := by
  refine FnOK.ofK Tryz.func179 (by kernel_rfl) dg_impl_LabelOk rs_impl_LabelOk rfl rfl ?_
  delta c_impl_LabelOk T.o X.i
  refine kSeq (kReg (kMovC rfl (kDone (kSeq (kReg (kMovC rfl (kLenR rfl rfl (kCallD (ok_impl_within _ _ _) ⟨rfl, rfl, rfl, trivial⟩ rfl rfl rfl rfl rfl (kMovC rfl (kGP rfl (fun g0 => kGT rfl (kMovC rfl (kGT rfl ?_))) (fun g0 => kGF rfl (kGF rfl (kPickF rfl (kMovC rfl (kMovC rfl (kDone (kRet (endRetA (ra := [.one (.d _)]) rfl ?_))))))))))))))))))
  · refine kCall1 true (ok_impl_all_byte (b.map fun b : UInt8 => .sc (.int .u8 b.toNat)) is8 (fun x => okLetter (dec8 x)) (by simp; omega) (fun x hx => by obtain ⟨c, _, rfl⟩ := List.mem_map.1 hx; exact ⟨c, rfl⟩)) ⟨congrArg some (encB_lst b), ⟨rfl, rfl, ⟨_, Tryz.func256, rfl, by kernel_rfl⟩, ?_⟩, trivial⟩ rfl rfl rfl (fun _ => ?_)
    · rintro _ R ⟨x, ⟨c, rfl⟩, rfl, rfl⟩
      have := ok_impl_LabelOk_1 c
      simp only [dec8_enc]
      exact this
    refine kPickT rfl (kMovC rfl (kMovC rfl (kDone (kRet (endRetA (ra := [.one (.d _)]) rfl ?_)))))
    rw [all_dec8, show labelOk b = b.all okLetter by simp only [labelOk]; rw [decide_eq_true (by omega), decide_eq_true (by omega)]; rfl]
  · rw [show labelOk b = false by simp only [labelOk]; rw [show (decide (1 ≤ b.length) && decide (b.length ≤ 15)) = false by simp; omega]; rfl]

def c_impl_all_Lbyte_1 : C := (.seq (.reg false (.o 0 3 (.mov (.v (.bool false))) .done)) (.seq (.reg false (.o 0 4 (.load none (.t 1)) (.o 1 5 (.mov (.t 0)) (.o 2 6 (.callv 6 (.t 4) [(.t 5)]) (.o 3 7 (.un .not (.t 6)) (.o 4 3 (.mov (.t 7)) .done)))))) .ret))
theorem dg_impl_all_Lbyte_1 : Tryz.f254.body.bind (digC Tryz.prog Tryz.f254.ntmps []) = some c_impl_all_Lbyte_1 := by kernel_rfl
theorem rs_impl_all_Lbyte_1 : resSlots Tryz.prog Tryz.f254 = some [.s 3] := by kernel_rfl
theorem ok_impl_all_Lbyte_1 (x : DV) (D : DV → Prop) (g : DV → Bool) (hx : D x) :
    FnOK Tryz.prog 254 [.one (.d x), .one (.ptr [.fv false (fcPred D g)])] (fun ra _ => ra = [.one (.d (.sc (.bool (!g x))))]) := by
  refine FnOK.ofK Tryz.func254 (by kernel_rfl) dg_impl_all_Lbyte_1 rs_impl_all_Lbyte_1 rfl rfl ?_
  delta c_impl_all_Lbyte_1 T.o X.i
  refine kSeq (kReg (kMovC rfl (kDone ?_)))
  refine kSeq (kReg (kLoadC rfl rfl (kMovC rfl (kCallv rfl ⟨x, hx, rfl, rfl⟩ ⟨rfl, trivial⟩ (.inr ?_) rfl ?_ rfl ?_))))
  · rintro _ rfl; rfl
  · rintro _ rfl; exact leb
  rintro _ rfl
  refine kUn rfl rfl (kMovC rfl (kDone (kRet ?_)))
  exact endRet (ra := [.one (.d _)]) rfl ⟨⟨⟨rfl, .inl rfl⟩, trivial⟩, .nil, trivial, trivial, trivial⟩ rfl

def c_slices_IndexFunc_LLbyte_Lbyte : C := (.seq (.reg false (.o 0 4 (.mov (.i 0)) .done)) (.seq (.seq (.reg false (.o 0 6 (.mov (.t 0)) (.o 1 7 (.len (.t 6)) (.o 2 8 (.mov (.i 0)) .done)))) (.block 0 (.loop (.seq (.reg false (.o 0 9 (.bin .lss (.t 8) (.t 7)) .done)) (.seq (.cond (.t 9) .skip (.exit 0)) (.seq (.block 1 (.seq (.reg false (.o 0 10 (.mov (.t 8)) (.o 1 5 (.mov (.t 10)) .done))) (.seq (.reg false (.o 0 11 (.mov (.t 1)) (.o 1 12 (.mov (.t 0)) (.o 2 13 (.mov (.t 5)) (.o 3 14 (.iad 1 (.t 12) (.t 13)) (.o 4 15 (.load none (.t 14)) (.o 5 16 (.callv 16 (.t 11) [(.t 15)]) .done))))))) (.cond (.t 16) (.seq (.reg false (.o 0 17 (.mov (.t 5)) (.o 1 4 (.mov (.t 17)) .done))) .ret) .skip)))) (.reg false (.o 0 18 (.bin .add (.t 8) (.i 1)) (.o 1 8 (.mov (.t 18)) .done))))))))) (.seq (.reg false (.o 0 4 (.mov (.i (-1))) .done)) .ret)))
theorem dg_slices_IndexFunc_LLbyte_Lbyte : Tryz.f290.body.bind (digC Tryz.prog Tryz.f290.ntmps []) = some c_slices_IndexFunc_LLbyte_Lbyte := by kernel_rfl
theorem rs_slices_IndexFunc_LLbyte_Lbyte : resSlots Tryz.prog Tryz.f290 = some [.s 4] := by kernel_rfl
theorem ok_slices_IndexFunc_LLbyte_Lbyte (l : List DV) (D : DV → Prop) (g : DV → Bool) (hl : (l.length : Int) ≤ 9223372036854775807) (hD : ∀ x ∈ l, D x) :
    FnOK Tryz.prog 290 [.one (.d (lst l)), .one (.fv false (fcPred D g))] (fun ra _ => ra = [.one (.d (.sc (.int .i64 (idxF g l))))]) := by
  refine FnOK.ofK Tryz.func290 (by kernel_rfl) dg_slices_IndexFunc_LLbyte_Lbyte rs_slices_IndexFunc_LLbyte_Lbyte rfl rfl ?_
  delta c_slices_IndexFunc_LLbyte_Lbyte T.o X.i
  refine kSeq (kReg (kMovC rfl (kDone ?_)))
  refine kSeq (kSeq (kReg (kMovC rfl (kLen rfl rfl rfl (kMovC rfl (kDone (kBlock ?_)))))))
  rw [len_lst]
  refine kLoop (α := { i : Nat // i ≤ l.length ∧ ∀ x ∈ l.take i, g x = false })
    (fun y => ⟨tabSl [(0, .dv (lst l)), (1, .c (.fv false (fcPred D g))), (7, .i l.length), (8, .i y.1)], (St.init [.one (.d (lst l)), .one (.fv false (fcPred D g))]).ob, []⟩) (fun y => l.length - y.1) ⟨0, by simp⟩
    (.tab rfl ⟨.refl _, .refl _, .refl _, .refl _, trivial⟩) ?_
  rintro ⟨i, hi, hg⟩
  simp only
  refine kSeq (kReg (kBin rfl rfl rfl (kDone ?_)))
  refine kSeq (kCond rfl (fun h1 => ?_) (fun h1 => ?_))
  · have hlt : i < l.length := by simp at h1; omega
    refine kSkip (kSeq (kBlock (kSeq (kReg (kMovC rfl (kMovC rfl (kDone ?_)))))))
    refine kSeq (kReg (kMovC rfl (kMovC rfl (kMovC rfl (kIadD rfl rfl rfl rfl ?_ ?_)))))
    · rw [len_lst]; omega
    rw [show (lst l).row (i : Int).toNat = [l[i]] from row_lst l i hlt]
    refine kLoadD rfl rfl (kCallv rfl ⟨l[i], hD _ (List.getElem_mem hlt), rfl, rfl⟩ ⟨rfl, trivial⟩ (.inr ?_) rfl ?_ rfl ?_)
    · rintro _ rfl; rfl
    · rintro _ rfl; exact leb
    rintro _ rfl
    refine kDone (kCond rfl (fun h2 => ?_) (fun h2 => ?_))
    · refine kSeq (kReg (kMovC rfl (kMovC rfl (kDone (kRet ?_)))))
      refine endRet (ra := [.one (.d _)]) rfl ⟨⟨⟨rfl, .inl rfl⟩, trivial⟩, .nil, trivial, trivial, trivial⟩ ?_
      have : l.findIdx? g = some i := by
        rw [List.findIdx?_eq_some_iff_getElem]
        refine ⟨hlt, h2, fun j hj => ?_⟩
        simpa using hg _ (by rw [List.mem_take_iff_getElem]; exact ⟨j, by omega, rfl⟩)
      simp [idxF, this]
    · refine kSkip (kBk (kReg (kAdd rfl rfl ?_ (kMovC rfl (kDone (kInv ?_))))))
      · omega
      refine ⟨⟨i + 1, hlt, ?_⟩, by simp only; omega, .tab rfl ⟨.refl _, .refl _, .refl _, .refl _, trivial⟩⟩
      intro x hx
      rw [← List.take_append_getElem hlt, List.mem_append] at hx
      rcases hx with hx | hx
      · exact hg x hx
      · simp at hx; rw [hx]; exact h2
  · refine kExit (kExC (kExI (kExB ?_)))
    have hge : i = l.length := by simp at h1; omega
    refine kSeq (kReg (kMovC rfl (kDone (kRet ?_))))
    refine endRet (ra := [.one (.d _)]) rfl ⟨⟨⟨rfl, .inl rfl⟩, trivial⟩, .nil, trivial, trivial, trivial⟩ ?_
    have : l.findIdx? g = none := by
      rw [List.findIdx?_eq_none_iff]
      intro x hx
      rw [hge, List.take_length] at hg
      exact hg x hx
    simp [idxF, this]

def c_slices_ContainsFunc_LLbyte_Lbyte : C := (.seq (.reg false (.o 0 4 (.mov (.v (.bool false))) .done)) (.seq (.reg false (.o 0 5 (.mov (.t 0)) (.o 1 6 (.mov (.t 1)) (.o 2 7 (.call 7 290 [(.t 5), (.t 6)]) (.o 3 8 (.bin .geq (.t 7) (.i 0)) (.o 4 4 (.mov (.t 8)) .done)))))) .ret))
theorem dg_slices_ContainsFunc_LLbyte_Lbyte : Tryz.f253.body.bind (digC Tryz.prog Tryz.f253.ntmps []) = some c_slices_ContainsFunc_LLbyte_Lbyte := by kernel_rfl
theorem rs_slices_ContainsFunc_LLbyte_Lbyte : resSlots Tryz.prog Tryz.f253 = some [.s 4] := by kernel_rfl
theorem ok_slices_ContainsFunc_LLbyte_Lbyte (l : List DV) (D : DV → Prop) (g : DV → Bool) (hl : (l.length : Int) ≤ 9223372036854775807) (hD : ∀ x ∈ l, D x) :
    FnOK Tryz.prog 253 [.one (.d (lst l)), .one (.fv false (fcPred D g))] (fun ra _ => ra = [.one (.d (.sc (.bool (l.any g))))]) := by
  refine FnOK.ofK Tryz.func253 (by kernel_rfl) dg_slices_ContainsFunc_LLbyte_Lbyte rs_slices_ContainsFunc_LLbyte_Lbyte rfl rfl ?_
  delta c_slices_ContainsFunc_LLbyte_Lbyte T.o X.i
  refine kSeq (kReg (kMovC rfl (kDone ?_)))
  refine kSeq (kReg (kMovC rfl (kMovC rfl ?_)))
  refine kCall1 true (ok_slices_IndexFunc_LLbyte_Lbyte l D g hl hD) ⟨rfl, ⟨fun h => h, fun _ _ h => h⟩, trivial⟩ rfl rfl rfl fun os => ?_
  refine kBin rfl rfl rfl (kMovC rfl (kDone (kRet ?_)))
  refine endRet (ra := [.one (.d _)]) rfl ⟨⟨⟨rfl, .inl rfl⟩, trivial⟩, .nil, trivial, trivial, trivial⟩ ?_
  have : decide (idxF g l ≥ 0) = l.any g := by
    unfold idxF
    cases h : l.findIdx? g with
    | none =>
      rw [List.findIdx?_eq_none_iff] at h
      have : l.any g = false := by rw [List.any_eq_false]; intro x hx; simp [h x hx]
      rw [this]; rfl
    | some i =>
      rw [List.findIdx?_eq_some_iff_getElem] at h
      obtain ⟨h1, h2, _⟩ := h
      have : l.any g = true := by rw [List.any_eq_true]; exact ⟨_, List.getElem_mem h1, h2⟩
      rw [this]; simp
  rw [this]

def c_impl_all_Lbyte : C := (.seq (.reg false (.o 0 3 (.box 3 (.t 1)) (.o 1 4 (.mov (.v (.bool false))) .done))) (.seq (.reg false (.o 0 5 (.mov (.t 0)) (.o 1 6 (.clo 254 [] [(.t 3)]) (.o 2 7 (.call 7 253 [(.t 5), (.t 6)]) (.o 3 8 (.un .not (.t 7)) (.o 4 4 (.mov (.t 8)) .done)))))) .ret))
theorem dg_impl_all_Lbyte : Tryz.f178.body.bind (digC Tryz.prog Tryz.f178.ntmps []) = some c_impl_all_Lbyte := by kernel_rfl
theorem rs_impl_all_Lbyte : resSlots Tryz.prog Tryz.f178 = some [.s 4] := by kernel_rfl
theorem ok_impl_all_Lbyte (l : List DV) (D : DV → Prop) (g : DV → Bool) (hl : (l.length : Int) ≤ 9223372036854775807) (hD : ∀ x ∈ l, D x) :
    FnOK Tryz.prog 178 [.one (.d (lst l)), .one (.fv false (fcPred D g))] (fun ra _ => ra = [.one (.d (.sc (.bool (l.all g))))]) := by
  refine FnOK.ofK Tryz.func178 (by kernel_rfl) dg_impl_all_Lbyte rs_impl_all_Lbyte rfl rfl ?_
  delta c_impl_all_Lbyte T.o X.i
  refine kSeq (kReg (kBox rfl rfl rfl rfl rfl (kMovC rfl (kDone ?_))))
  refine kSeq (kReg (kMovC rfl (kClo rfl rfl ?_)))
  refine kCall1 true (ok_slices_ContainsFunc_LLbyte_Lbyte l D (fun x => !g x) hl hD) ⟨rfl, ⟨rfl, ⟨_, Tryz.func254, rfl, by kernel_rfl⟩, _, rfl, ?_⟩, trivial⟩ rfl rfl rfl fun os => ?_
  · rintro l R ⟨x, hx, rfl, rfl⟩
    exact ⟨by rintro _ rfl; rfl, ok_impl_all_Lbyte_1 x D g hx⟩
  refine kUn rfl rfl (kMovC rfl (kDone (kRet ?_)))
  refine endRet (ra := [.one (.d _)]) rfl ⟨⟨⟨rfl, .inl rfl⟩, trivial⟩, .nil, trivial, trivial, trivial⟩ ?_
  simp [List.all_eq_not_any_not]

def c_impl_NameOk : C := (.seq (.reg false (.o 0 1 (.box 1 (.t 0)) (.o 1 2 (.mov (.v (.bool false))) .done))) (.seq (.reg false (.o 0 3 (.fad (.t 1) 0) (.o 1 4 (.load none (.t 3)) (.o 2 5 (.len (.t 4)) (.o 3 6 (.bin .leq (.t 5) (.i 6)) (.o 4 7 (.mov (.t 6)) (.op 5 [] (some 8) (some (7, true)) false (.fad (.t 1) 0) (.op 6 [] (some 9) (some (7, true)) false (.load none (.t 8)) (.op 7 [] (some 10) (some (7, true)) false (.call 10 178 [(.t 9), (.fn 179)]) (.o 8 11 (.pick (.t 7) (.t 10) (.v (.bool false))) (.o 9 2 (.mov (.t 11)) .done))))))))))) .ret))
theorem dg_impl_NameOk : Tryz.f72.body.bind (digC Tryz.prog Tryz.f72.ntmps []) = some c_impl_NameOk := by kernel_rfl
theorem rs_impl_NameOk : resSlots Tryz.prog Tryz.f72 = some [.s 2] := by kernel_rfl
theorem ok_impl_NameOk (a : List (List UInt8)) (ha : a.length ≤ 4194304) (hb : ∀ b ∈ a, b.length ≤ 4194304) :
    FnOK Tryz.prog 72 [.agg [.d (encBB a)]] (fun ra _ => ra = [.one (.d (.sc (.bool (nameOk a))))]) := by
  refine FnOK.ofK Tryz.func72 (by kernel_rfl) dg_impl_NameOk rs_impl_NameOk rfl rfl ?_
  delta c_impl_NameOk T.o X.i
  refine kSeq (kReg (kBox rfl rfl rfl rfl rfl (kMovC rfl (kDone (kSeq (kReg (kFadP rfl rfl (kLoadP rfl rfl rfl (kLenR rfl rfl (kBin rfl rfl rfl (kMovC rfl (kGP rfl (fun g0 => kGT rfl (kFadP rfl rfl (kGT rfl (kLoadP rfl rfl rfl (kGT rfl ?_))))) (fun g0 => kGF rfl (kGF rfl (kGF rfl (kPickF rfl (kMovC rfl (kMovC rfl (kDone (kRet (endRetA (ra := [.one (.d _)]) rfl ?_)))))))))))))))))))))
  · refine kCall1 true (ok_impl_all_Lbyte (a.map encB) (fun x => ∃ b : List UInt8, x = encB b ∧ b.length ≤ 4194304) (fun x => labelOk (decB x)) (by simp; omega) (fun x hx => by obtain ⟨c, h, rfl⟩ := List.mem_map.1 hx; exact ⟨c, rfl, hb c h⟩)) ⟨congrArg some (encBB_lst a), ⟨rfl, rfl, ⟨_, Tryz.func179, rfl, by kernel_rfl⟩, ?_⟩, trivial⟩ rfl rfl rfl (fun _ => ?_)
    · rintro _ R ⟨x, ⟨c, rfl, h⟩, rfl, rfl⟩
      have := ok_impl_LabelOk c h
      simp only [decB_enc]
      exact this
    refine kPickT rfl (kMovC rfl (kMovC rfl (kDone (kRet (endRetA (ra := [.one (.d _)]) rfl ?_)))))
    rw [all_decB, show nameOk a = a.all labelOk by simp only [nameOk]; rw [decide_eq_true (by omega)]; rfl]
  · rw [show nameOk a = false by simp only [nameOk]; rw [decide_eq_false (by omega)]; rfl]

/-- What a type is called. -/
def typeTab : List (Int × ByteArray) := [(1, ⟨#[65]⟩), (2, ⟨#[78, 83]⟩), (5, ⟨#[67, 78, 65, 77, 69]⟩), (6, ⟨#[83, 79, 65]⟩), (12, ⟨#[80, 84, 82]⟩), (16, ⟨#[84, 88, 84]⟩), (49, ⟨#[68, 72, 67, 73, 68]⟩)]
def typeNm (n : Int) : ByteArray := ((typeTab.find? fun e => n == e.1).map (·.2)).getD ByteArray.empty
theorem ok_impl_typeName (n : Int) : FnOK Tryz.prog 241 [.one (.d (.sc (.int .i64 n)))] (fun ra _ => ra = [.one (.d (.sc (.string (typeNm n))))]) := by
  refine FnOK.ofWalk Tryz.func241 rfl (by kernel_rfl) fun w => ?_
  have kk : Tryz.prog.underlying 3 = some (.int .i64) := by kernel_rfl
  have hmm := @Go.RowKit.run_makeMap Tryz.prog
  go_enter Tryz.func241, Tryz.ntmps241
  go_wp2
  have t0 : Tab (w.alloc (.map #[] 0)) w.heap.size [] := ⟨_, _, (MapKept.heap_alloc w _).1, rfl⟩
  have b0 : Go.RowKit.Below w.heap.size w (w.alloc (.map #[] 0)) := (Go.RowKit.Below.refl _ _).alloc (Nat.le_refl _) _
  have st : ∀ {w1 w2 : World}, Go.RowKit.Below w.heap.size w w1 → Ext w1 w2 (fun b => b = w.heap.size) → Go.RowKit.Below w.heap.size w w2 := fun h e => ⟨e.os.trans h.os, e.tape.trans h.tape, e.output.trans h.output, Nat.le_trans h.size e.size, fun k hk => (e.same k (Nat.lt_of_lt_of_le hk h.size) (by omega)).trans (h.block k hk)⟩
  refine upon_insert (kt := 3) (et := 9) ?_ kk t0 ?_ (fun w1 t1 e1 => ?_)
  · kernel_rfl
  · rfl
  have b1 := st b0 e1
  go_wp2
  refine upon_insert (kt := 3) (et := 9) ?_ kk t1 ?_ (fun w2 t2 e2 => ?_)
  · kernel_rfl
  · rfl
  have b2 := st b1 e2
  go_wp2
  refine upon_insert (kt := 3) (et := 9) ?_ kk t2 ?_ (fun w3 t3 e3 => ?_)
  · kernel_rfl
  · rfl
  have b3 := st b2 e3
  go_wp2
  refine upon_insert (kt := 3) (et := 9) ?_ kk t3 ?_ (fun w4 t4 e4 => ?_)
  · kernel_rfl
  · rfl
  have b4 := st b3 e4
  go_wp2
  refine upon_insert (kt := 3) (et := 9) ?_ kk t4 ?_ (fun w5 t5 e5 => ?_)
  · kernel_rfl
  · rfl
  have b5 := st b4 e5
  go_wp2
  refine upon_insert (kt := 3) (et := 9) ?_ kk t5 ?_ (fun w6 t6 e6 => ?_)
  · kernel_rfl
  · rfl
  have b6 := st b5 e6
  go_wp2
  refine upon_insert (kt := 3) (et := 9) ?_ kk t6 ?_ (fun w7 t7 e7 => ?_)
  · kernel_rfl
  · rfl
  have b7 := st b6 e7
  go_wp2
  refine upon_find (kt := 3) (et := 9) ?_ kk ?_ t7 ?_
  · kernel_rfl
  · rfl
  go_wp2
  all_goals go_ret
  exact ⟨rfl, b7⟩

theorem typeNm_ok (n : Int) : (!((typeNm n).toList == (⟨#[]⟩ : ByteArray).toList)) = tyOk n := by
  by_cases h1 : n = 1
  · subst h1; rw [ByteArray.toList_eq, ByteArray.toList_eq]; rfl
  by_cases h2 : n = 2
  · subst h2; rw [ByteArray.toList_eq, ByteArray.toList_eq]; rfl
  by_cases h3 : n = 5
  · subst h3; rw [ByteArray.toList_eq, ByteArray.toList_eq]; rfl
  by_cases h4 : n = 6
  · subst h4; rw [ByteArray.toList_eq, ByteArray.toList_eq]; rfl
  by_cases h5 : n = 12
  · subst h5; rw [ByteArray.toList_eq, ByteArray.toList_eq]; rfl
  by_cases h6 : n = 16
  · subst h6; rw [ByteArray.toList_eq, ByteArray.toList_eq]; rfl
  by_cases h7 : n = 49
  · subst h7; rw [ByteArray.toList_eq, ByteArray.toList_eq]; rfl
  have e : ∀ m : Int, n ≠ m → (n == m) = false := fun m h => by simpa using h
  have : typeNm n = ByteArray.empty := by
    unfold typeNm typeTab
    simp only [List.find?_cons, e 1 h1, e 2 h2, e 5 h3, e 6 h4, e 12 h5, e 16 h6, e 49 h7, List.find?_nil]
    rfl
  rw [this]
  simp only [tyOk, e 1 h1, e 2 h2, e 5 h3, e 6 h4, e 12 h5, e 16 h6, e 49 h7]
  rw [ByteArray.toList_eq, ByteArray.toList_eq]; rfl

def c_impl_TypeOk : C := (.seq (.reg false (.o 0 2 (.mov (.v (.bool false))) .done)) (.seq (.reg false (.o 0 3 (.mov (.t 0)) (.o 1 4 (.call 4 241 [(.t 3)]) (.o 2 5 (.bin .neq (.t 4) (.v (.string ⟨#[]⟩))) (.o 3 2 (.mov (.t 5)) .done))))) .ret))
theorem dg_impl_TypeOk : Tryz.f155.body.bind (digC Tryz.prog Tryz.f155.ntmps []) = some c_impl_TypeOk := by kernel_rfl
theorem rs_impl_TypeOk : resSlots Tryz.prog Tryz.f155 = some [.s 2] := by kernel_rfl
theorem ok_impl_TypeOk (n : Int) : FnOK Tryz.prog 155 [.one (.d (.sc (.int .i64 n)))] (fun ra _ => ra = [.one (.d (.sc (.bool (tyOk n))))]) := by
  rw [← typeNm_ok]
  refine FnOK.ofK Tryz.func155 (by kernel_rfl) dg_impl_TypeOk rs_impl_TypeOk rfl rfl ?_
  delta c_impl_TypeOk T.o X.i
  refine kSeq (kReg (kMovC rfl (kDone (kSeq (kReg (kMovC rfl (kCallD (ok_impl_typeName _) ⟨rfl, trivial⟩ rfl rfl rfl rfl rfl (kBin rfl rfl rfl (kMovC rfl (kDone (kRet (endRetA (ra := [.one (.d _)]) rfl rfl))))))))))))

def c_impl_isWord : C := (.seq (.reg false (.o 0 2 (.mov (.v (.bool false))) .done)) (.seq (.reg false (.o 0 3 (.mov (.t 0)) (.o 1 4 (.call 4 147 [(.t 3), (.i 0), (.i 4294967295)]) (.o 2 2 (.mov (.t 4)) .done)))) .ret))
theorem dg_impl_isWord : Tryz.f192.body.bind (digC Tryz.prog Tryz.f192.ntmps []) = some c_impl_isWord := by kernel_rfl
theorem rs_impl_isWord : resSlots Tryz.prog Tryz.f192 = some [.s 2] := by kernel_rfl
theorem ok_impl_isWord (n : Int) : FnOK Tryz.prog 192 [.one (.d (.sc (.int .i64 n)))] (fun ra _ => ra = [.one (.d (.sc (.bool (isW n))))]) := by
  refine FnOK.ofK Tryz.func192 (by kernel_rfl) dg_impl_isWord rs_impl_isWord rfl rfl ?_
  delta c_impl_isWord T.o X.i
  refine kSeq (kReg (kMovC rfl (kDone (kSeq (kReg (kMovC rfl (kCallD (ok_impl_within _ _ _) ⟨rfl, rfl, rfl, trivial⟩ rfl rfl rfl rfl rfl (kMovC rfl (kDone (kRet (endRetA (ra := [.one (.d _)]) rfl ?_)))))))))))
  rw [show isW n = decide (0 ≤ n ∧ n ≤ 4294967295) by unfold isW; rw [Bool.eq_iff_iff]; simp; omega]

def c_impl_hasTo : C := (.seq (.reg false (.o 0 2 (.mov (.v (.bool false))) .done)) (.seq (.reg false (.o 0 3 (.mov (.t 0)) (.o 1 4 (.bin .eql (.t 3) (.i 2)) (.o 2 5 (.mov (.t 4)) (.op 3 [] (some 6) (some (5, false)) false (.mov (.t 0)) (.op 4 [] (some 7) (some (5, false)) false (.bin .eql (.t 6) (.i 5)) (.o 5 8 (.pick (.t 5) (.v (.bool true)) (.t 7)) (.o 6 9 (.mov (.t 8)) (.op 7 [] (some 10) (some (9, false)) false (.mov (.t 0)) (.op 8 [] (some 11) (some (9, false)) false (.bin .eql (.t 10) (.i 6)) (.o 9 12 (.pick (.t 9) (.v (.bool true)) (.t 11)) (.o 10 13 (.mov (.t 12)) (.op 11 [] (some 14) (some (13, false)) false (.mov (.t 0)) (.op 12 [] (some 15) (some (13, false)) false (.bin .eql (.t 14) (.i 12)) (.o 13 16 (.pick (.t 13) (.v (.bool true)) (.t 15)) (.o 14 2 (.mov (.t 16)) .done)))))))))))))))) .ret))
theorem dg_impl_hasTo : Tryz.f193.body.bind (digC Tryz.prog Tryz.f193.ntmps []) = some c_impl_hasTo := by kernel_rfl
theorem rs_impl_hasTo : resSlots Tryz.prog Tryz.f193 = some [.s 2] := by kernel_rfl
theorem ok_impl_hasTo (n : Int) : FnOK Tryz.prog 193 [.one (.d (.sc (.int .i64 n)))] (fun ra _ => ra = [.one (.d (.sc (.bool (hasTo n))))]) := by
  refine FnOK.ofK Tryz.func193 (by kernel_rfl) dg_impl_hasTo rs_impl_hasTo rfl rfl ?_
  delta c_impl_hasTo T.o X.i
  refine kSeq (kReg (kMovC rfl (kDone (kSeq (kReg (kMovC rfl (kBin rfl rfl rfl (kMovC rfl (kGP rfl (fun g0 => kGF rfl (kGF rfl (kPickT rfl (kMovC rfl (kMovC rfl (kGF rfl (kGF rfl (kPickT rfl (kMovC rfl (kMovC rfl (kGF rfl (kGF rfl (kPickT rfl (kMovC rfl (kMovC rfl (kDone (kRet (endRetA (ra := [.one (.d _)]) rfl ?_)))))))))))))))))) (fun g0 => kGT rfl (kMovC rfl (kGT rfl (kBin rfl rfl rfl (kPickF rfl (kMovC rfl (kMovC rfl (kGP rfl (fun g1 => kGF rfl (kGF rfl (kPickT rfl (kMovC rfl (kMovC rfl (kGF rfl (kGF rfl (kPickT rfl (kMovC rfl (kMovC rfl (kDone (kRet (endRetA (ra := [.one (.d _)]) rfl ?_))))))))))))) (fun g1 => kGT rfl (kMovC rfl (kGT rfl (kBin rfl rfl rfl (kPickF rfl (kMovC rfl (kMovC rfl (kGP rfl (fun g2 => kGF rfl (kGF rfl (kPickT rfl (kMovC rfl (kMovC rfl (kDone (kRet (endRetA (ra := [.one (.d _)]) rfl ?_)))))))) (fun g2 => kGT rfl (kMovC rfl (kGT rfl (kBin rfl rfl rfl (kPickF rfl (kMovC rfl (kMovC rfl (kDone (kRet (endRetA (ra := [.one (.d _)]) rfl ?_)))))))))))))))))))))))))))))))))))
  all_goals simp_all [hasTo]

def c_impl_hasText : C := (.seq (.reg false (.o 0 2 (.mov (.v (.bool false))) .done)) (.seq (.reg false (.o 0 3 (.mov (.t 0)) (.o 1 4 (.bin .eql (.t 3) (.i 16)) (.o 2 5 (.mov (.t 4)) (.op 3 [] (some 6) (some (5, false)) false (.mov (.t 0)) (.op 4 [] (some 7) (some (5, false)) false (.bin .eql (.t 6) (.i 49)) (.o 5 8 (.pick (.t 5) (.v (.bool true)) (.t 7)) (.o 6 2 (.mov (.t 8)) .done)))))))) .ret))
theorem dg_impl_hasText : Tryz.f194.body.bind (digC Tryz.prog Tryz.f194.ntmps []) = some c_impl_hasText := by kernel_rfl
theorem rs_impl_hasText : resSlots Tryz.prog Tryz.f194 = some [.s 2] := by kernel_rfl
theorem ok_impl_hasText (n : Int) : FnOK Tryz.prog 194 [.one (.d (.sc (.int .i64 n)))] (fun ra _ => ra = [.one (.d (.sc (.bool (hasText n))))]) := by
  refine FnOK.ofK Tryz.func194 (by kernel_rfl) dg_impl_hasText rs_impl_hasText rfl rfl ?_
  delta c_impl_hasText T.o X.i
  refine kSeq (kReg (kMovC rfl (kDone (kSeq (kReg (kMovC rfl (kBin rfl rfl rfl (kMovC rfl (kGP rfl (fun g0 => kGF rfl (kGF rfl (kPickT rfl (kMovC rfl (kMovC rfl (kDone (kRet (endRetA (ra := [.one (.d _)]) rfl ?_)))))))) (fun g0 => kGT rfl (kMovC rfl (kGT rfl (kBin rfl rfl rfl (kPickF rfl (kMovC rfl (kMovC rfl (kDone (kRet (endRetA (ra := [.one (.d _)]) rfl ?_)))))))))))))))))))
  all_goals simp_all [hasText]

def c_impl_RrOk : C := (.seq (.reg false (.o 0 1 (.box 1 (.t 0)) (.o 1 2 (.mov (.v (.bool false))) .done))) (.seq (.seq (.reg false (.o 0 7 (.fad (.t 1) 0) (.o 1 8 (.load (some 1) (.t 7)) (.o 2 9 (.call 9 72 [(.t 8)]) (.o 3 10 (.un .not (.t 9)) (.o 4 11 (.mov (.t 10)) (.op 5 [] (some 12) (some (11, false)) false (.fad (.t 1) 1) (.op 6 [] (some 13) (some (11, false)) false (.load none (.t 12)) (.op 7 [] (some 14) (some (11, false)) false (.call 14 155 [(.t 13)]) (.op 8 [] (some 15) (some (11, false)) false (.un .not (.t 14)) (.o 9 16 (.pick (.t 11) (.v (.bool true)) (.t 15)) (.o 10 17 (.mov (.t 16)) (.op 11 [] (some 18) (some (17, false)) false (.fad (.t 1) 2) (.op 12 [] (some 19) (some (17, false)) false (.load none (.t 18)) (.op 13 [] (some 20) (some (17, false)) false (.call 20 147 [(.t 19), (.i 0), (.i 100000)]) (.op 14 [] (some 21) (some (17, false)) false (.un .not (.t 20)) (.o 15 22 (.pick (.t 17) (.v (.bool true)) (.t 21)) .done))))))))))))))))) (.cond (.t 22) (.seq (.reg false (.o 0 2 (.mov (.v (.bool false))) .done)) .ret) .skip)) (.seq (.reg false (.o 0 23 (.fad (.t 1) 6) (.o 1 24 (.load none (.t 23)) (.o 2 25 (.len (.t 24)) (.o 3 26 (.bin .eql (.t 25) (.i 0)) (.o 4 3 (.mov (.t 26)) .done)))))) (.seq (.seq (.reg false (.o 0 27 (.fad (.t 1) 1) (.o 1 28 (.load none (.t 27)) (.o 2 29 (.bin .eql (.t 28) (.i 6)) .done)))) (.cond (.t 29) (.reg false (.o 0 30 (.fad (.t 1) 6) (.o 1 31 (.load none (.t 30)) (.o 2 32 (.len (.t 31)) (.o 3 33 (.bin .eql (.t 32) (.i 2)) (.o 4 34 (.mov (.t 33)) (.op 5 [] (some 35) (some (34, true)) false (.fad (.t 1) 6) (.op 6 [] (some 36) (some (34, true)) false (.load none (.t 35)) (.op 7 [] (some 37) (some (34, true)) false (.iad 1 (.t 36) (.i 0)) (.op 8 [] (some 38) (some (34, true)) false (.load none (.t 37)) (.op 9 [] (some 39) (some (34, true)) false (.call 39 192 [(.t 38)]) (.o 10 40 (.pick (.t 34) (.t 39) (.v (.bool false))) (.o 11 41 (.mov (.t 40)) (.op 12 [] (some 42) (some (41, true)) false (.fad (.t 1) 6) (.op 13 [] (some 43) (some (41, true)) false (.load none (.t 42)) (.op 14 [] (some 44) (some (41, true)) false (.iad 1 (.t 43) (.i 1)) (.op 15 [] (some 45) (some (41, true)) false (.load none (.t 44)) (.op 16 [] (some 46) (some (41, true)) false (.call 46 147 [(.t 45), (.i 0), (.i 100000)]) (.o 17 47 (.pick (.t 41) (.t 46) (.v (.bool false))) (.o 18 3 (.mov (.t 47)) .done)))))))))))))))))))) .skip)) (.seq (.reg false (.o 0 48 (.fad (.t 1) 3) (.o 1 49 (.load none (.t 48)) (.o 2 50 (.bin .eql (.t 49) (.i 0)) (.o 3 51 (.mov (.t 50)) (.op 4 [] (some 52) (some (51, false)) false (.fad (.t 1) 1) (.op 5 [] (some 53) (some (51, false)) false (.load none (.t 52)) (.op 6 [] (some 54) (some (51, false)) false (.bin .eql (.t 53) (.i 1)) (.op 7 [] (some 55) (some (51, false)) false (.mov (.t 54)) (.op 8 [] (some 56) (some (55, true)) false (.fad (.t 1) 3) (.op 9 [] (some 57) (some (55, true)) false (.load none (.t 56)) (.op 10 [] (some 58) (some (55, true)) false (.call 58 192 [(.t 57)]) (.op 11 [] (some 59) (some (51, false)) false (.pick (.t 55) (.t 58) (.v (.bool false))) (.o 12 60 (.pick (.t 51) (.v (.bool true)) (.t 59)) (.o 13 4 (.mov (.t 60)) .done))))))))))))))) (.seq (.reg false (.o 0 61 (.fad (.t 1) 4) (.o 1 62 (.fad (.t 61) 0) (.o 2 63 (.load none (.t 62)) (.o 3 64 (.len (.t 63)) (.o 4 65 (.bin .eql (.t 64) (.i 0)) (.o 5 66 (.mov (.t 65)) (.op 6 [] (some 67) (some (66, false)) false (.fad (.t 1) 1) (.op 7 [] (some 68) (some (66, false)) false (.load none (.t 67)) (.op 8 [] (some 69) (some (66, false)) false (.call 69 193 [(.t 68)]) (.op 9 [] (some 70) (some (66, false)) false (.mov (.t 69)) (.op 10 [] (some 71) (some (70, true)) false (.fad (.t 1) 4) (.op 11 [] (some 72) (some (70, true)) false (.load (some 1) (.t 71)) (.op 12 [] (some 73) (some (70, true)) false (.call 73 72 [(.t 72)]) (.op 13 [] (some 74) (some (66, false)) false (.pick (.t 70) (.t 73) (.v (.bool false))) (.o 14 75 (.pick (.t 66) (.v (.bool true)) (.t 74)) (.o 15 5 (.mov (.t 75)) .done))))))))))))))))) (.seq (.reg false (.o 0 76 (.fad (.t 1) 5) (.o 1 77 (.load none (.t 76)) (.o 2 78 (.len (.t 77)) (.o 3 79 (.bin .eql (.t 78) (.i 0)) (.o 4 80 (.mov (.t 79)) (.op 5 [] (some 81) (some (80, false)) false (.fad (.t 1) 1) (.op 6 [] (some 82) (some (80, false)) false (.load none (.t 81)) (.op 7 [] (some 83) (some (80, false)) false (.call 83 194 [(.t 82)]) (.op 8 [] (some 84) (some (80, false)) false (.mov (.t 83)) (.op 9 [] (some 85) (some (84, true)) false (.fad (.t 1) 5) (.op 10 [] (some 86) (some (84, true)) false (.load none (.t 85)) (.op 11 [] (some 87) (some (84, true)) false (.len (.t 86)) (.op 12 [] (some 88) (some (84, true)) false (.bin .leq (.t 87) (.i 40)) (.op 13 [] (some 89) (some (80, false)) false (.pick (.t 84) (.t 88) (.v (.bool false))) (.o 14 90 (.pick (.t 80) (.v (.bool true)) (.t 89)) (.o 15 6 (.mov (.t 90)) .done))))))))))))))))) (.seq (.reg false (.o 0 91 (.mov (.t 3)) (.o 1 92 (.mov (.t 91)) (.op 2 [] (some 93) (some (92, true)) false (.mov (.t 4)) (.o 3 94 (.pick (.t 92) (.t 93) (.v (.bool false))) (.o 4 95 (.mov (.t 94)) (.op 5 [] (some 96) (some (95, true)) false (.mov (.t 5)) (.o 6 97 (.pick (.t 95) (.t 96) (.v (.bool false))) (.o 7 98 (.mov (.t 97)) (.op 8 [] (some 99) (some (98, true)) false (.mov (.t 6)) (.o 9 100 (.pick (.t 98) (.t 99) (.v (.bool false))) (.o 10 2 (.mov (.t 100)) .done)))))))))))) .ret))))))))
theorem dg_impl_RrOk : Tryz.f88.body.bind (digC Tryz.prog Tryz.f88.ntmps []) = some c_impl_RrOk := by kernel_rfl
theorem rs_impl_RrOk : resSlots Tryz.prog Tryz.f88 = some [.s 2] := by kernel_rfl
theorem ok_impl_RrOk (r : Rr) (hs : SmallR r) :
    FnOK Tryz.prog 88 [.agg (r.cells.map .d)] (fun ra _ => ra = [.one (.d (.sc (.bool (rrOk r))))]) := by
  refine FnOK.ofK Tryz.func88 (by kernel_rfl) dg_impl_RrOk rs_impl_RrOk rfl rfl ?_
  delta c_impl_RrOk T.o X.i
  have n1 := hs.n.len
  have n2 := hs.n.mem
  have t1 := hs.t.len
  have t2 := hs.t.mem
  have x1 := hs.x
  have m1 := hs.m
  refine kSeq (kReg (kBox rfl rfl rfl rfl rfl (kMovC rfl (kDone ?_))))
  by_cases h0 : nameOk r.name = true ∧ tyOk r.ty = true ∧ (0 ≤ r.ttl ∧ r.ttl ≤ 100000)
  case neg =>
    rw [show rrOk r = false by simp only [rrOk]; revert h0; cases nameOk r.name <;> cases tyOk r.ty <;> simp <;> intros <;> omega]
    refine kSeq ?_
    cases h1 : nameOk r.name
    case false => refine kSeq (kReg (kFadP rfl rfl (kLoadP rfl rfl rfl (kCallD (ok_impl_NameOk _ pr pr) ⟨⟨⟨rfl, trivial⟩, leb⟩, trivial⟩ rfl rfl rfl rfl rfl (kUn rfl rfl (kMovC rfl (kGN rfl (fun g0 => kGF rfl (kGF rfl (kGF rfl (kGF rfl (kPickT rfl (kMovC rfl (kMovC rfl (kGF rfl (kGF rfl (kGF rfl (kGF rfl (kPickT rfl (kMovC rfl (kDone (kCondT rfl (kSeq (kReg (kMovC rfl (kDone (kRet (endRetA (ra := [.one (.d _)]) rfl rfl))))))))))))))))))))) (fun g0 => (by (simp [*] at g0))))))))))
    cases h2 : tyOk r.ty
    case false => refine kSeq (kReg (kFadP rfl rfl (kLoadP rfl rfl rfl (kCallD (ok_impl_NameOk _ pr pr) ⟨⟨⟨rfl, trivial⟩, leb⟩, trivial⟩ rfl rfl rfl rfl rfl (kUn rfl rfl (kMovC rfl (kGN rfl (fun g0 => (by (simp [*] at g0))) (fun g0 => kGT rfl (kFadP rfl rfl (kGT rfl (kLoadP rfl rfl rfl (kGT rfl (kCallD (ok_impl_TypeOk _) ⟨rfl, trivial⟩ rfl rfl rfl rfl rfl (kGT rfl (kUn rfl rfl (kPickF rfl (kMovC rfl (kMovC rfl (kGN rfl (fun g1 => kGF rfl (kGF rfl (kGF rfl (kGF rfl (kPickT rfl (kMovC rfl (kDone (kCondT rfl (kSeq (kReg (kMovC rfl (kDone (kRet (endRetA (ra := [.one (.d _)]) rfl rfl)))))))))))))) (fun g1 => (by (simp [*] at g1))))))))))))))))))))))
    have h3 : ¬ (0 ≤ r.ttl ∧ r.ttl ≤ 100000) := fun h => h0 ⟨h1, h2, h⟩
    refine kSeq (kReg (kFadP rfl rfl (kLoadP rfl rfl rfl (kCallD (ok_impl_NameOk _ pr pr) ⟨⟨⟨rfl, trivial⟩, leb⟩, trivial⟩ rfl rfl rfl rfl rfl (kUn rfl rfl (kMovC rfl (kGN rfl (fun g0 => (by (simp [*] at g0))) (fun g0 => kGT rfl (kFadP rfl rfl (kGT rfl (kLoadP rfl rfl rfl (kGT rfl (kCallD (ok_impl_TypeOk _) ⟨rfl, trivial⟩ rfl rfl rfl rfl rfl (kGT rfl (kUn rfl rfl (kPickF rfl (kMovC rfl (kMovC rfl (kGN rfl (fun g1 => (by (simp [*] at g1))) (fun g1 => kGT rfl (kFadP rfl rfl (kGT rfl (kLoadP rfl rfl rfl (kGT rfl (kCallD (ok_impl_within _ _ _) ⟨rfl, rfl, rfl, trivial⟩ rfl rfl rfl rfl rfl (kGT rfl (kUn rfl rfl (kPickF rfl (kMovC rfl (kDone (kCondN rfl (fun g2 => kSeq (kReg (kMovC rfl (kDone (kRet (endRetA (ra := [.one (.d _)]) rfl rfl)))))) (fun g2 => (by (simp [*] at g2))))))))))))))))))))))))))))))))))
  obtain ⟨h1, h2, h3⟩ := h0
  rw [show rrOk r = dataOk r by simp only [rrOk]; rw [h1, h2, decide_eq_true h3.1, decide_eq_true h3.2]; rfl]
  refine kSeq (kCut ⟨tabSl [(1, .c (.ptr (rid 1 0) 1 0))], obTab 1 [(rid 1 0, ⟨1, 0, .box (r.cells.map .d)⟩)], []⟩ ?_ (fun x hc => ?_))
  case refine_2 =>
    refine kSeq (kReg (kFadP rfl rfl (kLoadP rfl rfl rfl (kCallD (ok_impl_NameOk _ pr pr) ⟨⟨⟨rfl, trivial⟩, leb⟩, trivial⟩ rfl rfl rfl rfl rfl (kUn rfl rfl (kMovC rfl (kGN rfl (fun g0 => (by (simp [*] at g0))) (fun g0 => kGT rfl (kFadP rfl rfl (kGT rfl (kLoadP rfl rfl rfl (kGT rfl (kCallD (ok_impl_TypeOk _) ⟨rfl, trivial⟩ rfl rfl rfl rfl rfl (kGT rfl (kUn rfl rfl (kPickF rfl (kMovC rfl (kMovC rfl (kGN rfl (fun g1 => (by (simp [*] at g1))) (fun g1 => kGT rfl (kFadP rfl rfl (kGT rfl (kLoadP rfl rfl rfl (kGT rfl (kCallD (ok_impl_within _ _ _) ⟨rfl, rfl, rfl, trivial⟩ rfl rfl rfl rfl rfl (kGT rfl (kUn rfl rfl (kPickF rfl (kMovC rfl (kDone (kCondN rfl (fun g2 => (by (simp [*] at g2))) (fun g2 => kSkip (hc _ .normA)))))))))))))))))))))))))))))))))
  refine kSeq (kCut ⟨tabSl [(1, .c (.ptr (rid 1 0) 1 0)), (3, .b (((r.nums.length : Int) == 0)))], obTab 1 [(rid 1 0, ⟨1, 0, .box (r.cells.map .d)⟩)], []⟩ ?_ (fun x hc => ?_))
  case refine_2 => refine kReg (kFadP rfl rfl (kLoadP rfl rfl rfl (kLenR rfl rfl (kBin rfl rfl rfl (kMovC rfl (kDone (hc _ .normA)))))))
  refine kSeq (kCut ⟨tabSl [(1, .c (.ptr (rid 1 0) 1 0)), (3, .b ((if r.ty == 6 then numsOk r.nums else ((r.nums.length : Int) == 0))))], obTab 1 [(rid 1 0, ⟨1, 0, .box (r.cells.map .d)⟩)], []⟩ ?_ (fun x hc => ?_))
  case refine_2 =>
    refine kSeq (kReg (kFadP rfl rfl (kLoadP rfl rfl rfl (kBin rfl rfl rfl (kDone (kCondP rfl (fun g0 => kReg (kFadP rfl rfl (kLoadP rfl rfl rfl (kLenR rfl rfl (kBin rfl rfl rfl (kMovC rfl (kGP rfl (fun g1 => kGT rfl (kFadP rfl rfl (kGT rfl (kLoadP rfl rfl rfl (kGT rfl (kIadR rfl rfl rfl (by omega) (kGT rfl (kLoadD rfl rfl (kGT rfl (kCallD (ok_impl_isWord _) ⟨rfl, trivial⟩ rfl rfl rfl rfl rfl (kPickT rfl (kMovC rfl (kMovC rfl (kGS rfl (fun g2 => kGT rfl (kFadP rfl rfl (kGT rfl (kLoadP rfl rfl rfl (kGT rfl (kIadR rfl rfl rfl (by omega) (kGT rfl (kLoadD rfl rfl (kGT rfl (kCallD (ok_impl_within _ _ _) ⟨rfl, rfl, rfl, trivial⟩ rfl rfl rfl rfl rfl (kPickT rfl (kMovC rfl (kMovC rfl (kDone (hc _ .normA))))))))))))))) (fun g2 => kGF rfl (kGF rfl (kGF rfl (kGF rfl (kGF rfl (kPickF rfl (kMovC rfl (kMovC rfl (kDone (hc _ .normA)))))))))))))))))))))))) (fun g1 => kGF rfl (kGF rfl (kGF rfl (kGF rfl (kGF rfl (kPickF rfl (kMovC rfl (kMovC rfl (kGF rfl (kGF rfl (kGF rfl (kGF rfl (kGF rfl (kPickF rfl (kMovC rfl (kMovC rfl (kDone (hc _ .normA))))))))))))))))))))))))) (fun g0 => kSkip (hc _ .normA))))))))
  refine kSeq (kCut ⟨tabSl [(1, .c (.ptr (rid 1 0) 1 0)), (3, .b ((if r.ty == 6 then numsOk r.nums else ((r.nums.length : Int) == 0)))), (4, .b ((if r.ty == 1 then isW r.addr else r.addr == 0)))], obTab 1 [(rid 1 0, ⟨1, 0, .box (r.cells.map .d)⟩)], []⟩ ?_ (fun x hc => ?_))
  case refine_2 =>
    refine kReg (kFadP rfl rfl (kLoadP rfl rfl rfl (kBin rfl rfl rfl (kMovC rfl (kGP rfl (fun g0 => kGF rfl (kGF rfl (kGF rfl (kGF rfl (kGU rfl (kGU rfl (kGU rfl (kGF rfl (kPickT rfl (kMovC rfl (kMovC rfl (kDone (hc _ .normA))))))))))))) (fun g0 => kGT rfl (kFadP rfl rfl (kGT rfl (kLoadP rfl rfl rfl (kGT rfl (kBin rfl rfl rfl (kGT rfl (kMovC rfl (kGP rfl (fun g1 => kGT rfl (kFadP rfl rfl (kGT rfl (kLoadP rfl rfl rfl (kGT rfl (kCallD (ok_impl_isWord _) ⟨rfl, trivial⟩ rfl rfl rfl rfl rfl (kGT rfl (kPickT rfl (kMovC rfl (kPickF rfl (kMovC rfl (kMovC rfl (kDone (hc _ .normA)))))))))))))) (fun g1 => kGF rfl (kGF rfl (kGF rfl (kGT rfl (kPickF rfl (kMovC rfl (kPickF rfl (kMovC rfl (kMovC rfl (kDone (hc _ .normA)))))))))))))))))))))))))
  refine kSeq (kCut ⟨tabSl [(1, .c (.ptr (rid 1 0) 1 0)), (3, .b ((if r.ty == 6 then numsOk r.nums else ((r.nums.length : Int) == 0)))), (4, .b ((if r.ty == 1 then isW r.addr else r.addr == 0))), (5, .b ((if hasTo r.ty then nameOk r.to else ((r.to.length : Int) == 0))))], obTab 1 [(rid 1 0, ⟨1, 0, .box (r.cells.map .d)⟩)], []⟩ ?_ (fun x hc => ?_))
  case refine_2 =>
    refine kReg (kFadP rfl rfl (kFadP rfl rfl (kLoadP rfl rfl rfl (kLenR rfl rfl (kBin rfl rfl rfl (kMovC rfl (kGP rfl (fun g0 => kGF rfl (kGF rfl (kGF rfl (kGF rfl (kGU rfl (kGU rfl (kGU rfl (kGF rfl (kPickT rfl (kMovC rfl (kMovC rfl (kDone (hc _ .normA))))))))))))) (fun g0 => kGT rfl (kFadP rfl rfl (kGT rfl (kLoadP rfl rfl rfl (kGT rfl (kCallD (ok_impl_hasTo _) ⟨rfl, trivial⟩ rfl rfl rfl rfl rfl (kGT rfl (kMovC rfl (kGS rfl (fun g1 => kGT rfl (kFadP rfl rfl (kGT rfl (kLoadP rfl rfl rfl (kGT rfl (kCallD (ok_impl_NameOk _ pr pr) ⟨⟨⟨rfl, trivial⟩, leb⟩, trivial⟩ rfl rfl rfl rfl rfl (kGT rfl (kPickT rfl (kMovC rfl (kPickF rfl (kMovC rfl (kMovC rfl (kDone (hc _ .normA)))))))))))))) (fun g1 => kGF rfl (kGF rfl (kGF rfl (kGT rfl (kPickF rfl (kMovC rfl (kPickF rfl (kMovC rfl (kMovC rfl (kDone (hc _ .normA)))))))))))))))))))))))))))
  refine kSeq (kCut ⟨tabSl [(1, .c (.ptr (rid 1 0) 1 0)), (3, .b ((if r.ty == 6 then numsOk r.nums else ((r.nums.length : Int) == 0)))), (4, .b ((if r.ty == 1 then isW r.addr else r.addr == 0))), (5, .b ((if hasTo r.ty then nameOk r.to else ((r.to.length : Int) == 0)))), (6, .b ((if hasText r.ty then decide ((r.text.length : Int) ≤ 40) else ((r.text.length : Int) == 0))))], obTab 1 [(rid 1 0, ⟨1, 0, .box (r.cells.map .d)⟩)], []⟩ ?_ (fun x hc => ?_))
  case refine_2 =>
    refine kReg (kFadP rfl rfl (kLoadP rfl rfl rfl (kLenR rfl rfl (kBin rfl rfl rfl (kMovC rfl (kGP rfl (fun g0 => kGF rfl (kGF rfl (kGF rfl (kGF rfl (kGU rfl (kGU rfl (kGU rfl (kGU rfl (kGF rfl (kPickT rfl (kMovC rfl (kMovC rfl (kDone (hc _ .normA)))))))))))))) (fun g0 => kGT rfl (kFadP rfl rfl (kGT rfl (kLoadP rfl rfl rfl (kGT rfl (kCallD (ok_impl_hasText _) ⟨rfl, trivial⟩ rfl rfl rfl rfl rfl (kGT rfl (kMovC rfl (kGS rfl (fun g1 => kGT rfl (kFadP rfl rfl (kGT rfl (kLoadP rfl rfl rfl (kGT rfl (kLenR rfl rfl (kGT rfl (kBin rfl rfl rfl (kGT rfl (kPickT rfl (kMovC rfl (kPickF rfl (kMovC rfl (kMovC rfl (kDone (hc _ .normA)))))))))))))))) (fun g1 => kGF rfl (kGF rfl (kGF rfl (kGF rfl (kGT rfl (kPickF rfl (kMovC rfl (kPickF rfl (kMovC rfl (kMovC rfl (kDone (hc _ .normA)))))))))))))))))))))))))))
  refine kSeq (kReg (kMovC rfl (kMovC rfl (kGS rfl (fun g0 => kGT rfl (kMovC rfl (kPickT rfl (kMovC rfl (kMovC rfl (kGS rfl (fun g1 => kGT rfl (kMovC rfl (kPickT rfl (kMovC rfl (kMovC rfl (kGS rfl (fun g2 => kGT rfl (kMovC rfl (kPickT rfl (kMovC rfl (kMovC rfl (kDone (kRet (endRetA (ra := [.one (.d _)]) rfl ?_)))))))) (fun g2 => kGF rfl (kPickF rfl (kMovC rfl (kMovC rfl (kDone (kRet (endRetA (ra := [.one (.d _)]) rfl ?_))))))))))))) (fun g1 => kGF rfl (kPickF rfl (kMovC rfl (kMovC rfl (kGF rfl (kPickF rfl (kMovC rfl (kMovC rfl (kDone (kRet (endRetA (ra := [.one (.d _)]) rfl ?_))))))))))))))))) (fun g0 => kGF rfl (kPickF rfl (kMovC rfl (kMovC rfl (kGF rfl (kPickF rfl (kMovC rfl (kMovC rfl (kGF rfl (kPickF rfl (kMovC rfl (kMovC rfl (kDone (kRet (endRetA (ra := [.one (.d _)]) rfl ?_)))))))))))))))))))
  all_goals simp only [dataOk, *, Bool.true_and, Bool.false_and, Bool.and_true, Bool.and_false]

def c_impl_all_impl_Rr_1 : C := (.seq (.reg false (.o 0 2 (.box 2 (.t 0)) (.o 1 3 (.mov (.v (.bool false))) .done))) (.seq (.reg false (.o 0 4 (.load none (.t 1)) (.o 1 5 (.load (some 7) (.t 2)) (.o 2 6 (.callv 6 (.t 4) [(.t 5)]) (.o 3 7 (.un .not (.t 6)) (.o 4 3 (.mov (.t 7)) .done)))))) .ret))
theorem dg_impl_all_impl_Rr_1 : Tryz.f191.body.bind (digC Tryz.prog Tryz.f191.ntmps []) = some c_impl_all_impl_Rr_1 := by kernel_rfl
theorem rs_impl_all_impl_Rr_1 : resSlots Tryz.prog Tryz.f191 = some [.s 3] := by kernel_rfl
theorem ok_impl_all_impl_Rr_1 (x : Rr) (D : Rr → Prop) (g : Rr → Bool) (hx : D x) :
    FnOK Tryz.prog 191 [.agg (x.cells.map .d), .one (.ptr [.fv false (fcAgg D Rr.cells g)])] (fun ra _ => ra = [.one (.d (.sc (.bool (!g x))))]) := by
  refine FnOK.ofK Tryz.func191 (by kernel_rfl) dg_impl_all_impl_Rr_1 rs_impl_all_impl_Rr_1 rfl rfl ?_
  delta c_impl_all_impl_Rr_1 T.o X.i
  refine kSeq (kReg (kBox rfl rfl rfl rfl rfl (kMovC rfl (kDone (kSeq (kReg (kLoadC rfl rfl (kLoadP rfl rfl rfl ?_))))))))
  refine kCallv rfl ⟨x, hx, rfl, rfl⟩ ⟨⟨⟨rfl, rfl, rfl, rfl, rfl, rfl, rfl, trivial⟩, leb⟩, trivial⟩ (.inr ?_) rfl ?_ rfl ?_
  · rintro _ rfl; rfl
  · rintro _ rfl; exact leb
  rintro _ rfl
  refine kUn rfl rfl (kMovC rfl (kDone (kRet (endRetA (ra := [.one (.d _)]) rfl rfl))))

def c_slices_IndexFunc_Limpl_Rr_impl_Rr : C := (.seq (.reg false (.o 0 4 (.mov (.i 0)) .done)) (.seq (.seq (.reg false (.o 0 6 (.mov (.t 0)) (.o 1 7 (.len (.t 6)) (.o 2 8 (.mov (.i 0)) .done)))) (.block 0 (.loop (.seq (.reg false (.o 0 9 (.bin .lss (.t 8) (.t 7)) .done)) (.seq (.cond (.t 9) .skip (.exit 0)) (.seq (.block 1 (.seq (.reg false (.o 0 10 (.mov (.t 8)) (.o 1 5 (.mov (.t 10)) .done))) (.seq (.reg false (.o 0 11 (.mov (.t 1)) (.o 1 12 (.mov (.t 0)) (.o 2 13 (.mov (.t 5)) (.o 3 14 (.iad 7 (.t 12) (.t 13)) (.o 4 15 (.load (some 7) (.t 14)) (.o 5 16 (.callv 16 (.t 11) [(.t 15)]) .done))))))) (.cond (.t 16) (.seq (.reg false (.o 0 17 (.mov (.t 5)) (.o 1 4 (.mov (.t 17)) .done))) .ret) .skip)))) (.reg false (.o 0 18 (.bin .add (.t 8) (.i 1)) (.o 1 8 (.mov (.t 18)) .done))))))))) (.seq (.reg false (.o 0 4 (.mov (.i (-1))) .done)) .ret)))
theorem dg_slices_IndexFunc_Limpl_Rr_impl_Rr : Tryz.f261.body.bind (digC Tryz.prog Tryz.f261.ntmps []) = some c_slices_IndexFunc_Limpl_Rr_impl_Rr := by kernel_rfl
theorem rs_slices_IndexFunc_Limpl_Rr_impl_Rr : resSlots Tryz.prog Tryz.f261 = some [.s 4] := by kernel_rfl
theorem ok_slices_IndexFunc_Limpl_Rr_impl_Rr (l : List Rr) (D : Rr → Prop) (g : Rr → Bool) (hl : l.length ≤ 4194304) (hD : ∀ x ∈ l, D x) :
    FnOK Tryz.prog 261 [.one (.d (encR l)), .one (.fv false (fcAgg D Rr.cells g))] (fun ra _ => ra = [.one (.d (.sc (.int .i64 (idx g l))))]) := by
  refine FnOK.ofK Tryz.func261 (by kernel_rfl) dg_slices_IndexFunc_Limpl_Rr_impl_Rr rs_slices_IndexFunc_Limpl_Rr_impl_Rr rfl rfl ?_
  delta c_slices_IndexFunc_Limpl_Rr_impl_Rr T.o X.i
  refine kSeq (kReg (kMovC rfl (kDone (kSeq (kSeq (kReg (kMovC rfl (kLenR rfl rfl (kMovC rfl (kDone (kBlock ?_)))))))))))
  refine kLoop (α := { i : Nat // i ≤ l.length ∧ ∀ x ∈ l.take i, g x = false })
    (fun y => ⟨tabSl [(0, .dv (encR l)), (1, .c (.fv false (fcAgg D Rr.cells g))), (7, .i l.length), (8, .i y.1)], obTab 1 [], []⟩) (fun y => l.length - y.1) ⟨0, by simp⟩
    .normA ?_
  rintro ⟨i, hi, hg⟩
  simp only
  rcases Nat.lt_or_ge i l.length with hlt | hge
  · refine kSeq (kReg (kBin rfl rfl rfl (kDone (kSeq (kCondP rfl (fun g0 => kSkip (kSeq (kBlock (kSeq (kReg (kMovC rfl (kMovC rfl (kDone (kSeq (kReg (kMovC rfl (kMovC rfl (kMovC rfl (kIadR rfl rfl rfl (by omega) (kLoadD rfl rfl ?_))))))))))))))) (fun g0 => (by omega)))))))
    refine kCallv rfl ⟨l[i], hD _ (List.getElem_mem hlt), rfl, rfl⟩ ⟨⟨⟨rfl, rfl, rfl, rfl, rfl, rfl, rfl, trivial⟩, leb⟩, trivial⟩ (.inr ?_) rfl ?_ rfl ?_
    · rintro _ rfl; rfl
    · rintro _ rfl; exact leb
    rintro _ rfl
    refine kDone (kCond rfl (fun g0 => kSeq (kReg (kMovC rfl (kMovC rfl (kDone (kRet (endRetA (ra := [.one (.d _)]) rfl ?_))))))) (fun g0 => kSkip (kBk (kReg (kAdd rfl rfl (by omega) (kMovC rfl (kDone ?_)))))))
    · have : l.findIdx? g = some i := by
        rw [List.findIdx?_eq_some_iff_getElem]
        refine ⟨hlt, by assumption, fun j hj => ?_⟩
        simpa using hg _ (by rw [List.mem_take_iff_getElem]; exact ⟨j, by omega, rfl⟩)
      simp [idx, this]
    · refine kInv ⟨⟨i + 1, hlt, ?_⟩, by simp only; omega, .normA⟩
      intro x hx
      rw [← List.take_append_getElem hlt, List.mem_append] at hx
      rcases hx with hx | hx
      · exact hg x hx
      · simp at hx; rw [hx]; assumption
  · refine kSeq (kReg (kBin rfl rfl rfl (kDone (kSeq (kCondP rfl (fun g0 => (by omega)) (fun g0 => kExit (kExC (kExI (kExB (kSeq (kReg (kMovC rfl (kDone (kRet (endRetA (ra := [.one (.d _)]) rfl ?_)))))))))))))))
    have : l.findIdx? g = none := by
      rw [List.findIdx?_eq_none_iff]
      intro x hx
      rw [show i = l.length by omega, List.take_length] at hg
      exact hg x hx
    simp [idx, this]

def c_slices_ContainsFunc_Limpl_Rr_impl_Rr : C := (.seq (.reg false (.o 0 4 (.mov (.v (.bool false))) .done)) (.seq (.reg false (.o 0 5 (.mov (.t 0)) (.o 1 6 (.mov (.t 1)) (.o 2 7 (.call 7 261 [(.t 5), (.t 6)]) (.o 3 8 (.bin .geq (.t 7) (.i 0)) (.o 4 4 (.mov (.t 8)) .done)))))) .ret))
theorem dg_slices_ContainsFunc_Limpl_Rr_impl_Rr : Tryz.f190.body.bind (digC Tryz.prog Tryz.f190.ntmps []) = some c_slices_ContainsFunc_Limpl_Rr_impl_Rr := by kernel_rfl
theorem rs_slices_ContainsFunc_Limpl_Rr_impl_Rr : resSlots Tryz.prog Tryz.f190 = some [.s 4] := by kernel_rfl
theorem ok_slices_ContainsFunc_Limpl_Rr_impl_Rr (l : List Rr) (D : Rr → Prop) (g : Rr → Bool) (hl : l.length ≤ 4194304) (hD : ∀ x ∈ l, D x) :
    FnOK Tryz.prog 190 [.one (.d (encR l)), .one (.fv false (fcAgg D Rr.cells g))] (fun ra _ => ra = [.one (.d (.sc (.bool (l.any g))))]) := by
  refine FnOK.ofK Tryz.func190 (by kernel_rfl) dg_slices_ContainsFunc_Limpl_Rr_impl_Rr rs_slices_ContainsFunc_Limpl_Rr_impl_Rr rfl rfl ?_
  delta c_slices_ContainsFunc_Limpl_Rr_impl_Rr T.o X.i
  refine kSeq (kReg (kMovC rfl (kDone (kSeq (kReg (kMovC rfl (kMovC rfl ?_)))))))
  refine kCall1 true (ok_slices_IndexFunc_Limpl_Rr_impl_Rr l D g hl hD) ⟨rfl, ⟨fun h => h, fun _ _ h => h⟩, trivial⟩ rfl rfl rfl fun os => ?_
  rw [← idx_ge g l]
  refine kBin rfl rfl rfl (kMovC rfl (kDone (kRet (endRetA (ra := [.one (.d _)]) rfl rfl))))

def c_impl_all_impl_Rr : C := (.seq (.reg false (.o 0 3 (.box 3 (.t 1)) (.o 1 4 (.mov (.v (.bool false))) .done))) (.seq (.reg false (.o 0 5 (.mov (.t 0)) (.o 1 6 (.clo 191 [] [(.t 3)]) (.o 2 7 (.call 7 190 [(.t 5), (.t 6)]) (.o 3 8 (.un .not (.t 7)) (.o 4 4 (.mov (.t 8)) .done)))))) .ret))
theorem dg_impl_all_impl_Rr : Tryz.f87.body.bind (digC Tryz.prog Tryz.f87.ntmps []) = some c_impl_all_impl_Rr := by kernel_rfl
theorem rs_impl_all_impl_Rr : resSlots Tryz.prog Tryz.f87 = some [.s 4] := by kernel_rfl
theorem ok_impl_all_impl_Rr (l : List Rr) (D : Rr → Prop) (g : Rr → Bool) (hl : l.length ≤ 4194304) (hD : ∀ x ∈ l, D x) :
    FnOK Tryz.prog 87 [.one (.d (encR l)), .one (.fv false (fcAgg D Rr.cells g))] (fun ra _ => ra = [.one (.d (.sc (.bool (l.all g))))]) := by
  refine FnOK.ofK Tryz.func87 (by kernel_rfl) dg_impl_all_impl_Rr rs_impl_all_impl_Rr rfl rfl ?_
  delta c_impl_all_impl_Rr T.o X.i
  refine kSeq (kReg (kBox rfl rfl rfl rfl rfl (kMovC rfl (kDone (kSeq (kReg (kMovC rfl (kClo rfl rfl ?_))))))))
  refine kCall1 true (ok_slices_ContainsFunc_Limpl_Rr_impl_Rr l D (fun x => !g x) hl hD) ⟨rfl, ⟨rfl, ⟨_, Tryz.func191, rfl, by kernel_rfl⟩, _, rfl, ?_⟩, trivial⟩ rfl rfl rfl fun os => ?_
  · rintro _ R ⟨x, hx, rfl, rfl⟩
    exact ⟨by rintro _ rfl; rfl, ok_impl_all_impl_Rr_1 x D g hx⟩
  rw [List.all_eq_not_any_not]
  refine kUn rfl rfl (kMovC rfl (kDone (kRet (endRetA (ra := [.one (.d _)]) rfl rfl))))

theorem ok_bytes_Compare (a b : List UInt8) : FnOK Tryz.prog 198 [.one (.d (encB a)), .one (.d (encB b))] (fun ra _ => ra = [.one (.d (.sc (.int .i64 (cmpB a b))))]) := by
  refine FnOK.ofWalkB Tryz.func198 rfl (by kernel_rfl) fun w va vb h1 h2 => ?_
  have hc := run_compare (P := Tryz.prog) (w := w) (va := va) (vb := vb) Tryz.func264 (by kernel_rfl) rfl (by kernel_rfl) (by kernel_rfl) h1 h2
  go_enter Tryz.func198, Tryz.ntmps198
  go_wp2
  all_goals go_ret
  exact ⟨rfl, Go.RowKit.Below.refl _ _⟩

def c_cmp_isNaN_int : C := (.seq (.reg false (.o 0 2 (.mov (.v (.bool false))) .done)) (.seq (.reg false (.o 0 3 (.mov (.t 0)) (.o 1 4 (.mov (.t 0)) (.o 2 5 (.bin .neq (.t 3) (.t 4)) (.o 3 2 (.mov (.t 5)) .done))))) .ret))
theorem dg_cmp_isNaN_int : Tryz.f263.body.bind (digC Tryz.prog Tryz.f263.ntmps []) = some c_cmp_isNaN_int := by kernel_rfl
theorem rs_cmp_isNaN_int : resSlots Tryz.prog Tryz.f263 = some [.s 2] := by kernel_rfl
theorem ok_cmp_isNaN_int (a : Int) :
    FnOK Tryz.prog 263 [.one (.d (.sc (.int .i64 a)))] (fun ra _ => ra = [.one (.d (.sc (.bool false)))]) := by
  refine FnOK.ofK Tryz.func263 (by kernel_rfl) dg_cmp_isNaN_int rs_cmp_isNaN_int rfl rfl ?_
  delta c_cmp_isNaN_int T.o X.i
  refine kSeq (kReg (kMovC rfl (kDone (kSeq (kReg (kMovC rfl (kMovC rfl (kBin rfl rfl rfl (kMovC rfl (kDone (kRet (endRetA (ra := [.one (.d _)]) rfl ?_))))))))))))
  rw [show (a != a) = false by simp]

end Go.Proofs.YtbmagbgdpmgbmaaGreat.FnExactHouseNewFn
