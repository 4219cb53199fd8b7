/- What the functions that FnNameTexts reaches compute, one contract each; each with the bounds that it states. -/
import Derived.Test.YtmlmepnmnoddpaaDoorHearth3
import Derived.Test.YtmlmepnmnoddpaaDoorProg
import Derived.KernelRfl
set_option maxRecDepth 100000
set_option maxHeartbeats 8000000
set_option linter.unusedVariables false
set_option linter.unusedSimpArgs false
namespace Go.Proofs.YtmlmepnmnoddpaaDoor.FnNameTextsFn
open Go Hearth Go.Proofs

def c_spec_l1New : C := (.seq (.reg false (.o 0 2 (.mov (.v (.pointer none))) .done)) (.seq (.reg false (.o 0 5 (.mov (.t 0)) (.o 1 6 (.len (.t 5)) (.o 2 7 (.bin .add (.i 42222) (.t 6)) (.o 3 3 (.mov (.t 7)) .done))))) (.seq (.seq (.reg false (.o 0 4 (.mov (.i 0)) .done)) (.block 0 (.loop (.seq (.seq (.reg false (.o 0 8 (.mov (.t 4)) (.o 1 9 (.mov (.t 0)) (.o 2 10 (.len (.t 9)) (.o 3 11 (.bin .lss (.t 8) (.t 10)) (.o 4 12 (.mov (.t 11)) (.op 5 [] (some 13) (some (12, true)) false (.mov (.t 4)) (.op 6 [] (some 14) (some (12, true)) false (.bin .lss (.t 13) (.i 4000)) (.o 7 15 (.pick (.t 12) (.t 14) (.v (.bool false))) .done))))))))) (.cond (.t 15) .skip (.exit 0))) (.seq (.block 1 (.reg false (.o 0 18 (.mov (.t 3)) (.o 1 19 (.bin .mul (.t 18) (.i 131)) (.o 2 20 (.mov (.t 0)) (.o 3 21 (.mov (.t 4)) (.o 4 22 (.iad 1 (.t 20) (.t 21)) (.o 5 23 (.load none (.t 22)) (.o 6 24 (.conv .i64 (.t 23)) (.o 7 25 (.bin .add (.t 19) (.t 24)) (.o 8 26 (.bin .add (.t 25) (.i 7)) (.o 9 27 (.bin .and (.t 26) (.i 1073741823)) (.o 10 3 (.mov (.t 27)) .done))))))))))))) (.reg false (.o 0 16 (.mov (.t 4)) (.o 1 17 (.bin .add (.t 16) (.i 1)) (.o 2 4 (.mov (.t 17)) .done))))))))) (.seq (.reg false (.o 0 28 (.mov (.t 0)) (.o 1 29 (.mov (.t 3)) (.o 2 30 (.build [(.n 1), (.i 0), (.i 0)] [(0, 1, (.t 28)), (2, 1, (.t 29))]) (.o 3 31 (.box 31 (.t 30)) (.o 4 2 (.mov (.t 31)) .done)))))) .ret))))
theorem dg_spec_l1New : Tryd.f39.body.bind (digC Tryd.prog Tryd.f39.ntmps []) = some c_spec_l1New := by kernel_rfl
theorem rs_spec_l1New : resSlots Tryd.prog Tryd.f39 = some [.s 2] := by kernel_rfl
theorem ok_spec_l1New (code : List UInt8) (hb : (code.length : Int) ≤ 9223372036854775807) :
    FnOK Tryd.prog 39 [.one (.d (encB code))] (fun ra _ => ∃ c : Cu, True ∧ ra = [.one (.box c.cells)]) := by
  refine FnOK.ofK Tryd.func39 (by kernel_rfl) dg_spec_l1New rs_spec_l1New rfl rfl ?_
  delta c_spec_l1New T.o X.i
  refine kSeq (kReg (kMovC rfl (kDone (kSeq (kReg (kMovC rfl (kLenR rfl rfl (kBin rfl rfl rfl (kMovC rfl (kDone (kSeq (kSeq (kReg (kMovC rfl (kDone (kBlock ?_))))))))))))))))
  refine kLoop (α := { i : Nat // i ≤ code.length } × Int) (fun y => ⟨tabSl [(0, .dv (encB code)), (3, .i y.2), (4, .i y.1.1)], obTab 1 [], []⟩) (fun y => code.length - y.1.1) (⟨0, by simp⟩, _) .normA ?_
  rintro ⟨⟨i, hi⟩, h⟩
  simp only
  rcases Nat.lt_or_ge i code.length with hlt | hge
  · refine kSeq (kSeq (kReg (kMovC rfl (kMovC rfl (kLenR rfl rfl (kBin rfl rfl rfl (kMovC rfl (kGP rfl (fun g0 => kGT rfl (kMovC rfl (kGT rfl (kBin rfl rfl rfl (kPickT rfl (kMovC rfl (kDone (kCondP rfl (fun g1 => kSkip (kSeq (kBlock (kReg (kMovC rfl (kBin rfl rfl rfl (kMovC rfl (kMovC rfl (kIadR rfl rfl rfl (by omega) (kLoadD rfl rfl (kConv rfl (kBin rfl rfl rfl (kBin rfl rfl rfl (kBin rfl rfl rfl (kMovC rfl (kDone (kBk (kReg (kMovC rfl (kAdd rfl rfl (by omega) (kMovC rfl (kDone ?_)))))))))))))))))))))) (fun g1 => kExit (kExC (kExI (kExB (kSeq (kReg (kMovC rfl (kMovC rfl (kBuildG rfl (kBox rfl rfl rfl rfl rfl (kMovC rfl (kDone (kRet (endRetA (ra := [.one (.box [_, _, _])]) rfl ?_)))))))))))))))))))))) (fun g0 => (by omega))))))))))
    · exact kInv ⟨(⟨i + 1, by omega⟩, _), by simp only; omega, .normA⟩
    · exact ⟨⟨code, 0, h, by omega, by omega, hb⟩, trivial, rfl⟩
  · refine kSeq (kSeq (kReg (kMovC rfl (kMovC rfl (kLenR rfl rfl (kBin rfl rfl rfl (kMovC rfl (kGP rfl (fun g0 => (by omega)) (fun g0 => kGF rfl (kGF rfl (kPickF rfl (kMovC rfl (kDone (kCondF rfl (kExit (kExC (kExI (kExB (kSeq (kReg (kMovC rfl (kMovC rfl (kBuildG rfl (kBox rfl rfl rfl rfl rfl (kMovC rfl (kDone (kRet (endRetA (ra := [.one (.box [_, _, _])]) rfl ?_))))))))))))))))))))))))))))
    exact ⟨⟨code, 0, h, by omega, by omega, hb⟩, trivial, rfl⟩

def c_spec_Lower : C := (.seq (.reg false (.o 0 2 (.mov (.n 1)) .done)) (.seq (.reg false (.o 0 5 (.lit 5 1 [(.v (.int .u8 0))] 0 []) (.o 1 6 (.mov (.t 0)) (.o 2 7 (.app 7 1 1 (.t 5) (.t 6)) (.o 3 3 (.mov (.t 7)) .done))))) (.seq (.seq (.reg false (.o 0 4 (.mov (.i 0)) .done)) (.block 0 (.loop (.seq (.seq (.reg false (.o 0 8 (.mov (.t 4)) (.o 1 9 (.mov (.t 3)) (.o 2 10 (.len (.t 9)) (.o 3 11 (.bin .lss (.t 8) (.t 10)) .done))))) (.cond (.t 11) .skip (.exit 0))) (.seq (.block 1 (.seq (.reg false (.o 0 14 (.mov (.t 3)) (.o 1 15 (.mov (.t 4)) (.o 2 16 (.iad 1 (.t 14) (.t 15)) (.o 3 17 (.load none (.t 16)) (.o 4 18 (.bin .geq (.t 17) (.v (.int .u8 65))) (.o 5 19 (.mov (.t 18)) (.op 6 [] (some 20) (some (19, true)) false (.mov (.t 3)) (.op 7 [] (some 21) (some (19, true)) false (.mov (.t 4)) (.op 8 [] (some 22) (some (19, true)) false (.iad 1 (.t 20) (.t 21)) (.op 9 [] (some 23) (some (19, true)) false (.load none (.t 22)) (.op 10 [] (some 24) (some (19, true)) false (.bin .leq (.t 23) (.v (.int .u8 90))) (.o 11 25 (.pick (.t 19) (.t 24) (.v (.bool false))) .done))))))))))))) (.cond (.t 25) (.reg false (.o 0 26 (.mov (.t 3)) (.o 1 27 (.mov (.t 4)) (.o 2 28 (.mov (.t 3)) (.o 3 29 (.mov (.t 4)) (.o 4 30 (.iad 1 (.t 28) (.t 29)) (.o 5 31 (.load none (.t 30)) (.o 6 32 (.bin .add (.t 31) (.v (.int .u8 32))) (.o 7 33 (.iad 1 (.t 26) (.t 27)) (.op 8 [] none none false (.store none (.t 33) (.t 32)) .done)))))))))) .skip))) (.reg false (.o 0 12 (.mov (.t 4)) (.o 1 13 (.bin .add (.t 12) (.i 1)) (.o 2 4 (.mov (.t 13)) .done))))))))) (.seq (.reg false (.o 0 34 (.mov (.t 3)) (.o 1 2 (.mov (.t 34)) .done))) .ret))))
theorem dg_spec_Lower : Tryd.f30.body.bind (digC Tryd.prog Tryd.f30.ntmps []) = some c_spec_Lower := by kernel_rfl
theorem rs_spec_Lower : resSlots Tryd.prog Tryd.f30 = some [.s 2] := by kernel_rfl
theorem ok_spec_Lower (b : List UInt8) (hb : b.length ≤ 4194304) :
    FnOK Tryd.prog 30 [.one (.d (encB b))] (fun ra _ => ra = [.one (.own true (encB (lowerB b)))]) := by
  refine FnOK.ofK Tryd.func30 (by kernel_rfl) dg_spec_Lower rs_spec_Lower rfl rfl ?_
  delta c_spec_Lower T.o X.i
  refine kSeq (kReg (kMovC rfl (kDone (kSeq (kReg (kLit rfl rfl rfl rfl (kMovC rfl (kAppN rfl rfl rfl (src_encB _ _) rfl rfl rfl rfl (by omega) (kMovC rfl (kDone (kSeq (kSeq (kReg (kMovC rfl (kDone (kBlock ?_))))))))))))))))
  refine kLoop (α := { i : Nat // i ≤ b.length }) (fun y => ⟨tabSl [(3, .c (.arr (rid 5 0) 1)), (4, .i y.1)], obTab 1 [(rid 5 0, ⟨1, 0, .arr true (encB (lowerB (b.take y.1) ++ b.drop y.1))⟩)], []⟩) (fun y => b.length - y.1) ⟨0, by simp⟩ .normA ?_
  rintro ⟨i, hi⟩
  simp only
  have hlen : (lowerB (b.take i) ++ b.drop i).length = b.length := by simp [lowerB]; omega
  rcases Nat.lt_or_ge i b.length with hlt | hge
  · have hget : (lowerB (b.take i) ++ b.drop i)[i]? = some b[i] := by
      rw [List.getElem?_append_right (by simp [lowerB]; omega)]; simp [lowerB, Nat.min_eq_left hi]
    have hst : ∀ c, c = lowC b[i] → (lowerB (b.take i) ++ b.drop i).set i c = lowerB (b.take (i + 1)) ++ b.drop (i + 1) := by
      rintro c rfl
      rw [take_set_succ _ _ _ _ hlt (by simp [lowerB]; omega)]
      unfold lowerB
      rw [← List.take_append_getElem hlt, List.map_append]
      rfl
    revert hget hst hlen
    generalize lowerB (b.take i) ++ b.drop i = L
    intro hlen hget hst
    have hiL : i < L.length := by omega
    have hg : L[i] = b[i] := by rw [List.getElem?_eq_getElem hiL] at hget; simpa using hget
    have hw : IntKind.u8.wrap (((L[i]).toNat : Int) + 32) = ((L[i] + 32 : UInt8).toNat : Int) := by
      have := (L[i]).toNat_lt
      simp [IntKind.wrap, IntKind.bits, IntKind.signed, UInt8.toNat_add]
    have hno : (¬ ((L[i]).toNat : Int) ≥ 65 ∨ ¬ ((L[i]).toNat : Int) ≤ 90) → L = lowerB (b.take (i + 1)) ++ b.drop (i + 1) := by
      intro h
      rw [← hst L[i] (by
        rw [hg] at h ⊢
        unfold lowC
        rw [if_neg]
        rintro ⟨h1, h2⟩
        have h1 := UInt8.le_iff_toNat_le.1 h1
        have h2 := UInt8.le_iff_toNat_le.1 h2
        simp at h1 h2
        omega)]
      simp
    refine kSeq (kSeq (kReg (kMovC rfl (kMovC rfl (kLenR rfl rfl (kBin rfl rfl rfl (kDone (kCondP rfl (fun g0 => kSkip (kSeq (kBlock (kSeq (kReg (kMovC rfl (kMovC rfl (kIadAR rfl rfl rfl rfl (by omega) (kLoadER rfl rfl (by omega) rfl (kBin rfl rfl rfl (kMovC rfl (kGP rfl (fun g1 => (kGT rfl (kMovC rfl (kGT rfl (kMovC rfl (kGT rfl (kIadAR rfl rfl rfl rfl (by omega) (kGT rfl (kLoadER rfl rfl (by omega) rfl (kGT rfl (kBin rfl rfl rfl (kPickT rfl (kMovC rfl (kDone (kCondP rfl (fun g2 => kReg (kMovC rfl (kMovC rfl (kMovC rfl (kMovC rfl (kIadAR rfl rfl rfl rfl (by omega) (kLoadER rfl rfl (by omega) rfl (kBin rfl rfl rfl (kIadAR rfl rfl rfl rfl (by omega) ?_))))))))) (fun g2 => kSkip (kBk (kReg (kMovC rfl (kAdd rfl rfl (by omega) (kMovC rfl (kDone ?_)))))))))))))))))))))) (fun g1 => (kGF rfl (kGF rfl (kGF rfl (kGF rfl (kGF rfl (kPickF rfl (kMovC rfl (kDone (kCondF rfl (kSkip (kBk (kReg (kMovC rfl (kAdd rfl rfl (by omega) (kMovC rfl (kDone ?_))))))))))))))))))))))))))))) (fun g0 => (by omega))))))))))
    · refine kStoreER (z := L[i] + 32) rfl rfl rfl rfl rfl rfl rfl hiL (by rw [← hw]; rfl) ?_
      refine kDone (kBk (kReg (kMovC rfl (kAdd rfl rfl (by omega) (kMovC rfl (kDone ?_))))))
      refine kInv ⟨⟨i + 1, by omega⟩, by simp only; omega, ?_⟩
      simp only
      rw [← hst (L[i] + 32) (by
        rw [hg] at *
        unfold lowC
        rw [if_pos]
        simp only [UInt8.le_iff_toNat_le]
        exact ⟨by simp; omega, by simp; omega⟩)]
      exact .normA
    all_goals
      refine kInv ⟨⟨i + 1, by omega⟩, by simp only; omega, ?_⟩
      simp only
      rw [← hno (by omega)]
      exact .normA
  · refine kSeq (kSeq (kReg (kMovC rfl (kMovC rfl (kLenR rfl rfl (kBin rfl rfl rfl (kDone (kCondP rfl (fun g0 => (by omega)) (fun g0 => kExit (kExC (kExI (kExB (kSeq (kReg (kMovC rfl (kMovC rfl (kDone (kRet (endRetA (ra := [.one (.own true _)]) rfl ?_)))))))))))))))))))
    rw [show i = b.length by omega]
    simp

def c_spec_LabelOk : C := (.seq (.reg false (.o 0 2 (.mov (.v (.bool false))) .done)) (.seq (.seq (.reg false (.o 0 4 (.mov (.t 0)) (.o 1 5 (.len (.t 4)) (.o 2 6 (.bin .lss (.t 5) (.i 1)) (.o 3 7 (.mov (.t 6)) (.op 4 [] (some 8) (some (7, false)) false (.mov (.t 0)) (.op 5 [] (some 9) (some (7, false)) false (.len (.t 8)) (.op 6 [] (some 10) (some (7, false)) false (.bin .gtr (.t 9) (.i 15)) (.o 7 11 (.pick (.t 7) (.v (.bool true)) (.t 10)) .done))))))))) (.cond (.t 11) (.seq (.reg false (.o 0 2 (.mov (.v (.bool false))) .done)) .ret) .skip)) (.seq (.seq (.reg false (.o 0 3 (.mov (.i 0)) .done)) (.block 0 (.loop (.seq (.seq (.reg false (.o 0 12 (.mov (.t 3)) (.o 1 13 (.mov (.t 0)) (.o 2 14 (.len (.t 13)) (.o 3 15 (.bin .lss (.t 12) (.t 14)) .done))))) (.cond (.t 15) .skip (.exit 0))) (.seq (.block 1 (.seq (.reg false (.o 0 18 (.mov (.t 0)) (.o 1 19 (.mov (.t 3)) (.o 2 20 (.iad 1 (.t 18) (.t 19)) (.o 3 21 (.load none (.t 20)) (.o 4 22 (.bin .geq (.t 21) (.v (.int .u8 97))) (.o 5 23 (.mov (.t 22)) (.op 6 [] (some 24) (some (23, true)) false (.mov (.t 0)) (.op 7 [] (some 25) (some (23, true)) false (.mov (.t 3)) (.op 8 [] (some 26) (some (23, true)) false (.iad 1 (.t 24) (.t 25)) (.op 9 [] (some 27) (some (23, true)) false (.load none (.t 26)) (.op 10 [] (some 28) (some (23, true)) false (.bin .leq (.t 27) (.v (.int .u8 122))) (.o 11 29 (.pick (.t 23) (.t 28) (.v (.bool false))) (.o 12 30 (.un .not (.t 29)) (.o 13 31 (.mov (.t 30)) (.op 14 [] (some 32) (some (31, true)) false (.mov (.t 0)) (.op 15 [] (some 33) (some (31, true)) false (.mov (.t 3)) (.op 16 [] (some 34) (some (31, true)) false (.iad 1 (.t 32) (.t 33)) (.op 17 [] (some 35) (some (31, true)) false (.load none (.t 34)) (.op 18 [] (some 36) (some (31, true)) false (.bin .geq (.t 35) (.v (.int .u8 48))) (.op 19 [] (some 37) (some (31, true)) false (.mov (.t 36)) (.op 20 [] (some 38) (some (37, true)) false (.mov (.t 0)) (.op 21 [] (some 39) (some (37, true)) false (.mov (.t 3)) (.op 22 [] (some 40) (some (37, true)) false (.iad 1 (.t 38) (.t 39)) (.op 23 [] (some 41) (some (37, true)) false (.load none (.t 40)) (.op 24 [] (some 42) (some (37, true)) false (.bin .leq (.t 41) (.v (.int .u8 57))) (.op 25 [] (some 43) (some (31, true)) false (.pick (.t 37) (.t 42) (.v (.bool false))) (.op 26 [] (some 44) (some (31, true)) false (.un .not (.t 43)) (.o 27 45 (.pick (.t 31) (.t 44) (.v (.bool false))) (.o 28 46 (.mov (.t 45)) (.op 29 [] (some 47) (some (46, true)) false (.mov (.t 0)) (.op 30 [] (some 48) (some (46, true)) false (.mov (.t 3)) (.op 31 [] (some 49) (some (46, true)) false (.iad 1 (.t 47) (.t 48)) (.op 32 [] (some 50) (some (46, true)) false (.load none (.t 49)) (.op 33 [] (some 51) (some (46, true)) false (.bin .neq (.t 50) (.v (.int .u8 45))) (.o 34 52 (.pick (.t 46) (.t 51) (.v (.bool false))) .done)))))))))))))))))))))))))))))))))))) (.cond (.t 52) (.seq (.reg false (.o 0 2 (.mov (.v (.bool false))) .done)) .ret) .skip))) (.reg false (.o 0 16 (.mov (.t 3)) (.o 1 17 (.bin .add (.t 16) (.i 1)) (.o 2 3 (.mov (.t 17)) .done))))))))) (.seq (.reg false (.o 0 2 (.mov (.v (.bool true))) .done)) .ret))))
theorem dg_spec_LabelOk : Tryd.f40.body.bind (digC Tryd.prog Tryd.f40.ntmps []) = some c_spec_LabelOk := by kernel_rfl
theorem rs_spec_LabelOk : resSlots Tryd.prog Tryd.f40 = some [.s 2] := by kernel_rfl
theorem ok_spec_LabelOk (b : List UInt8) (hb : b.length ≤ 4194304) :
    FnOK Tryd.prog 40 [.one (.d (encB b))] (fun ra _ => ra = [.one (.d (.sc (.bool (labelOk b))))]) := by
  refine FnOK.ofK Tryd.func40 (by kernel_rfl) dg_spec_LabelOk rs_spec_LabelOk rfl rfl ?_
  delta c_spec_LabelOk T.o X.i
  refine kSeq (kReg (kMovC rfl (kDone (kSeq (kSeq (kReg (kMovC rfl (kLenR rfl rfl (kBin rfl rfl rfl (kMovC rfl (kGP rfl (fun g0 => kGF rfl (kGF rfl (kGF rfl (kPickT rfl (kMovC rfl (kDone (kCondT rfl (kSeq (kReg (kMovC rfl (kDone (kRet (endRetA (ra := [.one (.d _)]) rfl ?_))))))))))))) (fun g0 => kGT rfl (kMovC rfl (kGT rfl (kLenR rfl rfl (kGT rfl (kBin rfl rfl rfl (kPickF rfl (kMovC rfl (kDone (kCondP rfl (fun g1 => kSeq (kReg (kMovC rfl (kDone (kRet (endRetA (ra := [.one (.d _)]) rfl ?_)))))) (fun g1 => kSkip (kSeq (kSeq (kReg (kMovC rfl (kDone (kBlock ?_))))))))))))))))))))))))))))
  · rw [show labelOk b = false by simp only [labelOk]; rw [decide_eq_false (by omega)]; rfl]
  · rw [show labelOk b = false by simp only [labelOk]; rw [decide_eq_false (p := b.length ≤ 15) (by omega)]; simp]
  refine kLoop (α := { i : Nat // i ≤ b.length ∧ (b.take i).all okLetter = true })
    (fun y => ⟨tabSl [(0, .dv (encB b)), (3, .i y.1)], (St.init [.one (.d (encB b))]).ob, []⟩) (fun y => b.length - y.1) ⟨0, by simp⟩
    (.tab rfl ⟨.refl _, .refl _, trivial⟩) ?_
  rintro ⟨i, hi, hl⟩
  simp only
  refine kSeq (kSeq (kReg (kMovC rfl (kMovC rfl (kLenR rfl rfl (kBin rfl rfl rfl (kDone (kCondP rfl (fun g0 => kSkip (kSeq (kBlock (kSeq (kReg (kMovC rfl (kMovC rfl (kIadR rfl rfl rfl (by omega) (kLoadD rfl rfl (kBin rfl rfl rfl (kMovC rfl (kGP rfl (fun g1 => kGT rfl (kMovC rfl (kGT rfl (kMovC rfl (kGT rfl (kIadR rfl rfl rfl (by omega) (kGT rfl (kLoadD rfl rfl (kGT rfl (kBin rfl rfl rfl (kPickT rfl (kMovC rfl (kUn rfl rfl (kMovC rfl (kGN rfl (fun g2 => kGT rfl (kMovC rfl (kGT rfl (kMovC rfl (kGT rfl (kIadR rfl rfl rfl (by omega) (kGT rfl (kLoadD rfl rfl (kGT rfl (kBin rfl rfl rfl (kGT rfl (kMovC rfl (kGP rfl (fun g3 => kGT rfl (kMovC rfl (kGT rfl (kMovC rfl (kGT rfl (kIadR rfl rfl rfl (by omega) (kGT rfl (kLoadD rfl rfl (kGT rfl (kBin rfl rfl rfl (kGT rfl (kPickT rfl (kMovC rfl (kGT rfl (kUn rfl rfl (kPickT rfl (kMovC rfl (kMovC rfl (kGN rfl (fun g4 => kGT rfl (kMovC rfl (kGT rfl (kMovC rfl (kGT rfl (kIadR rfl rfl rfl (by omega) (kGT rfl (kLoadD rfl rfl (kGT rfl (kBin rfl rfl rfl (kPickT rfl (kMovC rfl (kDone (kCondN rfl (fun g5 => kSeq (kReg (kMovC rfl (kDone (kRet (endRetA (ra := [.one (.d _)]) rfl ?_)))))) (fun g5 => kSkip (kBk (kReg (kMovC rfl (kAdd rfl rfl (by omega) (kMovC rfl (kDone ?_))))))))))))))))))))) (fun g4 => kGF rfl (kGF rfl (kGF rfl (kGF rfl (kGF rfl (kPickF rfl (kMovC rfl (kDone (kCondF rfl (kSkip (kBk (kReg (kMovC rfl (kAdd rfl rfl (by omega) (kMovC rfl (kDone ?_))))))))))))))))))))))))))))))))))) (fun g3 => (by omega))))))))))))))) (fun g2 => kGF rfl (kGF rfl (kGF rfl (kGF rfl (kGF rfl (kGF rfl (kGU rfl (kGU rfl (kGU rfl (kGU rfl (kGU rfl (kGF rfl (kGF rfl (kPickF rfl (kMovC rfl (kMovC rfl (kGF rfl (kGF rfl (kGF rfl (kGF rfl (kGF rfl (kPickF rfl (kMovC rfl (kDone (kCondF rfl (kSkip (kBk (kReg (kMovC rfl (kAdd rfl rfl (by omega) (kMovC rfl (kDone ?_))))))))))))))))))))))))))))))))))))))))))))))) (fun g1 => kGF rfl (kGF rfl (kGF rfl (kGF rfl (kGF rfl (kPickF rfl (kMovC rfl (kUn rfl rfl (kMovC rfl (kGT rfl (kMovC rfl (kGT rfl (kMovC rfl (kGT rfl (kIadR rfl rfl rfl (by omega) (kGT rfl (kLoadD rfl rfl (kGT rfl (kBin rfl rfl rfl (kGT rfl (kMovC rfl (kGP rfl (fun g6 => kGT rfl (kMovC rfl (kGT rfl (kMovC rfl (kGT rfl (kIadR rfl rfl rfl (by omega) (kGT rfl (kLoadD rfl rfl (kGT rfl (kBin rfl rfl rfl (kGT rfl (kPickT rfl (kMovC rfl (kGT rfl (kUn rfl rfl (kPickT rfl (kMovC rfl (kMovC rfl (kGN rfl (fun g7 => kGT rfl (kMovC rfl (kGT rfl (kMovC rfl (kGT rfl (kIadR rfl rfl rfl (by omega) (kGT rfl (kLoadD rfl rfl (kGT rfl (kBin rfl rfl rfl (kPickT rfl (kMovC rfl (kDone (kCondN rfl (fun g8 => kSeq (kReg (kMovC rfl (kDone (kRet (endRetA (ra := [.one (.d _)]) rfl ?_)))))) (fun g8 => kSkip (kBk (kReg (kMovC rfl (kAdd rfl rfl (by omega) (kMovC rfl (kDone ?_))))))))))))))))))))) (fun g7 => kGF rfl (kGF rfl (kGF rfl (kGF rfl (kGF rfl (kPickF rfl (kMovC rfl (kDone (kCondF rfl (kSkip (kBk (kReg (kMovC rfl (kAdd rfl rfl (by omega) (kMovC rfl (kDone ?_))))))))))))))))))))))))))))))))))) (fun g6 => kGF rfl (kGF rfl (kGF rfl (kGF rfl (kGF rfl (kGT rfl (kPickF rfl (kMovC rfl (kGT rfl (kUn rfl rfl (kPickT rfl (kMovC rfl (kMovC rfl (kGT rfl (kMovC rfl (kGT rfl (kMovC rfl (kGT rfl (kIadR rfl rfl rfl (by omega) (kGT rfl (kLoadD rfl rfl (kGT rfl (kBin rfl rfl rfl (kPickT rfl (kMovC rfl (kDone (kCondN rfl (fun g9 => kSeq (kReg (kMovC rfl (kDone (kRet (endRetA (ra := [.one (.d _)]) rfl ?_)))))) (fun g9 => kSkip (kBk (kReg (kMovC rfl (kAdd rfl rfl (by omega) (kMovC rfl (kDone ?_)))))))))))))))))))))))))))))))))))))))))))))))))))))))))))))))))))) (fun g0 => kExit (kExC (kExI (kExB (kSeq (kReg (kMovC rfl (kDone (kRet (endRetA (ra := [.one (.d _)]) rfl ?_))))))))))))))))))
  all_goals try simp only [decide_eq_true_eq, decide_eq_false_iff_not, beq_iff_eq, beq_eq_false_iff_ne] at *
  all_goals first
    | exact kInv ⟨⟨i + 1, by omega, labelOk_step (by omega) hl (by rw [okLetter_iff]; omega)⟩, by simp only; omega, .tab rfl ⟨.refl _, .refl _, trivial⟩⟩
    | rw [labelOk_no (b := b) (i := i) (by omega) (by rw [okLetter_iff]; omega)]
    | skip
  have hge : i = b.length := by omega
  subst hge
  rw [List.take_length] at hl
  rw [show labelOk b = true by simp only [labelOk]; rw [decide_eq_true (by omega), decide_eq_true (by omega), hl]; rfl]

def c_spec_NameOk : C := (.seq (.reg false (.o 0 1 (.box 1 (.t 0)) (.o 1 2 (.mov (.v (.bool false))) .done))) (.seq (.seq (.reg false (.o 0 4 (.fad (.t 1) 0) (.o 1 5 (.load none (.t 4)) (.o 2 6 (.len (.t 5)) (.o 3 7 (.bin .gtr (.t 6) (.i 6)) .done))))) (.cond (.t 7) (.seq (.reg false (.o 0 2 (.mov (.v (.bool false))) .done)) .ret) .skip)) (.seq (.seq (.reg false (.o 0 3 (.mov (.i 0)) .done)) (.block 0 (.loop (.seq (.seq (.reg false (.o 0 8 (.mov (.t 3)) (.o 1 9 (.fad (.t 1) 0) (.o 2 10 (.load none (.t 9)) (.o 3 11 (.len (.t 10)) (.o 4 12 (.bin .lss (.t 8) (.t 11)) .done)))))) (.cond (.t 12) .skip (.exit 0))) (.seq (.block 1 (.seq (.reg false (.o 0 15 (.fad (.t 1) 0) (.o 1 16 (.load none (.t 15)) (.o 2 17 (.mov (.t 3)) (.o 3 18 (.iad 1 (.t 16) (.t 17)) (.o 4 19 (.load none (.t 18)) (.o 5 20 (.call 20 40 [(.t 19)]) (.o 6 21 (.un .not (.t 20)) .done)))))))) (.cond (.t 21) (.seq (.reg false (.o 0 2 (.mov (.v (.bool false))) .done)) .ret) .skip))) (.reg false (.o 0 13 (.mov (.t 3)) (.o 1 14 (.bin .add (.t 13) (.i 1)) (.o 2 3 (.mov (.t 14)) .done))))))))) (.seq (.reg false (.o 0 2 (.mov (.v (.bool true))) .done)) .ret))))
theorem dg_spec_NameOk : Tryd.f17.body.bind (digC Tryd.prog Tryd.f17.ntmps []) = some c_spec_NameOk := by kernel_rfl
theorem rs_spec_NameOk : resSlots Tryd.prog Tryd.f17 = some [.s 2] := by kernel_rfl
theorem ok_spec_NameOk (a : List (List UInt8)) (ha : a.length ≤ 4194304) (hb : ∀ b ∈ a, b.length ≤ 4194304) :
    FnOK Tryd.prog 17 [.agg [.d (encBB a)]] (fun ra _ => ra = [.one (.d (.sc (.bool (nameOk a))))]) := by
  refine FnOK.ofK Tryd.func17 (by kernel_rfl) dg_spec_NameOk rs_spec_NameOk rfl rfl ?_
  delta c_spec_NameOk T.o X.i
  refine kSeq (kReg (kBox rfl rfl rfl rfl rfl (kMovC rfl (kDone (kSeq (kSeq (kReg (kFadP rfl rfl (kLoadP rfl rfl rfl (kLenR rfl rfl (kBin rfl rfl rfl (kDone (kCondP rfl (fun g0 => kSeq (kReg (kMovC rfl (kDone (kRet (endRetA (ra := [.one (.d _)]) rfl ?_)))))) (fun g0 => kSkip (kSeq (kSeq (kReg (kMovC rfl (kDone (kBlock ?_))))))))))))))))))))
  · rw [show nameOk a = false by simp only [nameOk]; rw [decide_eq_false (by omega)]; rfl]
  refine kLoop (α := { i : Nat // i ≤ a.length ∧ (a.take i).all labelOk = true })
    (fun y => ⟨tabSl [(1, .c (.ptr (rid 1 0) 1 0)), (3, .i y.1)], obTab 1 [(rid 1 0, ⟨1, 0, .box [.d (encBB a)]⟩)], []⟩) (fun y => a.length - y.1) ⟨0, by simp⟩
    .normA ?_
  rintro ⟨i, hi, hl⟩
  simp only
  refine kSeq (kSeq (kReg (kMovC rfl (kFadP rfl rfl (kLoadP rfl rfl rfl (kLenR rfl rfl (kBin rfl rfl rfl (kDone (kCondP rfl (fun g0 => kSkip (kSeq (kBlock (kSeq (kReg (kFadP rfl rfl (kLoadP rfl rfl rfl (kMovC rfl (kIadR rfl rfl rfl (by omega) (kLoadD rfl rfl (kCallD (ok_spec_LabelOk _ (by first | assumption | omega | solve_by_elim [List.getElem_mem])) ⟨rfl, trivial⟩ rfl rfl rfl rfl rfl (kUn rfl rfl (kDone (kCondN rfl (fun g1 => kSeq (kReg (kMovC rfl (kDone (kRet (endRetA (ra := [.one (.d _)]) rfl ?_)))))) (fun g1 => kSkip (kBk (kReg (kMovC rfl (kAdd rfl rfl (by omega) (kMovC rfl (kDone ?_))))))))))))))))))))) (fun g0 => kExit (kExC (kExI (kExB (kSeq (kReg (kMovC rfl (kDone (kRet (endRetA (ra := [.one (.d _)]) rfl ?_)))))))))))))))))))
  · rename_i h
    rw [show nameOk a = false by simp only [nameOk]; rw [all_no (i := i) (by omega) (by assumption), Bool.and_false]]
  · exact kInv ⟨⟨i + 1, by omega, all_step (by omega) hl (by assumption)⟩, by simp only; omega, .normA⟩
  · have hge : i = a.length := by omega
    subst hge
    rw [List.take_length] at hl
    rw [show nameOk a = true by simp only [nameOk]; rw [decide_eq_true (by omega), hl]; rfl]

def c_spec_NameRead : C := (.seq (.reg false (.o 0 2 (.alloc 2 [(.n 1)]) (.o 1 3 (.mov (.v (.bool false))) .done))) (.seq (.seq (.reg false (.o 0 7 (.mov (.t 0)) (.o 1 8 (.b2s (.t 7)) (.o 2 9 (.bin .eql (.t 8) (.v (.string ⟨#[46]⟩))) .done)))) (.cond (.t 9) (.seq (.reg false (.o 0 10 (.build [(.n 1)] []) (.op 1 [] none none false (.store (some 1) (.t 2) (.t 10)) (.o 2 3 (.mov (.v (.bool true))) .done)))) .ret) .skip)) (.seq (.reg false (.o 0 4 (.alloc 4 [(.n 1)]) .done)) (.seq (.reg false (.o 0 5 (.mov (.n 1)) .done)) (.seq (.seq (.reg false (.o 0 6 (.mov (.i 0)) .done)) (.block 0 (.loop (.seq (.seq (.reg false (.o 0 11 (.mov (.t 6)) (.o 1 12 (.mov (.t 0)) (.o 2 13 (.len (.t 12)) (.o 3 14 (.bin .leq (.t 11) (.t 13)) .done))))) (.cond (.t 14) .skip (.exit 0))) (.seq (.block 1 (.seq (.seq (.reg false (.o 0 17 (.mov (.t 6)) (.o 1 18 (.mov (.t 0)) (.o 2 19 (.len (.t 18)) (.o 3 20 (.bin .lss (.t 17) (.t 19)) (.o 4 21 (.mov (.t 20)) (.op 5 [] (some 22) (some (21, true)) false (.mov (.t 0)) (.op 6 [] (some 23) (some (21, true)) false (.mov (.t 6)) (.op 7 [] (some 24) (some (21, true)) false (.iad 1 (.t 22) (.t 23)) (.op 8 [] (some 25) (some (21, true)) false (.load none (.t 24)) (.op 9 [] (some 26) (some (21, true)) false (.bin .neq (.t 25) (.v (.int .u8 46))) (.o 10 27 (.pick (.t 21) (.t 26) (.v (.bool false))) .done)))))))))))) (.cond (.t 27) (.seq (.reg false (.o 0 28 (.mov (.t 5)) (.o 1 29 (.mov (.t 0)) (.o 2 30 (.mov (.t 6)) (.o 3 31 (.iad 1 (.t 29) (.t 30)) (.o 4 32 (.load none (.t 31)) (.o 5 33 (.lit 33 1 [(.v (.int .u8 0))] 1 [(0, 1, (.t 32))]) (.o 6 34 (.app 34 1 1 (.t 28) (.t 33)) (.o 7 5 (.mov (.t 34)) .done))))))))) (.exit 1)) .skip)) (.seq (.seq (.reg false (.o 0 35 (.mov (.t 6)) (.o 1 36 (.mov (.t 0)) (.o 2 37 (.len (.t 36)) (.o 3 38 (.bin .eql (.t 35) (.t 37)) (.o 4 39 (.mov (.t 38)) (.op 5 [] (some 40) (some (39, true)) false (.mov (.t 5)) (.op 6 [] (some 41) (some (39, true)) false (.len (.t 40)) (.op 7 [] (some 42) (some (39, true)) false (.bin .eql (.t 41) (.i 0)) (.o 8 43 (.pick (.t 39) (.t 42) (.v (.bool false))) (.o 9 44 (.mov (.t 43)) (.op 10 [] (some 45) (some (44, true)) false (.mov (.t 6)) (.op 11 [] (some 46) (some (44, true)) false (.bin .gtr (.t 45) (.i 0)) (.o 12 47 (.pick (.t 44) (.t 46) (.v (.bool false))) .done)))))))))))))) (.cond (.t 47) (.exit 0) .skip)) (.seq (.reg true (.op 0 [] (some 48) none true (.fad (.t 4) 0) (.op 1 [] (some 49) none true (.load none (.t 48)) (.op 2 [] (some 50) none true (.mov (.t 5)) (.o 3 51 (.call 51 30 [(.t 50)]) (.o 4 52 (.lit 52 1 [(.n 1)] 1 [(0, 1, (.t 51))]) (.op 5 [1] (some 53) none false (.app 53 1 24 (.t 49) (.t 52)) (.op 6 [] (some 54) none true (.fad (.t 4) 0) (.op 7 [1] none none false (.store none (.t 54) (.t 53)) .done))))))))) (.reg false (.o 0 5 (.mov (.n 1)) .done)))))) (.reg false (.o 0 15 (.mov (.t 6)) (.o 1 16 (.bin .add (.t 15) (.i 1)) (.o 2 6 (.mov (.t 16)) .done))))))))) (.seq (.seq (.reg false (.o 0 55 (.load (some 1) (.t 4)) (.o 1 56 (.call 56 17 [(.t 55)]) (.o 2 57 (.un .not (.t 56)) .done)))) (.cond (.t 57) (.seq (.reg false (.o 0 58 (.build [(.n 1)] []) (.op 1 [] none none false (.store (some 1) (.t 2) (.t 58)) (.o 2 3 (.mov (.v (.bool false))) .done)))) .ret) .skip)) (.seq (.reg false (.o 0 59 (.load (some 1) (.t 4)) (.op 1 [] none none false (.store (some 1) (.t 2) (.t 59)) (.o 2 3 (.mov (.v (.bool true))) .done)))) .ret)))))))
theorem dg_spec_NameRead : Tryd.f7.body.bind (digC Tryd.prog Tryd.f7.ntmps []) = some c_spec_NameRead := by kernel_rfl
theorem rs_spec_NameRead : resSlots Tryd.prog Tryd.f7 = some [.m 2 (some 1), .s 3] := by kernel_rfl
theorem ok_spec_NameRead (b : List UInt8) (hb : b.length ≤ 4194303) :
    FnOK Tryd.prog 7 [.one (.d (encB b))] (fun ra _ => ra = [.agg [.own true (encBB (readN b))], .one (.d (.sc (.bool (readOk b))))]) := by
  refine FnOK.ofK Tryd.func7 (by kernel_rfl) dg_spec_NameRead rs_spec_NameRead rfl rfl ?_
  delta c_spec_NameRead T.o X.i
  obtain ⟨rl1, rl2⟩ := readL_small hb
  refine kSeq (kReg (kAlloc rfl rfl (kMovC rfl (kDone (kSeq (kSeq (kReg (kMovC rfl (kB2s rfl rfl (kBin rfl rfl rfl (kDone (kCond rfl (fun g0 => kSeq (kReg (kBuildG rfl (kStoreP rfl rfl rfl rfl (kMovC rfl (kDone (kRet (endRetA (ra := [.agg [(.own true _)], .one (.d _)]) rfl ?_)))))))) (fun g0 => kSkip (kSeq (kReg (kAlloc rfl rfl (kDone (kSeq (kReg (kMovC rfl (kDone (kSeq (kSeq (kReg (kMovC rfl (kDone (kBlock ?_)))))))))))))))))))))))))))
  · rw [eq46] at g0
    have e : b = [46] := of_decide_eq_true g0
    subst e
    rfl
  rw [eq46] at g0
  have hne : b ≠ [46] := of_decide_eq_false g0
  have hrn : readN b = if nameOk (readL b) then readL b else [] := by unfold readN; rw [if_neg hne]
  have hro : readOk b = nameOk (readL b) := by unfold readOk; rw [decide_eq_false hne]; rfl
  rw [hrn, hro]
  refine kSub (Sub.nilBox (id := rid 4 0) (id2 := rid 5001 0) (j := 0) rfl rfl rfl (by decide) (by decide)) ?_
  refine kSub (Sub.nilArr (j := 5) (id := rid 5000 0) (sz := 1) rfl (by decide)) ?_
  refine kLoop (α := { i : Nat // i ≤ b.length + 1 }) (fun y => ⟨tabSl [(0, .dv (encB b)), (2, .c (.ptr (rid 2 0) 1 0)), (4, .c (.ptr (rid 4 0) 1 0)), (5, .c (.arr (rid 5000 0) 1)), (6, .i y.1)], obTab 1 [(rid 2 0, ⟨1, 0, .box [.nil 1]⟩), (rid 4 0, ⟨1, 0, .box [.arr (rid 5001 0) 1]⟩), (rid 5000 0, ⟨1, 0, .arr true (encB (rdW b y.1))⟩), (rid 5001 0, ⟨1, 0, .arr true (encBB (rdL b y.1))⟩)], []⟩) (fun y => b.length + 1 - y.1) ⟨0, by simp⟩ .normA ?_
  rintro ⟨i, hi⟩
  simp only
  have hmem := rdW_mem b i
  rcases Nat.lt_or_ge i b.length with hlt | hge
  · have hlens := rd_lens b i (by omega)
    by_cases hc : b[i] = 46
    · obtain ⟨s1, s2⟩ := rd_dot hlt hc
      have hcn : ((b[i]).toNat : Int) = 46 := by rw [hc]; rfl
      revert s1 s2
      generalize rdL b i = L at *
      generalize rdW b i = W at *
      intro s1 s2
      refine kSeq (kSeq (kReg (kMovC rfl (kMovC rfl (kLenR rfl rfl (kBin rfl rfl rfl (kDone (kCondP rfl (fun g0 => kSkip (kSeq (kBlock (kSeq (kSeq (kReg (kMovC rfl (kMovC rfl (kLenR rfl rfl (kBin rfl rfl rfl (kMovC rfl (kGP rfl (fun g1 => kGT rfl (kMovC rfl (kGT rfl (kMovC rfl (kGT rfl (kIadR rfl rfl rfl (by omega) (kGT rfl (kLoadD rfl rfl (kGT rfl (kBin rfl rfl rfl (kPickT rfl (kMovC rfl (kDone (kCondIN rfl (fun g2 => (by omega)) (fun g2 => kSkip (kSeq (kSeq (kReg (kMovC rfl (kMovC rfl (kLenR rfl rfl (kBin rfl rfl rfl (kMovC rfl (kGP rfl (fun g3 => (by omega)) (fun g3 => kGF rfl (kGF rfl (kGF rfl (kPickF rfl (kMovC rfl (kMovC rfl (kGF rfl (kGF rfl (kPickF rfl (kMovC rfl (kDone (kCondF rfl (kSkip (kSeq (kRegD (kFadP rfl rfl (kLoadP rfl rfl rfl (kMovC rfl (kCall1 true (ok_spec_Lower _ (by first | assumption | omega | solve_by_elim [List.getElem_mem] | (simp only [szOut] at *; omega) | exact rfl | exact leb)) ⟨rfl, trivial⟩ rfl rfl rfl (fun _ => (kLit rfl rfl rfl rfl (kRelF rfl rfl (kAppR1 rfl rfl rfl rfl rfl rfl rfl rfl (by omega) (kFadP rfl rfl (kRelF rfl rfl (kStoreP rfl rfl rfl rfl (kDone (kH (kReg (kMovC rfl (kDone (kBk (kReg (kMovC rfl (kAdd rfl rfl (by omega) (kMovC rfl (kDone ?_))))))))))))))))))))))))))))))))))))))))))))))))))))))))))))) (fun g1 => (by omega)))))))))))))) (fun g0 => (by omega))))))))))
      refine kInv ⟨⟨i + 1, by omega⟩, by simp only; omega, ?_⟩
      simp only [s1, s2]
      exact (Sub.nilArr (j := 5) (id := rid 5000 0) (sz := 1) rfl (by decide)).trans .normA
    · obtain ⟨s1, s2⟩ := rd_char hlt hc
      have hcn : ((b[i]).toNat : Int) ≠ 46 := fun h => hc (UInt8.toNat_inj.1 (by have : b[i].toNat = 46 := by omega
                                                                                 rw [this]; rfl))
      revert s1 s2
      generalize rdL b i = L at *
      generalize rdW b i = W at *
      intro s1 s2
      refine kSeq (kSeq (kReg (kMovC rfl (kMovC rfl (kLenR rfl rfl (kBin rfl rfl rfl (kDone (kCondP rfl (fun g0 => kSkip (kSeq (kBlock (kSeq (kSeq (kReg (kMovC rfl (kMovC rfl (kLenR rfl rfl (kBin rfl rfl rfl (kMovC rfl (kGP rfl (fun g1 => kGT rfl (kMovC rfl (kGT rfl (kMovC rfl (kGT rfl (kIadR rfl rfl rfl (by omega) (kGT rfl (kLoadD rfl rfl (kGT rfl (kBin rfl rfl rfl (kPickT rfl (kMovC rfl (kDone (kCondIN rfl (fun g2 => kSeq (kReg (kMovC rfl (kMovC rfl (kMovC rfl (kIadR rfl rfl rfl (by omega) (kLoadD rfl rfl (kLit rfl rfl rfl rfl (kAppR1 rfl rfl rfl rfl rfl rfl rfl rfl (by omega) (kMovC rfl (kDone (kExit (kExC (kExB (kReg (kMovC rfl (kAdd rfl rfl (by omega) (kMovC rfl (kDone ?_))))))))))))))))))) (fun g2 => (by omega)))))))))))))))) (fun g1 => (by omega)))))))))))))) (fun g0 => (by omega))))))))))
      refine kInv ⟨⟨i + 1, by omega⟩, by simp only; omega, ?_⟩
      simp only [s1, s2]
      exact .normA
  · rcases Nat.lt_or_ge b.length i with hgt | hle
    · have e : i = b.length + 1 := by omega
      subst e
      rw [rd_last.1, rd_last.2]
      cases hno : nameOk (readL b)
      · refine kSeq (kSeq (kReg (kMovC rfl (kMovC rfl (kLenR rfl rfl (kBin rfl rfl rfl (kDone (kCondP rfl (fun g0 => (by omega)) (fun g0 => kExit (kExC (kExI (kExB (kSeq (kSeq (kReg (kLoadP rfl rfl rfl (kCallD (ok_spec_NameOk _ (by first | assumption | omega | solve_by_elim [List.getElem_mem] | (simp only [szOut] at *; omega) | exact rfl | exact leb) (by first | assumption | omega | solve_by_elim [List.getElem_mem] | (simp only [szOut] at *; omega) | exact rfl | exact leb)) ⟨⟨⟨rfl, trivial⟩, leb⟩, trivial⟩ rfl rfl rfl rfl rfl (kUn rfl rfl (kDone (kCondN rfl (fun g1 => kSeq (kReg (kBuildG rfl (kStoreP rfl rfl rfl rfl (kMovC rfl (kDone (kRet (endRetA (ra := [.agg [(.own true _)], .one (.d _)]) rfl rfl)))))))) (fun g1 => (by (simp [*] at g1)))))))))))))))))))))))
      · refine kSeq (kSeq (kReg (kMovC rfl (kMovC rfl (kLenR rfl rfl (kBin rfl rfl rfl (kDone (kCondP rfl (fun g0 => (by omega)) (fun g0 => kExit (kExC (kExI (kExB (kSeq (kSeq (kReg (kLoadP rfl rfl rfl (kCallD (ok_spec_NameOk _ (by first | assumption | omega | solve_by_elim [List.getElem_mem] | (simp only [szOut] at *; omega) | exact rfl | exact leb) (by first | assumption | omega | solve_by_elim [List.getElem_mem] | (simp only [szOut] at *; omega) | exact rfl | exact leb)) ⟨⟨⟨rfl, trivial⟩, leb⟩, trivial⟩ rfl rfl rfl rfl rfl (kUn rfl rfl (kDone (kCondN rfl (fun g1 => (by (simp [*] at g1))) (fun g1 => kSkip (kSeq (kReg (kLoadP rfl rfl rfl (kStoreP rfl rfl rfl rfl (kMovC rfl (kDone (kRet (endRetA (ra := [.agg [(.own true _)], .one (.d _)]) rfl rfl)))))))))))))))))))))))))))))
    · have e : i = b.length := by omega
      subst e
      have hlens := rd_lens b b.length (Nat.le_refl _)
      have s1 := (rd_last (b := b)).1
      have s2 := (rd_last (b := b)).2
      by_cases hw : rdW b b.length = [] ∧ 0 < b.length
      · rw [rd_end, if_pos hw] at *
        rw [hw.1]
        obtain ⟨hw1, hw2⟩ := hw
        cases hno : nameOk (rdL b b.length)
        · refine kSeq (kSeq (kReg (kMovC rfl (kMovC rfl (kLenR rfl rfl (kBin rfl rfl rfl (kDone (kCondP rfl (fun g0 => kSkip (kSeq (kBlock (kSeq (kSeq (kReg (kMovC rfl (kMovC rfl (kLenR rfl rfl (kBin rfl rfl rfl (kMovC rfl (kGP rfl (fun g1 => (by omega)) (fun g1 => kGF rfl (kGF rfl (kGF rfl (kGF rfl (kGF rfl (kPickF rfl (kMovC rfl (kDone (kCondF rfl (kSkip (kSeq (kSeq (kReg (kMovC rfl (kMovC rfl (kLenR rfl rfl (kBin rfl rfl rfl (kMovC rfl (kGP rfl (fun g2 => kGT rfl (kMovC rfl (kGT rfl (kLenR rfl rfl (kGT rfl (kBin rfl rfl rfl (kPickT rfl (kMovC rfl (kMovC rfl (kGT rfl (kMovC rfl (kGT rfl (kBin rfl rfl rfl (kPickT rfl (kMovC rfl (kDone (kCondP rfl (fun g3 => kExit (kExC (kExB' rfl (kExC (kExI (kExB (kSeq (kSeq (kReg (kLoadP rfl rfl rfl (kCallD (ok_spec_NameOk _ (by first | assumption | omega | solve_by_elim [List.getElem_mem] | (simp only [szOut] at *; omega) | exact rfl | exact leb) (by first | assumption | omega | solve_by_elim [List.getElem_mem] | (simp only [szOut] at *; omega) | exact rfl | exact leb)) ⟨⟨⟨rfl, trivial⟩, leb⟩, trivial⟩ rfl rfl rfl rfl rfl (kUn rfl rfl (kDone (kCondN rfl (fun g4 => kSeq (kReg (kBuildG rfl (kStoreP rfl rfl rfl rfl (kMovC rfl (kDone (kRet (endRetA (ra := [.agg [(.own true _)], .one (.d _)]) rfl rfl)))))))) (fun g4 => (by (simp [*] at g4))))))))))))))))) (fun g3 => (by omega))))))))))))))))))) (fun g2 => (by omega))))))))))))))))))))))))))))))))) (fun g0 => (by omega))))))))))
        · refine kSeq (kSeq (kReg (kMovC rfl (kMovC rfl (kLenR rfl rfl (kBin rfl rfl rfl (kDone (kCondP rfl (fun g0 => kSkip (kSeq (kBlock (kSeq (kSeq (kReg (kMovC rfl (kMovC rfl (kLenR rfl rfl (kBin rfl rfl rfl (kMovC rfl (kGP rfl (fun g1 => (by omega)) (fun g1 => kGF rfl (kGF rfl (kGF rfl (kGF rfl (kGF rfl (kPickF rfl (kMovC rfl (kDone (kCondF rfl (kSkip (kSeq (kSeq (kReg (kMovC rfl (kMovC rfl (kLenR rfl rfl (kBin rfl rfl rfl (kMovC rfl (kGP rfl (fun g2 => kGT rfl (kMovC rfl (kGT rfl (kLenR rfl rfl (kGT rfl (kBin rfl rfl rfl (kPickT rfl (kMovC rfl (kMovC rfl (kGT rfl (kMovC rfl (kGT rfl (kBin rfl rfl rfl (kPickT rfl (kMovC rfl (kDone (kCondP rfl (fun g3 => kExit (kExC (kExB' rfl (kExC (kExI (kExB (kSeq (kSeq (kReg (kLoadP rfl rfl rfl (kCallD (ok_spec_NameOk _ (by first | assumption | omega | solve_by_elim [List.getElem_mem] | (simp only [szOut] at *; omega) | exact rfl | exact leb) (by first | assumption | omega | solve_by_elim [List.getElem_mem] | (simp only [szOut] at *; omega) | exact rfl | exact leb)) ⟨⟨⟨rfl, trivial⟩, leb⟩, trivial⟩ rfl rfl rfl rfl rfl (kUn rfl rfl (kDone (kCondN rfl (fun g4 => (by (simp [*] at g4))) (fun g4 => kSkip (kSeq (kReg (kLoadP rfl rfl rfl (kStoreP rfl rfl rfl rfl (kMovC rfl (kDone (kRet (endRetA (ra := [.agg [(.own true _)], .one (.d _)]) rfl rfl))))))))))))))))))))))) (fun g3 => (by omega))))))))))))))))))) (fun g2 => (by omega))))))))))))))))))))))))))))))))) (fun g0 => (by omega))))))))))
      · rw [rd_end, if_neg hw] at *
        have hw' : (rdW b b.length).length ≠ 0 ∨ b.length = 0 := by
          rcases Nat.eq_zero_or_pos b.length with h | h
          · exact .inr h
          · exact .inl fun h0 => hw ⟨List.eq_nil_of_length_eq_zero h0, h⟩
        revert s1 s2
        generalize rdL b b.length = L at *
        generalize rdW b b.length = W at *
        intro s1 s2
        refine kSeq (kSeq (kReg (kMovC rfl (kMovC rfl (kLenR rfl rfl (kBin rfl rfl rfl (kDone (kCondP rfl (fun g0 => kSkip (kSeq (kBlock (kSeq (kSeq (kReg (kMovC rfl (kMovC rfl (kLenR rfl rfl (kBin rfl rfl rfl (kMovC rfl (kGP rfl (fun g1 => (by omega)) (fun g1 => kGF rfl (kGF rfl (kGF rfl (kGF rfl (kGF rfl (kPickF rfl (kMovC rfl (kDone (kCondF rfl (kSkip (kSeq (kSeq (kReg (kMovC rfl (kMovC rfl (kLenR rfl rfl (kBin rfl rfl rfl (kMovC rfl (kGP rfl (fun g2 => kGT rfl (kMovC rfl (kGT rfl (kLenR rfl rfl (kGT rfl (kBin rfl rfl rfl (kPickT rfl (kMovC rfl (kMovC rfl (kGP rfl (fun g3 => kGT rfl (kMovC rfl (kGT rfl (kBin rfl rfl rfl (kPickT rfl (kMovC rfl (kDone (kCondP rfl (fun g4 => (by omega)) (fun g4 => kSkip (kSeq (kRegD (kFadP rfl rfl (kLoadP rfl rfl rfl (kMovC rfl (kCall1 true (ok_spec_Lower _ (by first | assumption | omega | solve_by_elim [List.getElem_mem] | (simp only [szOut] at *; omega) | exact rfl | exact leb)) ⟨rfl, trivial⟩ rfl rfl rfl (fun _ => (kLit rfl rfl rfl rfl (kRelF rfl rfl (kAppR1 rfl rfl rfl rfl rfl rfl rfl rfl (by omega) (kFadP rfl rfl (kRelF rfl rfl (kStoreP rfl rfl rfl rfl (kDone (kH (kReg (kMovC rfl (kDone (kBk (kReg (kMovC rfl (kAdd rfl rfl (by omega) (kMovC rfl (kDone ?_))))))))))))))))))))))))))))))))) (fun g3 => kGF rfl (kGF rfl (kPickF rfl (kMovC rfl (kDone (kCondF rfl (kSkip (kSeq (kRegD (kFadP rfl rfl (kLoadP rfl rfl rfl (kMovC rfl (kCall1 true (ok_spec_Lower _ (by first | assumption | omega | solve_by_elim [List.getElem_mem] | (simp only [szOut] at *; omega) | exact rfl | exact leb)) ⟨rfl, trivial⟩ rfl rfl rfl (fun _ => (kLit rfl rfl rfl rfl (kRelF rfl rfl (kAppR1 rfl rfl rfl rfl rfl rfl rfl rfl (by omega) (kFadP rfl rfl (kRelF rfl rfl (kStoreP rfl rfl rfl rfl (kDone (kH (kReg (kMovC rfl (kDone (kBk (kReg (kMovC rfl (kAdd rfl rfl (by omega) (kMovC rfl (kDone ?_))))))))))))))))))))))))))))))))))))))))) (fun g2 => (by omega))))))))))))))))))))))))))))))))) (fun g0 => (by omega))))))))))
        all_goals
          refine kInv ⟨⟨b.length + 1, by omega⟩, by simp only; omega, ?_⟩
          simp only [s1, s2]
          exact (Sub.nilArr (j := 5) (id := rid 5000 0) (sz := 1) rfl (by decide)).trans .normA

def c_spec_l2of : C := (.seq (.reg false (.o 0 2 (.alloc 2 [(.n 1)]) .done)) (.seq (.reg false (.o 0 6 (.mov (.t 0)) (.o 1 7 (.s2b (.t 6)) (.o 2 8 (.call 8 7 [(.t 7)]) (.o 3 5 (.mov (.t 8)) (.o 4 9 (.ext (.t 5) 0) (.o 5 10 (.ext (.t 5) 1) (.o 6 3 (.alloc 3 [(.n 1)]) (.op 7 [] none none false (.store (some 1) (.t 3) (.t 9)) (.o 8 4 (.mov (.t 10)) .done)))))))))) (.seq (.reg false (.o 0 11 (.load (some 1) (.t 3)) (.op 1 [] none none false (.store (some 1) (.t 2) (.t 11)) .done))) .ret)))
theorem dg_spec_l2of : Tryd.f70.body.bind (digC Tryd.prog Tryd.f70.ntmps []) = some c_spec_l2of := by kernel_rfl
theorem rs_spec_l2of : resSlots Tryd.prog Tryd.f70 = some [.m 2 (some 1)] := by kernel_rfl
theorem ok_spec_l2of (b : ByteArray) (hb : b.size ≤ 4194303) :
    FnOK Tryd.prog 70 [.one (.d (.sc (.string b)))] (fun ra _ => ra = [.agg [.own true (encBB (readN b.toList))]]) := by
  refine FnOK.ofK Tryd.func70 (by kernel_rfl) dg_spec_l2of rs_spec_l2of rfl rfl ?_
  delta c_spec_l2of T.o X.i
  have h : b.toList.length ≤ 4194303 := by rw [bt_len]; exact hb
  refine kSeq (kReg (kAlloc rfl rfl (kDone (kSeq (kReg (kMovC rfl (kS2b rfl (by omega) (kCall1 true (ok_spec_NameRead _ (by first | assumption | omega | solve_by_elim [List.getElem_mem] | (simp only [szOut] at *; omega) | exact rfl | exact leb)) ⟨rfl, trivial⟩ rfl rfl rfl (fun _ => (kMovT rfl (kExtC rfl rfl (kExtC rfl rfl (kAlloc rfl rfl (kStoreP rfl rfl rfl rfl (kMovC rfl (kDone (kSeq (kReg (kLoadP rfl rfl rfl (kStoreP rfl rfl rfl rfl (kDone (kRet (endRetA (ra := [.agg [(.own true _)]]) rfl rfl)))))))))))))))))))))))

def c_spec_l1Byte : C := (.seq (.reg false (.o 0 2 (.mov (.i 0)) .done)) (.seq (.reg false (.o 0 4 (.mov (.t 0)) (.o 1 5 (.mov (.t 0)) (.o 2 6 (.nck (.t 5)) (.o 3 7 (.fad (.t 6) 2) (.o 4 8 (.load none (.t 7)) (.o 5 9 (.bin .mul (.t 8) (.i 6364136223846793005)) (.o 6 10 (.bin .add (.t 9) (.i 1442695040888963407)) (.o 7 11 (.nck (.t 4)) (.o 8 12 (.fad (.t 11) 2) (.op 9 [] none none false (.store none (.t 12) (.t 10)) .done))))))))))) (.seq (.reg true (.op 0 [] (some 13) none true (.mov (.t 0)) (.op 1 [] (some 14) none true (.nck (.t 13)) (.op 2 [] (some 15) none true (.fad (.t 14) 2) (.op 3 [] (some 16) none true (.load none (.t 15)) (.op 4 [] (some 17) none true (.bin .shr (.t 16) (.v (.int .u64 33))) (.op 5 [] (some 18) none true (.mov (.t 0)) (.op 6 [] (some 19) none true (.nck (.t 18)) (.op 7 [] (some 20) none true (.fad (.t 19) 2) (.op 8 [] (some 21) none true (.load none (.t 20)) (.op 9 [] (some 22) none true (.bin .shr (.t 21) (.v (.int .u64 45))) (.op 10 [] (some 23) none true (.bin .xor (.t 17) (.t 22)) (.op 11 [] (some 24) none true (.bin .and (.t 23) (.i 255)) (.op 12 [] (some 3) none true (.mov (.t 24)) .done)))))))))))))) (.seq (.seq (.reg true (.op 0 [] (some 25) none true (.mov (.t 0)) (.op 1 [] (some 26) none true (.nck (.t 25)) (.op 2 [] (some 27) none true (.fad (.t 26) 1) (.op 3 [] (some 28) none true (.load none (.t 27)) (.op 4 [] (some 29) none true (.mov (.t 0)) (.op 5 [] (some 30) none true (.nck (.t 29)) (.op 6 [] (some 31) none true (.fad (.t 30) 0) (.op 7 [] (some 32) none true (.load none (.t 31)) (.op 8 [] (some 33) none true (.len (.t 32)) (.op 9 [] (some 34) none true (.bin .lss (.t 28) (.t 33)) .done))))))))))) (.cond (.t 34) (.seq (.reg true (.op 0 [] (some 35) none true (.mov (.t 3)) (.op 1 [] (some 36) none true (.mov (.t 0)) (.op 2 [] (some 37) none true (.nck (.t 36)) (.op 3 [] (some 38) none true (.fad (.t 37) 0) (.op 4 [] (some 39) none true (.load none (.t 38)) (.op 5 [] (some 40) none true (.mov (.t 0)) (.op 6 [] (some 41) none true (.nck (.t 40)) (.op 7 [] (some 42) none true (.fad (.t 41) 1) (.op 8 [] (some 43) none true (.load none (.t 42)) (.op 9 [] (some 44) none true (.iad 1 (.t 39) (.t 43)) (.op 10 [] (some 45) none true (.load none (.t 44)) (.op 11 [] (some 46) none true (.conv .i64 (.t 45)) (.op 12 [] (some 47) none true (.bin .add (.t 35) (.t 46)) (.op 13 [] (some 48) none true (.bin .and (.t 47) (.i 255)) (.op 14 [] (some 3) none true (.mov (.t 48)) .done)))))))))))))))) (.reg false (.o 0 49 (.mov (.t 0)) (.o 1 50 (.mov (.t 0)) (.o 2 51 (.nck (.t 50)) (.o 3 52 (.fad (.t 51) 1) (.o 4 53 (.load none (.t 52)) (.o 5 54 (.bin .add (.t 53) (.i 1)) (.o 6 55 (.nck (.t 49)) (.o 7 56 (.fad (.t 55) 1) (.op 8 [] none none false (.store none (.t 56) (.t 54)) .done))))))))))) .skip)) (.seq (.reg false (.o 0 57 (.mov (.t 3)) (.o 1 2 (.mov (.t 57)) .done))) .ret)))))
theorem dg_spec_l1Byte : Tryd.f71.body.bind (digC Tryd.prog Tryd.f71.ntmps []) = some c_spec_l1Byte := by kernel_rfl
theorem rs_spec_l1Byte : resSlots Tryd.prog Tryd.f71 = some [.s 2] := by kernel_rfl
theorem ok_spec_l1Byte (c : Cu) :
    FnOK Tryd.prog 71 [.one (.box c.cells)] (fun ra os => ∃ x : Int × Cu, (0 ≤ x.1 ∧ x.1 ≤ 255) ∧ ra = [.one (.d (.sc (.int .i64 x.1)))] ∧ os.b 0 = x.2.cells) := by
  refine FnOK.ofK Tryd.func71 (by kernel_rfl) dg_spec_l1Byte rs_spec_l1Byte rfl rfl ?_
  delta c_spec_l1Byte T.o X.i
  have c0 := c.i0
  have c1 := c.i1
  have c2 := c.b
  refine kSeq (kReg (kMovC rfl (kDone (kSeq (kReg (kMovC rfl (kMovC rfl (kNck rfl rfl (kFadP rfl rfl (kLoadP rfl rfl rfl (kBin rfl rfl rfl (kBin rfl rfl rfl (kNck rfl rfl (kFadP rfl rfl (kStoreP rfl rfl rfl rfl (kDone (kSeq (kRegD (kMovC rfl (kNck rfl rfl (kFadP rfl rfl (kLoadP rfl rfl rfl (kShr (m := 33) rfl rfl rfl (kMovC rfl (kNck rfl rfl (kFadP rfl rfl (kLoadP rfl rfl rfl (kShr (m := 45) rfl rfl rfl (kBin rfl rfl rfl (kBin rfl rfl rfl (kMovC rfl (kDone (kH (kSeq (kSeq (kRegD (kMovC rfl (kNck rfl rfl (kFadP rfl rfl (kLoadP rfl rfl rfl (kMovC rfl (kNck rfl rfl (kFadP rfl rfl (kLoadP rfl rfl rfl (kLenR rfl rfl (kBin rfl rfl rfl (kDone (kH (kCondP rfl (fun g0 => kSeq (kRegD (kMovC rfl (kMovC rfl (kNck rfl rfl (kFadP rfl rfl (kLoadP rfl rfl rfl (kMovC rfl (kNck rfl rfl (kFadP rfl rfl (kLoadP rfl rfl rfl (kIadT rfl rfl (by omega) (kLoadD rfl rfl (kConv rfl (kBin rfl rfl rfl (kBin rfl rfl rfl (kMovC rfl (kDone (kH (kReg (kMovC rfl (kMovC rfl (kNck rfl rfl (kFadP rfl rfl (kLoadP rfl rfl rfl (kAdd rfl rfl (by omega) (kNck rfl rfl (kFadP rfl rfl (kStoreP rfl rfl rfl rfl (kDone (kSeq (kReg (kMovC rfl (kMovC rfl (kDone (kRet (endRetA (ra := [.one (.d _)]) rfl ?_))))))))))))))))))))))))))))))))))))) (fun g0 => kSkip (kSeq (kReg (kMovC rfl (kMovC rfl (kDone (kRet (endRetA (ra := [.one (.d _)]) rfl ?_)))))))))))))))))))))))))))))))))))))))))))))))))))))))))
  · refine ⟨(IntKind.i64.wrap ((_ &&& BitVec.ofInt 64 255).toNat : Int), ⟨c.code, c.i + 1, IntKind.i64.wrap _, by omega, by omega, c.b⟩), and255 _, rfl, rfl⟩
  · refine ⟨(IntKind.i64.wrap ((_ &&& BitVec.ofInt 64 255).toNat : Int), ⟨c.code, c.i, IntKind.i64.wrap _, c.i0, c.i1, c.b⟩), and255 _, rfl, rfl⟩

def c_spec_l1Below : C := (.seq (.reg false (.o 0 4 (.mov (.i 0)) .done)) (.seq (.seq (.reg false (.o 0 9 (.mov (.t 1)) (.o 1 10 (.bin .leq (.t 9) (.i 0)) .done))) (.cond (.t 10) (.seq (.reg false (.o 0 4 (.mov (.i 0)) .done)) .ret) .skip)) (.seq (.seq (.reg false (.o 0 11 (.mov (.t 1)) (.o 1 12 (.bin .leq (.t 11) (.i 256)) .done))) (.cond (.t 12) (.seq (.reg false (.o 0 13 (.mov (.t 0)) (.o 1 14 (.call 14 71 [(.t 13)]) (.o 2 15 (.mov (.t 1)) (.o 3 16 (.bin .rem (.t 14) (.t 15)) (.o 4 4 (.mov (.t 16)) .done)))))) .ret) .skip)) (.seq (.reg false (.o 0 17 (.mov (.t 0)) (.o 1 18 (.call 18 71 [(.t 17)]) (.o 2 5 (.mov (.t 18)) .done)))) (.seq (.reg false (.o 0 19 (.mov (.t 0)) (.o 1 20 (.call 20 71 [(.t 19)]) (.o 2 6 (.mov (.t 20)) .done)))) (.seq (.reg false (.o 0 21 (.mov (.t 0)) (.o 1 22 (.call 22 71 [(.t 21)]) (.o 2 7 (.mov (.t 22)) .done)))) (.seq (.reg false (.o 0 23 (.mov (.t 0)) (.o 1 24 (.call 24 71 [(.t 23)]) (.o 2 8 (.mov (.t 24)) .done)))) (.seq (.reg false (.o 0 25 (.mov (.t 5)) (.o 1 26 (.bin .mul (.t 25) (.i 16777216)) (.o 2 27 (.mov (.t 6)) (.o 3 28 (.bin .mul (.t 27) (.i 65536)) (.o 4 29 (.bin .add (.t 26) (.t 28)) (.o 5 30 (.mov (.t 7)) (.o 6 31 (.bin .mul (.t 30) (.i 256)) (.o 7 32 (.bin .add (.t 29) (.t 31)) (.o 8 33 (.mov (.t 8)) (.o 9 34 (.bin .add (.t 32) (.t 33)) (.o 10 35 (.mov (.t 1)) (.o 11 36 (.bin .rem (.t 34) (.t 35)) (.o 12 4 (.mov (.t 36)) .done)))))))))))))) .ret))))))))
theorem dg_spec_l1Below : Tryd.f47.body.bind (digC Tryd.prog Tryd.f47.ntmps []) = some c_spec_l1Below := by kernel_rfl
theorem rs_spec_l1Below : resSlots Tryd.prog Tryd.f47 = some [.s 4] := by kernel_rfl
theorem ok_spec_l1Below (c : Cu) (n : Int) :
    FnOK Tryd.prog 47 [.one (.box c.cells), .one (.d (.sc (.int .i64 n)))] (fun ra os => ∃ x : Int × Cu, (0 ≤ x.1 ∧ (x.1 < n ∨ x.1 = 0)) ∧ ra = [.one (.d (.sc (.int .i64 x.1)))] ∧ os.b 0 = x.2.cells) := by
  refine FnOK.ofK Tryd.func47 (by kernel_rfl) dg_spec_l1Below rs_spec_l1Below rfl rfl ?_
  delta c_spec_l1Below T.o X.i
  refine kSeq (kReg (kMovC rfl (kDone (kSeq (kSeq (kReg (kMovC rfl (kBin rfl rfl rfl (kDone (kCondP rfl (fun g0 => kSeq (kReg (kMovC rfl (kDone (kRet (endRetA (ra := [.one (.d _)]) rfl ?_)))))) (fun g0 => kSkip (kSeq (kSeq (kReg (kMovC rfl (kBin rfl rfl rfl (kDone (kCondP rfl (fun g1 => kSeq (kReg (kMovC rfl (kCallE (ok_spec_l1Byte _) ⟨⟨rfl, _, rfl, rfl⟩, trivial⟩ rfl rfl rfl (fun _ => rfl) (fun x2 hx2 => (kMovC rfl (kRem rfl rfl (by omega) (kMovC rfl (kDone (kRet (endRetA (ra := [.one (.d _)]) rfl ?_))))))))))) (fun g1 => kSkip (kSeq (kReg (kMovC rfl (kCallE (ok_spec_l1Byte _) ⟨⟨rfl, _, rfl, rfl⟩, trivial⟩ rfl rfl rfl (fun _ => rfl) (fun x3 hx3 => (kMovC rfl (kDone (kSeq (kReg (kMovC rfl (kCallE (ok_spec_l1Byte _) ⟨⟨rfl, _, rfl, rfl⟩, trivial⟩ rfl rfl rfl (fun _ => rfl) (fun x4 hx4 => (kMovC rfl (kDone (kSeq (kReg (kMovC rfl (kCallE (ok_spec_l1Byte _) ⟨⟨rfl, _, rfl, rfl⟩, trivial⟩ rfl rfl rfl (fun _ => rfl) (fun x5 hx5 => (kMovC rfl (kDone (kSeq (kReg (kMovC rfl (kCallE (ok_spec_l1Byte _) ⟨⟨rfl, _, rfl, rfl⟩, trivial⟩ rfl rfl rfl (fun _ => rfl) (fun x6 hx6 => (kMovC rfl (kDone (kSeq (kReg (kMovC rfl (kMul rfl rfl (by omega) (kMovC rfl (kMul rfl rfl (by omega) (kAdd rfl rfl (by omega) (kMovC rfl (kMul rfl rfl (by omega) (kAdd rfl rfl (by omega) (kMovC rfl (kAdd rfl rfl (by omega) (kMovC rfl (kRem rfl rfl (by omega) (kMovC rfl (kDone (kRet (endRetA (ra := [.one (.d _)]) rfl ?_)))))))))))))))))))))))))))))))))))))))))))))))))))))))))))))))))
  · exact ⟨(0, c), ⟨Int.le_refl _, .inr rfl⟩, rfl, rfl⟩
  · have := tmod_in (a := x2.1) (n := n) hx2.1 (by omega)
    exact ⟨(x2.1.tmod n, x2.2), ⟨this.1, .inl this.2⟩, rfl, rfl⟩
  · have := tmod_in (a := x3.1 * 16777216 + x4.1 * 65536 + x5.1 * 256 + x6.1) (n := n) (by omega) (by omega)
    exact ⟨(_, x6.2), ⟨this.1, .inl this.2⟩, rfl, rfl⟩

def c_spec_l2draw : C := (.seq (.reg false (.o 0 2 (.alloc 2 [(.n 1)]) .done)) (.seq (.reg false (.o 0 3 (.lit 3 1 [(.v (.string ⟨#[]⟩))] 12 [(0, 1, (.v (.string ⟨#[46]⟩))), (1, 1, (.v (.string ⟨#[104, 111, 109, 101, 46]⟩))), (2, 1, (.v (.string ⟨#[112, 99, 46, 104, 111, 109, 101, 46]⟩))), (3, 1, (.v (.string ⟨#[116, 118, 46, 104, 111, 109, 101, 46]⟩))), (4, 1, (.v (.string ⟨#[97, 46, 112, 99, 46, 104, 111, 109, 101, 46]⟩))), (5, 1, (.v (.string ⟨#[99, 111, 109, 46]⟩))), (6, 1, (.v (.string ⟨#[120, 46, 99, 111, 109, 46]⟩))), (7, 1, (.v (.string ⟨#[119, 119, 119, 46, 120, 46, 99, 111, 109, 46]⟩))), (8, 1, (.v (.string ⟨#[110, 115, 46, 99, 111, 109, 46]⟩))), (9, 1, (.v (.string ⟨#[51, 46, 48, 46, 48, 46, 49, 48, 46, 105, 110, 45, 97, 100, 100, 114, 46, 97, 114, 112, 97, 46]⟩))), (10, 1, (.v (.string ⟨#[115, 117, 98, 46, 104, 111, 109, 101, 46]⟩))), (11, 1, (.v (.string ⟨#[121, 46, 115, 117, 98, 46, 104, 111, 109, 101, 46]⟩)))]) (.o 1 4 (.mov (.t 0)) (.o 2 5 (.call 5 47 [(.t 4), (.i 12)]) (.o 3 6 (.iad 1 (.t 3) (.t 5)) (.o 4 7 (.load none (.t 6)) (.o 5 8 (.call 8 70 [(.t 7)]) (.op 6 [] none none false (.store (some 1) (.t 2) (.t 8)) .done)))))))) .ret))
theorem dg_spec_l2draw : Tryd.f45.body.bind (digC Tryd.prog Tryd.f45.ntmps []) = some c_spec_l2draw := by kernel_rfl
theorem rs_spec_l2draw : resSlots Tryd.prog Tryd.f45 = some [.m 2 (some 1)] := by kernel_rfl
theorem ok_spec_l2draw (c : Cu) :
    FnOK Tryd.prog 45 [.one (.box c.cells)] (fun ra os => ∃ x : List (List UInt8) × Cu, (nameOk x.1 = true) ∧ ra = [.agg [.own true (encBB x.1)]] ∧ os.b 0 = x.2.cells) := by
  refine FnOK.ofK Tryd.func45 (by kernel_rfl) dg_spec_l2draw rs_spec_l2draw rfl rfl ?_
  delta c_spec_l2draw T.o X.i
  refine kSeq (kReg (kAlloc rfl rfl (kDone (kSeq (kReg (kLitG rfl rfl rfl rfl (kMovC rfl (kCallE (ok_spec_l1Below _ _) ⟨⟨rfl, _, rfl, rfl⟩, rfl, trivial⟩ rfl rfl rfl (fun _ => rfl) (fun x0 hx0 => (kIadStr rfl rfl rfl rfl (by simp only [List.length_cons, List.length_nil]; omega) (kLoadStr rfl rfl rfl (by simp only [List.length_cons, List.length_nil]; omega) rfl (fun b1 hb1 => (kCall1 true (ok_spec_l2of _ (by first | assumption | omega | solve_by_elim [List.getElem_mem] | (simp only [szOut] at *; omega) | exact rfl | exact leb)) ⟨rfl, trivial⟩ rfl rfl rfl (fun _ => (kStoreP rfl rfl rfl rfl (kDone (kRet (endRetA (ra := [.agg [(.own true _)]]) rfl ?_))))))))))))))))))
  exact ⟨(readN b1.toList, x0.2), readN_ok _, rfl, rfl⟩

def c_spec_l1Once : C := (.seq (.reg false (.o 0 4 (.mov (.v (.bool false))) .done)) (.seq (.reg false (.o 0 5 (.mov (.t 0)) (.o 1 6 (.mov (.t 1)) (.o 2 7 (.call 7 47 [(.t 5), (.t 6)]) (.o 3 8 (.bin .eql (.t 7) (.i 0)) (.o 4 4 (.mov (.t 8)) .done)))))) .ret))
theorem dg_spec_l1Once : Tryd.f46.body.bind (digC Tryd.prog Tryd.f46.ntmps []) = some c_spec_l1Once := by kernel_rfl
theorem rs_spec_l1Once : resSlots Tryd.prog Tryd.f46 = some [.s 4] := by kernel_rfl
theorem ok_spec_l1Once (c : Cu) (n : Int) :
    FnOK Tryd.prog 46 [.one (.box c.cells), .one (.d (.sc (.int .i64 n)))] (fun ra os => ∃ x : Bool × Cu, True ∧ ra = [.one (.d (.sc (.bool x.1)))] ∧ os.b 0 = x.2.cells) := by
  refine FnOK.ofK Tryd.func46 (by kernel_rfl) dg_spec_l1Once rs_spec_l1Once rfl rfl ?_
  delta c_spec_l1Once T.o X.i
  refine kSeq (kReg (kMovC rfl (kDone (kSeq (kReg (kMovC rfl (kMovC rfl (kCallE (ok_spec_l1Below _ _) ⟨⟨rfl, _, rfl, rfl⟩, rfl, trivial⟩ rfl rfl rfl (fun _ => rfl) (fun x0 hx0 => (kBin rfl rfl rfl (kMovC rfl (kDone (kRet (endRetA (ra := [.one (.d _)]) rfl ?_))))))))))))))
  exact ⟨(_, x0.2), trivial, rfl, rfl⟩

def c_spec_l2bent : C := (.seq (.reg false (.o 0 2 (.alloc 2 [(.n 1)]) .done)) (.seq (.reg false (.o 0 4 (.mov (.t 0)) (.o 1 5 (.call 5 45 [(.t 4)]) (.o 2 3 (.alloc 3 [(.n 1)]) (.op 3 [] none none false (.store (some 1) (.t 3) (.t 5)) .done))))) (.seq (.seq (.reg false (.o 0 6 (.mov (.t 0)) (.o 1 7 (.call 7 46 [(.t 6), (.i 9)]) .done))) (.cond (.t 7) (.seq (.reg false (.o 0 8 (.mov (.t 0)) (.o 1 9 (.call 9 47 [(.t 8), (.i 4)]) .done))) (.block 0 (.seq (.reg false (.o 0 22 (.bin .eql (.t 9) (.i 0)) (.o 1 21 (.mov (.t 22)) .done))) (.cond (.t 21) (.reg false (.o 0 23 (.fad (.t 3) 0) (.o 1 24 (.load none (.t 23)) (.o 2 25 (.lit 25 1 [(.n 1)] 1 [(0, 1, (.n 1))]) (.o 3 26 (.app 26 1 24 (.t 24) (.t 25)) (.o 4 27 (.fad (.t 3) 0) (.op 5 [] none none false (.store none (.t 27) (.t 26)) .done))))))) (.seq (.reg false (.o 0 29 (.bin .eql (.t 9) (.i 1)) (.o 1 28 (.mov (.t 29)) .done))) (.cond (.t 28) (.reg false (.o 0 30 (.fad (.t 3) 0) (.o 1 31 (.load none (.t 30)) (.o 2 32 (.lit 32 1 [(.v (.int .u8 0))] 1 [(0, 1, (.v (.int .u8 81)))]) (.o 3 33 (.s2s (.t 32)) (.o 4 34 (.lit 34 1 [(.n 1)] 1 [(0, 1, (.t 33))]) (.o 5 35 (.app 35 1 24 (.t 31) (.t 34)) (.o 6 36 (.fad (.t 3) 0) (.op 7 [] none none false (.store none (.t 36) (.t 35)) .done))))))))) (.seq (.reg false (.o 0 38 (.bin .eql (.t 9) (.i 2)) (.o 1 37 (.mov (.t 38)) .done))) (.cond (.t 37) (.reg true (.op 0 [] (some 39) none true (.fad (.t 3) 0) (.op 1 [] (some 40) none true (.load none (.t 39)) (.op 3 [] (some 42) none true (.mov (.t 0)) (.alt (.o 2 41 (.lit 41 1 [(.v (.string ⟨#[]⟩))] 2 [(0, 1, (.v (.string ⟨#[97, 98, 99, 100, 101, 102, 103, 104, 105, 106, 107, 108, 109, 110, 111]⟩))), (1, 1, (.v (.string ⟨#[97, 98, 99, 100, 101, 102, 103, 104, 105, 106, 107, 108, 109, 110, 111, 112]⟩)))]) (.o 4 43 (.call 43 47 [(.t 42), (.i 2)]) (.op 5 [] (some 44) none true (.iad 1 (.t 41) (.t 43)) (.op 6 [] (some 45) none true (.load none (.t 44)) (.op 7 [6] (some 46) none false (.s2b (.t 45)) (.op 8 [6] (some 47) none false (.lit 47 1 [(.n 1)] 1 [(0, 1, (.t 46))]) (.op 9 [1, 6] (some 48) none false (.app 48 1 24 (.t 40) (.t 47)) (.op 10 [] (some 49) none true (.fad (.t 3) 0) (.op 11 [1, 6] none none false (.store none (.t 49) (.t 48)) .done))))))))) (.o 4 43 (.call 43 47 [(.t 42), (.i 2)]) (.o 2 41 (.lit 41 1 [(.v (.string ⟨#[]⟩))] 2 [(0, 1, (.v (.string ⟨#[97, 98, 99, 100, 101, 102, 103, 104, 105, 106, 107, 108, 109, 110, 111]⟩))), (1, 1, (.v (.string ⟨#[97, 98, 99, 100, 101, 102, 103, 104, 105, 106, 107, 108, 109, 110, 111, 112]⟩)))]) (.op 5 [] (some 44) none true (.iad 1 (.t 41) (.t 43)) (.op 6 [] (some 45) none true (.load none (.t 44)) (.op 7 [6] (some 46) none false (.s2b (.t 45)) (.op 8 [6] (some 47) none false (.lit 47 1 [(.n 1)] 1 [(0, 1, (.t 46))]) (.op 9 [1, 6] (some 48) none false (.app 48 1 24 (.t 40) (.t 47)) (.op 10 [] (some 49) none true (.fad (.t 3) 0) (.op 11 [1, 6] none none false (.store none (.t 49) (.t 48)) .done)))))))))))))) (.block 1 (.loop (.seq (.seq (.reg false (.o 0 10 (.fad (.t 3) 0) (.o 1 11 (.load none (.t 10)) (.o 2 12 (.len (.t 11)) (.o 3 13 (.bin .leq (.t 12) (.i 6)) .done))))) (.cond (.t 13) .skip (.exit 1))) (.block 2 (.reg false (.o 0 14 (.fad (.t 3) 0) (.o 1 15 (.load none (.t 14)) (.o 2 16 (.lit 16 1 [(.v (.int .u8 0))] 1 [(0, 1, (.v (.int .u8 122)))]) (.o 3 17 (.s2s (.t 16)) (.o 4 18 (.lit 18 1 [(.n 1)] 1 [(0, 1, (.t 17))]) (.o 5 19 (.app 19 1 24 (.t 15) (.t 18)) (.o 6 20 (.fad (.t 3) 0) (.op 7 [] none none false (.store none (.t 20) (.t 19)) .done))))))))))))))))))))) .skip)) (.seq (.reg false (.o 0 50 (.load (some 1) (.t 3)) (.op 1 [] none none false (.store (some 1) (.t 2) (.t 50)) .done))) .ret))))
theorem dg_spec_l2bent : Tryd.f38.body.bind (digC Tryd.prog Tryd.f38.ntmps []) = some c_spec_l2bent := by kernel_rfl
theorem rs_spec_l2bent : resSlots Tryd.prog Tryd.f38 = some [.m 2 (some 1)] := by kernel_rfl
theorem ok_spec_l2bent (c : Cu) :
    FnOK Tryd.prog 38 [.one (.box c.cells)] (fun ra os => ∃ x : List (List UInt8) × Cu, (x.1.length ≤ 7 ∧ ∀ b ∈ x.1, b.length ≤ 64) ∧ ra = [.agg [.d (encBB x.1)]] ∧ os.b 0 = x.2.cells) := by
  refine FnOK.ofK Tryd.func38 (by kernel_rfl) dg_spec_l2bent rs_spec_l2bent rfl rfl ?_
  delta c_spec_l2bent T.o X.i
  refine kSeq (kReg (kAlloc rfl rfl (kDone (kSeq (kReg (kMovC rfl (kCallE (ok_spec_l2draw _) ⟨⟨rfl, _, rfl, rfl⟩, trivial⟩ rfl rfl rfl (fun _ => rfl) (fun x0 hx0 => (kAlloc rfl rfl (kStoreP rfl rfl rfl rfl (kDone (kSeq (kSeq (kReg (kMovC rfl (kCallE (ok_spec_l1Once _ _) ⟨⟨rfl, _, rfl, rfl⟩, rfl, trivial⟩ rfl rfl rfl (fun _ => rfl) (fun x1 hx1 => (kDone (kCond rfl (fun g2 => kSeq (kReg (kMovC rfl (kCallE (ok_spec_l1Below _ _) ⟨⟨rfl, _, rfl, rfl⟩, rfl, trivial⟩ rfl rfl rfl (fun _ => rfl) (fun x3 hx3 => (kDone (kBlock (kSeq (kReg (kBin rfl rfl rfl (kMovC rfl (kDone (kCondP rfl (fun g4 => kReg (kFadP rfl rfl (kLoadP rfl rfl rfl (kLitG rfl rfl rfl rfl ?_)))) (fun g4 => kSeq (kReg (kBin rfl rfl rfl (kMovC rfl (kDone (kCondP rfl (fun g5 => kReg (kFadP rfl rfl (kLoadP rfl rfl rfl (kLitG rfl rfl rfl rfl (kS2sB (y := 81) (ys := []) rfl rfl rfl (kLitG rfl rfl rfl rfl ?_)))))) (fun g5 => kSeq (kReg (kBin rfl rfl rfl (kMovC rfl (kDone (kCondP rfl (fun g6 => kRegD (kFadP rfl rfl (kLoadP rfl rfl rfl (kMovC rfl (kAlt (kLitG rfl rfl rfl rfl (kCallE (ok_spec_l1Below _ _) ⟨⟨rfl, _, rfl, rfl⟩, rfl, trivial⟩ rfl rfl rfl (fun _ => rfl) (fun x8 hx8 => (kIadStr rfl rfl rfl rfl (by simp only [List.length_cons, List.length_nil]; omega) (kLoadStr rfl rfl rfl (by simp only [List.length_cons, List.length_nil]; omega) rfl (fun b9 hb9 => (kRelK rfl rfl (kS2b rfl (by omega) (kRelK rfl rfl (kLitG rfl rfl rfl rfl (kRelF rfl rfl ?_))))))))))) (kCallE (ok_spec_l1Below _ _) ⟨⟨rfl, _, rfl, rfl⟩, rfl, trivial⟩ rfl rfl rfl (fun _ => rfl) (fun x10 hx10 => (kLitG rfl rfl rfl rfl (kIadStr rfl rfl rfl rfl (by simp only [List.length_cons, List.length_nil]; omega) (kLoadStr rfl rfl rfl (by simp only [List.length_cons, List.length_nil]; omega) rfl (fun b11 hb11 => (kRelK rfl rfl (kS2b rfl (by omega) (kRelK rfl rfl (kLitG rfl rfl rfl rfl (kRelF rfl rfl ?_)))))))))))))))) (fun g6 => kBlock ?_)))))))))))))))))))))))))) (fun g2 => kSkip (kSeq (kReg (kLoadP rfl rfl rfl (kStoreP rfl rfl rfl rfl (kDone (kRet (endRetA (ra := [.agg [(.d _)]]) rfl ?_)))))))))))))))))))))))))))
  · have h6 := nameOk_len hx0
    refine kAppR1 (z := ([] : List UInt8)) rfl rfl rfl rfl rfl rfl rfl rfl (by omega) ?_
    refine (kFadP rfl rfl (kStoreP rfl rfl rfl rfl (kDone (kBk (kSeq (kReg (kLoadP rfl rfl rfl (kStoreP rfl rfl rfl rfl (kDone (kRet (endRetA (ra := [.agg [(.d _)]]) rfl ?_)))))))))))
    exact ⟨(_, x3.2), bent_app hx0 (by decide), rfl, rfl⟩
  · have h6 := nameOk_len hx0
    refine kAppR1 (z := ([81] : List UInt8)) rfl rfl rfl rfl rfl rfl rfl rfl (by omega) ?_
    refine kFadP rfl rfl (kStoreP rfl rfl rfl rfl (kDone (kBk (kSeq (kReg (kLoadP rfl rfl rfl (kStoreP rfl rfl rfl rfl (kDone (kRet (endRetA (ra := [.agg [(.d _)]]) rfl ?_))))))))))
    exact ⟨(_, x3.2), bent_app hx0 (by decide), rfl, rfl⟩
  · have h6 := nameOk_len hx0
    refine kAppR1 (z := b9.toList) rfl rfl rfl rfl rfl rfl rfl rfl (by omega) ?_
    refine kFadP rfl rfl (kRelF rfl rfl (kStoreP rfl rfl rfl rfl (kDone (kH (kBk (kSeq (kReg (kLoadP rfl rfl rfl (kStoreP rfl rfl rfl rfl (kDone (kRet (endRetA (ra := [.agg [(.d _)]]) rfl ?_))))))))))))
    exact ⟨(_, x8.2), bent_app hx0 (by rw [bt_len]; exact hb9), rfl, rfl⟩
  · have h6 := nameOk_len hx0
    refine kAppR1 (z := b11.toList) rfl rfl rfl rfl rfl rfl rfl rfl (by omega) ?_
    refine kFadP rfl rfl (kRelF rfl rfl (kStoreP rfl rfl rfl rfl (kDone (kH (kBk (kSeq (kReg (kLoadP rfl rfl rfl (kStoreP rfl rfl rfl rfl (kDone (kRet (endRetA (ra := [.agg [(.d _)]]) rfl ?_))))))))))))
    exact ⟨(_, x10.2), bent_app hx0 (by rw [bt_len]; exact hb11), rfl, rfl⟩
  · refine kLoop (α := { L : List (List UInt8) // L.length ≤ 7 ∧ ∀ b ∈ L, b.length ≤ 64 }) (fun y => ⟨tabSl [(2, .c (.ptr (rid 2 0) 1 0)), (3, .c (.ptr (rid 3 0) 1 0))], obTab 1 [(0, ⟨0, 0, .box (x3.2.cells.map .d)⟩), (rid 2 0, ⟨1, 0, .box [.nil 1]⟩), (rid 3 0, ⟨1, 0, .box [.arr (rid 5 0) 1]⟩), (rid 5 0, ⟨1, 0, .arr false (encBB y.1)⟩)], []⟩) (fun y => 7 - y.1.length) ⟨x0.1, bent_ok hx0⟩ .normA ?_
    rintro ⟨L, h7, hL⟩
    simp only
    rcases Nat.lt_or_ge L.length 7 with hlt | hge
    · refine kSeq (kSeq (kReg (kFadP rfl rfl (kLoadP rfl rfl rfl (kLenR rfl rfl (kBin rfl rfl rfl (kDone (kCondP rfl (fun g0 => kSkip (kBlock (kReg (kFadP rfl rfl (kLoadP rfl rfl rfl (kLitG rfl rfl rfl rfl (kS2sB (y := 122) (ys := []) rfl rfl rfl (kLitG rfl rfl rfl rfl (kAppR1 rfl rfl rfl rfl rfl rfl rfl rfl (by first | omega | (simp only [List.length_append, List.length_cons, List.length_nil]; omega)) (kFadP rfl rfl (kStoreP rfl rfl rfl rfl (kDone (kBk ?_))))))))))))) (fun g0 => (by omega))))))))))
      refine kInv ⟨⟨L ++ [[122]], by simp; omega, fun b hb => ?_⟩, by simp; omega, .normA⟩
      rcases List.mem_append.1 hb with hb | hb
      · exact hL b hb
      · simp only [List.mem_singleton] at hb; subst hb; decide
    · refine kSeq (kSeq (kReg (kFadP rfl rfl (kLoadP rfl rfl rfl (kLenR rfl rfl (kBin rfl rfl rfl (kDone (kCondP rfl (fun g0 => (by omega)) (fun g0 => kExit (kExC (kExI (kExB (kBk (kSeq (kReg (kLoadP rfl rfl rfl (kStoreP rfl rfl rfl rfl (kDone (kRet (endRetA (ra := [.agg [(.d _)]]) rfl ?_))))))))))))))))))))
      exact ⟨(L, x3.2), ⟨h7, hL⟩, rfl, rfl⟩
  · exact ⟨(x0.1, x1.2), bent_ok hx0, rfl, rfl⟩

def c_spec_DrawNameText : C := (.seq (.reg false (.o 0 2 (.alloc 2 [(.n 1)]) .done)) (.seq (.reg false (.o 0 3 (.mov (.t 0)) (.o 1 4 (.call 4 39 [(.t 3)]) (.o 2 5 (.call 5 38 [(.t 4)]) (.op 3 [] none none false (.store (some 1) (.t 2) (.t 5)) .done))))) .ret))
theorem dg_spec_DrawNameText : Tryd.f15.body.bind (digC Tryd.prog Tryd.f15.ntmps []) = some c_spec_DrawNameText := by kernel_rfl
theorem rs_spec_DrawNameText : resSlots Tryd.prog Tryd.f15 = some [.m 2 (some 1)] := by kernel_rfl
theorem ok_spec_DrawNameText (code : List UInt8) (hb : (code.length : Int) ≤ 9223372036854775807) :
    FnOK Tryd.prog 15 [.one (.d (encB code))] (fun ra _ => ∃ x : List (List UInt8), (SmallBB x) ∧ ra = [.agg [.d (encBB x)]]) := by
  refine FnOK.ofK Tryd.func15 (by kernel_rfl) dg_spec_DrawNameText rs_spec_DrawNameText rfl rfl ?_
  delta c_spec_DrawNameText T.o X.i
  refine kSeq (kReg (kAlloc rfl rfl (kDone (kSeq (kReg (kMovC rfl (kCallX false (ok_spec_l1New _ (by first | assumption | omega | solve_by_elim [List.getElem_mem] | (simp only [szOut] at *; omega) | exact rfl | exact leb | exact rrOk_small (by assumption) | exact zoneOk_small (by assumption) | exact SmallBB.ok (by assumption) | exact (SmallBB.ok (by assumption)).len | exact (SmallBB.ok (by assumption)).mem | exact SmallBB.bent (by assumption))) ⟨rfl, trivial⟩ rfl (fun _ => rfl) (fun _ => rfl) (fun x0 _ hx0 => (kCallE (ok_spec_l2bent _) ⟨⟨rfl, _, rfl, rfl⟩, trivial⟩ rfl rfl rfl (fun _ => rfl) (fun x1 hx1 => (kStoreP rfl rfl rfl rfl (kDone (kMem [(12288, ⟨1, 0, .box [.d _]⟩)] [(2, .c (.ptr 12288 1 0))] [] ⟨rfl, trivial⟩ ⟨rfl, trivial⟩ rfl (kRet (endRetA (ra := [.agg [(.d _)]]) rfl ?_)))))))))))))))
  exact ⟨x1.1, .bent hx1, rfl⟩

def c_impl_within : C := (.seq (.reg false (.o 0 6 (.mov (.v (.bool false))) .done)) (.seq (.reg false (.o 0 7 (.mov (.t 1)) (.o 1 8 (.mov (.t 0)) (.o 2 9 (.bin .leq (.t 7) (.t 8)) (.o 3 10 (.mov (.t 9)) (.op 4 [] (some 11) (some (10, true)) false (.mov (.t 0)) (.op 5 [] (some 12) (some (10, true)) false (.mov (.t 2)) (.op 6 [] (some 13) (some (10, true)) false (.bin .leq (.t 11) (.t 12)) (.o 7 14 (.pick (.t 10) (.t 13) (.v (.bool false))) (.o 8 6 (.mov (.t 14)) .done)))))))))) .ret))
theorem dg_impl_within : Tryd.f67.body.bind (digC Tryd.prog Tryd.f67.ntmps []) = some c_impl_within := by kernel_rfl
theorem rs_impl_within : resSlots Tryd.prog Tryd.f67 = some [.s 6] := by kernel_rfl
theorem ok_impl_within (n lo hi : Int) : FnOK Tryd.prog 67 [.one (.d (.sc (.int .i64 n))), .one (.d (.sc (.int .i64 lo))), .one (.d (.sc (.int .i64 hi)))] (fun ra _ => ra = [.one (.d (.sc (.bool (decide (lo ≤ n ∧ n ≤ hi)))))]) := by
  refine FnOK.ofK Tryd.func67 (by kernel_rfl) dg_impl_within rs_impl_within rfl rfl ?_
  delta c_impl_within T.o X.i
  repeat' first
    | refine kSeq ?_ | refine kReg ?_ | refine kDone ?_ | refine kMovC rfl ?_ | refine kBin rfl rfl rfl ?_
    | refine kGT rfl ?_ | refine kGF rfl ?_ | refine kGU rfl ?_ | refine kG rfl (fun h => ?_) (fun h => ?_)
    | refine kPickT rfl ?_ | refine kPickF rfl ?_ | refine kPick rfl (fun h => ?_) (fun h => ?_) | refine kRet ?_
  all_goals refine endRet (ra := [.one (.d _)]) rfl ⟨⟨⟨rfl, .inl rfl⟩, trivial⟩, .nil, trivial, trivial, trivial, trivial⟩ ?_
  all_goals simp_all
  all_goals omega

def c_impl_all_byte_1 : C := (.seq (.reg false (.o 0 3 (.mov (.v (.bool false))) .done)) (.seq (.reg false (.o 0 4 (.load none (.t 1)) (.o 1 5 (.mov (.t 0)) (.o 2 6 (.callv 6 (.t 4) [(.t 5)]) (.o 3 7 (.un .not (.t 6)) (.o 4 3 (.mov (.t 7)) .done)))))) .ret))
theorem dg_impl_all_byte_1 : Tryd.f83.body.bind (digC Tryd.prog Tryd.f83.ntmps []) = some c_impl_all_byte_1 := by kernel_rfl
theorem rs_impl_all_byte_1 : resSlots Tryd.prog Tryd.f83 = some [.s 3] := by kernel_rfl
theorem ok_impl_all_byte_1 (x : DV) (D : DV → Prop) (g : DV → Bool) (hx : D x) :
    FnOK Tryd.prog 83 [.one (.d x), .one (.ptr [.fv false (fcPred D g)])] (fun ra _ => ra = [.one (.d (.sc (.bool (!g x))))]) := by
  refine FnOK.ofK Tryd.func83 (by kernel_rfl) dg_impl_all_byte_1 rs_impl_all_byte_1 rfl rfl ?_
  delta c_impl_all_byte_1 T.o X.i
  refine kSeq (kReg (kMovC rfl (kDone ?_)))
  refine kSeq (kReg (kLoadC rfl rfl (kMovC rfl (kCallv rfl ⟨x, hx, rfl, rfl⟩ ⟨rfl, trivial⟩ (.inr ?_) rfl ?_ rfl ?_))))
  · rintro _ rfl; rfl
  · rintro _ rfl; exact leb
  rintro _ rfl
  refine kUn rfl rfl (kMovC rfl (kDone (kRet ?_)))
  exact endRet (ra := [.one (.d _)]) rfl ⟨⟨⟨rfl, .inl rfl⟩, trivial⟩, .nil, trivial, trivial, trivial⟩ rfl

def c_slices_IndexFunc_Lbyte_byte : C := (.seq (.reg false (.o 0 4 (.mov (.i 0)) .done)) (.seq (.seq (.reg false (.o 0 6 (.mov (.t 0)) (.o 1 7 (.len (.t 6)) (.o 2 8 (.mov (.i 0)) .done)))) (.block 0 (.loop (.seq (.reg false (.o 0 9 (.bin .lss (.t 8) (.t 7)) .done)) (.seq (.cond (.t 9) .skip (.exit 0)) (.seq (.block 1 (.seq (.reg false (.o 0 10 (.mov (.t 8)) (.o 1 5 (.mov (.t 10)) .done))) (.seq (.reg false (.o 0 11 (.mov (.t 1)) (.o 1 12 (.mov (.t 0)) (.o 2 13 (.mov (.t 5)) (.o 3 14 (.iad 1 (.t 12) (.t 13)) (.o 4 15 (.load none (.t 14)) (.o 5 16 (.callv 16 (.t 11) [(.t 15)]) .done))))))) (.cond (.t 16) (.seq (.reg false (.o 0 17 (.mov (.t 5)) (.o 1 4 (.mov (.t 17)) .done))) .ret) .skip)))) (.reg false (.o 0 18 (.bin .add (.t 8) (.i 1)) (.o 1 8 (.mov (.t 18)) .done))))))))) (.seq (.reg false (.o 0 4 (.mov (.i (-1))) .done)) .ret)))
theorem dg_slices_IndexFunc_Lbyte_byte : Tryd.f93.body.bind (digC Tryd.prog Tryd.f93.ntmps []) = some c_slices_IndexFunc_Lbyte_byte := by kernel_rfl
theorem rs_slices_IndexFunc_Lbyte_byte : resSlots Tryd.prog Tryd.f93 = some [.s 4] := by kernel_rfl
theorem ok_slices_IndexFunc_Lbyte_byte (l : List DV) (D : DV → Prop) (g : DV → Bool) (hl : (l.length : Int) ≤ 9223372036854775807) (hD : ∀ x ∈ l, D x) :
    FnOK Tryd.prog 93 [.one (.d (lst l)), .one (.fv false (fcPred D g))] (fun ra _ => ra = [.one (.d (.sc (.int .i64 (idxF g l))))]) := by
  refine FnOK.ofK Tryd.func93 (by kernel_rfl) dg_slices_IndexFunc_Lbyte_byte rs_slices_IndexFunc_Lbyte_byte rfl rfl ?_
  delta c_slices_IndexFunc_Lbyte_byte T.o X.i
  refine kSeq (kReg (kMovC rfl (kDone ?_)))
  refine kSeq (kSeq (kReg (kMovC rfl (kLen rfl rfl rfl (kMovC rfl (kDone (kBlock ?_)))))))
  rw [len_lst]
  refine kLoop (α := { i : Nat // i ≤ l.length ∧ ∀ x ∈ l.take i, g x = false })
    (fun y => ⟨tabSl [(0, .dv (lst l)), (1, .c (.fv false (fcPred D g))), (7, .i l.length), (8, .i y.1)], (St.init [.one (.d (lst l)), .one (.fv false (fcPred D g))]).ob, []⟩) (fun y => l.length - y.1) ⟨0, by simp⟩
    (.tab rfl ⟨.refl _, .refl _, .refl _, .refl _, trivial⟩) ?_
  rintro ⟨i, hi, hg⟩
  simp only
  refine kSeq (kReg (kBin rfl rfl rfl (kDone ?_)))
  refine kSeq (kCond rfl (fun h1 => ?_) (fun h1 => ?_))
  · have hlt : i < l.length := by simp at h1; omega
    refine kSkip (kSeq (kBlock (kSeq (kReg (kMovC rfl (kMovC rfl (kDone ?_)))))))
    refine kSeq (kReg (kMovC rfl (kMovC rfl (kMovC rfl (kIadD rfl rfl rfl rfl ?_ ?_)))))
    · rw [len_lst]; omega
    rw [show (lst l).row (i : Int).toNat = [l[i]] from row_lst l i hlt]
    refine kLoadD rfl rfl (kCallv rfl ⟨l[i], hD _ (List.getElem_mem hlt), rfl, rfl⟩ ⟨rfl, trivial⟩ (.inr ?_) rfl ?_ rfl ?_)
    · rintro _ rfl; rfl
    · rintro _ rfl; exact leb
    rintro _ rfl
    refine kDone (kCond rfl (fun h2 => ?_) (fun h2 => ?_))
    · refine kSeq (kReg (kMovC rfl (kMovC rfl (kDone (kRet ?_)))))
      refine endRet (ra := [.one (.d _)]) rfl ⟨⟨⟨rfl, .inl rfl⟩, trivial⟩, .nil, trivial, trivial, trivial⟩ ?_
      have : l.findIdx? g = some i := by
        rw [List.findIdx?_eq_some_iff_getElem]
        refine ⟨hlt, h2, fun j hj => ?_⟩
        simpa using hg _ (by rw [List.mem_take_iff_getElem]; exact ⟨j, by omega, rfl⟩)
      simp [idxF, this]
    · refine kSkip (kBk (kReg (kAdd rfl rfl ?_ (kMovC rfl (kDone (kInv ?_))))))
      · omega
      refine ⟨⟨i + 1, hlt, ?_⟩, by simp only; omega, .tab rfl ⟨.refl _, .refl _, .refl _, .refl _, trivial⟩⟩
      intro x hx
      rw [← List.take_append_getElem hlt, List.mem_append] at hx
      rcases hx with hx | hx
      · exact hg x hx
      · simp at hx; rw [hx]; exact h2
  · refine kExit (kExC (kExI (kExB ?_)))
    have hge : i = l.length := by simp at h1; omega
    refine kSeq (kReg (kMovC rfl (kDone (kRet ?_))))
    refine endRet (ra := [.one (.d _)]) rfl ⟨⟨⟨rfl, .inl rfl⟩, trivial⟩, .nil, trivial, trivial, trivial⟩ ?_
    have : l.findIdx? g = none := by
      rw [List.findIdx?_eq_none_iff]
      intro x hx
      rw [hge, List.take_length] at hg
      exact hg x hx
    simp [idxF, this]

def c_slices_ContainsFunc_Lbyte_byte : C := (.seq (.reg false (.o 0 4 (.mov (.v (.bool false))) .done)) (.seq (.reg false (.o 0 5 (.mov (.t 0)) (.o 1 6 (.mov (.t 1)) (.o 2 7 (.call 7 93 [(.t 5), (.t 6)]) (.o 3 8 (.bin .geq (.t 7) (.i 0)) (.o 4 4 (.mov (.t 8)) .done)))))) .ret))
theorem dg_slices_ContainsFunc_Lbyte_byte : Tryd.f82.body.bind (digC Tryd.prog Tryd.f82.ntmps []) = some c_slices_ContainsFunc_Lbyte_byte := by kernel_rfl
theorem rs_slices_ContainsFunc_Lbyte_byte : resSlots Tryd.prog Tryd.f82 = some [.s 4] := by kernel_rfl
theorem ok_slices_ContainsFunc_Lbyte_byte (l : List DV) (D : DV → Prop) (g : DV → Bool) (hl : (l.length : Int) ≤ 9223372036854775807) (hD : ∀ x ∈ l, D x) :
    FnOK Tryd.prog 82 [.one (.d (lst l)), .one (.fv false (fcPred D g))] (fun ra _ => ra = [.one (.d (.sc (.bool (l.any g))))]) := by
  refine FnOK.ofK Tryd.func82 (by kernel_rfl) dg_slices_ContainsFunc_Lbyte_byte rs_slices_ContainsFunc_Lbyte_byte rfl rfl ?_
  delta c_slices_ContainsFunc_Lbyte_byte T.o X.i
  refine kSeq (kReg (kMovC rfl (kDone ?_)))
  refine kSeq (kReg (kMovC rfl (kMovC rfl ?_)))
  refine kCall1 true (ok_slices_IndexFunc_Lbyte_byte l D g hl hD) ⟨rfl, ⟨fun h => h, fun _ _ h => h⟩, trivial⟩ rfl rfl rfl fun os => ?_
  refine kBin rfl rfl rfl (kMovC rfl (kDone (kRet ?_)))
  refine endRet (ra := [.one (.d _)]) rfl ⟨⟨⟨rfl, .inl rfl⟩, trivial⟩, .nil, trivial, trivial, trivial⟩ ?_
  have : decide (idxF g l ≥ 0) = l.any g := by
    unfold idxF
    cases h : l.findIdx? g with
    | none =>
      rw [List.findIdx?_eq_none_iff] at h
      have : l.any g = false := by rw [List.any_eq_false]; intro x hx; simp [h x hx]
      rw [this]; rfl
    | some i =>
      rw [List.findIdx?_eq_some_iff_getElem] at h
      obtain ⟨h1, h2, _⟩ := h
      have : l.any g = true := by rw [List.any_eq_true]; exact ⟨_, List.getElem_mem h1, h2⟩
      rw [this]; simp
  rw [this]

def c_impl_all_byte : C := (.seq (.reg false (.o 0 3 (.box 3 (.t 1)) (.o 1 4 (.mov (.v (.bool false))) .done))) (.seq (.reg false (.o 0 5 (.mov (.t 0)) (.o 1 6 (.clo 83 [] [(.t 3)]) (.o 2 7 (.call 7 82 [(.t 5), (.t 6)]) (.o 3 8 (.un .not (.t 7)) (.o 4 4 (.mov (.t 8)) .done)))))) .ret))
theorem dg_impl_all_byte : Tryd.f68.body.bind (digC Tryd.prog Tryd.f68.ntmps []) = some c_impl_all_byte := by kernel_rfl
theorem rs_impl_all_byte : resSlots Tryd.prog Tryd.f68 = some [.s 4] := by kernel_rfl
theorem ok_impl_all_byte (l : List DV) (D : DV → Prop) (g : DV → Bool) (hl : (l.length : Int) ≤ 9223372036854775807) (hD : ∀ x ∈ l, D x) :
    FnOK Tryd.prog 68 [.one (.d (lst l)), .one (.fv false (fcPred D g))] (fun ra _ => ra = [.one (.d (.sc (.bool (l.all g))))]) := by
  refine FnOK.ofK Tryd.func68 (by kernel_rfl) dg_impl_all_byte rs_impl_all_byte rfl rfl ?_
  delta c_impl_all_byte T.o X.i
  refine kSeq (kReg (kBox rfl rfl rfl rfl rfl (kMovC rfl (kDone ?_))))
  refine kSeq (kReg (kMovC rfl (kClo rfl rfl ?_)))
  refine kCall1 true (ok_slices_ContainsFunc_Lbyte_byte l D (fun x => !g x) hl hD) ⟨rfl, ⟨rfl, ⟨_, Tryd.func83, rfl, by kernel_rfl⟩, _, rfl, ?_⟩, trivial⟩ rfl rfl rfl fun os => ?_
  · rintro l R ⟨x, hx, rfl, rfl⟩
    exact ⟨by rintro _ rfl; rfl, ok_impl_all_byte_1 x D g hx⟩
  refine kUn rfl rfl (kMovC rfl (kDone (kRet ?_)))
  refine endRet (ra := [.one (.d _)]) rfl ⟨⟨⟨rfl, .inl rfl⟩, trivial⟩, .nil, trivial, trivial, trivial⟩ ?_
  simp [List.all_eq_not_any_not]

def c_impl_LabelOk_1 : C := (.seq (.reg false (.o 0 2 (.mov (.v (.bool false))) .done)) (.seq (.reg false (.o 0 3 (.mov (.t 0)) (.o 1 4 (.bin .geq (.t 3) (.v (.int .u8 97))) (.o 2 5 (.mov (.t 4)) (.op 3 [] (some 6) (some (5, true)) false (.mov (.t 0)) (.op 4 [] (some 7) (some (5, true)) false (.bin .leq (.t 6) (.v (.int .u8 122))) (.o 5 8 (.pick (.t 5) (.t 7) (.v (.bool false))) (.o 6 9 (.mov (.t 8)) (.op 7 [] (some 10) (some (9, false)) false (.mov (.t 0)) (.op 8 [] (some 11) (some (9, false)) false (.bin .geq (.t 10) (.v (.int .u8 48))) (.op 9 [] (some 12) (some (9, false)) false (.mov (.t 11)) (.op 10 [] (some 13) (some (12, true)) false (.mov (.t 0)) (.op 11 [] (some 14) (some (12, true)) false (.bin .leq (.t 13) (.v (.int .u8 57))) (.op 12 [] (some 15) (some (9, false)) false (.pick (.t 12) (.t 14) (.v (.bool false))) (.o 13 16 (.pick (.t 9) (.v (.bool true)) (.t 15)) (.o 14 17 (.mov (.t 16)) (.op 15 [] (some 18) (some (17, false)) false (.mov (.t 0)) (.op 16 [] (some 19) (some (17, false)) false (.bin .eql (.t 18) (.v (.int .u8 45))) (.o 17 20 (.pick (.t 17) (.v (.bool true)) (.t 19)) (.o 18 2 (.mov (.t 20)) .done)))))))))))))))))))) .ret))
theorem dg_impl_LabelOk_1 : Tryd.f69.body.bind (digC Tryd.prog Tryd.f69.ntmps []) = some c_impl_LabelOk_1 := by kernel_rfl
theorem rs_impl_LabelOk_1 : resSlots Tryd.prog Tryd.f69 = some [.s 2] := by kernel_rfl
theorem ok_impl_LabelOk_1 (b : UInt8) : FnOK Tryd.prog 69 [.one (.d (.sc (.int .u8 b.toNat)))] (fun ra _ => ra = [.one (.d (.sc (.bool (okLetter b))))]) := by
  refine FnOK.ofK Tryd.func69 (by kernel_rfl) dg_impl_LabelOk_1 rs_impl_LabelOk_1 rfl rfl ?_
  delta c_impl_LabelOk_1 T.o X.i
  repeat' first
    | refine kSeq ?_ | refine kReg ?_ | refine kDone ?_ | refine kMovC rfl ?_ | refine kBin rfl rfl rfl ?_
    | refine kGT rfl ?_ | refine kGF rfl ?_ | refine kGU rfl ?_ | refine kG rfl (fun h => ?_) (fun h => ?_)
    | refine kPickT rfl ?_ | refine kPickF rfl ?_ | refine kPick rfl (fun h => ?_) (fun h => ?_) | refine kRet ?_
  all_goals refine endRet (ra := [.one (.d _)]) rfl ⟨⟨⟨rfl, .inl rfl⟩, trivial⟩, .nil, trivial, trivial⟩ ?_
  all_goals simp_all [okLetter]
  all_goals first | omega | (rw [Bool.eq_iff_iff]; simp; omega)

def c_impl_LabelOk : C := (.seq (.reg false (.o 0 2 (.mov (.v (.bool false))) .done)) (.seq (.reg false (.o 0 3 (.mov (.t 0)) (.o 1 4 (.len (.t 3)) (.o 2 5 (.call 5 67 [(.t 4), (.i 1), (.i 15)]) (.o 3 6 (.mov (.t 5)) (.op 4 [] (some 7) (some (6, true)) false (.mov (.t 0)) (.op 5 [] (some 8) (some (6, true)) false (.call 8 68 [(.t 7), (.fn 69)]) (.o 6 9 (.pick (.t 6) (.t 8) (.v (.bool false))) (.o 7 2 (.mov (.t 9)) .done))))))))) .ret))
theorem dg_impl_LabelOk : Tryd.f42.body.bind (digC Tryd.prog Tryd.f42.ntmps []) = some c_impl_LabelOk := by kernel_rfl
theorem rs_impl_LabelOk : resSlots Tryd.prog Tryd.f42 = some [.s 2] := by kernel_rfl
theorem ok_impl_LabelOk (b : List UInt8) (hb : b.length ≤ 4194304) :
    FnOK Tryd.prog 42 [.one (.d (encB b))] (fun ra _ => ra = [.one (.d (.sc (.bool (labelOk b))))]) := by
  refine FnOK.ofK Tryd.func42 (by kernel_rfl) dg_impl_LabelOk rs_impl_LabelOk rfl rfl ?_
  delta c_impl_LabelOk T.o X.i
  refine kSeq (kReg (kMovC rfl (kDone (kSeq (kReg (kMovC rfl (kLenR rfl rfl (kCallD (ok_impl_within _ _ _) ⟨rfl, rfl, rfl, trivial⟩ rfl rfl rfl rfl rfl (kMovC rfl (kGP rfl (fun g0 => kGT rfl (kMovC rfl (kGT rfl ?_))) (fun g0 => kGF rfl (kGF rfl (kPickF rfl (kMovC rfl (kMovC rfl (kDone (kRet (endRetA (ra := [.one (.d _)]) rfl ?_))))))))))))))))))
  · refine kCall1 true (ok_impl_all_byte (b.map fun b : UInt8 => .sc (.int .u8 b.toNat)) is8 (fun x => okLetter (dec8 x)) (by simp; omega) (fun x hx => by obtain ⟨c, _, rfl⟩ := List.mem_map.1 hx; exact ⟨c, rfl⟩)) ⟨congrArg some (encB_lst b), ⟨rfl, rfl, ⟨_, Tryd.func69, rfl, by kernel_rfl⟩, ?_⟩, trivial⟩ rfl rfl rfl (fun _ => ?_)
    · rintro _ R ⟨x, ⟨c, rfl⟩, rfl, rfl⟩
      have := ok_impl_LabelOk_1 c
      simp only [dec8_enc]
      exact this
    refine kPickT rfl (kMovC rfl (kMovC rfl (kDone (kRet (endRetA (ra := [.one (.d _)]) rfl ?_)))))
    rw [all_dec8, show labelOk b = b.all okLetter by simp only [labelOk]; rw [decide_eq_true (by omega), decide_eq_true (by omega)]; rfl]
  · rw [show labelOk b = false by simp only [labelOk]; rw [show (decide (1 ≤ b.length) && decide (b.length ≤ 15)) = false by simp; omega]; rfl]

def c_impl_all_Lbyte_1 : C := (.seq (.reg false (.o 0 3 (.mov (.v (.bool false))) .done)) (.seq (.reg false (.o 0 4 (.load none (.t 1)) (.o 1 5 (.mov (.t 0)) (.o 2 6 (.callv 6 (.t 4) [(.t 5)]) (.o 3 7 (.un .not (.t 6)) (.o 4 3 (.mov (.t 7)) .done)))))) .ret))
theorem dg_impl_all_Lbyte_1 : Tryd.f66.body.bind (digC Tryd.prog Tryd.f66.ntmps []) = some c_impl_all_Lbyte_1 := by kernel_rfl
theorem rs_impl_all_Lbyte_1 : resSlots Tryd.prog Tryd.f66 = some [.s 3] := by kernel_rfl
theorem ok_impl_all_Lbyte_1 (x : DV) (D : DV → Prop) (g : DV → Bool) (hx : D x) :
    FnOK Tryd.prog 66 [.one (.d x), .one (.ptr [.fv false (fcPred D g)])] (fun ra _ => ra = [.one (.d (.sc (.bool (!g x))))]) := by
  refine FnOK.ofK Tryd.func66 (by kernel_rfl) dg_impl_all_Lbyte_1 rs_impl_all_Lbyte_1 rfl rfl ?_
  delta c_impl_all_Lbyte_1 T.o X.i
  refine kSeq (kReg (kMovC rfl (kDone ?_)))
  refine kSeq (kReg (kLoadC rfl rfl (kMovC rfl (kCallv rfl ⟨x, hx, rfl, rfl⟩ ⟨rfl, trivial⟩ (.inr ?_) rfl ?_ rfl ?_))))
  · rintro _ rfl; rfl
  · rintro _ rfl; exact leb
  rintro _ rfl
  refine kUn rfl rfl (kMovC rfl (kDone (kRet ?_)))
  exact endRet (ra := [.one (.d _)]) rfl ⟨⟨⟨rfl, .inl rfl⟩, trivial⟩, .nil, trivial, trivial, trivial⟩ rfl

def c_slices_IndexFunc_LLbyte_Lbyte : C := (.seq (.reg false (.o 0 4 (.mov (.i 0)) .done)) (.seq (.seq (.reg false (.o 0 6 (.mov (.t 0)) (.o 1 7 (.len (.t 6)) (.o 2 8 (.mov (.i 0)) .done)))) (.block 0 (.loop (.seq (.reg false (.o 0 9 (.bin .lss (.t 8) (.t 7)) .done)) (.seq (.cond (.t 9) .skip (.exit 0)) (.seq (.block 1 (.seq (.reg false (.o 0 10 (.mov (.t 8)) (.o 1 5 (.mov (.t 10)) .done))) (.seq (.reg false (.o 0 11 (.mov (.t 1)) (.o 1 12 (.mov (.t 0)) (.o 2 13 (.mov (.t 5)) (.o 3 14 (.iad 1 (.t 12) (.t 13)) (.o 4 15 (.load none (.t 14)) (.o 5 16 (.callv 16 (.t 11) [(.t 15)]) .done))))))) (.cond (.t 16) (.seq (.reg false (.o 0 17 (.mov (.t 5)) (.o 1 4 (.mov (.t 17)) .done))) .ret) .skip)))) (.reg false (.o 0 18 (.bin .add (.t 8) (.i 1)) (.o 1 8 (.mov (.t 18)) .done))))))))) (.seq (.reg false (.o 0 4 (.mov (.i (-1))) .done)) .ret)))
theorem dg_slices_IndexFunc_LLbyte_Lbyte : Tryd.f81.body.bind (digC Tryd.prog Tryd.f81.ntmps []) = some c_slices_IndexFunc_LLbyte_Lbyte := by kernel_rfl
theorem rs_slices_IndexFunc_LLbyte_Lbyte : resSlots Tryd.prog Tryd.f81 = some [.s 4] := by kernel_rfl
theorem ok_slices_IndexFunc_LLbyte_Lbyte (l : List DV) (D : DV → Prop) (g : DV → Bool) (hl : (l.length : Int) ≤ 9223372036854775807) (hD : ∀ x ∈ l, D x) :
    FnOK Tryd.prog 81 [.one (.d (lst l)), .one (.fv false (fcPred D g))] (fun ra _ => ra = [.one (.d (.sc (.int .i64 (idxF g l))))]) := by
  refine FnOK.ofK Tryd.func81 (by kernel_rfl) dg_slices_IndexFunc_LLbyte_Lbyte rs_slices_IndexFunc_LLbyte_Lbyte rfl rfl ?_
  delta c_slices_IndexFunc_LLbyte_Lbyte T.o X.i
  refine kSeq (kReg (kMovC rfl (kDone ?_)))
  refine kSeq (kSeq (kReg (kMovC rfl (kLen rfl rfl rfl (kMovC rfl (kDone (kBlock ?_)))))))
  rw [len_lst]
  refine kLoop (α := { i : Nat // i ≤ l.length ∧ ∀ x ∈ l.take i, g x = false })
    (fun y => ⟨tabSl [(0, .dv (lst l)), (1, .c (.fv false (fcPred D g))), (7, .i l.length), (8, .i y.1)], (St.init [.one (.d (lst l)), .one (.fv false (fcPred D g))]).ob, []⟩) (fun y => l.length - y.1) ⟨0, by simp⟩
    (.tab rfl ⟨.refl _, .refl _, .refl _, .refl _, trivial⟩) ?_
  rintro ⟨i, hi, hg⟩
  simp only
  refine kSeq (kReg (kBin rfl rfl rfl (kDone ?_)))
  refine kSeq (kCond rfl (fun h1 => ?_) (fun h1 => ?_))
  · have hlt : i < l.length := by simp at h1; omega
    refine kSkip (kSeq (kBlock (kSeq (kReg (kMovC rfl (kMovC rfl (kDone ?_)))))))
    refine kSeq (kReg (kMovC rfl (kMovC rfl (kMovC rfl (kIadD rfl rfl rfl rfl ?_ ?_)))))
    · rw [len_lst]; omega
    rw [show (lst l).row (i : Int).toNat = [l[i]] from row_lst l i hlt]
    refine kLoadD rfl rfl (kCallv rfl ⟨l[i], hD _ (List.getElem_mem hlt), rfl, rfl⟩ ⟨rfl, trivial⟩ (.inr ?_) rfl ?_ rfl ?_)
    · rintro _ rfl; rfl
    · rintro _ rfl; exact leb
    rintro _ rfl
    refine kDone (kCond rfl (fun h2 => ?_) (fun h2 => ?_))
    · refine kSeq (kReg (kMovC rfl (kMovC rfl (kDone (kRet ?_)))))
      refine endRet (ra := [.one (.d _)]) rfl ⟨⟨⟨rfl, .inl rfl⟩, trivial⟩, .nil, trivial, trivial, trivial⟩ ?_
      have : l.findIdx? g = some i := by
        rw [List.findIdx?_eq_some_iff_getElem]
        refine ⟨hlt, h2, fun j hj => ?_⟩
        simpa using hg _ (by rw [List.mem_take_iff_getElem]; exact ⟨j, by omega, rfl⟩)
      simp [idxF, this]
    · refine kSkip (kBk (kReg (kAdd rfl rfl ?_ (kMovC rfl (kDone (kInv ?_))))))
      · omega
      refine ⟨⟨i + 1, hlt, ?_⟩, by simp only; omega, .tab rfl ⟨.refl _, .refl _, .refl _, .refl _, trivial⟩⟩
      intro x hx
      rw [← List.take_append_getElem hlt, List.mem_append] at hx
      rcases hx with hx | hx
      · exact hg x hx
      · simp at hx; rw [hx]; exact h2
  · refine kExit (kExC (kExI (kExB ?_)))
    have hge : i = l.length := by simp at h1; omega
    refine kSeq (kReg (kMovC rfl (kDone (kRet ?_))))
    refine endRet (ra := [.one (.d _)]) rfl ⟨⟨⟨rfl, .inl rfl⟩, trivial⟩, .nil, trivial, trivial, trivial⟩ ?_
    have : l.findIdx? g = none := by
      rw [List.findIdx?_eq_none_iff]
      intro x hx
      rw [hge, List.take_length] at hg
      exact hg x hx
    simp [idxF, this]

def c_slices_ContainsFunc_LLbyte_Lbyte : C := (.seq (.reg false (.o 0 4 (.mov (.v (.bool false))) .done)) (.seq (.reg false (.o 0 5 (.mov (.t 0)) (.o 1 6 (.mov (.t 1)) (.o 2 7 (.call 7 81 [(.t 5), (.t 6)]) (.o 3 8 (.bin .geq (.t 7) (.i 0)) (.o 4 4 (.mov (.t 8)) .done)))))) .ret))
theorem dg_slices_ContainsFunc_LLbyte_Lbyte : Tryd.f65.body.bind (digC Tryd.prog Tryd.f65.ntmps []) = some c_slices_ContainsFunc_LLbyte_Lbyte := by kernel_rfl
theorem rs_slices_ContainsFunc_LLbyte_Lbyte : resSlots Tryd.prog Tryd.f65 = some [.s 4] := by kernel_rfl
theorem ok_slices_ContainsFunc_LLbyte_Lbyte (l : List DV) (D : DV → Prop) (g : DV → Bool) (hl : (l.length : Int) ≤ 9223372036854775807) (hD : ∀ x ∈ l, D x) :
    FnOK Tryd.prog 65 [.one (.d (lst l)), .one (.fv false (fcPred D g))] (fun ra _ => ra = [.one (.d (.sc (.bool (l.any g))))]) := by
  refine FnOK.ofK Tryd.func65 (by kernel_rfl) dg_slices_ContainsFunc_LLbyte_Lbyte rs_slices_ContainsFunc_LLbyte_Lbyte rfl rfl ?_
  delta c_slices_ContainsFunc_LLbyte_Lbyte T.o X.i
  refine kSeq (kReg (kMovC rfl (kDone ?_)))
  refine kSeq (kReg (kMovC rfl (kMovC rfl ?_)))
  refine kCall1 true (ok_slices_IndexFunc_LLbyte_Lbyte l D g hl hD) ⟨rfl, ⟨fun h => h, fun _ _ h => h⟩, trivial⟩ rfl rfl rfl fun os => ?_
  refine kBin rfl rfl rfl (kMovC rfl (kDone (kRet ?_)))
  refine endRet (ra := [.one (.d _)]) rfl ⟨⟨⟨rfl, .inl rfl⟩, trivial⟩, .nil, trivial, trivial, trivial⟩ ?_
  have : decide (idxF g l ≥ 0) = l.any g := by
    unfold idxF
    cases h : l.findIdx? g with
    | none =>
      rw [List.findIdx?_eq_none_iff] at h
      have : l.any g = false := by rw [List.any_eq_false]; intro x hx; simp [h x hx]
      rw [this]; rfl
    | some i =>
      rw [List.findIdx?_eq_some_iff_getElem] at h
      obtain ⟨h1, h2, _⟩ := h
      have : l.any g = true := by rw [List.any_eq_true]; exact ⟨_, List.getElem_mem h1, h2⟩
      rw [this]; simp
  rw [this]

def c_impl_all_Lbyte : C := (.seq (.reg false (.o 0 3 (.box 3 (.t 1)) (.o 1 4 (.mov (.v (.bool false))) .done))) (.seq (.reg false (.o 0 5 (.mov (.t 0)) (.o 1 6 (.clo 66 [] [(.t 3)]) (.o 2 7 (.call 7 65 [(.t 5), (.t 6)]) (.o 3 8 (.un .not (.t 7)) (.o 4 4 (.mov (.t 8)) .done)))))) .ret))
theorem dg_impl_all_Lbyte : Tryd.f41.body.bind (digC Tryd.prog Tryd.f41.ntmps []) = some c_impl_all_Lbyte := by kernel_rfl
theorem rs_impl_all_Lbyte : resSlots Tryd.prog Tryd.f41 = some [.s 4] := by kernel_rfl
theorem ok_impl_all_Lbyte (l : List DV) (D : DV → Prop) (g : DV → Bool) (hl : (l.length : Int) ≤ 9223372036854775807) (hD : ∀ x ∈ l, D x) :
    FnOK Tryd.prog 41 [.one (.d (lst l)), .one (.fv false (fcPred D g))] (fun ra _ => ra = [.one (.d (.sc (.bool (l.all g))))]) := by
  refine FnOK.ofK Tryd.func41 (by kernel_rfl) dg_impl_all_Lbyte rs_impl_all_Lbyte rfl rfl ?_
  delta c_impl_all_Lbyte T.o X.i
  refine kSeq (kReg (kBox rfl rfl rfl rfl rfl (kMovC rfl (kDone ?_))))
  refine kSeq (kReg (kMovC rfl (kClo rfl rfl ?_)))
  refine kCall1 true (ok_slices_ContainsFunc_LLbyte_Lbyte l D (fun x => !g x) hl hD) ⟨rfl, ⟨rfl, ⟨_, Tryd.func66, rfl, by kernel_rfl⟩, _, rfl, ?_⟩, trivial⟩ rfl rfl rfl fun os => ?_
  · rintro l R ⟨x, hx, rfl, rfl⟩
    exact ⟨by rintro _ rfl; rfl, ok_impl_all_Lbyte_1 x D g hx⟩
  refine kUn rfl rfl (kMovC rfl (kDone (kRet ?_)))
  refine endRet (ra := [.one (.d _)]) rfl ⟨⟨⟨rfl, .inl rfl⟩, trivial⟩, .nil, trivial, trivial, trivial⟩ ?_
  simp [List.all_eq_not_any_not]

def c_impl_NameOk : C := (.seq (.reg false (.o 0 1 (.box 1 (.t 0)) (.o 1 2 (.mov (.v (.bool false))) .done))) (.seq (.reg false (.o 0 3 (.fad (.t 1) 0) (.o 1 4 (.load none (.t 3)) (.o 2 5 (.len (.t 4)) (.o 3 6 (.bin .leq (.t 5) (.i 6)) (.o 4 7 (.mov (.t 6)) (.op 5 [] (some 8) (some (7, true)) false (.fad (.t 1) 0) (.op 6 [] (some 9) (some (7, true)) false (.load none (.t 8)) (.op 7 [] (some 10) (some (7, true)) false (.call 10 41 [(.t 9), (.fn 42)]) (.o 8 11 (.pick (.t 7) (.t 10) (.v (.bool false))) (.o 9 2 (.mov (.t 11)) .done))))))))))) .ret))
theorem dg_impl_NameOk : Tryd.f18.body.bind (digC Tryd.prog Tryd.f18.ntmps []) = some c_impl_NameOk := by kernel_rfl
theorem rs_impl_NameOk : resSlots Tryd.prog Tryd.f18 = some [.s 2] := by kernel_rfl
theorem ok_impl_NameOk (a : List (List UInt8)) (ha : a.length ≤ 4194304) (hb : ∀ b ∈ a, b.length ≤ 4194304) :
    FnOK Tryd.prog 18 [.agg [.d (encBB a)]] (fun ra _ => ra = [.one (.d (.sc (.bool (nameOk a))))]) := by
  refine FnOK.ofK Tryd.func18 (by kernel_rfl) dg_impl_NameOk rs_impl_NameOk rfl rfl ?_
  delta c_impl_NameOk T.o X.i
  refine kSeq (kReg (kBox rfl rfl rfl rfl rfl (kMovC rfl (kDone (kSeq (kReg (kFadP rfl rfl (kLoadP rfl rfl rfl (kLenR rfl rfl (kBin rfl rfl rfl (kMovC rfl (kGP rfl (fun g0 => kGT rfl (kFadP rfl rfl (kGT rfl (kLoadP rfl rfl rfl (kGT rfl ?_))))) (fun g0 => kGF rfl (kGF rfl (kGF rfl (kPickF rfl (kMovC rfl (kMovC rfl (kDone (kRet (endRetA (ra := [.one (.d _)]) rfl ?_)))))))))))))))))))))
  · refine kCall1 true (ok_impl_all_Lbyte (a.map encB) (fun x => ∃ b : List UInt8, x = encB b ∧ b.length ≤ 4194304) (fun x => labelOk (decB x)) (by simp; omega) (fun x hx => by obtain ⟨c, h, rfl⟩ := List.mem_map.1 hx; exact ⟨c, rfl, hb c h⟩)) ⟨congrArg some (encBB_lst a), ⟨rfl, rfl, ⟨_, Tryd.func42, rfl, by kernel_rfl⟩, ?_⟩, trivial⟩ rfl rfl rfl (fun _ => ?_)
    · rintro _ R ⟨x, ⟨c, rfl, h⟩, rfl, rfl⟩
      have := ok_impl_LabelOk c h
      simp only [decB_enc]
      exact this
    refine kPickT rfl (kMovC rfl (kMovC rfl (kDone (kRet (endRetA (ra := [.one (.d _)]) rfl ?_)))))
    rw [all_decB, show nameOk a = a.all labelOk by simp only [nameOk]; rw [decide_eq_true (by omega)]; rfl]
  · rw [show nameOk a = false by simp only [nameOk]; rw [decide_eq_false (by omega)]; rfl]

def c_impl_NameText : C := (.seq (.reg false (.o 0 1 (.box 1 (.t 0)) (.o 1 2 (.mov (.n 1)) .done))) (.seq (.block 0 (.seq (.reg false (.o 0 7 (.load (some 1) (.t 1)) (.o 1 8 (.call 8 18 [(.t 7)]) (.o 2 9 (.un .not (.t 8)) (.o 3 6 (.mov (.t 9)) .done))))) (.cond (.t 6) (.seq (.reg false (.o 0 2 (.mov (.n 1)) .done)) .ret) (.seq (.reg false (.o 0 11 (.fad (.t 1) 0) (.o 1 12 (.load none (.t 11)) (.o 2 13 (.len (.t 12)) (.o 3 14 (.bin .eql (.t 13) (.i 0)) (.o 4 10 (.mov (.t 14)) .done)))))) (.cond (.t 10) (.seq (.reg false (.o 0 15 (.lit 15 1 [(.v (.int .u8 0))] 1 [(0, 1, (.v (.int .u8 46)))]) (.o 1 16 (.s2s (.t 15)) (.o 2 2 (.mov (.t 16)) .done)))) .ret) .skip))))) (.seq (.reg false (.o 0 17 (.lit 17 1 [(.v (.int .u8 0))] 0 []) (.o 1 3 (.mov (.t 17)) .done))) (.seq (.seq (.reg false (.o 0 18 (.fad (.t 1) 0) (.o 1 19 (.load none (.t 18)) (.o 2 20 (.len (.t 19)) (.o 3 21 (.mov (.i 0)) .done))))) (.block 1 (.loop (.seq (.reg false (.o 0 22 (.bin .lss (.t 21) (.t 20)) .done)) (.seq (.cond (.t 22) .skip (.exit 1)) (.seq (.block 2 (.seq (.reg false (.o 0 23 (.iad 1 (.t 19) (.t 21)) (.o 1 24 (.load none (.t 23)) (.o 2 5 (.mov (.t 24)) .done)))) (.reg false (.o 0 25 (.mov (.t 3)) (.o 1 26 (.mov (.t 5)) (.o 2 27 (.app 27 1 1 (.t 25) (.t 26)) (.o 3 28 (.lit 28 1 [(.v (.int .u8 0))] 1 [(0, 1, (.v (.int .u8 46)))]) (.o 4 29 (.app 29 1 1 (.t 27) (.t 28)) (.o 5 3 (.mov (.t 29)) .done))))))))) (.reg false (.o 0 30 (.bin .add (.t 21) (.i 1)) (.o 1 21 (.mov (.t 30)) .done))))))))) (.seq (.reg false (.o 0 31 (.mov (.t 3)) (.o 1 2 (.mov (.t 31)) .done))) .ret)))))
theorem dg_impl_NameText : Tryd.f16.body.bind (digC Tryd.prog Tryd.f16.ntmps []) = some c_impl_NameText := by kernel_rfl
theorem rs_impl_NameText : resSlots Tryd.prog Tryd.f16 = some [.s 2] := by kernel_rfl
theorem ok_impl_NameText (a : List (List UInt8)) (ha : SmallBB a) :
    FnOK Tryd.prog 16 [.agg [.d (encBB a)]] (fun ra _ => ra = [.one (.d (encB (if nameOk a then textN a else [])))]) := by
  refine FnOK.ofK Tryd.func16 (by kernel_rfl) dg_impl_NameText rs_impl_NameText rfl rfl ?_
  delta c_impl_NameText T.o X.i
  have a1 := ha.len
  have a2 := ha.flat
  have a3 := ha.mem
  refine kSeq (kReg (kBox rfl rfl rfl rfl rfl (kMovC rfl (kDone (kSeq (kBlock (kSeq (kReg (kLoadP rfl rfl rfl (kCallD (ok_impl_NameOk _ (by first | assumption | omega | solve_by_elim [List.getElem_mem] | (simp only [szOut] at *; omega) | exact rfl | exact leb | exact rrOk_small (by assumption) | exact zoneOk_small (by assumption) | exact SmallBB.ok (by assumption) | exact (SmallBB.ok (by assumption)).len | exact (SmallBB.ok (by assumption)).mem | exact SmallBB.bent (by assumption)) (by first | assumption | omega | solve_by_elim [List.getElem_mem] | (simp only [szOut] at *; omega) | exact rfl | exact leb | exact rrOk_small (by assumption) | exact zoneOk_small (by assumption) | exact SmallBB.ok (by assumption) | exact (SmallBB.ok (by assumption)).len | exact (SmallBB.ok (by assumption)).mem | exact SmallBB.bent (by assumption))) ⟨⟨⟨rfl, trivial⟩, leb⟩, trivial⟩ rfl rfl rfl rfl rfl (kUn rfl rfl (kMovC rfl (kDone (kCondN rfl (fun g0 => kSeq (kReg (kMovC rfl (kDone (kRet (endRetA (ra := [.one (.d _)]) rfl ?_)))))) (fun g0 => kSeq (kReg (kFadP rfl rfl (kLoadP rfl rfl rfl (kLenR rfl rfl (kBin rfl rfl rfl (kMovC rfl (kDone (kCondP rfl (fun g1 => kSeq (kReg (kLitG rfl rfl rfl rfl (kMem [(65536, ⟨1, 0, .arr true _⟩)] [(15, .c (.arr 65536 1)), (16, .c (.un))] [] ⟨rfl, trivial⟩ ⟨rfl, rfl, trivial⟩ rfl (kS2sB (y := 46) (ys := []) rfl rfl rfl (kMovC rfl (kDone (kRet (endRetA (ra := [.one (.d _)]) rfl ?_))))))))) (fun g1 => kSkip (kBk (kSeq (kReg (kLitG rfl rfl rfl rfl (kMem [(73728, ⟨1, 0, .arr true _⟩)] [(17, .c (.arr 73728 1))] [] ⟨rfl, trivial⟩ ⟨rfl, trivial⟩ rfl (kMovC rfl (kDone (kSeq (kSeq (kReg (kFadP rfl rfl (kLoadP rfl rfl rfl (kLenR rfl rfl (kMovC rfl (kDone (kBlock ?_))))))))))))))))))))))))))))))))))))))))
  · rw [g0]; rfl
  · have : a = [] := List.eq_nil_of_length_eq_zero (by omega)
    subst this; rfl
  rw [g0]
  have hne : a ≠ [] := fun h => g1 (by rw [h]; rfl)
  rw [show (if true = true then textN a else []) = textL a by rw [if_pos rfl]; unfold textN; rw [if_neg hne]]
  refine kLoop (α := { i : Nat // i ≤ a.length }) (fun y => ⟨tabSl [(3, .c (.arr (rid 17 0) 1)), (19, .dv (encBB a)), (20, .i a.length), (21, .i y.1)], obTab 1 [(rid 17 0, ⟨1, 0, .arr true (encB (textL (a.take y.1)))⟩)], []⟩) (fun y => a.length - y.1) ⟨0, by simp⟩ .normA ?_
  rintro ⟨i, hi⟩
  simp only
  have hle := textL_le a i
  rcases Nat.lt_or_ge i a.length with hlt | hge
  · have hst := textL_take a i hlt
    have hle2 := textL_le a (i + 1)
    have hle3 : (textL (a.take (i + 1))).length = (textL (a.take i)).length + a[i].length + 1 := by rw [hst]; simp only [List.length_append, List.length_cons, List.length_nil]
    refine kSeq (kReg (kBin rfl rfl rfl (kDone (kSeq (kCondP rfl (fun g0 => kSkip (kSeq (kBlock (kSeq (kReg (kIadR rfl rfl rfl (by first | omega | (simp only [List.length_append, List.length_cons, List.length_nil]; omega)) (kLoadD rfl rfl (kMovC rfl (kDone (kReg (kMovC rfl (kMovC rfl (kAppR rfl rfl rfl (src_encB _ _) rfl rfl rfl rfl (by first | omega | (simp only [List.length_append, List.length_cons, List.length_nil]; omega)) (kLitG rfl rfl rfl rfl (kMem [(73728, ⟨2, 0, .arr true _⟩), (118784, ⟨2, 0, .arr true _⟩)] [(27, .c (.arr 73728 2)), (28, .c (.arr 118784 2))] [] ⟨rfl, rfl, trivial⟩ ⟨rfl, rfl, trivial⟩ rfl (kAppR1 (z := (46 : UInt8)) rfl rfl rfl rfl rfl rfl rfl rfl (by first | omega | (simp only [List.length_append, List.length_cons, List.length_nil]; omega)) (kMovC rfl (kDone (kBk (kReg (kAdd rfl rfl (by omega) (kMovC rfl (kDone ?_))))))))))))))))))))))) (fun g0 => (by omega)))))))
    refine kInv ⟨⟨i + 1, by omega⟩, by simp only; omega, ?_⟩
    simp only [hst]
    exact .normA
  · refine kSeq (kReg (kBin rfl rfl rfl (kDone (kSeq (kCondP rfl (fun g0 => (by omega)) (fun g0 => kExit (kExC (kExI (kExB (kSeq (kReg (kMovC rfl (kMovC rfl (kDone (kMem [(73728, ⟨1, 0, .arr true _⟩)] [(2, .c (.arr 73728 1))] [] ⟨rfl, trivial⟩ ⟨rfl, trivial⟩ rfl (kRet (endRetA (ra := [.one (.d _)]) rfl ?_)))))))))))))))))
    rw [show i = a.length by omega, List.take_length]

def c_bytes_Clone : C := (.seq (.reg false (.o 0 2 (.mov (.n 1)) .done)) (.seq (.seq (.reg false (.o 0 3 (.mov (.t 0)) (.o 1 4 (.eqn false (.t 3)) .done))) (.cond (.t 4) (.seq (.reg false (.o 0 2 (.mov (.n 1)) .done)) .ret) .skip)) (.seq (.reg false (.o 0 5 (.lit 5 1 [(.v (.int .u8 0))] 0 []) (.o 1 6 (.mov (.t 0)) (.o 2 7 (.app 7 1 1 (.t 5) (.t 6)) (.o 3 2 (.mov (.t 7)) .done))))) .ret)))
theorem dg_bytes_Clone : Tryd.f63.body.bind (digC Tryd.prog Tryd.f63.ntmps []) = some c_bytes_Clone := by kernel_rfl
theorem rs_bytes_Clone : resSlots Tryd.prog Tryd.f63 = some [.s 2] := by kernel_rfl
theorem ok_bytes_Clone (b : List UInt8) (hb : b.length ≤ 140737488355328) :
    FnOK Tryd.prog 63 [.one (.d (encB b))] (fun ra _ => ra = [.one (.own true (encB b))]) := by
  refine FnOK.ofK Tryd.func63 (by kernel_rfl) dg_bytes_Clone rs_bytes_Clone rfl rfl ?_
  delta c_bytes_Clone T.o X.i
  refine kSeq (kReg (kMovC rfl (kDone ?_)))
  refine kSeq (kSeq (kReg (kMovC rfl (kEqn rfl rfl rfl fun n hn => kDone ?_))))
  refine kCond rfl (fun h => ?_) (fun h => ?_)
  · refine kSeq (kReg (kMovC rfl (kDone (kRet ?_))))
    refine endRet (ra := [.one (.own true (.sl 1 []))]) rfl ⟨⟨rfl, trivial⟩, nodupB_sound rfl, trivial, trivial⟩ ?_
    have : b = [] := by
      rw [len_encB] at hn
      cases b with
      | nil => rfl
      | cons x l => have := hn (by simp); simp [this] at h
    rw [this]; rfl
  · refine kSkip (kSeq (kReg ?_))
    refine kLit rfl rfl rfl rfl (kMovC rfl ?_)
    refine kApp (cy := .d (encB b)) rfl rfl rfl (src_encB _ b) rfl rfl ⟨rfl, rfl, Nat.zero_lt_one⟩ rfl ?_ (kMovC rfl (kDone (kRet ?_)))
    · show ((DV.sl 1 (chunk 1 0 [])).len + (encB b).len) * 1 ≤ _ ∧ _
      rw [len_encB]; simp [DV.len, chunk]; omega
    refine endRet (ra := [.one (.own true _)]) rfl ⟨⟨⟨⟨_, rfl, fun _ => rfl⟩, .inl (Nat.zero_lt_succ _)⟩, trivial⟩, nodupB_sound rfl, trivial, trivial⟩ ?_
    exact congrArg (fun x => [RA.one (RV.own true x)]) (app_nil_encB b)

def c_impl_Lower : C := (.seq (.reg false (.o 0 2 (.mov (.n 1)) .done)) (.seq (.reg false (.o 0 6 (.mov (.t 0)) (.o 1 7 (.call 7 63 [(.t 6)]) (.o 2 3 (.mov (.t 7)) .done)))) (.seq (.seq (.reg false (.o 0 8 (.mov (.t 3)) (.o 1 9 (.len (.t 8)) (.o 2 10 (.mov (.i 0)) .done)))) (.block 0 (.loop (.seq (.reg false (.o 0 11 (.bin .lss (.t 10) (.t 9)) .done)) (.seq (.cond (.t 11) .skip (.exit 0)) (.seq (.block 1 (.seq (.reg false (.o 0 12 (.mov (.t 10)) (.o 1 13 (.iad 1 (.t 8) (.t 10)) (.o 2 14 (.load none (.t 13)) (.o 3 4 (.mov (.t 12)) (.o 4 5 (.mov (.t 14)) .done)))))) (.seq (.reg false (.o 0 15 (.mov (.t 5)) (.o 1 16 (.bin .geq (.t 15) (.v (.int .u8 65))) (.o 2 17 (.mov (.t 16)) (.op 3 [] (some 18) (some (17, true)) false (.mov (.t 5)) (.op 4 [] (some 19) (some (17, true)) false (.bin .leq (.t 18) (.v (.int .u8 90))) (.o 5 20 (.pick (.t 17) (.t 19) (.v (.bool false))) .done))))))) (.cond (.t 20) (.reg false (.o 0 21 (.mov (.t 3)) (.o 1 22 (.mov (.t 4)) (.o 2 23 (.mov (.t 5)) (.o 3 24 (.bin .add (.t 23) (.v (.int .u8 97))) (.o 4 25 (.bin .sub (.t 24) (.v (.int .u8 65))) (.o 5 26 (.iad 1 (.t 21) (.t 22)) (.op 6 [] none none false (.store none (.t 26) (.t 25)) .done)))))))) .skip)))) (.reg false (.o 0 27 (.bin .add (.t 10) (.i 1)) (.o 1 10 (.mov (.t 27)) .done))))))))) (.seq (.reg false (.o 0 28 (.mov (.t 3)) (.o 1 2 (.mov (.t 28)) .done))) .ret))))
theorem dg_impl_Lower : Tryd.f33.body.bind (digC Tryd.prog Tryd.f33.ntmps []) = some c_impl_Lower := by kernel_rfl
theorem rs_impl_Lower : resSlots Tryd.prog Tryd.f33 = some [.s 2] := by kernel_rfl
theorem ok_impl_Lower (a : List UInt8) (ha : a.length ≤ 4194304) :
    FnOK Tryd.prog 33 [.one (.d (encB a))] (fun ra _ => ra = [.one (.own true (encB (lowerB a)))]) := by
  refine FnOK.ofK Tryd.func33 (by kernel_rfl) dg_impl_Lower rs_impl_Lower rfl rfl ?_
  delta c_impl_Lower T.o X.i
  refine kSeq (kReg (kMovC rfl (kDone (kSeq (kReg (kMovC rfl (kCall1 true (ok_bytes_Clone _ (by first | assumption | omega | solve_by_elim [List.getElem_mem] | (simp only [szOut] at *; omega) | exact rfl | exact leb | exact rrOk_small (by assumption) | exact zoneOk_small (by assumption) | exact SmallBB.ok (by assumption) | exact (SmallBB.ok (by assumption)).len | exact (SmallBB.ok (by assumption)).mem | exact SmallBB.bent (by assumption))) ⟨rfl, trivial⟩ rfl rfl rfl (fun _ => (kMovC rfl (kDone (kSeq (kSeq (kReg (kMovC rfl (kLenR rfl rfl (kMovC rfl (kDone (kBlock ?_))))))))))))))))))
  refine kLoop (α := { i : Nat // i ≤ a.length }) (fun y => ⟨tabSl [(3, .c (.arr (rid 7 0) 1)), (8, .c (.arr (rid 7 0) 1)), (9, .i a.length), (10, .i y.1)], obTab 1 [(rid 7 0, ⟨1, 0, .arr true (encB (lowerB (a.take y.1) ++ a.drop y.1))⟩)], []⟩) (fun y => a.length - y.1) ⟨0, by simp⟩ .normA ?_
  rintro ⟨i, hi⟩
  simp only
  have hlen : (lowerB (a.take i) ++ a.drop i).length = a.length := by simp [lowerB]; omega
  rcases Nat.lt_or_ge i a.length with hlt | hge
  · have hget : (lowerB (a.take i) ++ a.drop i)[i]? = some a[i] := by
      rw [List.getElem?_append_right (by simp [lowerB]; omega)]; simp [lowerB, Nat.min_eq_left hi]
    have hst : ∀ c, c = lowC a[i] → (lowerB (a.take i) ++ a.drop i).set i c = lowerB (a.take (i + 1)) ++ a.drop (i + 1) := by
      rintro c rfl
      rw [take_set_succ _ _ _ _ hlt (by simp [lowerB]; omega)]
      unfold lowerB
      rw [← List.take_append_getElem hlt, List.map_append]
      rfl
    revert hget hst hlen
    generalize lowerB (a.take i) ++ a.drop i = L
    intro hlen hget hst
    have hiL : i < L.length := by omega
    have hg : L[i] = a[i] := by rw [List.getElem?_eq_getElem hiL] at hget; simpa using hget
    have hw : IntKind.u8.wrap (IntKind.u8.wrap (((L[i]).toNat : Int) + 97) - 65) = ((L[i] + 32 : UInt8).toNat : Int) := by
      have := (L[i]).toNat_lt
      simp [IntKind.wrap, IntKind.bits, IntKind.signed, UInt8.toNat_add]
      omega
    have hno : (¬ ((L[i]).toNat : Int) ≥ 65 ∨ ¬ ((L[i]).toNat : Int) ≤ 90) → L = lowerB (a.take (i + 1)) ++ a.drop (i + 1) := by
      intro h
      rw [← hst L[i] (by
        rw [hg] at h ⊢
        unfold lowC
        rw [if_neg]
        rintro ⟨h1, h2⟩
        have h1 := UInt8.le_iff_toNat_le.1 h1
        have h2 := UInt8.le_iff_toNat_le.1 h2
        simp at h1 h2
        omega)]
      simp
    refine kSeq (kReg (kBin rfl rfl rfl (kDone (kSeq (kCondP rfl (fun g0 => kSkip (kSeq (kBlock (kSeq (kReg (kMovC rfl (kIadAR rfl rfl rfl rfl (by first | omega | (simp only [List.length_append, List.length_cons, List.length_nil]; omega)) (kLoadER rfl rfl (by first | omega | (simp only [List.length_append, List.length_cons, List.length_nil]; omega)) rfl (kMovC rfl (kMovC rfl (kDone (kSeq (kReg (kMovC rfl (kBin rfl rfl rfl (kMovC rfl (kGP rfl (fun g1 => kGT rfl (kMovC rfl (kGT rfl (kBin rfl rfl rfl (kPickT rfl (kMovC rfl (kDone (kCondP rfl (fun g2 => kReg (kMem [(32768, ⟨1, 0, .arr true _⟩)] [(3, .c (.arr 32768 1)), (4, .c (.d _)), (5, .c (.d _))] [] ⟨rfl, trivial⟩ ⟨rfl, rfl, rfl, trivial⟩ rfl (kMovC rfl (kMovC rfl (kMovC rfl (kBin rfl rfl rfl (kBin rfl rfl rfl (kIadAR rfl rfl rfl rfl (by first | omega | (simp only [List.length_append, List.length_cons, List.length_nil]; omega)) ?_)))))))) (fun g2 => kSkip (kBk (kReg (kAdd rfl rfl (by omega) (kMovC rfl (kDone ?_)))))))))))))) (fun g1 => kGF rfl (kGF rfl (kPickF rfl (kMovC rfl (kDone (kCondF rfl (kSkip (kBk (kReg (kAdd rfl rfl (by omega) (kMovC rfl (kDone ?_))))))))))))))))))))))))))))) (fun g0 => (by omega)))))))
    · refine kStoreER (z := L[i] + 32) rfl rfl rfl rfl rfl rfl rfl hiL (by rw [← hw]; rfl) ?_
      refine kDone (kBk (kReg (kAdd rfl rfl (by omega) (kMovC rfl (kDone ?_)))))
      refine kInv ⟨⟨i + 1, by omega⟩, by simp only; omega, ?_⟩
      simp only
      rw [← hst (L[i] + 32) (by
        rw [hg] at *
        unfold lowC
        rw [if_pos]
        simp only [UInt8.le_iff_toNat_le]
        exact ⟨by simp; omega, by simp; omega⟩)]
      exact .normA
    all_goals
      refine kInv ⟨⟨i + 1, by omega⟩, by simp only; omega, ?_⟩
      simp only
      rw [← hno (by omega)]
      exact .normA
  · refine kSeq (kReg (kBin rfl rfl rfl (kDone (kSeq (kCondP rfl (fun g0 => (by omega)) (fun g0 => kExit (kExC (kExI (kExB (kSeq (kReg (kMovC rfl (kMovC rfl (kDone (kMem [(32768, ⟨1, 0, .arr true _⟩)] [(2, .c (.arr 32768 1))] [] ⟨rfl, trivial⟩ ⟨rfl, trivial⟩ rfl (kRet (endRetA (ra := [.one (.own true _)]) rfl ?_)))))))))))))))))
    rw [show i = a.length by omega]
    simp

def c_bytes_Equal : C := (.seq (.reg false (.o 0 4 (.mov (.v (.bool false))) .done)) (.seq (.reg false (.o 0 5 (.mov (.t 0)) (.o 1 6 (.b2s (.t 5)) (.o 2 7 (.mov (.t 1)) (.o 3 8 (.b2s (.t 7)) (.o 4 9 (.bin .eql (.t 6) (.t 8)) (.o 5 4 (.mov (.t 9)) .done))))))) .ret))
theorem dg_bytes_Equal : Tryd.f77.body.bind (digC Tryd.prog Tryd.f77.ntmps []) = some c_bytes_Equal := by kernel_rfl
theorem rs_bytes_Equal : resSlots Tryd.prog Tryd.f77 = some [.s 4] := by kernel_rfl
theorem ok_bytes_Equal (a b : List UInt8) :
    FnOK Tryd.prog 77 [.one (.d (encB a)), .one (.d (encB b))] (fun ra _ => ra = [.one (.d (.sc (.bool (a == b))))]) := by
  refine FnOK.ofK Tryd.func77 (by kernel_rfl) dg_bytes_Equal rs_bytes_Equal rfl rfl ?_
  delta c_bytes_Equal T.o X.i
  refine kSeq (kReg (kMovC rfl (kDone (kSeq (kReg (kMovC rfl (kB2s rfl rfl (kMovC rfl (kB2s rfl rfl (kBin rfl rfl rfl (kMovC rfl (kDone (kRet (endRetA (ra := [.one (.d _)]) rfl ?_))))))))))))))
  simp only [bt_list]

def c_bytes_HasSuffix : C := (.seq (.reg false (.o 0 4 (.mov (.v (.bool false))) .done)) (.seq (.reg false (.o 0 5 (.mov (.t 0)) (.o 1 6 (.len (.t 5)) (.o 2 7 (.mov (.t 1)) (.o 3 8 (.len (.t 7)) (.o 4 9 (.bin .geq (.t 6) (.t 8)) (.o 5 10 (.mov (.t 9)) (.op 6 [] (some 11) (some (10, true)) false (.mov (.t 0)) (.op 7 [] (some 12) (some (10, true)) false (.mov (.t 0)) (.op 8 [] (some 13) (some (10, true)) false (.len (.t 12)) (.op 9 [] (some 14) (some (10, true)) false (.mov (.t 1)) (.op 10 [] (some 15) (some (10, true)) false (.len (.t 14)) (.op 11 [] (some 16) (some (10, true)) false (.bin .sub (.t 13) (.t 15)) (.op 12 [] (some 17) (some (10, true)) false (.cut 1 (.t 11) (some (.t 16)) none) (.op 13 [] (some 18) (some (10, true)) false (.mov (.t 1)) (.op 14 [] (some 19) (some (10, true)) false (.call 19 77 [(.t 17), (.t 18)]) (.o 15 20 (.pick (.t 10) (.t 19) (.v (.bool false))) (.o 16 4 (.mov (.t 20)) .done)))))))))))))))))) .ret))
theorem dg_bytes_HasSuffix : Tryd.f62.body.bind (digC Tryd.prog Tryd.f62.ntmps []) = some c_bytes_HasSuffix := by kernel_rfl
theorem rs_bytes_HasSuffix : resSlots Tryd.prog Tryd.f62 = some [.s 4] := by kernel_rfl
theorem ok_bytes_HasSuffix (a b : List UInt8) (ha : a.length ≤ 9223372036854775807) (hb : b.length ≤ 9223372036854775807) :
    FnOK Tryd.prog 62 [.one (.d (encB a)), .one (.d (encB b))] (fun ra _ => ra = [.one (.d (.sc (.bool (decide (b.length ≤ a.length ∧ a.drop (a.length - b.length) = b)))))]) := by
  refine FnOK.ofK Tryd.func62 (by kernel_rfl) dg_bytes_HasSuffix rs_bytes_HasSuffix rfl rfl ?_
  delta c_bytes_HasSuffix T.o X.i
  refine kSeq (kReg (kMovC rfl (kDone (kSeq (kReg (kMovC rfl (kLenR rfl rfl (kMovC rfl (kLenR rfl rfl (kBin rfl rfl rfl (kMovC rfl (kGP rfl (fun g0 => kGT rfl (kMovC rfl (kGT rfl (kMovC rfl (kGT rfl (kLenR rfl rfl (kGT rfl (kMovC rfl (kGT rfl (kLenR rfl rfl (kGT rfl (kDif rfl rfl (by omega) (kGT rfl (kCutLT rfl rfl (by omega) (kGT rfl (kMovC rfl (kGT rfl (kCallD (ok_bytes_Equal _ _) ⟨rfl, rfl, trivial⟩ rfl rfl rfl rfl rfl (kPickT rfl (kMovC rfl (kMovC rfl (kDone (kRet (endRetA (ra := [.one (.d _)]) rfl ?_)))))))))))))))))))))))) (fun g0 => kGF rfl (kGF rfl (kGF rfl (kGF rfl (kGF rfl (kGF rfl (kGF rfl (kGF rfl (kGF rfl (kPickF rfl (kMovC rfl (kMovC rfl (kDone (kRet (endRetA (ra := [.one (.d _)]) rfl ?_)))))))))))))))))))))))))))
  · have e : ((a.length : Int) - b.length).toNat = a.length - b.length := by omega
    refine congrArg (fun z : Bool => [RA.one (RV.d (DV.sc (Value.bool z)))]) ?_
    rw [e, Bool.eq_iff_iff]
    simp
    intro _
    omega
  · rw [decide_eq_false (by omega)]

def c_bytes_TrimSuffix : C := (.seq (.reg false (.o 0 4 (.mov (.n 1)) .done)) (.seq (.seq (.reg false (.o 0 5 (.mov (.t 0)) (.o 1 6 (.mov (.t 1)) (.o 2 7 (.call 7 62 [(.t 5), (.t 6)]) .done)))) (.cond (.t 7) (.seq (.reg false (.o 0 8 (.mov (.t 0)) (.o 1 9 (.mov (.t 0)) (.o 2 10 (.len (.t 9)) (.o 3 11 (.mov (.t 1)) (.o 4 12 (.len (.t 11)) (.o 5 13 (.bin .sub (.t 10) (.t 12)) (.o 6 14 (.cut 1 (.t 8) none (some (.t 13))) (.o 7 4 (.mov (.t 14)) .done))))))))) .ret) .skip)) (.seq (.reg false (.o 0 15 (.mov (.t 0)) (.o 1 4 (.mov (.t 15)) .done))) .ret)))
theorem dg_bytes_TrimSuffix : Tryd.f32.body.bind (digC Tryd.prog Tryd.f32.ntmps []) = some c_bytes_TrimSuffix := by kernel_rfl
theorem rs_bytes_TrimSuffix : resSlots Tryd.prog Tryd.f32 = some [.s 4] := by kernel_rfl
theorem ok_bytes_TrimSuffix (a b : List UInt8) (ha : a.length ≤ 9223372036854775807) (hb : b.length ≤ 9223372036854775807) :
    FnOK Tryd.prog 32 [.one (.d (encB a)), .one (.d (encB b))] (fun ra _ => ra = [.one (.d (encB (trimB a b)))]) := by
  refine FnOK.ofK Tryd.func32 (by kernel_rfl) dg_bytes_TrimSuffix rs_bytes_TrimSuffix rfl rfl ?_
  delta c_bytes_TrimSuffix T.o X.i
  refine kSeq (kReg (kMovC rfl (kDone (kSeq (kSeq (kReg (kMovC rfl (kMovC rfl (kCallD (ok_bytes_HasSuffix _ _ (by first | assumption | omega | solve_by_elim [List.getElem_mem] | (simp only [szOut] at *; omega) | exact rfl | exact leb | exact rrOk_small (by assumption) | exact zoneOk_small (by assumption) | exact SmallBB.ok (by assumption) | exact (SmallBB.ok (by assumption)).len | exact (SmallBB.ok (by assumption)).mem | exact SmallBB.bent (by assumption)) (by first | assumption | omega | solve_by_elim [List.getElem_mem] | (simp only [szOut] at *; omega) | exact rfl | exact leb | exact rrOk_small (by assumption) | exact zoneOk_small (by assumption) | exact SmallBB.ok (by assumption) | exact (SmallBB.ok (by assumption)).len | exact (SmallBB.ok (by assumption)).mem | exact SmallBB.bent (by assumption))) ⟨rfl, rfl, trivial⟩ rfl rfl rfl rfl rfl (kDone (kCondP rfl (fun g0 => kSeq (kReg (kMovC rfl (kMovC rfl (kLenR rfl rfl (kMovC rfl (kLenR rfl rfl (kDif rfl rfl (by omega) (kCutHT rfl rfl (by omega) (kMovC rfl (kDone (kRet (endRetA (ra := [.one (.d _)]) rfl ?_))))))))))))) (fun g0 => kSkip (kSeq (kReg (kMovC rfl (kMovC rfl (kDone (kRet (endRetA (ra := [.one (.d _)]) rfl ?_)))))))))))))))))))
  · rw [trimB, if_pos g0, show ((a.length : Int) - b.length).toNat = a.length - b.length by omega]
    rfl
  · rw [trimB, if_neg g0]

theorem ok_bytes_Count (a : List UInt8) (c : UInt8) : FnOK Tryd.prog 79 [.one (.d (encB a)), .one (.d (encB [c]))] (fun ra _ => ra = [.one (.d (.sc (.int .i64 (a.count c))))]) := by
  refine FnOK.ofWalk2 Tryd.func79 rfl (by kernel_rfl) fun w va vb S h1 h2 => ?_
  obtain ⟨b, o, k, rfl, hcell⟩ := h2.one_byte
  have hc := run_cntb (P := Tryd.prog) (w := w) (va := va) (c := c) Tryd.func88 (by kernel_rfl) rfl (by kernel_rfl) (by kernel_rfl) (Rd.of h1)
  go_enter Tryd.func79, Tryd.ntmps79
  go_wp2
  all_goals go_ret
  exact ⟨rfl, Go.RowKit.Below.refl _ _⟩

theorem ok_bytes_IndexByte (a : List UInt8) (c : UInt8) : FnOK Tryd.prog 89 [.one (.d (encB a)), .one (.d (.sc (.int .u8 c.toNat)))] (fun ra _ => ra = [.one (.d (.sc (.int .i64 (Go.Lib.indexByte a c))))]) := by
  refine FnOK.ofWalk2 Tryd.func89 rfl (by kernel_rfl) fun w va vb S h1 h2 => ?_
  obtain rfl := h2.sc_eq
  have hc := run_ixb (P := Tryd.prog) (w := w) (va := va) (c := c) Tryd.func98 (by kernel_rfl) rfl (by kernel_rfl) (by kernel_rfl) (Rd.of h1)
  go_enter Tryd.func89, Tryd.ntmps89
  go_wp2
  all_goals go_ret
  exact ⟨rfl, Go.RowKit.Below.refl _ _⟩

def c_bytes_Index : C := (.seq (.reg false (.o 0 4 (.mov (.i 0)) .done)) (.seq (.reg false (.o 0 20 (.mov (.t 1)) (.o 1 21 (.len (.t 20)) (.o 2 5 (.mov (.t 21)) .done)))) (.seq (.block 0 (.seq (.reg false (.o 0 23 (.mov (.t 5)) (.o 1 24 (.bin .eql (.t 23) (.i 0)) (.o 2 22 (.mov (.t 24)) .done)))) (.cond (.t 22) (.seq (.reg false (.o 0 4 (.mov (.i 0)) .done)) .ret) (.seq (.reg false (.o 0 26 (.mov (.t 5)) (.o 1 27 (.bin .eql (.t 26) (.i 1)) (.o 2 25 (.mov (.t 27)) .done)))) (.cond (.t 25) (.seq (.reg false (.o 0 28 (.mov (.t 0)) (.o 1 29 (.mov (.t 1)) (.o 2 30 (.iad 1 (.t 29) (.i 0)) (.o 3 31 (.load none (.t 30)) (.o 4 32 (.call 32 89 [(.t 28), (.t 31)]) (.o 5 4 (.mov (.t 32)) .done))))))) .ret) (.seq (.reg false (.o 0 34 (.mov (.t 5)) (.o 1 35 (.mov (.t 0)) (.o 2 36 (.len (.t 35)) (.o 3 37 (.bin .eql (.t 34) (.t 36)) (.o 4 33 (.mov (.t 37)) .done)))))) (.cond (.t 33) (.seq (.seq (.reg false (.o 0 38 (.mov (.t 1)) (.o 1 39 (.mov (.t 0)) (.o 2 40 (.call 40 77 [(.t 38), (.t 39)]) .done)))) (.cond (.t 40) (.seq (.reg false (.o 0 4 (.mov (.i 0)) .done)) .ret) .skip)) (.seq (.reg false (.o 0 4 (.mov (.i (-1))) .done)) .ret)) (.seq (.reg false (.o 0 42 (.mov (.t 5)) (.o 1 43 (.mov (.t 0)) (.o 2 44 (.len (.t 43)) (.o 3 45 (.bin .gtr (.t 42) (.t 44)) (.o 4 41 (.mov (.t 45)) .done)))))) (.cond (.t 41) (.seq (.reg false (.o 0 4 (.mov (.i (-1))) .done)) .ret) (.seq (.reg false (.o 0 47 (.mov (.t 5)) (.op 1 [] (some 48) none false .bad (.o 2 49 (.bin .leq (.t 47) (.t 48)) (.o 3 46 (.mov (.t 49)) .done))))) (.cond (.t 46) (.seq (.seq (.reg false (.o 0 50 (.mov (.t 0)) (.o 1 51 (.len (.t 50)) (.o 2 52 (.bin .leq (.t 51) (.i 64)) .done)))) (.cond (.t 52) (.seq (.reg false (.o 0 53 (.mov (.t 0)) (.o 1 54 (.mov (.t 1)) (.o 2 55 (.call 55 90 [(.t 53), (.t 54)]) (.o 3 4 (.mov (.t 55)) .done))))) .ret) .skip)) (.seq (.reg false (.o 0 56 (.mov (.t 1)) (.o 1 57 (.iad 1 (.t 56) (.i 0)) (.o 2 58 (.load none (.t 57)) (.o 3 6 (.mov (.t 58)) .done))))) (.seq (.reg false (.o 0 59 (.mov (.t 1)) (.o 1 60 (.iad 1 (.t 59) (.i 1)) (.o 2 61 (.load none (.t 60)) (.o 3 7 (.mov (.t 61)) .done))))) (.seq (.reg false (.o 0 8 (.mov (.i 0)) .done)) (.seq (.reg false (.o 0 62 (.mov (.t 0)) (.o 1 63 (.len (.t 62)) (.o 2 64 (.mov (.t 5)) (.o 3 65 (.bin .sub (.t 63) (.t 64)) (.o 4 66 (.bin .add (.t 65) (.i 1)) (.o 5 9 (.mov (.t 66)) .done))))))) (.seq (.reg false (.o 0 10 (.mov (.i 0)) .done)) (.seq (.block 1 (.loop (.seq (.seq (.reg false (.o 0 67 (.mov (.t 8)) (.o 1 68 (.mov (.t 9)) (.o 2 69 (.bin .lss (.t 67) (.t 68)) .done)))) (.cond (.t 69) .skip (.exit 1))) (.block 2 (.seq (.seq (.reg false (.o 0 70 (.mov (.t 0)) (.o 1 71 (.mov (.t 8)) (.o 2 72 (.iad 1 (.t 70) (.t 71)) (.o 3 73 (.load none (.t 72)) (.o 4 74 (.mov (.t 6)) (.o 5 75 (.bin .neq (.t 73) (.t 74)) .done))))))) (.cond (.t 75) (.seq (.reg false (.o 0 76 (.mov (.t 0)) (.o 1 77 (.mov (.t 8)) (.o 2 78 (.bin .add (.t 77) (.i 1)) (.o 3 79 (.mov (.t 9)) (.o 4 80 (.cut 1 (.t 76) (some (.t 78)) (some (.t 79))) (.o 5 81 (.mov (.t 6)) (.o 6 82 (.call 82 89 [(.t 80), (.t 81)]) (.o 7 11 (.mov (.t 82)) .done))))))))) (.seq (.seq (.reg false (.o 0 83 (.mov (.t 11)) (.o 1 84 (.bin .lss (.t 83) (.i 0)) .done))) (.cond (.t 84) (.seq (.reg false (.o 0 4 (.mov (.i (-1))) .done)) .ret) .skip)) (.reg false (.o 0 85 (.mov (.t 8)) (.o 1 86 (.mov (.t 11)) (.o 2 87 (.bin .add (.t 86) (.i 1)) (.o 3 88 (.bin .add (.t 85) (.t 87)) (.o 4 8 (.mov (.t 88)) .done)))))))) .skip)) (.seq (.seq (.reg false (.o 0 89 (.mov (.t 0)) (.o 1 90 (.mov (.t 8)) (.o 2 91 (.bin .add (.t 90) (.i 1)) (.o 3 92 (.iad 1 (.t 89) (.t 91)) (.o 4 93 (.load none (.t 92)) (.o 5 94 (.mov (.t 7)) (.o 6 95 (.bin .eql (.t 93) (.t 94)) (.o 7 96 (.mov (.t 95)) (.op 8 [] (some 97) (some (96, true)) false (.mov (.t 0)) (.op 9 [] (some 98) (some (96, true)) false (.mov (.t 8)) (.op 10 [] (some 99) (some (96, true)) false (.mov (.t 8)) (.op 11 [] (some 100) (some (96, true)) false (.mov (.t 5)) (.op 12 [] (some 101) (some (96, true)) false (.bin .add (.t 99) (.t 100)) (.op 13 [] (some 102) (some (96, true)) false (.cut 1 (.t 97) (some (.t 98)) (some (.t 101))) (.op 14 [] (some 103) (some (96, true)) false (.mov (.t 1)) (.op 15 [] (some 104) (some (96, true)) false (.call 104 77 [(.t 102), (.t 103)]) (.o 16 105 (.pick (.t 96) (.t 104) (.v (.bool false))) .done)))))))))))))))))) (.cond (.t 105) (.seq (.reg false (.o 0 106 (.mov (.t 8)) (.o 1 4 (.mov (.t 106)) .done))) .ret) .skip)) (.seq (.reg false (.o 0 107 (.mov (.t 10)) (.o 1 108 (.bin .add (.t 107) (.i 1)) (.o 2 10 (.mov (.t 108)) .done)))) (.seq (.reg false (.o 0 109 (.mov (.t 8)) (.o 1 110 (.bin .add (.t 109) (.i 1)) (.o 2 8 (.mov (.t 110)) .done)))) (.seq (.reg false (.o 0 111 (.mov (.t 10)) (.o 1 112 (.mov (.t 8)) (.o 2 113 (.call 113 91 [(.t 112)]) (.o 3 114 (.bin .gtr (.t 111) (.t 113)) .done))))) (.cond (.t 114) (.seq (.reg false (.o 0 115 (.mov (.t 0)) (.o 1 116 (.mov (.t 8)) (.o 2 117 (.cut 1 (.t 115) (some (.t 116)) none) (.o 3 118 (.mov (.t 1)) (.o 4 119 (.call 119 90 [(.t 117), (.t 118)]) (.o 5 12 (.mov (.t 119)) .done))))))) (.seq (.seq (.reg false (.o 0 120 (.mov (.t 12)) (.o 1 121 (.bin .geq (.t 120) (.i 0)) .done))) (.cond (.t 121) (.seq (.reg false (.o 0 122 (.mov (.t 12)) (.o 1 123 (.mov (.t 8)) (.o 2 124 (.bin .add (.t 122) (.t 123)) (.o 3 4 (.mov (.t 124)) .done))))) .ret) .skip)) (.seq (.reg false (.o 0 4 (.mov (.i (-1))) .done)) .ret))) .skip)))))))))) (.seq (.reg false (.o 0 4 (.mov (.i (-1))) .done)) .ret)))))))) .skip))))))))))) (.seq (.reg false (.o 0 125 (.mov (.t 1)) (.o 1 126 (.iad 1 (.t 125) (.i 0)) (.o 2 127 (.load none (.t 126)) (.o 3 13 (.mov (.t 127)) .done))))) (.seq (.reg false (.o 0 128 (.mov (.t 1)) (.o 1 129 (.iad 1 (.t 128) (.i 1)) (.o 2 130 (.load none (.t 129)) (.o 3 14 (.mov (.t 130)) .done))))) (.seq (.reg false (.o 0 15 (.mov (.i 0)) .done)) (.seq (.reg false (.o 0 16 (.mov (.i 0)) .done)) (.seq (.reg false (.o 0 131 (.mov (.t 0)) (.o 1 132 (.len (.t 131)) (.o 2 133 (.mov (.t 5)) (.o 3 134 (.bin .sub (.t 132) (.t 133)) (.o 4 135 (.bin .add (.t 134) (.i 1)) (.o 5 17 (.mov (.t 135)) .done))))))) (.seq (.block 3 (.loop (.seq (.seq (.reg false (.o 0 136 (.mov (.t 15)) (.o 1 137 (.mov (.t 17)) (.o 2 138 (.bin .lss (.t 136) (.t 137)) .done)))) (.cond (.t 138) .skip (.exit 3))) (.block 4 (.seq (.seq (.reg false (.o 0 139 (.mov (.t 0)) (.o 1 140 (.mov (.t 15)) (.o 2 141 (.iad 1 (.t 139) (.t 140)) (.o 3 142 (.load none (.t 141)) (.o 4 143 (.mov (.t 13)) (.o 5 144 (.bin .neq (.t 142) (.t 143)) .done))))))) (.cond (.t 144) (.seq (.reg false (.o 0 145 (.mov (.t 0)) (.o 1 146 (.mov (.t 15)) (.o 2 147 (.bin .add (.t 146) (.i 1)) (.o 3 148 (.mov (.t 17)) (.o 4 149 (.cut 1 (.t 145) (some (.t 147)) (some (.t 148))) (.o 5 150 (.mov (.t 13)) (.o 6 151 (.call 151 89 [(.t 149), (.t 150)]) (.o 7 18 (.mov (.t 151)) .done))))))))) (.seq (.seq (.reg false (.o 0 152 (.mov (.t 18)) (.o 1 153 (.bin .lss (.t 152) (.i 0)) .done))) (.cond (.t 153) (.exit 3) .skip)) (.reg false (.o 0 154 (.mov (.t 15)) (.o 1 155 (.mov (.t 18)) (.o 2 156 (.bin .add (.t 155) (.i 1)) (.o 3 157 (.bin .add (.t 154) (.t 156)) (.o 4 15 (.mov (.t 157)) .done)))))))) .skip)) (.seq (.seq (.reg false (.o 0 158 (.mov (.t 0)) (.o 1 159 (.mov (.t 15)) (.o 2 160 (.bin .add (.t 159) (.i 1)) (.o 3 161 (.iad 1 (.t 158) (.t 160)) (.o 4 162 (.load none (.t 161)) (.o 5 163 (.mov (.t 14)) (.o 6 164 (.bin .eql (.t 162) (.t 163)) (.o 7 165 (.mov (.t 164)) (.op 8 [] (some 166) (some (165, true)) false (.mov (.t 0)) (.op 9 [] (some 167) (some (165, true)) false (.mov (.t 15)) (.op 10 [] (some 168) (some (165, true)) false (.mov (.t 15)) (.op 11 [] (some 169) (some (165, true)) false (.mov (.t 5)) (.op 12 [] (some 170) (some (165, true)) false (.bin .add (.t 168) (.t 169)) (.op 13 [] (some 171) (some (165, true)) false (.cut 1 (.t 166) (some (.t 167)) (some (.t 170))) (.op 14 [] (some 172) (some (165, true)) false (.mov (.t 1)) (.op 15 [] (some 173) (some (165, true)) false (.call 173 77 [(.t 171), (.t 172)]) (.o 16 174 (.pick (.t 165) (.t 173) (.v (.bool false))) .done)))))))))))))))))) (.cond (.t 174) (.seq (.reg false (.o 0 175 (.mov (.t 15)) (.o 1 4 (.mov (.t 175)) .done))) .ret) .skip)) (.seq (.reg false (.o 0 176 (.mov (.t 15)) (.o 1 177 (.bin .add (.t 176) (.i 1)) (.o 2 15 (.mov (.t 177)) .done)))) (.seq (.reg false (.o 0 178 (.mov (.t 16)) (.o 1 179 (.bin .add (.t 178) (.i 1)) (.o 2 16 (.mov (.t 179)) .done)))) (.seq (.reg false (.o 0 180 (.mov (.t 16)) (.o 1 181 (.mov (.t 15)) (.o 2 182 (.bin .shr (.t 181) (.v (.int .u64 4))) (.o 3 183 (.bin .add (.i 4) (.t 182)) (.o 4 184 (.bin .geq (.t 180) (.t 183)) (.o 5 185 (.mov (.t 184)) (.op 6 [] (some 186) (some (185, true)) false (.mov (.t 15)) (.op 7 [] (some 187) (some (185, true)) false (.mov (.t 17)) (.op 8 [] (some 188) (some (185, true)) false (.bin .lss (.t 186) (.t 187)) (.o 9 189 (.pick (.t 185) (.t 188) (.v (.bool false))) .done))))))))))) (.cond (.t 189) (.seq (.reg false (.o 0 190 (.mov (.t 0)) (.o 1 191 (.mov (.t 15)) (.o 2 192 (.cut 1 (.t 190) (some (.t 191)) none) (.o 3 193 (.mov (.t 1)) (.o 4 194 (.call 194 92 [(.t 192), (.t 193)]) (.o 5 19 (.mov (.t 194)) .done))))))) (.seq (.seq (.reg false (.o 0 195 (.mov (.t 19)) (.o 1 196 (.bin .lss (.t 195) (.i 0)) .done))) (.cond (.t 196) (.seq (.reg false (.o 0 4 (.mov (.i (-1))) .done)) .ret) .skip)) (.seq (.reg false (.o 0 197 (.mov (.t 15)) (.o 1 198 (.mov (.t 19)) (.o 2 199 (.bin .add (.t 197) (.t 198)) (.o 3 4 (.mov (.t 199)) .done))))) .ret))) .skip)))))))))) (.seq (.reg false (.o 0 4 (.mov (.i (-1))) .done)) .ret))))))))))
theorem dg_bytes_Index : Tryd.f80.body.bind (digC Tryd.prog Tryd.f80.ntmps []) = some c_bytes_Index := by kernel_rfl
theorem rs_bytes_Index : resSlots Tryd.prog Tryd.f80 = some [.s 4] := by kernel_rfl
theorem ok_bytes_Index (a : List UInt8) (c : UInt8) (ha : a.length ≤ 9223372036854775807) :
    FnOK Tryd.prog 80 [.one (.d (encB a)), .one (.d (encB [c]))] (fun ra _ => ra = [.one (.d (.sc (.int .i64 (Go.Lib.indexByte a c))))]) := by
  refine FnOK.ofK Tryd.func80 (by kernel_rfl) dg_bytes_Index rs_bytes_Index rfl rfl ?_
  delta c_bytes_Index T.o X.i
  refine kSeq (kReg (kMovC rfl (kDone (kSeq (kReg (kMovC rfl (kLenR rfl rfl (kMovC rfl (kDone (kSeq (kBlock (kSeq (kReg (kMovC rfl (kBin rfl rfl rfl (kMovC rfl (kDone (kCondF rfl (kSeq (kReg (kMovC rfl (kBin rfl rfl rfl (kMovC rfl (kDone (kCondT rfl (kSeq (kReg (kMovC rfl (kMovC rfl (kIadR (m := 0) rfl rfl rfl (by first | omega | (simp only [List.length_append, List.length_cons, List.length_nil]; omega)) (kLoadD rfl rfl (kCallD (ok_bytes_IndexByte _ _) ⟨rfl, rfl, trivial⟩ rfl rfl rfl rfl rfl (kMovC rfl (kDone (kRet (endRetA (ra := [.one (.d _)]) rfl rfl))))))))))))))))))))))))))))))))))))

def c_bytes_genSplit : C := (.seq (.reg false (.o 0 8 (.mov (.n 1)) .done)) (.seq (.seq (.reg false (.o 0 12 (.mov (.t 3)) (.o 1 13 (.bin .eql (.t 12) (.i 0)) .done))) (.cond (.t 13) (.seq (.reg false (.o 0 8 (.mov (.n 1)) .done)) .ret) .skip)) (.seq (.seq (.reg false (.o 0 14 (.mov (.t 1)) (.o 1 15 (.len (.t 14)) (.o 2 16 (.bin .eql (.t 15) (.i 0)) .done)))) (.cond (.t 16) (.seq (.reg false (.o 0 17 (.mov (.t 0)) (.o 1 18 (.mov (.t 3)) (.o 2 19 (.call 19 78 [(.t 17), (.t 18)]) (.o 3 8 (.mov (.t 19)) .done))))) .ret) .skip)) (.seq (.seq (.reg false (.o 0 20 (.mov (.t 3)) (.o 1 21 (.bin .lss (.t 20) (.i 0)) .done))) (.cond (.t 21) (.reg false (.o 0 22 (.mov (.t 0)) (.o 1 23 (.mov (.t 1)) (.o 2 24 (.call 24 79 [(.t 22), (.t 23)]) (.o 3 25 (.bin .add (.t 24) (.i 1)) (.o 4 3 (.mov (.t 25)) .done)))))) .skip)) (.seq (.reg false (.o 0 26 (.mov (.t 3)) (.o 1 27 (.mov (.t 0)) (.o 2 28 (.len (.t 27)) (.o 3 29 (.bin .add (.t 28) (.i 1)) (.o 4 30 (.mm false (.t 26) (.t 29)) (.o 5 3 (.mov (.t 30)) .done))))))) (.seq (.reg false (.o 0 31 (.mov (.t 3)) (.o 1 32 (.mk 32 1 [(.n 1)] 24 (.t 31)) (.o 2 9 (.mov (.t 32)) .done)))) (.seq (.reg false (.o 0 33 (.mov (.t 3)) (.o 1 34 (.bin .sub (.t 33) (.i 1)) (.o 2 3 (.mov (.t 34)) .done)))) (.seq (.reg false (.o 0 10 (.mov (.i 0)) .done)) (.seq (.block 0 (.loop (.seq (.seq (.reg false (.o 0 35 (.mov (.t 10)) (.o 1 36 (.mov (.t 3)) (.o 2 37 (.bin .lss (.t 35) (.t 36)) .done)))) (.cond (.t 37) .skip (.exit 0))) (.block 1 (.seq (.reg false (.o 0 38 (.mov (.t 0)) (.o 1 39 (.mov (.t 1)) (.o 2 40 (.call 40 80 [(.t 38), (.t 39)]) (.o 3 11 (.mov (.t 40)) .done))))) (.seq (.seq (.reg false (.o 0 41 (.mov (.t 11)) (.o 1 42 (.bin .lss (.t 41) (.i 0)) .done))) (.cond (.t 42) (.exit 0) .skip)) (.seq (.reg false (.o 0 43 (.mov (.t 9)) (.o 1 44 (.mov (.t 10)) (.o 2 45 (.mov (.t 0)) (.o 3 46 (.mov (.t 11)) (.o 4 47 (.mov (.t 2)) (.o 5 48 (.bin .add (.t 46) (.t 47)) (.o 6 49 (.mov (.t 11)) (.o 7 50 (.mov (.t 2)) (.o 8 51 (.bin .add (.t 49) (.t 50)) (.o 9 52 (.cut3 1 (.t 45) none (.t 48) (.t 51)) (.o 10 53 (.iad 1 (.t 43) (.t 44)) (.op 11 [] none none false (.store none (.t 53) (.t 52)) .done))))))))))))) (.seq (.reg false (.o 0 54 (.mov (.t 0)) (.o 1 55 (.mov (.t 11)) (.o 2 56 (.mov (.t 1)) (.o 3 57 (.len (.t 56)) (.o 4 58 (.bin .add (.t 55) (.t 57)) (.o 5 59 (.cut 1 (.t 54) (some (.t 58)) none) (.o 6 0 (.mov (.t 59)) .done)))))))) (.reg false (.o 0 60 (.mov (.t 10)) (.o 1 61 (.bin .add (.t 60) (.i 1)) (.o 2 10 (.mov (.t 61)) .done)))))))))))) (.seq (.reg false (.o 0 62 (.mov (.t 9)) (.o 1 63 (.mov (.t 10)) (.o 2 64 (.mov (.t 0)) (.o 3 65 (.iad 1 (.t 62) (.t 63)) (.op 4 [] none none false (.store none (.t 65) (.t 64)) .done)))))) (.seq (.reg false (.o 0 66 (.mov (.t 9)) (.o 1 67 (.mov (.t 10)) (.o 2 68 (.bin .add (.t 67) (.i 1)) (.o 3 69 (.cut 1 (.t 66) none (some (.t 68))) (.o 4 8 (.mov (.t 69)) .done)))))) .ret)))))))))))
theorem dg_bytes_genSplit : Tryd.f61.body.bind (digC Tryd.prog Tryd.f61.ntmps []) = some c_bytes_genSplit := by kernel_rfl
theorem rs_bytes_genSplit : resSlots Tryd.prog Tryd.f61 = some [.s 8] := by kernel_rfl
theorem ok_bytes_genSplit (a : List UInt8) (c : UInt8) (ha : a.length ≤ 4194304) :
    FnOK Tryd.prog 61 [.one (.d (encB a)), .one (.d (encB [c])), .one (.d (.sc (.int .i64 0))), .one (.d (.sc (.int .i64 (-1))))] (fun ra _ => ra = [.one (.d (encBB (splitB a c)))]) := by
  refine FnOK.ofK Tryd.func61 (by kernel_rfl) dg_bytes_genSplit rs_bytes_genSplit rfl rfl ?_
  delta c_bytes_genSplit T.o X.i
  have hcn : a.count c ≤ a.length := List.count_le_length
  have hc1 : ([c] : List UInt8).length = 1 := rfl
  refine kSeq (kReg (kMovC rfl (kDone (kSeq (kSeq (kReg (kMovC rfl (kBin rfl rfl rfl (kDone (kCondF rfl (kSkip (kSeq (kSeq (kReg (kMovC rfl (kLenR rfl rfl (kBin rfl rfl rfl (kDone (kCondF rfl (kSkip (kSeq (kSeq (kReg (kMovC rfl (kBin rfl rfl rfl (kDone (kCondT rfl (kReg (kMovC rfl (kMovC rfl (kCallD (ok_bytes_Count _ _) ⟨rfl, rfl, trivial⟩ rfl rfl rfl rfl rfl (kAdd rfl rfl (by omega) (kMovC rfl (kDone (kSeq (kReg (kMovC rfl (kMovC rfl (kLenR rfl rfl (kAdd rfl rfl (by omega) (kMmMin rfl rfl (kMovC rfl (kDone (kSeq (kReg (kMovC rfl ?_))))))))))))))))))))))))))))))))))))))))))))))
  rw [show min ((a.count c : Int) + 1) ((a.length : Int) + 1) = ((a.count c + 1 : Nat) : Int) by omega]
  refine kMk rfl (by omega) rfl rfl rfl rfl rfl ?_
  rw [show DV.sl 1 (List.replicate (Int.toNat ((a.count c + 1 : Nat) : Int)) [.sl 1 []]) = encBB (List.replicate (a.count c + 1) []) by simp [encBB, encB]]
  refine kMem [(135168, ⟨1, 0, .arr true _⟩)] [(32, .c (.arr 135168 1))] [] ⟨rfl, trivial⟩ ⟨rfl, trivial⟩ rfl (kMovC rfl (kDone (kSeq (kReg (kMovC rfl (kDif rfl rfl (by omega) (kMovC rfl (kDone (kSeq (kReg (kMovC rfl (kDone (kSeq (kBlock ?_))))))))))))))
  refine kLoop (α := { y : List (List UInt8) × List UInt8 // splitB a c = y.1 ++ splitB y.2 c ∧ y.2.length ≤ a.length ∧ y.1.length + y.2.count c = a.count c })
    (fun y => ⟨tabSl [(0, .dv (encB y.1.2)), (1, .dv (encB [c])), (2, .i 0), (3, .i (a.count c)), (9, .c (.arr (rid 32 0) 1)), (10, .i y.1.1.length)], obTab 1 [(rid 32 0, ⟨1, 0, .arr false (encBB (y.1.1 ++ List.replicate (y.1.2.count c + 1) []))⟩)], []⟩) (fun y => y.1.2.count c) ⟨([], a), rfl, Nat.le_refl _, by simp⟩ ?_ ?_
  · exact .normA
  rintro ⟨⟨p, l⟩, h1, h2, h3⟩
  simp only at h1 h2 h3 ⊢
  have hL : (p ++ List.replicate (l.count c + 1) ([] : List UInt8)).length = a.count c + 1 := by simp; omega
  rcases splitB_idx l c with ⟨e1, e2⟩ | ⟨m, e1, e2, e3, e4⟩
  · have e3 : l.count c = 0 := List.count_eq_zero.2 e2
    refine kSeq (kSeq (kReg (kMovC rfl (kMovC rfl (kBin rfl rfl rfl (kDone (kCondP rfl (fun g0 => (by omega)) (fun g0 => kExit (kExC (kExI (kExB (kSeq (kReg (kMovC rfl (kMovC rfl (kMovC rfl (kIadAR rfl rfl rfl rfl (by first | omega | (simp only [List.length_append, List.length_cons, List.length_nil]; omega)) (kStoreER rfl rfl rfl rfl rfl rfl rfl (by omega) rfl (kDone (kSeq (kReg (kMovC rfl (kMovC rfl (kMem [(135168, ⟨1, 1, .arr false _⟩)] [(67, .c (.d _)), (66, .c (.arr 135168 1))] [] ⟨rfl, trivial⟩ ⟨rfl, rfl, trivial⟩ rfl (kAdd rfl rfl (by omega) ?_)))))))))))))))))))))))))
    refine kCutAH rfl rfl rfl rfl rfl (by simp; omega) ?_
    refine kMovC rfl (kDone (kRet (endRetA (ra := [.one (.d _)]) rfl ?_)))
    refine congrArg (fun z : List (List UInt8) => [RA.one (RV.d (encBB z))]) ?_
    rw [h1, splitB_no _ _ e2, e3]
    simp
    exact List.take_of_length_le (by simp)
  · refine kSeq (kSeq (kReg (kMovC rfl (kMovC rfl (kBin rfl rfl rfl (kDone (kCondP rfl (fun g0 => kSkip (kBlock (kSeq (kReg (kMovC rfl (kMovC rfl (kCallD (ok_bytes_Index _ _ (by first | assumption | omega | solve_by_elim [List.getElem_mem] | (simp only [szOut] at *; omega) | exact rfl | exact leb | exact rrOk_small (by assumption) | exact zoneOk_small (by assumption) | exact SmallBB.ok (by assumption) | exact (SmallBB.ok (by assumption)).len | exact (SmallBB.ok (by assumption)).mem | exact SmallBB.bent (by assumption))) ⟨rfl, rfl, trivial⟩ rfl rfl rfl rfl rfl (kMovC rfl (kDone (kSeq (kSeq (kReg (kMovC rfl (kBin rfl rfl rfl (kDone (kCondP rfl (fun g1 => (by omega)) (fun g1 => kSkip (kSeq (kReg (kMovC rfl (kMovC rfl (kMovC rfl (kMem [(135168, ⟨1, 0, .arr false _⟩)] [(11, .c (.d _)), (2, .c (.d _)), (45, .c (.d _)), (43, .c (.arr 135168 1)), (44, .c (.d _))] [] ⟨rfl, trivial⟩ ⟨rfl, rfl, rfl, rfl, rfl, trivial⟩ rfl (kMovC rfl (kMovC rfl (kAdd rfl rfl (by omega) (kMovC rfl (kMovC rfl (kAdd rfl rfl (by omega) ?_))))))))))))))))))))))))))))) (fun g0 => (by omega)))))))))
    rw [e1]
    refine kCut3H rfl rfl rfl (by omega) ?_
    refine kIadAR rfl rfl rfl rfl (by first | omega | (simp only [List.length_append, List.length_cons, List.length_nil]; omega)) (kStoreER rfl rfl rfl rfl rfl rfl rfl (by omega) rfl (kDone (kSeq (kReg (kMovC rfl (kMovC rfl (kMovC rfl (kLenR rfl rfl (kAdd rfl rfl (by omega) (kCutL rfl rfl rfl (by omega) (kMovC rfl (kDone (kReg (kMovC rfl (kAdd rfl rfl (by omega) (kMovC rfl (kDone (kBk ?_))))))))))))))))))
    refine kInv ⟨⟨(p ++ [l.take m], l.drop (m + 1)), by rw [h1, e3]; simp, by simp; omega, by simp; omega⟩, by simp only; omega, ?_⟩
    simp only
    rw [show ((m : Int) + 0).toNat = m by omega, show (p ++ List.replicate (l.count c + 1) ([] : List UInt8)).set p.length (l.take m) = p ++ [l.take m] ++ List.replicate ((l.drop (m + 1)).count c + 1) [] by rw [e4]; simp [List.replicate_succ]]
    exact .normA

def c_bytes_Split : C := (.seq (.reg false (.o 0 4 (.mov (.n 1)) .done)) (.seq (.reg false (.o 0 5 (.mov (.t 0)) (.o 1 6 (.mov (.t 1)) (.o 2 7 (.call 7 61 [(.t 5), (.t 6), (.i 0), (.i (-1))]) (.o 3 4 (.mov (.t 7)) .done))))) .ret))
theorem dg_bytes_Split : Tryd.f31.body.bind (digC Tryd.prog Tryd.f31.ntmps []) = some c_bytes_Split := by kernel_rfl
theorem rs_bytes_Split : resSlots Tryd.prog Tryd.f31 = some [.s 4] := by kernel_rfl
theorem ok_bytes_Split (a : List UInt8) (c : UInt8) (ha : a.length ≤ 4194304) :
    FnOK Tryd.prog 31 [.one (.d (encB a)), .one (.d (encB [c]))] (fun ra _ => ra = [.one (.d (encBB (splitB a c)))]) := by
  refine FnOK.ofK Tryd.func31 (by kernel_rfl) dg_bytes_Split rs_bytes_Split rfl rfl ?_
  delta c_bytes_Split T.o X.i
  refine kSeq (kReg (kMovC rfl (kDone (kSeq (kReg (kMovC rfl (kMovC rfl (kCallD2 (ok_bytes_genSplit _ _ (by first | assumption | omega | solve_by_elim [List.getElem_mem] | (simp only [szOut] at *; omega) | exact rfl | exact leb | exact rrOk_small (by assumption) | exact zoneOk_small (by assumption) | exact SmallBB.ok (by assumption) | exact (SmallBB.ok (by assumption)).len | exact (SmallBB.ok (by assumption)).mem | exact SmallBB.bent (by assumption))) ⟨rfl, rfl, rfl, rfl, trivial⟩ rfl rfl rfl rfl (kMovC rfl (kDone (kRet (endRetA (ra := [.one (.d _)]) rfl rfl))))))))))))

def c_impl_Name_copied : C := (.seq (.reg false (.o 0 1 (.box 1 (.t 0)) (.o 1 2 (.alloc 2 [(.n 1)]) .done))) (.seq (.reg false (.o 0 6 (.build [(.n 1)] []) (.o 1 3 (.alloc 3 [(.n 1)]) (.op 2 [] none none false (.store (some 1) (.t 3) (.t 6)) .done)))) (.seq (.seq (.reg false (.o 0 7 (.fad (.t 1) 0) (.o 1 8 (.load none (.t 7)) (.o 2 9 (.len (.t 8)) (.o 3 10 (.mov (.i 0)) .done))))) (.block 0 (.loop (.seq (.reg false (.o 0 11 (.bin .lss (.t 10) (.t 9)) .done)) (.seq (.cond (.t 11) .skip (.exit 0)) (.seq (.block 1 (.seq (.reg false (.o 0 12 (.iad 1 (.t 8) (.t 10)) (.o 1 13 (.load none (.t 12)) (.o 2 5 (.mov (.t 13)) .done)))) (.reg true (.op 0 [] (some 14) none true (.fad (.t 3) 0) (.op 1 [] (some 15) none true (.load none (.t 14)) (.op 2 [] (some 16) none true (.mov (.t 5)) (.o 3 17 (.call 17 63 [(.t 16)]) (.o 4 18 (.lit 18 1 [(.n 1)] 1 [(0, 1, (.t 17))]) (.op 5 [1] (some 19) none false (.app 19 1 24 (.t 15) (.t 18)) (.op 6 [] (some 20) none true (.fad (.t 3) 0) (.op 7 [1] none none false (.store none (.t 20) (.t 19)) .done))))))))))) (.reg false (.o 0 21 (.bin .add (.t 10) (.i 1)) (.o 1 10 (.mov (.t 21)) .done))))))))) (.seq (.reg false (.o 0 22 (.load (some 1) (.t 3)) (.op 1 [] none none false (.store (some 1) (.t 2) (.t 22)) .done))) .ret))))
theorem dg_impl_Name_copied : Tryd.f34.body.bind (digC Tryd.prog Tryd.f34.ntmps []) = some c_impl_Name_copied := by kernel_rfl
theorem rs_impl_Name_copied : resSlots Tryd.prog Tryd.f34 = some [.m 2 (some 1)] := by kernel_rfl
theorem ok_impl_Name_copied (a : List (List UInt8)) (ha : a.length ≤ 4194304) (hb : ∀ b ∈ a, b.length ≤ 4194304) :
    FnOK Tryd.prog 34 [.agg [.d (encBB a)]] (fun ra _ => ra = [.agg [.own true (encBB a)]]) := by
  refine FnOK.ofK Tryd.func34 (by kernel_rfl) dg_impl_Name_copied rs_impl_Name_copied rfl rfl ?_
  delta c_impl_Name_copied T.o X.i
  refine kSeq (kReg (kBox rfl rfl rfl rfl rfl (kAlloc rfl rfl (kDone ?_))))
  refine kSeq (kReg (kBuild rfl (kAlloc rfl rfl (kStoreP rfl rfl rfl rfl (kDone ?_)))))
  refine kSeq (kSeq (kReg (kFadP rfl rfl (kLoadP rfl rfl rfl (kLen rfl rfl rfl (kMovC rfl (kDone (kBlock ?_))))))))
  rw [len_encBB]
  refine kSub (Sub.nilBox (id := rid 3 0) (id2 := rid 5000 0) (j := 0) rfl rfl rfl (by decide) (by decide)) ?_
  refine kLoop (α := { i : Nat // i ≤ a.length })
    (fun y => ⟨tabSl [(1, .c (.ptr (rid 1 0) 1 0)), (2, .c (.ptr (rid 2 0) 1 0)), (3, .c (.ptr (rid 3 0) 1 0)), (8, .dv (encBB a)), (9, .i a.length), (10, .i y.1)],
      obTab 1 [(rid 1 0, ⟨1, 0, .box [.d (encBB a)]⟩), (rid 2 0, ⟨1, 0, .box [.nil 1]⟩), (rid 3 0, ⟨1, 0, .box [.arr (rid 5000 0) 1]⟩), (rid 5000 0, ⟨1, 0, .arr true (encBB (a.take y.1))⟩)], []⟩) (fun y => a.length - y.1) ⟨0, by simp⟩
    (.norm ?_ ?_) ?_
  · repeat' first | exact trivial | exact rfl | exact .inl rfl | refine ⟨_, rfl, ?_⟩ | refine ⟨?_, ?_⟩ | fail
  · repeat' first | exact trivial | exact rfl | exact .inl rfl | refine ⟨_, rfl, ?_⟩ | refine ⟨?_, ?_⟩ | fail
  rintro ⟨i, hi⟩
  simp only at hi ⊢
  refine kSeq (kReg (kBin rfl rfl rfl (kDone (kSeq ?_))))
  refine kCond rfl (fun h1 => ?_) (fun h1 => ?_)
  · have hlt : i < a.length := by simp at h1; omega
    refine kSkip (kSeq (kBlock (kSeq (kReg ?_))))
    refine kIadD rfl rfl rfl rfl ?_ ?_
    · rw [len_encBB]; omega
    rw [show (encBB a).row (i : Int).toNat = [encB a[i]] from row_encBB a i hlt]
    refine kLoadD rfl rfl (kMovC rfl (kDone (kRegD (kFadP rfl rfl (kLoadP rfl rfl rfl (kMovC rfl ?_))))))
    refine kCall1 false (ok_bytes_Clone a[i] (Nat.le_trans (hb _ (List.getElem_mem hlt)) (by omega))) ⟨rfl, trivial⟩ rfl rfl rfl fun os => ?_
    refine kLit rfl rfl rfl rfl (kRelF rfl rfl ?_)
    refine kApp rfl rfl rfl rfl rfl rfl ⟨rfl, rfl, Nat.zero_lt_one⟩ rfl ?_ ?_
    · show ((encBB (a.take i)).len + (DV.sl 1 [[encB a[i]]]).len) * 24 ≤ _ ∧ (encBB (a.take i)).len + (DV.sl 1 [[encB a[i]]]).len ≤ _
      rw [len_encBB, List.length_take]; simp [DV.len, DV.rows]; omega
    refine kFadP rfl rfl (kRelF rfl rfl (kStoreP rfl rfl rfl rfl (kDone (kH (kBk (kReg (kAdd rfl rfl (by omega) (kMovC rfl (kDone ?_)))))))))
    refine kInv ⟨⟨i + 1, hlt⟩, by simp only; omega, .norm ?_ ?_⟩
    · repeat' first | exact trivial | exact rfl | exact .inl rfl | refine ⟨_, rfl, ?_⟩ | refine ⟨?_, ?_⟩ | fail
    · repeat' first | exact trivial | exact rfl | exact .inl rfl | refine ⟨_, rfl, ?_⟩ | refine ⟨?_, ?_⟩ | fail
      rw [← List.take_append_getElem hlt, ← app_encBB]
      rfl
  · refine kExit (kExC (kExI (kExB (kSeq (kReg (kLoadP rfl rfl rfl (kStoreP rfl rfl rfl rfl (kDone ?_))))))))
    have hge : i = a.length := by simp at h1; omega
    subst hge
    refine kRet (endRet (ra := [.agg [.own true _]]) rfl ⟨⟨⟨⟨⟨⟨_, rfl, fun _ => rfl⟩, .inl Nat.zero_lt_one⟩, trivial⟩, leb⟩, trivial⟩, nodupB_sound rfl, ⟨trivial, trivial⟩, trivial⟩ ?_)
    rw [List.take_length]

def c_impl_NameRead : C := (.seq (.reg false (.o 0 2 (.alloc 2 [(.n 1)]) (.o 1 3 (.mov (.v (.bool false))) .done))) (.seq (.seq (.reg false (.o 0 5 (.mov (.t 0)) (.o 1 6 (.b2s (.t 5)) (.o 2 7 (.bin .eql (.t 6) (.v (.string ⟨#[46]⟩))) .done)))) (.cond (.t 7) (.seq (.reg false (.o 0 8 (.build [(.n 1)] []) (.op 1 [] none none false (.store (some 1) (.t 2) (.t 8)) (.o 2 3 (.mov (.v (.bool true))) .done)))) .ret) .skip)) (.seq (.seq (.reg false (.o 0 9 (.mov (.t 0)) (.o 1 10 (.len (.t 9)) (.o 2 11 (.bin .gtr (.t 10) (.i 96)) .done)))) (.cond (.t 11) (.seq (.reg false (.o 0 12 (.build [(.n 1)] []) (.op 1 [] none none false (.store (some 1) (.t 2) (.t 12)) (.o 2 3 (.mov (.v (.bool false))) .done)))) .ret) .skip)) (.seq (.reg false (.o 0 13 (.mov (.t 0)) (.o 1 14 (.call 14 33 [(.t 13)]) (.o 2 15 (.lit 15 1 [(.v (.int .u8 0))] 1 [(0, 1, (.v (.int .u8 46)))]) (.o 3 16 (.s2s (.t 15)) (.o 4 17 (.call 17 32 [(.t 14), (.t 16)]) (.o 5 18 (.lit 18 1 [(.v (.int .u8 0))] 1 [(0, 1, (.v (.int .u8 46)))]) (.o 6 19 (.s2s (.t 18)) (.o 7 20 (.call 20 31 [(.t 17), (.t 19)]) (.o 8 21 (.build [(.n 1)] [(0, 1, (.t 20))]) (.o 9 4 (.alloc 4 [(.n 1)]) (.op 10 [] none none false (.store (some 1) (.t 4) (.t 21)) .done)))))))))))) (.seq (.seq (.reg false (.o 0 22 (.load (some 1) (.t 4)) (.o 1 23 (.call 23 18 [(.t 22)]) (.o 2 24 (.un .not (.t 23)) .done)))) (.cond (.t 24) (.seq (.reg false (.o 0 25 (.build [(.n 1)] []) (.op 1 [] none none false (.store (some 1) (.t 2) (.t 25)) (.o 2 3 (.mov (.v (.bool false))) .done)))) .ret) .skip)) (.seq (.reg false (.o 0 26 (.load (some 1) (.t 4)) (.o 1 27 (.call 27 34 [(.t 26)]) (.op 2 [] none none false (.store (some 1) (.t 2) (.t 27)) (.o 3 3 (.mov (.v (.bool true))) .done))))) .ret))))))
theorem dg_impl_NameRead : Tryd.f9.body.bind (digC Tryd.prog Tryd.f9.ntmps []) = some c_impl_NameRead := by kernel_rfl
theorem rs_impl_NameRead : resSlots Tryd.prog Tryd.f9 = some [.m 2 (some 1), .s 3] := by kernel_rfl
theorem ok_impl_NameRead (b : List UInt8) (hb : b.length ≤ 4194304) :
    FnOK Tryd.prog 9 [.one (.d (encB b))] (fun ra _ => ra = [.agg [.own true (encBB (readN b))], .one (.d (.sc (.bool (readOk b))))]) := by
  refine FnOK.ofK Tryd.func9 (by kernel_rfl) dg_impl_NameRead rs_impl_NameRead rfl rfl ?_
  delta c_impl_NameRead T.o X.i
  refine kSeq (kReg (kAlloc rfl rfl (kMovC rfl (kDone (kSeq (kSeq (kReg (kMovC rfl (kB2s rfl rfl (kBin rfl rfl rfl (kDone (kCond rfl (fun g0 => kSeq (kReg (kMem [(12288, ⟨1, 0, .box [.nil 1]⟩)] [(2, .c (.ptr 12288 1 0)), (8, .c (.un))] [] ⟨rfl, trivial⟩ ⟨rfl, rfl, trivial⟩ rfl (kBuildG rfl (kStoreP rfl rfl rfl rfl (kMovC rfl (kDone (kMem [(12288, ⟨1, 0, .box [.nil 1]⟩)] [(2, .c (.ptr 12288 1 0)), (3, .c (.d _))] [] ⟨rfl, trivial⟩ ⟨rfl, rfl, trivial⟩ rfl (kRet (endRetA (ra := [.agg [(.own true _)], .one (.d _)]) rfl ?_)))))))))) (fun g0 => kSkip (kSeq (kSeq (kReg (kMovC rfl (kLenR rfl rfl (kBin rfl rfl rfl (kDone (kCondP rfl (fun g1 => kSeq (kReg (kMem [(12288, ⟨1, 0, .box [.nil 1]⟩)] [(2, .c (.ptr 12288 1 0)), (12, .c (.un))] [] ⟨rfl, trivial⟩ ⟨rfl, rfl, trivial⟩ rfl (kBuildG rfl (kStoreP rfl rfl rfl rfl (kMovC rfl (kDone (kMem [(12288, ⟨1, 0, .box [.nil 1]⟩)] [(2, .c (.ptr 12288 1 0)), (3, .c (.d _))] [] ⟨rfl, trivial⟩ ⟨rfl, rfl, trivial⟩ rfl (kRet (endRetA (ra := [.agg [(.own true _)], .one (.d _)]) rfl ?_)))))))))) (fun g1 => kSkip (kSeq (kReg (kMovC rfl (kCall1 true (ok_impl_Lower _ (by first | assumption | omega | solve_by_elim [List.getElem_mem] | (simp only [szOut] at *; omega) | exact rfl | exact leb | exact rrOk_small (by assumption) | exact zoneOk_small (by assumption) | exact SmallBB.ok (by assumption) | exact (SmallBB.ok (by assumption)).len | exact (SmallBB.ok (by assumption)).mem | exact SmallBB.bent (by assumption))) ⟨rfl, trivial⟩ rfl rfl rfl (fun _ => (kMem [(61440, ⟨1, 0, .arr true _⟩)] [(15, .c (.un)), (14, .c (.arr 61440 1)), (16, .c (.un)), (18, .c (.un)), (17, .c (.un)), (19, .c (.un)), (20, .c (.un)), (4, .c (.un)), (21, .c (.un))] [] ⟨rfl, trivial⟩ ⟨rfl, rfl, rfl, rfl, rfl, rfl, rfl, rfl, rfl, trivial⟩ rfl (kLitG rfl rfl rfl rfl (kS2sB (y := 46) (ys := []) rfl rfl rfl ?_))))))))))))))))))))))))))))))
  · rw [eq46] at g0
    have e : b = [46] := of_decide_eq_true g0
    subst e
    rfl
  all_goals
    rw [eq46] at g0
    have hne : b ≠ [46] := of_decide_eq_false g0
    have hrn : readN b = if nameOk (readL b) then readL b else [] := by unfold readN; rw [if_neg hne]
    have hro : readOk b = nameOk (readL b) := by unfold readOk; rw [decide_eq_false hne]; rfl
    rw [hrn, hro]
  · rw [readL_long (by omega)]
    rfl
  have hl : (lowerB b).length ≤ 96 := by simp [lowerB]; omega
  have ht := (trimB_len (lowerB b) [46]).2
  refine kCallF [rid 14 0] false (ok_bytes_TrimSuffix (lowerB b) [46] (by omega) (by simp)) rfl ⟨rfl, rfl, trivial⟩ rfl rfl rfl (fun _ => ?_)
  refine kLitG rfl rfl rfl rfl (kS2sB (y := 46) (ys := []) rfl rfl rfl (kCallD2 (ok_bytes_Split _ _ (by first | assumption | omega | solve_by_elim [List.getElem_mem] | (simp only [szOut] at *; omega) | exact rfl | exact leb | exact rrOk_small (by assumption) | exact zoneOk_small (by assumption) | exact SmallBB.ok (by assumption) | exact (SmallBB.ok (by assumption)).len | exact (SmallBB.ok (by assumption)).mem | exact SmallBB.bent (by assumption))) ⟨rfl, rfl, trivial⟩ rfl rfl rfl rfl (kBuildG rfl (kAlloc rfl rfl (kMem [(20480, ⟨1, 0, .box [.nil 1]⟩)] [(4, .c (.ptr 20480 1 0)), (21, .g [.d _])] [] ⟨rfl, trivial⟩ ⟨rfl, rfl, trivial⟩ rfl (kStoreP rfl rfl rfl rfl (kDone (kSeq (kSeq (kReg (kLoadP rfl rfl rfl ?_)))))))))))
  rw [readL_split]
  obtain ⟨rl1, rl2⟩ := readL_small (b := b) (by omega)
  cases hno : nameOk (readL b)
  · refine kCallD (ok_impl_NameOk _ (by first | assumption | omega | solve_by_elim [List.getElem_mem] | (simp only [szOut] at *; omega) | exact rfl | exact leb | exact rrOk_small (by assumption) | exact zoneOk_small (by assumption) | exact SmallBB.ok (by assumption) | exact (SmallBB.ok (by assumption)).len | exact (SmallBB.ok (by assumption)).mem | exact SmallBB.bent (by assumption)) (by first | assumption | omega | solve_by_elim [List.getElem_mem] | (simp only [szOut] at *; omega) | exact rfl | exact leb | exact rrOk_small (by assumption) | exact zoneOk_small (by assumption) | exact SmallBB.ok (by assumption) | exact (SmallBB.ok (by assumption)).len | exact (SmallBB.ok (by assumption)).mem | exact SmallBB.bent (by assumption))) ⟨⟨⟨rfl, trivial⟩, leb⟩, trivial⟩ rfl rfl rfl rfl rfl (kUn rfl rfl (kDone (kCondN rfl (fun g0 => kSeq (kReg (kMem [(12288, ⟨1, 0, .box [.nil 1]⟩)] [(2, .c (.ptr 12288 1 0)), (25, .c (.un))] [] ⟨rfl, trivial⟩ ⟨rfl, rfl, trivial⟩ rfl (kBuildG rfl (kStoreP rfl rfl rfl rfl (kMovC rfl (kDone (kMem [(12288, ⟨1, 0, .box [.nil 1]⟩)] [(2, .c (.ptr 12288 1 0)), (3, .c (.d _))] [] ⟨rfl, trivial⟩ ⟨rfl, rfl, trivial⟩ rfl (kRet (endRetA (ra := [.agg [(.own true _)], .one (.d _)]) rfl rfl)))))))))) (fun g0 => (by (simp [*] at g0))))))
  · refine kCallD (ok_impl_NameOk _ (by first | assumption | omega | solve_by_elim [List.getElem_mem] | (simp only [szOut] at *; omega) | exact rfl | exact leb | exact rrOk_small (by assumption) | exact zoneOk_small (by assumption) | exact SmallBB.ok (by assumption) | exact (SmallBB.ok (by assumption)).len | exact (SmallBB.ok (by assumption)).mem | exact SmallBB.bent (by assumption)) (by first | assumption | omega | solve_by_elim [List.getElem_mem] | (simp only [szOut] at *; omega) | exact rfl | exact leb | exact rrOk_small (by assumption) | exact zoneOk_small (by assumption) | exact SmallBB.ok (by assumption) | exact (SmallBB.ok (by assumption)).len | exact (SmallBB.ok (by assumption)).mem | exact SmallBB.bent (by assumption))) ⟨⟨⟨rfl, trivial⟩, leb⟩, trivial⟩ rfl rfl rfl rfl rfl (kUn rfl rfl (kDone (kCondN rfl (fun g0 => (by (simp [*] at g0))) (fun g0 => kSkip (kSeq (kReg (kLoadP rfl rfl rfl (kCall1 true (ok_impl_Name_copied _ (by first | assumption | omega | solve_by_elim [List.getElem_mem] | (simp only [szOut] at *; omega) | exact rfl | exact leb | exact rrOk_small (by assumption) | exact zoneOk_small (by assumption) | exact SmallBB.ok (by assumption) | exact (SmallBB.ok (by assumption)).len | exact (SmallBB.ok (by assumption)).mem | exact SmallBB.bent (by assumption)) (by first | assumption | omega | solve_by_elim [List.getElem_mem] | (simp only [szOut] at *; omega) | exact rfl | exact leb | exact rrOk_small (by assumption) | exact zoneOk_small (by assumption) | exact SmallBB.ok (by assumption) | exact (SmallBB.ok (by assumption)).len | exact (SmallBB.ok (by assumption)).mem | exact SmallBB.bent (by assumption))) ⟨⟨⟨rfl, trivial⟩, leb⟩, trivial⟩ rfl rfl rfl (fun _ => (kStoreP rfl rfl rfl rfl (kMovC rfl (kDone (kMem [(12288, ⟨1, 0, .box [.arr 114688 1]⟩), (114688, ⟨1, 0, .arr true _⟩)] [(2, .c (.ptr 12288 1 0)), (3, .c (.d _))] [] ⟨rfl, rfl, trivial⟩ ⟨rfl, rfl, trivial⟩ rfl (kRet (endRetA (ra := [.agg [(.own true _)], .one (.d _)]) rfl rfl)))))))))))))))

def c_laws_same : C := (.seq (.reg false (.o 0 4 (.mov (.v (.bool false))) .done)) (.seq (.reg false (.o 0 5 (.mov (.t 0)) (.o 1 6 (.b2s (.t 5)) (.o 2 7 (.mov (.t 1)) (.o 3 8 (.b2s (.t 7)) (.o 4 9 (.bin .eql (.t 6) (.t 8)) (.o 5 4 (.mov (.t 9)) .done))))))) .ret))
theorem dg_laws_same : Tryd.f43.body.bind (digC Tryd.prog Tryd.f43.ntmps []) = some c_laws_same := by kernel_rfl
theorem rs_laws_same : resSlots Tryd.prog Tryd.f43 = some [.s 4] := by kernel_rfl
theorem ok_laws_same (a b : List UInt8) :
    FnOK Tryd.prog 43 [.one (.d (encB a)), .one (.d (encB b))] (fun ra _ => ra = [.one (.d (.sc (.bool (decide (a = b)))))]) := by
  refine FnOK.ofK Tryd.func43 (by kernel_rfl) dg_laws_same rs_laws_same rfl rfl ?_
  delta c_laws_same T.o X.i
  refine kSeq (kReg (kMovC rfl (kDone (kSeq (kReg (kMovC rfl (kB2s rfl rfl (kMovC rfl (kB2s rfl rfl (kBin rfl rfl rfl (kMovC rfl (kDone (kRet (endRetA (ra := [.one (.d _)]) rfl ?_))))))))))))))
  refine congrArg (fun z : Bool => [RA.one (RV.d (DV.sc (Value.bool z)))]) ?_
  rw [ByteArray.toList_eq, ByteArray.toList_eq, Bool.eq_iff_iff]
  simp

def c_laws_names : C := (.seq (.reg false (.o 0 0 (.mov (.v (.bool false))) .done)) (.seq (.reg false (.o 0 4 (.lit 4 1 [(.v (.int .u8 0))] 3 [(0, 1, (.v (.int .u8 65))), (1, 1, (.v (.int .u8 46))), (2, 1, (.v (.int .u8 98)))]) (.o 1 5 (.s2s (.t 4)) (.o 2 6 (.call 6 9 [(.t 5)]) (.o 3 3 (.mov (.t 6)) (.o 4 7 (.ext (.t 3) 0) (.o 5 8 (.ext (.t 3) 1) (.o 6 1 (.alloc 1 [(.n 1)]) (.op 7 [] none none false (.store (some 1) (.t 1) (.t 7)) (.o 8 2 (.mov (.t 8)) .done)))))))))) (.seq (.reg false (.o 0 9 (.mov (.t 2)) (.o 1 10 (.mov (.t 9)) (.op 2 [] (some 11) (some (10, true)) false (.fad (.t 1) 0) (.op 3 [] (some 12) (some (10, true)) false (.load none (.t 11)) (.op 4 [] (some 13) (some (10, true)) false (.len (.t 12)) (.op 5 [] (some 14) (some (10, true)) false (.bin .eql (.t 13) (.i 2)) (.o 6 15 (.pick (.t 10) (.t 14) (.v (.bool false))) (.o 7 16 (.mov (.t 15)) (.op 8 [] (some 17) (some (16, true)) false (.load (some 1) (.t 1)) (.op 9 [] (some 18) (some (16, true)) false (.call 18 16 [(.t 17)]) (.op 10 [] (some 19) (some (16, true)) false (.lit 19 1 [(.v (.int .u8 0))] 4 [(0, 1, (.v (.int .u8 97))), (1, 1, (.v (.int .u8 46))), (2, 1, (.v (.int .u8 98))), (3, 1, (.v (.int .u8 46)))]) (.op 11 [] (some 20) (some (16, true)) false (.s2s (.t 19)) (.op 12 [] (some 21) (some (16, true)) false (.call 21 43 [(.t 18), (.t 20)]) (.o 13 22 (.pick (.t 16) (.t 21) (.v (.bool false))) (.o 14 0 (.mov (.t 22)) .done)))))))))))))))) .ret)))
theorem dg_laws_names : Tryd.f19.body.bind (digC Tryd.prog Tryd.f19.ntmps []) = some c_laws_names := by kernel_rfl
theorem rs_laws_names : resSlots Tryd.prog Tryd.f19 = some [.s 0] := by kernel_rfl
theorem ok_laws_names :
    FnOK Tryd.prog 19 [] (fun ra _ => ra = [.one (.d (.sc (.bool true)))]) := by
  refine FnOK.ofK Tryd.func19 (by kernel_rfl) dg_laws_names rs_laws_names rfl rfl ?_
  delta c_laws_names T.o X.i
  have e1 : readN [65, 46, 98] = [[97], [98]] := by decide
  have e2 : readOk [65, 46, 98] = true := by decide
  have hs : SmallBB (readN [65, 46, 98]) := .ok (readN_ok _)
  refine kSeq (kReg (kMovC rfl (kDone (kSeq (kReg (kLitG rfl rfl rfl rfl (kS2sB (y := 65) (ys := [46, 98]) rfl rfl rfl (kCall1 true (ok_impl_NameRead _ (by first | assumption | omega | solve_by_elim [List.getElem_mem] | (simp only [szOut] at *; omega) | exact rfl | exact leb | exact rrOk_small (by assumption) | exact zoneOk_small (by assumption) | exact SmallBB.ok (by assumption) | exact (SmallBB.ok (by assumption)).len | exact (SmallBB.ok (by assumption)).mem | exact SmallBB.bent (by assumption))) ⟨rfl, trivial⟩ rfl rfl rfl (fun _ => (kMovT rfl (kExtC rfl rfl (kExtC rfl rfl (kAlloc rfl rfl (kMem [(8192, ⟨1, 0, .box [.nil 1]⟩), (28672, ⟨1, 0, .arr true _⟩)] [(1, .c (.ptr 8192 1 0)), (7, .g [.arr 28672 1]), (8, .c (.d _))] [] ⟨rfl, rfl, trivial⟩ ⟨rfl, rfl, rfl, trivial⟩ rfl (kStoreP rfl rfl rfl rfl (kMovC rfl (kDone (kSeq (kReg (kMovC rfl (kMovC rfl (kGT rfl (kFadP rfl rfl (kGT rfl (kLoadP rfl rfl rfl (kGT rfl (kLenR rfl rfl (kGT rfl (kBin rfl rfl rfl (kPickT rfl (kMovC rfl (kMovC rfl (kMem [(8192, ⟨1, 0, .box [.arr 28672 1]⟩), (28672, ⟨1, 0, .arr true _⟩)] [(1, .c (.ptr 8192 1 0)), (17, .c (.un)), (19, .c (.un)), (18, .c (.un)), (20, .c (.un)), (16, .c (.d _)), (21, .c (.un)), (22, .c (.un))] [] ⟨rfl, rfl, trivial⟩ ⟨rfl, rfl, rfl, rfl, rfl, rfl, rfl, rfl, trivial⟩ rfl (kGT rfl (kLoadP rfl rfl rfl (kGT rfl ?_))))))))))))))))))))))))))))))))))))
  rw [e1] at hs ⊢
  refine kCallF [rid 6 0] false (ok_impl_NameText [[97], [98]] hs) rfl ⟨⟨⟨rfl, trivial⟩, leb⟩, trivial⟩ rfl rfl rfl (fun _ => ?_)
  rw [show (if nameOk [[97], [98]] then textN [[97], [98]] else []) = [97, 46, 98, 46] by decide]
  refine kGT rfl (kLitG rfl rfl rfl rfl (kGT rfl (kS2sB (y := 97) (ys := [46, 98, 46]) rfl rfl rfl (kGT rfl (kCallD (ok_laws_same _ _) ⟨rfl, rfl, trivial⟩ rfl rfl rfl rfl rfl (kPickT rfl (kMovC rfl (kMovC rfl (kDone (kRet (endRetA (ra := [.one (.d _)]) rfl rfl)))))))))))

def c_spec_l2text : C := (.seq (.reg false (.o 0 1 (.box 1 (.t 0)) (.o 1 2 (.mov (.n 1)) .done))) (.seq (.seq (.reg false (.o 0 5 (.fad (.t 1) 0) (.o 1 6 (.load none (.t 5)) (.o 2 7 (.len (.t 6)) (.o 3 8 (.bin .eql (.t 7) (.i 0)) .done))))) (.cond (.t 8) (.seq (.reg false (.o 0 9 (.lit 9 1 [(.v (.int .u8 0))] 1 [(0, 1, (.v (.int .u8 46)))]) (.o 1 10 (.s2s (.t 9)) (.o 2 2 (.mov (.t 10)) .done)))) .ret) .skip)) (.seq (.reg false (.o 0 3 (.mov (.n 1)) .done)) (.seq (.seq (.reg false (.o 0 4 (.mov (.i 0)) .done)) (.block 0 (.loop (.seq (.seq (.reg false (.o 0 11 (.mov (.t 4)) (.o 1 12 (.fad (.t 1) 0) (.o 2 13 (.load none (.t 12)) (.o 3 14 (.len (.t 13)) (.o 4 15 (.bin .lss (.t 11) (.t 14)) .done)))))) (.cond (.t 15) .skip (.exit 0))) (.seq (.block 1 (.reg false (.o 0 18 (.mov (.t 3)) (.o 1 19 (.fad (.t 1) 0) (.o 2 20 (.load none (.t 19)) (.o 3 21 (.mov (.t 4)) (.o 4 22 (.iad 1 (.t 20) (.t 21)) (.o 5 23 (.load none (.t 22)) (.o 6 24 (.app 24 1 1 (.t 18) (.t 23)) (.o 7 25 (.lit 25 1 [(.v (.int .u8 0))] 1 [(0, 1, (.v (.int .u8 46)))]) (.o 8 26 (.app 26 1 1 (.t 24) (.t 25)) (.o 9 3 (.mov (.t 26)) .done)))))))))))) (.reg false (.o 0 16 (.mov (.t 4)) (.o 1 17 (.bin .add (.t 16) (.i 1)) (.o 2 4 (.mov (.t 17)) .done))))))))) (.seq (.reg false (.o 0 27 (.mov (.t 3)) (.o 1 2 (.mov (.t 27)) .done))) .ret)))))
theorem dg_spec_l2text : Tryd.f44.body.bind (digC Tryd.prog Tryd.f44.ntmps []) = some c_spec_l2text := by kernel_rfl
theorem rs_spec_l2text : resSlots Tryd.prog Tryd.f44 = some [.s 2] := by kernel_rfl
theorem ok_spec_l2text (a : List (List UInt8)) (ha : SmallBB a) :
    FnOK Tryd.prog 44 [.agg [.d (encBB a)]] (fun ra _ => ra = [.one (.d (encB (textN a)))]) := by
  refine FnOK.ofK Tryd.func44 (by kernel_rfl) dg_spec_l2text rs_spec_l2text rfl rfl ?_
  delta c_spec_l2text T.o X.i
  have a1 := ha.len
  have a2 := ha.flat
  refine kSeq (kReg (kBox rfl rfl rfl rfl rfl (kMovC rfl (kDone (kSeq (kSeq (kReg (kFadP rfl rfl (kLoadP rfl rfl rfl (kLenR rfl rfl (kBin rfl rfl rfl (kDone (kCondP rfl (fun g0 => kSeq (kReg (kLitG rfl rfl rfl rfl (kS2sB (y := 46) (ys := []) rfl rfl rfl (kMovC rfl (kDone (kRet (endRetA (ra := [.one (.d _)]) rfl ?_)))))))) (fun g0 => kSkip (kSeq (kReg (kMovC rfl (kDone (kSeq (kSeq (kReg (kMovC rfl (kDone (kBlock ?_))))))))))))))))))))))))
  · have : a = [] := List.eq_nil_of_length_eq_zero (by omega)
    subst this; rfl
  have hne : a ≠ [] := fun h => g0 (by rw [h]; rfl)
  rw [show textN a = textL a by unfold textN; rw [if_neg hne]]
  refine kSub (Sub.nilArr (j := 3) (id := rid 5000 0) (sz := 1) rfl (by decide)) ?_
  refine kLoop (α := { i : Nat // i ≤ a.length }) (fun y => ⟨tabSl [(1, .c (.ptr (rid 1 0) 1 0)), (3, .c (.arr (rid 5000 0) 1)), (4, .i y.1)], obTab 1 [(rid 1 0, ⟨1, 0, .box [.d (encBB a)]⟩), (rid 5000 0, ⟨1, 0, .arr true (encB (textL (a.take y.1)))⟩)], []⟩) (fun y => a.length - y.1) ⟨0, by simp⟩ .normA ?_
  rintro ⟨i, hi⟩
  simp only
  have hle := textL_le a i
  rcases Nat.lt_or_ge i a.length with hlt | hge
  · have hst := textL_take a i hlt
    have hle2 := textL_le a (i + 1)
    have hle3 : (textL (a.take (i + 1))).length = (textL (a.take i)).length + a[i].length + 1 := by rw [hst]; simp only [List.length_append, List.length_cons, List.length_nil]
    refine kSeq (kSeq (kReg (kMovC rfl (kFadP rfl rfl (kLoadP rfl rfl rfl (kLenR rfl rfl (kBin rfl rfl rfl (kDone (kCondP rfl (fun g0 => kSkip (kSeq (kBlock (kReg (kMovC rfl (kFadP rfl rfl (kLoadP rfl rfl rfl (kMovC rfl (kIadR rfl rfl rfl (by omega) (kLoadD rfl rfl (kAppR rfl rfl rfl (src_encB _ _) rfl rfl rfl rfl (by first | omega | (simp only [List.length_append, List.length_cons, List.length_nil]; omega)) (kLitG rfl rfl rfl rfl (kAppR1 (z := (46 : UInt8)) rfl rfl rfl rfl rfl rfl rfl rfl (by first | omega | (simp only [List.length_append, List.length_cons, List.length_nil]; omega)) (kMovC rfl (kDone (kBk (kReg (kMovC rfl (kAdd rfl rfl (by omega) (kMovC rfl (kDone ?_))))))))))))))))))))) (fun g0 => (by omega)))))))))))
    refine kInv ⟨⟨i + 1, by omega⟩, by simp only; omega, ?_⟩
    simp only [hst]
    exact .normA
  · refine kSeq (kSeq (kReg (kMovC rfl (kFadP rfl rfl (kLoadP rfl rfl rfl (kLenR rfl rfl (kBin rfl rfl rfl (kDone (kCondP rfl (fun g0 => (by omega)) (fun g0 => kExit (kExC (kExI (kExB (kSeq (kReg (kMovC rfl (kMovC rfl (kDone (kRet (endRetA (ra := [.one (.d _)]) rfl ?_))))))))))))))))))))
    rw [show i = a.length by omega, List.take_length]

def c_spec_DrawNameRead : C := (.seq (.reg false (.o 0 2 (.mov (.n 1)) .done)) (.seq (.reg false (.o 0 7 (.mov (.t 0)) (.o 1 8 (.call 8 39 [(.t 7)]) (.o 2 3 (.mov (.t 8)) .done)))) (.seq (.reg false (.o 0 9 (.mov (.t 3)) (.o 1 10 (.call 10 45 [(.t 9)]) (.o 2 11 (.call 11 44 [(.t 10)]) (.o 3 4 (.mov (.t 11)) .done))))) (.seq (.seq (.reg false (.o 0 12 (.mov (.t 3)) (.o 1 13 (.call 13 46 [(.t 12), (.i 2)]) .done))) (.cond (.t 13) (.seq (.reg false (.o 0 14 (.mov (.t 3)) (.o 1 15 (.mov (.t 4)) (.o 2 16 (.len (.t 15)) (.o 3 17 (.bin .add (.t 16) (.i 1)) (.o 4 18 (.call 18 47 [(.t 14), (.t 17)]) (.o 5 5 (.mov (.t 18)) .done))))))) (.seq (.reg false (.o 0 19 (.lit 19 1 [(.v (.string ⟨#[]⟩))] 6 [(0, 1, (.v (.string ⟨#[46]⟩))), (1, 1, (.v (.string ⟨#[65]⟩))), (2, 1, (.v (.string ⟨#[120]⟩))), (3, 1, (.v (.string ⟨#[95]⟩))), (4, 1, (.v (.string ⟨#[45]⟩))), (5, 1, (.v (.string ⟨#[97, 98, 99, 100, 101, 102, 103, 104, 105, 106, 107, 108]⟩)))]) (.o 1 20 (.mov (.t 3)) (.o 2 21 (.call 21 47 [(.t 20), (.i 6)]) (.o 3 22 (.iad 1 (.t 19) (.t 21)) (.o 4 23 (.load none (.t 22)) (.o 5 6 (.mov (.t 23)) .done))))))) (.reg true (.op 1 [] (some 25) none true (.mov (.t 4)) (.op 2 [] (some 26) none true (.mov (.t 5)) (.op 3 [] (some 27) none true (.cut 1 (.t 25) none (some (.t 26))) (.op 5 [] (some 29) none true (.mov (.t 6)) (.op 7 [] (some 31) none true (.mov (.t 4)) (.op 8 [] (some 32) none true (.mov (.t 5)) (.op 9 [] (some 33) none true (.cut 1 (.t 31) (some (.t 32)) none) (.o 0 24 (.lit 24 1 [(.v (.int .u8 0))] 0 []) (.o 4 28 (.app 28 1 1 (.t 24) (.t 27)) (.o 6 30 (.apps 30 1 1 (.t 28) (.t 29)) (.o 10 34 (.app 34 1 1 (.t 30) (.t 33)) (.op 11 [] (some 4) none true (.mov (.t 34)) .done))))))))))))))) .skip)) (.seq (.seq (.reg false (.o 0 35 (.mov (.t 3)) (.o 1 36 (.call 36 46 [(.t 35), (.i 4)]) (.o 2 37 (.mov (.t 36)) (.op 3 [] (some 38) (some (37, true)) false (.mov (.t 4)) (.op 4 [] (some 39) (some (37, true)) false (.len (.t 38)) (.op 5 [] (some 40) (some (37, true)) false (.bin .gtr (.t 39) (.i 0)) (.o 6 41 (.pick (.t 37) (.t 40) (.v (.bool false))) .done)))))))) (.cond (.t 41) (.reg false (.o 0 42 (.mov (.t 4)) (.o 1 43 (.mov (.t 4)) (.o 2 44 (.len (.t 43)) (.o 3 45 (.bin .sub (.t 44) (.i 1)) (.o 4 46 (.cut 1 (.t 42) none (some (.t 45))) (.o 5 4 (.mov (.t 46)) .done))))))) .skip)) (.seq (.reg false (.o 0 47 (.mov (.t 4)) (.o 1 2 (.mov (.t 47)) .done))) .ret))))))
theorem dg_spec_DrawNameRead : Tryd.f20.body.bind (digC Tryd.prog Tryd.f20.ntmps []) = some c_spec_DrawNameRead := by kernel_rfl
theorem rs_spec_DrawNameRead : resSlots Tryd.prog Tryd.f20 = some [.s 2] := by kernel_rfl
theorem ok_spec_DrawNameRead (code : List UInt8) (hb : (code.length : Int) ≤ 9223372036854775807) :
    FnOK Tryd.prog 20 [.one (.d (encB code))] (fun ra _ => ∃ x : List UInt8, (x.length ≤ 4096) ∧ ra = [.one (.d (encB x))]) := by
  refine FnOK.ofK Tryd.func20 (by kernel_rfl) dg_spec_DrawNameRead rs_spec_DrawNameRead rfl rfl ?_
  delta c_spec_DrawNameRead T.o X.i
  refine kSeq (kReg (kMovC rfl (kDone (kSeq (kReg (kMovC rfl (kCallX false (ok_spec_l1New _ (by first | assumption | omega | solve_by_elim [List.getElem_mem] | (simp only [szOut] at *; omega) | exact rfl | exact leb | exact rrOk_small (by assumption) | exact zoneOk_small (by assumption) | exact SmallBB.ok (by assumption) | exact (SmallBB.ok (by assumption)).len | exact (SmallBB.ok (by assumption)).mem | exact SmallBB.bent (by assumption))) ⟨rfl, trivial⟩ rfl (fun _ => rfl) (fun _ => rfl) (fun x0 _ hx0 => (kMovC rfl (kDone (kSeq (kReg (kMovC rfl (kCallE (ok_spec_l2draw _) ⟨⟨rfl, _, rfl, rfl⟩, trivial⟩ rfl rfl rfl (fun _ => rfl) (fun x1 hx1 => ?_)))))))))))))))
  have hn : SmallBB x1.1 := .ok hx1
  have hl : (textN x1.1).length ≤ 200 := by
    have h1 := textL_len x1.1
    have h2 := nameOk_flat hx1
    have h3 := nameOk_len hx1
    unfold textN
    split
    · simp
    · omega
  refine kCallF [rid 10 0] false (ok_spec_l2text x1.1 hn) rfl ⟨⟨⟨rfl, trivial⟩, leb⟩, trivial⟩ rfl rfl rfl (fun _ => ?_)
  generalize textN x1.1 = b at hl ⊢
  refine kMovC rfl (kDone (kSeq (kSeq (kReg (kMem [(36864, ⟨1, 1, .box [.d _, .d _, .d _]⟩)] [(3, .c (.ptr 36864 1 0)), (12, .c (.un))] [] ⟨rfl, trivial⟩ ⟨rfl, rfl, trivial⟩ rfl (kMovC rfl (kCallE (ok_spec_l1Once _ _) ⟨⟨rfl, _, rfl, rfl⟩, rfl, trivial⟩ rfl rfl rfl (fun _ => rfl) (fun x2 hx2 => (kDone (kCond rfl (fun g3 => kSeq (kReg (kMovC rfl (kMovC rfl (kLenR rfl rfl (kAdd rfl rfl (by omega) (kCallE (ok_spec_l1Below _ _) ⟨⟨rfl, _, rfl, rfl⟩, rfl, trivial⟩ rfl rfl rfl (fun _ => rfl) (fun x4 hx4 => (kMovC rfl (kDone (kSeq (kReg (kLitG rfl rfl rfl rfl (kMem [(36864, ⟨1, 3, .box [.d _, .d _, .d _]⟩), (81920, ⟨1, 0, .arr true _⟩)] [(3, .c (.ptr 36864 1 0)), (20, .c (.un)), (19, .c (.arr 81920 1)), (21, .c (.un)), (22, .c (.un)), (23, .c (.un))] [] ⟨rfl, rfl, trivial⟩ ⟨rfl, rfl, rfl, rfl, rfl, rfl, trivial⟩ rfl (kMovC rfl (kCallE (ok_spec_l1Below _ _) ⟨⟨rfl, _, rfl, rfl⟩, rfl, trivial⟩ rfl rfl rfl (fun _ => rfl) (fun x5 hx5 => (kIadStr rfl rfl rfl rfl (by simp only [List.length_cons, List.length_nil]; omega) (kLoadStr rfl rfl rfl (by simp only [List.length_cons, List.length_nil]; omega) rfl (fun b6 hb6 => (kMovC rfl (kDone (kRegD (kMovC rfl (kMovC rfl (kCutHT rfl rfl (by omega) (kMovC rfl (kMovC rfl (kMovC rfl (kCutLT rfl rfl (by omega) (kLitG rfl rfl rfl rfl (kMem [(102400, ⟨1, 0, .arr true _⟩)] [(24, .c (.arr 102400 1)), (27, .c (.d _)), (28, .c (.un)), (29, .c (.d _)), (30, .c (.un)), (33, .c (.d _)), (34, .c (.un))] [] ⟨rfl, trivial⟩ ⟨rfl, rfl, rfl, rfl, rfl, rfl, rfl, trivial⟩ rfl ?_)))))))))))))))))))))))))))))))) (fun g3 => kSkip (kSeq (kSeq (kReg (kMovC rfl (kCallE (ok_spec_l1Once _ _) ⟨⟨rfl, _, rfl, rfl⟩, rfl, trivial⟩ rfl rfl rfl (fun _ => rfl) (fun x7 hx7 => (kMovC rfl (kGS rfl (fun g8 => kGT rfl (kMovC rfl (kGT rfl (kLenR rfl rfl (kGT rfl (kBin rfl rfl rfl (kPickT rfl (kMovC rfl (kDone (kCondP rfl (fun g9 => kReg (kMovC rfl (kMovC rfl (kLenR rfl rfl (kDif rfl rfl (by omega) (kCutHT rfl rfl (by omega) (kMovC rfl (kDone (kSeq (kReg (kMovC rfl (kMovC rfl (kDone (kRet (endRetA (ra := [.one (.d _)]) rfl ?_))))))))))))))) (fun g9 => kSkip (kSeq (kReg (kMovC rfl (kMovC rfl (kDone (kRet (endRetA (ra := [.one (.d _)]) rfl ?_)))))))))))))))))) (fun g8 => kGF rfl (kGF rfl (kGF rfl (kPickF rfl (kMovC rfl (kDone (kCondF rfl (kSkip (kSeq (kReg (kMovC rfl (kMovC rfl (kDone (kRet (endRetA (ra := [.one (.d _)]) rfl ?_))))))))))))))))))))))))))))))))))
  · have l1 : (b.take x4.1.toNat).length ≤ 200 := by simp; omega
    have l2 : (b.drop x4.1.toNat).length ≤ 200 := by simp; omega
    have l3 : b6.toList.length ≤ 64 := by rw [bt_len]; assumption
    have l4 : (b.take x4.1.toNat ++ b6.toList ++ b.drop x4.1.toNat).length ≤ 464 := by simp only [List.length_append]; omega
    refine kAppN rfl rfl rfl rfl rfl rfl rfl rfl (by omega) ?_
    refine kApps rfl rfl rfl rfl rfl rfl (by omega) ?_
    refine kAppR rfl rfl rfl (src_encB _ _) rfl rfl rfl rfl (by first | omega | (simp only [List.length_append, List.length_cons, List.length_nil]; omega)) (kMovC rfl (kDone (kH (kSeq (kSeq (kReg (kMovC rfl (kCallE (ok_spec_l1Once _ _) ⟨⟨rfl, _, rfl, rfl⟩, rfl, trivial⟩ rfl rfl rfl (fun _ => rfl) (fun x6 hx6 => (kMovC rfl (kGS rfl (fun g7 => kGT rfl (kMovC rfl (kGT rfl (kLenR rfl rfl (kGT rfl (kBin rfl rfl rfl (kPickT rfl (kMovC rfl (kDone (kCondP rfl (fun g8 => kReg (kMovC rfl (kMovC rfl (kLenR rfl rfl (kMem [(102400, ⟨4, 0, .arr _ _⟩)] [(44, .c (.d _)), (42, .c (.arr 102400 4)), (45, .c (.un)), (46, .c (.un))] [] ⟨rfl, trivial⟩ ⟨rfl, rfl, rfl, rfl, trivial⟩ rfl (kDif rfl rfl (by omega) ?_)))))) (fun g8 => kSkip (kSeq (kReg (kMovC rfl (kMovC rfl (kDone (kMem [(102400, ⟨4, 0, .arr _ _⟩)] [(2, .c (.arr 102400 4))] [] ⟨rfl, trivial⟩ ⟨rfl, trivial⟩ rfl (kRet (endRetA (ra := [.one (.d _)]) rfl ?_))))))))))))))))))) (fun g7 => kGF rfl (kGF rfl (kGF rfl (kPickF rfl (kMovC rfl (kDone (kCondF rfl (kSkip (kSeq (kReg (kMovC rfl (kMovC rfl (kDone (kMem [(102400, ⟨4, 0, .arr _ _⟩)] [(2, .c (.arr 102400 4))] [] ⟨rfl, trivial⟩ ⟨rfl, trivial⟩ rfl (kRet (endRetA (ra := [.one (.d _)]) rfl ?_)))))))))))))))))))))))))))
    · refine kCutAH rfl rfl rfl rfl rfl (by omega) ?_
      refine kMovC rfl (kDone (kSeq (kReg (kMovC rfl (kMovC rfl (kDone (kRet (endRetA (ra := [.one (.d _)]) rfl ?_))))))))
      exact ⟨_, Nat.le_trans (List.length_take_le' _ _) (by simp only [List.length_append]; omega), rfl⟩
    all_goals exact ⟨_, by simp only [List.length_append]; omega, rfl⟩
  · exact ⟨_, Nat.le_trans (List.length_take_le' _ _) (by omega), rfl⟩
  all_goals exact ⟨b, by omega, rfl⟩

def c_spec_NameText : C := (.seq (.reg false (.o 0 1 (.box 1 (.t 0)) (.o 1 2 (.mov (.n 1)) .done))) (.seq (.seq (.reg false (.o 0 3 (.load (some 1) (.t 1)) (.o 1 4 (.call 4 17 [(.t 3)]) (.o 2 5 (.un .not (.t 4)) .done)))) (.cond (.t 5) (.seq (.reg false (.o 0 2 (.mov (.n 1)) .done)) .ret) .skip)) (.seq (.reg false (.o 0 6 (.load (some 1) (.t 1)) (.o 1 7 (.call 7 44 [(.t 6)]) (.o 2 2 (.mov (.t 7)) .done)))) .ret)))
theorem dg_spec_NameText : Tryd.f48.body.bind (digC Tryd.prog Tryd.f48.ntmps []) = some c_spec_NameText := by kernel_rfl
theorem rs_spec_NameText : resSlots Tryd.prog Tryd.f48 = some [.s 2] := by kernel_rfl
theorem ok_spec_NameText (a : List (List UInt8)) (ha : SmallBB a) :
    FnOK Tryd.prog 48 [.agg [.d (encBB a)]] (fun ra _ => ra = [.one (.d (encB (if nameOk a then textN a else [])))]) := by
  refine FnOK.ofK Tryd.func48 (by kernel_rfl) dg_spec_NameText rs_spec_NameText rfl rfl ?_
  delta c_spec_NameText T.o X.i
  have a1 := ha.len
  have a2 := ha.mem
  cases hno : nameOk a
  · refine kSeq (kReg (kBox rfl rfl rfl rfl rfl (kMovC rfl (kDone (kSeq (kSeq (kReg (kLoadP rfl rfl rfl (kCallD (ok_spec_NameOk _ (by first | assumption | omega | solve_by_elim [List.getElem_mem] | (simp only [szOut] at *; omega) | exact rfl | exact leb) (by first | assumption | omega | solve_by_elim [List.getElem_mem] | (simp only [szOut] at *; omega) | exact rfl | exact leb)) ⟨⟨⟨rfl, trivial⟩, leb⟩, trivial⟩ rfl rfl rfl rfl rfl (kUn rfl rfl (kDone (kCondN rfl (fun g0 => kSeq (kReg (kMovC rfl (kDone (kRet (endRetA (ra := [.one (.d _)]) rfl rfl)))))) (fun g0 => (by (simp [*] at g0)))))))))))))))
    all_goals rfl
  · refine kSeq (kReg (kBox rfl rfl rfl rfl rfl (kMovC rfl (kDone (kSeq (kSeq (kReg (kLoadP rfl rfl rfl (kCallD (ok_spec_NameOk _ (by first | assumption | omega | solve_by_elim [List.getElem_mem] | (simp only [szOut] at *; omega) | exact rfl | exact leb) (by first | assumption | omega | solve_by_elim [List.getElem_mem] | (simp only [szOut] at *; omega) | exact rfl | exact leb)) ⟨⟨⟨rfl, trivial⟩, leb⟩, trivial⟩ rfl rfl rfl rfl rfl (kUn rfl rfl (kDone (kCondN rfl (fun g0 => (by (simp [*] at g0))) (fun g0 => kSkip (kSeq (kReg (kLoadP rfl rfl rfl (kCallD2 (ok_spec_l2text _ (by first | assumption | omega | solve_by_elim [List.getElem_mem] | (simp only [szOut] at *; omega) | exact rfl | exact leb)) ⟨⟨⟨rfl, trivial⟩, leb⟩, trivial⟩ rfl rfl rfl rfl (kMovC rfl (kDone (kRet (endRetA (ra := [.one (.d _)]) rfl rfl)))))))))))))))))))))
    all_goals rfl

def c_laws_sameName : C := (.seq (.reg false (.o 0 2 (.box 2 (.t 0)) (.o 1 3 (.box 3 (.t 1)) (.o 2 4 (.mov (.v (.bool false))) .done)))) (.seq (.reg true (.op 0 [] (some 5) none true (.load (some 1) (.t 2)) (.op 2 [] (some 7) none true (.load (some 1) (.t 3)) (.op 1 [0] (some 6) none false (.call 6 48 [(.t 5)]) (.op 3 [2, 0] (some 8) none false (.call 8 48 [(.t 7)]) (.op 4 [0, 2] (some 9) none false (.call 9 43 [(.t 6), (.t 8)]) (.op 5 [] (some 4) none true (.mov (.t 9)) .done))))))) .ret))
theorem dg_laws_sameName : Tryd.f21.body.bind (digC Tryd.prog Tryd.f21.ntmps []) = some c_laws_sameName := by kernel_rfl
theorem rs_laws_sameName : resSlots Tryd.prog Tryd.f21 = some [.s 4] := by kernel_rfl
theorem ok_laws_sameName (a b : List (List UInt8)) (ha : SmallBB a) (hb : SmallBB b) :
    FnOK Tryd.prog 21 [.agg [.d (encBB a)], .agg [.d (encBB b)]] (fun ra _ => ra = [.one (.d (.sc (.bool (decide ((if nameOk a then textN a else []) = (if nameOk b then textN b else []))))))]) := by
  refine FnOK.ofK Tryd.func21 (by kernel_rfl) dg_laws_sameName rs_laws_sameName rfl rfl ?_
  delta c_laws_sameName T.o X.i
  refine kSeq (kReg (kBox rfl rfl rfl rfl rfl (kBox rfl rfl rfl rfl rfl (kMovC rfl (kDone (kSeq (kRegD (kLoadP rfl rfl rfl (kLoadP rfl rfl rfl (kRelK rfl rfl (kCallD2 (ok_spec_NameText _ (by first | assumption | omega | solve_by_elim [List.getElem_mem] | (simp only [szOut] at *; omega) | exact rfl | exact leb)) ⟨⟨⟨rfl, trivial⟩, leb⟩, trivial⟩ rfl rfl rfl rfl (kRelF rfl rfl (kCallD2 (ok_spec_NameText _ (by first | assumption | omega | solve_by_elim [List.getElem_mem] | (simp only [szOut] at *; omega) | exact rfl | exact leb)) ⟨⟨⟨rfl, trivial⟩, leb⟩, trivial⟩ rfl rfl rfl rfl (kRelF rfl rfl (kCallD (ok_laws_same _ _) ⟨rfl, rfl, trivial⟩ rfl rfl rfl rfl rfl (kMovC rfl (kDone (kH (kRet (endRetA (ra := [.one (.d _)]) rfl rfl))))))))))))))))))))

def c_laws_FnNameTexts : C := (.seq (.reg false (.o 0 2 (.mov (.v (.bool false))) .done)) (.seq (.reg false (.o 0 14 (.mov (.t 0)) (.o 1 15 (.call 15 15 [(.t 14)]) (.o 2 3 (.alloc 3 [(.n 1)]) (.op 3 [] none none false (.store (some 1) (.t 3) (.t 15)) .done))))) (.seq (.reg false (.o 0 16 (.load (some 1) (.t 3)) (.o 1 17 (.call 17 16 [(.t 16)]) (.o 2 4 (.mov (.t 17)) .done)))) (.seq (.seq (.reg false (.o 0 18 (.load (some 1) (.t 3)) (.o 1 19 (.call 19 17 [(.t 18)]) (.o 2 20 (.un .not (.t 19)) .done)))) (.cond (.t 20) (.seq (.reg false (.o 0 21 (.mov (.t 4)) (.o 1 22 (.len (.t 21)) (.o 2 23 (.bin .eql (.t 22) (.i 0)) (.o 3 24 (.mov (.t 23)) (.op 4 [] (some 25) (some (24, true)) false (.load (some 1) (.t 3)) (.op 5 [] (some 26) (some (24, true)) false (.call 26 18 [(.t 25)]) (.op 6 [] (some 27) (some (24, true)) false (.un .not (.t 26)) (.o 7 28 (.pick (.t 24) (.t 27) (.v (.bool false))) (.o 8 29 (.mov (.t 28)) (.op 9 [] (some 30) (some (29, true)) false (.call 30 19 []) (.o 10 31 (.pick (.t 29) (.t 30) (.v (.bool false))) (.o 11 2 (.mov (.t 31)) .done))))))))))))) .ret) .skip)) (.seq (.reg false (.o 0 33 (.mov (.t 4)) (.o 1 34 (.call 34 9 [(.t 33)]) (.o 2 32 (.mov (.t 34)) (.o 3 35 (.ext (.t 32) 0) (.o 4 36 (.ext (.t 32) 1) (.o 5 5 (.alloc 5 [(.n 1)]) (.op 6 [] none none false (.store (some 1) (.t 5) (.t 35)) (.o 7 6 (.mov (.t 36)) .done))))))))) (.seq (.reg false (.o 0 37 (.lit 37 1 [(.v (.int .u8 0))] 0 []) (.o 1 38 (.mov (.t 4)) (.o 2 39 (.app 39 1 1 (.t 37) (.t 38)) (.o 3 7 (.mov (.t 39)) .done))))) (.seq (.seq (.reg false (.o 0 8 (.mov (.i 0)) .done)) (.block 0 (.loop (.seq (.seq (.reg false (.o 0 40 (.mov (.t 8)) (.o 1 41 (.mov (.t 7)) (.o 2 42 (.len (.t 41)) (.o 3 43 (.bin .lss (.t 40) (.t 42)) .done))))) (.cond (.t 43) .skip (.exit 0))) (.seq (.block 1 (.seq (.reg false (.o 0 46 (.mov (.t 7)) (.o 1 47 (.mov (.t 8)) (.o 2 48 (.iad 1 (.t 46) (.t 47)) (.o 3 49 (.load none (.t 48)) (.o 4 50 (.bin .geq (.t 49) (.v (.int .u8 97))) (.o 5 51 (.mov (.t 50)) (.op 6 [] (some 52) (some (51, true)) false (.mov (.t 7)) (.op 7 [] (some 53) (some (51, true)) false (.mov (.t 8)) (.op 8 [] (some 54) (some (51, true)) false (.iad 1 (.t 52) (.t 53)) (.op 9 [] (some 55) (some (51, true)) false (.load none (.t 54)) (.op 10 [] (some 56) (some (51, true)) false (.bin .leq (.t 55) (.v (.int .u8 122))) (.o 11 57 (.pick (.t 51) (.t 56) (.v (.bool false))) .done))))))))))))) (.cond (.t 57) (.reg false (.o 0 58 (.mov (.t 7)) (.o 1 59 (.mov (.t 8)) (.o 2 60 (.mov (.t 7)) (.o 3 61 (.mov (.t 8)) (.o 4 62 (.iad 1 (.t 60) (.t 61)) (.o 5 63 (.load none (.t 62)) (.o 6 64 (.bin .sub (.t 63) (.v (.int .u8 32))) (.o 7 65 (.iad 1 (.t 58) (.t 59)) (.op 8 [] none none false (.store none (.t 65) (.t 64)) .done)))))))))) .skip))) (.reg false (.o 0 44 (.mov (.t 8)) (.o 1 45 (.bin .add (.t 44) (.i 1)) (.o 2 8 (.mov (.t 45)) .done))))))))) (.seq (.reg false (.o 0 67 (.mov (.t 7)) (.o 1 68 (.call 68 9 [(.t 67)]) (.o 2 66 (.mov (.t 68)) (.o 3 69 (.ext (.t 66) 0) (.o 4 70 (.ext (.t 66) 1) (.o 5 9 (.alloc 9 [(.n 1)]) (.op 6 [] none none false (.store (some 1) (.t 9) (.t 69)) (.o 7 10 (.mov (.t 70)) .done))))))))) (.seq (.reg false (.o 0 71 (.mov (.t 0)) (.o 1 72 (.call 72 20 [(.t 71)]) (.o 2 11 (.mov (.t 72)) .done)))) (.seq (.reg false (.o 0 74 (.mov (.t 11)) (.o 1 75 (.call 75 9 [(.t 74)]) (.o 2 73 (.mov (.t 75)) (.o 3 76 (.ext (.t 73) 0) (.o 4 77 (.ext (.t 73) 1) (.o 5 12 (.alloc 12 [(.n 1)]) (.op 6 [] none none false (.store (some 1) (.t 12) (.t 76)) (.o 7 13 (.mov (.t 77)) .done))))))))) (.seq (.reg false (.o 0 78 (.mov (.t 6)) (.o 1 79 (.mov (.t 78)) (.op 2 [] (some 80) (some (79, true)) false (.load (some 1) (.t 5)) (.op 3 [] (some 81) (some (79, true)) false (.load (some 1) (.t 3)) (.op 4 [] (some 82) (some (79, true)) false (.call 82 21 [(.t 80), (.t 81)]) (.o 5 83 (.pick (.t 79) (.t 82) (.v (.bool false))) (.o 6 84 (.mov (.t 83)) (.op 7 [] (some 85) (some (84, true)) false (.mov (.t 10)) (.o 8 86 (.pick (.t 84) (.t 85) (.v (.bool false))) (.o 9 87 (.mov (.t 86)) (.op 10 [] (some 88) (some (87, true)) false (.load (some 1) (.t 9)) (.op 11 [] (some 89) (some (87, true)) false (.load (some 1) (.t 3)) (.op 12 [] (some 90) (some (87, true)) false (.call 90 21 [(.t 88), (.t 89)]) (.o 13 91 (.pick (.t 87) (.t 90) (.v (.bool false))) (.o 14 92 (.mov (.t 91)) (.op 15 [] (some 93) (some (92, true)) false (.load (some 1) (.t 3)) (.op 16 [] (some 94) (some (92, true)) false (.call 94 18 [(.t 93)]) (.o 17 95 (.pick (.t 92) (.t 94) (.v (.bool false))) (.o 18 96 (.mov (.t 95)) (.op 19 [] (some 97) (some (96, true)) false (.mov (.t 13)) (.op 20 [] (some 98) (some (96, true)) false (.un .not (.t 97)) (.op 21 [] (some 99) (some (96, true)) false (.mov (.t 98)) (.op 22 [] (some 100) (some (99, false)) false (.load (some 1) (.t 12)) (.op 23 [] (some 101) (some (99, false)) false (.call 101 18 [(.t 100)]) (.op 24 [] (some 102) (some (96, true)) false (.pick (.t 99) (.v (.bool true)) (.t 101)) (.o 25 103 (.pick (.t 96) (.t 102) (.v (.bool false))) (.o 26 104 (.mov (.t 103)) (.op 27 [] (some 105) (some (104, true)) false (.call 105 19 []) (.o 28 106 (.pick (.t 104) (.t 105) (.v (.bool false))) (.o 29 2 (.mov (.t 106)) .done))))))))))))))))))))))))))))))) .ret)))))))))))
theorem dg_laws_FnNameTexts : Tryd.f4.body.bind (digC Tryd.prog Tryd.f4.ntmps []) = some c_laws_FnNameTexts := by kernel_rfl
theorem rs_laws_FnNameTexts : resSlots Tryd.prog Tryd.f4 = some [.s 2] := by kernel_rfl
theorem ok_laws_FnNameTexts (code : List UInt8) (hb : (code.length : Int) ≤ 9223372036854775807) :
    FnOK Tryd.prog 4 [.one (.d (encB code))] (fun ra _ => ra = [.one (.d (.sc (.bool true)))]) := by
  refine FnOK.ofK Tryd.func4 (by kernel_rfl) dg_laws_FnNameTexts rs_laws_FnNameTexts rfl rfl ?_
  delta c_laws_FnNameTexts T.o X.i
  refine kSeq (kReg (kMovC rfl (kDone (kSeq (kReg (kMovC rfl (kCallX false (ok_spec_DrawNameText _ (by first | assumption | omega | solve_by_elim [List.getElem_mem] | (simp only [szOut] at *; omega) | exact rfl | exact leb | exact rrOk_small (by assumption) | exact zoneOk_small (by assumption) | exact SmallBB.ok (by assumption) | exact (SmallBB.ok (by assumption)).len | exact (SmallBB.ok (by assumption)).mem | exact SmallBB.bent (by assumption))) ⟨rfl, trivial⟩ rfl (fun _ => rfl) (fun _ => rfl) (fun x0 _ hx0 => (kAlloc rfl rfl (kStoreP rfl rfl rfl rfl (kDone (kSeq (kReg (kLoadP rfl rfl rfl (kCallD2 (ok_impl_NameText _ (by first | assumption | omega | solve_by_elim [List.getElem_mem] | (simp only [szOut] at *; omega) | exact rfl | exact leb | exact rrOk_small (by assumption) | exact zoneOk_small (by assumption) | exact SmallBB.ok (by assumption) | exact (SmallBB.ok (by assumption)).len | exact (SmallBB.ok (by assumption)).mem | exact SmallBB.bent (by assumption))) ⟨⟨⟨rfl, trivial⟩, leb⟩, trivial⟩ rfl rfl rfl rfl (kMovC rfl (kDone (kSeq (kSeq (kReg (kMem [(16384, ⟨1, 0, .box [.d _]⟩)] [(3, .c (.ptr 16384 1 0)), (18, .c (.un)), (19, .c (.un))] [] ⟨rfl, trivial⟩ ⟨rfl, rfl, rfl, trivial⟩ rfl (kLoadP rfl rfl rfl ?_))))))))))))))))))))))
  have a1 := hx0.len
  have a2 := hx0.mem
  have a3 := hx0.flat
  cases na : nameOk x0
  · refine kCallD (ok_spec_NameOk _ (by first | assumption | omega | solve_by_elim [List.getElem_mem] | (simp only [szOut] at *; omega) | exact rfl | exact leb | exact rrOk_small (by assumption) | exact zoneOk_small (by assumption) | exact SmallBB.ok (by assumption) | exact (SmallBB.ok (by assumption)).len | exact (SmallBB.ok (by assumption)).mem | exact SmallBB.bent (by assumption)) (by first | assumption | omega | solve_by_elim [List.getElem_mem] | (simp only [szOut] at *; omega) | exact rfl | exact leb | exact rrOk_small (by assumption) | exact zoneOk_small (by assumption) | exact SmallBB.ok (by assumption) | exact (SmallBB.ok (by assumption)).len | exact (SmallBB.ok (by assumption)).mem | exact SmallBB.bent (by assumption))) ⟨⟨⟨rfl, trivial⟩, leb⟩, trivial⟩ rfl rfl rfl rfl rfl (kUn rfl rfl (kDone (kCondN rfl (fun g1 => kSeq (kReg (kMovC rfl (kLen0 rfl (kBin rfl rfl rfl (kMovC rfl (kGT rfl (kLoadP rfl rfl rfl (kGT rfl (kCallD (ok_impl_NameOk _ (by first | assumption | omega | solve_by_elim [List.getElem_mem] | (simp only [szOut] at *; omega) | exact rfl | exact leb | exact rrOk_small (by assumption) | exact zoneOk_small (by assumption) | exact SmallBB.ok (by assumption) | exact (SmallBB.ok (by assumption)).len | exact (SmallBB.ok (by assumption)).mem | exact SmallBB.bent (by assumption)) (by first | assumption | omega | solve_by_elim [List.getElem_mem] | (simp only [szOut] at *; omega) | exact rfl | exact leb | exact rrOk_small (by assumption) | exact zoneOk_small (by assumption) | exact SmallBB.ok (by assumption) | exact (SmallBB.ok (by assumption)).len | exact (SmallBB.ok (by assumption)).mem | exact SmallBB.bent (by assumption))) ⟨⟨⟨rfl, trivial⟩, leb⟩, trivial⟩ rfl rfl rfl rfl rfl (kGT rfl (kUn rfl rfl (kPickT rfl (kMovC rfl (kMovC rfl (kGN rfl (fun g2 => kGT rfl (kCallD (ok_laws_names) trivial rfl rfl rfl rfl rfl (kPickT rfl (kMovC rfl (kMovC rfl (kDone (kRet (endRetA (ra := [.one (.d _)]) rfl rfl)))))))) (fun g2 => (by (simp [*] at g2))))))))))))))))))) (fun g1 => (by (simp [*] at g1))))))
  have hl : (textN x0).length ≤ 200 := by
    have h1 := textL_len x0
    have h2 := nameOk_flat na
    have h3 := nameOk_len na
    unfold textN
    split
    · simp
    · omega
  refine kCallD (ok_spec_NameOk _ (by first | assumption | omega | solve_by_elim [List.getElem_mem] | (simp only [szOut] at *; omega) | exact rfl | exact leb | exact rrOk_small (by assumption) | exact zoneOk_small (by assumption) | exact SmallBB.ok (by assumption) | exact (SmallBB.ok (by assumption)).len | exact (SmallBB.ok (by assumption)).mem | exact SmallBB.bent (by assumption)) (by first | assumption | omega | solve_by_elim [List.getElem_mem] | (simp only [szOut] at *; omega) | exact rfl | exact leb | exact rrOk_small (by assumption) | exact zoneOk_small (by assumption) | exact SmallBB.ok (by assumption) | exact (SmallBB.ok (by assumption)).len | exact (SmallBB.ok (by assumption)).mem | exact SmallBB.bent (by assumption))) ⟨⟨⟨rfl, trivial⟩, leb⟩, trivial⟩ rfl rfl rfl rfl rfl (kUn rfl rfl (kDone (kCondN rfl (fun g1 => (by (simp [*] at g1))) (fun g1 => kSkip (kSeq (kReg (kMovC rfl ?_)))))))
  rw [if_pos (rfl : true = true)]
  refine kCall1 true (ok_impl_NameRead _ (by first | assumption | omega | solve_by_elim [List.getElem_mem] | (simp only [szOut] at *; omega) | exact rfl | exact leb | exact rrOk_small (by assumption) | exact zoneOk_small (by assumption) | exact SmallBB.ok (by assumption) | exact (SmallBB.ok (by assumption)).len | exact (SmallBB.ok (by assumption)).mem | exact SmallBB.bent (by assumption))) ⟨rfl, trivial⟩ rfl rfl rfl (fun _ => (kMovT rfl (kExtC rfl rfl (kExtC rfl rfl (kAlloc rfl rfl (kMem [(24576, ⟨1, 0, .box [.nil 1]⟩), (143360, ⟨1, 0, .arr true _⟩)] [(5, .c (.ptr 24576 1 0)), (35, .g [.arr 143360 1]), (36, .c (.d _))] [] ⟨rfl, rfl, trivial⟩ ⟨rfl, rfl, rfl, trivial⟩ rfl (kStoreP rfl rfl rfl rfl (kMovC rfl (kDone (kSeq (kReg (kLitG rfl rfl rfl rfl (kMovC rfl (kAppN rfl rfl rfl (src_encB _ _) rfl rfl rfl rfl (by first | omega | (simp only [List.length_append, List.length_cons, List.length_nil]; omega)) (kMovC rfl (kDone (kSeq (kSeq (kReg (kMovC rfl (kDone (kBlock ?_))))))))))))))))))))))
  rw [(read_text na).1, (read_text na).2]
  refine kLoop (α := { i : Nat // i ≤ (textN x0).length }) (fun y => ⟨tabSl [(0, .dv (encB code)), (3, .c (.ptr (rid 3 0) 1 0)), (4, .dv (encB (textN x0))), (5, .c (.ptr (rid 5 0) 1 0)), (6, .b true), (7, .c (.arr (rid 37 0) 1)), (8, .i y.1)], obTab 1 [(rid 3 0, ⟨1, 0, .box [.d (encBB x0)]⟩), (rid 5 0, ⟨1, 0, .box [.arr (rid 34 0) 1]⟩), (rid 34 0, ⟨1, 0, .arr true (encBB x0)⟩), (rid 37 0, ⟨1, 0, .arr true (encB (upB ((textN x0).take y.1) ++ (textN x0).drop y.1))⟩)], []⟩) (fun y => (textN x0).length - y.1) ⟨0, by simp⟩ .normA ?_
  rintro ⟨i, hi⟩
  simp only
  have hlen : (upB ((textN x0).take i) ++ (textN x0).drop i).length = (textN x0).length := by simp [upB]; omega
  rcases Nat.lt_or_ge i (textN x0).length with hlt | hge
  · have hget : (upB ((textN x0).take i) ++ (textN x0).drop i)[i]? = some (textN x0)[i] := by
      rw [List.getElem?_append_right (by simp [upB]; omega)]; simp [upB, Nat.min_eq_left hi]
    have hst : ∀ c, c = upC (textN x0)[i] → (upB ((textN x0).take i) ++ (textN x0).drop i).set i c = upB ((textN x0).take (i + 1)) ++ (textN x0).drop (i + 1) := by
      rintro c rfl
      rw [take_set_succ _ _ _ _ hlt (by simp [upB]; omega)]
      unfold upB
      rw [← List.take_append_getElem hlt, List.map_append]
      rfl
    revert hget hst hlen
    generalize upB ((textN x0).take i) ++ (textN x0).drop i = L
    intro hlen hget hst
    have hiL : i < L.length := by omega
    have hg : L[i] = (textN x0)[i] := by rw [List.getElem?_eq_getElem hiL] at hget; simpa using hget
    have hw : IntKind.u8.wrap (((L[i]).toNat : Int) - 32) = ((L[i] - 32 : UInt8).toNat : Int) := by
      have := (L[i]).toNat_lt
      simp [IntKind.wrap, IntKind.bits, IntKind.signed, UInt8.toNat_sub]
      omega
    have hno : (¬ ((L[i]).toNat : Int) ≥ 97 ∨ ¬ ((L[i]).toNat : Int) ≤ 122) → L = upB ((textN x0).take (i + 1)) ++ (textN x0).drop (i + 1) := by
      intro h
      rw [← hst L[i] (by
        rw [hg] at h ⊢
        unfold upC
        rw [if_neg]
        rintro ⟨h1, h2⟩
        have h1 := UInt8.le_iff_toNat_le.1 h1
        have h2 := UInt8.le_iff_toNat_le.1 h2
        simp at h1 h2
        omega)]
      simp
    refine kSeq (kSeq (kReg (kMovC rfl (kMovC rfl (kLenR rfl rfl (kBin rfl rfl rfl (kDone (kCondP rfl (fun g1 => kSkip (kSeq (kBlock (kSeq (kReg (kMovC rfl (kMovC rfl (kIadAR rfl rfl rfl rfl (by first | omega | (simp only [List.length_append, List.length_cons, List.length_nil]; omega)) (kLoadER rfl rfl (by first | omega | (simp only [List.length_append, List.length_cons, List.length_nil]; omega)) rfl (kBin rfl rfl rfl (kMovC rfl (kGP rfl (fun g2 => kMem [(155648, ⟨1, 0, .arr true _⟩)] [(7, .c (.arr 155648 1)), (8, .c (.d _)), (51, .c (.d _))] [] ⟨rfl, trivial⟩ ⟨rfl, rfl, rfl, trivial⟩ rfl (kGT rfl (kMovC rfl (kGT rfl (kMovC rfl (kGT rfl (kIadAR rfl rfl rfl rfl (by first | omega | (simp only [List.length_append, List.length_cons, List.length_nil]; omega)) (kGT rfl (kLoadER rfl rfl (by first | omega | (simp only [List.length_append, List.length_cons, List.length_nil]; omega)) rfl (kGT rfl (kBin rfl rfl rfl (kPickT rfl (kMovC rfl (kDone (kCondP rfl (fun g3 => kReg (kMovC rfl (kMovC rfl (kMovC rfl (kMovC rfl (kIadAR rfl rfl rfl rfl (by first | omega | (simp only [List.length_append, List.length_cons, List.length_nil]; omega)) (kMem [(155648, ⟨1, 0, .arr true _⟩)] [(58, .c (.arr 155648 1)), (59, .c (.d _))] [] ⟨rfl, trivial⟩ ⟨rfl, rfl, trivial⟩ rfl (kLoadER rfl rfl (by first | omega | (simp only [List.length_append, List.length_cons, List.length_nil]; omega)) rfl (kBin rfl rfl rfl (kIadAR rfl rfl rfl rfl (by first | omega | (simp only [List.length_append, List.length_cons, List.length_nil]; omega)) ?_)))))))))) (fun g3 => kSkip (kBk (kReg (kMovC rfl (kAdd rfl rfl (by omega) (kMovC rfl (kDone ?_)))))))))))))))))))))) (fun g2 => kMem [(155648, ⟨1, 0, .arr true _⟩)] [(7, .c (.arr 155648 1)), (8, .c (.d _)), (51, .c (.d _))] [] ⟨rfl, trivial⟩ ⟨rfl, rfl, rfl, trivial⟩ rfl (kGF rfl (kGF rfl (kGF rfl (kGF rfl (kGF rfl (kPickF rfl (kMovC rfl (kDone (kCondF rfl (kSkip (kBk (kReg (kMovC rfl (kAdd rfl rfl (by omega) (kMovC rfl (kDone ?_))))))))))))))))))))))))))))) (fun g1 => (by omega))))))))))
    · refine kStoreER (z := L[i] - 32) rfl rfl rfl rfl rfl rfl rfl hiL (by rw [← hw]; rfl) ?_
      refine kDone (kBk (kReg (kMovC rfl (kAdd rfl rfl (by omega) (kMovC rfl (kDone ?_))))))
      refine kInv ⟨⟨i + 1, by omega⟩, by simp only; omega, ?_⟩
      simp only
      rw [← hst (L[i] - 32) (by
        rw [hg] at *
        unfold upC
        rw [if_pos]
        simp only [UInt8.le_iff_toNat_le]
        exact ⟨by simp; omega, by simp; omega⟩)]
      exact .normA
    all_goals
      refine kInv ⟨⟨i + 1, by omega⟩, by simp only; omega, ?_⟩
      simp only
      rw [← hno (by omega)]
      exact .normA
  · have e : i = (textN x0).length := by omega
    subst e
    rw [List.take_length, List.drop_length, List.append_nil]
    have hl3 : (upB (textN x0)).length = (textN x0).length := by simp [upB]
    have hl2 : (upB (textN x0)).length ≤ 200 := by omega
    refine kSeq (kSeq (kReg (kMovC rfl (kMovC rfl (kLenR rfl rfl (kBin rfl rfl rfl (kDone (kCondP rfl (fun g1 => (by omega)) (fun g1 => kExit (kExC (kExI (kExB (kSeq (kReg (kMovC rfl (kCall1 true (ok_impl_NameRead _ (by first | assumption | omega | solve_by_elim [List.getElem_mem] | (simp only [szOut] at *; omega) | exact rfl | exact leb | exact rrOk_small (by assumption) | exact zoneOk_small (by assumption) | exact SmallBB.ok (by assumption) | exact (SmallBB.ok (by assumption)).len | exact (SmallBB.ok (by assumption)).mem | exact SmallBB.bent (by assumption))) ⟨rfl, trivial⟩ rfl rfl rfl (fun _ => (kMovT rfl (kExtC rfl rfl (kExtC rfl rfl (kAlloc rfl rfl (kMem [(40960, ⟨2, 0, .box [.nil 1]⟩), (282624, ⟨2, 0, .arr true _⟩)] [(9, .c (.ptr 40960 2 0)), (69, .g [.arr 282624 2]), (70, .c (.d _))] [] ⟨rfl, rfl, trivial⟩ ⟨rfl, rfl, rfl, trivial⟩ rfl (kStoreP rfl rfl rfl rfl (kMovC rfl (kDone (kSeq (kReg (kMovC rfl (kCallX false (ok_spec_DrawNameRead _ (by first | assumption | omega | solve_by_elim [List.getElem_mem] | (simp only [szOut] at *; omega) | exact rfl | exact leb | exact rrOk_small (by assumption) | exact zoneOk_small (by assumption) | exact SmallBB.ok (by assumption) | exact (SmallBB.ok (by assumption)).len | exact (SmallBB.ok (by assumption)).mem | exact SmallBB.bent (by assumption))) ⟨rfl, trivial⟩ rfl (fun _ => rfl) (fun _ => rfl) (fun x2 _ hx2 => (kMovC rfl (kDone (kSeq (kReg (kMovC rfl (kCall1 true (ok_impl_NameRead _ (by first | assumption | omega | solve_by_elim [List.getElem_mem] | (simp only [szOut] at *; omega) | exact rfl | exact leb | exact rrOk_small (by assumption) | exact zoneOk_small (by assumption) | exact SmallBB.ok (by assumption) | exact (SmallBB.ok (by assumption)).len | exact (SmallBB.ok (by assumption)).mem | exact SmallBB.bent (by assumption))) ⟨rfl, trivial⟩ rfl rfl rfl (fun _ => (kMovT rfl (kExtC rfl rfl (kMem [(311296, ⟨2, 0, .arr true _⟩)] [(76, .g [.arr 311296 2])] [] ⟨rfl, trivial⟩ ⟨rfl, trivial⟩ rfl (kExtC rfl rfl (kAlloc rfl rfl (kStoreP rfl rfl rfl rfl (kMovC rfl (kDone (kSeq (kReg (kMovC rfl (kMovC rfl (kGT rfl (kLoadP rfl rfl rfl (kGT rfl (kLoadP rfl rfl rfl (kMem [(143360, ⟨1, 0, .arr true _⟩), (40960, ⟨2, 0, .box [.arr 282624 2]⟩), (16384, ⟨1, 0, .box [.d _]⟩), (53248, ⟨2, 0, .box [.arr 311296 2]⟩), (282624, ⟨2, 0, .arr true _⟩), (311296, ⟨2, 0, .arr true _⟩)] [(80, .g [.arr 143360 1]), (81, .g [.d _]), (79, .c (.d _)), (10, .c (.d _)), (9, .c (.ptr 40960 2 0)), (3, .c (.ptr 16384 1 0)), (13, .c (.d _)), (12, .c (.ptr 53248 2 0))] [] ⟨rfl, rfl, rfl, rfl, rfl, rfl, trivial⟩ ⟨rfl, rfl, rfl, rfl, rfl, rfl, rfl, rfl, trivial⟩ rfl (kGT rfl (kCallD (ok_laws_sameName _ _ (by first | assumption | omega | solve_by_elim [List.getElem_mem] | (simp only [szOut] at *; omega) | exact rfl | exact leb | exact rrOk_small (by assumption) | exact zoneOk_small (by assumption) | exact SmallBB.ok (by assumption) | exact (SmallBB.ok (by assumption)).len | exact (SmallBB.ok (by assumption)).mem | exact SmallBB.bent (by assumption)) (by first | assumption | omega | solve_by_elim [List.getElem_mem] | (simp only [szOut] at *; omega) | exact rfl | exact leb | exact rrOk_small (by assumption) | exact zoneOk_small (by assumption) | exact SmallBB.ok (by assumption) | exact (SmallBB.ok (by assumption)).len | exact (SmallBB.ok (by assumption)).mem | exact SmallBB.bent (by assumption))) ⟨⟨⟨rfl, trivial⟩, leb⟩, ⟨⟨rfl, trivial⟩, leb⟩, trivial⟩ rfl rfl rfl rfl rfl (kPickT rfl (kMovC rfl (kMovC rfl (kGP rfl (fun g3 => kGT rfl (kMovC rfl (kPickT rfl (kMovC rfl (kMovC rfl (kGS rfl (fun g4 => kGT rfl (kLoadP rfl rfl rfl (kGT rfl (kLoadP rfl rfl rfl (kMem [(282624, ⟨2, 0, .arr true _⟩), (16384, ⟨1, 0, .box [.d _]⟩), (53248, ⟨2, 0, .box [.arr 311296 2]⟩), (311296, ⟨2, 0, .arr true _⟩)] [(88, .g [.arr 282624 2]), (89, .g [.d _]), (87, .c (.d _)), (3, .c (.ptr 16384 1 0)), (13, .c (.d _)), (12, .c (.ptr 53248 2 0))] [] ⟨rfl, rfl, rfl, rfl, trivial⟩ ⟨rfl, rfl, rfl, rfl, rfl, rfl, trivial⟩ rfl (kGT rfl ?_)))))) (fun g4 => kGF rfl (kGF rfl (kGF rfl (kPickF rfl (kMovC rfl (kMem [(16384, ⟨1, 0, .box [.d _]⟩), (53248, ⟨2, 0, .box [.arr 311296 2]⟩), (311296, ⟨2, 0, .arr true _⟩)] [(91, .c (.d _)), (3, .c (.ptr 16384 1 0)), (13, .c (.d _)), (12, .c (.ptr 53248 2 0))] [] ⟨rfl, rfl, rfl, trivial⟩ ⟨rfl, rfl, rfl, rfl, trivial⟩ rfl (kMovC rfl (kGF rfl (kGF rfl (kPickF rfl (kMovC rfl (kMovC rfl (kGF rfl (kGF rfl (kGF rfl (kGU rfl (kGU rfl (kGF rfl (kPickF rfl (kMovC rfl (kMovC rfl (kGF rfl (kPickF rfl (kMovC rfl (kMovC rfl (kDone (kRet (endRetA (ra := [.one (.d _)]) rfl ?_)))))))))))))))))))))))))))))))))) (fun g3 => (by (simp at g3)))))))))))))))))))))))))))))))))))))))))))))))))))))))))))))))
    · rw [(read_up na).1]
      refine kCallD (ok_laws_sameName _ _ (by first | assumption | omega | solve_by_elim [List.getElem_mem] | (simp only [szOut] at *; omega) | exact rfl | exact leb | exact rrOk_small (by assumption) | exact zoneOk_small (by assumption) | exact SmallBB.ok (by assumption) | exact (SmallBB.ok (by assumption)).len | exact (SmallBB.ok (by assumption)).mem | exact SmallBB.bent (by assumption)) (by first | assumption | omega | solve_by_elim [List.getElem_mem] | (simp only [szOut] at *; omega) | exact rfl | exact leb | exact rrOk_small (by assumption) | exact zoneOk_small (by assumption) | exact SmallBB.ok (by assumption) | exact (SmallBB.ok (by assumption)).len | exact (SmallBB.ok (by assumption)).mem | exact SmallBB.bent (by assumption))) ⟨⟨⟨rfl, trivial⟩, leb⟩, ⟨⟨rfl, trivial⟩, leb⟩, trivial⟩ rfl rfl rfl rfl rfl (kPickT rfl (kMovC rfl (kMovC rfl (kGP rfl (fun g3 => kGT rfl (kLoadP rfl rfl rfl (kGT rfl (kCallD (ok_impl_NameOk _ (by first | assumption | omega | solve_by_elim [List.getElem_mem] | (simp only [szOut] at *; omega) | exact rfl | exact leb | exact rrOk_small (by assumption) | exact zoneOk_small (by assumption) | exact SmallBB.ok (by assumption) | exact (SmallBB.ok (by assumption)).len | exact (SmallBB.ok (by assumption)).mem | exact SmallBB.bent (by assumption)) (by first | assumption | omega | solve_by_elim [List.getElem_mem] | (simp only [szOut] at *; omega) | exact rfl | exact leb | exact rrOk_small (by assumption) | exact zoneOk_small (by assumption) | exact SmallBB.ok (by assumption) | exact (SmallBB.ok (by assumption)).len | exact (SmallBB.ok (by assumption)).mem | exact SmallBB.bent (by assumption))) ⟨⟨⟨rfl, trivial⟩, leb⟩, trivial⟩ rfl rfl rfl rfl rfl (kPickT rfl (kMovC rfl (kMovC rfl (kGS rfl (fun g4 => kGT rfl (kMovC rfl (kGT rfl (kUn rfl rfl (kMem [(53248, ⟨2, 0, .box [.arr 311296 2]⟩), (311296, ⟨2, 0, .arr true _⟩)] [(98, .c (.d _)), (12, .c (.ptr 53248 2 0)), (96, .c (.d _))] [] ⟨rfl, rfl, trivial⟩ ⟨rfl, rfl, rfl, trivial⟩ rfl (kGT rfl (kMovC rfl (kGN rfl (fun g5 => kGF rfl (kGF rfl (kGT rfl (kPickT rfl (kMovC rfl (kPickT rfl (kMovC rfl (kMovC rfl (kGT rfl (kCallD (ok_laws_names) trivial rfl rfl rfl rfl rfl (kPickT rfl (kMovC rfl (kMovC rfl (kDone (kRet (endRetA (ra := [.one (.d _)]) rfl rfl)))))))))))))))) (fun g5 => kGT rfl (kLoadP rfl rfl rfl (kGT rfl ?_))))))))))) (fun g4 => (by (simp [*] at g4))))))))))) (fun g3 => (by (simp at g3)))))))
      have hz : SmallBB (readN x2) := .ok (readN_ok x2)
      have z1 := hz.len
      have z2 := hz.mem
      have z3 := readN_ok x2
      refine kCallD (ok_impl_NameOk _ (by first | assumption | omega | solve_by_elim [List.getElem_mem] | (simp only [szOut] at *; omega) | exact rfl | exact leb | exact rrOk_small (by assumption) | exact zoneOk_small (by assumption) | exact SmallBB.ok (by assumption) | exact (SmallBB.ok (by assumption)).len | exact (SmallBB.ok (by assumption)).mem | exact SmallBB.bent (by assumption)) (by first | assumption | omega | solve_by_elim [List.getElem_mem] | (simp only [szOut] at *; omega) | exact rfl | exact leb | exact rrOk_small (by assumption) | exact zoneOk_small (by assumption) | exact SmallBB.ok (by assumption) | exact (SmallBB.ok (by assumption)).len | exact (SmallBB.ok (by assumption)).mem | exact SmallBB.bent (by assumption))) ⟨⟨⟨rfl, trivial⟩, leb⟩, trivial⟩ rfl rfl rfl rfl rfl (kGT rfl (kPickF rfl (kMovC rfl (kPickT rfl (kMovC rfl (kMovC rfl (kGS rfl (fun g3 => kGT rfl (kCallD (ok_laws_names) trivial rfl rfl rfl rfl rfl (kPickT rfl (kMovC rfl (kMovC rfl (kDone (kRet (endRetA (ra := [.one (.d _)]) rfl rfl)))))))) (fun g3 => (by (simp [*] at g3))))))))))
    · rw [(read_up na).2] at g4
      cases g4

end Go.Proofs.YtmlmepnmnoddpaaDoor.FnNameTextsFn
