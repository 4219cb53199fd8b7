/- What the functions that FnRecordOrder reaches compute, one contract each; each with the bounds that it states. -/
import Derived.Test.YtbmagbgdpmgbmaaDoorHearth3
import Derived.Test.YtbmagbgdpmgbmaaDoorProg
import Derived.KernelRfl
set_option maxRecDepth 100000
set_option maxHeartbeats 8000000
set_option linter.unusedVariables false
set_option linter.unusedSimpArgs false
namespace Go.Proofs.YtbmagbgdpmgbmaaDoor.FnRecordOrderFn
open Go Hearth Go.Proofs

def c_spec_l1New : C := (.seq (.reg false (.o 0 2 (.mov (.v (.pointer none))) .done)) (.seq (.reg false (.o 0 5 (.mov (.t 0)) (.o 1 6 (.len (.t 5)) (.o 2 7 (.bin .add (.i 42222) (.t 6)) (.o 3 3 (.mov (.t 7)) .done))))) (.seq (.seq (.reg false (.o 0 4 (.mov (.i 0)) .done)) (.block 0 (.loop (.seq (.seq (.reg false (.o 0 8 (.mov (.t 4)) (.o 1 9 (.mov (.t 0)) (.o 2 10 (.len (.t 9)) (.o 3 11 (.bin .lss (.t 8) (.t 10)) (.o 4 12 (.mov (.t 11)) (.op 5 [] (some 13) (some (12, true)) false (.mov (.t 4)) (.op 6 [] (some 14) (some (12, true)) false (.bin .lss (.t 13) (.i 4000)) (.o 7 15 (.pick (.t 12) (.t 14) (.v (.bool false))) .done))))))))) (.cond (.t 15) .skip (.exit 0))) (.seq (.block 1 (.reg false (.o 0 18 (.mov (.t 3)) (.o 1 19 (.bin .mul (.t 18) (.i 131)) (.o 2 20 (.mov (.t 0)) (.o 3 21 (.mov (.t 4)) (.o 4 22 (.iad 1 (.t 20) (.t 21)) (.o 5 23 (.load none (.t 22)) (.o 6 24 (.conv .i64 (.t 23)) (.o 7 25 (.bin .add (.t 19) (.t 24)) (.o 8 26 (.bin .add (.t 25) (.i 7)) (.o 9 27 (.bin .and (.t 26) (.i 1073741823)) (.o 10 3 (.mov (.t 27)) .done))))))))))))) (.reg false (.o 0 16 (.mov (.t 4)) (.o 1 17 (.bin .add (.t 16) (.i 1)) (.o 2 4 (.mov (.t 17)) .done))))))))) (.seq (.reg false (.o 0 28 (.mov (.t 0)) (.o 1 29 (.mov (.t 3)) (.o 2 30 (.build [(.n 1), (.i 0), (.i 0)] [(0, 1, (.t 28)), (2, 1, (.t 29))]) (.o 3 31 (.box 31 (.t 30)) (.o 4 2 (.mov (.t 31)) .done)))))) .ret))))
theorem dg_spec_l1New : Tryd.f18.body.bind (digC Tryd.prog Tryd.f18.ntmps []) = some c_spec_l1New := by kernel_rfl
theorem rs_spec_l1New : resSlots Tryd.prog Tryd.f18 = some [.s 2] := by kernel_rfl
theorem ok_spec_l1New (code : List UInt8) (hb : (code.length : Int) ≤ 9223372036854775807) :
    FnOK Tryd.prog 18 [.one (.d (encB code))] (fun ra _ => ∃ c : Cu, True ∧ ra = [.one (.box c.cells)]) := by
  refine FnOK.ofK Tryd.func18 (by kernel_rfl) dg_spec_l1New rs_spec_l1New rfl rfl ?_
  delta c_spec_l1New T.o X.i
  refine kSeq (kReg (kMovC rfl (kDone (kSeq (kReg (kMovC rfl (kLenR rfl rfl (kBin rfl rfl rfl (kMovC rfl (kDone (kSeq (kSeq (kReg (kMovC rfl (kDone (kBlock ?_))))))))))))))))
  refine kLoop (α := { i : Nat // i ≤ code.length } × Int) (fun y => ⟨tabSl [(0, .dv (encB code)), (3, .i y.2), (4, .i y.1.1)], obTab 1 [], []⟩) (fun y => code.length - y.1.1) (⟨0, by simp⟩, _) .normA ?_
  rintro ⟨⟨i, hi⟩, h⟩
  simp only
  rcases Nat.lt_or_ge i code.length with hlt | hge
  · refine kSeq (kSeq (kReg (kMovC rfl (kMovC rfl (kLenR rfl rfl (kBin rfl rfl rfl (kMovC rfl (kGP rfl (fun g0 => kGT rfl (kMovC rfl (kGT rfl (kBin rfl rfl rfl (kPickT rfl (kMovC rfl (kDone (kCondP rfl (fun g1 => kSkip (kSeq (kBlock (kReg (kMovC rfl (kBin rfl rfl rfl (kMovC rfl (kMovC rfl (kIadR rfl rfl rfl (by omega) (kLoadD rfl rfl (kConv rfl (kBin rfl rfl rfl (kBin rfl rfl rfl (kBin rfl rfl rfl (kMovC rfl (kDone (kBk (kReg (kMovC rfl (kAdd rfl rfl (by omega) (kMovC rfl (kDone ?_)))))))))))))))))))))) (fun g1 => kExit (kExC (kExI (kExB (kSeq (kReg (kMovC rfl (kMovC rfl (kBuildG rfl (kBox rfl rfl rfl rfl rfl (kMovC rfl (kDone (kRet (endRetA (ra := [.one (.box [_, _, _])]) rfl ?_)))))))))))))))))))))) (fun g0 => (by omega))))))))))
    · exact kInv ⟨(⟨i + 1, by omega⟩, _), by simp only; omega, .normA⟩
    · exact ⟨⟨code, 0, h, by omega, by omega, hb⟩, trivial, rfl⟩
  · refine kSeq (kSeq (kReg (kMovC rfl (kMovC rfl (kLenR rfl rfl (kBin rfl rfl rfl (kMovC rfl (kGP rfl (fun g0 => (by omega)) (fun g0 => kGF rfl (kGF rfl (kPickF rfl (kMovC rfl (kDone (kCondF rfl (kExit (kExC (kExI (kExB (kSeq (kReg (kMovC rfl (kMovC rfl (kBuildG rfl (kBox rfl rfl rfl rfl rfl (kMovC rfl (kDone (kRet (endRetA (ra := [.one (.box [_, _, _])]) rfl ?_))))))))))))))))))))))))))))
    exact ⟨⟨code, 0, h, by omega, by omega, hb⟩, trivial, rfl⟩

def c_spec_Lower : C := (.seq (.reg false (.o 0 2 (.mov (.n 1)) .done)) (.seq (.reg false (.o 0 5 (.lit 5 1 [(.v (.int .u8 0))] 0 []) (.o 1 6 (.mov (.t 0)) (.o 2 7 (.app 7 1 1 (.t 5) (.t 6)) (.o 3 3 (.mov (.t 7)) .done))))) (.seq (.seq (.reg false (.o 0 4 (.mov (.i 0)) .done)) (.block 0 (.loop (.seq (.seq (.reg false (.o 0 8 (.mov (.t 4)) (.o 1 9 (.mov (.t 3)) (.o 2 10 (.len (.t 9)) (.o 3 11 (.bin .lss (.t 8) (.t 10)) .done))))) (.cond (.t 11) .skip (.exit 0))) (.seq (.block 1 (.seq (.reg false (.o 0 14 (.mov (.t 3)) (.o 1 15 (.mov (.t 4)) (.o 2 16 (.iad 1 (.t 14) (.t 15)) (.o 3 17 (.load none (.t 16)) (.o 4 18 (.bin .geq (.t 17) (.v (.int .u8 65))) (.o 5 19 (.mov (.t 18)) (.op 6 [] (some 20) (some (19, true)) false (.mov (.t 3)) (.op 7 [] (some 21) (some (19, true)) false (.mov (.t 4)) (.op 8 [] (some 22) (some (19, true)) false (.iad 1 (.t 20) (.t 21)) (.op 9 [] (some 23) (some (19, true)) false (.load none (.t 22)) (.op 10 [] (some 24) (some (19, true)) false (.bin .leq (.t 23) (.v (.int .u8 90))) (.o 11 25 (.pick (.t 19) (.t 24) (.v (.bool false))) .done))))))))))))) (.cond (.t 25) (.reg false (.o 0 26 (.mov (.t 3)) (.o 1 27 (.mov (.t 4)) (.o 2 28 (.mov (.t 3)) (.o 3 29 (.mov (.t 4)) (.o 4 30 (.iad 1 (.t 28) (.t 29)) (.o 5 31 (.load none (.t 30)) (.o 6 32 (.bin .add (.t 31) (.v (.int .u8 32))) (.o 7 33 (.iad 1 (.t 26) (.t 27)) (.op 8 [] none none false (.store none (.t 33) (.t 32)) .done)))))))))) .skip))) (.reg false (.o 0 12 (.mov (.t 4)) (.o 1 13 (.bin .add (.t 12) (.i 1)) (.o 2 4 (.mov (.t 13)) .done))))))))) (.seq (.reg false (.o 0 34 (.mov (.t 3)) (.o 1 2 (.mov (.t 34)) .done))) .ret))))
theorem dg_spec_Lower : Tryd.f86.body.bind (digC Tryd.prog Tryd.f86.ntmps []) = some c_spec_Lower := by kernel_rfl
theorem rs_spec_Lower : resSlots Tryd.prog Tryd.f86 = some [.s 2] := by kernel_rfl
theorem ok_spec_Lower (b : List UInt8) (hb : b.length ≤ 4194304) :
    FnOK Tryd.prog 86 [.one (.d (encB b))] (fun ra _ => ra = [.one (.own true (encB (lowerB b)))]) := by
  refine FnOK.ofK Tryd.func86 (by kernel_rfl) dg_spec_Lower rs_spec_Lower rfl rfl ?_
  delta c_spec_Lower T.o X.i
  refine kSeq (kReg (kMovC rfl (kDone (kSeq (kReg (kLit rfl rfl rfl rfl (kMovC rfl (kAppN rfl rfl rfl (src_encB _ _) rfl rfl rfl rfl (by omega) (kMovC rfl (kDone (kSeq (kSeq (kReg (kMovC rfl (kDone (kBlock ?_))))))))))))))))
  refine kLoop (α := { i : Nat // i ≤ b.length }) (fun y => ⟨tabSl [(3, .c (.arr (rid 5 0) 1)), (4, .i y.1)], obTab 1 [(rid 5 0, ⟨1, 0, .arr true (encB (lowerB (b.take y.1) ++ b.drop y.1))⟩)], []⟩) (fun y => b.length - y.1) ⟨0, by simp⟩ .normA ?_
  rintro ⟨i, hi⟩
  simp only
  have hlen : (lowerB (b.take i) ++ b.drop i).length = b.length := by simp [lowerB]; omega
  rcases Nat.lt_or_ge i b.length with hlt | hge
  · have hget : (lowerB (b.take i) ++ b.drop i)[i]? = some b[i] := by
      rw [List.getElem?_append_right (by simp [lowerB]; omega)]; simp [lowerB, Nat.min_eq_left hi]
    have hst : ∀ c, c = lowC b[i] → (lowerB (b.take i) ++ b.drop i).set i c = lowerB (b.take (i + 1)) ++ b.drop (i + 1) := by
      rintro c rfl
      rw [take_set_succ _ _ _ _ hlt (by simp [lowerB]; omega)]
      unfold lowerB
      rw [← List.take_append_getElem hlt, List.map_append]
      rfl
    revert hget hst hlen
    generalize lowerB (b.take i) ++ b.drop i = L
    intro hlen hget hst
    have hiL : i < L.length := by omega
    have hg : L[i] = b[i] := by rw [List.getElem?_eq_getElem hiL] at hget; simpa using hget
    have hw : IntKind.u8.wrap (((L[i]).toNat : Int) + 32) = ((L[i] + 32 : UInt8).toNat : Int) := by
      have := (L[i]).toNat_lt
      simp [IntKind.wrap, IntKind.bits, IntKind.signed, UInt8.toNat_add]
    have hno : (¬ ((L[i]).toNat : Int) ≥ 65 ∨ ¬ ((L[i]).toNat : Int) ≤ 90) → L = lowerB (b.take (i + 1)) ++ b.drop (i + 1) := by
      intro h
      rw [← hst L[i] (by
        rw [hg] at h ⊢
        unfold lowC
        rw [if_neg]
        rintro ⟨h1, h2⟩
        have h1 := UInt8.le_iff_toNat_le.1 h1
        have h2 := UInt8.le_iff_toNat_le.1 h2
        simp at h1 h2
        omega)]
      simp
    refine kSeq (kSeq (kReg (kMovC rfl (kMovC rfl (kLenR rfl rfl (kBin rfl rfl rfl (kDone (kCondP rfl (fun g0 => kSkip (kSeq (kBlock (kSeq (kReg (kMovC rfl (kMovC rfl (kIadAR rfl rfl rfl rfl (by omega) (kLoadER rfl rfl (by omega) rfl (kBin rfl rfl rfl (kMovC rfl (kGP rfl (fun g1 => (kGT rfl (kMovC rfl (kGT rfl (kMovC rfl (kGT rfl (kIadAR rfl rfl rfl rfl (by omega) (kGT rfl (kLoadER rfl rfl (by omega) rfl (kGT rfl (kBin rfl rfl rfl (kPickT rfl (kMovC rfl (kDone (kCondP rfl (fun g2 => kReg (kMovC rfl (kMovC rfl (kMovC rfl (kMovC rfl (kIadAR rfl rfl rfl rfl (by omega) (kLoadER rfl rfl (by omega) rfl (kBin rfl rfl rfl (kIadAR rfl rfl rfl rfl (by omega) ?_))))))))) (fun g2 => kSkip (kBk (kReg (kMovC rfl (kAdd rfl rfl (by omega) (kMovC rfl (kDone ?_)))))))))))))))))))))) (fun g1 => (kGF rfl (kGF rfl (kGF rfl (kGF rfl (kGF rfl (kPickF rfl (kMovC rfl (kDone (kCondF rfl (kSkip (kBk (kReg (kMovC rfl (kAdd rfl rfl (by omega) (kMovC rfl (kDone ?_))))))))))))))))))))))))))))) (fun g0 => (by omega))))))))))
    · refine kStoreER (z := L[i] + 32) rfl rfl rfl rfl rfl rfl rfl hiL (by rw [← hw]; rfl) ?_
      refine kDone (kBk (kReg (kMovC rfl (kAdd rfl rfl (by omega) (kMovC rfl (kDone ?_))))))
      refine kInv ⟨⟨i + 1, by omega⟩, by simp only; omega, ?_⟩
      simp only
      rw [← hst (L[i] + 32) (by
        rw [hg] at *
        unfold lowC
        rw [if_pos]
        simp only [UInt8.le_iff_toNat_le]
        exact ⟨by simp; omega, by simp; omega⟩)]
      exact .normA
    all_goals
      refine kInv ⟨⟨i + 1, by omega⟩, by simp only; omega, ?_⟩
      simp only
      rw [← hno (by omega)]
      exact .normA
  · refine kSeq (kSeq (kReg (kMovC rfl (kMovC rfl (kLenR rfl rfl (kBin rfl rfl rfl (kDone (kCondP rfl (fun g0 => (by omega)) (fun g0 => kExit (kExC (kExI (kExB (kSeq (kReg (kMovC rfl (kMovC rfl (kDone (kRet (endRetA (ra := [.one (.own true _)]) rfl ?_)))))))))))))))))))
    rw [show i = b.length by omega]
    simp

def c_spec_LabelOk : C := (.seq (.reg false (.o 0 2 (.mov (.v (.bool false))) .done)) (.seq (.seq (.reg false (.o 0 4 (.mov (.t 0)) (.o 1 5 (.len (.t 4)) (.o 2 6 (.bin .lss (.t 5) (.i 1)) (.o 3 7 (.mov (.t 6)) (.op 4 [] (some 8) (some (7, false)) false (.mov (.t 0)) (.op 5 [] (some 9) (some (7, false)) false (.len (.t 8)) (.op 6 [] (some 10) (some (7, false)) false (.bin .gtr (.t 9) (.i 15)) (.o 7 11 (.pick (.t 7) (.v (.bool true)) (.t 10)) .done))))))))) (.cond (.t 11) (.seq (.reg false (.o 0 2 (.mov (.v (.bool false))) .done)) .ret) .skip)) (.seq (.seq (.reg false (.o 0 3 (.mov (.i 0)) .done)) (.block 0 (.loop (.seq (.seq (.reg false (.o 0 12 (.mov (.t 3)) (.o 1 13 (.mov (.t 0)) (.o 2 14 (.len (.t 13)) (.o 3 15 (.bin .lss (.t 12) (.t 14)) .done))))) (.cond (.t 15) .skip (.exit 0))) (.seq (.block 1 (.seq (.reg false (.o 0 18 (.mov (.t 0)) (.o 1 19 (.mov (.t 3)) (.o 2 20 (.iad 1 (.t 18) (.t 19)) (.o 3 21 (.load none (.t 20)) (.o 4 22 (.bin .geq (.t 21) (.v (.int .u8 97))) (.o 5 23 (.mov (.t 22)) (.op 6 [] (some 24) (some (23, true)) false (.mov (.t 0)) (.op 7 [] (some 25) (some (23, true)) false (.mov (.t 3)) (.op 8 [] (some 26) (some (23, true)) false (.iad 1 (.t 24) (.t 25)) (.op 9 [] (some 27) (some (23, true)) false (.load none (.t 26)) (.op 10 [] (some 28) (some (23, true)) false (.bin .leq (.t 27) (.v (.int .u8 122))) (.o 11 29 (.pick (.t 23) (.t 28) (.v (.bool false))) (.o 12 30 (.un .not (.t 29)) (.o 13 31 (.mov (.t 30)) (.op 14 [] (some 32) (some (31, true)) false (.mov (.t 0)) (.op 15 [] (some 33) (some (31, true)) false (.mov (.t 3)) (.op 16 [] (some 34) (some (31, true)) false (.iad 1 (.t 32) (.t 33)) (.op 17 [] (some 35) (some (31, true)) false (.load none (.t 34)) (.op 18 [] (some 36) (some (31, true)) false (.bin .geq (.t 35) (.v (.int .u8 48))) (.op 19 [] (some 37) (some (31, true)) false (.mov (.t 36)) (.op 20 [] (some 38) (some (37, true)) false (.mov (.t 0)) (.op 21 [] (some 39) (some (37, true)) false (.mov (.t 3)) (.op 22 [] (some 40) (some (37, true)) false (.iad 1 (.t 38) (.t 39)) (.op 23 [] (some 41) (some (37, true)) false (.load none (.t 40)) (.op 24 [] (some 42) (some (37, true)) false (.bin .leq (.t 41) (.v (.int .u8 57))) (.op 25 [] (some 43) (some (31, true)) false (.pick (.t 37) (.t 42) (.v (.bool false))) (.op 26 [] (some 44) (some (31, true)) false (.un .not (.t 43)) (.o 27 45 (.pick (.t 31) (.t 44) (.v (.bool false))) (.o 28 46 (.mov (.t 45)) (.op 29 [] (some 47) (some (46, true)) false (.mov (.t 0)) (.op 30 [] (some 48) (some (46, true)) false (.mov (.t 3)) (.op 31 [] (some 49) (some (46, true)) false (.iad 1 (.t 47) (.t 48)) (.op 32 [] (some 50) (some (46, true)) false (.load none (.t 49)) (.op 33 [] (some 51) (some (46, true)) false (.bin .neq (.t 50) (.v (.int .u8 45))) (.o 34 52 (.pick (.t 46) (.t 51) (.v (.bool false))) .done)))))))))))))))))))))))))))))))))))) (.cond (.t 52) (.seq (.reg false (.o 0 2 (.mov (.v (.bool false))) .done)) .ret) .skip))) (.reg false (.o 0 16 (.mov (.t 3)) (.o 1 17 (.bin .add (.t 16) (.i 1)) (.o 2 3 (.mov (.t 17)) .done))))))))) (.seq (.reg false (.o 0 2 (.mov (.v (.bool true))) .done)) .ret))))
theorem dg_spec_LabelOk : Tryd.f22.body.bind (digC Tryd.prog Tryd.f22.ntmps []) = some c_spec_LabelOk := by kernel_rfl
theorem rs_spec_LabelOk : resSlots Tryd.prog Tryd.f22 = some [.s 2] := by kernel_rfl
theorem ok_spec_LabelOk (b : List UInt8) (hb : b.length ≤ 4194304) :
    FnOK Tryd.prog 22 [.one (.d (encB b))] (fun ra _ => ra = [.one (.d (.sc (.bool (labelOk b))))]) := by
  refine FnOK.ofK Tryd.func22 (by kernel_rfl) dg_spec_LabelOk rs_spec_LabelOk rfl rfl ?_
  delta c_spec_LabelOk T.o X.i
  refine kSeq (kReg (kMovC rfl (kDone (kSeq (kSeq (kReg (kMovC rfl (kLenR rfl rfl (kBin rfl rfl rfl (kMovC rfl (kGP rfl (fun g0 => kGF rfl (kGF rfl (kGF rfl (kPickT rfl (kMovC rfl (kDone (kCondT rfl (kSeq (kReg (kMovC rfl (kDone (kRet (endRetA (ra := [.one (.d _)]) rfl ?_))))))))))))) (fun g0 => kGT rfl (kMovC rfl (kGT rfl (kLenR rfl rfl (kGT rfl (kBin rfl rfl rfl (kPickF rfl (kMovC rfl (kDone (kCondP rfl (fun g1 => kSeq (kReg (kMovC rfl (kDone (kRet (endRetA (ra := [.one (.d _)]) rfl ?_)))))) (fun g1 => kSkip (kSeq (kSeq (kReg (kMovC rfl (kDone (kBlock ?_))))))))))))))))))))))))))))
  · rw [show labelOk b = false by simp only [labelOk]; rw [decide_eq_false (by omega)]; rfl]
  · rw [show labelOk b = false by simp only [labelOk]; rw [decide_eq_false (p := b.length ≤ 15) (by omega)]; simp]
  refine kLoop (α := { i : Nat // i ≤ b.length ∧ (b.take i).all okLetter = true })
    (fun y => ⟨tabSl [(0, .dv (encB b)), (3, .i y.1)], (St.init [.one (.d (encB b))]).ob, []⟩) (fun y => b.length - y.1) ⟨0, by simp⟩
    (.tab rfl ⟨.refl _, .refl _, trivial⟩) ?_
  rintro ⟨i, hi, hl⟩
  simp only
  refine kSeq (kSeq (kReg (kMovC rfl (kMovC rfl (kLenR rfl rfl (kBin rfl rfl rfl (kDone (kCondP rfl (fun g0 => kSkip (kSeq (kBlock (kSeq (kReg (kMovC rfl (kMovC rfl (kIadR rfl rfl rfl (by omega) (kLoadD rfl rfl (kBin rfl rfl rfl (kMovC rfl (kGP rfl (fun g1 => kGT rfl (kMovC rfl (kGT rfl (kMovC rfl (kGT rfl (kIadR rfl rfl rfl (by omega) (kGT rfl (kLoadD rfl rfl (kGT rfl (kBin rfl rfl rfl (kPickT rfl (kMovC rfl (kUn rfl rfl (kMovC rfl (kGN rfl (fun g2 => kGT rfl (kMovC rfl (kGT rfl (kMovC rfl (kGT rfl (kIadR rfl rfl rfl (by omega) (kGT rfl (kLoadD rfl rfl (kGT rfl (kBin rfl rfl rfl (kGT rfl (kMovC rfl (kGP rfl (fun g3 => kGT rfl (kMovC rfl (kGT rfl (kMovC rfl (kGT rfl (kIadR rfl rfl rfl (by omega) (kGT rfl (kLoadD rfl rfl (kGT rfl (kBin rfl rfl rfl (kGT rfl (kPickT rfl (kMovC rfl (kGT rfl (kUn rfl rfl (kPickT rfl (kMovC rfl (kMovC rfl (kGN rfl (fun g4 => kGT rfl (kMovC rfl (kGT rfl (kMovC rfl (kGT rfl (kIadR rfl rfl rfl (by omega) (kGT rfl (kLoadD rfl rfl (kGT rfl (kBin rfl rfl rfl (kPickT rfl (kMovC rfl (kDone (kCondN rfl (fun g5 => kSeq (kReg (kMovC rfl (kDone (kRet (endRetA (ra := [.one (.d _)]) rfl ?_)))))) (fun g5 => kSkip (kBk (kReg (kMovC rfl (kAdd rfl rfl (by omega) (kMovC rfl (kDone ?_))))))))))))))))))))) (fun g4 => kGF rfl (kGF rfl (kGF rfl (kGF rfl (kGF rfl (kPickF rfl (kMovC rfl (kDone (kCondF rfl (kSkip (kBk (kReg (kMovC rfl (kAdd rfl rfl (by omega) (kMovC rfl (kDone ?_))))))))))))))))))))))))))))))))))) (fun g3 => (by omega))))))))))))))) (fun g2 => kGF rfl (kGF rfl (kGF rfl (kGF rfl (kGF rfl (kGF rfl (kGU rfl (kGU rfl (kGU rfl (kGU rfl (kGU rfl (kGF rfl (kGF rfl (kPickF rfl (kMovC rfl (kMovC rfl (kGF rfl (kGF rfl (kGF rfl (kGF rfl (kGF rfl (kPickF rfl (kMovC rfl (kDone (kCondF rfl (kSkip (kBk (kReg (kMovC rfl (kAdd rfl rfl (by omega) (kMovC rfl (kDone ?_))))))))))))))))))))))))))))))))))))))))))))))) (fun g1 => kGF rfl (kGF rfl (kGF rfl (kGF rfl (kGF rfl (kPickF rfl (kMovC rfl (kUn rfl rfl (kMovC rfl (kGT rfl (kMovC rfl (kGT rfl (kMovC rfl (kGT rfl (kIadR rfl rfl rfl (by omega) (kGT rfl (kLoadD rfl rfl (kGT rfl (kBin rfl rfl rfl (kGT rfl (kMovC rfl (kGP rfl (fun g6 => kGT rfl (kMovC rfl (kGT rfl (kMovC rfl (kGT rfl (kIadR rfl rfl rfl (by omega) (kGT rfl (kLoadD rfl rfl (kGT rfl (kBin rfl rfl rfl (kGT rfl (kPickT rfl (kMovC rfl (kGT rfl (kUn rfl rfl (kPickT rfl (kMovC rfl (kMovC rfl (kGN rfl (fun g7 => kGT rfl (kMovC rfl (kGT rfl (kMovC rfl (kGT rfl (kIadR rfl rfl rfl (by omega) (kGT rfl (kLoadD rfl rfl (kGT rfl (kBin rfl rfl rfl (kPickT rfl (kMovC rfl (kDone (kCondN rfl (fun g8 => kSeq (kReg (kMovC rfl (kDone (kRet (endRetA (ra := [.one (.d _)]) rfl ?_)))))) (fun g8 => kSkip (kBk (kReg (kMovC rfl (kAdd rfl rfl (by omega) (kMovC rfl (kDone ?_))))))))))))))))))))) (fun g7 => kGF rfl (kGF rfl (kGF rfl (kGF rfl (kGF rfl (kPickF rfl (kMovC rfl (kDone (kCondF rfl (kSkip (kBk (kReg (kMovC rfl (kAdd rfl rfl (by omega) (kMovC rfl (kDone ?_))))))))))))))))))))))))))))))))))) (fun g6 => kGF rfl (kGF rfl (kGF rfl (kGF rfl (kGF rfl (kGT rfl (kPickF rfl (kMovC rfl (kGT rfl (kUn rfl rfl (kPickT rfl (kMovC rfl (kMovC rfl (kGT rfl (kMovC rfl (kGT rfl (kMovC rfl (kGT rfl (kIadR rfl rfl rfl (by omega) (kGT rfl (kLoadD rfl rfl (kGT rfl (kBin rfl rfl rfl (kPickT rfl (kMovC rfl (kDone (kCondN rfl (fun g9 => kSeq (kReg (kMovC rfl (kDone (kRet (endRetA (ra := [.one (.d _)]) rfl ?_)))))) (fun g9 => kSkip (kBk (kReg (kMovC rfl (kAdd rfl rfl (by omega) (kMovC rfl (kDone ?_)))))))))))))))))))))))))))))))))))))))))))))))))))))))))))))))))))) (fun g0 => kExit (kExC (kExI (kExB (kSeq (kReg (kMovC rfl (kDone (kRet (endRetA (ra := [.one (.d _)]) rfl ?_))))))))))))))))))
  all_goals try simp only [decide_eq_true_eq, decide_eq_false_iff_not, beq_iff_eq, beq_eq_false_iff_ne] at *
  all_goals first
    | exact kInv ⟨⟨i + 1, by omega, labelOk_step (by omega) hl (by rw [okLetter_iff]; omega)⟩, by simp only; omega, .tab rfl ⟨.refl _, .refl _, trivial⟩⟩
    | rw [labelOk_no (b := b) (i := i) (by omega) (by rw [okLetter_iff]; omega)]
    | skip
  have hge : i = b.length := by omega
  subst hge
  rw [List.take_length] at hl
  rw [show labelOk b = true by simp only [labelOk]; rw [decide_eq_true (by omega), decide_eq_true (by omega), hl]; rfl]

def c_spec_NameOk : C := (.seq (.reg false (.o 0 1 (.box 1 (.t 0)) (.o 1 2 (.mov (.v (.bool false))) .done))) (.seq (.seq (.reg false (.o 0 4 (.fad (.t 1) 0) (.o 1 5 (.load none (.t 4)) (.o 2 6 (.len (.t 5)) (.o 3 7 (.bin .gtr (.t 6) (.i 6)) .done))))) (.cond (.t 7) (.seq (.reg false (.o 0 2 (.mov (.v (.bool false))) .done)) .ret) .skip)) (.seq (.seq (.reg false (.o 0 3 (.mov (.i 0)) .done)) (.block 0 (.loop (.seq (.seq (.reg false (.o 0 8 (.mov (.t 3)) (.o 1 9 (.fad (.t 1) 0) (.o 2 10 (.load none (.t 9)) (.o 3 11 (.len (.t 10)) (.o 4 12 (.bin .lss (.t 8) (.t 11)) .done)))))) (.cond (.t 12) .skip (.exit 0))) (.seq (.block 1 (.seq (.reg false (.o 0 15 (.fad (.t 1) 0) (.o 1 16 (.load none (.t 15)) (.o 2 17 (.mov (.t 3)) (.o 3 18 (.iad 1 (.t 16) (.t 17)) (.o 4 19 (.load none (.t 18)) (.o 5 20 (.call 20 22 [(.t 19)]) (.o 6 21 (.un .not (.t 20)) .done)))))))) (.cond (.t 21) (.seq (.reg false (.o 0 2 (.mov (.v (.bool false))) .done)) .ret) .skip))) (.reg false (.o 0 13 (.mov (.t 3)) (.o 1 14 (.bin .add (.t 13) (.i 1)) (.o 2 3 (.mov (.t 14)) .done))))))))) (.seq (.reg false (.o 0 2 (.mov (.v (.bool true))) .done)) .ret))))
theorem dg_spec_NameOk : Tryd.f7.body.bind (digC Tryd.prog Tryd.f7.ntmps []) = some c_spec_NameOk := by kernel_rfl
theorem rs_spec_NameOk : resSlots Tryd.prog Tryd.f7 = some [.s 2] := by kernel_rfl
theorem ok_spec_NameOk (a : List (List UInt8)) (ha : a.length ≤ 4194304) (hb : ∀ b ∈ a, b.length ≤ 4194304) :
    FnOK Tryd.prog 7 [.agg [.d (encBB a)]] (fun ra _ => ra = [.one (.d (.sc (.bool (nameOk a))))]) := by
  refine FnOK.ofK Tryd.func7 (by kernel_rfl) dg_spec_NameOk rs_spec_NameOk rfl rfl ?_
  delta c_spec_NameOk T.o X.i
  refine kSeq (kReg (kBox rfl rfl rfl rfl rfl (kMovC rfl (kDone (kSeq (kSeq (kReg (kFadP rfl rfl (kLoadP rfl rfl rfl (kLenR rfl rfl (kBin rfl rfl rfl (kDone (kCondP rfl (fun g0 => kSeq (kReg (kMovC rfl (kDone (kRet (endRetA (ra := [.one (.d _)]) rfl ?_)))))) (fun g0 => kSkip (kSeq (kSeq (kReg (kMovC rfl (kDone (kBlock ?_))))))))))))))))))))
  · rw [show nameOk a = false by simp only [nameOk]; rw [decide_eq_false (by omega)]; rfl]
  refine kLoop (α := { i : Nat // i ≤ a.length ∧ (a.take i).all labelOk = true })
    (fun y => ⟨tabSl [(1, .c (.ptr (rid 1 0) 1 0)), (3, .i y.1)], obTab 1 [(rid 1 0, ⟨1, 0, .box [.d (encBB a)]⟩)], []⟩) (fun y => a.length - y.1) ⟨0, by simp⟩
    .normA ?_
  rintro ⟨i, hi, hl⟩
  simp only
  refine kSeq (kSeq (kReg (kMovC rfl (kFadP rfl rfl (kLoadP rfl rfl rfl (kLenR rfl rfl (kBin rfl rfl rfl (kDone (kCondP rfl (fun g0 => kSkip (kSeq (kBlock (kSeq (kReg (kFadP rfl rfl (kLoadP rfl rfl rfl (kMovC rfl (kIadR rfl rfl rfl (by omega) (kLoadD rfl rfl (kCallD (ok_spec_LabelOk _ (by first | assumption | omega | solve_by_elim [List.getElem_mem])) ⟨rfl, trivial⟩ rfl rfl rfl rfl rfl (kUn rfl rfl (kDone (kCondN rfl (fun g1 => kSeq (kReg (kMovC rfl (kDone (kRet (endRetA (ra := [.one (.d _)]) rfl ?_)))))) (fun g1 => kSkip (kBk (kReg (kMovC rfl (kAdd rfl rfl (by omega) (kMovC rfl (kDone ?_))))))))))))))))))))) (fun g0 => kExit (kExC (kExI (kExB (kSeq (kReg (kMovC rfl (kDone (kRet (endRetA (ra := [.one (.d _)]) rfl ?_)))))))))))))))))))
  · rename_i h
    rw [show nameOk a = false by simp only [nameOk]; rw [all_no (i := i) (by omega) (by assumption), Bool.and_false]]
  · exact kInv ⟨⟨i + 1, by omega, all_step (by omega) hl (by assumption)⟩, by simp only; omega, .normA⟩
  · have hge : i = a.length := by omega
    subst hge
    rw [List.take_length] at hl
    rw [show nameOk a = true by simp only [nameOk]; rw [decide_eq_true (by omega), hl]; rfl]

def c_spec_NameRead : C := (.seq (.reg false (.o 0 2 (.alloc 2 [(.n 1)]) (.o 1 3 (.mov (.v (.bool false))) .done))) (.seq (.seq (.reg false (.o 0 7 (.mov (.t 0)) (.o 1 8 (.b2s (.t 7)) (.o 2 9 (.bin .eql (.t 8) (.v (.string ⟨#[46]⟩))) .done)))) (.cond (.t 9) (.seq (.reg false (.o 0 10 (.build [(.n 1)] []) (.op 1 [] none none false (.store (some 1) (.t 2) (.t 10)) (.o 2 3 (.mov (.v (.bool true))) .done)))) .ret) .skip)) (.seq (.reg false (.o 0 4 (.alloc 4 [(.n 1)]) .done)) (.seq (.reg false (.o 0 5 (.mov (.n 1)) .done)) (.seq (.seq (.reg false (.o 0 6 (.mov (.i 0)) .done)) (.block 0 (.loop (.seq (.seq (.reg false (.o 0 11 (.mov (.t 6)) (.o 1 12 (.mov (.t 0)) (.o 2 13 (.len (.t 12)) (.o 3 14 (.bin .leq (.t 11) (.t 13)) .done))))) (.cond (.t 14) .skip (.exit 0))) (.seq (.block 1 (.seq (.seq (.reg false (.o 0 17 (.mov (.t 6)) (.o 1 18 (.mov (.t 0)) (.o 2 19 (.len (.t 18)) (.o 3 20 (.bin .lss (.t 17) (.t 19)) (.o 4 21 (.mov (.t 20)) (.op 5 [] (some 22) (some (21, true)) false (.mov (.t 0)) (.op 6 [] (some 23) (some (21, true)) false (.mov (.t 6)) (.op 7 [] (some 24) (some (21, true)) false (.iad 1 (.t 22) (.t 23)) (.op 8 [] (some 25) (some (21, true)) false (.load none (.t 24)) (.op 9 [] (some 26) (some (21, true)) false (.bin .neq (.t 25) (.v (.int .u8 46))) (.o 10 27 (.pick (.t 21) (.t 26) (.v (.bool false))) .done)))))))))))) (.cond (.t 27) (.seq (.reg false (.o 0 28 (.mov (.t 5)) (.o 1 29 (.mov (.t 0)) (.o 2 30 (.mov (.t 6)) (.o 3 31 (.iad 1 (.t 29) (.t 30)) (.o 4 32 (.load none (.t 31)) (.o 5 33 (.lit 33 1 [(.v (.int .u8 0))] 1 [(0, 1, (.t 32))]) (.o 6 34 (.app 34 1 1 (.t 28) (.t 33)) (.o 7 5 (.mov (.t 34)) .done))))))))) (.exit 1)) .skip)) (.seq (.seq (.reg false (.o 0 35 (.mov (.t 6)) (.o 1 36 (.mov (.t 0)) (.o 2 37 (.len (.t 36)) (.o 3 38 (.bin .eql (.t 35) (.t 37)) (.o 4 39 (.mov (.t 38)) (.op 5 [] (some 40) (some (39, true)) false (.mov (.t 5)) (.op 6 [] (some 41) (some (39, true)) false (.len (.t 40)) (.op 7 [] (some 42) (some (39, true)) false (.bin .eql (.t 41) (.i 0)) (.o 8 43 (.pick (.t 39) (.t 42) (.v (.bool false))) (.o 9 44 (.mov (.t 43)) (.op 10 [] (some 45) (some (44, true)) false (.mov (.t 6)) (.op 11 [] (some 46) (some (44, true)) false (.bin .gtr (.t 45) (.i 0)) (.o 12 47 (.pick (.t 44) (.t 46) (.v (.bool false))) .done)))))))))))))) (.cond (.t 47) (.exit 0) .skip)) (.seq (.reg true (.op 0 [] (some 48) none true (.fad (.t 4) 0) (.op 1 [] (some 49) none true (.load none (.t 48)) (.op 2 [] (some 50) none true (.mov (.t 5)) (.o 3 51 (.call 51 86 [(.t 50)]) (.o 4 52 (.lit 52 1 [(.n 1)] 1 [(0, 1, (.t 51))]) (.op 5 [1] (some 53) none false (.app 53 1 24 (.t 49) (.t 52)) (.op 6 [] (some 54) none true (.fad (.t 4) 0) (.op 7 [1] none none false (.store none (.t 54) (.t 53)) .done))))))))) (.reg false (.o 0 5 (.mov (.n 1)) .done)))))) (.reg false (.o 0 15 (.mov (.t 6)) (.o 1 16 (.bin .add (.t 15) (.i 1)) (.o 2 6 (.mov (.t 16)) .done))))))))) (.seq (.seq (.reg false (.o 0 55 (.load (some 1) (.t 4)) (.o 1 56 (.call 56 7 [(.t 55)]) (.o 2 57 (.un .not (.t 56)) .done)))) (.cond (.t 57) (.seq (.reg false (.o 0 58 (.build [(.n 1)] []) (.op 1 [] none none false (.store (some 1) (.t 2) (.t 58)) (.o 2 3 (.mov (.v (.bool false))) .done)))) .ret) .skip)) (.seq (.reg false (.o 0 59 (.load (some 1) (.t 4)) (.op 1 [] none none false (.store (some 1) (.t 2) (.t 59)) (.o 2 3 (.mov (.v (.bool true))) .done)))) .ret)))))))
theorem dg_spec_NameRead : Tryd.f79.body.bind (digC Tryd.prog Tryd.f79.ntmps []) = some c_spec_NameRead := by kernel_rfl
theorem rs_spec_NameRead : resSlots Tryd.prog Tryd.f79 = some [.m 2 (some 1), .s 3] := by kernel_rfl
theorem ok_spec_NameRead (b : List UInt8) (hb : b.length ≤ 4194303) :
    FnOK Tryd.prog 79 [.one (.d (encB b))] (fun ra _ => ra = [.agg [.own true (encBB (readN b))], .one (.d (.sc (.bool (readOk b))))]) := by
  refine FnOK.ofK Tryd.func79 (by kernel_rfl) dg_spec_NameRead rs_spec_NameRead rfl rfl ?_
  delta c_spec_NameRead T.o X.i
  obtain ⟨rl1, rl2⟩ := readL_small hb
  refine kSeq (kReg (kAlloc rfl rfl (kMovC rfl (kDone (kSeq (kSeq (kReg (kMovC rfl (kB2s rfl rfl (kBin rfl rfl rfl (kDone (kCond rfl (fun g0 => kSeq (kReg (kBuildG rfl (kStoreP rfl rfl rfl rfl (kMovC rfl (kDone (kRet (endRetA (ra := [.agg [(.own true _)], .one (.d _)]) rfl ?_)))))))) (fun g0 => kSkip (kSeq (kReg (kAlloc rfl rfl (kDone (kSeq (kReg (kMovC rfl (kDone (kSeq (kSeq (kReg (kMovC rfl (kDone (kBlock ?_)))))))))))))))))))))))))))
  · rw [eq46] at g0
    have e : b = [46] := of_decide_eq_true g0
    subst e
    rfl
  rw [eq46] at g0
  have hne : b ≠ [46] := of_decide_eq_false g0
  have hrn : readN b = if nameOk (readL b) then readL b else [] := by unfold readN; rw [if_neg hne]
  have hro : readOk b = nameOk (readL b) := by unfold readOk; rw [decide_eq_false hne]; rfl
  rw [hrn, hro]
  refine kSub (Sub.nilBox (id := rid 4 0) (id2 := rid 5001 0) (j := 0) rfl rfl rfl (by decide) (by decide)) ?_
  refine kSub (Sub.nilArr (j := 5) (id := rid 5000 0) (sz := 1) rfl (by decide)) ?_
  refine kLoop (α := { i : Nat // i ≤ b.length + 1 }) (fun y => ⟨tabSl [(0, .dv (encB b)), (2, .c (.ptr (rid 2 0) 1 0)), (4, .c (.ptr (rid 4 0) 1 0)), (5, .c (.arr (rid 5000 0) 1)), (6, .i y.1)], obTab 1 [(rid 2 0, ⟨1, 0, .box [.nil 1]⟩), (rid 4 0, ⟨1, 0, .box [.arr (rid 5001 0) 1]⟩), (rid 5000 0, ⟨1, 0, .arr true (encB (rdW b y.1))⟩), (rid 5001 0, ⟨1, 0, .arr true (encBB (rdL b y.1))⟩)], []⟩) (fun y => b.length + 1 - y.1) ⟨0, by simp⟩ .normA ?_
  rintro ⟨i, hi⟩
  simp only
  have hmem := rdW_mem b i
  rcases Nat.lt_or_ge i b.length with hlt | hge
  · have hlens := rd_lens b i (by omega)
    by_cases hc : b[i] = 46
    · obtain ⟨s1, s2⟩ := rd_dot hlt hc
      have hcn : ((b[i]).toNat : Int) = 46 := by rw [hc]; rfl
      revert s1 s2
      generalize rdL b i = L at *
      generalize rdW b i = W at *
      intro s1 s2
      refine kSeq (kSeq (kReg (kMovC rfl (kMovC rfl (kLenR rfl rfl (kBin rfl rfl rfl (kDone (kCondP rfl (fun g0 => kSkip (kSeq (kBlock (kSeq (kSeq (kReg (kMovC rfl (kMovC rfl (kLenR rfl rfl (kBin rfl rfl rfl (kMovC rfl (kGP rfl (fun g1 => kGT rfl (kMovC rfl (kGT rfl (kMovC rfl (kGT rfl (kIadR rfl rfl rfl (by omega) (kGT rfl (kLoadD rfl rfl (kGT rfl (kBin rfl rfl rfl (kPickT rfl (kMovC rfl (kDone (kCondIN rfl (fun g2 => (by omega)) (fun g2 => kSkip (kSeq (kSeq (kReg (kMovC rfl (kMovC rfl (kLenR rfl rfl (kBin rfl rfl rfl (kMovC rfl (kGP rfl (fun g3 => (by omega)) (fun g3 => kGF rfl (kGF rfl (kGF rfl (kPickF rfl (kMovC rfl (kMovC rfl (kGF rfl (kGF rfl (kPickF rfl (kMovC rfl (kDone (kCondF rfl (kSkip (kSeq (kRegD (kFadP rfl rfl (kLoadP rfl rfl rfl (kMovC rfl (kCall1 true (ok_spec_Lower _ (by first | assumption | omega | solve_by_elim [List.getElem_mem] | (simp only [szOut] at *; omega) | exact rfl | exact leb)) ⟨rfl, trivial⟩ rfl rfl rfl (fun _ => (kLit rfl rfl rfl rfl (kRelF rfl rfl (kAppR1 rfl rfl rfl rfl rfl rfl rfl rfl (by omega) (kFadP rfl rfl (kRelF rfl rfl (kStoreP rfl rfl rfl rfl (kDone (kH (kReg (kMovC rfl (kDone (kBk (kReg (kMovC rfl (kAdd rfl rfl (by omega) (kMovC rfl (kDone ?_))))))))))))))))))))))))))))))))))))))))))))))))))))))))))))) (fun g1 => (by omega)))))))))))))) (fun g0 => (by omega))))))))))
      refine kInv ⟨⟨i + 1, by omega⟩, by simp only; omega, ?_⟩
      simp only [s1, s2]
      exact (Sub.nilArr (j := 5) (id := rid 5000 0) (sz := 1) rfl (by decide)).trans .normA
    · obtain ⟨s1, s2⟩ := rd_char hlt hc
      have hcn : ((b[i]).toNat : Int) ≠ 46 := fun h => hc (UInt8.toNat_inj.1 (by have : b[i].toNat = 46 := by omega
                                                                                 rw [this]; rfl))
      revert s1 s2
      generalize rdL b i = L at *
      generalize rdW b i = W at *
      intro s1 s2
      refine kSeq (kSeq (kReg (kMovC rfl (kMovC rfl (kLenR rfl rfl (kBin rfl rfl rfl (kDone (kCondP rfl (fun g0 => kSkip (kSeq (kBlock (kSeq (kSeq (kReg (kMovC rfl (kMovC rfl (kLenR rfl rfl (kBin rfl rfl rfl (kMovC rfl (kGP rfl (fun g1 => kGT rfl (kMovC rfl (kGT rfl (kMovC rfl (kGT rfl (kIadR rfl rfl rfl (by omega) (kGT rfl (kLoadD rfl rfl (kGT rfl (kBin rfl rfl rfl (kPickT rfl (kMovC rfl (kDone (kCondIN rfl (fun g2 => kSeq (kReg (kMovC rfl (kMovC rfl (kMovC rfl (kIadR rfl rfl rfl (by omega) (kLoadD rfl rfl (kLit rfl rfl rfl rfl (kAppR1 rfl rfl rfl rfl rfl rfl rfl rfl (by omega) (kMovC rfl (kDone (kExit (kExC (kExB (kReg (kMovC rfl (kAdd rfl rfl (by omega) (kMovC rfl (kDone ?_))))))))))))))))))) (fun g2 => (by omega)))))))))))))))) (fun g1 => (by omega)))))))))))))) (fun g0 => (by omega))))))))))
      refine kInv ⟨⟨i + 1, by omega⟩, by simp only; omega, ?_⟩
      simp only [s1, s2]
      exact .normA
  · rcases Nat.lt_or_ge b.length i with hgt | hle
    · have e : i = b.length + 1 := by omega
      subst e
      rw [rd_last.1, rd_last.2]
      cases hno : nameOk (readL b)
      · refine kSeq (kSeq (kReg (kMovC rfl (kMovC rfl (kLenR rfl rfl (kBin rfl rfl rfl (kDone (kCondP rfl (fun g0 => (by omega)) (fun g0 => kExit (kExC (kExI (kExB (kSeq (kSeq (kReg (kLoadP rfl rfl rfl (kCallD (ok_spec_NameOk _ (by first | assumption | omega | solve_by_elim [List.getElem_mem] | (simp only [szOut] at *; omega) | exact rfl | exact leb) (by first | assumption | omega | solve_by_elim [List.getElem_mem] | (simp only [szOut] at *; omega) | exact rfl | exact leb)) ⟨⟨⟨rfl, trivial⟩, leb⟩, trivial⟩ rfl rfl rfl rfl rfl (kUn rfl rfl (kDone (kCondN rfl (fun g1 => kSeq (kReg (kBuildG rfl (kStoreP rfl rfl rfl rfl (kMovC rfl (kDone (kRet (endRetA (ra := [.agg [(.own true _)], .one (.d _)]) rfl rfl)))))))) (fun g1 => (by (simp [*] at g1)))))))))))))))))))))))
      · refine kSeq (kSeq (kReg (kMovC rfl (kMovC rfl (kLenR rfl rfl (kBin rfl rfl rfl (kDone (kCondP rfl (fun g0 => (by omega)) (fun g0 => kExit (kExC (kExI (kExB (kSeq (kSeq (kReg (kLoadP rfl rfl rfl (kCallD (ok_spec_NameOk _ (by first | assumption | omega | solve_by_elim [List.getElem_mem] | (simp only [szOut] at *; omega) | exact rfl | exact leb) (by first | assumption | omega | solve_by_elim [List.getElem_mem] | (simp only [szOut] at *; omega) | exact rfl | exact leb)) ⟨⟨⟨rfl, trivial⟩, leb⟩, trivial⟩ rfl rfl rfl rfl rfl (kUn rfl rfl (kDone (kCondN rfl (fun g1 => (by (simp [*] at g1))) (fun g1 => kSkip (kSeq (kReg (kLoadP rfl rfl rfl (kStoreP rfl rfl rfl rfl (kMovC rfl (kDone (kRet (endRetA (ra := [.agg [(.own true _)], .one (.d _)]) rfl rfl)))))))))))))))))))))))))))))
    · have e : i = b.length := by omega
      subst e
      have hlens := rd_lens b b.length (Nat.le_refl _)
      have s1 := (rd_last (b := b)).1
      have s2 := (rd_last (b := b)).2
      by_cases hw : rdW b b.length = [] ∧ 0 < b.length
      · rw [rd_end, if_pos hw] at *
        rw [hw.1]
        obtain ⟨hw1, hw2⟩ := hw
        cases hno : nameOk (rdL b b.length)
        · refine kSeq (kSeq (kReg (kMovC rfl (kMovC rfl (kLenR rfl rfl (kBin rfl rfl rfl (kDone (kCondP rfl (fun g0 => kSkip (kSeq (kBlock (kSeq (kSeq (kReg (kMovC rfl (kMovC rfl (kLenR rfl rfl (kBin rfl rfl rfl (kMovC rfl (kGP rfl (fun g1 => (by omega)) (fun g1 => kGF rfl (kGF rfl (kGF rfl (kGF rfl (kGF rfl (kPickF rfl (kMovC rfl (kDone (kCondF rfl (kSkip (kSeq (kSeq (kReg (kMovC rfl (kMovC rfl (kLenR rfl rfl (kBin rfl rfl rfl (kMovC rfl (kGP rfl (fun g2 => kGT rfl (kMovC rfl (kGT rfl (kLenR rfl rfl (kGT rfl (kBin rfl rfl rfl (kPickT rfl (kMovC rfl (kMovC rfl (kGT rfl (kMovC rfl (kGT rfl (kBin rfl rfl rfl (kPickT rfl (kMovC rfl (kDone (kCondP rfl (fun g3 => kExit (kExC (kExB' rfl (kExC (kExI (kExB (kSeq (kSeq (kReg (kLoadP rfl rfl rfl (kCallD (ok_spec_NameOk _ (by first | assumption | omega | solve_by_elim [List.getElem_mem] | (simp only [szOut] at *; omega) | exact rfl | exact leb) (by first | assumption | omega | solve_by_elim [List.getElem_mem] | (simp only [szOut] at *; omega) | exact rfl | exact leb)) ⟨⟨⟨rfl, trivial⟩, leb⟩, trivial⟩ rfl rfl rfl rfl rfl (kUn rfl rfl (kDone (kCondN rfl (fun g4 => kSeq (kReg (kBuildG rfl (kStoreP rfl rfl rfl rfl (kMovC rfl (kDone (kRet (endRetA (ra := [.agg [(.own true _)], .one (.d _)]) rfl rfl)))))))) (fun g4 => (by (simp [*] at g4))))))))))))))))) (fun g3 => (by omega))))))))))))))))))) (fun g2 => (by omega))))))))))))))))))))))))))))))))) (fun g0 => (by omega))))))))))
        · refine kSeq (kSeq (kReg (kMovC rfl (kMovC rfl (kLenR rfl rfl (kBin rfl rfl rfl (kDone (kCondP rfl (fun g0 => kSkip (kSeq (kBlock (kSeq (kSeq (kReg (kMovC rfl (kMovC rfl (kLenR rfl rfl (kBin rfl rfl rfl (kMovC rfl (kGP rfl (fun g1 => (by omega)) (fun g1 => kGF rfl (kGF rfl (kGF rfl (kGF rfl (kGF rfl (kPickF rfl (kMovC rfl (kDone (kCondF rfl (kSkip (kSeq (kSeq (kReg (kMovC rfl (kMovC rfl (kLenR rfl rfl (kBin rfl rfl rfl (kMovC rfl (kGP rfl (fun g2 => kGT rfl (kMovC rfl (kGT rfl (kLenR rfl rfl (kGT rfl (kBin rfl rfl rfl (kPickT rfl (kMovC rfl (kMovC rfl (kGT rfl (kMovC rfl (kGT rfl (kBin rfl rfl rfl (kPickT rfl (kMovC rfl (kDone (kCondP rfl (fun g3 => kExit (kExC (kExB' rfl (kExC (kExI (kExB (kSeq (kSeq (kReg (kLoadP rfl rfl rfl (kCallD (ok_spec_NameOk _ (by first | assumption | omega | solve_by_elim [List.getElem_mem] | (simp only [szOut] at *; omega) | exact rfl | exact leb) (by first | assumption | omega | solve_by_elim [List.getElem_mem] | (simp only [szOut] at *; omega) | exact rfl | exact leb)) ⟨⟨⟨rfl, trivial⟩, leb⟩, trivial⟩ rfl rfl rfl rfl rfl (kUn rfl rfl (kDone (kCondN rfl (fun g4 => (by (simp [*] at g4))) (fun g4 => kSkip (kSeq (kReg (kLoadP rfl rfl rfl (kStoreP rfl rfl rfl rfl (kMovC rfl (kDone (kRet (endRetA (ra := [.agg [(.own true _)], .one (.d _)]) rfl rfl))))))))))))))))))))))) (fun g3 => (by omega))))))))))))))))))) (fun g2 => (by omega))))))))))))))))))))))))))))))))) (fun g0 => (by omega))))))))))
      · rw [rd_end, if_neg hw] at *
        have hw' : (rdW b b.length).length ≠ 0 ∨ b.length = 0 := by
          rcases Nat.eq_zero_or_pos b.length with h | h
          · exact .inr h
          · exact .inl fun h0 => hw ⟨List.eq_nil_of_length_eq_zero h0, h⟩
        revert s1 s2
        generalize rdL b b.length = L at *
        generalize rdW b b.length = W at *
        intro s1 s2
        refine kSeq (kSeq (kReg (kMovC rfl (kMovC rfl (kLenR rfl rfl (kBin rfl rfl rfl (kDone (kCondP rfl (fun g0 => kSkip (kSeq (kBlock (kSeq (kSeq (kReg (kMovC rfl (kMovC rfl (kLenR rfl rfl (kBin rfl rfl rfl (kMovC rfl (kGP rfl (fun g1 => (by omega)) (fun g1 => kGF rfl (kGF rfl (kGF rfl (kGF rfl (kGF rfl (kPickF rfl (kMovC rfl (kDone (kCondF rfl (kSkip (kSeq (kSeq (kReg (kMovC rfl (kMovC rfl (kLenR rfl rfl (kBin rfl rfl rfl (kMovC rfl (kGP rfl (fun g2 => kGT rfl (kMovC rfl (kGT rfl (kLenR rfl rfl (kGT rfl (kBin rfl rfl rfl (kPickT rfl (kMovC rfl (kMovC rfl (kGP rfl (fun g3 => kGT rfl (kMovC rfl (kGT rfl (kBin rfl rfl rfl (kPickT rfl (kMovC rfl (kDone (kCondP rfl (fun g4 => (by omega)) (fun g4 => kSkip (kSeq (kRegD (kFadP rfl rfl (kLoadP rfl rfl rfl (kMovC rfl (kCall1 true (ok_spec_Lower _ (by first | assumption | omega | solve_by_elim [List.getElem_mem] | (simp only [szOut] at *; omega) | exact rfl | exact leb)) ⟨rfl, trivial⟩ rfl rfl rfl (fun _ => (kLit rfl rfl rfl rfl (kRelF rfl rfl (kAppR1 rfl rfl rfl rfl rfl rfl rfl rfl (by omega) (kFadP rfl rfl (kRelF rfl rfl (kStoreP rfl rfl rfl rfl (kDone (kH (kReg (kMovC rfl (kDone (kBk (kReg (kMovC rfl (kAdd rfl rfl (by omega) (kMovC rfl (kDone ?_))))))))))))))))))))))))))))))))) (fun g3 => kGF rfl (kGF rfl (kPickF rfl (kMovC rfl (kDone (kCondF rfl (kSkip (kSeq (kRegD (kFadP rfl rfl (kLoadP rfl rfl rfl (kMovC rfl (kCall1 true (ok_spec_Lower _ (by first | assumption | omega | solve_by_elim [List.getElem_mem] | (simp only [szOut] at *; omega) | exact rfl | exact leb)) ⟨rfl, trivial⟩ rfl rfl rfl (fun _ => (kLit rfl rfl rfl rfl (kRelF rfl rfl (kAppR1 rfl rfl rfl rfl rfl rfl rfl rfl (by omega) (kFadP rfl rfl (kRelF rfl rfl (kStoreP rfl rfl rfl rfl (kDone (kH (kReg (kMovC rfl (kDone (kBk (kReg (kMovC rfl (kAdd rfl rfl (by omega) (kMovC rfl (kDone ?_))))))))))))))))))))))))))))))))))))))))) (fun g2 => (by omega))))))))))))))))))))))))))))))))) (fun g0 => (by omega))))))))))
        all_goals
          refine kInv ⟨⟨b.length + 1, by omega⟩, by simp only; omega, ?_⟩
          simp only [s1, s2]
          exact (Sub.nilArr (j := 5) (id := rid 5000 0) (sz := 1) rfl (by decide)).trans .normA

def c_spec_l2of : C := (.seq (.reg false (.o 0 2 (.alloc 2 [(.n 1)]) .done)) (.seq (.reg false (.o 0 6 (.mov (.t 0)) (.o 1 7 (.s2b (.t 6)) (.o 2 8 (.call 8 79 [(.t 7)]) (.o 3 5 (.mov (.t 8)) (.o 4 9 (.ext (.t 5) 0) (.o 5 10 (.ext (.t 5) 1) (.o 6 3 (.alloc 3 [(.n 1)]) (.op 7 [] none none false (.store (some 1) (.t 3) (.t 9)) (.o 8 4 (.mov (.t 10)) .done)))))))))) (.seq (.reg false (.o 0 11 (.load (some 1) (.t 3)) (.op 1 [] none none false (.store (some 1) (.t 2) (.t 11)) .done))) .ret)))
theorem dg_spec_l2of : Tryd.f64.body.bind (digC Tryd.prog Tryd.f64.ntmps []) = some c_spec_l2of := by kernel_rfl
theorem rs_spec_l2of : resSlots Tryd.prog Tryd.f64 = some [.m 2 (some 1)] := by kernel_rfl
theorem ok_spec_l2of (b : ByteArray) (hb : b.size ≤ 4194303) :
    FnOK Tryd.prog 64 [.one (.d (.sc (.string b)))] (fun ra _ => ra = [.agg [.own true (encBB (readN b.toList))]]) := by
  refine FnOK.ofK Tryd.func64 (by kernel_rfl) dg_spec_l2of rs_spec_l2of rfl rfl ?_
  delta c_spec_l2of T.o X.i
  have h : b.toList.length ≤ 4194303 := by rw [bt_len]; exact hb
  refine kSeq (kReg (kAlloc rfl rfl (kDone (kSeq (kReg (kMovC rfl (kS2b rfl (by omega) (kCall1 true (ok_spec_NameRead _ (by first | assumption | omega | solve_by_elim [List.getElem_mem] | (simp only [szOut] at *; omega) | exact rfl | exact leb)) ⟨rfl, trivial⟩ rfl rfl rfl (fun _ => (kMovT rfl (kExtC rfl rfl (kExtC rfl rfl (kAlloc rfl rfl (kStoreP rfl rfl rfl rfl (kMovC rfl (kDone (kSeq (kReg (kLoadP rfl rfl rfl (kStoreP rfl rfl rfl rfl (kDone (kRet (endRetA (ra := [.agg [(.own true _)]]) rfl rfl)))))))))))))))))))))))

def c_spec_l1Byte : C := (.seq (.reg false (.o 0 2 (.mov (.i 0)) .done)) (.seq (.reg false (.o 0 4 (.mov (.t 0)) (.o 1 5 (.mov (.t 0)) (.o 2 6 (.nck (.t 5)) (.o 3 7 (.fad (.t 6) 2) (.o 4 8 (.load none (.t 7)) (.o 5 9 (.bin .mul (.t 8) (.i 6364136223846793005)) (.o 6 10 (.bin .add (.t 9) (.i 1442695040888963407)) (.o 7 11 (.nck (.t 4)) (.o 8 12 (.fad (.t 11) 2) (.op 9 [] none none false (.store none (.t 12) (.t 10)) .done))))))))))) (.seq (.reg true (.op 0 [] (some 13) none true (.mov (.t 0)) (.op 1 [] (some 14) none true (.nck (.t 13)) (.op 2 [] (some 15) none true (.fad (.t 14) 2) (.op 3 [] (some 16) none true (.load none (.t 15)) (.op 4 [] (some 17) none true (.bin .shr (.t 16) (.v (.int .u64 33))) (.op 5 [] (some 18) none true (.mov (.t 0)) (.op 6 [] (some 19) none true (.nck (.t 18)) (.op 7 [] (some 20) none true (.fad (.t 19) 2) (.op 8 [] (some 21) none true (.load none (.t 20)) (.op 9 [] (some 22) none true (.bin .shr (.t 21) (.v (.int .u64 45))) (.op 10 [] (some 23) none true (.bin .xor (.t 17) (.t 22)) (.op 11 [] (some 24) none true (.bin .and (.t 23) (.i 255)) (.op 12 [] (some 3) none true (.mov (.t 24)) .done)))))))))))))) (.seq (.seq (.reg true (.op 0 [] (some 25) none true (.mov (.t 0)) (.op 1 [] (some 26) none true (.nck (.t 25)) (.op 2 [] (some 27) none true (.fad (.t 26) 1) (.op 3 [] (some 28) none true (.load none (.t 27)) (.op 4 [] (some 29) none true (.mov (.t 0)) (.op 5 [] (some 30) none true (.nck (.t 29)) (.op 6 [] (some 31) none true (.fad (.t 30) 0) (.op 7 [] (some 32) none true (.load none (.t 31)) (.op 8 [] (some 33) none true (.len (.t 32)) (.op 9 [] (some 34) none true (.bin .lss (.t 28) (.t 33)) .done))))))))))) (.cond (.t 34) (.seq (.reg true (.op 0 [] (some 35) none true (.mov (.t 3)) (.op 1 [] (some 36) none true (.mov (.t 0)) (.op 2 [] (some 37) none true (.nck (.t 36)) (.op 3 [] (some 38) none true (.fad (.t 37) 0) (.op 4 [] (some 39) none true (.load none (.t 38)) (.op 5 [] (some 40) none true (.mov (.t 0)) (.op 6 [] (some 41) none true (.nck (.t 40)) (.op 7 [] (some 42) none true (.fad (.t 41) 1) (.op 8 [] (some 43) none true (.load none (.t 42)) (.op 9 [] (some 44) none true (.iad 1 (.t 39) (.t 43)) (.op 10 [] (some 45) none true (.load none (.t 44)) (.op 11 [] (some 46) none true (.conv .i64 (.t 45)) (.op 12 [] (some 47) none true (.bin .add (.t 35) (.t 46)) (.op 13 [] (some 48) none true (.bin .and (.t 47) (.i 255)) (.op 14 [] (some 3) none true (.mov (.t 48)) .done)))))))))))))))) (.reg false (.o 0 49 (.mov (.t 0)) (.o 1 50 (.mov (.t 0)) (.o 2 51 (.nck (.t 50)) (.o 3 52 (.fad (.t 51) 1) (.o 4 53 (.load none (.t 52)) (.o 5 54 (.bin .add (.t 53) (.i 1)) (.o 6 55 (.nck (.t 49)) (.o 7 56 (.fad (.t 55) 1) (.op 8 [] none none false (.store none (.t 56) (.t 54)) .done))))))))))) .skip)) (.seq (.reg false (.o 0 57 (.mov (.t 3)) (.o 1 2 (.mov (.t 57)) .done))) .ret)))))
theorem dg_spec_l1Byte : Tryd.f65.body.bind (digC Tryd.prog Tryd.f65.ntmps []) = some c_spec_l1Byte := by kernel_rfl
theorem rs_spec_l1Byte : resSlots Tryd.prog Tryd.f65 = some [.s 2] := by kernel_rfl
theorem ok_spec_l1Byte (c : Cu) :
    FnOK Tryd.prog 65 [.one (.box c.cells)] (fun ra os => ∃ x : Int × Cu, (0 ≤ x.1 ∧ x.1 ≤ 255) ∧ ra = [.one (.d (.sc (.int .i64 x.1)))] ∧ os.b 0 = x.2.cells) := by
  refine FnOK.ofK Tryd.func65 (by kernel_rfl) dg_spec_l1Byte rs_spec_l1Byte rfl rfl ?_
  delta c_spec_l1Byte T.o X.i
  have c0 := c.i0
  have c1 := c.i1
  have c2 := c.b
  refine kSeq (kReg (kMovC rfl (kDone (kSeq (kReg (kMovC rfl (kMovC rfl (kNck rfl rfl (kFadP rfl rfl (kLoadP rfl rfl rfl (kBin rfl rfl rfl (kBin rfl rfl rfl (kNck rfl rfl (kFadP rfl rfl (kStoreP rfl rfl rfl rfl (kDone (kSeq (kRegD (kMovC rfl (kNck rfl rfl (kFadP rfl rfl (kLoadP rfl rfl rfl (kShr (m := 33) rfl rfl rfl (kMovC rfl (kNck rfl rfl (kFadP rfl rfl (kLoadP rfl rfl rfl (kShr (m := 45) rfl rfl rfl (kBin rfl rfl rfl (kBin rfl rfl rfl (kMovC rfl (kDone (kH (kSeq (kSeq (kRegD (kMovC rfl (kNck rfl rfl (kFadP rfl rfl (kLoadP rfl rfl rfl (kMovC rfl (kNck rfl rfl (kFadP rfl rfl (kLoadP rfl rfl rfl (kLenR rfl rfl (kBin rfl rfl rfl (kDone (kH (kCondP rfl (fun g0 => kSeq (kRegD (kMovC rfl (kMovC rfl (kNck rfl rfl (kFadP rfl rfl (kLoadP rfl rfl rfl (kMovC rfl (kNck rfl rfl (kFadP rfl rfl (kLoadP rfl rfl rfl (kIadT rfl rfl (by omega) (kLoadD rfl rfl (kConv rfl (kBin rfl rfl rfl (kBin rfl rfl rfl (kMovC rfl (kDone (kH (kReg (kMovC rfl (kMovC rfl (kNck rfl rfl (kFadP rfl rfl (kLoadP rfl rfl rfl (kAdd rfl rfl (by omega) (kNck rfl rfl (kFadP rfl rfl (kStoreP rfl rfl rfl rfl (kDone (kSeq (kReg (kMovC rfl (kMovC rfl (kDone (kRet (endRetA (ra := [.one (.d _)]) rfl ?_))))))))))))))))))))))))))))))))))))) (fun g0 => kSkip (kSeq (kReg (kMovC rfl (kMovC rfl (kDone (kRet (endRetA (ra := [.one (.d _)]) rfl ?_)))))))))))))))))))))))))))))))))))))))))))))))))))))))))
  · refine ⟨(IntKind.i64.wrap ((_ &&& BitVec.ofInt 64 255).toNat : Int), ⟨c.code, c.i + 1, IntKind.i64.wrap _, by omega, by omega, c.b⟩), and255 _, rfl, rfl⟩
  · refine ⟨(IntKind.i64.wrap ((_ &&& BitVec.ofInt 64 255).toNat : Int), ⟨c.code, c.i, IntKind.i64.wrap _, c.i0, c.i1, c.b⟩), and255 _, rfl, rfl⟩

def c_spec_l1Below : C := (.seq (.reg false (.o 0 4 (.mov (.i 0)) .done)) (.seq (.seq (.reg false (.o 0 9 (.mov (.t 1)) (.o 1 10 (.bin .leq (.t 9) (.i 0)) .done))) (.cond (.t 10) (.seq (.reg false (.o 0 4 (.mov (.i 0)) .done)) .ret) .skip)) (.seq (.seq (.reg false (.o 0 11 (.mov (.t 1)) (.o 1 12 (.bin .leq (.t 11) (.i 256)) .done))) (.cond (.t 12) (.seq (.reg false (.o 0 13 (.mov (.t 0)) (.o 1 14 (.call 14 65 [(.t 13)]) (.o 2 15 (.mov (.t 1)) (.o 3 16 (.bin .rem (.t 14) (.t 15)) (.o 4 4 (.mov (.t 16)) .done)))))) .ret) .skip)) (.seq (.reg false (.o 0 17 (.mov (.t 0)) (.o 1 18 (.call 18 65 [(.t 17)]) (.o 2 5 (.mov (.t 18)) .done)))) (.seq (.reg false (.o 0 19 (.mov (.t 0)) (.o 1 20 (.call 20 65 [(.t 19)]) (.o 2 6 (.mov (.t 20)) .done)))) (.seq (.reg false (.o 0 21 (.mov (.t 0)) (.o 1 22 (.call 22 65 [(.t 21)]) (.o 2 7 (.mov (.t 22)) .done)))) (.seq (.reg false (.o 0 23 (.mov (.t 0)) (.o 1 24 (.call 24 65 [(.t 23)]) (.o 2 8 (.mov (.t 24)) .done)))) (.seq (.reg false (.o 0 25 (.mov (.t 5)) (.o 1 26 (.bin .mul (.t 25) (.i 16777216)) (.o 2 27 (.mov (.t 6)) (.o 3 28 (.bin .mul (.t 27) (.i 65536)) (.o 4 29 (.bin .add (.t 26) (.t 28)) (.o 5 30 (.mov (.t 7)) (.o 6 31 (.bin .mul (.t 30) (.i 256)) (.o 7 32 (.bin .add (.t 29) (.t 31)) (.o 8 33 (.mov (.t 8)) (.o 9 34 (.bin .add (.t 32) (.t 33)) (.o 10 35 (.mov (.t 1)) (.o 11 36 (.bin .rem (.t 34) (.t 35)) (.o 12 4 (.mov (.t 36)) .done)))))))))))))) .ret))))))))
theorem dg_spec_l1Below : Tryd.f41.body.bind (digC Tryd.prog Tryd.f41.ntmps []) = some c_spec_l1Below := by kernel_rfl
theorem rs_spec_l1Below : resSlots Tryd.prog Tryd.f41 = some [.s 4] := by kernel_rfl
theorem ok_spec_l1Below (c : Cu) (n : Int) :
    FnOK Tryd.prog 41 [.one (.box c.cells), .one (.d (.sc (.int .i64 n)))] (fun ra os => ∃ x : Int × Cu, (0 ≤ x.1 ∧ (x.1 < n ∨ x.1 = 0)) ∧ ra = [.one (.d (.sc (.int .i64 x.1)))] ∧ os.b 0 = x.2.cells) := by
  refine FnOK.ofK Tryd.func41 (by kernel_rfl) dg_spec_l1Below rs_spec_l1Below rfl rfl ?_
  delta c_spec_l1Below T.o X.i
  refine kSeq (kReg (kMovC rfl (kDone (kSeq (kSeq (kReg (kMovC rfl (kBin rfl rfl rfl (kDone (kCondP rfl (fun g0 => kSeq (kReg (kMovC rfl (kDone (kRet (endRetA (ra := [.one (.d _)]) rfl ?_)))))) (fun g0 => kSkip (kSeq (kSeq (kReg (kMovC rfl (kBin rfl rfl rfl (kDone (kCondP rfl (fun g1 => kSeq (kReg (kMovC rfl (kCallE (ok_spec_l1Byte _) ⟨⟨rfl, _, rfl, rfl⟩, trivial⟩ rfl rfl rfl (fun _ => rfl) (fun x2 hx2 => (kMovC rfl (kRem rfl rfl (by omega) (kMovC rfl (kDone (kRet (endRetA (ra := [.one (.d _)]) rfl ?_))))))))))) (fun g1 => kSkip (kSeq (kReg (kMovC rfl (kCallE (ok_spec_l1Byte _) ⟨⟨rfl, _, rfl, rfl⟩, trivial⟩ rfl rfl rfl (fun _ => rfl) (fun x3 hx3 => (kMovC rfl (kDone (kSeq (kReg (kMovC rfl (kCallE (ok_spec_l1Byte _) ⟨⟨rfl, _, rfl, rfl⟩, trivial⟩ rfl rfl rfl (fun _ => rfl) (fun x4 hx4 => (kMovC rfl (kDone (kSeq (kReg (kMovC rfl (kCallE (ok_spec_l1Byte _) ⟨⟨rfl, _, rfl, rfl⟩, trivial⟩ rfl rfl rfl (fun _ => rfl) (fun x5 hx5 => (kMovC rfl (kDone (kSeq (kReg (kMovC rfl (kCallE (ok_spec_l1Byte _) ⟨⟨rfl, _, rfl, rfl⟩, trivial⟩ rfl rfl rfl (fun _ => rfl) (fun x6 hx6 => (kMovC rfl (kDone (kSeq (kReg (kMovC rfl (kMul rfl rfl (by omega) (kMovC rfl (kMul rfl rfl (by omega) (kAdd rfl rfl (by omega) (kMovC rfl (kMul rfl rfl (by omega) (kAdd rfl rfl (by omega) (kMovC rfl (kAdd rfl rfl (by omega) (kMovC rfl (kRem rfl rfl (by omega) (kMovC rfl (kDone (kRet (endRetA (ra := [.one (.d _)]) rfl ?_)))))))))))))))))))))))))))))))))))))))))))))))))))))))))))))))))
  · exact ⟨(0, c), ⟨Int.le_refl _, .inr rfl⟩, rfl, rfl⟩
  · have := tmod_in (a := x2.1) (n := n) hx2.1 (by omega)
    exact ⟨(x2.1.tmod n, x2.2), ⟨this.1, .inl this.2⟩, rfl, rfl⟩
  · have := tmod_in (a := x3.1 * 16777216 + x4.1 * 65536 + x5.1 * 256 + x6.1) (n := n) (by omega) (by omega)
    exact ⟨(_, x6.2), ⟨this.1, .inl this.2⟩, rfl, rfl⟩

def c_spec_l2draw : C := (.seq (.reg false (.o 0 2 (.alloc 2 [(.n 1)]) .done)) (.seq (.reg false (.o 0 3 (.lit 3 1 [(.v (.string ⟨#[]⟩))] 12 [(0, 1, (.v (.string ⟨#[46]⟩))), (1, 1, (.v (.string ⟨#[104, 111, 109, 101, 46]⟩))), (2, 1, (.v (.string ⟨#[112, 99, 46, 104, 111, 109, 101, 46]⟩))), (3, 1, (.v (.string ⟨#[116, 118, 46, 104, 111, 109, 101, 46]⟩))), (4, 1, (.v (.string ⟨#[97, 46, 112, 99, 46, 104, 111, 109, 101, 46]⟩))), (5, 1, (.v (.string ⟨#[99, 111, 109, 46]⟩))), (6, 1, (.v (.string ⟨#[120, 46, 99, 111, 109, 46]⟩))), (7, 1, (.v (.string ⟨#[119, 119, 119, 46, 120, 46, 99, 111, 109, 46]⟩))), (8, 1, (.v (.string ⟨#[110, 115, 46, 99, 111, 109, 46]⟩))), (9, 1, (.v (.string ⟨#[51, 46, 48, 46, 48, 46, 49, 48, 46, 105, 110, 45, 97, 100, 100, 114, 46, 97, 114, 112, 97, 46]⟩))), (10, 1, (.v (.string ⟨#[115, 117, 98, 46, 104, 111, 109, 101, 46]⟩))), (11, 1, (.v (.string ⟨#[121, 46, 115, 117, 98, 46, 104, 111, 109, 101, 46]⟩)))]) (.o 1 4 (.mov (.t 0)) (.o 2 5 (.call 5 41 [(.t 4), (.i 12)]) (.o 3 6 (.iad 1 (.t 3) (.t 5)) (.o 4 7 (.load none (.t 6)) (.o 5 8 (.call 8 64 [(.t 7)]) (.op 6 [] none none false (.store (some 1) (.t 2) (.t 8)) .done)))))))) .ret))
theorem dg_spec_l2draw : Tryd.f39.body.bind (digC Tryd.prog Tryd.f39.ntmps []) = some c_spec_l2draw := by kernel_rfl
theorem rs_spec_l2draw : resSlots Tryd.prog Tryd.f39 = some [.m 2 (some 1)] := by kernel_rfl
theorem ok_spec_l2draw (c : Cu) :
    FnOK Tryd.prog 39 [.one (.box c.cells)] (fun ra os => ∃ x : List (List UInt8) × Cu, (nameOk x.1 = true) ∧ ra = [.agg [.own true (encBB x.1)]] ∧ os.b 0 = x.2.cells) := by
  refine FnOK.ofK Tryd.func39 (by kernel_rfl) dg_spec_l2draw rs_spec_l2draw rfl rfl ?_
  delta c_spec_l2draw T.o X.i
  refine kSeq (kReg (kAlloc rfl rfl (kDone (kSeq (kReg (kLitG rfl rfl rfl rfl (kMovC rfl (kCallE (ok_spec_l1Below _ _) ⟨⟨rfl, _, rfl, rfl⟩, rfl, trivial⟩ rfl rfl rfl (fun _ => rfl) (fun x0 hx0 => (kIadStr rfl rfl rfl rfl (by simp only [List.length_cons, List.length_nil]; omega) (kLoadStr rfl rfl rfl (by simp only [List.length_cons, List.length_nil]; omega) rfl (fun b1 hb1 => (kCall1 true (ok_spec_l2of _ (by first | assumption | omega | solve_by_elim [List.getElem_mem] | (simp only [szOut] at *; omega) | exact rfl | exact leb)) ⟨rfl, trivial⟩ rfl rfl rfl (fun _ => (kStoreP rfl rfl rfl rfl (kDone (kRet (endRetA (ra := [.agg [(.own true _)]]) rfl ?_))))))))))))))))))
  exact ⟨(readN b1.toList, x0.2), readN_ok _, rfl, rfl⟩

def c_spec_l1PickInt : C := (.seq (.reg false (.o 0 4 (.mov (.i 0)) .done)) (.seq (.reg false (.o 0 5 (.mov (.t 1)) (.o 1 6 (.mov (.t 0)) (.o 2 7 (.mov (.t 1)) (.o 3 8 (.len (.t 7)) (.o 4 9 (.call 9 41 [(.t 6), (.t 8)]) (.o 5 10 (.iad 1 (.t 5) (.t 9)) (.o 6 11 (.load none (.t 10)) (.o 7 4 (.mov (.t 11)) .done))))))))) .ret))
theorem dg_spec_l1PickInt : Tryd.f74.body.bind (digC Tryd.prog Tryd.f74.ntmps []) = some c_spec_l1PickInt := by kernel_rfl
theorem rs_spec_l1PickInt : resSlots Tryd.prog Tryd.f74 = some [.s 4] := by kernel_rfl
theorem ok_spec_l1PickInt (c : Cu) (xs : List (List DV)) {l : List Int} (hx : intsOf xs = some l) (h0 : 0 < l.length) (h1 : l.length ≤ 1000000) :
    FnOK Tryd.prog 74 [.one (.box c.cells), .one (.d (.sl 1 xs))] (fun ra os => ∃ x : Int × Cu, (x.1 ∈ l) ∧ ra = [.one (.d (.sc (.int .i64 x.1)))] ∧ os.b 0 = x.2.cells) := by
  rw [intsOf_eq hx]
  refine FnOK.ofK Tryd.func74 (by kernel_rfl) dg_spec_l1PickInt rs_spec_l1PickInt rfl rfl ?_
  delta c_spec_l1PickInt T.o X.i
  refine kSeq (kReg (kMovC rfl (kDone (kSeq (kReg (kMovC rfl (kMovC rfl (kMovC rfl (kLenR rfl rfl (kCallE (ok_spec_l1Below _ _) ⟨⟨rfl, _, rfl, rfl⟩, rfl, trivial⟩ rfl rfl rfl (fun _ => rfl) (fun x0 hx0 => (kIadT rfl rfl (by omega) (kLoadD rfl rfl (kMovC rfl (kDone (kRet (endRetA (ra := [.one (.d _)]) rfl ?_)))))))))))))))))
  exact ⟨(_, x0.2), List.getElem_mem _, rfl, rfl⟩

def c_spec_l3named : C := (.seq (.reg false (.o 0 2 (.mov (.v (.bool false))) .done)) (.seq (.reg false (.o 0 3 (.mov (.t 0)) (.o 1 4 (.bin .eql (.t 3) (.i 2)) (.o 2 5 (.mov (.t 4)) (.op 3 [] (some 6) (some (5, false)) false (.mov (.t 0)) (.op 4 [] (some 7) (some (5, false)) false (.bin .eql (.t 6) (.i 5)) (.o 5 8 (.pick (.t 5) (.v (.bool true)) (.t 7)) (.o 6 9 (.mov (.t 8)) (.op 7 [] (some 10) (some (9, false)) false (.mov (.t 0)) (.op 8 [] (some 11) (some (9, false)) false (.bin .eql (.t 10) (.i 6)) (.o 9 12 (.pick (.t 9) (.v (.bool true)) (.t 11)) (.o 10 13 (.mov (.t 12)) (.op 11 [] (some 14) (some (13, false)) false (.mov (.t 0)) (.op 12 [] (some 15) (some (13, false)) false (.bin .eql (.t 14) (.i 12)) (.o 13 16 (.pick (.t 13) (.v (.bool true)) (.t 15)) (.o 14 2 (.mov (.t 16)) .done)))))))))))))))) .ret))
theorem dg_spec_l3named : Tryd.f62.body.bind (digC Tryd.prog Tryd.f62.ntmps []) = some c_spec_l3named := by kernel_rfl
theorem rs_spec_l3named : resSlots Tryd.prog Tryd.f62 = some [.s 2] := by kernel_rfl
theorem ok_spec_l3named (n : Int) : FnOK Tryd.prog 62 [.one (.d (.sc (.int .i64 n)))] (fun ra _ => ra = [.one (.d (.sc (.bool (hasTo n))))]) := by
  refine FnOK.ofK Tryd.func62 (by kernel_rfl) dg_spec_l3named rs_spec_l3named rfl rfl ?_
  delta c_spec_l3named T.o X.i
  refine kSeq (kReg (kMovC rfl (kDone (kSeq (kReg (kMovC rfl (kBin rfl rfl rfl (kMovC rfl (kGP rfl (fun g0 => kGF rfl (kGF rfl (kPickT rfl (kMovC rfl (kMovC rfl (kGF rfl (kGF rfl (kPickT rfl (kMovC rfl (kMovC rfl (kGF rfl (kGF rfl (kPickT rfl (kMovC rfl (kMovC rfl (kDone (kRet (endRetA (ra := [.one (.d _)]) rfl ?_)))))))))))))))))) (fun g0 => kGT rfl (kMovC rfl (kGT rfl (kBin rfl rfl rfl (kPickF rfl (kMovC rfl (kMovC rfl (kGP rfl (fun g1 => kGF rfl (kGF rfl (kPickT rfl (kMovC rfl (kMovC rfl (kGF rfl (kGF rfl (kPickT rfl (kMovC rfl (kMovC rfl (kDone (kRet (endRetA (ra := [.one (.d _)]) rfl ?_))))))))))))) (fun g1 => kGT rfl (kMovC rfl (kGT rfl (kBin rfl rfl rfl (kPickF rfl (kMovC rfl (kMovC rfl (kGP rfl (fun g2 => kGF rfl (kGF rfl (kPickT rfl (kMovC rfl (kMovC rfl (kDone (kRet (endRetA (ra := [.one (.d _)]) rfl ?_)))))))) (fun g2 => kGT rfl (kMovC rfl (kGT rfl (kBin rfl rfl rfl (kPickF rfl (kMovC rfl (kMovC rfl (kDone (kRet (endRetA (ra := [.one (.d _)]) rfl ?_)))))))))))))))))))))))))))))))))))
  all_goals simp_all [hasTo]

def c_spec_l1some : C := (.seq (.reg false (.o 0 4 (.mov (.n 1)) .done)) (.seq (.reg false (.o 0 5 (.mov (.n 1)) .done)) (.seq (.reg false (.o 0 8 (.mov (.t 0)) (.o 1 9 (.mov (.t 1)) (.o 2 10 (.call 10 41 [(.t 8), (.t 9)]) (.o 3 6 (.mov (.t 10)) .done))))) (.seq (.seq (.reg false (.o 0 7 (.mov (.i 0)) .done)) (.block 0 (.loop (.seq (.seq (.reg false (.o 0 11 (.mov (.t 7)) (.o 1 12 (.mov (.t 6)) (.o 2 13 (.bin .lss (.t 11) (.t 12)) .done)))) (.cond (.t 13) .skip (.exit 0))) (.seq (.block 1 (.reg false (.o 0 16 (.mov (.t 5)) (.o 1 17 (.mov (.t 0)) (.o 2 18 (.call 18 65 [(.t 17)]) (.o 3 19 (.conv .u8 (.t 18)) (.o 4 20 (.lit 20 1 [(.v (.int .u8 0))] 1 [(0, 1, (.t 19))]) (.o 5 21 (.app 21 1 1 (.t 16) (.t 20)) (.o 6 5 (.mov (.t 21)) .done))))))))) (.reg false (.o 0 14 (.mov (.t 7)) (.o 1 15 (.bin .add (.t 14) (.i 1)) (.o 2 7 (.mov (.t 15)) .done))))))))) (.seq (.reg false (.o 0 22 (.mov (.t 5)) (.o 1 4 (.mov (.t 22)) .done))) .ret)))))
theorem dg_spec_l1some : Tryd.f84.body.bind (digC Tryd.prog Tryd.f84.ntmps []) = some c_spec_l1some := by kernel_rfl
theorem rs_spec_l1some : resSlots Tryd.prog Tryd.f84 = some [.s 4] := by kernel_rfl
theorem ok_spec_l1some (c : Cu) (n : Int) (hn : n ≤ 4194304) :
    FnOK Tryd.prog 84 [.one (.box c.cells), .one (.d (.sc (.int .i64 n)))] (fun ra os => ∃ x : List UInt8 × Cu, ((x.1.length : Int) < n ∨ x.1 = []) ∧ ra = [.one (.own true (encB x.1))] ∧ os.b 0 = x.2.cells) := by
  refine FnOK.ofK Tryd.func84 (by kernel_rfl) dg_spec_l1some rs_spec_l1some rfl rfl ?_
  delta c_spec_l1some T.o X.i
  refine kSeq (kReg (kMovC rfl (kDone (kSeq (kReg (kMovC rfl (kDone (kSeq (kReg (kMovC rfl (kMovC rfl (kCallE (ok_spec_l1Below _ _) ⟨⟨rfl, _, rfl, rfl⟩, rfl, trivial⟩ rfl rfl rfl (fun _ => rfl) (fun x0 hx0 => (kMovC rfl (kDone (kSeq (kSeq (kReg (kMovC rfl (kDone (kBlock ?_)))))))))))))))))))))
  refine kSub (Sub.nilArr (j := 5) (id := rid 5000 0) (sz := 1) rfl (by decide)) ?_
  refine kLoop (α := { l : List UInt8 // (l.length : Int) ≤ x0.1 } × Cu) (fun y => ⟨tabSl [(0, .c (.ptr 0 0 0)), (5, .c (.arr (rid 5000 0) 1)), (6, .i x0.1), (7, .i y.1.1.length)], obTab 1 [(0, ⟨0, 0, .box (y.2.cells.map .d)⟩), (rid 5000 0, ⟨1, 0, .arr true (encB y.1.1)⟩)], []⟩) (fun y => x0.1.toNat - y.1.1.length) (⟨[], by simp; omega⟩, x0.2) .normA ?_
  rintro ⟨⟨l, hl⟩, c'⟩
  simp only
  rcases Int.lt_or_le (l.length : Int) x0.1 with hlt | hge
  · refine kSeq (kSeq (kReg (kMovC rfl (kMovC rfl (kBin rfl rfl rfl (kDone (kCondP rfl (fun g0 => kSkip (kSeq (kBlock (kReg (kMovC rfl (kMovC rfl (kCallE (ok_spec_l1Byte _) ⟨⟨rfl, _, rfl, rfl⟩, trivial⟩ rfl rfl rfl (fun _ => rfl) (fun x1 hx1 => (kConvU8 rfl (kLit rfl rfl rfl rfl (kAppR1 rfl rfl rfl rfl rfl rfl rfl rfl (by omega) (kMovC rfl (kDone (kBk (kReg (kMovC rfl (kAdd rfl rfl (by omega) (kMovC rfl (kDone ?_))))))))))))))))))) (fun g0 => (by omega)))))))))
    refine kInv ⟨(⟨l ++ [u8 x1.1], by simp; omega⟩, x1.2), by simp; omega, .norm ?_ ?_⟩
    · refine ⟨⟨_, rfl, rfl, rfl, rfl⟩, ⟨_, rfl, rfl, rfl, rfl⟩, ⟨_, rfl, .inl rfl⟩, ⟨_, rfl, .inl ?_⟩, trivial⟩
      simp
    · repeat' first | exact trivial | exact rfl | exact .inl rfl | refine ⟨_, rfl, ?_⟩ | refine ⟨?_, ?_⟩ | fail
  · refine kSeq (kSeq (kReg (kMovC rfl (kMovC rfl (kBin rfl rfl rfl (kDone (kCondP rfl (fun g0 => (by omega)) (fun g0 => kExit (kExC (kExI (kExB (kSeq (kReg (kMovC rfl (kMovC rfl (kDone (kRet (endRetA (ra := [.one (.own true _)]) rfl ?_))))))))))))))))))
    exact ⟨(l, c'), by rcases hx0.2 with h | h; exact .inl (by simp only; omega); exact .inr (show l = [] from List.eq_nil_of_length_eq_zero (by omega)), rfl, rfl⟩

def c_spec_l3draw : C := (.seq (.reg false (.o 0 2 (.alloc 2 [(.n 1), (.i 0), (.i 0), (.i 0), (.n 1), (.n 1), (.n 1)]) .done)) (.seq (.reg false (.o 0 4 (.mov (.t 0)) (.o 1 5 (.call 5 39 [(.t 4)]) (.o 2 6 (.mov (.t 0)) (.o 3 7 (.lit 7 1 [(.i 0)] 8 [(0, 1, (.i 1)), (1, 1, (.i 1)), (2, 1, (.i 2)), (3, 1, (.i 5)), (4, 1, (.i 6)), (5, 1, (.i 12)), (6, 1, (.i 16)), (7, 1, (.i 49))]) (.o 4 8 (.call 8 74 [(.t 6), (.t 7)]) (.o 5 9 (.mov (.t 0)) (.o 6 10 (.lit 10 1 [(.i 0)] 5 [(0, 1, (.i 0)), (1, 1, (.i 5)), (2, 1, (.i 60)), (3, 1, (.i 300)), (4, 1, (.i 100000))]) (.o 7 11 (.call 11 74 [(.t 9), (.t 10)]) (.o 8 12 (.build [(.n 1), (.i 0), (.i 0), (.i 0), (.n 1), (.n 1), (.n 1)] [(0, 1, (.t 5)), (1, 1, (.t 8)), (2, 1, (.t 11))]) (.o 9 3 (.alloc 3 [(.n 1), (.i 0), (.i 0), (.i 0), (.n 1), (.n 1), (.n 1)]) (.op 10 [] none none false (.store (some 7) (.t 3) (.t 12)) .done)))))))))))) (.seq (.block 0 (.seq (.reg false (.o 0 17 (.fad (.t 3) 1) (.o 1 18 (.load none (.t 17)) (.o 2 19 (.bin .eql (.t 18) (.i 1)) (.o 3 16 (.mov (.t 19)) .done))))) (.cond (.t 16) (.reg false (.o 0 20 (.mov (.t 0)) (.o 1 21 (.lit 21 1 [(.i 0)] 4 [(0, 1, (.i 1)), (1, 1, (.i 167772163)), (2, 1, (.i 167772164)), (3, 1, (.i 4294967295))]) (.o 2 22 (.call 22 74 [(.t 20), (.t 21)]) (.o 3 23 (.fad (.t 3) 3) (.op 4 [] none none false (.store none (.t 23) (.t 22)) .done)))))) (.seq (.reg false (.o 0 25 (.fad (.t 3) 1) (.o 1 26 (.load none (.t 25)) (.o 2 27 (.call 27 62 [(.t 26)]) (.o 3 24 (.mov (.t 27)) .done))))) (.cond (.t 24) (.seq (.reg false (.o 0 28 (.mov (.t 0)) (.o 1 29 (.call 29 39 [(.t 28)]) (.o 2 30 (.fad (.t 3) 4) (.op 3 [] none none false (.store (some 1) (.t 30) (.t 29)) .done))))) (.seq (.reg false (.o 0 31 (.fad (.t 3) 1) (.o 1 32 (.load none (.t 31)) (.o 2 33 (.bin .eql (.t 32) (.i 6)) .done)))) (.cond (.t 33) (.reg false (.o 0 34 (.mov (.t 0)) (.o 1 35 (.call 35 41 [(.t 34), (.i 9)]) (.o 2 36 (.mov (.t 0)) (.o 3 37 (.lit 37 1 [(.i 0)] 3 [(0, 1, (.i 0)), (1, 1, (.i 30)), (2, 1, (.i 100000))]) (.o 4 38 (.call 38 74 [(.t 36), (.t 37)]) (.o 5 39 (.lit 39 1 [(.i 0)] 2 [(0, 1, (.t 35)), (1, 1, (.t 38))]) (.o 6 40 (.fad (.t 3) 6) (.op 7 [] none none false (.store none (.t 40) (.t 39)) .done))))))))) .skip))) (.reg false (.o 0 13 (.mov (.t 0)) (.o 1 14 (.call 14 84 [(.t 13), (.i 5)]) (.o 2 15 (.fad (.t 3) 5) (.op 3 [] none none false (.store none (.t 15) (.t 14)) .done)))))))))) (.seq (.reg false (.o 0 41 (.load (some 7) (.t 3)) (.op 1 [] none none false (.store (some 7) (.t 2) (.t 41)) .done))) .ret))))
theorem dg_spec_l3draw : Tryd.f73.body.bind (digC Tryd.prog Tryd.f73.ntmps []) = some c_spec_l3draw := by kernel_rfl
theorem rs_spec_l3draw : resSlots Tryd.prog Tryd.f73 = some [.m 2 (some 7)] := by kernel_rfl
theorem ok_spec_l3draw (c : Cu) :
    FnOK Tryd.prog 73 [.one (.box c.cells)] (fun ra os => ∃ x : Rr × Cu, (rrOk x.1 = true) ∧ ra = [.agg [.own true (encBB x.1.name), .d (.sc (.int .i64 x.1.ty)), .d (.sc (.int .i64 x.1.ttl)), .d (.sc (.int .i64 x.1.addr)), .own true (encBB x.1.to), .own true (encB x.1.text), .own true (encI x.1.nums)]] ∧ os.b 0 = x.2.cells) := by
  refine FnOK.ofK Tryd.func73 (by kernel_rfl) dg_spec_l3draw rs_spec_l3draw rfl rfl ?_
  delta c_spec_l3draw T.o X.i
  refine kSeq (kReg (kAlloc rfl rfl (kDone (kSeq (kReg (kMovC rfl (kCallE (ok_spec_l2draw _) ⟨⟨rfl, _, rfl, rfl⟩, trivial⟩ rfl rfl rfl (fun _ => rfl) (fun x0 hx0 => (kMovC rfl (kLitD rfl rfl rfl rfl (kCallE (ok_spec_l1PickInt _ _ (by first | assumption | omega | solve_by_elim [List.getElem_mem] | (simp only [szOut] at *; omega) | exact rfl | exact leb) (by first | assumption | omega | solve_by_elim [List.getElem_mem] | (simp only [szOut] at *; omega) | exact rfl | exact leb) (by first | assumption | omega | solve_by_elim [List.getElem_mem] | (simp only [szOut] at *; omega) | exact rfl | exact leb)) ⟨⟨rfl, _, rfl, rfl⟩, rfl, trivial⟩ rfl rfl rfl (fun _ => rfl) (fun x1 hx1 => (kMovC rfl (kLitD rfl rfl rfl rfl (kCallE (ok_spec_l1PickInt _ _ (by first | assumption | omega | solve_by_elim [List.getElem_mem] | (simp only [szOut] at *; omega) | exact rfl | exact leb) (by first | assumption | omega | solve_by_elim [List.getElem_mem] | (simp only [szOut] at *; omega) | exact rfl | exact leb) (by first | assumption | omega | solve_by_elim [List.getElem_mem] | (simp only [szOut] at *; omega) | exact rfl | exact leb)) ⟨⟨rfl, _, rfl, rfl⟩, rfl, trivial⟩ rfl rfl rfl (fun _ => rfl) (fun x2 hx2 => (kBuildG rfl (kAlloc rfl rfl (kStoreP rfl rfl rfl rfl (kDone (kSeq (kBlock (kSeq (kReg (kFadP rfl rfl (kLoadP rfl rfl rfl (kBin rfl rfl rfl (kMovC rfl (kDone (kCondP rfl (fun g3 => kReg (kMovC rfl (kLitD rfl rfl rfl rfl (kCallE (ok_spec_l1PickInt _ _ (by first | assumption | omega | solve_by_elim [List.getElem_mem] | (simp only [szOut] at *; omega) | exact rfl | exact leb) (by first | assumption | omega | solve_by_elim [List.getElem_mem] | (simp only [szOut] at *; omega) | exact rfl | exact leb) (by first | assumption | omega | solve_by_elim [List.getElem_mem] | (simp only [szOut] at *; omega) | exact rfl | exact leb)) ⟨⟨rfl, _, rfl, rfl⟩, rfl, trivial⟩ rfl rfl rfl (fun _ => rfl) (fun x4 hx4 => (kFadP rfl rfl (kStoreP rfl rfl rfl rfl (kDone (kBk (kSeq (kReg (kLoadP rfl rfl rfl (kStoreP rfl rfl rfl rfl (kDone (kMem [(12288, ⟨1, 0, .box [.arr 24576 1, .d _, .d _, .d _, .nil 1, .nil 1, .nil 1]⟩), (24576, ⟨1, 0, .arr true _⟩)] [(2, .c (.ptr 12288 1 0))] [] ⟨rfl, rfl, trivial⟩ ⟨rfl, trivial⟩ rfl (kRet (endRetA (ra := [.agg [(.own true _), (.d _), (.d _), (.d _), (.own true _), (.own true _), (.own true _)]]) rfl ?_))))))))))))))))) (fun g3 => kSeq (kReg (kFadP rfl rfl (kLoadP rfl rfl rfl (kCallD (ok_spec_l3named _) ⟨rfl, trivial⟩ rfl rfl rfl rfl rfl (kMovC rfl (kDone (kCond rfl (fun g5 => kSeq (kReg (kMovC rfl (kCallE (ok_spec_l2draw _) ⟨⟨rfl, _, rfl, rfl⟩, trivial⟩ rfl rfl rfl (fun _ => rfl) (fun x6 hx6 => (kFadP rfl rfl (kStoreP rfl rfl rfl rfl (kDone (kSeq (kReg (kFadP rfl rfl (kLoadP rfl rfl rfl (kBin rfl rfl rfl (kDone (kCondP rfl (fun g7 => kReg (kMovC rfl (kCallE (ok_spec_l1Below _ _) ⟨⟨rfl, _, rfl, rfl⟩, rfl, trivial⟩ rfl rfl rfl (fun _ => rfl) (fun x8 hx8 => (kMovC rfl (kLitD rfl rfl rfl rfl (kCallE (ok_spec_l1PickInt _ _ (by first | assumption | omega | solve_by_elim [List.getElem_mem] | (simp only [szOut] at *; omega) | exact rfl | exact leb) (by first | assumption | omega | solve_by_elim [List.getElem_mem] | (simp only [szOut] at *; omega) | exact rfl | exact leb) (by first | assumption | omega | solve_by_elim [List.getElem_mem] | (simp only [szOut] at *; omega) | exact rfl | exact leb)) ⟨⟨rfl, _, rfl, rfl⟩, rfl, trivial⟩ rfl rfl rfl (fun _ => rfl) (fun x9 hx9 => (kLitG rfl rfl rfl rfl (kFadP rfl rfl (kStoreP rfl rfl rfl rfl (kDone (kBk (kSeq (kReg (kMem [(16384, ⟨1, 0, .box [.arr 24576 1, .d _, .d _, .d _, .arr 122880 1, .nil 1, .arr 163840 1]⟩), (12288, ⟨1, 0, .box [.nil 1, .d _, .d _, .d _, .nil 1, .nil 1, .nil 1]⟩), (24576, ⟨1, 0, .arr true _⟩), (122880, ⟨1, 0, .arr true _⟩), (163840, ⟨1, 0, .arr true _⟩)] [(3, .c (.ptr 16384 1 0)), (2, .c (.ptr 12288 1 0)), (41, .c (.un))] [] ⟨rfl, rfl, rfl, rfl, rfl, trivial⟩ ⟨rfl, rfl, rfl, trivial⟩ rfl (kLoadP rfl rfl rfl (kMem [(12288, ⟨1, 0, .box [.nil 1, .d _, .d _, .d _, .nil 1, .nil 1, .nil 1]⟩), (24576, ⟨1, 0, .arr true _⟩), (122880, ⟨1, 0, .arr true _⟩), (163840, ⟨1, 0, .arr true _⟩)] [(2, .c (.ptr 12288 1 0)), (41, .g [.arr 24576 1, .d _, .d _, .d _, .arr 122880 1, .nil 1, .arr 163840 1])] [] ⟨rfl, rfl, rfl, rfl, trivial⟩ ⟨rfl, rfl, trivial⟩ rfl (kStoreP rfl rfl rfl rfl (kDone (kMem [(12288, ⟨1, 0, .box [.arr 24576 1, .d _, .d _, .d _, .arr 122880 1, .nil 1, .arr 163840 1]⟩), (24576, ⟨1, 0, .arr true _⟩), (122880, ⟨1, 0, .arr true _⟩), (163840, ⟨1, 0, .arr true _⟩)] [(2, .c (.ptr 12288 1 0))] [] ⟨rfl, rfl, rfl, rfl, trivial⟩ ⟨rfl, trivial⟩ rfl (kRet (endRetA (ra := [.agg [(.own true _), (.d _), (.d _), (.d _), (.own true _), (.own true _), (.own true _)]]) rfl ?_))))))))))))))))))))))) (fun g7 => kSkip (kBk (kSeq (kReg (kLoadP rfl rfl rfl (kMem [(12288, ⟨1, 0, .box [.nil 1, .d _, .d _, .d _, .nil 1, .nil 1, .nil 1]⟩), (24576, ⟨1, 0, .arr true _⟩), (122880, ⟨1, 0, .arr true _⟩)] [(2, .c (.ptr 12288 1 0)), (41, .g [.arr 24576 1, .d _, .d _, .d _, .arr 122880 1, .nil 1, .nil 1])] [] ⟨rfl, rfl, rfl, trivial⟩ ⟨rfl, rfl, trivial⟩ rfl (kStoreP rfl rfl rfl rfl (kDone (kMem [(12288, ⟨1, 0, .box [.arr 24576 1, .d _, .d _, .d _, .arr 122880 1, .nil 1, .nil 1]⟩), (24576, ⟨1, 0, .arr true _⟩), (122880, ⟨1, 0, .arr true _⟩)] [(2, .c (.ptr 12288 1 0))] [] ⟨rfl, rfl, rfl, trivial⟩ ⟨rfl, trivial⟩ rfl (kRet (endRetA (ra := [.agg [(.own true _), (.d _), (.d _), (.d _), (.own true _), (.own true _), (.own true _)]]) rfl ?_)))))))))))))))))))))))))) (fun g5 => kReg (kMem [(0, ⟨0, 3, .box [.d _, .d _, .d _]⟩), (16384, ⟨1, 0, .box [.arr 24576 1, .d _, .d _, .d _, .nil 1, .nil 1, .nil 1]⟩), (24576, ⟨1, 0, .arr true _⟩)] [(0, .c (.ptr 0 0 0)), (13, .c (.un)), (3, .c (.ptr 16384 1 0)), (15, .c (.un)), (14, .c (.un))] [] ⟨rfl, rfl, rfl, trivial⟩ ⟨rfl, rfl, rfl, rfl, rfl, trivial⟩ rfl (kMovC rfl (kCallE (ok_spec_l1some _ _ (by first | assumption | omega | solve_by_elim [List.getElem_mem] | (simp only [szOut] at *; omega) | exact rfl | exact leb)) ⟨⟨rfl, _, rfl, rfl⟩, rfl, trivial⟩ rfl rfl rfl (fun _ => rfl) (fun x10 hx10 => (kFadP rfl rfl (kStoreP rfl rfl rfl rfl (kDone (kBk (kSeq (kReg (kLoadP rfl rfl rfl (kMem [(12288, ⟨1, 0, .box [.nil 1, .d _, .d _, .d _, .nil 1, .nil 1, .nil 1]⟩), (24576, ⟨1, 0, .arr true _⟩), (61440, ⟨1, 0, .arr true _⟩)] [(2, .c (.ptr 12288 1 0)), (41, .g [.arr 24576 1, .d _, .d _, .d _, .nil 1, .arr 61440 1, .nil 1])] [] ⟨rfl, rfl, rfl, trivial⟩ ⟨rfl, rfl, trivial⟩ rfl (kStoreP rfl rfl rfl rfl (kDone (kMem [(12288, ⟨1, 0, .box [.arr 24576 1, .d _, .d _, .d _, .nil 1, .arr 61440 1, .nil 1]⟩), (24576, ⟨1, 0, .arr true _⟩), (61440, ⟨1, 0, .arr true _⟩)] [(2, .c (.ptr 12288 1 0))] [] ⟨rfl, rfl, rfl, trivial⟩ ⟨rfl, trivial⟩ rfl (kRet (endRetA (ra := [.agg [(.own true _), (.d _), (.d _), (.d _), (.own true _), (.own true _), (.own true _)]]) rfl ?_))))))))))))))))))))))))))))))))))))))))))))))))))))))))
  · refine ⟨(⟨x0.1, x1.1, x2.1, x4.1, [], [], []⟩, x4.2), ?_, rfl, rfl⟩
    show rrOk ⟨x0.1, x1.1, x2.1, x4.1, [], [], []⟩ = true
    rw [show x1.1 = 1 by assumption]
    exact drawn_A hx0 hx2 hx4
  · refine ⟨(⟨x0.1, x1.1, x2.1, 0, x6.1, [], [x8.1, x9.1]⟩, x9.2), ?_, rfl, rfl⟩
    show rrOk ⟨x0.1, x1.1, x2.1, 0, x6.1, [], [x8.1, x9.1]⟩ = true
    rw [show x1.1 = 6 by assumption]
    exact drawn_soa hx0 hx6 hx2 hx8 hx9
  · exact ⟨(⟨x0.1, x1.1, x2.1, 0, x6.1, [], []⟩, x6.2), drawn_to hx0 hx6 hx1 (by assumption) (by assumption) hx2, rfl, rfl⟩
  · exact ⟨(⟨x0.1, x1.1, x2.1, 0, [], x10.1, []⟩, x10.2), drawn_text hx0 hx1 (by assumption) (by assumption) hx2 (by rcases hx10 with h | h; omega; rw [h]; simp), rfl, rfl⟩

def c_spec_l1Once : C := (.seq (.reg false (.o 0 4 (.mov (.v (.bool false))) .done)) (.seq (.reg false (.o 0 5 (.mov (.t 0)) (.o 1 6 (.mov (.t 1)) (.o 2 7 (.call 7 41 [(.t 5), (.t 6)]) (.o 3 8 (.bin .eql (.t 7) (.i 0)) (.o 4 4 (.mov (.t 8)) .done)))))) .ret))
theorem dg_spec_l1Once : Tryd.f40.body.bind (digC Tryd.prog Tryd.f40.ntmps []) = some c_spec_l1Once := by kernel_rfl
theorem rs_spec_l1Once : resSlots Tryd.prog Tryd.f40 = some [.s 4] := by kernel_rfl
theorem ok_spec_l1Once (c : Cu) (n : Int) :
    FnOK Tryd.prog 40 [.one (.box c.cells), .one (.d (.sc (.int .i64 n)))] (fun ra os => ∃ x : Bool × Cu, True ∧ ra = [.one (.d (.sc (.bool x.1)))] ∧ os.b 0 = x.2.cells) := by
  refine FnOK.ofK Tryd.func40 (by kernel_rfl) dg_spec_l1Once rs_spec_l1Once rfl rfl ?_
  delta c_spec_l1Once T.o X.i
  refine kSeq (kReg (kMovC rfl (kDone (kSeq (kReg (kMovC rfl (kMovC rfl (kCallE (ok_spec_l1Below _ _) ⟨⟨rfl, _, rfl, rfl⟩, rfl, trivial⟩ rfl rfl rfl (fun _ => rfl) (fun x0 hx0 => (kBin rfl rfl rfl (kMovC rfl (kDone (kRet (endRetA (ra := [.one (.d _)]) rfl ?_))))))))))))))
  exact ⟨(_, x0.2), trivial, rfl, rfl⟩

def c_spec_l2bent : C := (.seq (.reg false (.o 0 2 (.alloc 2 [(.n 1)]) .done)) (.seq (.reg false (.o 0 4 (.mov (.t 0)) (.o 1 5 (.call 5 39 [(.t 4)]) (.o 2 3 (.alloc 3 [(.n 1)]) (.op 3 [] none none false (.store (some 1) (.t 3) (.t 5)) .done))))) (.seq (.seq (.reg false (.o 0 6 (.mov (.t 0)) (.o 1 7 (.call 7 40 [(.t 6), (.i 9)]) .done))) (.cond (.t 7) (.seq (.reg false (.o 0 8 (.mov (.t 0)) (.o 1 9 (.call 9 41 [(.t 8), (.i 4)]) .done))) (.block 0 (.seq (.reg false (.o 0 22 (.bin .eql (.t 9) (.i 0)) (.o 1 21 (.mov (.t 22)) .done))) (.cond (.t 21) (.reg false (.o 0 23 (.fad (.t 3) 0) (.o 1 24 (.load none (.t 23)) (.o 2 25 (.lit 25 1 [(.n 1)] 1 [(0, 1, (.n 1))]) (.o 3 26 (.app 26 1 24 (.t 24) (.t 25)) (.o 4 27 (.fad (.t 3) 0) (.op 5 [] none none false (.store none (.t 27) (.t 26)) .done))))))) (.seq (.reg false (.o 0 29 (.bin .eql (.t 9) (.i 1)) (.o 1 28 (.mov (.t 29)) .done))) (.cond (.t 28) (.reg false (.o 0 30 (.fad (.t 3) 0) (.o 1 31 (.load none (.t 30)) (.o 2 32 (.lit 32 1 [(.v (.int .u8 0))] 1 [(0, 1, (.v (.int .u8 81)))]) (.o 3 33 (.s2s (.t 32)) (.o 4 34 (.lit 34 1 [(.n 1)] 1 [(0, 1, (.t 33))]) (.o 5 35 (.app 35 1 24 (.t 31) (.t 34)) (.o 6 36 (.fad (.t 3) 0) (.op 7 [] none none false (.store none (.t 36) (.t 35)) .done))))))))) (.seq (.reg false (.o 0 38 (.bin .eql (.t 9) (.i 2)) (.o 1 37 (.mov (.t 38)) .done))) (.cond (.t 37) (.reg true (.op 0 [] (some 39) none true (.fad (.t 3) 0) (.op 1 [] (some 40) none true (.load none (.t 39)) (.op 3 [] (some 42) none true (.mov (.t 0)) (.alt (.o 2 41 (.lit 41 1 [(.v (.string ⟨#[]⟩))] 2 [(0, 1, (.v (.string ⟨#[97, 98, 99, 100, 101, 102, 103, 104, 105, 106, 107, 108, 109, 110, 111]⟩))), (1, 1, (.v (.string ⟨#[97, 98, 99, 100, 101, 102, 103, 104, 105, 106, 107, 108, 109, 110, 111, 112]⟩)))]) (.o 4 43 (.call 43 41 [(.t 42), (.i 2)]) (.op 5 [] (some 44) none true (.iad 1 (.t 41) (.t 43)) (.op 6 [] (some 45) none true (.load none (.t 44)) (.op 7 [6] (some 46) none false (.s2b (.t 45)) (.op 8 [6] (some 47) none false (.lit 47 1 [(.n 1)] 1 [(0, 1, (.t 46))]) (.op 9 [1, 6] (some 48) none false (.app 48 1 24 (.t 40) (.t 47)) (.op 10 [] (some 49) none true (.fad (.t 3) 0) (.op 11 [1, 6] none none false (.store none (.t 49) (.t 48)) .done))))))))) (.o 4 43 (.call 43 41 [(.t 42), (.i 2)]) (.o 2 41 (.lit 41 1 [(.v (.string ⟨#[]⟩))] 2 [(0, 1, (.v (.string ⟨#[97, 98, 99, 100, 101, 102, 103, 104, 105, 106, 107, 108, 109, 110, 111]⟩))), (1, 1, (.v (.string ⟨#[97, 98, 99, 100, 101, 102, 103, 104, 105, 106, 107, 108, 109, 110, 111, 112]⟩)))]) (.op 5 [] (some 44) none true (.iad 1 (.t 41) (.t 43)) (.op 6 [] (some 45) none true (.load none (.t 44)) (.op 7 [6] (some 46) none false (.s2b (.t 45)) (.op 8 [6] (some 47) none false (.lit 47 1 [(.n 1)] 1 [(0, 1, (.t 46))]) (.op 9 [1, 6] (some 48) none false (.app 48 1 24 (.t 40) (.t 47)) (.op 10 [] (some 49) none true (.fad (.t 3) 0) (.op 11 [1, 6] none none false (.store none (.t 49) (.t 48)) .done)))))))))))))) (.block 1 (.loop (.seq (.seq (.reg false (.o 0 10 (.fad (.t 3) 0) (.o 1 11 (.load none (.t 10)) (.o 2 12 (.len (.t 11)) (.o 3 13 (.bin .leq (.t 12) (.i 6)) .done))))) (.cond (.t 13) .skip (.exit 1))) (.block 2 (.reg false (.o 0 14 (.fad (.t 3) 0) (.o 1 15 (.load none (.t 14)) (.o 2 16 (.lit 16 1 [(.v (.int .u8 0))] 1 [(0, 1, (.v (.int .u8 122)))]) (.o 3 17 (.s2s (.t 16)) (.o 4 18 (.lit 18 1 [(.n 1)] 1 [(0, 1, (.t 17))]) (.o 5 19 (.app 19 1 24 (.t 15) (.t 18)) (.o 6 20 (.fad (.t 3) 0) (.op 7 [] none none false (.store none (.t 20) (.t 19)) .done))))))))))))))))))))) .skip)) (.seq (.reg false (.o 0 50 (.load (some 1) (.t 3)) (.op 1 [] none none false (.store (some 1) (.t 2) (.t 50)) .done))) .ret))))
theorem dg_spec_l2bent : Tryd.f19.body.bind (digC Tryd.prog Tryd.f19.ntmps []) = some c_spec_l2bent := by kernel_rfl
theorem rs_spec_l2bent : resSlots Tryd.prog Tryd.f19 = some [.m 2 (some 1)] := by kernel_rfl
theorem ok_spec_l2bent (c : Cu) :
    FnOK Tryd.prog 19 [.one (.box c.cells)] (fun ra os => ∃ x : List (List UInt8) × Cu, (x.1.length ≤ 7 ∧ ∀ b ∈ x.1, b.length ≤ 64) ∧ ra = [.agg [.d (encBB x.1)]] ∧ os.b 0 = x.2.cells) := by
  refine FnOK.ofK Tryd.func19 (by kernel_rfl) dg_spec_l2bent rs_spec_l2bent rfl rfl ?_
  delta c_spec_l2bent T.o X.i
  refine kSeq (kReg (kAlloc rfl rfl (kDone (kSeq (kReg (kMovC rfl (kCallE (ok_spec_l2draw _) ⟨⟨rfl, _, rfl, rfl⟩, trivial⟩ rfl rfl rfl (fun _ => rfl) (fun x0 hx0 => (kAlloc rfl rfl (kStoreP rfl rfl rfl rfl (kDone (kSeq (kSeq (kReg (kMovC rfl (kCallE (ok_spec_l1Once _ _) ⟨⟨rfl, _, rfl, rfl⟩, rfl, trivial⟩ rfl rfl rfl (fun _ => rfl) (fun x1 hx1 => (kDone (kCond rfl (fun g2 => kSeq (kReg (kMovC rfl (kCallE (ok_spec_l1Below _ _) ⟨⟨rfl, _, rfl, rfl⟩, rfl, trivial⟩ rfl rfl rfl (fun _ => rfl) (fun x3 hx3 => (kDone (kBlock (kSeq (kReg (kBin rfl rfl rfl (kMovC rfl (kDone (kCondP rfl (fun g4 => kReg (kFadP rfl rfl (kLoadP rfl rfl rfl (kLitG rfl rfl rfl rfl ?_)))) (fun g4 => kSeq (kReg (kBin rfl rfl rfl (kMovC rfl (kDone (kCondP rfl (fun g5 => kReg (kFadP rfl rfl (kLoadP rfl rfl rfl (kLitG rfl rfl rfl rfl (kS2sB (y := 81) (ys := []) rfl rfl rfl (kLitG rfl rfl rfl rfl ?_)))))) (fun g5 => kSeq (kReg (kBin rfl rfl rfl (kMovC rfl (kDone (kCondP rfl (fun g6 => kRegD (kFadP rfl rfl (kLoadP rfl rfl rfl (kMovC rfl (kAlt (kLitG rfl rfl rfl rfl (kCallE (ok_spec_l1Below _ _) ⟨⟨rfl, _, rfl, rfl⟩, rfl, trivial⟩ rfl rfl rfl (fun _ => rfl) (fun x8 hx8 => (kIadStr rfl rfl rfl rfl (by simp only [List.length_cons, List.length_nil]; omega) (kLoadStr rfl rfl rfl (by simp only [List.length_cons, List.length_nil]; omega) rfl (fun b9 hb9 => (kRelK rfl rfl (kS2b rfl (by omega) (kRelK rfl rfl (kLitG rfl rfl rfl rfl (kRelF rfl rfl ?_))))))))))) (kCallE (ok_spec_l1Below _ _) ⟨⟨rfl, _, rfl, rfl⟩, rfl, trivial⟩ rfl rfl rfl (fun _ => rfl) (fun x10 hx10 => (kLitG rfl rfl rfl rfl (kIadStr rfl rfl rfl rfl (by simp only [List.length_cons, List.length_nil]; omega) (kLoadStr rfl rfl rfl (by simp only [List.length_cons, List.length_nil]; omega) rfl (fun b11 hb11 => (kRelK rfl rfl (kS2b rfl (by omega) (kRelK rfl rfl (kLitG rfl rfl rfl rfl (kRelF rfl rfl ?_)))))))))))))))) (fun g6 => kBlock ?_)))))))))))))))))))))))))) (fun g2 => kSkip (kSeq (kReg (kLoadP rfl rfl rfl (kStoreP rfl rfl rfl rfl (kDone (kRet (endRetA (ra := [.agg [(.d _)]]) rfl ?_)))))))))))))))))))))))))))
  · have h6 := nameOk_len hx0
    refine kAppR1 (z := ([] : List UInt8)) rfl rfl rfl rfl rfl rfl rfl rfl (by omega) ?_
    refine (kFadP rfl rfl (kStoreP rfl rfl rfl rfl (kDone (kBk (kSeq (kReg (kLoadP rfl rfl rfl (kStoreP rfl rfl rfl rfl (kDone (kRet (endRetA (ra := [.agg [(.d _)]]) rfl ?_)))))))))))
    exact ⟨(_, x3.2), bent_app hx0 (by decide), rfl, rfl⟩
  · have h6 := nameOk_len hx0
    refine kAppR1 (z := ([81] : List UInt8)) rfl rfl rfl rfl rfl rfl rfl rfl (by omega) ?_
    refine kFadP rfl rfl (kStoreP rfl rfl rfl rfl (kDone (kBk (kSeq (kReg (kLoadP rfl rfl rfl (kStoreP rfl rfl rfl rfl (kDone (kRet (endRetA (ra := [.agg [(.d _)]]) rfl ?_))))))))))
    exact ⟨(_, x3.2), bent_app hx0 (by decide), rfl, rfl⟩
  · have h6 := nameOk_len hx0
    refine kAppR1 (z := b9.toList) rfl rfl rfl rfl rfl rfl rfl rfl (by omega) ?_
    refine kFadP rfl rfl (kRelF rfl rfl (kStoreP rfl rfl rfl rfl (kDone (kH (kBk (kSeq (kReg (kLoadP rfl rfl rfl (kStoreP rfl rfl rfl rfl (kDone (kRet (endRetA (ra := [.agg [(.d _)]]) rfl ?_))))))))))))
    exact ⟨(_, x8.2), bent_app hx0 (by rw [bt_len]; exact hb9), rfl, rfl⟩
  · have h6 := nameOk_len hx0
    refine kAppR1 (z := b11.toList) rfl rfl rfl rfl rfl rfl rfl rfl (by omega) ?_
    refine kFadP rfl rfl (kRelF rfl rfl (kStoreP rfl rfl rfl rfl (kDone (kH (kBk (kSeq (kReg (kLoadP rfl rfl rfl (kStoreP rfl rfl rfl rfl (kDone (kRet (endRetA (ra := [.agg [(.d _)]]) rfl ?_))))))))))))
    exact ⟨(_, x10.2), bent_app hx0 (by rw [bt_len]; exact hb11), rfl, rfl⟩
  · refine kLoop (α := { L : List (List UInt8) // L.length ≤ 7 ∧ ∀ b ∈ L, b.length ≤ 64 }) (fun y => ⟨tabSl [(2, .c (.ptr (rid 2 0) 1 0)), (3, .c (.ptr (rid 3 0) 1 0))], obTab 1 [(0, ⟨0, 0, .box (x3.2.cells.map .d)⟩), (rid 2 0, ⟨1, 0, .box [.nil 1]⟩), (rid 3 0, ⟨1, 0, .box [.arr (rid 5 0) 1]⟩), (rid 5 0, ⟨1, 0, .arr false (encBB y.1)⟩)], []⟩) (fun y => 7 - y.1.length) ⟨x0.1, bent_ok hx0⟩ .normA ?_
    rintro ⟨L, h7, hL⟩
    simp only
    rcases Nat.lt_or_ge L.length 7 with hlt | hge
    · refine kSeq (kSeq (kReg (kFadP rfl rfl (kLoadP rfl rfl rfl (kLenR rfl rfl (kBin rfl rfl rfl (kDone (kCondP rfl (fun g0 => kSkip (kBlock (kReg (kFadP rfl rfl (kLoadP rfl rfl rfl (kLitG rfl rfl rfl rfl (kS2sB (y := 122) (ys := []) rfl rfl rfl (kLitG rfl rfl rfl rfl (kAppR1 rfl rfl rfl rfl rfl rfl rfl rfl (by first | omega | (simp only [List.length_append, List.length_cons, List.length_nil]; omega)) (kFadP rfl rfl (kStoreP rfl rfl rfl rfl (kDone (kBk ?_))))))))))))) (fun g0 => (by omega))))))))))
      refine kInv ⟨⟨L ++ [[122]], by simp; omega, fun b hb => ?_⟩, by simp; omega, .normA⟩
      rcases List.mem_append.1 hb with hb | hb
      · exact hL b hb
      · simp only [List.mem_singleton] at hb; subst hb; decide
    · refine kSeq (kSeq (kReg (kFadP rfl rfl (kLoadP rfl rfl rfl (kLenR rfl rfl (kBin rfl rfl rfl (kDone (kCondP rfl (fun g0 => (by omega)) (fun g0 => kExit (kExC (kExI (kExB (kBk (kSeq (kReg (kLoadP rfl rfl rfl (kStoreP rfl rfl rfl rfl (kDone (kRet (endRetA (ra := [.agg [(.d _)]]) rfl ?_))))))))))))))))))))
      exact ⟨(L, x3.2), ⟨h7, hL⟩, rfl, rfl⟩
  · exact ⟨(x0.1, x1.2), bent_ok hx0, rfl, rfl⟩

def c_spec_l3bent : C := (.seq (.reg false (.o 0 2 (.alloc 2 [(.n 1), (.i 0), (.i 0), (.i 0), (.n 1), (.n 1), (.n 1)]) .done)) (.seq (.reg false (.o 0 4 (.mov (.t 0)) (.o 1 5 (.call 5 73 [(.t 4)]) (.o 2 3 (.alloc 3 [(.n 1), (.i 0), (.i 0), (.i 0), (.n 1), (.n 1), (.n 1)]) (.op 3 [] none none false (.store (some 7) (.t 3) (.t 5)) .done))))) (.seq (.seq (.reg false (.o 0 6 (.mov (.t 0)) (.o 1 7 (.call 7 40 [(.t 6), (.i 7)]) .done))) (.cond (.t 7) (.seq (.reg false (.o 0 8 (.mov (.t 0)) (.o 1 9 (.call 9 41 [(.t 8), (.i 7)]) .done))) (.block 0 (.seq (.reg false (.o 0 18 (.bin .eql (.t 9) (.i 0)) (.o 1 17 (.mov (.t 18)) .done))) (.cond (.t 17) (.reg false (.o 0 19 (.mov (.t 0)) (.o 1 20 (.call 20 19 [(.t 19)]) (.o 2 21 (.fad (.t 3) 0) (.op 3 [] none none false (.store (some 1) (.t 21) (.t 20)) .done))))) (.seq (.reg false (.o 0 23 (.bin .eql (.t 9) (.i 1)) (.o 1 22 (.mov (.t 23)) .done))) (.cond (.t 22) (.reg false (.o 0 24 (.mov (.t 0)) (.o 1 25 (.lit 25 1 [(.i 0)] 7 [(0, 1, (.i 0)), (1, 1, (.i 3)), (2, 1, (.i 28)), (3, 1, (.i 255)), (4, 1, (.i (-1))), (5, 1, (.i 1)), (6, 1, (.i 5))]) (.o 2 26 (.call 26 74 [(.t 24), (.t 25)]) (.o 3 27 (.fad (.t 3) 1) (.op 4 [] none none false (.store none (.t 27) (.t 26)) .done)))))) (.seq (.reg false (.o 0 29 (.bin .eql (.t 9) (.i 2)) (.o 1 28 (.mov (.t 29)) .done))) (.cond (.t 28) (.reg false (.o 0 30 (.mov (.t 0)) (.o 1 31 (.lit 31 1 [(.i 0)] 2 [(0, 1, (.i (-1))), (1, 1, (.i 100001))]) (.o 2 32 (.call 32 74 [(.t 30), (.t 31)]) (.o 3 33 (.fad (.t 3) 2) (.op 4 [] none none false (.store none (.t 33) (.t 32)) .done)))))) (.seq (.reg false (.o 0 35 (.bin .eql (.t 9) (.i 3)) (.o 1 34 (.mov (.t 35)) .done))) (.cond (.t 34) (.reg false (.o 0 36 (.mov (.t 0)) (.o 1 37 (.lit 37 1 [(.i 0)] 3 [(0, 1, (.i (-1))), (1, 1, (.i 4294967296)), (2, 1, (.i 7))]) (.o 2 38 (.call 38 74 [(.t 36), (.t 37)]) (.o 3 39 (.fad (.t 3) 3) (.op 4 [] none none false (.store none (.t 39) (.t 38)) .done)))))) (.seq (.reg false (.o 0 41 (.bin .eql (.t 9) (.i 4)) (.o 1 40 (.mov (.t 41)) .done))) (.cond (.t 40) (.reg false (.o 0 42 (.mov (.t 0)) (.o 1 43 (.call 43 19 [(.t 42)]) (.o 2 44 (.fad (.t 3) 4) (.op 3 [] none none false (.store (some 1) (.t 44) (.t 43)) .done))))) (.seq (.reg false (.o 0 46 (.bin .eql (.t 9) (.i 5)) (.o 1 45 (.mov (.t 46)) .done))) (.cond (.t 45) (.reg false (.o 0 47 (.mov (.t 0)) (.o 1 48 (.call 48 41 [(.t 47), (.i 2)]) (.o 2 49 (.bin .add (.i 40) (.t 48)) (.o 3 50 (.mk 50 1 [(.v (.int .u8 0))] 1 (.t 49)) (.o 4 51 (.fad (.t 3) 5) (.op 5 [] none none false (.store none (.t 51) (.t 50)) .done))))))) (.reg true (.op 0 [] (some 10) none true (.fad (.t 3) 6) (.op 1 [] (some 11) none true (.load none (.t 10)) (.op 2 [] (some 12) none true (.mov (.t 0)) (.o 3 13 (.call 13 41 [(.t 12), (.i 5)]) (.o 4 14 (.lit 14 1 [(.i 0)] 1 [(0, 1, (.t 13))]) (.op 5 [1] (some 15) none false (.app 15 1 8 (.t 11) (.t 14)) (.op 6 [] (some 16) none true (.fad (.t 3) 6) (.op 7 [1] none none false (.store none (.t 16) (.t 15)) .done))))))))))))))))))))))) .skip)) (.seq (.reg false (.o 0 52 (.load (some 7) (.t 3)) (.op 1 [] none none false (.store (some 7) (.t 2) (.t 52)) .done))) .ret))))
theorem dg_spec_l3bent : Tryd.f54.body.bind (digC Tryd.prog Tryd.f54.ntmps []) = some c_spec_l3bent := by kernel_rfl
theorem rs_spec_l3bent : resSlots Tryd.prog Tryd.f54 = some [.m 2 (some 7)] := by kernel_rfl
theorem ok_spec_l3bent (c : Cu) :
    FnOK Tryd.prog 54 [.one (.box c.cells)] (fun ra os => ∃ x : Rr × Cu, (SmallR x.1) ∧ ra = [.agg [.d (encBB x.1.name), .d (.sc (.int .i64 x.1.ty)), .d (.sc (.int .i64 x.1.ttl)), .d (.sc (.int .i64 x.1.addr)), .d (encBB x.1.to), .d (encB x.1.text), .d (encI x.1.nums)]] ∧ os.b 0 = x.2.cells) := by
  refine FnOK.ofK Tryd.func54 (by kernel_rfl) dg_spec_l3bent rs_spec_l3bent rfl rfl ?_
  delta c_spec_l3bent T.o X.i
  refine kSeq (kReg (kAlloc rfl rfl (kDone (kSeq (kReg (kMovC rfl (kCallE (ok_spec_l3draw _) ⟨⟨rfl, _, rfl, rfl⟩, trivial⟩ rfl rfl rfl (fun _ => rfl) (fun x0 hx0 => (kAlloc rfl rfl (kStoreP rfl rfl rfl rfl (kDone (kSeq (kSeq (kReg (kMovC rfl (kCallE (ok_spec_l1Once _ _) ⟨⟨rfl, _, rfl, rfl⟩, rfl, trivial⟩ rfl rfl rfl (fun _ => rfl) (fun x1 hx1 => (kDone (kCond rfl (fun g2 => kSeq (kReg (kMovC rfl (kCallE (ok_spec_l1Below _ _) ⟨⟨rfl, _, rfl, rfl⟩, rfl, trivial⟩ rfl rfl rfl (fun _ => rfl) (fun x3 hx3 => (kDone (kBlock (kSeq (kReg (kBin rfl rfl rfl (kMovC rfl (kDone (kCondP rfl (fun g4 => kReg (kMovC rfl (kCallE (ok_spec_l2bent _) ⟨⟨rfl, _, rfl, rfl⟩, trivial⟩ rfl rfl rfl (fun _ => rfl) (fun x5 hx5 => (kFadP rfl rfl (kStoreP rfl rfl rfl rfl (kDone (kBk (kSeq (kReg (kLoadP rfl rfl rfl (kStoreP rfl rfl rfl rfl (kDone (kRet (endRetA (ra := [.agg [(.d _), (.d _), (.d _), (.d _), (.d _), (.d _), (.d _)]]) rfl ?_))))))))))))))) (fun g4 => kSeq (kReg (kBin rfl rfl rfl (kMovC rfl (kDone (kCondP rfl (fun g6 => kReg (kMovC rfl (kLitD rfl rfl rfl rfl (kCallE (ok_spec_l1PickInt _ _ (by first | assumption | omega | solve_by_elim [List.getElem_mem] | (simp only [szOut] at *; omega) | exact rfl | exact leb) (by first | assumption | omega | solve_by_elim [List.getElem_mem] | (simp only [szOut] at *; omega) | exact rfl | exact leb) (by first | assumption | omega | solve_by_elim [List.getElem_mem] | (simp only [szOut] at *; omega) | exact rfl | exact leb)) ⟨⟨rfl, _, rfl, rfl⟩, rfl, trivial⟩ rfl rfl rfl (fun _ => rfl) (fun x7 hx7 => (kFadP rfl rfl (kStoreP rfl rfl rfl rfl (kDone (kBk (kSeq (kReg (kLoadP rfl rfl rfl (kStoreP rfl rfl rfl rfl (kDone (kRet (endRetA (ra := [.agg [(.d _), (.d _), (.d _), (.d _), (.d _), (.d _), (.d _)]]) rfl ?_)))))))))))))))) (fun g6 => kSeq (kReg (kBin rfl rfl rfl (kMovC rfl (kDone (kCondP rfl (fun g8 => kReg (kMovC rfl (kLitD rfl rfl rfl rfl (kCallE (ok_spec_l1PickInt _ _ (by first | assumption | omega | solve_by_elim [List.getElem_mem] | (simp only [szOut] at *; omega) | exact rfl | exact leb) (by first | assumption | omega | solve_by_elim [List.getElem_mem] | (simp only [szOut] at *; omega) | exact rfl | exact leb) (by first | assumption | omega | solve_by_elim [List.getElem_mem] | (simp only [szOut] at *; omega) | exact rfl | exact leb)) ⟨⟨rfl, _, rfl, rfl⟩, rfl, trivial⟩ rfl rfl rfl (fun _ => rfl) (fun x9 hx9 => (kFadP rfl rfl (kStoreP rfl rfl rfl rfl (kDone (kBk (kSeq (kReg (kLoadP rfl rfl rfl (kStoreP rfl rfl rfl rfl (kDone (kRet (endRetA (ra := [.agg [(.d _), (.d _), (.d _), (.d _), (.d _), (.d _), (.d _)]]) rfl ?_)))))))))))))))) (fun g8 => kSeq (kReg (kBin rfl rfl rfl (kMovC rfl (kDone (kCondP rfl (fun g10 => kReg (kMem [(0, ⟨0, 3, .box [.d _, .d _, .d _]⟩), (16384, ⟨1, 0, .box [.arr 24576 1, .d _, .d _, .d _, .arr 24580 1, .arr 24581 1, .arr 24582 1]⟩), (24576, ⟨1, 0, .arr true _⟩), (24580, ⟨1, 0, .arr true _⟩), (24581, ⟨1, 0, .arr true _⟩), (24582, ⟨1, 0, .arr true _⟩)] [(0, .c (.ptr 0 0 0)), (36, .c (.un)), (37, .c (.un)), (3, .c (.ptr 16384 1 0)), (39, .c (.un)), (38, .c (.un))] [] ⟨rfl, rfl, rfl, rfl, rfl, rfl, trivial⟩ ⟨rfl, rfl, rfl, rfl, rfl, rfl, trivial⟩ rfl (kMovC rfl (kLitD rfl rfl rfl rfl (kCallE (ok_spec_l1PickInt _ _ (by first | assumption | omega | solve_by_elim [List.getElem_mem] | (simp only [szOut] at *; omega) | exact rfl | exact leb) (by first | assumption | omega | solve_by_elim [List.getElem_mem] | (simp only [szOut] at *; omega) | exact rfl | exact leb) (by first | assumption | omega | solve_by_elim [List.getElem_mem] | (simp only [szOut] at *; omega) | exact rfl | exact leb)) ⟨⟨rfl, _, rfl, rfl⟩, rfl, trivial⟩ rfl rfl rfl (fun _ => rfl) (fun x11 hx11 => (kFadP rfl rfl (kStoreP rfl rfl rfl rfl (kDone (kBk (kSeq (kReg (kLoadP rfl rfl rfl (kMem [(12288, ⟨1, 0, .box [.nil 1, .d _, .d _, .d _, .nil 1, .nil 1, .nil 1]⟩), (24576, ⟨1, 0, .arr true _⟩), (24580, ⟨1, 0, .arr true _⟩), (24581, ⟨1, 0, .arr true _⟩), (24582, ⟨1, 0, .arr true _⟩)] [(2, .c (.ptr 12288 1 0)), (52, .g [.arr 24576 1, .d _, .d _, .d _, .arr 24580 1, .arr 24581 1, .arr 24582 1])] [] ⟨rfl, rfl, rfl, rfl, rfl, trivial⟩ ⟨rfl, rfl, trivial⟩ rfl (kStoreP rfl rfl rfl rfl (kDone (kMem [(12288, ⟨1, 0, .box [.arr 24576 1, .d _, .d _, .d _, .arr 24580 1, .arr 24581 1, .arr 24582 1]⟩), (24576, ⟨1, 0, .arr true _⟩), (24580, ⟨1, 0, .arr true _⟩), (24581, ⟨1, 0, .arr true _⟩), (24582, ⟨1, 0, .arr true _⟩)] [(2, .c (.ptr 12288 1 0))] [] ⟨rfl, rfl, rfl, rfl, rfl, trivial⟩ ⟨rfl, trivial⟩ rfl (kRet (endRetA (ra := [.agg [(.d _), (.d _), (.d _), (.d _), (.d _), (.d _), (.d _)]]) rfl ?_))))))))))))))))))) (fun g10 => kSeq (kReg (kBin rfl rfl rfl (kMovC rfl (kDone (kCondP rfl (fun g12 => kReg (kMovC rfl (kCallE (ok_spec_l2bent _) ⟨⟨rfl, _, rfl, rfl⟩, trivial⟩ rfl rfl rfl (fun _ => rfl) (fun x13 hx13 => (kFadP rfl rfl (kStoreP rfl rfl rfl rfl (kDone (kBk (kSeq (kReg (kLoadP rfl rfl rfl (kMem [(12288, ⟨1, 0, .box [.nil 1, .d _, .d _, .d _, .nil 1, .nil 1, .nil 1]⟩), (24576, ⟨1, 0, .arr true _⟩), (24581, ⟨1, 0, .arr true _⟩), (24582, ⟨1, 0, .arr true _⟩)] [(2, .c (.ptr 12288 1 0)), (52, .g [.arr 24576 1, .d _, .d _, .d _, .d _, .arr 24581 1, .arr 24582 1])] [] ⟨rfl, rfl, rfl, rfl, trivial⟩ ⟨rfl, rfl, trivial⟩ rfl (kStoreP rfl rfl rfl rfl (kDone (kRet (endRetA (ra := [.agg [(.d _), (.d _), (.d _), (.d _), (.d _), (.d _), (.d _)]]) rfl ?_)))))))))))))))) (fun g12 => kSeq (kReg (kBin rfl rfl rfl (kMovC rfl (kDone (kCondP rfl (fun g14 => kReg (kMovC rfl (kCallE (ok_spec_l1Below _ _) ⟨⟨rfl, _, rfl, rfl⟩, rfl, trivial⟩ rfl rfl rfl (fun _ => rfl) (fun x15 hx15 => (kAdd rfl rfl (by omega) ?_))))) (fun g14 => kRegD (kFadP rfl rfl (kLoadP rfl rfl rfl (kMovC rfl (kCallE (ok_spec_l1Below _ _) ⟨⟨rfl, _, rfl, rfl⟩, rfl, trivial⟩ rfl rfl rfl (fun _ => rfl) (fun x16 hx16 => (kLitG rfl rfl rfl rfl (kRelF rfl rfl ?_))))))))))))))))))))))))))))))))))))))))))))))))))) (fun g2 => kSkip (kSeq (kReg (kLoadP rfl rfl rfl (kStoreP rfl rfl rfl rfl (kDone (kRet (endRetA (ra := [.agg [(.d _), (.d _), (.d _), (.d _), (.d _), (.d _), (.d _)]]) rfl ?_)))))))))))))))))))))))))))
  · exact ⟨({ x0.1 with name := x5.1 }, x5.2), ⟨.bent hx5, (rrOk_small hx0).t, (rrOk_small hx0).x, (rrOk_small hx0).m⟩, rfl, rfl⟩
  · exact ⟨({ x0.1 with ty := x7.1 }, x7.2), ⟨(rrOk_small hx0).n, (rrOk_small hx0).t, (rrOk_small hx0).x, (rrOk_small hx0).m⟩, rfl, rfl⟩
  · exact ⟨({ x0.1 with ttl := x9.1 }, x9.2), ⟨(rrOk_small hx0).n, (rrOk_small hx0).t, (rrOk_small hx0).x, (rrOk_small hx0).m⟩, rfl, rfl⟩
  · exact ⟨({ x0.1 with addr := x11.1 }, x11.2), ⟨(rrOk_small hx0).n, (rrOk_small hx0).t, (rrOk_small hx0).x, (rrOk_small hx0).m⟩, rfl, rfl⟩
  · exact ⟨({ x0.1 with to := x13.1 }, x13.2), ⟨(rrOk_small hx0).n, .bent hx13, (rrOk_small hx0).x, (rrOk_small hx0).m⟩, rfl, rfl⟩
  · refine kMk rfl (by omega) rfl rfl rfl rfl rfl ?_
    rw [show DV.sl 1 (List.replicate (Int.toNat (40 + x15.1)) [.sc (.int .u8 0)]) = encB (List.replicate (Int.toNat (40 + x15.1)) 0) by simp [encB]]
    refine kFadP rfl rfl (kStoreP rfl rfl rfl rfl (kDone (kBk (kSeq (kReg (kLoadP rfl rfl rfl (kStoreP rfl rfl rfl rfl (kDone (kRet (endRetA (ra := [.agg [(.d _), (.d _), (.d _), (.d _), (.d _), (.d _), (.d _)]]) rfl ?_))))))))))
    exact ⟨({ x0.1 with text := List.replicate (Int.toNat (40 + x15.1)) 0 }, x15.2), ⟨(rrOk_small hx0).n, (rrOk_small hx0).t, show (List.replicate (Int.toNat (40 + x15.1)) (0 : UInt8)).length ≤ 4194304 from by rw [List.length_replicate]; omega, (rrOk_small hx0).m⟩, rfl, rfl⟩
  · have hm := (rrOk_lens hx0).1
    refine kAppR1 (z := x16.1) rfl rfl rfl rfl rfl rfl rfl rfl (by omega) ?_
    refine kFadP rfl rfl (kRelF rfl rfl (kStoreP rfl rfl rfl rfl (kDone (kH (kBk (kSeq (kReg (kLoadP rfl rfl rfl (kStoreP rfl rfl rfl rfl (kDone (kMem [(12288, ⟨1, 0, .box [.arr 24576 1, .d _, .d _, .d _, .arr 24580 1, .arr 24581 1, .arr 24582 2]⟩), (24576, ⟨1, 0, .arr true _⟩), (24580, ⟨1, 0, .arr true _⟩), (24581, ⟨1, 0, .arr true _⟩), (24582, ⟨2, 0, .arr true _⟩)] [(2, .c (.ptr 12288 1 0))] [] ⟨rfl, rfl, rfl, rfl, rfl, trivial⟩ ⟨rfl, trivial⟩ rfl (kRet (endRetA (ra := [.agg [(.d _), (.d _), (.d _), (.d _), (.d _), (.d _), (.d _)]]) rfl ?_)))))))))))))
    exact ⟨({ x0.1 with nums := x0.1.nums ++ [x16.1] }, x16.2), ⟨(rrOk_small hx0).n, (rrOk_small hx0).t, (rrOk_small hx0).x, show (x0.1.nums ++ [x16.1]).length ≤ 4194304 from by rw [List.length_append]; simp; omega⟩, rfl, rfl⟩
  · exact ⟨(x0.1, x1.2), (rrOk_small hx0), rfl, rfl⟩

def c_spec_l2own : C := (.seq (.reg false (.o 0 1 (.box 1 (.t 0)) (.o 1 2 (.alloc 2 [(.n 1)]) .done))) (.seq (.reg false (.o 0 3 (.alloc 3 [(.n 1)]) .done)) (.seq (.seq (.reg false (.o 0 4 (.mov (.i 0)) .done)) (.block 0 (.loop (.seq (.seq (.reg false (.o 0 5 (.mov (.t 4)) (.o 1 6 (.fad (.t 1) 0) (.o 2 7 (.load none (.t 6)) (.o 3 8 (.len (.t 7)) (.o 4 9 (.bin .lss (.t 5) (.t 8)) .done)))))) (.cond (.t 9) .skip (.exit 0))) (.seq (.block 1 (.reg true (.op 0 [] (some 12) none true (.fad (.t 3) 0) (.op 1 [] (some 13) none true (.load none (.t 12)) (.op 3 [] (some 15) none true (.fad (.t 1) 0) (.op 4 [] (some 16) none true (.load none (.t 15)) (.op 5 [] (some 17) none true (.mov (.t 4)) (.op 6 [] (some 18) none true (.iad 1 (.t 16) (.t 17)) (.op 7 [] (some 19) none true (.load none (.t 18)) (.o 2 14 (.lit 14 1 [(.v (.int .u8 0))] 0 []) (.op 8 [7, 4] (some 20) none false (.app 20 1 1 (.t 14) (.t 19)) (.op 9 [7, 4] (some 21) none false (.lit 21 1 [(.n 1)] 1 [(0, 1, (.t 20))]) (.op 10 [1, 7, 4] (some 22) none false (.app 22 1 24 (.t 13) (.t 21)) (.op 11 [] (some 23) none true (.fad (.t 3) 0) (.op 12 [1, 4, 7] none none false (.store none (.t 23) (.t 22)) .done))))))))))))))) (.reg false (.o 0 10 (.mov (.t 4)) (.o 1 11 (.bin .add (.t 10) (.i 1)) (.o 2 4 (.mov (.t 11)) .done))))))))) (.seq (.reg false (.o 0 24 (.load (some 1) (.t 3)) (.op 1 [] none none false (.store (some 1) (.t 2) (.t 24)) .done))) .ret))))
theorem dg_spec_l2own : Tryd.f75.body.bind (digC Tryd.prog Tryd.f75.ntmps []) = some c_spec_l2own := by kernel_rfl
theorem rs_spec_l2own : resSlots Tryd.prog Tryd.f75 = some [.m 2 (some 1)] := by kernel_rfl
theorem ok_spec_l2own (a : List (List UInt8)) (ha : a.length ≤ 4194304) (hb : ∀ b ∈ a, b.length ≤ 4194304) :
    FnOK Tryd.prog 75 [.agg [.d (encBB a)]] (fun ra _ => ra = [.agg [.own true (encBB a)]]) := by
  refine FnOK.ofK Tryd.func75 (by kernel_rfl) dg_spec_l2own rs_spec_l2own rfl rfl ?_
  delta c_spec_l2own T.o X.i
  refine kSeq (kReg (kBox rfl rfl rfl rfl rfl (kAlloc rfl rfl (kDone (kSeq (kReg (kAlloc rfl rfl (kDone (kSeq (kSeq (kReg (kMovC rfl (kDone (kBlock ?_))))))))))))))
  refine kSub (Sub.nilBox (id := rid 3 0) (id2 := rid 5000 0) (j := 0) rfl rfl rfl (by decide) (by decide)) ?_
  refine kLoop (α := { i : Nat // i ≤ a.length })
    (fun y => ⟨tabSl [(1, .c (.ptr (rid 1 0) 1 0)), (2, .c (.ptr (rid 2 0) 1 0)), (3, .c (.ptr (rid 3 0) 1 0)), (4, .i y.1)],
      obTab 1 [(rid 1 0, ⟨1, 0, .box [.d (encBB a)]⟩), (rid 2 0, ⟨1, 0, .box [.nil 1]⟩), (rid 3 0, ⟨1, 0, .box [.arr (rid 5000 0) 1]⟩), (rid 5000 0, ⟨1, 0, .arr true (encBB (a.take y.1))⟩)], []⟩) (fun y => a.length - y.1) ⟨0, by simp⟩
    .normA ?_
  rintro ⟨i, hi⟩
  simp only
  have hlen : (a.take i).length = i := by simp; omega
  rcases Nat.lt_or_ge i a.length with hlt | hge
  · have hbi := hb _ (List.getElem_mem hlt)
    refine kSeq (kSeq (kReg (kMovC rfl (kFadP rfl rfl (kLoadP rfl rfl rfl (kLenR rfl rfl (kBin rfl rfl rfl (kDone (kCondP rfl (fun g0 => kSkip (kSeq (kBlock (kRegD (kFadP rfl rfl (kLoadP rfl rfl rfl (kFadP rfl rfl (kLoadP rfl rfl rfl (kMovC rfl (kIadR rfl rfl rfl (by omega) (kLoadD rfl rfl (kLit rfl rfl rfl rfl (kRelK rfl rfl (kAppN rfl rfl rfl (src_encB _ _) rfl rfl rfl rfl (by omega) (kRelK rfl rfl (kLit rfl rfl rfl rfl (kRelF rfl rfl (kAppR1 rfl rfl rfl rfl rfl rfl rfl rfl (by omega) (kFadP rfl rfl (kRelF rfl rfl (kStoreP rfl rfl rfl rfl (kDone (kH (kBk (kReg (kMovC rfl (kAdd rfl rfl (by omega) (kMovC rfl (kDone ?_))))))))))))))))))))))))))))) (fun g0 => (by omega)))))))))))
    exact kInv ⟨⟨i + 1, by omega⟩, by simp only; omega, .normA⟩
  · refine kSeq (kSeq (kReg (kMovC rfl (kFadP rfl rfl (kLoadP rfl rfl rfl (kLenR rfl rfl (kBin rfl rfl rfl (kDone (kCondP rfl (fun g0 => (by omega)) (fun g0 => kExit (kExC (kExI (kExB (kSeq (kReg (kLoadP rfl rfl rfl (kStoreP rfl rfl rfl rfl (kDone (kRet (endRetA (ra := [.agg [(.own true _)]]) rfl ?_))))))))))))))))))))
    rw [show i = a.length by omega, List.take_length]

def c_spec_l3own : C := (.seq (.reg false (.o 0 1 (.box 1 (.t 0)) (.o 1 2 (.alloc 2 [(.n 1), (.i 0), (.i 0), (.i 0), (.n 1), (.n 1), (.n 1)]) .done))) (.seq (.reg true (.op 0 [] (some 3) none true (.fad (.t 1) 0) (.op 1 [] (some 4) none true (.load (some 1) (.t 3)) (.op 3 [] (some 6) none true (.fad (.t 1) 1) (.op 4 [] (some 7) none true (.load none (.t 6)) (.op 5 [] (some 8) none true (.fad (.t 1) 2) (.op 6 [] (some 9) none true (.load none (.t 8)) (.op 7 [] (some 10) none true (.fad (.t 1) 3) (.op 8 [] (some 11) none true (.load none (.t 10)) (.op 9 [] (some 12) none true (.fad (.t 1) 4) (.op 10 [] (some 13) none true (.load (some 1) (.t 12)) (.op 13 [] (some 16) none true (.fad (.t 1) 5) (.op 14 [] (some 17) none true (.load none (.t 16)) (.op 17 [] (some 20) none true (.fad (.t 1) 6) (.op 18 [] (some 21) none true (.load none (.t 20)) (.alt (.op 2 [1] (some 5) none false (.call 5 75 [(.t 4)]) (.alt (.op 11 [10, 1] (some 14) none false (.call 14 75 [(.t 13)]) (.alt (.o 12 15 (.lit 15 1 [(.v (.int .u8 0))] 0 []) (.alt (.op 15 [14, 10, 1] (some 18) none false (.app 18 1 1 (.t 15) (.t 17)) (.o 16 19 (.lit 19 1 [(.i 0)] 0 []) (.op 19 [18, 14, 10, 1] (some 22) none false (.app 22 1 8 (.t 19) (.t 21)) (.op 20 [] (some 23) none true (.build [(.n 1), (.i 0), (.i 0), (.i 0), (.n 1), (.n 1), (.n 1)] [(0, 1, (.t 5)), (1, 1, (.t 7)), (2, 1, (.t 9)), (3, 1, (.t 11)), (4, 1, (.t 14)), (5, 1, (.t 18)), (6, 1, (.t 22))]) (.op 21 [1, 4, 6, 8, 10, 14, 18] none none false (.store (some 7) (.t 2) (.t 23)) .done))))) (.o 16 19 (.lit 19 1 [(.i 0)] 0 []) (.op 15 [14, 10, 1] (some 18) none false (.app 18 1 1 (.t 15) (.t 17)) (.op 19 [18, 14, 10, 1] (some 22) none false (.app 22 1 8 (.t 19) (.t 21)) (.op 20 [] (some 23) none true (.build [(.n 1), (.i 0), (.i 0), (.i 0), (.n 1), (.n 1), (.n 1)] [(0, 1, (.t 5)), (1, 1, (.t 7)), (2, 1, (.t 9)), (3, 1, (.t 11)), (4, 1, (.t 14)), (5, 1, (.t 18)), (6, 1, (.t 22))]) (.op 21 [1, 4, 6, 8, 10, 14, 18] none none false (.store (some 7) (.t 2) (.t 23)) .done))))))) (.o 16 19 (.lit 19 1 [(.i 0)] 0 []) (.o 12 15 (.lit 15 1 [(.v (.int .u8 0))] 0 []) (.op 15 [14, 10, 1] (some 18) none false (.app 18 1 1 (.t 15) (.t 17)) (.op 19 [18, 14, 10, 1] (some 22) none false (.app 22 1 8 (.t 19) (.t 21)) (.op 20 [] (some 23) none true (.build [(.n 1), (.i 0), (.i 0), (.i 0), (.n 1), (.n 1), (.n 1)] [(0, 1, (.t 5)), (1, 1, (.t 7)), (2, 1, (.t 9)), (3, 1, (.t 11)), (4, 1, (.t 14)), (5, 1, (.t 18)), (6, 1, (.t 22))]) (.op 21 [1, 4, 6, 8, 10, 14, 18] none none false (.store (some 7) (.t 2) (.t 23)) .done)))))))) (.alt (.o 12 15 (.lit 15 1 [(.v (.int .u8 0))] 0 []) (.alt (.op 11 [10, 1] (some 14) none false (.call 14 75 [(.t 13)]) (.alt (.op 15 [14, 10, 1] (some 18) none false (.app 18 1 1 (.t 15) (.t 17)) (.o 16 19 (.lit 19 1 [(.i 0)] 0 []) (.op 19 [18, 14, 10, 1] (some 22) none false (.app 22 1 8 (.t 19) (.t 21)) (.op 20 [] (some 23) none true (.build [(.n 1), (.i 0), (.i 0), (.i 0), (.n 1), (.n 1), (.n 1)] [(0, 1, (.t 5)), (1, 1, (.t 7)), (2, 1, (.t 9)), (3, 1, (.t 11)), (4, 1, (.t 14)), (5, 1, (.t 18)), (6, 1, (.t 22))]) (.op 21 [1, 4, 6, 8, 10, 14, 18] none none false (.store (some 7) (.t 2) (.t 23)) .done))))) (.o 16 19 (.lit 19 1 [(.i 0)] 0 []) (.op 15 [14, 10, 1] (some 18) none false (.app 18 1 1 (.t 15) (.t 17)) (.op 19 [18, 14, 10, 1] (some 22) none false (.app 22 1 8 (.t 19) (.t 21)) (.op 20 [] (some 23) none true (.build [(.n 1), (.i 0), (.i 0), (.i 0), (.n 1), (.n 1), (.n 1)] [(0, 1, (.t 5)), (1, 1, (.t 7)), (2, 1, (.t 9)), (3, 1, (.t 11)), (4, 1, (.t 14)), (5, 1, (.t 18)), (6, 1, (.t 22))]) (.op 21 [1, 4, 6, 8, 10, 14, 18] none none false (.store (some 7) (.t 2) (.t 23)) .done))))))) (.o 16 19 (.lit 19 1 [(.i 0)] 0 []) (.op 11 [10, 1] (some 14) none false (.call 14 75 [(.t 13)]) (.op 15 [14, 10, 1] (some 18) none false (.app 18 1 1 (.t 15) (.t 17)) (.op 19 [18, 14, 10, 1] (some 22) none false (.app 22 1 8 (.t 19) (.t 21)) (.op 20 [] (some 23) none true (.build [(.n 1), (.i 0), (.i 0), (.i 0), (.n 1), (.n 1), (.n 1)] [(0, 1, (.t 5)), (1, 1, (.t 7)), (2, 1, (.t 9)), (3, 1, (.t 11)), (4, 1, (.t 14)), (5, 1, (.t 18)), (6, 1, (.t 22))]) (.op 21 [1, 4, 6, 8, 10, 14, 18] none none false (.store (some 7) (.t 2) (.t 23)) .done)))))))) (.o 16 19 (.lit 19 1 [(.i 0)] 0 []) (.alt (.op 11 [10, 1] (some 14) none false (.call 14 75 [(.t 13)]) (.o 12 15 (.lit 15 1 [(.v (.int .u8 0))] 0 []) (.op 15 [14, 10, 1] (some 18) none false (.app 18 1 1 (.t 15) (.t 17)) (.op 19 [18, 14, 10, 1] (some 22) none false (.app 22 1 8 (.t 19) (.t 21)) (.op 20 [] (some 23) none true (.build [(.n 1), (.i 0), (.i 0), (.i 0), (.n 1), (.n 1), (.n 1)] [(0, 1, (.t 5)), (1, 1, (.t 7)), (2, 1, (.t 9)), (3, 1, (.t 11)), (4, 1, (.t 14)), (5, 1, (.t 18)), (6, 1, (.t 22))]) (.op 21 [1, 4, 6, 8, 10, 14, 18] none none false (.store (some 7) (.t 2) (.t 23)) .done)))))) (.o 12 15 (.lit 15 1 [(.v (.int .u8 0))] 0 []) (.op 11 [10, 1] (some 14) none false (.call 14 75 [(.t 13)]) (.op 15 [14, 10, 1] (some 18) none false (.app 18 1 1 (.t 15) (.t 17)) (.op 19 [18, 14, 10, 1] (some 22) none false (.app 22 1 8 (.t 19) (.t 21)) (.op 20 [] (some 23) none true (.build [(.n 1), (.i 0), (.i 0), (.i 0), (.n 1), (.n 1), (.n 1)] [(0, 1, (.t 5)), (1, 1, (.t 7)), (2, 1, (.t 9)), (3, 1, (.t 11)), (4, 1, (.t 14)), (5, 1, (.t 18)), (6, 1, (.t 22))]) (.op 21 [1, 4, 6, 8, 10, 14, 18] none none false (.store (some 7) (.t 2) (.t 23)) .done))))))))))) (.alt (.o 12 15 (.lit 15 1 [(.v (.int .u8 0))] 0 []) (.alt (.op 2 [1] (some 5) none false (.call 5 75 [(.t 4)]) (.alt (.op 11 [10, 1] (some 14) none false (.call 14 75 [(.t 13)]) (.alt (.op 15 [14, 10, 1] (some 18) none false (.app 18 1 1 (.t 15) (.t 17)) (.o 16 19 (.lit 19 1 [(.i 0)] 0 []) (.op 19 [18, 14, 10, 1] (some 22) none false (.app 22 1 8 (.t 19) (.t 21)) (.op 20 [] (some 23) none true (.build [(.n 1), (.i 0), (.i 0), (.i 0), (.n 1), (.n 1), (.n 1)] [(0, 1, (.t 5)), (1, 1, (.t 7)), (2, 1, (.t 9)), (3, 1, (.t 11)), (4, 1, (.t 14)), (5, 1, (.t 18)), (6, 1, (.t 22))]) (.op 21 [1, 4, 6, 8, 10, 14, 18] none none false (.store (some 7) (.t 2) (.t 23)) .done))))) (.o 16 19 (.lit 19 1 [(.i 0)] 0 []) (.op 15 [14, 10, 1] (some 18) none false (.app 18 1 1 (.t 15) (.t 17)) (.op 19 [18, 14, 10, 1] (some 22) none false (.app 22 1 8 (.t 19) (.t 21)) (.op 20 [] (some 23) none true (.build [(.n 1), (.i 0), (.i 0), (.i 0), (.n 1), (.n 1), (.n 1)] [(0, 1, (.t 5)), (1, 1, (.t 7)), (2, 1, (.t 9)), (3, 1, (.t 11)), (4, 1, (.t 14)), (5, 1, (.t 18)), (6, 1, (.t 22))]) (.op 21 [1, 4, 6, 8, 10, 14, 18] none none false (.store (some 7) (.t 2) (.t 23)) .done))))))) (.o 16 19 (.lit 19 1 [(.i 0)] 0 []) (.op 11 [10, 1] (some 14) none false (.call 14 75 [(.t 13)]) (.op 15 [14, 10, 1] (some 18) none false (.app 18 1 1 (.t 15) (.t 17)) (.op 19 [18, 14, 10, 1] (some 22) none false (.app 22 1 8 (.t 19) (.t 21)) (.op 20 [] (some 23) none true (.build [(.n 1), (.i 0), (.i 0), (.i 0), (.n 1), (.n 1), (.n 1)] [(0, 1, (.t 5)), (1, 1, (.t 7)), (2, 1, (.t 9)), (3, 1, (.t 11)), (4, 1, (.t 14)), (5, 1, (.t 18)), (6, 1, (.t 22))]) (.op 21 [1, 4, 6, 8, 10, 14, 18] none none false (.store (some 7) (.t 2) (.t 23)) .done)))))))) (.o 16 19 (.lit 19 1 [(.i 0)] 0 []) (.op 2 [1] (some 5) none false (.call 5 75 [(.t 4)]) (.op 11 [10, 1] (some 14) none false (.call 14 75 [(.t 13)]) (.op 15 [14, 10, 1] (some 18) none false (.app 18 1 1 (.t 15) (.t 17)) (.op 19 [18, 14, 10, 1] (some 22) none false (.app 22 1 8 (.t 19) (.t 21)) (.op 20 [] (some 23) none true (.build [(.n 1), (.i 0), (.i 0), (.i 0), (.n 1), (.n 1), (.n 1)] [(0, 1, (.t 5)), (1, 1, (.t 7)), (2, 1, (.t 9)), (3, 1, (.t 11)), (4, 1, (.t 14)), (5, 1, (.t 18)), (6, 1, (.t 22))]) (.op 21 [1, 4, 6, 8, 10, 14, 18] none none false (.store (some 7) (.t 2) (.t 23)) .done))))))))) (.o 16 19 (.lit 19 1 [(.i 0)] 0 []) (.alt (.op 2 [1] (some 5) none false (.call 5 75 [(.t 4)]) (.alt (.op 11 [10, 1] (some 14) none false (.call 14 75 [(.t 13)]) (.o 12 15 (.lit 15 1 [(.v (.int .u8 0))] 0 []) (.op 15 [14, 10, 1] (some 18) none false (.app 18 1 1 (.t 15) (.t 17)) (.op 19 [18, 14, 10, 1] (some 22) none false (.app 22 1 8 (.t 19) (.t 21)) (.op 20 [] (some 23) none true (.build [(.n 1), (.i 0), (.i 0), (.i 0), (.n 1), (.n 1), (.n 1)] [(0, 1, (.t 5)), (1, 1, (.t 7)), (2, 1, (.t 9)), (3, 1, (.t 11)), (4, 1, (.t 14)), (5, 1, (.t 18)), (6, 1, (.t 22))]) (.op 21 [1, 4, 6, 8, 10, 14, 18] none none false (.store (some 7) (.t 2) (.t 23)) .done)))))) (.o 12 15 (.lit 15 1 [(.v (.int .u8 0))] 0 []) (.op 11 [10, 1] (some 14) none false (.call 14 75 [(.t 13)]) (.op 15 [14, 10, 1] (some 18) none false (.app 18 1 1 (.t 15) (.t 17)) (.op 19 [18, 14, 10, 1] (some 22) none false (.app 22 1 8 (.t 19) (.t 21)) (.op 20 [] (some 23) none true (.build [(.n 1), (.i 0), (.i 0), (.i 0), (.n 1), (.n 1), (.n 1)] [(0, 1, (.t 5)), (1, 1, (.t 7)), (2, 1, (.t 9)), (3, 1, (.t 11)), (4, 1, (.t 14)), (5, 1, (.t 18)), (6, 1, (.t 22))]) (.op 21 [1, 4, 6, 8, 10, 14, 18] none none false (.store (some 7) (.t 2) (.t 23)) .done)))))))) (.o 12 15 (.lit 15 1 [(.v (.int .u8 0))] 0 []) (.op 2 [1] (some 5) none false (.call 5 75 [(.t 4)]) (.op 11 [10, 1] (some 14) none false (.call 14 75 [(.t 13)]) (.op 15 [14, 10, 1] (some 18) none false (.app 18 1 1 (.t 15) (.t 17)) (.op 19 [18, 14, 10, 1] (some 22) none false (.app 22 1 8 (.t 19) (.t 21)) (.op 20 [] (some 23) none true (.build [(.n 1), (.i 0), (.i 0), (.i 0), (.n 1), (.n 1), (.n 1)] [(0, 1, (.t 5)), (1, 1, (.t 7)), (2, 1, (.t 9)), (3, 1, (.t 11)), (4, 1, (.t 14)), (5, 1, (.t 18)), (6, 1, (.t 22))]) (.op 21 [1, 4, 6, 8, 10, 14, 18] none none false (.store (some 7) (.t 2) (.t 23)) .done)))))))))))))))))))))))))) .ret))
theorem dg_spec_l3own : Tryd.f55.body.bind (digC Tryd.prog Tryd.f55.ntmps []) = some c_spec_l3own := by kernel_rfl
theorem rs_spec_l3own : resSlots Tryd.prog Tryd.f55 = some [.m 2 (some 7)] := by kernel_rfl
theorem ok_spec_l3own (r : Rr) (hs : SmallR r) :
    FnOK Tryd.prog 55 [.agg (r.cells.map .d)] (fun ra _ => ra = [.agg [.own true (encBB r.name), .d (.sc (.int .i64 r.ty)), .d (.sc (.int .i64 r.ttl)), .d (.sc (.int .i64 r.addr)), .own true (encBB r.to), .own true (encB r.text), .own true (encI r.nums)]]) := by
  refine FnOK.ofK Tryd.func55 (by kernel_rfl) dg_spec_l3own rs_spec_l3own rfl rfl ?_
  delta c_spec_l3own T.o X.i
  have n1 := hs.n.len
  have n2 := hs.n.mem
  have t1 := hs.t.len
  have t2 := hs.t.mem
  have x1 := hs.x
  have m1 := hs.m
  refine kSeq (kCut ⟨tabSl [(1, .c (.ptr (rid 1 0) 1 0)), (2, .c (.ptr (rid 2 0) 1 0))], obTab 1 [(rid 1 0, ⟨1, 0, .box (r.cells.map .d)⟩), (rid 2 0, ⟨1, 0, .box [.nil 1, .d (.sc (.int .i64 0)), .d (.sc (.int .i64 0)), .d (.sc (.int .i64 0)), .nil 1, .nil 1, .nil 1]⟩)], []⟩ ?_ (fun x hc => ?_))
  case refine_2 => refine kReg (kBox rfl rfl rfl rfl rfl (kAlloc rfl rfl (kDone (hc _ .normA))))
  refine kSeq (kCut ⟨tabSl [(2, .c (.ptr (rid 2 0) 1 0))], obTab 1 [(rid 2 0, ⟨1, 0, .box [.arr (rid 5 0) 1, .d (.sc (.int .i64 r.ty)), .d (.sc (.int .i64 r.ttl)), .d (.sc (.int .i64 r.addr)), .arr (rid 14 0) 1, .arr (rid 15 0) 1, .arr (rid 19 0) 1]⟩), (rid 5 0, ⟨1, 0, .arr true (encBB r.name)⟩), (rid 14 0, ⟨1, 0, .arr true (encBB r.to)⟩), (rid 15 0, ⟨1, 0, .arr true (encB r.text)⟩), (rid 19 0, ⟨1, 0, .arr true (encI r.nums)⟩)], []⟩ ?_ (fun x hc => ?_))
  case refine_2 => refine kRegD (kFadP rfl rfl (kLoadP rfl rfl rfl (kFadP rfl rfl (kLoadP rfl rfl rfl (kFadP rfl rfl (kLoadP rfl rfl rfl (kFadP rfl rfl (kLoadP rfl rfl rfl (kFadP rfl rfl (kLoadP rfl rfl rfl (kFadP rfl rfl (kLoadP rfl rfl rfl (kFadP rfl rfl (kLoadP rfl rfl rfl (kAlt (kRelK rfl rfl (kCall1 true (ok_spec_l2own _ pr pr) ⟨⟨⟨rfl, trivial⟩, leb⟩, trivial⟩ rfl rfl rfl (fun _ => (kAlt (kRelK rfl rfl (kCall1 true (ok_spec_l2own _ pr pr) ⟨⟨⟨rfl, trivial⟩, leb⟩, trivial⟩ rfl rfl rfl (fun _ => (kAlt (kLit rfl rfl rfl rfl (kAlt (kRelK rfl rfl (kAppN rfl rfl rfl (src_encB _ _) rfl rfl rfl rfl (by omega) (kLit rfl rfl rfl rfl (kRelK rfl rfl (kAppN rfl rfl rfl (src_encI _ _) rfl rfl rfl rfl (by omega) (kBuildG rfl (kRelF rfl rfl (kStoreP rfl rfl rfl rfl (kDone (kH (hc _ .normA))))))))))) (kLit rfl rfl rfl rfl (kRelK rfl rfl (kAppN rfl rfl rfl (src_encB _ _) rfl rfl rfl rfl (by omega) (kRelK rfl rfl (kAppN rfl rfl rfl (src_encI _ _) rfl rfl rfl rfl (by omega) (kBuildG rfl (kRelF rfl rfl (kStoreP rfl rfl rfl rfl (kDone (kH (hc _ .normA))))))))))))) (kLit rfl rfl rfl rfl (kLit rfl rfl rfl rfl (kRelK rfl rfl (kAppN rfl rfl rfl (src_encB _ _) rfl rfl rfl rfl (by omega) (kRelK rfl rfl (kAppN rfl rfl rfl (src_encI _ _) rfl rfl rfl rfl (by omega) (kBuildG rfl (kRelF rfl rfl (kStoreP rfl rfl rfl rfl (kDone (kH (hc _ .normA)))))))))))))))) (kAlt (kLit rfl rfl rfl rfl (kAlt (kRelK rfl rfl (kCall1 true (ok_spec_l2own _ pr pr) ⟨⟨⟨rfl, trivial⟩, leb⟩, trivial⟩ rfl rfl rfl (fun _ => (kAlt (kRelK rfl rfl (kAppN rfl rfl rfl (src_encB _ _) rfl rfl rfl rfl (by omega) (kLit rfl rfl rfl rfl (kRelK rfl rfl (kAppN rfl rfl rfl (src_encI _ _) rfl rfl rfl rfl (by omega) (kBuildG rfl (kRelF rfl rfl (kStoreP rfl rfl rfl rfl (kDone (kH (hc _ .normA))))))))))) (kLit rfl rfl rfl rfl (kRelK rfl rfl (kAppN rfl rfl rfl (src_encB _ _) rfl rfl rfl rfl (by omega) (kRelK rfl rfl (kAppN rfl rfl rfl (src_encI _ _) rfl rfl rfl rfl (by omega) (kBuildG rfl (kRelF rfl rfl (kStoreP rfl rfl rfl rfl (kDone (kH (hc _ .normA))))))))))))))) (kLit rfl rfl rfl rfl (kRelK rfl rfl (kCall1 true (ok_spec_l2own _ pr pr) ⟨⟨⟨rfl, trivial⟩, leb⟩, trivial⟩ rfl rfl rfl (fun _ => (kRelK rfl rfl (kAppN rfl rfl rfl (src_encB _ _) rfl rfl rfl rfl (by omega) (kRelK rfl rfl (kAppN rfl rfl rfl (src_encI _ _) rfl rfl rfl rfl (by omega) (kBuildG rfl (kRelF rfl rfl (kStoreP rfl rfl rfl rfl (kDone (kH (hc _ .normA)))))))))))))))) (kLit rfl rfl rfl rfl (kAlt (kRelK rfl rfl (kCall1 true (ok_spec_l2own _ pr pr) ⟨⟨⟨rfl, trivial⟩, leb⟩, trivial⟩ rfl rfl rfl (fun _ => (kLit rfl rfl rfl rfl (kRelK rfl rfl (kAppN rfl rfl rfl (src_encB _ _) rfl rfl rfl rfl (by omega) (kRelK rfl rfl (kAppN rfl rfl rfl (src_encI _ _) rfl rfl rfl rfl (by omega) (kBuildG rfl (kRelF rfl rfl (kStoreP rfl rfl rfl rfl (kDone (kH (hc _ .normA)))))))))))))) (kLit rfl rfl rfl rfl (kRelK rfl rfl (kCall1 true (ok_spec_l2own _ pr pr) ⟨⟨⟨rfl, trivial⟩, leb⟩, trivial⟩ rfl rfl rfl (fun _ => (kRelK rfl rfl (kAppN rfl rfl rfl (src_encB _ _) rfl rfl rfl rfl (by omega) (kRelK rfl rfl (kAppN rfl rfl rfl (src_encI _ _) rfl rfl rfl rfl (by omega) (kMem [(24576, ⟨2, 0, .arr true _⟩), (61440, ⟨2, 0, .arr true _⟩), (65536, ⟨3, 0, .arr true _⟩), (81920, ⟨3, 0, .arr true _⟩), (12288, ⟨1, 0, .box [.nil 1, .d _, .d _, .d _, .nil 1, .nil 1, .nil 1]⟩)] [(5, .g [.arr 24576 2]), (7, .c (.d _)), (9, .c (.d _)), (11, .c (.d _)), (14, .g [.arr 61440 2]), (18, .c (.arr 65536 3)), (22, .c (.arr 81920 3)), (2, .c (.ptr 12288 1 0))] [8192, 8192, 8192, 8192, 8192, 8192, 8192] ⟨rfl, rfl, rfl, rfl, rfl, trivial⟩ ⟨rfl, rfl, rfl, rfl, rfl, rfl, rfl, rfl, trivial⟩ rfl (kBuildG rfl (kMem [(12288, ⟨1, 0, .box [.nil 1, .d _, .d _, .d _, .nil 1, .nil 1, .nil 1]⟩), (24576, ⟨2, 0, .arr true _⟩), (61440, ⟨2, 0, .arr true _⟩), (65536, ⟨3, 0, .arr true _⟩), (81920, ⟨3, 0, .arr true _⟩)] [(2, .c (.ptr 12288 1 0)), (23, .g [.arr 24576 2, .d _, .d _, .d _, .arr 61440 2, .arr 65536 3, .arr 81920 3])] [8192, 8192, 8192, 8192, 8192, 8192, 8192] ⟨rfl, rfl, rfl, rfl, rfl, trivial⟩ ⟨rfl, rfl, trivial⟩ rfl (kRelF rfl rfl (kStoreP rfl rfl rfl rfl (kDone (kH (kMem [(12288, ⟨1, 0, .box [.arr 24576 2, .d _, .d _, .d _, .arr 61440 2, .arr 65536 3, .arr 81920 3]⟩), (24576, ⟨2, 0, .arr true _⟩), (61440, ⟨2, 0, .arr true _⟩), (65536, ⟨3, 0, .arr true _⟩), (81920, ⟨3, 0, .arr true _⟩)] [(2, .c (.ptr 12288 1 0))] [] ⟨rfl, rfl, rfl, rfl, rfl, trivial⟩ ⟨rfl, trivial⟩ rfl (hc _ .normA)))))))))))))))))))))))) (kAlt (kLit rfl rfl rfl rfl (kMem [(65536, ⟨2, 0, .arr true _⟩), (12288, ⟨1, 0, .box [.nil 1, .d _, .d _, .d _, .nil 1, .nil 1, .nil 1]⟩)] [(4, .g [.d _]), (13, .g [.d _]), (15, .c (.arr 65536 2)), (17, .c (.d _)), (21, .c (.d _)), (7, .c (.d _)), (9, .c (.d _)), (11, .c (.d _)), (2, .c (.ptr 12288 1 0))] [8192, 8192, 8192, 8192, 8192, 8192, 8192] ⟨rfl, rfl, trivial⟩ ⟨rfl, rfl, rfl, rfl, rfl, rfl, rfl, rfl, rfl, trivial⟩ rfl (kAlt (kRelK rfl rfl (kCall1 true (ok_spec_l2own _ pr pr) ⟨⟨⟨rfl, trivial⟩, leb⟩, trivial⟩ rfl rfl rfl (fun _ => (kAlt (kRelK rfl rfl (kCall1 true (ok_spec_l2own _ pr pr) ⟨⟨⟨rfl, trivial⟩, leb⟩, trivial⟩ rfl rfl rfl (fun _ => (kAlt (kRelK rfl rfl (kAppN rfl rfl rfl (src_encB _ _) rfl rfl rfl rfl (by omega) (kLit rfl rfl rfl rfl (kRelK rfl rfl (kAppN rfl rfl rfl (src_encI _ _) rfl rfl rfl rfl (by omega) (kBuildG rfl (kRelF rfl rfl (kStoreP rfl rfl rfl rfl (kDone (kH (hc _ .normA))))))))))) (kLit rfl rfl rfl rfl (kRelK rfl rfl (kAppN rfl rfl rfl (src_encB _ _) rfl rfl rfl rfl (by omega) (kRelK rfl rfl (kAppN rfl rfl rfl (src_encI _ _) rfl rfl rfl rfl (by omega) (kBuildG rfl (kRelF rfl rfl (kStoreP rfl rfl rfl rfl (kDone (kH (hc _ .normA))))))))))))))) (kLit rfl rfl rfl rfl (kRelK rfl rfl (kCall1 true (ok_spec_l2own _ pr pr) ⟨⟨⟨rfl, trivial⟩, leb⟩, trivial⟩ rfl rfl rfl (fun _ => (kRelK rfl rfl (kAppN rfl rfl rfl (src_encB _ _) rfl rfl rfl rfl (by omega) (kRelK rfl rfl (kAppN rfl rfl rfl (src_encI _ _) rfl rfl rfl rfl (by omega) (kBuildG rfl (kRelF rfl rfl (kStoreP rfl rfl rfl rfl (kDone (kH (hc _ .normA)))))))))))))))))) (kLit rfl rfl rfl rfl (kRelK rfl rfl (kCall1 true (ok_spec_l2own _ pr pr) ⟨⟨⟨rfl, trivial⟩, leb⟩, trivial⟩ rfl rfl rfl (fun _ => (kRelK rfl rfl (kCall1 true (ok_spec_l2own _ pr pr) ⟨⟨⟨rfl, trivial⟩, leb⟩, trivial⟩ rfl rfl rfl (fun _ => (kRelK rfl rfl (kAppN rfl rfl rfl (src_encB _ _) rfl rfl rfl rfl (by omega) (kRelK rfl rfl (kAppN rfl rfl rfl (src_encI _ _) rfl rfl rfl rfl (by omega) (kBuildG rfl (kRelF rfl rfl (kStoreP rfl rfl rfl rfl (kDone (kH (hc _ .normA)))))))))))))))))))) (kLit rfl rfl rfl rfl (kAlt (kRelK rfl rfl (kCall1 true (ok_spec_l2own _ pr pr) ⟨⟨⟨rfl, trivial⟩, leb⟩, trivial⟩ rfl rfl rfl (fun _ => (kAlt (kRelK rfl rfl (kCall1 true (ok_spec_l2own _ pr pr) ⟨⟨⟨rfl, trivial⟩, leb⟩, trivial⟩ rfl rfl rfl (fun _ => (kLit rfl rfl rfl rfl (kRelK rfl rfl (kAppN rfl rfl rfl (src_encB _ _) rfl rfl rfl rfl (by omega) (kRelK rfl rfl (kAppN rfl rfl rfl (src_encI _ _) rfl rfl rfl rfl (by omega) (kBuildG rfl (kRelF rfl rfl (kStoreP rfl rfl rfl rfl (kDone (kH (hc _ .normA)))))))))))))) (kLit rfl rfl rfl rfl (kRelK rfl rfl (kCall1 true (ok_spec_l2own _ pr pr) ⟨⟨⟨rfl, trivial⟩, leb⟩, trivial⟩ rfl rfl rfl (fun _ => (kRelK rfl rfl (kAppN rfl rfl rfl (src_encB _ _) rfl rfl rfl rfl (by omega) (kRelK rfl rfl (kAppN rfl rfl rfl (src_encI _ _) rfl rfl rfl rfl (by omega) (kBuildG rfl (kRelF rfl rfl (kStoreP rfl rfl rfl rfl (kDone (kH (hc _ .normA)))))))))))))))))) (kLit rfl rfl rfl rfl (kRelK rfl rfl (kCall1 true (ok_spec_l2own _ pr pr) ⟨⟨⟨rfl, trivial⟩, leb⟩, trivial⟩ rfl rfl rfl (fun _ => (kRelK rfl rfl (kCall1 true (ok_spec_l2own _ pr pr) ⟨⟨⟨rfl, trivial⟩, leb⟩, trivial⟩ rfl rfl rfl (fun _ => (kRelK rfl rfl (kAppN rfl rfl rfl (src_encB _ _) rfl rfl rfl rfl (by omega) (kRelK rfl rfl (kAppN rfl rfl rfl (src_encI _ _) rfl rfl rfl rfl (by omega) (kBuildG rfl (kRelF rfl rfl (kStoreP rfl rfl rfl rfl (kDone (kH (hc _ .normA)))))))))))))))))))))))))))))))))))
  refine (kRet (endRetA (ra := [.agg [(.own true _), (.d _), (.d _), (.d _), (.own true _), (.own true _), (.own true _)]]) rfl rfl))

def c_spec_DrawRrSame : C := (.seq (.reg false (.o 0 2 (.alloc 2 [(.n 1), (.i 0), (.i 0), (.i 0), (.n 1), (.n 1), (.n 1)]) (.o 1 3 (.alloc 3 [(.n 1), (.i 0), (.i 0), (.i 0), (.n 1), (.n 1), (.n 1)]) .done))) (.seq (.reg false (.o 0 7 (.mov (.t 0)) (.o 1 8 (.call 8 18 [(.t 7)]) (.o 2 4 (.mov (.t 8)) .done)))) (.seq (.reg false (.o 0 9 (.mov (.t 4)) (.o 1 10 (.call 10 54 [(.t 9)]) (.o 2 5 (.alloc 5 [(.n 1), (.i 0), (.i 0), (.i 0), (.n 1), (.n 1), (.n 1)]) (.op 3 [] none none false (.store (some 7) (.t 5) (.t 10)) .done))))) (.seq (.seq (.reg false (.o 0 11 (.mov (.t 4)) (.o 1 12 (.call 12 40 [(.t 11), (.i 2)]) .done))) (.cond (.t 12) (.seq (.reg false (.o 0 13 (.load (some 7) (.t 5)) (.o 1 14 (.call 14 55 [(.t 13)]) (.o 2 6 (.alloc 6 [(.n 1), (.i 0), (.i 0), (.i 0), (.n 1), (.n 1), (.n 1)]) (.op 3 [] none none false (.store (some 7) (.t 6) (.t 14)) .done))))) (.seq (.reg false (.o 0 15 (.mov (.t 4)) (.o 1 16 (.call 16 41 [(.t 15), (.i 90)]) (.o 2 17 (.fad (.t 6) 2) (.op 3 [] none none false (.store none (.t 17) (.t 16)) .done))))) (.seq (.reg true (.op 0 [] (some 18) none true (.load (some 7) (.t 5)) (.op 1 [] (some 19) none true (.load (some 7) (.t 6)) (.op 2 [0] none none false (.store (some 7) (.t 2) (.t 18)) (.op 3 [1, 0] none none false (.store (some 7) (.t 3) (.t 19)) .done))))) .ret))) .skip)) (.seq (.reg true (.op 0 [] (some 20) none true (.load (some 7) (.t 5)) (.op 1 [] (some 21) none true (.mov (.t 4)) (.o 2 22 (.call 22 54 [(.t 21)]) (.op 3 [0] none none false (.store (some 7) (.t 2) (.t 20)) (.op 4 [0] none none false (.store (some 7) (.t 3) (.t 22)) .done)))))) .ret)))))
theorem dg_spec_DrawRrSame : Tryd.f33.body.bind (digC Tryd.prog Tryd.f33.ntmps []) = some c_spec_DrawRrSame := by kernel_rfl
theorem rs_spec_DrawRrSame : resSlots Tryd.prog Tryd.f33 = some [.m 2 (some 7), .m 3 (some 7)] := by kernel_rfl
theorem ok_spec_DrawRrSame (code : List UInt8) (hb : (code.length : Int) ≤ 9223372036854775807) :
    FnOK Tryd.prog 33 [.one (.d (encB code))] (fun ra _ => ∃ x : Rr × Rr, (SmallR x.1 ∧ SmallR x.2) ∧ ra = [.agg (x.1.cells.map .d), .agg (x.2.cells.map .d)]) := by
  refine FnOK.ofK Tryd.func33 (by kernel_rfl) dg_spec_DrawRrSame rs_spec_DrawRrSame rfl rfl ?_
  delta c_spec_DrawRrSame T.o X.i
  refine kSeq (kReg (kAlloc rfl rfl (kAlloc rfl rfl (kDone (kSeq (kReg (kMovC rfl (kCallX false (ok_spec_l1New _ (by first | assumption | omega | solve_by_elim [List.getElem_mem] | (simp only [szOut] at *; omega) | exact rfl | exact leb | exact rrOk_small (by assumption) | exact zoneOk_small (by assumption) | exact SmallBB.ok (by assumption) | exact (SmallBB.ok (by assumption)).len | exact (SmallBB.ok (by assumption)).mem | exact SmallBB.bent (by assumption))) ⟨rfl, trivial⟩ rfl (fun _ => rfl) (fun _ => rfl) (fun x0 _ hx0 => (kMovC rfl (kDone (kSeq (kReg (kMovC rfl (kCallE (ok_spec_l3bent _) ⟨⟨rfl, _, rfl, rfl⟩, trivial⟩ rfl rfl rfl (fun _ => rfl) (fun x1 hx1 => (kAlloc rfl rfl (kMem [(24576, ⟨1, 0, .box [.nil 1, .d _, .d _, .d _, .nil 1, .nil 1, .nil 1]⟩)] [(5, .c (.ptr 24576 1 0)), (10, .g [.d _, .d _, .d _, .d _, .d _, .d _, .d _])] [] ⟨rfl, trivial⟩ ⟨rfl, rfl, trivial⟩ rfl (kStoreP rfl rfl rfl rfl (kDone (kSeq (kSeq (kReg (kMovC rfl (kCallE (ok_spec_l1Once _ _) ⟨⟨rfl, _, rfl, rfl⟩, rfl, trivial⟩ rfl rfl rfl (fun _ => rfl) (fun x2 hx2 => (kDone (kCond rfl (fun g3 => kSeq (kReg (kLoadP rfl rfl rfl (kCall1 true (ok_spec_l3own _ (by first | assumption | omega | solve_by_elim [List.getElem_mem] | (simp only [szOut] at *; omega) | exact rfl | exact leb | exact rrOk_small (by assumption) | exact zoneOk_small (by assumption) | exact SmallBB.ok (by assumption) | exact (SmallBB.ok (by assumption)).len | exact (SmallBB.ok (by assumption)).mem | exact SmallBB.bent (by assumption))) ⟨⟨⟨rfl, rfl, rfl, rfl, rfl, rfl, rfl, trivial⟩, leb⟩, trivial⟩ rfl rfl rfl (fun _ => (kAlloc rfl rfl (kMem [(28672, ⟨1, 0, .box [.nil 1, .d _, .d _, .d _, .nil 1, .nil 1, .nil 1]⟩), (61440, ⟨1, 0, .arr true _⟩), (61444, ⟨1, 0, .arr true _⟩), (61445, ⟨1, 0, .arr true _⟩), (61446, ⟨1, 0, .arr true _⟩)] [(6, .c (.ptr 28672 1 0)), (14, .g [.arr 61440 1, .d _, .d _, .d _, .arr 61444 1, .arr 61445 1, .arr 61446 1])] [] ⟨rfl, rfl, rfl, rfl, rfl, trivial⟩ ⟨rfl, rfl, trivial⟩ rfl (kStoreP rfl rfl rfl rfl (kDone (kSeq (kReg (kMovC rfl (kCallE (ok_spec_l1Below _ _) ⟨⟨rfl, _, rfl, rfl⟩, rfl, trivial⟩ rfl rfl rfl (fun _ => rfl) (fun x4 hx4 => (kFadP rfl rfl (kStoreP rfl rfl rfl rfl (kDone (kSeq (kRegD (kLoadP rfl rfl rfl (kLoadP rfl rfl rfl (kMem [(12288, ⟨1, 0, .box [.nil 1, .d _, .d _, .d _, .nil 1, .nil 1, .nil 1]⟩), (16384, ⟨1, 0, .box [.nil 1, .d _, .d _, .d _, .nil 1, .nil 1, .nil 1]⟩), (61440, ⟨1, 0, .arr true _⟩), (61444, ⟨1, 0, .arr true _⟩), (61445, ⟨1, 0, .arr true _⟩), (61446, ⟨1, 0, .arr true _⟩)] [(2, .c (.ptr 12288 1 0)), (18, .g [.d _, .d _, .d _, .d _, .d _, .d _, .d _]), (3, .c (.ptr 16384 1 0)), (19, .g [.arr 61440 1, .d _, .d _, .d _, .arr 61444 1, .arr 61445 1, .arr 61446 1])] [28672, 24576] ⟨rfl, rfl, rfl, rfl, rfl, rfl, trivial⟩ ⟨rfl, rfl, rfl, rfl, trivial⟩ rfl (kRelK rfl rfl (kStoreP rfl rfl rfl rfl (kMem [(16384, ⟨1, 0, .box [.nil 1, .d _, .d _, .d _, .nil 1, .nil 1, .nil 1]⟩), (61440, ⟨1, 0, .arr true _⟩), (61444, ⟨1, 0, .arr true _⟩), (61445, ⟨1, 0, .arr true _⟩), (61446, ⟨1, 0, .arr true _⟩)] [(3, .c (.ptr 16384 1 0)), (19, .g [.arr 61440 1, .d _, .d _, .d _, .arr 61444 1, .arr 61445 1, .arr 61446 1])] [28672, 24576] ⟨rfl, rfl, rfl, rfl, rfl, trivial⟩ ⟨rfl, rfl, trivial⟩ rfl (kRelF rfl rfl (kStoreP rfl rfl rfl rfl (kDone (kH ?_))))))))))))))))))))))))))))) (fun g3 => kSkip (kSeq (kRegD (kLoadP rfl rfl rfl (kMovC rfl (kCallE (ok_spec_l3bent _) ⟨⟨rfl, _, rfl, rfl⟩, trivial⟩ rfl rfl rfl (fun _ => rfl) (fun x5 hx5 => (kMem [(12288, ⟨1, 0, .box [.nil 1, .d _, .d _, .d _, .nil 1, .nil 1, .nil 1]⟩), (16384, ⟨1, 0, .box [.nil 1, .d _, .d _, .d _, .nil 1, .nil 1, .nil 1]⟩)] [(2, .c (.ptr 12288 1 0)), (20, .g [.d _, .d _, .d _, .d _, .d _, .d _, .d _]), (3, .c (.ptr 16384 1 0)), (22, .g [.d _, .d _, .d _, .d _, .d _, .d _, .d _])] [24576] ⟨rfl, rfl, trivial⟩ ⟨rfl, rfl, rfl, rfl, trivial⟩ rfl (kRelF rfl rfl (kStoreP rfl rfl rfl rfl (kMem [(16384, ⟨1, 0, .box [.nil 1, .d _, .d _, .d _, .nil 1, .nil 1, .nil 1]⟩)] [(3, .c (.ptr 16384 1 0)), (22, .g [.d _, .d _, .d _, .d _, .d _, .d _, .d _])] [] ⟨rfl, trivial⟩ ⟨rfl, rfl, trivial⟩ rfl (kRelF rfl rfl (kStoreP rfl rfl rfl rfl (kDone (kH ?_)))))))))))))))))))))))))))))))))))))))))))
  · exact kRet (endRetA (ra := [.agg [.d _, .d _, .d _, .d _, .d _, .d _, .d _], .agg [.d _, .d _, .d _, .d _, .d _, .d _, .d _]]) rfl ⟨(x1.1, { x1.1 with ttl := x4.1 }), ⟨hx1, ⟨hx1.n, hx1.t, hx1.x, hx1.m⟩⟩, rfl⟩)
  · exact kRet (endRetA (ra := [.agg [.d _, .d _, .d _, .d _, .d _, .d _, .d _], .agg [.d _, .d _, .d _, .d _, .d _, .d _, .d _]]) rfl ⟨(x1.1, x5.1), ⟨hx1, hx5⟩, rfl⟩)

def c_spec_DrawRrCmp : C := (.seq (.reg false (.o 0 2 (.alloc 2 [(.n 1), (.i 0), (.i 0), (.i 0), (.n 1), (.n 1), (.n 1)]) (.o 1 3 (.alloc 3 [(.n 1), (.i 0), (.i 0), (.i 0), (.n 1), (.n 1), (.n 1)]) .done))) (.seq (.reg false (.o 0 4 (.mov (.t 0)) (.o 1 5 (.call 5 33 [(.t 4)]) (.o 2 6 (.ext (.t 5) 0) (.o 3 7 (.ext (.t 5) 1) (.op 4 [] none none false (.store (some 7) (.t 2) (.t 6)) (.op 5 [] none none false (.store (some 7) (.t 3) (.t 7)) .done))))))) .ret))
theorem dg_spec_DrawRrCmp : Tryd.f14.body.bind (digC Tryd.prog Tryd.f14.ntmps []) = some c_spec_DrawRrCmp := by kernel_rfl
theorem rs_spec_DrawRrCmp : resSlots Tryd.prog Tryd.f14 = some [.m 2 (some 7), .m 3 (some 7)] := by kernel_rfl
theorem ok_spec_DrawRrCmp (code : List UInt8) (hb : (code.length : Int) ≤ 9223372036854775807) :
    FnOK Tryd.prog 14 [.one (.d (encB code))] (fun ra _ => ∃ x : Rr × Rr, (SmallR x.1 ∧ SmallR x.2) ∧ ra = [.agg (x.1.cells.map .d), .agg (x.2.cells.map .d)]) := by
  refine FnOK.ofK Tryd.func14 (by kernel_rfl) dg_spec_DrawRrCmp rs_spec_DrawRrCmp rfl rfl ?_
  delta c_spec_DrawRrCmp T.o X.i
  refine kSeq (kReg (kAlloc rfl rfl (kAlloc rfl rfl (kDone (kSeq (kReg (kMovC rfl (kCallX false (ok_spec_DrawRrSame _ (by first | assumption | omega | solve_by_elim [List.getElem_mem] | (simp only [szOut] at *; omega) | exact rfl | exact leb | exact rrOk_small (by assumption) | exact zoneOk_small (by assumption) | exact SmallBB.ok (by assumption) | exact (SmallBB.ok (by assumption)).len | exact (SmallBB.ok (by assumption)).mem | exact SmallBB.bent (by assumption))) ⟨rfl, trivial⟩ rfl (fun _ => rfl) (fun _ => rfl) (fun x0 _ hx0 => (kExtC rfl rfl (kExtC rfl rfl (kMem [(12288, ⟨1, 0, .box [.nil 1, .d _, .d _, .d _, .nil 1, .nil 1, .nil 1]⟩), (16384, ⟨1, 0, .box [.nil 1, .d _, .d _, .d _, .nil 1, .nil 1, .nil 1]⟩)] [(2, .c (.ptr 12288 1 0)), (6, .g [.d _, .d _, .d _, .d _, .d _, .d _, .d _]), (3, .c (.ptr 16384 1 0)), (7, .g [.d _, .d _, .d _, .d _, .d _, .d _, .d _])] [] ⟨rfl, rfl, trivial⟩ ⟨rfl, rfl, rfl, rfl, trivial⟩ rfl (kStoreP rfl rfl rfl rfl (kMem [(16384, ⟨1, 0, .box [.nil 1, .d _, .d _, .d _, .nil 1, .nil 1, .nil 1]⟩)] [(3, .c (.ptr 16384 1 0)), (7, .g [.d _, .d _, .d _, .d _, .d _, .d _, .d _])] [] ⟨rfl, trivial⟩ ⟨rfl, rfl, trivial⟩ rfl (kStoreP rfl rfl rfl rfl (kDone ?_))))))))))))))))
  exact kRet (endRetA (ra := [.agg [.d _, .d _, .d _, .d _, .d _, .d _, .d _], .agg [.d _, .d _, .d _, .d _, .d _, .d _, .d _]]) rfl ⟨x0, hx0, rfl⟩)

def c_impl_within : C := (.seq (.reg false (.o 0 6 (.mov (.v (.bool false))) .done)) (.seq (.reg false (.o 0 7 (.mov (.t 1)) (.o 1 8 (.mov (.t 0)) (.o 2 9 (.bin .leq (.t 7) (.t 8)) (.o 3 10 (.mov (.t 9)) (.op 4 [] (some 11) (some (10, true)) false (.mov (.t 0)) (.op 5 [] (some 12) (some (10, true)) false (.mov (.t 2)) (.op 6 [] (some 13) (some (10, true)) false (.bin .leq (.t 11) (.t 12)) (.o 7 14 (.pick (.t 10) (.t 13) (.v (.bool false))) (.o 8 6 (.mov (.t 14)) .done)))))))))) .ret))
theorem dg_impl_within : Tryd.f30.body.bind (digC Tryd.prog Tryd.f30.ntmps []) = some c_impl_within := by kernel_rfl
theorem rs_impl_within : resSlots Tryd.prog Tryd.f30 = some [.s 6] := by kernel_rfl
theorem ok_impl_within (n lo hi : Int) : FnOK Tryd.prog 30 [.one (.d (.sc (.int .i64 n))), .one (.d (.sc (.int .i64 lo))), .one (.d (.sc (.int .i64 hi)))] (fun ra _ => ra = [.one (.d (.sc (.bool (decide (lo ≤ n ∧ n ≤ hi)))))]) := by
  refine FnOK.ofK Tryd.func30 (by kernel_rfl) dg_impl_within rs_impl_within rfl rfl ?_
  delta c_impl_within T.o X.i
  repeat' first
    | refine kSeq ?_ | refine kReg ?_ | refine kDone ?_ | refine kMovC rfl ?_ | refine kBin rfl rfl rfl ?_
    | refine kGT rfl ?_ | refine kGF rfl ?_ | refine kGU rfl ?_ | refine kG rfl (fun h => ?_) (fun h => ?_)
    | refine kPickT rfl ?_ | refine kPickF rfl ?_ | refine kPick rfl (fun h => ?_) (fun h => ?_) | refine kRet ?_
  all_goals refine endRet (ra := [.one (.d _)]) rfl ⟨⟨⟨rfl, .inl rfl⟩, trivial⟩, .nil, trivial, trivial, trivial, trivial⟩ ?_
  all_goals simp_all
  all_goals omega

def c_impl_all_byte_1 : C := (.seq (.reg false (.o 0 3 (.mov (.v (.bool false))) .done)) (.seq (.reg false (.o 0 4 (.load none (.t 1)) (.o 1 5 (.mov (.t 0)) (.o 2 6 (.callv 6 (.t 4) [(.t 5)]) (.o 3 7 (.un .not (.t 6)) (.o 4 3 (.mov (.t 7)) .done)))))) .ret))
theorem dg_impl_all_byte_1 : Tryd.f53.body.bind (digC Tryd.prog Tryd.f53.ntmps []) = some c_impl_all_byte_1 := by kernel_rfl
theorem rs_impl_all_byte_1 : resSlots Tryd.prog Tryd.f53 = some [.s 3] := by kernel_rfl
theorem ok_impl_all_byte_1 (x : DV) (D : DV → Prop) (g : DV → Bool) (hx : D x) :
    FnOK Tryd.prog 53 [.one (.d x), .one (.ptr [.fv false (fcPred D g)])] (fun ra _ => ra = [.one (.d (.sc (.bool (!g x))))]) := by
  refine FnOK.ofK Tryd.func53 (by kernel_rfl) dg_impl_all_byte_1 rs_impl_all_byte_1 rfl rfl ?_
  delta c_impl_all_byte_1 T.o X.i
  refine kSeq (kReg (kMovC rfl (kDone ?_)))
  refine kSeq (kReg (kLoadC rfl rfl (kMovC rfl (kCallv rfl ⟨x, hx, rfl, rfl⟩ ⟨rfl, trivial⟩ (.inr ?_) rfl ?_ rfl ?_))))
  · rintro _ rfl; rfl
  · rintro _ rfl; exact leb
  rintro _ rfl
  refine kUn rfl rfl (kMovC rfl (kDone (kRet ?_)))
  exact endRet (ra := [.one (.d _)]) rfl ⟨⟨⟨rfl, .inl rfl⟩, trivial⟩, .nil, trivial, trivial, trivial⟩ rfl

def c_slices_IndexFunc_Lbyte_byte : C := (.seq (.reg false (.o 0 4 (.mov (.i 0)) .done)) (.seq (.seq (.reg false (.o 0 6 (.mov (.t 0)) (.o 1 7 (.len (.t 6)) (.o 2 8 (.mov (.i 0)) .done)))) (.block 0 (.loop (.seq (.reg false (.o 0 9 (.bin .lss (.t 8) (.t 7)) .done)) (.seq (.cond (.t 9) .skip (.exit 0)) (.seq (.block 1 (.seq (.reg false (.o 0 10 (.mov (.t 8)) (.o 1 5 (.mov (.t 10)) .done))) (.seq (.reg false (.o 0 11 (.mov (.t 1)) (.o 1 12 (.mov (.t 0)) (.o 2 13 (.mov (.t 5)) (.o 3 14 (.iad 1 (.t 12) (.t 13)) (.o 4 15 (.load none (.t 14)) (.o 5 16 (.callv 16 (.t 11) [(.t 15)]) .done))))))) (.cond (.t 16) (.seq (.reg false (.o 0 17 (.mov (.t 5)) (.o 1 4 (.mov (.t 17)) .done))) .ret) .skip)))) (.reg false (.o 0 18 (.bin .add (.t 8) (.i 1)) (.o 1 8 (.mov (.t 18)) .done))))))))) (.seq (.reg false (.o 0 4 (.mov (.i (-1))) .done)) .ret)))
theorem dg_slices_IndexFunc_Lbyte_byte : Tryd.f72.body.bind (digC Tryd.prog Tryd.f72.ntmps []) = some c_slices_IndexFunc_Lbyte_byte := by kernel_rfl
theorem rs_slices_IndexFunc_Lbyte_byte : resSlots Tryd.prog Tryd.f72 = some [.s 4] := by kernel_rfl
theorem ok_slices_IndexFunc_Lbyte_byte (l : List DV) (D : DV → Prop) (g : DV → Bool) (hl : (l.length : Int) ≤ 9223372036854775807) (hD : ∀ x ∈ l, D x) :
    FnOK Tryd.prog 72 [.one (.d (lst l)), .one (.fv false (fcPred D g))] (fun ra _ => ra = [.one (.d (.sc (.int .i64 (idxF g l))))]) := by
  refine FnOK.ofK Tryd.func72 (by kernel_rfl) dg_slices_IndexFunc_Lbyte_byte rs_slices_IndexFunc_Lbyte_byte rfl rfl ?_
  delta c_slices_IndexFunc_Lbyte_byte T.o X.i
  refine kSeq (kReg (kMovC rfl (kDone ?_)))
  refine kSeq (kSeq (kReg (kMovC rfl (kLen rfl rfl rfl (kMovC rfl (kDone (kBlock ?_)))))))
  rw [len_lst]
  refine kLoop (α := { i : Nat // i ≤ l.length ∧ ∀ x ∈ l.take i, g x = false })
    (fun y => ⟨tabSl [(0, .dv (lst l)), (1, .c (.fv false (fcPred D g))), (7, .i l.length), (8, .i y.1)], (St.init [.one (.d (lst l)), .one (.fv false (fcPred D g))]).ob, []⟩) (fun y => l.length - y.1) ⟨0, by simp⟩
    (.tab rfl ⟨.refl _, .refl _, .refl _, .refl _, trivial⟩) ?_
  rintro ⟨i, hi, hg⟩
  simp only
  refine kSeq (kReg (kBin rfl rfl rfl (kDone ?_)))
  refine kSeq (kCond rfl (fun h1 => ?_) (fun h1 => ?_))
  · have hlt : i < l.length := by simp at h1; omega
    refine kSkip (kSeq (kBlock (kSeq (kReg (kMovC rfl (kMovC rfl (kDone ?_)))))))
    refine kSeq (kReg (kMovC rfl (kMovC rfl (kMovC rfl (kIadD rfl rfl rfl rfl ?_ ?_)))))
    · rw [len_lst]; omega
    rw [show (lst l).row (i : Int).toNat = [l[i]] from row_lst l i hlt]
    refine kLoadD rfl rfl (kCallv rfl ⟨l[i], hD _ (List.getElem_mem hlt), rfl, rfl⟩ ⟨rfl, trivial⟩ (.inr ?_) rfl ?_ rfl ?_)
    · rintro _ rfl; rfl
    · rintro _ rfl; exact leb
    rintro _ rfl
    refine kDone (kCond rfl (fun h2 => ?_) (fun h2 => ?_))
    · refine kSeq (kReg (kMovC rfl (kMovC rfl (kDone (kRet ?_)))))
      refine endRet (ra := [.one (.d _)]) rfl ⟨⟨⟨rfl, .inl rfl⟩, trivial⟩, .nil, trivial, trivial, trivial⟩ ?_
      have : l.findIdx? g = some i := by
        rw [List.findIdx?_eq_some_iff_getElem]
        refine ⟨hlt, h2, fun j hj => ?_⟩
        simpa using hg _ (by rw [List.mem_take_iff_getElem]; exact ⟨j, by omega, rfl⟩)
      simp [idxF, this]
    · refine kSkip (kBk (kReg (kAdd rfl rfl ?_ (kMovC rfl (kDone (kInv ?_))))))
      · omega
      refine ⟨⟨i + 1, hlt, ?_⟩, by simp only; omega, .tab rfl ⟨.refl _, .refl _, .refl _, .refl _, trivial⟩⟩
      intro x hx
      rw [← List.take_append_getElem hlt, List.mem_append] at hx
      rcases hx with hx | hx
      · exact hg x hx
      · simp at hx; rw [hx]; exact h2
  · refine kExit (kExC (kExI (kExB ?_)))
    have hge : i = l.length := by simp at h1; omega
    refine kSeq (kReg (kMovC rfl (kDone (kRet ?_))))
    refine endRet (ra := [.one (.d _)]) rfl ⟨⟨⟨rfl, .inl rfl⟩, trivial⟩, .nil, trivial, trivial, trivial⟩ ?_
    have : l.findIdx? g = none := by
      rw [List.findIdx?_eq_none_iff]
      intro x hx
      rw [hge, List.take_length] at hg
      exact hg x hx
    simp [idxF, this]

def c_slices_ContainsFunc_Lbyte_byte : C := (.seq (.reg false (.o 0 4 (.mov (.v (.bool false))) .done)) (.seq (.reg false (.o 0 5 (.mov (.t 0)) (.o 1 6 (.mov (.t 1)) (.o 2 7 (.call 7 72 [(.t 5), (.t 6)]) (.o 3 8 (.bin .geq (.t 7) (.i 0)) (.o 4 4 (.mov (.t 8)) .done)))))) .ret))
theorem dg_slices_ContainsFunc_Lbyte_byte : Tryd.f52.body.bind (digC Tryd.prog Tryd.f52.ntmps []) = some c_slices_ContainsFunc_Lbyte_byte := by kernel_rfl
theorem rs_slices_ContainsFunc_Lbyte_byte : resSlots Tryd.prog Tryd.f52 = some [.s 4] := by kernel_rfl
theorem ok_slices_ContainsFunc_Lbyte_byte (l : List DV) (D : DV → Prop) (g : DV → Bool) (hl : (l.length : Int) ≤ 9223372036854775807) (hD : ∀ x ∈ l, D x) :
    FnOK Tryd.prog 52 [.one (.d (lst l)), .one (.fv false (fcPred D g))] (fun ra _ => ra = [.one (.d (.sc (.bool (l.any g))))]) := by
  refine FnOK.ofK Tryd.func52 (by kernel_rfl) dg_slices_ContainsFunc_Lbyte_byte rs_slices_ContainsFunc_Lbyte_byte rfl rfl ?_
  delta c_slices_ContainsFunc_Lbyte_byte T.o X.i
  refine kSeq (kReg (kMovC rfl (kDone ?_)))
  refine kSeq (kReg (kMovC rfl (kMovC rfl ?_)))
  refine kCall1 true (ok_slices_IndexFunc_Lbyte_byte l D g hl hD) ⟨rfl, ⟨fun h => h, fun _ _ h => h⟩, trivial⟩ rfl rfl rfl fun os => ?_
  refine kBin rfl rfl rfl (kMovC rfl (kDone (kRet ?_)))
  refine endRet (ra := [.one (.d _)]) rfl ⟨⟨⟨rfl, .inl rfl⟩, trivial⟩, .nil, trivial, trivial, trivial⟩ ?_
  have : decide (idxF g l ≥ 0) = l.any g := by
    unfold idxF
    cases h : l.findIdx? g with
    | none =>
      rw [List.findIdx?_eq_none_iff] at h
      have : l.any g = false := by rw [List.any_eq_false]; intro x hx; simp [h x hx]
      rw [this]; rfl
    | some i =>
      rw [List.findIdx?_eq_some_iff_getElem] at h
      obtain ⟨h1, h2, _⟩ := h
      have : l.any g = true := by rw [List.any_eq_true]; exact ⟨_, List.getElem_mem h1, h2⟩
      rw [this]; simp
  rw [this]

def c_impl_all_byte : C := (.seq (.reg false (.o 0 3 (.box 3 (.t 1)) (.o 1 4 (.mov (.v (.bool false))) .done))) (.seq (.reg false (.o 0 5 (.mov (.t 0)) (.o 1 6 (.clo 53 [] [(.t 3)]) (.o 2 7 (.call 7 52 [(.t 5), (.t 6)]) (.o 3 8 (.un .not (.t 7)) (.o 4 4 (.mov (.t 8)) .done)))))) .ret))
theorem dg_impl_all_byte : Tryd.f31.body.bind (digC Tryd.prog Tryd.f31.ntmps []) = some c_impl_all_byte := by kernel_rfl
theorem rs_impl_all_byte : resSlots Tryd.prog Tryd.f31 = some [.s 4] := by kernel_rfl
theorem ok_impl_all_byte (l : List DV) (D : DV → Prop) (g : DV → Bool) (hl : (l.length : Int) ≤ 9223372036854775807) (hD : ∀ x ∈ l, D x) :
    FnOK Tryd.prog 31 [.one (.d (lst l)), .one (.fv false (fcPred D g))] (fun ra _ => ra = [.one (.d (.sc (.bool (l.all g))))]) := by
  refine FnOK.ofK Tryd.func31 (by kernel_rfl) dg_impl_all_byte rs_impl_all_byte rfl rfl ?_
  delta c_impl_all_byte T.o X.i
  refine kSeq (kReg (kBox rfl rfl rfl rfl rfl (kMovC rfl (kDone ?_))))
  refine kSeq (kReg (kMovC rfl (kClo rfl rfl ?_)))
  refine kCall1 true (ok_slices_ContainsFunc_Lbyte_byte l D (fun x => !g x) hl hD) ⟨rfl, ⟨rfl, ⟨_, Tryd.func53, rfl, by kernel_rfl⟩, _, rfl, ?_⟩, trivial⟩ rfl rfl rfl fun os => ?_
  · rintro l R ⟨x, hx, rfl, rfl⟩
    exact ⟨by rintro _ rfl; rfl, ok_impl_all_byte_1 x D g hx⟩
  refine kUn rfl rfl (kMovC rfl (kDone (kRet ?_)))
  refine endRet (ra := [.one (.d _)]) rfl ⟨⟨⟨rfl, .inl rfl⟩, trivial⟩, .nil, trivial, trivial, trivial⟩ ?_
  simp [List.all_eq_not_any_not]

def c_impl_LabelOk_1 : C := (.seq (.reg false (.o 0 2 (.mov (.v (.bool false))) .done)) (.seq (.reg false (.o 0 3 (.mov (.t 0)) (.o 1 4 (.bin .geq (.t 3) (.v (.int .u8 97))) (.o 2 5 (.mov (.t 4)) (.op 3 [] (some 6) (some (5, true)) false (.mov (.t 0)) (.op 4 [] (some 7) (some (5, true)) false (.bin .leq (.t 6) (.v (.int .u8 122))) (.o 5 8 (.pick (.t 5) (.t 7) (.v (.bool false))) (.o 6 9 (.mov (.t 8)) (.op 7 [] (some 10) (some (9, false)) false (.mov (.t 0)) (.op 8 [] (some 11) (some (9, false)) false (.bin .geq (.t 10) (.v (.int .u8 48))) (.op 9 [] (some 12) (some (9, false)) false (.mov (.t 11)) (.op 10 [] (some 13) (some (12, true)) false (.mov (.t 0)) (.op 11 [] (some 14) (some (12, true)) false (.bin .leq (.t 13) (.v (.int .u8 57))) (.op 12 [] (some 15) (some (9, false)) false (.pick (.t 12) (.t 14) (.v (.bool false))) (.o 13 16 (.pick (.t 9) (.v (.bool true)) (.t 15)) (.o 14 17 (.mov (.t 16)) (.op 15 [] (some 18) (some (17, false)) false (.mov (.t 0)) (.op 16 [] (some 19) (some (17, false)) false (.bin .eql (.t 18) (.v (.int .u8 45))) (.o 17 20 (.pick (.t 17) (.v (.bool true)) (.t 19)) (.o 18 2 (.mov (.t 20)) .done)))))))))))))))))))) .ret))
theorem dg_impl_LabelOk_1 : Tryd.f32.body.bind (digC Tryd.prog Tryd.f32.ntmps []) = some c_impl_LabelOk_1 := by kernel_rfl
theorem rs_impl_LabelOk_1 : resSlots Tryd.prog Tryd.f32 = some [.s 2] := by kernel_rfl
theorem ok_impl_LabelOk_1 (b : UInt8) : FnOK Tryd.prog 32 [.one (.d (.sc (.int .u8 b.toNat)))] (fun ra _ => ra = [.one (.d (.sc (.bool (okLetter b))))]) := by
  refine FnOK.ofK Tryd.func32 (by kernel_rfl) dg_impl_LabelOk_1 rs_impl_LabelOk_1 rfl rfl ?_
  delta c_impl_LabelOk_1 T.o X.i
  repeat' first
    | refine kSeq ?_ | refine kReg ?_ | refine kDone ?_ | refine kMovC rfl ?_ | refine kBin rfl rfl rfl ?_
    | refine kGT rfl ?_ | refine kGF rfl ?_ | refine kGU rfl ?_ | refine kG rfl (fun h => ?_) (fun h => ?_)
    | refine kPickT rfl ?_ | refine kPickF rfl ?_ | refine kPick rfl (fun h => ?_) (fun h => ?_) | refine kRet ?_
  all_goals refine endRet (ra := [.one (.d _)]) rfl ⟨⟨⟨rfl, .inl rfl⟩, trivial⟩, .nil, trivial, trivial⟩ ?_
  all_goals simp_all [okLetter]
  all_goals first | omega | (rw [Bool.eq_iff_iff]; simp; omega)

def c_impl_LabelOk : C := (.seq (.reg false (.o 0 2 (.mov (.v (.bool false))) .done)) (.seq (.reg false (.o 0 3 (.mov (.t 0)) (.o 1 4 (.len (.t 3)) (.o 2 5 (.call 5 30 [(.t 4), (.i 1), (.i 15)]) (.o 3 6 (.mov (.t 5)) (.op 4 [] (some 7) (some (6, true)) false (.mov (.t 0)) (.op 5 [] (some 8) (some (6, true)) false (.call 8 31 [(.t 7), (.fn 32)]) (.o 6 9 (.pick (.t 6) (.t 8) (.v (.bool false))) (.o 7 2 (.mov (.t 9)) .done))))))))) .ret))
theorem dg_impl_LabelOk : Tryd.f13.body.bind (digC Tryd.prog Tryd.f13.ntmps []) = some c_impl_LabelOk := by kernel_rfl
theorem rs_impl_LabelOk : resSlots Tryd.prog Tryd.f13 = some [.s 2] := by kernel_rfl
theorem ok_impl_LabelOk (b : List UInt8) (hb : b.length ≤ 4194304) :
    FnOK Tryd.prog 13 [.one (.d (encB b))] (fun ra _ => ra = [.one (.d (.sc (.bool (labelOk b))))]) := by
  refine FnOK.ofK Tryd.func13 (by kernel_rfl) dg_impl_LabelOk rs_impl_LabelOk rfl rfl ?_
  delta c_impl_LabelOk T.o X.i
  refine kSeq (kReg (kMovC rfl (kDone (kSeq (kReg (kMovC rfl (kLenR rfl rfl (kCallD (ok_impl_within _ _ _) ⟨rfl, rfl, rfl, trivial⟩ rfl rfl rfl rfl rfl (kMovC rfl (kGP rfl (fun g0 => kGT rfl (kMovC rfl (kGT rfl ?_))) (fun g0 => kGF rfl (kGF rfl (kPickF rfl (kMovC rfl (kMovC rfl (kDone (kRet (endRetA (ra := [.one (.d _)]) rfl ?_))))))))))))))))))
  · refine kCall1 true (ok_impl_all_byte (b.map fun b : UInt8 => .sc (.int .u8 b.toNat)) is8 (fun x => okLetter (dec8 x)) (by simp; omega) (fun x hx => by obtain ⟨c, _, rfl⟩ := List.mem_map.1 hx; exact ⟨c, rfl⟩)) ⟨congrArg some (encB_lst b), ⟨rfl, rfl, ⟨_, Tryd.func32, rfl, by kernel_rfl⟩, ?_⟩, trivial⟩ rfl rfl rfl (fun _ => ?_)
    · rintro _ R ⟨x, ⟨c, rfl⟩, rfl, rfl⟩
      have := ok_impl_LabelOk_1 c
      simp only [dec8_enc]
      exact this
    refine kPickT rfl (kMovC rfl (kMovC rfl (kDone (kRet (endRetA (ra := [.one (.d _)]) rfl ?_)))))
    rw [all_dec8, show labelOk b = b.all okLetter by simp only [labelOk]; rw [decide_eq_true (by omega), decide_eq_true (by omega)]; rfl]
  · rw [show labelOk b = false by simp only [labelOk]; rw [show (decide (1 ≤ b.length) && decide (b.length ≤ 15)) = false by simp; omega]; rfl]

def c_impl_all_Lbyte_1 : C := (.seq (.reg false (.o 0 3 (.mov (.v (.bool false))) .done)) (.seq (.reg false (.o 0 4 (.load none (.t 1)) (.o 1 5 (.mov (.t 0)) (.o 2 6 (.callv 6 (.t 4) [(.t 5)]) (.o 3 7 (.un .not (.t 6)) (.o 4 3 (.mov (.t 7)) .done)))))) .ret))
theorem dg_impl_all_Lbyte_1 : Tryd.f67.body.bind (digC Tryd.prog Tryd.f67.ntmps []) = some c_impl_all_Lbyte_1 := by kernel_rfl
theorem rs_impl_all_Lbyte_1 : resSlots Tryd.prog Tryd.f67 = some [.s 3] := by kernel_rfl
theorem ok_impl_all_Lbyte_1 (x : DV) (D : DV → Prop) (g : DV → Bool) (hx : D x) :
    FnOK Tryd.prog 67 [.one (.d x), .one (.ptr [.fv false (fcPred D g)])] (fun ra _ => ra = [.one (.d (.sc (.bool (!g x))))]) := by
  refine FnOK.ofK Tryd.func67 (by kernel_rfl) dg_impl_all_Lbyte_1 rs_impl_all_Lbyte_1 rfl rfl ?_
  delta c_impl_all_Lbyte_1 T.o X.i
  refine kSeq (kReg (kMovC rfl (kDone ?_)))
  refine kSeq (kReg (kLoadC rfl rfl (kMovC rfl (kCallv rfl ⟨x, hx, rfl, rfl⟩ ⟨rfl, trivial⟩ (.inr ?_) rfl ?_ rfl ?_))))
  · rintro _ rfl; rfl
  · rintro _ rfl; exact leb
  rintro _ rfl
  refine kUn rfl rfl (kMovC rfl (kDone (kRet ?_)))
  exact endRet (ra := [.one (.d _)]) rfl ⟨⟨⟨rfl, .inl rfl⟩, trivial⟩, .nil, trivial, trivial, trivial⟩ rfl

def c_slices_IndexFunc_LLbyte_Lbyte : C := (.seq (.reg false (.o 0 4 (.mov (.i 0)) .done)) (.seq (.seq (.reg false (.o 0 6 (.mov (.t 0)) (.o 1 7 (.len (.t 6)) (.o 2 8 (.mov (.i 0)) .done)))) (.block 0 (.loop (.seq (.reg false (.o 0 9 (.bin .lss (.t 8) (.t 7)) .done)) (.seq (.cond (.t 9) .skip (.exit 0)) (.seq (.block 1 (.seq (.reg false (.o 0 10 (.mov (.t 8)) (.o 1 5 (.mov (.t 10)) .done))) (.seq (.reg false (.o 0 11 (.mov (.t 1)) (.o 1 12 (.mov (.t 0)) (.o 2 13 (.mov (.t 5)) (.o 3 14 (.iad 1 (.t 12) (.t 13)) (.o 4 15 (.load none (.t 14)) (.o 5 16 (.callv 16 (.t 11) [(.t 15)]) .done))))))) (.cond (.t 16) (.seq (.reg false (.o 0 17 (.mov (.t 5)) (.o 1 4 (.mov (.t 17)) .done))) .ret) .skip)))) (.reg false (.o 0 18 (.bin .add (.t 8) (.i 1)) (.o 1 8 (.mov (.t 18)) .done))))))))) (.seq (.reg false (.o 0 4 (.mov (.i (-1))) .done)) .ret)))
theorem dg_slices_IndexFunc_LLbyte_Lbyte : Tryd.f80.body.bind (digC Tryd.prog Tryd.f80.ntmps []) = some c_slices_IndexFunc_LLbyte_Lbyte := by kernel_rfl
theorem rs_slices_IndexFunc_LLbyte_Lbyte : resSlots Tryd.prog Tryd.f80 = some [.s 4] := by kernel_rfl
theorem ok_slices_IndexFunc_LLbyte_Lbyte (l : List DV) (D : DV → Prop) (g : DV → Bool) (hl : (l.length : Int) ≤ 9223372036854775807) (hD : ∀ x ∈ l, D x) :
    FnOK Tryd.prog 80 [.one (.d (lst l)), .one (.fv false (fcPred D g))] (fun ra _ => ra = [.one (.d (.sc (.int .i64 (idxF g l))))]) := by
  refine FnOK.ofK Tryd.func80 (by kernel_rfl) dg_slices_IndexFunc_LLbyte_Lbyte rs_slices_IndexFunc_LLbyte_Lbyte rfl rfl ?_
  delta c_slices_IndexFunc_LLbyte_Lbyte T.o X.i
  refine kSeq (kReg (kMovC rfl (kDone ?_)))
  refine kSeq (kSeq (kReg (kMovC rfl (kLen rfl rfl rfl (kMovC rfl (kDone (kBlock ?_)))))))
  rw [len_lst]
  refine kLoop (α := { i : Nat // i ≤ l.length ∧ ∀ x ∈ l.take i, g x = false })
    (fun y => ⟨tabSl [(0, .dv (lst l)), (1, .c (.fv false (fcPred D g))), (7, .i l.length), (8, .i y.1)], (St.init [.one (.d (lst l)), .one (.fv false (fcPred D g))]).ob, []⟩) (fun y => l.length - y.1) ⟨0, by simp⟩
    (.tab rfl ⟨.refl _, .refl _, .refl _, .refl _, trivial⟩) ?_
  rintro ⟨i, hi, hg⟩
  simp only
  refine kSeq (kReg (kBin rfl rfl rfl (kDone ?_)))
  refine kSeq (kCond rfl (fun h1 => ?_) (fun h1 => ?_))
  · have hlt : i < l.length := by simp at h1; omega
    refine kSkip (kSeq (kBlock (kSeq (kReg (kMovC rfl (kMovC rfl (kDone ?_)))))))
    refine kSeq (kReg (kMovC rfl (kMovC rfl (kMovC rfl (kIadD rfl rfl rfl rfl ?_ ?_)))))
    · rw [len_lst]; omega
    rw [show (lst l).row (i : Int).toNat = [l[i]] from row_lst l i hlt]
    refine kLoadD rfl rfl (kCallv rfl ⟨l[i], hD _ (List.getElem_mem hlt), rfl, rfl⟩ ⟨rfl, trivial⟩ (.inr ?_) rfl ?_ rfl ?_)
    · rintro _ rfl; rfl
    · rintro _ rfl; exact leb
    rintro _ rfl
    refine kDone (kCond rfl (fun h2 => ?_) (fun h2 => ?_))
    · refine kSeq (kReg (kMovC rfl (kMovC rfl (kDone (kRet ?_)))))
      refine endRet (ra := [.one (.d _)]) rfl ⟨⟨⟨rfl, .inl rfl⟩, trivial⟩, .nil, trivial, trivial, trivial⟩ ?_
      have : l.findIdx? g = some i := by
        rw [List.findIdx?_eq_some_iff_getElem]
        refine ⟨hlt, h2, fun j hj => ?_⟩
        simpa using hg _ (by rw [List.mem_take_iff_getElem]; exact ⟨j, by omega, rfl⟩)
      simp [idxF, this]
    · refine kSkip (kBk (kReg (kAdd rfl rfl ?_ (kMovC rfl (kDone (kInv ?_))))))
      · omega
      refine ⟨⟨i + 1, hlt, ?_⟩, by simp only; omega, .tab rfl ⟨.refl _, .refl _, .refl _, .refl _, trivial⟩⟩
      intro x hx
      rw [← List.take_append_getElem hlt, List.mem_append] at hx
      rcases hx with hx | hx
      · exact hg x hx
      · simp at hx; rw [hx]; exact h2
  · refine kExit (kExC (kExI (kExB ?_)))
    have hge : i = l.length := by simp at h1; omega
    refine kSeq (kReg (kMovC rfl (kDone (kRet ?_))))
    refine endRet (ra := [.one (.d _)]) rfl ⟨⟨⟨rfl, .inl rfl⟩, trivial⟩, .nil, trivial, trivial, trivial⟩ ?_
    have : l.findIdx? g = none := by
      rw [List.findIdx?_eq_none_iff]
      intro x hx
      rw [hge, List.take_length] at hg
      exact hg x hx
    simp [idxF, this]

def c_slices_ContainsFunc_LLbyte_Lbyte : C := (.seq (.reg false (.o 0 4 (.mov (.v (.bool false))) .done)) (.seq (.reg false (.o 0 5 (.mov (.t 0)) (.o 1 6 (.mov (.t 1)) (.o 2 7 (.call 7 80 [(.t 5), (.t 6)]) (.o 3 8 (.bin .geq (.t 7) (.i 0)) (.o 4 4 (.mov (.t 8)) .done)))))) .ret))
theorem dg_slices_ContainsFunc_LLbyte_Lbyte : Tryd.f66.body.bind (digC Tryd.prog Tryd.f66.ntmps []) = some c_slices_ContainsFunc_LLbyte_Lbyte := by kernel_rfl
theorem rs_slices_ContainsFunc_LLbyte_Lbyte : resSlots Tryd.prog Tryd.f66 = some [.s 4] := by kernel_rfl
theorem ok_slices_ContainsFunc_LLbyte_Lbyte (l : List DV) (D : DV → Prop) (g : DV → Bool) (hl : (l.length : Int) ≤ 9223372036854775807) (hD : ∀ x ∈ l, D x) :
    FnOK Tryd.prog 66 [.one (.d (lst l)), .one (.fv false (fcPred D g))] (fun ra _ => ra = [.one (.d (.sc (.bool (l.any g))))]) := by
  refine FnOK.ofK Tryd.func66 (by kernel_rfl) dg_slices_ContainsFunc_LLbyte_Lbyte rs_slices_ContainsFunc_LLbyte_Lbyte rfl rfl ?_
  delta c_slices_ContainsFunc_LLbyte_Lbyte T.o X.i
  refine kSeq (kReg (kMovC rfl (kDone ?_)))
  refine kSeq (kReg (kMovC rfl (kMovC rfl ?_)))
  refine kCall1 true (ok_slices_IndexFunc_LLbyte_Lbyte l D g hl hD) ⟨rfl, ⟨fun h => h, fun _ _ h => h⟩, trivial⟩ rfl rfl rfl fun os => ?_
  refine kBin rfl rfl rfl (kMovC rfl (kDone (kRet ?_)))
  refine endRet (ra := [.one (.d _)]) rfl ⟨⟨⟨rfl, .inl rfl⟩, trivial⟩, .nil, trivial, trivial, trivial⟩ ?_
  have : decide (idxF g l ≥ 0) = l.any g := by
    unfold idxF
    cases h : l.findIdx? g with
    | none =>
      rw [List.findIdx?_eq_none_iff] at h
      have : l.any g = false := by rw [List.any_eq_false]; intro x hx; simp [h x hx]
      rw [this]; rfl
    | some i =>
      rw [List.findIdx?_eq_some_iff_getElem] at h
      obtain ⟨h1, h2, _⟩ := h
      have : l.any g = true := by rw [List.any_eq_true]; exact ⟨_, List.getElem_mem h1, h2⟩
      rw [this]; simp
  rw [this]

def c_impl_all_Lbyte : C := (.seq (.reg false (.o 0 3 (.box 3 (.t 1)) (.o 1 4 (.mov (.v (.bool false))) .done))) (.seq (.reg false (.o 0 5 (.mov (.t 0)) (.o 1 6 (.clo 67 [] [(.t 3)]) (.o 2 7 (.call 7 66 [(.t 5), (.t 6)]) (.o 3 8 (.un .not (.t 7)) (.o 4 4 (.mov (.t 8)) .done)))))) .ret))
theorem dg_impl_all_Lbyte : Tryd.f42.body.bind (digC Tryd.prog Tryd.f42.ntmps []) = some c_impl_all_Lbyte := by kernel_rfl
theorem rs_impl_all_Lbyte : resSlots Tryd.prog Tryd.f42 = some [.s 4] := by kernel_rfl
theorem ok_impl_all_Lbyte (l : List DV) (D : DV → Prop) (g : DV → Bool) (hl : (l.length : Int) ≤ 9223372036854775807) (hD : ∀ x ∈ l, D x) :
    FnOK Tryd.prog 42 [.one (.d (lst l)), .one (.fv false (fcPred D g))] (fun ra _ => ra = [.one (.d (.sc (.bool (l.all g))))]) := by
  refine FnOK.ofK Tryd.func42 (by kernel_rfl) dg_impl_all_Lbyte rs_impl_all_Lbyte rfl rfl ?_
  delta c_impl_all_Lbyte T.o X.i
  refine kSeq (kReg (kBox rfl rfl rfl rfl rfl (kMovC rfl (kDone ?_))))
  refine kSeq (kReg (kMovC rfl (kClo rfl rfl ?_)))
  refine kCall1 true (ok_slices_ContainsFunc_LLbyte_Lbyte l D (fun x => !g x) hl hD) ⟨rfl, ⟨rfl, ⟨_, Tryd.func67, rfl, by kernel_rfl⟩, _, rfl, ?_⟩, trivial⟩ rfl rfl rfl fun os => ?_
  · rintro l R ⟨x, hx, rfl, rfl⟩
    exact ⟨by rintro _ rfl; rfl, ok_impl_all_Lbyte_1 x D g hx⟩
  refine kUn rfl rfl (kMovC rfl (kDone (kRet ?_)))
  refine endRet (ra := [.one (.d _)]) rfl ⟨⟨⟨rfl, .inl rfl⟩, trivial⟩, .nil, trivial, trivial, trivial⟩ ?_
  simp [List.all_eq_not_any_not]

def c_impl_NameOk : C := (.seq (.reg false (.o 0 1 (.box 1 (.t 0)) (.o 1 2 (.mov (.v (.bool false))) .done))) (.seq (.reg false (.o 0 3 (.fad (.t 1) 0) (.o 1 4 (.load none (.t 3)) (.o 2 5 (.len (.t 4)) (.o 3 6 (.bin .leq (.t 5) (.i 6)) (.o 4 7 (.mov (.t 6)) (.op 5 [] (some 8) (some (7, true)) false (.fad (.t 1) 0) (.op 6 [] (some 9) (some (7, true)) false (.load none (.t 8)) (.op 7 [] (some 10) (some (7, true)) false (.call 10 42 [(.t 9), (.fn 13)]) (.o 8 11 (.pick (.t 7) (.t 10) (.v (.bool false))) (.o 9 2 (.mov (.t 11)) .done))))))))))) .ret))
theorem dg_impl_NameOk : Tryd.f20.body.bind (digC Tryd.prog Tryd.f20.ntmps []) = some c_impl_NameOk := by kernel_rfl
theorem rs_impl_NameOk : resSlots Tryd.prog Tryd.f20 = some [.s 2] := by kernel_rfl
theorem ok_impl_NameOk (a : List (List UInt8)) (ha : a.length ≤ 4194304) (hb : ∀ b ∈ a, b.length ≤ 4194304) :
    FnOK Tryd.prog 20 [.agg [.d (encBB a)]] (fun ra _ => ra = [.one (.d (.sc (.bool (nameOk a))))]) := by
  refine FnOK.ofK Tryd.func20 (by kernel_rfl) dg_impl_NameOk rs_impl_NameOk rfl rfl ?_
  delta c_impl_NameOk T.o X.i
  refine kSeq (kReg (kBox rfl rfl rfl rfl rfl (kMovC rfl (kDone (kSeq (kReg (kFadP rfl rfl (kLoadP rfl rfl rfl (kLenR rfl rfl (kBin rfl rfl rfl (kMovC rfl (kGP rfl (fun g0 => kGT rfl (kFadP rfl rfl (kGT rfl (kLoadP rfl rfl rfl (kGT rfl ?_))))) (fun g0 => kGF rfl (kGF rfl (kGF rfl (kPickF rfl (kMovC rfl (kMovC rfl (kDone (kRet (endRetA (ra := [.one (.d _)]) rfl ?_)))))))))))))))))))))
  · refine kCall1 true (ok_impl_all_Lbyte (a.map encB) (fun x => ∃ b : List UInt8, x = encB b ∧ b.length ≤ 4194304) (fun x => labelOk (decB x)) (by simp; omega) (fun x hx => by obtain ⟨c, h, rfl⟩ := List.mem_map.1 hx; exact ⟨c, rfl, hb c h⟩)) ⟨congrArg some (encBB_lst a), ⟨rfl, rfl, ⟨_, Tryd.func13, rfl, by kernel_rfl⟩, ?_⟩, trivial⟩ rfl rfl rfl (fun _ => ?_)
    · rintro _ R ⟨x, ⟨c, rfl, h⟩, rfl, rfl⟩
      have := ok_impl_LabelOk c h
      simp only [decB_enc]
      exact this
    refine kPickT rfl (kMovC rfl (kMovC rfl (kDone (kRet (endRetA (ra := [.one (.d _)]) rfl ?_)))))
    rw [all_decB, show nameOk a = a.all labelOk by simp only [nameOk]; rw [decide_eq_true (by omega)]; rfl]
  · rw [show nameOk a = false by simp only [nameOk]; rw [decide_eq_false (by omega)]; rfl]

/-- What a type is called. -/
def typeTab : List (Int × ByteArray) := [(1, ⟨#[65]⟩), (2, ⟨#[78, 83]⟩), (5, ⟨#[67, 78, 65, 77, 69]⟩), (6, ⟨#[83, 79, 65]⟩), (12, ⟨#[80, 84, 82]⟩), (16, ⟨#[84, 88, 84]⟩), (49, ⟨#[68, 72, 67, 73, 68]⟩)]
def typeNm (n : Int) : ByteArray := ((typeTab.find? fun e => n == e.1).map (·.2)).getD ByteArray.empty
theorem ok_impl_typeName (n : Int) : FnOK Tryd.prog 76 [.one (.d (.sc (.int .i64 n)))] (fun ra _ => ra = [.one (.d (.sc (.string (typeNm n))))]) := by
  refine FnOK.ofWalk Tryd.func76 rfl (by kernel_rfl) fun w => ?_
  have kk : Tryd.prog.underlying 3 = some (.int .i64) := by kernel_rfl
  have hmm := @Go.RowKit.run_makeMap Tryd.prog
  go_enter Tryd.func76, Tryd.ntmps76
  go_wp2
  have t0 : Tab (w.alloc (.map #[] 0)) w.heap.size [] := ⟨_, _, (MapKept.heap_alloc w _).1, rfl⟩
  have b0 : Go.RowKit.Below w.heap.size w (w.alloc (.map #[] 0)) := (Go.RowKit.Below.refl _ _).alloc (Nat.le_refl _) _
  have st : ∀ {w1 w2 : World}, Go.RowKit.Below w.heap.size w w1 → Ext w1 w2 (fun b => b = w.heap.size) → Go.RowKit.Below w.heap.size w w2 := fun h e => ⟨e.os.trans h.os, e.tape.trans h.tape, e.output.trans h.output, Nat.le_trans h.size e.size, fun k hk => (e.same k (Nat.lt_of_lt_of_le hk h.size) (by omega)).trans (h.block k hk)⟩
  refine upon_insert (kt := 3) (et := 9) ?_ kk t0 ?_ (fun w1 t1 e1 => ?_)
  · kernel_rfl
  · rfl
  have b1 := st b0 e1
  go_wp2
  refine upon_insert (kt := 3) (et := 9) ?_ kk t1 ?_ (fun w2 t2 e2 => ?_)
  · kernel_rfl
  · rfl
  have b2 := st b1 e2
  go_wp2
  refine upon_insert (kt := 3) (et := 9) ?_ kk t2 ?_ (fun w3 t3 e3 => ?_)
  · kernel_rfl
  · rfl
  have b3 := st b2 e3
  go_wp2
  refine upon_insert (kt := 3) (et := 9) ?_ kk t3 ?_ (fun w4 t4 e4 => ?_)
  · kernel_rfl
  · rfl
  have b4 := st b3 e4
  go_wp2
  refine upon_insert (kt := 3) (et := 9) ?_ kk t4 ?_ (fun w5 t5 e5 => ?_)
  · kernel_rfl
  · rfl
  have b5 := st b4 e5
  go_wp2
  refine upon_insert (kt := 3) (et := 9) ?_ kk t5 ?_ (fun w6 t6 e6 => ?_)
  · kernel_rfl
  · rfl
  have b6 := st b5 e6
  go_wp2
  refine upon_insert (kt := 3) (et := 9) ?_ kk t6 ?_ (fun w7 t7 e7 => ?_)
  · kernel_rfl
  · rfl
  have b7 := st b6 e7
  go_wp2
  refine upon_find (kt := 3) (et := 9) ?_ kk ?_ t7 ?_
  · kernel_rfl
  · rfl
  go_wp2
  all_goals go_ret
  exact ⟨rfl, b7⟩

theorem typeNm_ok (n : Int) : (!((typeNm n).toList == (⟨#[]⟩ : ByteArray).toList)) = tyOk n := by
  by_cases h1 : n = 1
  · subst h1; rw [ByteArray.toList_eq, ByteArray.toList_eq]; rfl
  by_cases h2 : n = 2
  · subst h2; rw [ByteArray.toList_eq, ByteArray.toList_eq]; rfl
  by_cases h3 : n = 5
  · subst h3; rw [ByteArray.toList_eq, ByteArray.toList_eq]; rfl
  by_cases h4 : n = 6
  · subst h4; rw [ByteArray.toList_eq, ByteArray.toList_eq]; rfl
  by_cases h5 : n = 12
  · subst h5; rw [ByteArray.toList_eq, ByteArray.toList_eq]; rfl
  by_cases h6 : n = 16
  · subst h6; rw [ByteArray.toList_eq, ByteArray.toList_eq]; rfl
  by_cases h7 : n = 49
  · subst h7; rw [ByteArray.toList_eq, ByteArray.toList_eq]; rfl
  have e : ∀ m : Int, n ≠ m → (n == m) = false := fun m h => by simpa using h
  have : typeNm n = ByteArray.empty := by
    unfold typeNm typeTab
    simp only [List.find?_cons, e 1 h1, e 2 h2, e 5 h3, e 6 h4, e 12 h5, e 16 h6, e 49 h7, List.find?_nil]
    rfl
  rw [this]
  simp only [tyOk, e 1 h1, e 2 h2, e 5 h3, e 6 h4, e 12 h5, e 16 h6, e 49 h7]
  rw [ByteArray.toList_eq, ByteArray.toList_eq]; rfl

def c_impl_TypeOk : C := (.seq (.reg false (.o 0 2 (.mov (.v (.bool false))) .done)) (.seq (.reg false (.o 0 3 (.mov (.t 0)) (.o 1 4 (.call 4 76 [(.t 3)]) (.o 2 5 (.bin .neq (.t 4) (.v (.string ⟨#[]⟩))) (.o 3 2 (.mov (.t 5)) .done))))) .ret))
theorem dg_impl_TypeOk : Tryd.f56.body.bind (digC Tryd.prog Tryd.f56.ntmps []) = some c_impl_TypeOk := by kernel_rfl
theorem rs_impl_TypeOk : resSlots Tryd.prog Tryd.f56 = some [.s 2] := by kernel_rfl
theorem ok_impl_TypeOk (n : Int) : FnOK Tryd.prog 56 [.one (.d (.sc (.int .i64 n)))] (fun ra _ => ra = [.one (.d (.sc (.bool (tyOk n))))]) := by
  rw [← typeNm_ok]
  refine FnOK.ofK Tryd.func56 (by kernel_rfl) dg_impl_TypeOk rs_impl_TypeOk rfl rfl ?_
  delta c_impl_TypeOk T.o X.i
  refine kSeq (kReg (kMovC rfl (kDone (kSeq (kReg (kMovC rfl (kCallD (ok_impl_typeName _) ⟨rfl, trivial⟩ rfl rfl rfl rfl rfl (kBin rfl rfl rfl (kMovC rfl (kDone (kRet (endRetA (ra := [.one (.d _)]) rfl rfl))))))))))))

def c_impl_isWord : C := (.seq (.reg false (.o 0 2 (.mov (.v (.bool false))) .done)) (.seq (.reg false (.o 0 3 (.mov (.t 0)) (.o 1 4 (.call 4 30 [(.t 3), (.i 0), (.i 4294967295)]) (.o 2 2 (.mov (.t 4)) .done)))) .ret))
theorem dg_impl_isWord : Tryd.f57.body.bind (digC Tryd.prog Tryd.f57.ntmps []) = some c_impl_isWord := by kernel_rfl
theorem rs_impl_isWord : resSlots Tryd.prog Tryd.f57 = some [.s 2] := by kernel_rfl
theorem ok_impl_isWord (n : Int) : FnOK Tryd.prog 57 [.one (.d (.sc (.int .i64 n)))] (fun ra _ => ra = [.one (.d (.sc (.bool (isW n))))]) := by
  refine FnOK.ofK Tryd.func57 (by kernel_rfl) dg_impl_isWord rs_impl_isWord rfl rfl ?_
  delta c_impl_isWord T.o X.i
  refine kSeq (kReg (kMovC rfl (kDone (kSeq (kReg (kMovC rfl (kCallD (ok_impl_within _ _ _) ⟨rfl, rfl, rfl, trivial⟩ rfl rfl rfl rfl rfl (kMovC rfl (kDone (kRet (endRetA (ra := [.one (.d _)]) rfl ?_)))))))))))
  rw [show isW n = decide (0 ≤ n ∧ n ≤ 4294967295) by unfold isW; rw [Bool.eq_iff_iff]; simp; omega]

def c_impl_hasTo : C := (.seq (.reg false (.o 0 2 (.mov (.v (.bool false))) .done)) (.seq (.reg false (.o 0 3 (.mov (.t 0)) (.o 1 4 (.bin .eql (.t 3) (.i 2)) (.o 2 5 (.mov (.t 4)) (.op 3 [] (some 6) (some (5, false)) false (.mov (.t 0)) (.op 4 [] (some 7) (some (5, false)) false (.bin .eql (.t 6) (.i 5)) (.o 5 8 (.pick (.t 5) (.v (.bool true)) (.t 7)) (.o 6 9 (.mov (.t 8)) (.op 7 [] (some 10) (some (9, false)) false (.mov (.t 0)) (.op 8 [] (some 11) (some (9, false)) false (.bin .eql (.t 10) (.i 6)) (.o 9 12 (.pick (.t 9) (.v (.bool true)) (.t 11)) (.o 10 13 (.mov (.t 12)) (.op 11 [] (some 14) (some (13, false)) false (.mov (.t 0)) (.op 12 [] (some 15) (some (13, false)) false (.bin .eql (.t 14) (.i 12)) (.o 13 16 (.pick (.t 13) (.v (.bool true)) (.t 15)) (.o 14 2 (.mov (.t 16)) .done)))))))))))))))) .ret))
theorem dg_impl_hasTo : Tryd.f58.body.bind (digC Tryd.prog Tryd.f58.ntmps []) = some c_impl_hasTo := by kernel_rfl
theorem rs_impl_hasTo : resSlots Tryd.prog Tryd.f58 = some [.s 2] := by kernel_rfl
theorem ok_impl_hasTo (n : Int) : FnOK Tryd.prog 58 [.one (.d (.sc (.int .i64 n)))] (fun ra _ => ra = [.one (.d (.sc (.bool (hasTo n))))]) := by
  refine FnOK.ofK Tryd.func58 (by kernel_rfl) dg_impl_hasTo rs_impl_hasTo rfl rfl ?_
  delta c_impl_hasTo T.o X.i
  refine kSeq (kReg (kMovC rfl (kDone (kSeq (kReg (kMovC rfl (kBin rfl rfl rfl (kMovC rfl (kGP rfl (fun g0 => kGF rfl (kGF rfl (kPickT rfl (kMovC rfl (kMovC rfl (kGF rfl (kGF rfl (kPickT rfl (kMovC rfl (kMovC rfl (kGF rfl (kGF rfl (kPickT rfl (kMovC rfl (kMovC rfl (kDone (kRet (endRetA (ra := [.one (.d _)]) rfl ?_)))))))))))))))))) (fun g0 => kGT rfl (kMovC rfl (kGT rfl (kBin rfl rfl rfl (kPickF rfl (kMovC rfl (kMovC rfl (kGP rfl (fun g1 => kGF rfl (kGF rfl (kPickT rfl (kMovC rfl (kMovC rfl (kGF rfl (kGF rfl (kPickT rfl (kMovC rfl (kMovC rfl (kDone (kRet (endRetA (ra := [.one (.d _)]) rfl ?_))))))))))))) (fun g1 => kGT rfl (kMovC rfl (kGT rfl (kBin rfl rfl rfl (kPickF rfl (kMovC rfl (kMovC rfl (kGP rfl (fun g2 => kGF rfl (kGF rfl (kPickT rfl (kMovC rfl (kMovC rfl (kDone (kRet (endRetA (ra := [.one (.d _)]) rfl ?_)))))))) (fun g2 => kGT rfl (kMovC rfl (kGT rfl (kBin rfl rfl rfl (kPickF rfl (kMovC rfl (kMovC rfl (kDone (kRet (endRetA (ra := [.one (.d _)]) rfl ?_)))))))))))))))))))))))))))))))))))
  all_goals simp_all [hasTo]

def c_impl_hasText : C := (.seq (.reg false (.o 0 2 (.mov (.v (.bool false))) .done)) (.seq (.reg false (.o 0 3 (.mov (.t 0)) (.o 1 4 (.bin .eql (.t 3) (.i 16)) (.o 2 5 (.mov (.t 4)) (.op 3 [] (some 6) (some (5, false)) false (.mov (.t 0)) (.op 4 [] (some 7) (some (5, false)) false (.bin .eql (.t 6) (.i 49)) (.o 5 8 (.pick (.t 5) (.v (.bool true)) (.t 7)) (.o 6 2 (.mov (.t 8)) .done)))))))) .ret))
theorem dg_impl_hasText : Tryd.f59.body.bind (digC Tryd.prog Tryd.f59.ntmps []) = some c_impl_hasText := by kernel_rfl
theorem rs_impl_hasText : resSlots Tryd.prog Tryd.f59 = some [.s 2] := by kernel_rfl
theorem ok_impl_hasText (n : Int) : FnOK Tryd.prog 59 [.one (.d (.sc (.int .i64 n)))] (fun ra _ => ra = [.one (.d (.sc (.bool (hasText n))))]) := by
  refine FnOK.ofK Tryd.func59 (by kernel_rfl) dg_impl_hasText rs_impl_hasText rfl rfl ?_
  delta c_impl_hasText T.o X.i
  refine kSeq (kReg (kMovC rfl (kDone (kSeq (kReg (kMovC rfl (kBin rfl rfl rfl (kMovC rfl (kGP rfl (fun g0 => kGF rfl (kGF rfl (kPickT rfl (kMovC rfl (kMovC rfl (kDone (kRet (endRetA (ra := [.one (.d _)]) rfl ?_)))))))) (fun g0 => kGT rfl (kMovC rfl (kGT rfl (kBin rfl rfl rfl (kPickF rfl (kMovC rfl (kMovC rfl (kDone (kRet (endRetA (ra := [.one (.d _)]) rfl ?_)))))))))))))))))))
  all_goals simp_all [hasText]

def c_impl_RrOk : C := (.seq (.reg false (.o 0 1 (.box 1 (.t 0)) (.o 1 2 (.mov (.v (.bool false))) .done))) (.seq (.seq (.reg false (.o 0 7 (.fad (.t 1) 0) (.o 1 8 (.load (some 1) (.t 7)) (.o 2 9 (.call 9 20 [(.t 8)]) (.o 3 10 (.un .not (.t 9)) (.o 4 11 (.mov (.t 10)) (.op 5 [] (some 12) (some (11, false)) false (.fad (.t 1) 1) (.op 6 [] (some 13) (some (11, false)) false (.load none (.t 12)) (.op 7 [] (some 14) (some (11, false)) false (.call 14 56 [(.t 13)]) (.op 8 [] (some 15) (some (11, false)) false (.un .not (.t 14)) (.o 9 16 (.pick (.t 11) (.v (.bool true)) (.t 15)) (.o 10 17 (.mov (.t 16)) (.op 11 [] (some 18) (some (17, false)) false (.fad (.t 1) 2) (.op 12 [] (some 19) (some (17, false)) false (.load none (.t 18)) (.op 13 [] (some 20) (some (17, false)) false (.call 20 30 [(.t 19), (.i 0), (.i 100000)]) (.op 14 [] (some 21) (some (17, false)) false (.un .not (.t 20)) (.o 15 22 (.pick (.t 17) (.v (.bool true)) (.t 21)) .done))))))))))))))))) (.cond (.t 22) (.seq (.reg false (.o 0 2 (.mov (.v (.bool false))) .done)) .ret) .skip)) (.seq (.reg false (.o 0 23 (.fad (.t 1) 6) (.o 1 24 (.load none (.t 23)) (.o 2 25 (.len (.t 24)) (.o 3 26 (.bin .eql (.t 25) (.i 0)) (.o 4 3 (.mov (.t 26)) .done)))))) (.seq (.seq (.reg false (.o 0 27 (.fad (.t 1) 1) (.o 1 28 (.load none (.t 27)) (.o 2 29 (.bin .eql (.t 28) (.i 6)) .done)))) (.cond (.t 29) (.reg false (.o 0 30 (.fad (.t 1) 6) (.o 1 31 (.load none (.t 30)) (.o 2 32 (.len (.t 31)) (.o 3 33 (.bin .eql (.t 32) (.i 2)) (.o 4 34 (.mov (.t 33)) (.op 5 [] (some 35) (some (34, true)) false (.fad (.t 1) 6) (.op 6 [] (some 36) (some (34, true)) false (.load none (.t 35)) (.op 7 [] (some 37) (some (34, true)) false (.iad 1 (.t 36) (.i 0)) (.op 8 [] (some 38) (some (34, true)) false (.load none (.t 37)) (.op 9 [] (some 39) (some (34, true)) false (.call 39 57 [(.t 38)]) (.o 10 40 (.pick (.t 34) (.t 39) (.v (.bool false))) (.o 11 41 (.mov (.t 40)) (.op 12 [] (some 42) (some (41, true)) false (.fad (.t 1) 6) (.op 13 [] (some 43) (some (41, true)) false (.load none (.t 42)) (.op 14 [] (some 44) (some (41, true)) false (.iad 1 (.t 43) (.i 1)) (.op 15 [] (some 45) (some (41, true)) false (.load none (.t 44)) (.op 16 [] (some 46) (some (41, true)) false (.call 46 30 [(.t 45), (.i 0), (.i 100000)]) (.o 17 47 (.pick (.t 41) (.t 46) (.v (.bool false))) (.o 18 3 (.mov (.t 47)) .done)))))))))))))))))))) .skip)) (.seq (.reg false (.o 0 48 (.fad (.t 1) 3) (.o 1 49 (.load none (.t 48)) (.o 2 50 (.bin .eql (.t 49) (.i 0)) (.o 3 51 (.mov (.t 50)) (.op 4 [] (some 52) (some (51, false)) false (.fad (.t 1) 1) (.op 5 [] (some 53) (some (51, false)) false (.load none (.t 52)) (.op 6 [] (some 54) (some (51, false)) false (.bin .eql (.t 53) (.i 1)) (.op 7 [] (some 55) (some (51, false)) false (.mov (.t 54)) (.op 8 [] (some 56) (some (55, true)) false (.fad (.t 1) 3) (.op 9 [] (some 57) (some (55, true)) false (.load none (.t 56)) (.op 10 [] (some 58) (some (55, true)) false (.call 58 57 [(.t 57)]) (.op 11 [] (some 59) (some (51, false)) false (.pick (.t 55) (.t 58) (.v (.bool false))) (.o 12 60 (.pick (.t 51) (.v (.bool true)) (.t 59)) (.o 13 4 (.mov (.t 60)) .done))))))))))))))) (.seq (.reg false (.o 0 61 (.fad (.t 1) 4) (.o 1 62 (.fad (.t 61) 0) (.o 2 63 (.load none (.t 62)) (.o 3 64 (.len (.t 63)) (.o 4 65 (.bin .eql (.t 64) (.i 0)) (.o 5 66 (.mov (.t 65)) (.op 6 [] (some 67) (some (66, false)) false (.fad (.t 1) 1) (.op 7 [] (some 68) (some (66, false)) false (.load none (.t 67)) (.op 8 [] (some 69) (some (66, false)) false (.call 69 58 [(.t 68)]) (.op 9 [] (some 70) (some (66, false)) false (.mov (.t 69)) (.op 10 [] (some 71) (some (70, true)) false (.fad (.t 1) 4) (.op 11 [] (some 72) (some (70, true)) false (.load (some 1) (.t 71)) (.op 12 [] (some 73) (some (70, true)) false (.call 73 20 [(.t 72)]) (.op 13 [] (some 74) (some (66, false)) false (.pick (.t 70) (.t 73) (.v (.bool false))) (.o 14 75 (.pick (.t 66) (.v (.bool true)) (.t 74)) (.o 15 5 (.mov (.t 75)) .done))))))))))))))))) (.seq (.reg false (.o 0 76 (.fad (.t 1) 5) (.o 1 77 (.load none (.t 76)) (.o 2 78 (.len (.t 77)) (.o 3 79 (.bin .eql (.t 78) (.i 0)) (.o 4 80 (.mov (.t 79)) (.op 5 [] (some 81) (some (80, false)) false (.fad (.t 1) 1) (.op 6 [] (some 82) (some (80, false)) false (.load none (.t 81)) (.op 7 [] (some 83) (some (80, false)) false (.call 83 59 [(.t 82)]) (.op 8 [] (some 84) (some (80, false)) false (.mov (.t 83)) (.op 9 [] (some 85) (some (84, true)) false (.fad (.t 1) 5) (.op 10 [] (some 86) (some (84, true)) false (.load none (.t 85)) (.op 11 [] (some 87) (some (84, true)) false (.len (.t 86)) (.op 12 [] (some 88) (some (84, true)) false (.bin .leq (.t 87) (.i 40)) (.op 13 [] (some 89) (some (80, false)) false (.pick (.t 84) (.t 88) (.v (.bool false))) (.o 14 90 (.pick (.t 80) (.v (.bool true)) (.t 89)) (.o 15 6 (.mov (.t 90)) .done))))))))))))))))) (.seq (.reg false (.o 0 91 (.mov (.t 3)) (.o 1 92 (.mov (.t 91)) (.op 2 [] (some 93) (some (92, true)) false (.mov (.t 4)) (.o 3 94 (.pick (.t 92) (.t 93) (.v (.bool false))) (.o 4 95 (.mov (.t 94)) (.op 5 [] (some 96) (some (95, true)) false (.mov (.t 5)) (.o 6 97 (.pick (.t 95) (.t 96) (.v (.bool false))) (.o 7 98 (.mov (.t 97)) (.op 8 [] (some 99) (some (98, true)) false (.mov (.t 6)) (.o 9 100 (.pick (.t 98) (.t 99) (.v (.bool false))) (.o 10 2 (.mov (.t 100)) .done)))))))))))) .ret))))))))
theorem dg_impl_RrOk : Tryd.f34.body.bind (digC Tryd.prog Tryd.f34.ntmps []) = some c_impl_RrOk := by kernel_rfl
theorem rs_impl_RrOk : resSlots Tryd.prog Tryd.f34 = some [.s 2] := by kernel_rfl
theorem ok_impl_RrOk (r : Rr) (hs : SmallR r) :
    FnOK Tryd.prog 34 [.agg (r.cells.map .d)] (fun ra _ => ra = [.one (.d (.sc (.bool (rrOk r))))]) := by
  refine FnOK.ofK Tryd.func34 (by kernel_rfl) dg_impl_RrOk rs_impl_RrOk rfl rfl ?_
  delta c_impl_RrOk T.o X.i
  have n1 := hs.n.len
  have n2 := hs.n.mem
  have t1 := hs.t.len
  have t2 := hs.t.mem
  have x1 := hs.x
  have m1 := hs.m
  refine kSeq (kReg (kBox rfl rfl rfl rfl rfl (kMovC rfl (kDone ?_))))
  by_cases h0 : nameOk r.name = true ∧ tyOk r.ty = true ∧ (0 ≤ r.ttl ∧ r.ttl ≤ 100000)
  case neg =>
    rw [show rrOk r = false by simp only [rrOk]; revert h0; cases nameOk r.name <;> cases tyOk r.ty <;> simp <;> intros <;> omega]
    refine kSeq ?_
    cases h1 : nameOk r.name
    case false => refine kSeq (kReg (kFadP rfl rfl (kLoadP rfl rfl rfl (kCallD (ok_impl_NameOk _ pr pr) ⟨⟨⟨rfl, trivial⟩, leb⟩, trivial⟩ rfl rfl rfl rfl rfl (kUn rfl rfl (kMovC rfl (kGN rfl (fun g0 => kGF rfl (kGF rfl (kGF rfl (kGF rfl (kPickT rfl (kMovC rfl (kMovC rfl (kGF rfl (kGF rfl (kGF rfl (kGF rfl (kPickT rfl (kMovC rfl (kDone (kCondT rfl (kSeq (kReg (kMovC rfl (kDone (kRet (endRetA (ra := [.one (.d _)]) rfl rfl))))))))))))))))))))) (fun g0 => (by (simp [*] at g0))))))))))
    cases h2 : tyOk r.ty
    case false => refine kSeq (kReg (kFadP rfl rfl (kLoadP rfl rfl rfl (kCallD (ok_impl_NameOk _ pr pr) ⟨⟨⟨rfl, trivial⟩, leb⟩, trivial⟩ rfl rfl rfl rfl rfl (kUn rfl rfl (kMovC rfl (kGN rfl (fun g0 => (by (simp [*] at g0))) (fun g0 => kGT rfl (kFadP rfl rfl (kGT rfl (kLoadP rfl rfl rfl (kGT rfl (kCallD (ok_impl_TypeOk _) ⟨rfl, trivial⟩ rfl rfl rfl rfl rfl (kGT rfl (kUn rfl rfl (kPickF rfl (kMovC rfl (kMovC rfl (kGN rfl (fun g1 => kGF rfl (kGF rfl (kGF rfl (kGF rfl (kPickT rfl (kMovC rfl (kDone (kCondT rfl (kSeq (kReg (kMovC rfl (kDone (kRet (endRetA (ra := [.one (.d _)]) rfl rfl)))))))))))))) (fun g1 => (by (simp [*] at g1))))))))))))))))))))))
    have h3 : ¬ (0 ≤ r.ttl ∧ r.ttl ≤ 100000) := fun h => h0 ⟨h1, h2, h⟩
    refine kSeq (kReg (kFadP rfl rfl (kLoadP rfl rfl rfl (kCallD (ok_impl_NameOk _ pr pr) ⟨⟨⟨rfl, trivial⟩, leb⟩, trivial⟩ rfl rfl rfl rfl rfl (kUn rfl rfl (kMovC rfl (kGN rfl (fun g0 => (by (simp [*] at g0))) (fun g0 => kGT rfl (kFadP rfl rfl (kGT rfl (kLoadP rfl rfl rfl (kGT rfl (kCallD (ok_impl_TypeOk _) ⟨rfl, trivial⟩ rfl rfl rfl rfl rfl (kGT rfl (kUn rfl rfl (kPickF rfl (kMovC rfl (kMovC rfl (kGN rfl (fun g1 => (by (simp [*] at g1))) (fun g1 => kGT rfl (kFadP rfl rfl (kGT rfl (kLoadP rfl rfl rfl (kGT rfl (kCallD (ok_impl_within _ _ _) ⟨rfl, rfl, rfl, trivial⟩ rfl rfl rfl rfl rfl (kGT rfl (kUn rfl rfl (kPickF rfl (kMovC rfl (kDone (kCondN rfl (fun g2 => kSeq (kReg (kMovC rfl (kDone (kRet (endRetA (ra := [.one (.d _)]) rfl rfl)))))) (fun g2 => (by (simp [*] at g2))))))))))))))))))))))))))))))))))
  obtain ⟨h1, h2, h3⟩ := h0
  rw [show rrOk r = dataOk r by simp only [rrOk]; rw [h1, h2, decide_eq_true h3.1, decide_eq_true h3.2]; rfl]
  refine kSeq (kCut ⟨tabSl [(1, .c (.ptr (rid 1 0) 1 0))], obTab 1 [(rid 1 0, ⟨1, 0, .box (r.cells.map .d)⟩)], []⟩ ?_ (fun x hc => ?_))
  case refine_2 =>
    refine kSeq (kReg (kFadP rfl rfl (kLoadP rfl rfl rfl (kCallD (ok_impl_NameOk _ pr pr) ⟨⟨⟨rfl, trivial⟩, leb⟩, trivial⟩ rfl rfl rfl rfl rfl (kUn rfl rfl (kMovC rfl (kGN rfl (fun g0 => (by (simp [*] at g0))) (fun g0 => kGT rfl (kFadP rfl rfl (kGT rfl (kLoadP rfl rfl rfl (kGT rfl (kCallD (ok_impl_TypeOk _) ⟨rfl, trivial⟩ rfl rfl rfl rfl rfl (kGT rfl (kUn rfl rfl (kPickF rfl (kMovC rfl (kMovC rfl (kGN rfl (fun g1 => (by (simp [*] at g1))) (fun g1 => kGT rfl (kFadP rfl rfl (kGT rfl (kLoadP rfl rfl rfl (kGT rfl (kCallD (ok_impl_within _ _ _) ⟨rfl, rfl, rfl, trivial⟩ rfl rfl rfl rfl rfl (kGT rfl (kUn rfl rfl (kPickF rfl (kMovC rfl (kDone (kCondN rfl (fun g2 => (by (simp [*] at g2))) (fun g2 => kSkip (hc _ .normA)))))))))))))))))))))))))))))))))
  refine kSeq (kCut ⟨tabSl [(1, .c (.ptr (rid 1 0) 1 0)), (3, .b (((r.nums.length : Int) == 0)))], obTab 1 [(rid 1 0, ⟨1, 0, .box (r.cells.map .d)⟩)], []⟩ ?_ (fun x hc => ?_))
  case refine_2 => refine kReg (kFadP rfl rfl (kLoadP rfl rfl rfl (kLenR rfl rfl (kBin rfl rfl rfl (kMovC rfl (kDone (hc _ .normA)))))))
  refine kSeq (kCut ⟨tabSl [(1, .c (.ptr (rid 1 0) 1 0)), (3, .b ((if r.ty == 6 then numsOk r.nums else ((r.nums.length : Int) == 0))))], obTab 1 [(rid 1 0, ⟨1, 0, .box (r.cells.map .d)⟩)], []⟩ ?_ (fun x hc => ?_))
  case refine_2 =>
    refine kSeq (kReg (kFadP rfl rfl (kLoadP rfl rfl rfl (kBin rfl rfl rfl (kDone (kCondP rfl (fun g0 => kReg (kFadP rfl rfl (kLoadP rfl rfl rfl (kLenR rfl rfl (kBin rfl rfl rfl (kMovC rfl (kGP rfl (fun g1 => kGT rfl (kFadP rfl rfl (kGT rfl (kLoadP rfl rfl rfl (kGT rfl (kIadR rfl rfl rfl (by omega) (kGT rfl (kLoadD rfl rfl (kGT rfl (kCallD (ok_impl_isWord _) ⟨rfl, trivial⟩ rfl rfl rfl rfl rfl (kPickT rfl (kMovC rfl (kMovC rfl (kGS rfl (fun g2 => kGT rfl (kFadP rfl rfl (kGT rfl (kLoadP rfl rfl rfl (kGT rfl (kIadR rfl rfl rfl (by omega) (kGT rfl (kLoadD rfl rfl (kGT rfl (kCallD (ok_impl_within _ _ _) ⟨rfl, rfl, rfl, trivial⟩ rfl rfl rfl rfl rfl (kPickT rfl (kMovC rfl (kMovC rfl (kDone (hc _ .normA))))))))))))))) (fun g2 => kGF rfl (kGF rfl (kGF rfl (kGF rfl (kGF rfl (kPickF rfl (kMovC rfl (kMovC rfl (kDone (hc _ .normA)))))))))))))))))))))))) (fun g1 => kGF rfl (kGF rfl (kGF rfl (kGF rfl (kGF rfl (kPickF rfl (kMovC rfl (kMovC rfl (kGF rfl (kGF rfl (kGF rfl (kGF rfl (kGF rfl (kPickF rfl (kMovC rfl (kMovC rfl (kDone (hc _ .normA))))))))))))))))))))))))) (fun g0 => kSkip (hc _ .normA))))))))
  refine kSeq (kCut ⟨tabSl [(1, .c (.ptr (rid 1 0) 1 0)), (3, .b ((if r.ty == 6 then numsOk r.nums else ((r.nums.length : Int) == 0)))), (4, .b ((if r.ty == 1 then isW r.addr else r.addr == 0)))], obTab 1 [(rid 1 0, ⟨1, 0, .box (r.cells.map .d)⟩)], []⟩ ?_ (fun x hc => ?_))
  case refine_2 =>
    refine kReg (kFadP rfl rfl (kLoadP rfl rfl rfl (kBin rfl rfl rfl (kMovC rfl (kGP rfl (fun g0 => kGF rfl (kGF rfl (kGF rfl (kGF rfl (kGU rfl (kGU rfl (kGU rfl (kGF rfl (kPickT rfl (kMovC rfl (kMovC rfl (kDone (hc _ .normA))))))))))))) (fun g0 => kGT rfl (kFadP rfl rfl (kGT rfl (kLoadP rfl rfl rfl (kGT rfl (kBin rfl rfl rfl (kGT rfl (kMovC rfl (kGP rfl (fun g1 => kGT rfl (kFadP rfl rfl (kGT rfl (kLoadP rfl rfl rfl (kGT rfl (kCallD (ok_impl_isWord _) ⟨rfl, trivial⟩ rfl rfl rfl rfl rfl (kGT rfl (kPickT rfl (kMovC rfl (kPickF rfl (kMovC rfl (kMovC rfl (kDone (hc _ .normA)))))))))))))) (fun g1 => kGF rfl (kGF rfl (kGF rfl (kGT rfl (kPickF rfl (kMovC rfl (kPickF rfl (kMovC rfl (kMovC rfl (kDone (hc _ .normA)))))))))))))))))))))))))
  refine kSeq (kCut ⟨tabSl [(1, .c (.ptr (rid 1 0) 1 0)), (3, .b ((if r.ty == 6 then numsOk r.nums else ((r.nums.length : Int) == 0)))), (4, .b ((if r.ty == 1 then isW r.addr else r.addr == 0))), (5, .b ((if hasTo r.ty then nameOk r.to else ((r.to.length : Int) == 0))))], obTab 1 [(rid 1 0, ⟨1, 0, .box (r.cells.map .d)⟩)], []⟩ ?_ (fun x hc => ?_))
  case refine_2 =>
    refine kReg (kFadP rfl rfl (kFadP rfl rfl (kLoadP rfl rfl rfl (kLenR rfl rfl (kBin rfl rfl rfl (kMovC rfl (kGP rfl (fun g0 => kGF rfl (kGF rfl (kGF rfl (kGF rfl (kGU rfl (kGU rfl (kGU rfl (kGF rfl (kPickT rfl (kMovC rfl (kMovC rfl (kDone (hc _ .normA))))))))))))) (fun g0 => kGT rfl (kFadP rfl rfl (kGT rfl (kLoadP rfl rfl rfl (kGT rfl (kCallD (ok_impl_hasTo _) ⟨rfl, trivial⟩ rfl rfl rfl rfl rfl (kGT rfl (kMovC rfl (kGS rfl (fun g1 => kGT rfl (kFadP rfl rfl (kGT rfl (kLoadP rfl rfl rfl (kGT rfl (kCallD (ok_impl_NameOk _ pr pr) ⟨⟨⟨rfl, trivial⟩, leb⟩, trivial⟩ rfl rfl rfl rfl rfl (kGT rfl (kPickT rfl (kMovC rfl (kPickF rfl (kMovC rfl (kMovC rfl (kDone (hc _ .normA)))))))))))))) (fun g1 => kGF rfl (kGF rfl (kGF rfl (kGT rfl (kPickF rfl (kMovC rfl (kPickF rfl (kMovC rfl (kMovC rfl (kDone (hc _ .normA)))))))))))))))))))))))))))
  refine kSeq (kCut ⟨tabSl [(1, .c (.ptr (rid 1 0) 1 0)), (3, .b ((if r.ty == 6 then numsOk r.nums else ((r.nums.length : Int) == 0)))), (4, .b ((if r.ty == 1 then isW r.addr else r.addr == 0))), (5, .b ((if hasTo r.ty then nameOk r.to else ((r.to.length : Int) == 0)))), (6, .b ((if hasText r.ty then decide ((r.text.length : Int) ≤ 40) else ((r.text.length : Int) == 0))))], obTab 1 [(rid 1 0, ⟨1, 0, .box (r.cells.map .d)⟩)], []⟩ ?_ (fun x hc => ?_))
  case refine_2 =>
    refine kReg (kFadP rfl rfl (kLoadP rfl rfl rfl (kLenR rfl rfl (kBin rfl rfl rfl (kMovC rfl (kGP rfl (fun g0 => kGF rfl (kGF rfl (kGF rfl (kGF rfl (kGU rfl (kGU rfl (kGU rfl (kGU rfl (kGF rfl (kPickT rfl (kMovC rfl (kMovC rfl (kDone (hc _ .normA)))))))))))))) (fun g0 => kGT rfl (kFadP rfl rfl (kGT rfl (kLoadP rfl rfl rfl (kGT rfl (kCallD (ok_impl_hasText _) ⟨rfl, trivial⟩ rfl rfl rfl rfl rfl (kGT rfl (kMovC rfl (kGS rfl (fun g1 => kGT rfl (kFadP rfl rfl (kGT rfl (kLoadP rfl rfl rfl (kGT rfl (kLenR rfl rfl (kGT rfl (kBin rfl rfl rfl (kGT rfl (kPickT rfl (kMovC rfl (kPickF rfl (kMovC rfl (kMovC rfl (kDone (hc _ .normA)))))))))))))))) (fun g1 => kGF rfl (kGF rfl (kGF rfl (kGF rfl (kGT rfl (kPickF rfl (kMovC rfl (kPickF rfl (kMovC rfl (kMovC rfl (kDone (hc _ .normA)))))))))))))))))))))))))))
  refine kSeq (kReg (kMovC rfl (kMovC rfl (kGS rfl (fun g0 => kGT rfl (kMovC rfl (kPickT rfl (kMovC rfl (kMovC rfl (kGS rfl (fun g1 => kGT rfl (kMovC rfl (kPickT rfl (kMovC rfl (kMovC rfl (kGS rfl (fun g2 => kGT rfl (kMovC rfl (kPickT rfl (kMovC rfl (kMovC rfl (kDone (kRet (endRetA (ra := [.one (.d _)]) rfl ?_)))))))) (fun g2 => kGF rfl (kPickF rfl (kMovC rfl (kMovC rfl (kDone (kRet (endRetA (ra := [.one (.d _)]) rfl ?_))))))))))))) (fun g1 => kGF rfl (kPickF rfl (kMovC rfl (kMovC rfl (kGF rfl (kPickF rfl (kMovC rfl (kMovC rfl (kDone (kRet (endRetA (ra := [.one (.d _)]) rfl ?_))))))))))))))))) (fun g0 => kGF rfl (kPickF rfl (kMovC rfl (kMovC rfl (kGF rfl (kPickF rfl (kMovC rfl (kMovC rfl (kGF rfl (kPickF rfl (kMovC rfl (kMovC rfl (kDone (kRet (endRetA (ra := [.one (.d _)]) rfl ?_)))))))))))))))))))
  all_goals simp only [dataOk, *, Bool.true_and, Bool.false_and, Bool.and_true, Bool.and_false]

theorem ok_bytes_Compare (a b : List UInt8) : FnOK Tryd.prog 43 [.one (.d (encB a)), .one (.d (encB b))] (fun ra _ => ra = [.one (.d (.sc (.int .i64 (cmpB a b))))]) := by
  refine FnOK.ofWalkB Tryd.func43 rfl (by kernel_rfl) fun w va vb h1 h2 => ?_
  have hc := run_compare (P := Tryd.prog) (w := w) (va := va) (vb := vb) Tryd.func68 (by kernel_rfl) rfl (by kernel_rfl) (by kernel_rfl) h1 h2
  go_enter Tryd.func43, Tryd.ntmps43
  go_wp2
  all_goals go_ret
  exact ⟨rfl, Go.RowKit.Below.refl _ _⟩

def c_cmp_isNaN_int : C := (.seq (.reg false (.o 0 2 (.mov (.v (.bool false))) .done)) (.seq (.reg false (.o 0 3 (.mov (.t 0)) (.o 1 4 (.mov (.t 0)) (.o 2 5 (.bin .neq (.t 3) (.t 4)) (.o 3 2 (.mov (.t 5)) .done))))) .ret))
theorem dg_cmp_isNaN_int : Tryd.f69.body.bind (digC Tryd.prog Tryd.f69.ntmps []) = some c_cmp_isNaN_int := by kernel_rfl
theorem rs_cmp_isNaN_int : resSlots Tryd.prog Tryd.f69 = some [.s 2] := by kernel_rfl
theorem ok_cmp_isNaN_int (a : Int) :
    FnOK Tryd.prog 69 [.one (.d (.sc (.int .i64 a)))] (fun ra _ => ra = [.one (.d (.sc (.bool false)))]) := by
  refine FnOK.ofK Tryd.func69 (by kernel_rfl) dg_cmp_isNaN_int rs_cmp_isNaN_int rfl rfl ?_
  delta c_cmp_isNaN_int T.o X.i
  refine kSeq (kReg (kMovC rfl (kDone (kSeq (kReg (kMovC rfl (kMovC rfl (kBin rfl rfl rfl (kMovC rfl (kDone (kRet (endRetA (ra := [.one (.d _)]) rfl ?_))))))))))))
  rw [show (a != a) = false by simp]

def c_cmp_Compare_int : C := (.seq (.reg false (.o 0 4 (.mov (.i 0)) .done)) (.seq (.reg false (.o 0 7 (.mov (.t 0)) (.o 1 8 (.call 8 69 [(.t 7)]) (.o 2 5 (.mov (.t 8)) .done)))) (.seq (.reg false (.o 0 9 (.mov (.t 1)) (.o 1 10 (.call 10 69 [(.t 9)]) (.o 2 6 (.mov (.t 10)) .done)))) (.seq (.seq (.reg false (.o 0 11 (.mov (.t 5)) .done)) (.cond (.t 11) (.seq (.seq (.reg false (.o 0 12 (.mov (.t 6)) .done)) (.cond (.t 12) (.seq (.reg false (.o 0 4 (.mov (.i 0)) .done)) .ret) .skip)) (.seq (.reg false (.o 0 4 (.mov (.i (-1))) .done)) .ret)) .skip)) (.seq (.seq (.reg false (.o 0 13 (.mov (.t 6)) .done)) (.cond (.t 13) (.seq (.reg false (.o 0 4 (.mov (.i 1)) .done)) .ret) .skip)) (.seq (.seq (.reg false (.o 0 14 (.mov (.t 0)) (.o 1 15 (.mov (.t 1)) (.o 2 16 (.bin .lss (.t 14) (.t 15)) .done)))) (.cond (.t 16) (.seq (.reg false (.o 0 4 (.mov (.i (-1))) .done)) .ret) .skip)) (.seq (.seq (.reg false (.o 0 17 (.mov (.t 0)) (.o 1 18 (.mov (.t 1)) (.o 2 19 (.bin .gtr (.t 17) (.t 18)) .done)))) (.cond (.t 19) (.seq (.reg false (.o 0 4 (.mov (.i 1)) .done)) .ret) .skip)) (.seq (.reg false (.o 0 4 (.mov (.i 0)) .done)) .ret))))))))
theorem dg_cmp_Compare_int : Tryd.f44.body.bind (digC Tryd.prog Tryd.f44.ntmps []) = some c_cmp_Compare_int := by kernel_rfl
theorem rs_cmp_Compare_int : resSlots Tryd.prog Tryd.f44 = some [.s 4] := by kernel_rfl
theorem ok_cmp_Compare_int (a b : Int) :
    FnOK Tryd.prog 44 [.one (.d (.sc (.int .i64 a))), .one (.d (.sc (.int .i64 b)))] (fun ra _ => ra = [.one (.d (.sc (.int .i64 (cmpI a b))))]) := by
  refine FnOK.ofK Tryd.func44 (by kernel_rfl) dg_cmp_Compare_int rs_cmp_Compare_int rfl rfl ?_
  delta c_cmp_Compare_int T.o X.i
  refine kSeq (kReg (kMovC rfl (kDone (kSeq (kReg (kMovC rfl (kCallD (ok_cmp_isNaN_int _) ⟨rfl, trivial⟩ rfl rfl rfl rfl rfl (kMovC rfl (kDone (kSeq (kReg (kMovC rfl (kCallD (ok_cmp_isNaN_int _) ⟨rfl, trivial⟩ rfl rfl rfl rfl rfl (kMovC rfl (kDone (kSeq (kSeq (kReg (kMovC rfl (kDone (kCondF rfl (kSkip (kSeq (kSeq (kReg (kMovC rfl (kDone (kCondF rfl (kSkip (kSeq (kSeq (kReg (kMovC rfl (kMovC rfl (kBin rfl rfl rfl (kDone (kCondP rfl (fun g0 => kSeq (kReg (kMovC rfl (kDone (kRet (endRetA (ra := [.one (.d _)]) rfl ?_)))))) (fun g0 => kSkip (kSeq (kSeq (kReg (kMovC rfl (kMovC rfl (kBin rfl rfl rfl (kDone (kCondP rfl (fun g1 => kSeq (kReg (kMovC rfl (kDone (kRet (endRetA (ra := [.one (.d _)]) rfl ?_)))))) (fun g1 => kSkip (kSeq (kReg (kMovC rfl (kDone (kRet (endRetA (ra := [.one (.d _)]) rfl ?_)))))))))))))))))))))))))))))))))))))))))))))))))))))
  all_goals (refine congrArg (fun z : Int => [RA.one (RV.d (DV.sc (Value.int IntKind.i64 z)))]) ?_; unfold cmpI; split <;> first | omega | (split <;> omega))

def c_impl_Name_compare : C := (.seq (.reg false (.o 0 2 (.box 2 (.t 0)) (.o 1 3 (.box 3 (.t 1)) (.o 2 4 (.mov (.i 0)) .done)))) (.seq (.seq (.reg false (.o 0 5 (.mov (.i 1)) .done)) (.block 0 (.loop (.seq (.seq (.reg false (.o 0 7 (.mov (.t 5)) (.o 1 8 (.fad (.t 2) 0) (.o 2 9 (.load none (.t 8)) (.o 3 10 (.len (.t 9)) (.o 4 11 (.fad (.t 3) 0) (.o 5 12 (.load none (.t 11)) (.o 6 13 (.len (.t 12)) (.o 7 14 (.mm false (.t 10) (.t 13)) (.o 8 15 (.bin .leq (.t 7) (.t 14)) .done)))))))))) (.cond (.t 15) .skip (.exit 0))) (.seq (.block 1 (.seq (.reg true (.op 0 [] (some 18) none true (.fad (.t 2) 0) (.op 1 [] (some 19) none true (.load none (.t 18)) (.op 2 [] (some 20) none true (.fad (.t 2) 0) (.op 3 [] (some 21) none true (.load none (.t 20)) (.op 4 [] (some 22) none true (.len (.t 21)) (.op 5 [] (some 23) none true (.mov (.t 5)) (.op 6 [] (some 24) none true (.bin .sub (.t 22) (.t 23)) (.op 7 [] (some 25) none true (.iad 1 (.t 19) (.t 24)) (.op 8 [] (some 26) none true (.load none (.t 25)) (.op 9 [] (some 27) none true (.fad (.t 3) 0) (.op 10 [] (some 28) none true (.load none (.t 27)) (.op 11 [] (some 29) none true (.fad (.t 3) 0) (.op 12 [] (some 30) none true (.load none (.t 29)) (.op 13 [] (some 31) none true (.len (.t 30)) (.op 14 [] (some 32) none true (.mov (.t 5)) (.op 15 [] (some 33) none true (.bin .sub (.t 31) (.t 32)) (.op 16 [] (some 34) none true (.iad 1 (.t 28) (.t 33)) (.op 17 [] (some 35) none true (.load none (.t 34)) (.op 18 [8, 1, 3, 17, 10, 12] (some 36) none false (.call 36 43 [(.t 26), (.t 35)]) (.op 19 [] (some 6) none true (.mov (.t 36)) .done))))))))))))))))))))) (.seq (.reg false (.o 0 37 (.mov (.t 6)) (.o 1 38 (.bin .neq (.t 37) (.i 0)) .done))) (.cond (.t 38) (.seq (.reg false (.o 0 39 (.mov (.t 6)) (.o 1 4 (.mov (.t 39)) .done))) .ret) .skip)))) (.reg false (.o 0 16 (.mov (.t 5)) (.o 1 17 (.bin .add (.t 16) (.i 1)) (.o 2 5 (.mov (.t 17)) .done))))))))) (.seq (.reg false (.o 0 40 (.fad (.t 2) 0) (.o 1 41 (.load none (.t 40)) (.o 2 42 (.len (.t 41)) (.o 3 43 (.fad (.t 3) 0) (.o 4 44 (.load none (.t 43)) (.o 5 45 (.len (.t 44)) (.o 6 46 (.call 46 44 [(.t 42), (.t 45)]) (.o 7 4 (.mov (.t 46)) .done))))))))) .ret)))
theorem dg_impl_Name_compare : Tryd.f21.body.bind (digC Tryd.prog Tryd.f21.ntmps []) = some c_impl_Name_compare := by kernel_rfl
theorem rs_impl_Name_compare : resSlots Tryd.prog Tryd.f21 = some [.s 4] := by kernel_rfl
theorem ok_impl_Name_compare (a b : List (List UInt8)) (ha : a.length ≤ 4194304) (hb : b.length ≤ 4194304) :
    FnOK Tryd.prog 21 [.agg [.d (encBB a)], .agg [.d (encBB b)]] (fun ra _ => ra = [.one (.d (.sc (.int .i64 (cmpN a b))))]) := by
  refine FnOK.ofK Tryd.func21 (by kernel_rfl) dg_impl_Name_compare rs_impl_Name_compare rfl rfl ?_
  delta c_impl_Name_compare T.o X.i
  refine kSeq (kReg (kBox rfl rfl rfl rfl rfl (kBox rfl rfl rfl rfl rfl (kMovC rfl (kDone (kSeq (kSeq (kReg (kMovC rfl (kDone (kBlock ?_)))))))))))
  refine kLoop (α := { k : Nat // k ≤ a.length ∧ k ≤ b.length ∧ cmpN a b = cmpL (a.reverse.drop k) (b.reverse.drop k) })
    (fun y => ⟨tabSl [(2, .c (.ptr (rid 2 0) 1 0)), (3, .c (.ptr (rid 3 0) 1 0)), (5, .i (y.1 + 1))], obTab 1 [(rid 2 0, ⟨1, 0, .box [.d (encBB a)]⟩), (rid 3 0, ⟨1, 0, .box [.d (encBB b)]⟩)], []⟩) (fun y => a.length - y.1) ⟨0, by simp [cmpN]⟩
    .normA ?_
  rintro ⟨k, h1, h2, h3⟩
  simp only
  rcases Nat.lt_or_ge k a.length with hla | hga
  · rcases Nat.lt_or_ge k b.length with hlb | hgb
    · have hst := cmpL_step a b k hla hlb (a.length - (k + 1) : Int).toNat (b.length - (k + 1) : Int).toNat (by omega) (by omega)
      refine kSeq (kSeq (kReg (kMovC rfl (kFadP rfl rfl (kLoadP rfl rfl rfl (kLenR rfl rfl (kFadP rfl rfl (kLoadP rfl rfl rfl (kLenR rfl rfl (kMmMin rfl rfl (kBin rfl rfl rfl (kDone (kCondP rfl (fun g0 => kSkip (kSeq (kBlock (kSeq (kRegD (kFadP rfl rfl (kLoadP rfl rfl rfl (kFadP rfl rfl (kLoadP rfl rfl rfl (kLenR rfl rfl (kMovC rfl (kDif rfl rfl (by omega) (kIadT rfl rfl (by omega) (kLoadD rfl rfl (kFadP rfl rfl (kLoadP rfl rfl rfl (kFadP rfl rfl (kLoadP rfl rfl rfl (kLenR rfl rfl (kMovC rfl (kDif rfl rfl (by omega) (kIadT rfl rfl (by omega) (kLoadD rfl rfl (kRelF rfl rfl (kCallD (ok_bytes_Compare _ _) ⟨rfl, rfl, trivial⟩ rfl rfl rfl rfl rfl (kMovC rfl (kDone (kH (kSeq (kReg (kMovC rfl (kBin rfl rfl rfl (kDone (kCondIN rfl (fun g1 => kSeq (kReg (kMovC rfl (kMovC rfl (kDone (kRet (endRetA (ra := [.one (.d _)]) rfl ?_))))))) (fun g1 => kSkip (kBk (kReg (kMovC rfl (kAdd rfl rfl (by omega) (kMovC rfl (kDone ?_))))))))))))))))))))))))))))))))))))))))) (fun g0 => (by omega)))))))))))))))
      · rw [h3, hst, if_neg (by assumption)]
      · refine kInv ⟨⟨k + 1, hla, hlb, ?_⟩, by simp only; omega, .normA⟩
        rw [h3, hst, if_pos (by assumption)]
    · rw [cmpL_end a b k h1 h2 (by omega)] at h3
      refine kSeq (kSeq (kReg (kMovC rfl (kFadP rfl rfl (kLoadP rfl rfl rfl (kLenR rfl rfl (kFadP rfl rfl (kLoadP rfl rfl rfl (kLenR rfl rfl (kMmMin rfl rfl (kBin rfl rfl rfl (kDone (kCondP rfl (fun g0 => (by omega)) (fun g0 => kExit (kExC (kExI (kExB (kSeq (kReg (kFadP rfl rfl (kLoadP rfl rfl rfl (kLenR rfl rfl (kFadP rfl rfl (kLoadP rfl rfl rfl (kLenR rfl rfl (kCallD (ok_cmp_Compare_int _ _) ⟨rfl, rfl, trivial⟩ rfl rfl rfl rfl rfl (kMovC rfl (kDone (kRet (endRetA (ra := [.one (.d _)]) rfl ?_))))))))))))))))))))))))))))))
      all_goals (rw [h3]; refine congrArg (fun z : Int => [RA.one (RV.d (DV.sc (Value.int IntKind.i64 z)))]) ?_; unfold cmpI; split <;> (repeat' split) <;> omega)
  · rw [cmpL_end a b k h1 h2 (by omega)] at h3
    refine kSeq (kSeq (kReg (kMovC rfl (kFadP rfl rfl (kLoadP rfl rfl rfl (kLenR rfl rfl (kFadP rfl rfl (kLoadP rfl rfl rfl (kLenR rfl rfl (kMmMin rfl rfl (kBin rfl rfl rfl (kDone (kCondP rfl (fun g0 => (by omega)) (fun g0 => kExit (kExC (kExI (kExB (kSeq (kReg (kFadP rfl rfl (kLoadP rfl rfl rfl (kLenR rfl rfl (kFadP rfl rfl (kLoadP rfl rfl rfl (kLenR rfl rfl (kCallD (ok_cmp_Compare_int _ _) ⟨rfl, rfl, trivial⟩ rfl rfl rfl rfl rfl (kMovC rfl (kDone (kRet (endRetA (ra := [.one (.d _)]) rfl ?_))))))))))))))))))))))))))))))
    all_goals (rw [h3]; refine congrArg (fun z : Int => [RA.one (RV.d (DV.sc (Value.int IntKind.i64 z)))]) ?_; unfold cmpI; split <;> (repeat' split) <;> omega)

def c_impl_two : C := (.seq (.reg false (.o 0 2 (.mov (.n 1)) .done)) (.seq (.reg false (.o 0 3 (.mov (.t 0)) (.o 1 4 (.bin .shr (.t 3) (.v (.int .u64 8))) (.o 2 5 (.conv .u8 (.t 4)) (.o 3 6 (.mov (.t 0)) (.o 4 7 (.conv .u8 (.t 6)) (.o 5 8 (.lit 8 1 [(.v (.int .u8 0))] 2 [(0, 1, (.t 5)), (1, 1, (.t 7))]) (.o 6 2 (.mov (.t 8)) .done)))))))) .ret))
theorem dg_impl_two : Tryd.f85.body.bind (digC Tryd.prog Tryd.f85.ntmps []) = some c_impl_two := by kernel_rfl
theorem rs_impl_two : resSlots Tryd.prog Tryd.f85 = some [.s 2] := by kernel_rfl
theorem ok_impl_two (n : Int) :
    FnOK Tryd.prog 85 [.one (.d (.sc (.int .i64 n)))] (fun ra _ => ra = [.one (.own true (encB (w2 n)))]) := by
  refine FnOK.ofK Tryd.func85 (by kernel_rfl) dg_impl_two rs_impl_two rfl rfl ?_
  delta c_impl_two T.o X.i
  refine kSeq (kReg (kMovC rfl (kDone (kSeq (kReg (kMovC rfl (kShr (m := 8) rfl rfl rfl (kConvU8 rfl (kMovC rfl (kConvU8 rfl (kLit rfl rfl rfl rfl (kMovC rfl (kDone (kRet (endRetA (ra := [.one (.own true _)]) rfl rfl)))))))))))))))

def c_impl_four : C := (.seq (.reg false (.o 0 2 (.mov (.n 1)) .done)) (.seq (.reg false (.o 0 3 (.mov (.t 0)) (.o 1 4 (.bin .shr (.t 3) (.v (.int .u64 16))) (.o 2 5 (.call 5 85 [(.t 4)]) (.o 3 6 (.mov (.t 0)) (.o 4 7 (.call 7 85 [(.t 6)]) (.o 5 8 (.app 8 1 1 (.t 5) (.t 7)) (.o 6 2 (.mov (.t 8)) .done)))))))) .ret))
theorem dg_impl_four : Tryd.f77.body.bind (digC Tryd.prog Tryd.f77.ntmps []) = some c_impl_four := by kernel_rfl
theorem rs_impl_four : resSlots Tryd.prog Tryd.f77 = some [.s 2] := by kernel_rfl
theorem ok_impl_four (n : Int) :
    FnOK Tryd.prog 77 [.one (.d (.sc (.int .i64 n)))] (fun ra _ => ra = [.one (.own true (encB (w4 n)))]) := by
  refine FnOK.ofK Tryd.func77 (by kernel_rfl) dg_impl_four rs_impl_four rfl rfl ?_
  delta c_impl_four T.o X.i
  rw [← w4_two]
  have hl : ∀ m, (w2 m).length = 2 := fun _ => rfl
  have l1 := hl (sr n 16)
  have l2 := hl n
  refine kSeq (kReg (kMovC rfl (kDone (kSeq (kReg (kMovC rfl (kShr (m := 16) rfl rfl rfl (kCall1 true (ok_impl_two _) ⟨rfl, trivial⟩ rfl rfl rfl (fun _ => (kMovC rfl (kCall1 true (ok_impl_two _) ⟨rfl, trivial⟩ rfl rfl rfl (fun _ => (kAppR rfl rfl rfl rfl rfl rfl rfl rfl (by omega) (kMovC rfl (kDone (kRet (endRetA (ra := [.one (.own true _)]) rfl rfl)))))))))))))))))

def c_impl_Name_wire : C := (.seq (.reg false (.o 0 1 (.box 1 (.t 0)) (.o 1 2 (.mov (.n 1)) .done))) (.seq (.reg false (.o 0 6 (.lit 6 1 [(.v (.int .u8 0))] 0 []) (.o 1 3 (.mov (.t 6)) .done))) (.seq (.seq (.reg false (.o 0 7 (.fad (.t 1) 0) (.o 1 8 (.load none (.t 7)) (.o 2 9 (.len (.t 8)) (.o 3 10 (.mov (.i 0)) .done))))) (.block 0 (.loop (.seq (.reg false (.o 0 11 (.bin .lss (.t 10) (.t 9)) .done)) (.seq (.cond (.t 11) .skip (.exit 0)) (.seq (.block 1 (.seq (.reg false (.o 0 12 (.iad 1 (.t 8) (.t 10)) (.o 1 13 (.load none (.t 12)) (.o 2 5 (.mov (.t 13)) .done)))) (.reg false (.o 0 14 (.mov (.t 3)) (.o 1 15 (.mov (.t 5)) (.o 2 16 (.len (.t 15)) (.o 3 17 (.conv .u8 (.t 16)) (.o 4 18 (.lit 18 1 [(.v (.int .u8 0))] 1 [(0, 1, (.t 17))]) (.o 5 19 (.app 19 1 1 (.t 14) (.t 18)) (.o 6 20 (.mov (.t 5)) (.o 7 21 (.app 21 1 1 (.t 19) (.t 20)) (.o 8 3 (.mov (.t 21)) .done)))))))))))) (.reg false (.o 0 22 (.bin .add (.t 10) (.i 1)) (.o 1 10 (.mov (.t 22)) .done))))))))) (.seq (.reg false (.o 0 23 (.mov (.t 3)) (.o 1 24 (.lit 24 1 [(.v (.int .u8 0))] 1 [(0, 1, (.v (.int .u8 0)))]) (.o 2 25 (.app 25 1 1 (.t 23) (.t 24)) (.o 3 2 (.mov (.t 25)) .done))))) .ret))))
theorem dg_impl_Name_wire : Tryd.f78.body.bind (digC Tryd.prog Tryd.f78.ntmps []) = some c_impl_Name_wire := by kernel_rfl
theorem rs_impl_Name_wire : resSlots Tryd.prog Tryd.f78 = some [.s 2] := by kernel_rfl
theorem ok_impl_Name_wire (a : List (List UInt8)) (hs : SmallBB a) :
    FnOK Tryd.prog 78 [.agg [.d (encBB a)]] (fun ra _ => ra = [.one (.own true (encB (wireN a)))]) := by
  refine FnOK.ofK Tryd.func78 (by kernel_rfl) dg_impl_Name_wire rs_impl_Name_wire rfl rfl ?_
  delta c_impl_Name_wire T.o X.i
  have h1 := hs.len
  have h2 := hs.flat
  refine kSeq (kReg (kBox rfl rfl rfl rfl rfl (kMovC rfl (kDone (kSeq (kReg (kLit rfl rfl rfl rfl (kMovC rfl (kDone (kSeq (kSeq (kReg (kFadP rfl rfl (kLoadP rfl rfl rfl (kLenR rfl rfl (kMovC rfl (kDone (kBlock ?_))))))))))))))))))
  refine kLoop (α := { i : Nat // i ≤ a.length }) (fun y => ⟨tabSl [(3, .c (.arr (rid 6 0) 1)), (8, .dv (encBB a)), (9, .i a.length), (10, .i y.1)], obTab 1 [(rid 6 0, ⟨1, 0, .arr true (encB (wireL (a.take y.1)))⟩)], []⟩) (fun y => a.length - y.1) ⟨0, by simp⟩ .normA ?_
  rintro ⟨i, hi⟩
  simp only
  have hl := wireL_le a i
  rcases Nat.lt_or_ge i a.length with hlt | hge
  · have hst := wireL_take a i hlt
    have hm := hs.mem _ (List.getElem_mem hlt)
    have hlen : (wireL (a.take i) ++ [u8 a[i].length]).length = (wireL (a.take i)).length + 1 := by simp
    refine kSeq (kReg (kBin rfl rfl rfl (kDone (kSeq (kCondP rfl (fun g0 => kSkip (kSeq (kBlock (kSeq (kReg (kIadR rfl rfl rfl (by omega) (kLoadD rfl rfl (kMovC rfl (kDone (kReg (kMovC rfl (kMovC rfl (kLenR rfl rfl (kConvU8 rfl (kLit rfl rfl rfl rfl (kAppR1 rfl rfl rfl rfl rfl rfl rfl rfl (by omega) (kMovC rfl (kAppR rfl rfl rfl (src_encB _ _) rfl rfl rfl rfl (by omega) (kMovC rfl (kDone (kBk (kReg (kAdd rfl rfl (by omega) (kMovC rfl (kDone ?_))))))))))))))))))))))))) (fun g0 => (by omega)))))))
    refine kInv ⟨⟨i + 1, by omega⟩, by simp only; omega, ?_⟩
    simp only [hst]
    exact .normA
  · have he : wireN a = wireL (a.take i) ++ [0] := by rw [show i = a.length by omega, List.take_length]; rfl
    rw [he]
    refine kSeq (kReg (kBin rfl rfl rfl (kDone (kSeq (kCondP rfl (fun g0 => (by omega)) (fun g0 => kExit (kExC (kExI (kExB (kSeq (kReg (kMovC rfl (kLit rfl rfl rfl rfl (kAppR1 (z := (0 : UInt8)) rfl rfl rfl rfl rfl rfl rfl rfl (by omega) (kMovC rfl (kDone (kRet (endRetA (ra := [.one (.own true _)]) rfl rfl))))))))))))))))))

def c_impl_Rr_data : C := (.seq (.reg false (.o 0 1 (.box 1 (.t 0)) (.o 1 2 (.mov (.n 1)) .done))) (.seq (.block 0 (.seq (.reg false (.o 0 7 (.fad (.t 1) 1) (.o 1 8 (.load none (.t 7)) (.o 2 9 (.bin .eql (.t 8) (.i 1)) (.o 3 6 (.mov (.t 9)) .done))))) (.cond (.t 6) (.seq (.reg false (.o 0 10 (.fad (.t 1) 3) (.o 1 11 (.load none (.t 10)) (.o 2 12 (.call 12 77 [(.t 11)]) (.o 3 2 (.mov (.t 12)) .done))))) .ret) (.seq (.reg false (.o 0 14 (.fad (.t 1) 1) (.o 1 15 (.load none (.t 14)) (.o 2 16 (.call 16 58 [(.t 15)]) (.o 3 13 (.mov (.t 16)) .done))))) (.cond (.t 13) (.seq (.reg false (.o 0 17 (.fad (.t 1) 4) (.o 1 18 (.load (some 1) (.t 17)) (.o 2 19 (.call 19 78 [(.t 18)]) (.o 3 3 (.mov (.t 19)) .done))))) (.seq (.seq (.reg false (.o 0 20 (.fad (.t 1) 6) (.o 1 21 (.load none (.t 20)) (.o 2 22 (.len (.t 21)) (.o 3 23 (.mov (.i 0)) .done))))) (.block 1 (.loop (.seq (.reg false (.o 0 24 (.bin .lss (.t 23) (.t 22)) .done)) (.seq (.cond (.t 24) .skip (.exit 1)) (.seq (.block 2 (.seq (.reg false (.o 0 25 (.iad 1 (.t 21) (.t 23)) (.o 1 26 (.load none (.t 25)) (.o 2 5 (.mov (.t 26)) .done)))) (.reg false (.o 0 27 (.mov (.t 3)) (.o 1 28 (.mov (.t 5)) (.o 2 29 (.call 29 77 [(.t 28)]) (.o 3 30 (.app 30 1 1 (.t 27) (.t 29)) (.o 4 3 (.mov (.t 30)) .done)))))))) (.reg false (.o 0 31 (.bin .add (.t 23) (.i 1)) (.o 1 23 (.mov (.t 31)) .done))))))))) (.seq (.reg false (.o 0 32 (.mov (.t 3)) (.o 1 2 (.mov (.t 32)) .done))) .ret))) .skip))))) (.seq (.reg false (.o 0 33 (.fad (.t 1) 5) (.o 1 34 (.load none (.t 33)) (.o 2 35 (.len (.t 34)) (.o 3 36 (.conv .u8 (.t 35)) (.o 4 37 (.lit 37 1 [(.v (.int .u8 0))] 1 [(0, 1, (.t 36))]) (.o 5 38 (.fad (.t 1) 5) (.o 6 39 (.load none (.t 38)) (.o 7 40 (.app 40 1 1 (.t 37) (.t 39)) (.o 8 2 (.mov (.t 40)) .done)))))))))) .ret)))
theorem dg_impl_Rr_data : Tryd.f61.body.bind (digC Tryd.prog Tryd.f61.ntmps []) = some c_impl_Rr_data := by kernel_rfl
theorem rs_impl_Rr_data : resSlots Tryd.prog Tryd.f61 = some [.s 2] := by kernel_rfl
theorem ok_impl_Rr_data (r : Rr) (hs : SmallR r) :
    FnOK Tryd.prog 61 [.agg (r.cells.map .d)] (fun ra _ => ra = [.one (.own true (encB (rdata r)))]) := by
  refine FnOK.ofK Tryd.func61 (by kernel_rfl) dg_impl_Rr_data rs_impl_Rr_data rfl rfl ?_
  delta c_impl_Rr_data T.o X.i
  have ht := hs.t
  have t1 := hs.t.len
  have t2 := hs.t.flat
  have x1 := hs.x
  have m1 := hs.m
  by_cases h1 : r.ty = 1
  · rw [rdata_A h1]
    refine kSeq (kReg (kBox rfl rfl rfl rfl rfl (kMovC rfl (kDone (kSeq (kBlock (kSeq (kReg (kFadP rfl rfl (kLoadP rfl rfl rfl (kBin rfl rfl rfl (kMovC rfl (kDone (kCondP rfl (fun g0 => kSeq (kReg (kFadP rfl rfl (kLoadP rfl rfl rfl (kCall1 true (ok_impl_four _) ⟨rfl, trivial⟩ rfl rfl rfl (fun _ => (kMovC rfl (kDone (kRet (endRetA (ra := [.one (.own true _)]) rfl rfl)))))))))) (fun g0 => (by omega))))))))))))))))
  cases h2 : hasTo r.ty
  · rw [rdata_text h1 h2]
    refine kSeq (kReg (kBox rfl rfl rfl rfl rfl (kMovC rfl (kDone (kSeq (kBlock (kSeq (kReg (kFadP rfl rfl (kLoadP rfl rfl rfl (kBin rfl rfl rfl (kMovC rfl (kDone (kCondP rfl (fun g0 => (by omega)) (fun g0 => kSeq (kReg (kFadP rfl rfl (kLoadP rfl rfl rfl (kCallD (ok_impl_hasTo _) ⟨rfl, trivial⟩ rfl rfl rfl rfl rfl (kMovC rfl (kDone (kCond rfl (fun g1 => (by (simp [*] at g1))) (fun g1 => kSkip (kBk (kSeq (kReg (kFadP rfl rfl (kLoadP rfl rfl rfl (kLenR rfl rfl (kConvU8 rfl (kLit rfl rfl rfl rfl (kFadP rfl rfl (kLoadP rfl rfl rfl (kApp1R rfl rfl (src_encB _ _) rfl rfl rfl rfl rfl (by omega) (kMovC rfl (kDone (kRet (endRetA (ra := [.one (.own true _)]) rfl rfl))))))))))))))))))))))))))))))))))))))
  · rw [rdata_to h1 h2]
    refine kSeq (kReg (kBox rfl rfl rfl rfl rfl (kMovC rfl (kDone (kSeq (kBlock (kSeq (kReg (kFadP rfl rfl (kLoadP rfl rfl rfl (kBin rfl rfl rfl (kMovC rfl (kDone (kCondP rfl (fun g0 => (by omega)) (fun g0 => kSeq (kReg (kFadP rfl rfl (kLoadP rfl rfl rfl (kCallD (ok_impl_hasTo _) ⟨rfl, trivial⟩ rfl rfl rfl rfl rfl (kMovC rfl (kDone (kCond rfl (fun g1 => kSeq (kReg (kFadP rfl rfl (kLoadP rfl rfl rfl (kCall1 true (ok_impl_Name_wire _ pr) ⟨⟨⟨rfl, trivial⟩, leb⟩, trivial⟩ rfl rfl rfl (fun _ => (kMovC rfl (kDone (kSeq (kSeq (kReg (kFadP rfl rfl (kLoadP rfl rfl rfl (kLenR rfl rfl (kMovC rfl (kDone (kBlock ?_))))))))))))))))) (fun g1 => (by (simp [*] at g1)))))))))))))))))))))))))
    refine kLoop (α := { i : Nat // i ≤ r.nums.length }) (fun y => ⟨tabSl [(3, .c (.arr (rid 19 0) 1)), (21, .dv (encI r.nums)), (22, .i r.nums.length), (23, .i y.1)], obTab 1 [(rid 19 0, ⟨1, 0, .arr true (encB (wireN r.to ++ (r.nums.take y.1).flatMap w4))⟩)], []⟩) (fun y => r.nums.length - y.1) ⟨0, by simp⟩ (by simp only [List.take_zero, List.flatMap_nil, List.append_nil]; exact .normA) ?_
    rintro ⟨i, hi⟩
    simp only
    have hl : (wireN r.to ++ (r.nums.take i).flatMap w4).length ≤ 33554432 := by
      rw [List.length_append, wireN_len, w4s_len, List.length_take]; omega
    have hl4 : ∀ n, (w4 n).length = 4 := w4_len
    rcases Nat.lt_or_ge i r.nums.length with hlt | hge
    · have hst : wireN r.to ++ (r.nums.take (i + 1)).flatMap w4 = wireN r.to ++ (r.nums.take i).flatMap w4 ++ w4 r.nums[i] := by rw [flatMap_take _ _ _ hlt, List.append_assoc]
      have h4 := hl4 r.nums[i]
      refine kSeq (kReg (kBin rfl rfl rfl (kDone (kSeq (kCondP rfl (fun g0 => kSkip (kSeq (kBlock (kSeq (kReg (kIadR rfl rfl rfl (by omega) (kLoadD rfl rfl (kMovC rfl (kDone (kReg (kMovC rfl (kMovC rfl (kCall1 true (ok_impl_four _) ⟨rfl, trivial⟩ rfl rfl rfl (fun _ => (kAppR rfl rfl rfl rfl rfl rfl rfl rfl (by omega) (kMovC rfl (kDone (kBk (kReg (kAdd rfl rfl (by omega) (kMovC rfl (kDone ?_)))))))))))))))))))))) (fun g0 => (by omega)))))))
      refine kInv ⟨⟨i + 1, by omega⟩, by simp only; omega, ?_⟩
      simp only [hst]
      exact .normA
    · rw [show i = r.nums.length by omega, List.take_length]
      refine kSeq (kReg (kBin rfl rfl rfl (kDone (kSeq (kCondP rfl (fun g0 => (by omega)) (fun g0 => kExit (kExC (kExI (kExB (kSeq (kReg (kMovC rfl (kMovC rfl (kDone (kRet (endRetA (ra := [.one (.own true _)]) rfl rfl))))))))))))))))

def c_cmp_Or_int : C := (.seq (.reg false (.o 0 2 (.mov (.i 0)) .done)) (.seq (.reg false (.o 0 3 (.mov (.i 0)) .done)) (.seq (.seq (.reg false (.o 0 6 (.mov (.t 0)) (.o 1 7 (.len (.t 6)) (.o 2 8 (.mov (.i 0)) .done)))) (.block 0 (.loop (.seq (.reg false (.o 0 9 (.bin .lss (.t 8) (.t 7)) .done)) (.seq (.cond (.t 9) .skip (.exit 0)) (.seq (.block 1 (.seq (.reg false (.o 0 10 (.iad 1 (.t 6) (.t 8)) (.o 1 11 (.load none (.t 10)) (.o 2 5 (.mov (.t 11)) .done)))) (.seq (.reg false (.o 0 12 (.mov (.t 5)) (.o 1 13 (.mov (.t 3)) (.o 2 14 (.bin .neq (.t 12) (.t 13)) .done)))) (.cond (.t 14) (.seq (.reg false (.o 0 15 (.mov (.t 5)) (.o 1 2 (.mov (.t 15)) .done))) .ret) .skip)))) (.reg false (.o 0 16 (.bin .add (.t 8) (.i 1)) (.o 1 8 (.mov (.t 16)) .done))))))))) (.seq (.reg false (.o 0 17 (.mov (.t 3)) (.o 1 2 (.mov (.t 17)) .done))) .ret))))
theorem dg_cmp_Or_int : Tryd.f60.body.bind (digC Tryd.prog Tryd.f60.ntmps []) = some c_cmp_Or_int := by kernel_rfl
theorem rs_cmp_Or_int : resSlots Tryd.prog Tryd.f60 = some [.s 2] := by kernel_rfl
theorem ok_cmp_Or_int (l : List Int) (h : l.length ≤ 4194304) :
    FnOK Tryd.prog 60 [.one (.d (encI l))] (fun ra _ => ra = [.one (.d (.sc (.int .i64 (orL l))))]) := by
  refine FnOK.ofK Tryd.func60 (by kernel_rfl) dg_cmp_Or_int rs_cmp_Or_int rfl rfl ?_
  delta c_cmp_Or_int T.o X.i
  refine kSeq (kReg (kMovC rfl (kDone (kSeq (kReg (kMovC rfl (kDone (kSeq (kSeq (kReg (kMovC rfl (kLenR rfl rfl (kMovC rfl (kDone (kBlock ?_)))))))))))))))
  refine kLoop (α := { i : Nat // i ≤ l.length ∧ orL l = orL (l.drop i) }) (fun y => ⟨tabSl [(3, .i 0), (6, .dv (encI l)), (7, .i l.length), (8, .i y.1)], obTab 1 [], []⟩) (fun y => l.length - y.1) ⟨0, by simp⟩ .normA ?_
  rintro ⟨i, hi, hr⟩
  simp only
  rcases Nat.lt_or_ge i l.length with hlt | hge
  · have hst := orL_drop l i hlt
    refine kSeq (kReg (kBin rfl rfl rfl (kDone (kSeq (kCondP rfl (fun g0 => kSkip (kSeq (kBlock (kSeq (kReg (kIadR rfl rfl rfl (by omega) (kLoadD rfl rfl (kMovC rfl (kDone (kSeq (kReg (kMovC rfl (kMovC rfl (kBin rfl rfl rfl (kDone (kCondIN rfl (fun g1 => kSeq (kReg (kMovC rfl (kMovC rfl (kDone (kRet (endRetA (ra := [.one (.d _)]) rfl ?_))))))) (fun g1 => kSkip (kBk (kReg (kAdd rfl rfl (by omega) (kMovC rfl (kDone ?_)))))))))))))))))))))) (fun g0 => (by omega)))))))
    · rw [hr, hst, if_neg (by assumption)]
    · exact kInv ⟨⟨i + 1, by omega, by rw [hr, hst, if_pos (by assumption)]⟩, by simp only; omega, .normA⟩
  · have hst : orL l = 0 := by rw [hr, List.drop_eq_nil_of_le hge]; rfl
    rw [hst]
    refine kSeq (kReg (kBin rfl rfl rfl (kDone (kSeq (kCondP rfl (fun g0 => (by omega)) (fun g0 => kExit (kExC (kExI (kExB (kSeq (kReg (kMovC rfl (kMovC rfl (kDone (kRet (endRetA (ra := [.one (.d _)]) rfl rfl))))))))))))))))

theorem ok_cmp_Or_int3 (a b c : Int) :
    FnOK Tryd.prog 60 [.one (.d (.sl 1 [[.sc (.int .i64 a)], [.sc (.int .i64 b)], [.sc (.int .i64 c)]]))] (fun ra _ => ra = [.one (.d (.sc (.int .i64 (orL [a, b, c]))))]) := ok_cmp_Or_int [a, b, c] (by simp)
theorem ok_cmp_Or_int2 (a b : Int) :
    FnOK Tryd.prog 60 [.one (.d (.sl 1 [[.sc (.int .i64 a)], [.sc (.int .i64 b)]]))] (fun ra _ => ra = [.one (.d (.sc (.int .i64 (orL [a, b]))))]) := ok_cmp_Or_int [a, b] (by simp)

def c_impl_Rr_compare : C := (.seq (.reg false (.o 0 2 (.box 2 (.t 0)) (.o 1 3 (.box 3 (.t 1)) (.o 2 4 (.mov (.i 0)) .done)))) (.seq (.reg true (.op 0 [] (some 5) none true (.fad (.t 2) 0) (.op 1 [] (some 6) none true (.load (some 1) (.t 5)) (.op 2 [] (some 7) none true (.fad (.t 3) 0) (.op 3 [] (some 8) none true (.load (some 1) (.t 7)) (.op 5 [] (some 10) none true (.fad (.t 2) 1) (.op 6 [] (some 11) none true (.load none (.t 10)) (.op 7 [] (some 12) none true (.fad (.t 3) 1) (.op 8 [] (some 13) none true (.load none (.t 12)) (.op 10 [] (some 15) none true (.load (some 7) (.t 2)) (.op 12 [] (some 17) none true (.load (some 7) (.t 3)) (.op 4 [1, 3] (some 9) none false (.call 9 21 [(.t 6), (.t 8)]) (.op 9 [6, 8, 1, 3] (some 14) none false (.call 14 44 [(.t 11), (.t 13)]) (.op 11 [10, 6, 8, 1, 3] (some 16) none false (.call 16 61 [(.t 15)]) (.op 13 [12, 10, 6, 8, 1, 3] (some 18) none false (.call 18 61 [(.t 17)]) (.op 14 [10, 6, 8, 1, 3, 12] (some 19) none false (.call 19 43 [(.t 16), (.t 18)]) (.op 15 [1, 3, 6, 8, 10, 12] (some 20) none false (.lit 20 1 [(.i 0)] 3 [(0, 1, (.t 9)), (1, 1, (.t 14)), (2, 1, (.t 19))]) (.op 16 [1, 3, 6, 8, 10, 12] (some 21) none false (.call 21 60 [(.t 20)]) (.op 17 [] (some 4) none true (.mov (.t 21)) .done))))))))))))))))))) .ret))
theorem dg_impl_Rr_compare : Tryd.f35.body.bind (digC Tryd.prog Tryd.f35.ntmps []) = some c_impl_Rr_compare := by kernel_rfl
theorem rs_impl_Rr_compare : resSlots Tryd.prog Tryd.f35 = some [.s 4] := by kernel_rfl
theorem ok_impl_Rr_compare (a b : Rr) (ha : SmallR a) (hb : SmallR b) :
    FnOK Tryd.prog 35 [.agg (a.cells.map .d), .agg (b.cells.map .d)] (fun ra _ => ra = [.one (.d (.sc (.int .i64 (cmpR a b))))]) := by
  refine FnOK.ofK Tryd.func35 (by kernel_rfl) dg_impl_Rr_compare rs_impl_Rr_compare rfl rfl ?_
  delta c_impl_Rr_compare T.o X.i
  have n1 := ha.n.len
  have n2 := hb.n.len
  have r1 := rdata_le ha
  have r2 := rdata_le hb
  rw [cmpR_or]
  refine kSeq (kReg (kBox rfl rfl rfl rfl rfl (kBox rfl rfl rfl rfl rfl (kMovC rfl (kDone (kSeq (kRegD (kFadP rfl rfl (kLoadP rfl rfl rfl (kFadP rfl rfl (kLoadP rfl rfl rfl (kFadP rfl rfl (kLoadP rfl rfl rfl (kFadP rfl rfl (kLoadP rfl rfl rfl (kLoadP rfl rfl rfl (kLoadP rfl rfl rfl (kRelK rfl rfl (kCallD (ok_impl_Name_compare _ _ pr pr) ⟨⟨⟨rfl, trivial⟩, leb⟩, ⟨⟨rfl, trivial⟩, leb⟩, trivial⟩ rfl rfl rfl rfl rfl (kRelK rfl rfl (kCallD (ok_cmp_Compare_int _ _) ⟨rfl, rfl, trivial⟩ rfl rfl rfl rfl rfl (kRelK rfl rfl (kCall1 true (ok_impl_Rr_data _ pr) ⟨⟨⟨rfl, rfl, rfl, rfl, rfl, rfl, rfl, trivial⟩, leb⟩, trivial⟩ rfl rfl rfl (fun _ => (kRelF rfl rfl (kCall1 true (ok_impl_Rr_data _ pr) ⟨⟨⟨rfl, rfl, rfl, rfl, rfl, rfl, rfl, trivial⟩, leb⟩, trivial⟩ rfl rfl rfl (fun _ => (kRelF rfl rfl (kCallD (ok_bytes_Compare _ _) ⟨rfl, rfl, trivial⟩ rfl rfl rfl rfl rfl (kRelF rfl rfl (kLit rfl rfl rfl rfl (kRelF rfl rfl (kCallD (ok_cmp_Or_int3 _ _ _) ⟨rfl, trivial⟩ rfl rfl rfl rfl rfl (kMovC rfl (kDone (kH (kRet (endRetA (ra := [.one (.d _)]) rfl rfl))))))))))))))))))))))))))))))))))))))


def c_impl_RrCmp : C := (.seq (.reg false (.o 0 2 (.box 2 (.t 0)) (.o 1 3 (.box 3 (.t 1)) (.o 2 4 (.mov (.i 0)) .done)))) (.seq (.seq (.reg false (.o 0 5 (.load (some 7) (.t 2)) (.o 1 6 (.call 6 34 [(.t 5)]) (.o 2 7 (.un .not (.t 6)) (.o 3 8 (.mov (.t 7)) (.op 4 [] (some 9) (some (8, false)) false (.load (some 7) (.t 3)) (.op 5 [] (some 10) (some (8, false)) false (.call 10 34 [(.t 9)]) (.op 6 [] (some 11) (some (8, false)) false (.un .not (.t 10)) (.o 7 12 (.pick (.t 8) (.v (.bool true)) (.t 11)) .done))))))))) (.cond (.t 12) (.seq (.reg false (.o 0 4 (.mov (.i 0)) .done)) .ret) .skip)) (.seq (.reg false (.o 0 13 (.load (some 7) (.t 2)) (.o 1 14 (.load (some 7) (.t 3)) (.o 2 15 (.call 15 35 [(.t 13), (.t 14)]) (.o 3 4 (.mov (.t 15)) .done))))) .ret)))
theorem dg_impl_RrCmp : Tryd.f15.body.bind (digC Tryd.prog Tryd.f15.ntmps []) = some c_impl_RrCmp := by kernel_rfl
theorem rs_impl_RrCmp : resSlots Tryd.prog Tryd.f15 = some [.s 4] := by kernel_rfl
theorem ok_impl_RrCmp (a b : Rr) (ha : SmallR a) (hb : SmallR b) :
    FnOK Tryd.prog 15 [.agg (a.cells.map .d), .agg (b.cells.map .d)] (fun ra _ => ra = [.one (.d (.sc (.int .i64 (if rrOk a && rrOk b then cmpR a b else 0))))]) := by
  refine FnOK.ofK Tryd.func15 (by kernel_rfl) dg_impl_RrCmp rs_impl_RrCmp rfl rfl ?_
  delta c_impl_RrCmp T.o X.i
  refine kSeq (kReg (kBox rfl rfl rfl rfl rfl (kBox rfl rfl rfl rfl rfl (kMovC rfl (kDone (kSeq (kSeq (kReg (kLoadP rfl rfl rfl (kCallD (ok_impl_RrOk _ (by first | assumption | omega | solve_by_elim [List.getElem_mem] | (simp only [szOut] at *; omega) | exact rfl | exact leb | exact rrOk_small (by assumption) | exact zoneOk_small (by assumption) | exact SmallBB.ok (by assumption) | exact (SmallBB.ok (by assumption)).len | exact (SmallBB.ok (by assumption)).mem | exact SmallBB.bent (by assumption))) ⟨⟨⟨rfl, rfl, rfl, rfl, rfl, rfl, rfl, trivial⟩, leb⟩, trivial⟩ rfl rfl rfl rfl rfl (kUn rfl rfl (kMovC rfl (kGN rfl (fun g0 => kGF rfl (kGF rfl (kGF rfl (kPickT rfl (kMovC rfl (kDone (kCondT rfl (kSeq (kReg (kMovC rfl (kDone (kRet (endRetA (ra := [.one (.d _)]) rfl ?_))))))))))))) (fun g0 => kGT rfl (kLoadP rfl rfl rfl (kGT rfl (kCallD (ok_impl_RrOk _ (by first | assumption | omega | solve_by_elim [List.getElem_mem] | (simp only [szOut] at *; omega) | exact rfl | exact leb | exact rrOk_small (by assumption) | exact zoneOk_small (by assumption) | exact SmallBB.ok (by assumption) | exact (SmallBB.ok (by assumption)).len | exact (SmallBB.ok (by assumption)).mem | exact SmallBB.bent (by assumption))) ⟨⟨⟨rfl, rfl, rfl, rfl, rfl, rfl, rfl, trivial⟩, leb⟩, trivial⟩ rfl rfl rfl rfl rfl (kGT rfl (kUn rfl rfl (kPickF rfl (kMovC rfl (kDone (kCondN rfl (fun g1 => kSeq (kReg (kMovC rfl (kDone (kRet (endRetA (ra := [.one (.d _)]) rfl ?_)))))) (fun g1 => kSkip (kSeq (kReg (kMem [(12288, ⟨1, 0, .box [.d _, .d _, .d _, .d _, .d _, .d _, .d _]⟩), (16384, ⟨1, 0, .box [.d _, .d _, .d _, .d _, .d _, .d _, .d _]⟩)] [(2, .c (.ptr 12288 1 0)), (3, .c (.ptr 16384 1 0)), (13, .c (.un)), (14, .c (.un)), (15, .c (.un))] [] ⟨rfl, rfl, trivial⟩ ⟨rfl, rfl, rfl, rfl, rfl, trivial⟩ rfl (kLoadP rfl rfl rfl (kLoadP rfl rfl rfl (kCallD (ok_impl_Rr_compare _ _ (by first | assumption | omega | solve_by_elim [List.getElem_mem] | (simp only [szOut] at *; omega) | exact rfl | exact leb | exact rrOk_small (by assumption) | exact zoneOk_small (by assumption) | exact SmallBB.ok (by assumption) | exact (SmallBB.ok (by assumption)).len | exact (SmallBB.ok (by assumption)).mem | exact SmallBB.bent (by assumption)) (by first | assumption | omega | solve_by_elim [List.getElem_mem] | (simp only [szOut] at *; omega) | exact rfl | exact leb | exact rrOk_small (by assumption) | exact zoneOk_small (by assumption) | exact SmallBB.ok (by assumption) | exact (SmallBB.ok (by assumption)).len | exact (SmallBB.ok (by assumption)).mem | exact SmallBB.bent (by assumption))) ⟨⟨⟨rfl, rfl, rfl, rfl, rfl, rfl, rfl, trivial⟩, leb⟩, ⟨⟨rfl, rfl, rfl, rfl, rfl, rfl, rfl, trivial⟩, leb⟩, trivial⟩ rfl rfl rfl rfl rfl (kMovC rfl (kDone (kRet (endRetA (ra := [.one (.d _)]) rfl ?_))))))))))))))))))))))))))))))))))
  all_goals (try rw [g0]); (try rw [g1]); rfl

def c_spec_TypeOk : C := (.seq (.reg false (.o 0 2 (.mov (.v (.bool false))) .done)) (.seq (.seq (.reg false (.o 0 3 (.mov (.t 0)) .done)) (.block 0 (.seq (.seq (.reg false (.o 0 5 (.bin .eql (.t 3) (.i 1)) (.o 1 4 (.mov (.t 5)) .done))) (.cond (.t 4) .skip (.seq (.reg false (.o 0 6 (.bin .eql (.t 3) (.i 2)) (.o 1 4 (.mov (.t 6)) .done))) (.cond (.t 4) .skip (.seq (.reg false (.o 0 7 (.bin .eql (.t 3) (.i 5)) (.o 1 4 (.mov (.t 7)) .done))) (.cond (.t 4) .skip (.seq (.reg false (.o 0 8 (.bin .eql (.t 3) (.i 6)) (.o 1 4 (.mov (.t 8)) .done))) (.cond (.t 4) .skip (.seq (.reg false (.o 0 9 (.bin .eql (.t 3) (.i 12)) (.o 1 4 (.mov (.t 9)) .done))) (.cond (.t 4) .skip (.seq (.reg false (.o 0 10 (.bin .eql (.t 3) (.i 16)) (.o 1 4 (.mov (.t 10)) .done))) (.cond (.t 4) .skip (.reg false (.o 0 11 (.bin .eql (.t 3) (.i 49)) (.o 1 4 (.mov (.t 11)) .done))))))))))))))) (.cond (.t 4) (.seq (.reg false (.o 0 2 (.mov (.v (.bool true))) .done)) .ret) .skip)))) (.seq (.reg false (.o 0 2 (.mov (.v (.bool false))) .done)) .ret)))
theorem dg_spec_TypeOk : Tryd.f36.body.bind (digC Tryd.prog Tryd.f36.ntmps []) = some c_spec_TypeOk := by kernel_rfl
theorem rs_spec_TypeOk : resSlots Tryd.prog Tryd.f36 = some [.s 2] := by kernel_rfl
theorem ok_spec_TypeOk (n : Int) : FnOK Tryd.prog 36 [.one (.d (.sc (.int .i64 n)))] (fun ra _ => ra = [.one (.d (.sc (.bool (tyOk n))))]) := by
  refine FnOK.ofK Tryd.func36 (by kernel_rfl) dg_spec_TypeOk rs_spec_TypeOk rfl rfl ?_
  delta c_spec_TypeOk T.o X.i
  refine kSeq (kReg (kMovC rfl (kDone (kSeq (kSeq (kReg (kMovC rfl (kDone (kBlock (kSeq (kSeq (kReg (kBin rfl rfl rfl (kMovC rfl (kDone (kCondP rfl (fun g0 => kSkip (kCondP rfl (fun g1 => kSeq (kReg (kMovC rfl (kDone (kRet (endRetA (ra := [.one (.d _)]) rfl ?_)))))) (fun g1 => (by omega)))) (fun g0 => kSeq (kReg (kBin rfl rfl rfl (kMovC rfl (kDone (kCondP rfl (fun g2 => kSkip (kCondP rfl (fun g3 => kSeq (kReg (kMovC rfl (kDone (kRet (endRetA (ra := [.one (.d _)]) rfl ?_)))))) (fun g3 => (by omega)))) (fun g2 => kSeq (kReg (kBin rfl rfl rfl (kMovC rfl (kDone (kCondP rfl (fun g4 => kSkip (kCondP rfl (fun g5 => kSeq (kReg (kMovC rfl (kDone (kRet (endRetA (ra := [.one (.d _)]) rfl ?_)))))) (fun g5 => (by omega)))) (fun g4 => kSeq (kReg (kBin rfl rfl rfl (kMovC rfl (kDone (kCondP rfl (fun g6 => kSkip (kCondP rfl (fun g7 => kSeq (kReg (kMovC rfl (kDone (kRet (endRetA (ra := [.one (.d _)]) rfl ?_)))))) (fun g7 => (by omega)))) (fun g6 => kSeq (kReg (kBin rfl rfl rfl (kMovC rfl (kDone (kCondP rfl (fun g8 => kSkip (kCondP rfl (fun g9 => kSeq (kReg (kMovC rfl (kDone (kRet (endRetA (ra := [.one (.d _)]) rfl ?_)))))) (fun g9 => (by omega)))) (fun g8 => kSeq (kReg (kBin rfl rfl rfl (kMovC rfl (kDone (kCondP rfl (fun g10 => kSkip (kCondP rfl (fun g11 => kSeq (kReg (kMovC rfl (kDone (kRet (endRetA (ra := [.one (.d _)]) rfl ?_)))))) (fun g11 => (by omega)))) (fun g10 => kReg (kBin rfl rfl rfl (kMovC rfl (kDone (kCondP rfl (fun g12 => kSeq (kReg (kMovC rfl (kDone (kRet (endRetA (ra := [.one (.d _)]) rfl ?_)))))) (fun g12 => kSkip (kBk (kSeq (kReg (kMovC rfl (kDone (kRet (endRetA (ra := [.one (.d _)]) rfl ?_)))))))))))))))))))))))))))))))))))))))))))))))))))))))))))
  all_goals simp_all [tyOk]

def c_spec_l3texted : C := (.seq (.reg false (.o 0 2 (.mov (.v (.bool false))) .done)) (.seq (.reg false (.o 0 3 (.mov (.t 0)) (.o 1 4 (.bin .eql (.t 3) (.i 16)) (.o 2 5 (.mov (.t 4)) (.op 3 [] (some 6) (some (5, false)) false (.mov (.t 0)) (.op 4 [] (some 7) (some (5, false)) false (.bin .eql (.t 6) (.i 49)) (.o 5 8 (.pick (.t 5) (.v (.bool true)) (.t 7)) (.o 6 2 (.mov (.t 8)) .done)))))))) .ret))
theorem dg_spec_l3texted : Tryd.f63.body.bind (digC Tryd.prog Tryd.f63.ntmps []) = some c_spec_l3texted := by kernel_rfl
theorem rs_spec_l3texted : resSlots Tryd.prog Tryd.f63 = some [.s 2] := by kernel_rfl
theorem ok_spec_l3texted (n : Int) : FnOK Tryd.prog 63 [.one (.d (.sc (.int .i64 n)))] (fun ra _ => ra = [.one (.d (.sc (.bool (hasText n))))]) := by
  refine FnOK.ofK Tryd.func63 (by kernel_rfl) dg_spec_l3texted rs_spec_l3texted rfl rfl ?_
  delta c_spec_l3texted T.o X.i
  refine kSeq (kReg (kMovC rfl (kDone (kSeq (kReg (kMovC rfl (kBin rfl rfl rfl (kMovC rfl (kGP rfl (fun g0 => kGF rfl (kGF rfl (kPickT rfl (kMovC rfl (kMovC rfl (kDone (kRet (endRetA (ra := [.one (.d _)]) rfl ?_)))))))) (fun g0 => kGT rfl (kMovC rfl (kGT rfl (kBin rfl rfl rfl (kPickF rfl (kMovC rfl (kMovC rfl (kDone (kRet (endRetA (ra := [.one (.d _)]) rfl ?_)))))))))))))))))))
  all_goals simp_all [hasText]

def c_spec_l3data : C := (.seq (.reg false (.o 0 1 (.box 1 (.t 0)) (.o 1 2 (.mov (.v (.bool false))) .done))) (.seq (.seq (.reg false (.o 0 3 (.fad (.t 1) 1) (.o 1 4 (.load none (.t 3)) (.o 2 5 (.bin .eql (.t 4) (.i 1)) .done)))) (.cond (.t 5) (.seq (.reg false (.o 0 6 (.fad (.t 1) 3) (.o 1 7 (.load none (.t 6)) (.o 2 8 (.bin .lss (.t 7) (.i 0)) (.o 3 9 (.mov (.t 8)) (.op 4 [] (some 10) (some (9, false)) false (.fad (.t 1) 3) (.op 5 [] (some 11) (some (9, false)) false (.load none (.t 10)) (.op 6 [] (some 12) (some (9, false)) false (.bin .geq (.t 11) (.i 4294967296)) (.o 7 13 (.pick (.t 9) (.v (.bool true)) (.t 12)) .done))))))))) (.cond (.t 13) (.seq (.reg false (.o 0 2 (.mov (.v (.bool false))) .done)) .ret) .skip)) (.seq (.reg false (.o 0 14 (.fad (.t 1) 3) (.o 1 15 (.load none (.t 14)) (.o 2 16 (.bin .neq (.t 15) (.i 0)) .done)))) (.cond (.t 16) (.seq (.reg false (.o 0 2 (.mov (.v (.bool false))) .done)) .ret) .skip)))) (.seq (.seq (.reg false (.o 0 17 (.fad (.t 1) 1) (.o 1 18 (.load none (.t 17)) (.o 2 19 (.call 19 62 [(.t 18)]) .done)))) (.cond (.t 19) (.seq (.reg false (.o 0 20 (.fad (.t 1) 4) (.o 1 21 (.load (some 1) (.t 20)) (.o 2 22 (.call 22 7 [(.t 21)]) (.o 3 23 (.un .not (.t 22)) .done))))) (.cond (.t 23) (.seq (.reg false (.o 0 2 (.mov (.v (.bool false))) .done)) .ret) .skip)) (.seq (.reg false (.o 0 24 (.fad (.t 1) 4) (.o 1 25 (.fad (.t 24) 0) (.o 2 26 (.load none (.t 25)) (.o 3 27 (.len (.t 26)) (.o 4 28 (.bin .gtr (.t 27) (.i 0)) .done)))))) (.cond (.t 28) (.seq (.reg false (.o 0 2 (.mov (.v (.bool false))) .done)) .ret) .skip)))) (.seq (.seq (.reg false (.o 0 29 (.fad (.t 1) 1) (.o 1 30 (.load none (.t 29)) (.o 2 31 (.call 31 63 [(.t 30)]) .done)))) (.cond (.t 31) (.seq (.reg false (.o 0 32 (.fad (.t 1) 5) (.o 1 33 (.load none (.t 32)) (.o 2 34 (.len (.t 33)) (.o 3 35 (.bin .gtr (.t 34) (.i 40)) .done))))) (.cond (.t 35) (.seq (.reg false (.o 0 2 (.mov (.v (.bool false))) .done)) .ret) .skip)) (.seq (.reg false (.o 0 36 (.fad (.t 1) 5) (.o 1 37 (.load none (.t 36)) (.o 2 38 (.len (.t 37)) (.o 3 39 (.bin .gtr (.t 38) (.i 0)) .done))))) (.cond (.t 39) (.seq (.reg false (.o 0 2 (.mov (.v (.bool false))) .done)) .ret) .skip)))) (.seq (.seq (.reg false (.o 0 40 (.fad (.t 1) 1) (.o 1 41 (.load none (.t 40)) (.o 2 42 (.bin .neq (.t 41) (.i 6)) .done)))) (.cond (.t 42) (.seq (.reg false (.o 0 43 (.fad (.t 1) 6) (.o 1 44 (.load none (.t 43)) (.o 2 45 (.len (.t 44)) (.o 3 46 (.bin .eql (.t 45) (.i 0)) (.o 4 2 (.mov (.t 46)) .done)))))) .ret) .skip)) (.seq (.seq (.reg false (.o 0 47 (.fad (.t 1) 6) (.o 1 48 (.load none (.t 47)) (.o 2 49 (.len (.t 48)) (.o 3 50 (.bin .neq (.t 49) (.i 2)) (.o 4 51 (.mov (.t 50)) (.op 5 [] (some 52) (some (51, false)) false (.fad (.t 1) 6) (.op 6 [] (some 53) (some (51, false)) false (.load none (.t 52)) (.op 7 [] (some 54) (some (51, false)) false (.iad 1 (.t 53) (.i 0)) (.op 8 [] (some 55) (some (51, false)) false (.load none (.t 54)) (.op 9 [] (some 56) (some (51, false)) false (.bin .lss (.t 55) (.i 0)) (.o 10 57 (.pick (.t 51) (.v (.bool true)) (.t 56)) (.o 11 58 (.mov (.t 57)) (.op 12 [] (some 59) (some (58, false)) false (.fad (.t 1) 6) (.op 13 [] (some 60) (some (58, false)) false (.load none (.t 59)) (.op 14 [] (some 61) (some (58, false)) false (.iad 1 (.t 60) (.i 0)) (.op 15 [] (some 62) (some (58, false)) false (.load none (.t 61)) (.op 16 [] (some 63) (some (58, false)) false (.bin .geq (.t 62) (.i 4294967296)) (.o 17 64 (.pick (.t 58) (.v (.bool true)) (.t 63)) .done))))))))))))))))))) (.cond (.t 64) (.seq (.reg false (.o 0 2 (.mov (.v (.bool false))) .done)) .ret) .skip)) (.seq (.reg false (.o 0 65 (.fad (.t 1) 6) (.o 1 66 (.load none (.t 65)) (.o 2 67 (.iad 1 (.t 66) (.i 1)) (.o 3 68 (.load none (.t 67)) (.o 4 69 (.bin .geq (.t 68) (.i 0)) (.o 5 70 (.mov (.t 69)) (.op 6 [] (some 71) (some (70, true)) false (.fad (.t 1) 6) (.op 7 [] (some 72) (some (70, true)) false (.load none (.t 71)) (.op 8 [] (some 73) (some (70, true)) false (.iad 1 (.t 72) (.i 1)) (.op 9 [] (some 74) (some (70, true)) false (.load none (.t 73)) (.op 10 [] (some 75) (some (70, true)) false (.bin .leq (.t 74) (.i 100000)) (.o 11 76 (.pick (.t 70) (.t 75) (.v (.bool false))) (.o 12 2 (.mov (.t 76)) .done)))))))))))))) .ret)))))))
theorem dg_spec_l3data : Tryd.f37.body.bind (digC Tryd.prog Tryd.f37.ntmps []) = some c_spec_l3data := by kernel_rfl
theorem rs_spec_l3data : resSlots Tryd.prog Tryd.f37 = some [.s 2] := by kernel_rfl
theorem ok_spec_l3data (r : Rr) (hs : SmallR r) :
    FnOK Tryd.prog 37 [.agg (r.cells.map .d)] (fun ra _ => ra = [.one (.d (.sc (.bool (dataOk r))))]) := by
  refine FnOK.ofK Tryd.func37 (by kernel_rfl) dg_spec_l3data rs_spec_l3data rfl rfl ?_
  delta c_spec_l3data T.o X.i
  have t1 := hs.t.len
  have t2 := hs.t.mem
  have x1 := hs.x
  have m1 := hs.m
  refine kSeq (kReg (kBox rfl rfl rfl rfl rfl (kMovC rfl (kDone ?_))))
  by_cases hA : (r.ty = 1 ∧ 0 ≤ r.addr ∧ r.addr < 4294967296) ∨ (r.ty ≠ 1 ∧ r.addr = 0)
  case neg =>
    have e : (if r.ty == 1 then isW r.addr else r.addr == 0) = false := by
      by_cases h : r.ty = 1
      · simp [h, isW]; omega
      · simp [h]; omega
    rw [show dataOk r = false by simp only [dataOk, e, Bool.and_false, Bool.false_and]]
    refine kSeq ?_
    refine kSeq (kReg (kFadP rfl rfl (kLoadP rfl rfl rfl (kBin rfl rfl rfl (kDone (kCondP rfl (fun g0 => kSeq (kReg (kFadP rfl rfl (kLoadP rfl rfl rfl (kBin rfl rfl rfl (kMovC rfl (kGP rfl (fun g1 => kGF rfl (kGF rfl (kGF rfl (kPickT rfl (kMovC rfl (kDone (kCondT rfl (kSeq (kReg (kMovC rfl (kDone (kRet (endRetA (ra := [.one (.d _)]) rfl rfl))))))))))))) (fun g1 => kGT rfl (kFadP rfl rfl (kGT rfl (kLoadP rfl rfl rfl (kGT rfl (kBin rfl rfl rfl (kPickF rfl (kMovC rfl (kDone (kCondP rfl (fun g2 => kSeq (kReg (kMovC rfl (kDone (kRet (endRetA (ra := [.one (.d _)]) rfl rfl)))))) (fun g2 => (by omega))))))))))))))))))) (fun g0 => kSeq (kReg (kFadP rfl rfl (kLoadP rfl rfl rfl (kBin rfl rfl rfl (kDone (kCondIN rfl (fun g3 => kSeq (kReg (kMovC rfl (kDone (kRet (endRetA (ra := [.one (.d _)]) rfl rfl)))))) (fun g3 => (by omega)))))))))))))))
  have eA : (if r.ty == 1 then isW r.addr else r.addr == 0) = true := by
    rcases hA with ⟨h, _, _⟩ | ⟨h, h'⟩
    · simp [h, isW]; omega
    · simp [h, h']
  refine kSeq (kCut ⟨tabSl [(1, .c (.ptr (rid 1 0) 1 0))], obTab 1 [(rid 1 0, ⟨1, 0, .box (r.cells.map .d)⟩)], []⟩ ?_ (fun x hc => ?_))
  case refine_2 =>
    refine kSeq (kReg (kFadP rfl rfl (kLoadP rfl rfl rfl (kBin rfl rfl rfl (kDone (kCondP rfl (fun g0 => kSeq (kReg (kFadP rfl rfl (kLoadP rfl rfl rfl (kBin rfl rfl rfl (kMovC rfl (kGP rfl (fun g1 => (by omega)) (fun g1 => kGT rfl (kFadP rfl rfl (kGT rfl (kLoadP rfl rfl rfl (kGT rfl (kBin rfl rfl rfl (kPickF rfl (kMovC rfl (kDone (kCondP rfl (fun g2 => (by omega)) (fun g2 => kSkip (hc _ .normA))))))))))))))))))) (fun g0 => kSeq (kReg (kFadP rfl rfl (kLoadP rfl rfl rfl (kBin rfl rfl rfl (kDone (kCondIN rfl (fun g3 => (by omega)) (fun g3 => kSkip (hc _ .normA)))))))))))))))
  by_cases eB : (if hasTo r.ty then nameOk r.to else ((r.to.length : Int) == 0)) = true
  case neg =>
    rw [show dataOk r = false by simp only [dataOk, Bool.eq_false_iff.2 eB, Bool.and_false, Bool.false_and]]
    refine kSeq ?_
    cases hT : hasTo r.ty
    case false =>
      have hN : ¬ (r.to.length : Int) = 0 := by simpa [hT] using eB
      have hN' : ¬ r.to.length = 0 := by omega
      refine kSeq (kReg (kFadP rfl rfl (kLoadP rfl rfl rfl (kCallD (ok_spec_l3named _) ⟨rfl, trivial⟩ rfl rfl rfl rfl rfl (kDone (kCond rfl (fun g0 => (by (simp [*] at g0))) (fun g0 => kSeq (kReg (kFadP rfl rfl (kFadP rfl rfl (kLoadP rfl rfl rfl (kLenR rfl rfl (kBin rfl rfl rfl (kDone (kCondP rfl (fun g1 => kSeq (kReg (kMovC rfl (kDone (kRet (endRetA (ra := [.one (.d _)]) rfl rfl)))))) (fun g1 => (by omega)))))))))))))))))
    case true =>
      have hN : nameOk r.to = false := by simpa [hT] using eB
      refine kSeq (kReg (kFadP rfl rfl (kLoadP rfl rfl rfl (kCallD (ok_spec_l3named _) ⟨rfl, trivial⟩ rfl rfl rfl rfl rfl (kDone (kCond rfl (fun g0 => kSeq (kReg (kFadP rfl rfl (kLoadP rfl rfl rfl (kCallD (ok_spec_NameOk _ pr pr) ⟨⟨⟨rfl, trivial⟩, leb⟩, trivial⟩ rfl rfl rfl rfl rfl (kUn rfl rfl (kDone (kCondN rfl (fun g1 => kSeq (kReg (kMovC rfl (kDone (kRet (endRetA (ra := [.one (.d _)]) rfl rfl)))))) (fun g1 => (by (simp [*] at g1))))))))))) (fun g0 => (by (simp [*] at g0)))))))))
  refine kSeq (kCut ⟨tabSl [(1, .c (.ptr (rid 1 0) 1 0))], obTab 1 [(rid 1 0, ⟨1, 0, .box (r.cells.map .d)⟩)], []⟩ ?_ (fun x hc => ?_))
  case refine_2 =>
    cases hT : hasTo r.ty
    case false =>
      have hN : (r.to.length : Int) = 0 := by rw [hT] at eB; simpa using eB
      have hN' : r.to.length = 0 := by omega
      clear hN
      refine kSeq (kReg (kFadP rfl rfl (kLoadP rfl rfl rfl (kCallD (ok_spec_l3named _) ⟨rfl, trivial⟩ rfl rfl rfl rfl rfl (kDone (kCond rfl (fun g0 => (by (simp [*] at g0))) (fun g0 => kSeq (kReg (kFadP rfl rfl (kFadP rfl rfl (kLoadP rfl rfl rfl (kLenR rfl rfl (kBin rfl rfl rfl (kDone (kCondP rfl (fun g1 => (by omega)) (fun g1 => kSkip (hc _ .normA)))))))))))))))))
    case true =>
      have hN : nameOk r.to = true := by simpa [hT] using eB
      refine kSeq (kReg (kFadP rfl rfl (kLoadP rfl rfl rfl (kCallD (ok_spec_l3named _) ⟨rfl, trivial⟩ rfl rfl rfl rfl rfl (kDone (kCond rfl (fun g0 => kSeq (kReg (kFadP rfl rfl (kLoadP rfl rfl rfl (kCallD (ok_spec_NameOk _ pr pr) ⟨⟨⟨rfl, trivial⟩, leb⟩, trivial⟩ rfl rfl rfl rfl rfl (kUn rfl rfl (kDone (kCondN rfl (fun g1 => (by (simp [*] at g1))) (fun g1 => kSkip (hc _ .normA)))))))))) (fun g0 => (by (simp [*] at g0)))))))))
  by_cases eC : (if hasText r.ty then decide ((r.text.length : Int) ≤ 40) else ((r.text.length : Int) == 0)) = true
  case neg =>
    rw [show dataOk r = false by simp only [dataOk, Bool.eq_false_iff.2 eC, Bool.and_false]]
    refine kSeq ?_
    cases hT : hasText r.ty
    case false =>
      have hN' : ¬ r.text.length = 0 := by rw [hT] at eC; simp at eC; simpa using eC
      refine kSeq (kReg (kFadP rfl rfl (kLoadP rfl rfl rfl (kCallD (ok_spec_l3texted _) ⟨rfl, trivial⟩ rfl rfl rfl rfl rfl (kDone (kCond rfl (fun g0 => (by (simp [*] at g0))) (fun g0 => kSeq (kReg (kFadP rfl rfl (kLoadP rfl rfl rfl (kLenR rfl rfl (kBin rfl rfl rfl (kDone (kCondP rfl (fun g1 => kSeq (kReg (kMovC rfl (kDone (kRet (endRetA (ra := [.one (.d _)]) rfl rfl)))))) (fun g1 => (by omega))))))))))))))))
    case true =>
      have hN' : ¬ r.text.length ≤ 40 := by rw [hT] at eC; simp at eC; omega
      refine kSeq (kReg (kFadP rfl rfl (kLoadP rfl rfl rfl (kCallD (ok_spec_l3texted _) ⟨rfl, trivial⟩ rfl rfl rfl rfl rfl (kDone (kCond rfl (fun g0 => kSeq (kReg (kFadP rfl rfl (kLoadP rfl rfl rfl (kLenR rfl rfl (kBin rfl rfl rfl (kDone (kCondP rfl (fun g1 => kSeq (kReg (kMovC rfl (kDone (kRet (endRetA (ra := [.one (.d _)]) rfl rfl)))))) (fun g1 => (by omega)))))))))) (fun g0 => (by (simp [*] at g0)))))))))
  refine kSeq (kCut ⟨tabSl [(1, .c (.ptr (rid 1 0) 1 0))], obTab 1 [(rid 1 0, ⟨1, 0, .box (r.cells.map .d)⟩)], []⟩ ?_ (fun x hc => ?_))
  case refine_2 =>
    cases hT : hasText r.ty
    case false =>
      have hN' : r.text.length = 0 := by rw [hT] at eC; simp at eC; rw [eC]; rfl
      refine kSeq (kReg (kFadP rfl rfl (kLoadP rfl rfl rfl (kCallD (ok_spec_l3texted _) ⟨rfl, trivial⟩ rfl rfl rfl rfl rfl (kDone (kCond rfl (fun g0 => (by (simp [*] at g0))) (fun g0 => kSeq (kReg (kFadP rfl rfl (kLoadP rfl rfl rfl (kLenR rfl rfl (kBin rfl rfl rfl (kDone (kCondP rfl (fun g1 => (by omega)) (fun g1 => kSkip (hc _ .normA))))))))))))))))
    case true =>
      have hN' : r.text.length ≤ 40 := by rw [hT] at eC; simp at eC; omega
      refine kSeq (kReg (kFadP rfl rfl (kLoadP rfl rfl rfl (kCallD (ok_spec_l3texted _) ⟨rfl, trivial⟩ rfl rfl rfl rfl rfl (kDone (kCond rfl (fun g0 => kSeq (kReg (kFadP rfl rfl (kLoadP rfl rfl rfl (kLenR rfl rfl (kBin rfl rfl rfl (kDone (kCondP rfl (fun g1 => (by omega)) (fun g1 => kSkip (hc _ .normA)))))))))) (fun g0 => (by (simp [*] at g0)))))))))
  rw [show dataOk r = (if r.ty == 6 then numsOk r.nums else ((r.nums.length : Int) == 0)) by simp only [dataOk, eA, eB, eC, Bool.and_true]]
  clear eA eB eC hA
  refine kSeq (kSeq (kReg (kFadP rfl rfl (kLoadP rfl rfl rfl (kBin rfl rfl rfl (kDone (kCondIN rfl (fun g0 => kSeq (kReg (kFadP rfl rfl (kLoadP rfl rfl rfl (kLenR rfl rfl (kBin rfl rfl rfl (kMovC rfl (kDone (kRet (endRetA (ra := [.one (.d _)]) rfl ?_)))))))))) (fun g0 => kSkip (kSeq (kSeq (kReg (kFadP rfl rfl (kLoadP rfl rfl rfl (kLenR rfl rfl (kBin rfl rfl rfl (kMovC rfl (kGIN rfl (fun g1 => kGF rfl (kGF rfl (kGF rfl (kGF rfl (kGF rfl (kPickT rfl (kMovC rfl (kMovC rfl (kGF rfl (kGF rfl (kGF rfl (kGF rfl (kGF rfl (kPickT rfl (kMovC rfl (kDone (kCondT rfl (kSeq (kReg (kMovC rfl (kDone (kRet (endRetA (ra := [.one (.d _)]) rfl ?_))))))))))))))))))))))) (fun g1 => kGT rfl (kFadP rfl rfl (kGT rfl (kLoadP rfl rfl rfl (kGT rfl (kIadR (m := 0) rfl rfl rfl (by omega) (kGT rfl (kLoadD rfl rfl (kGT rfl (kBin rfl rfl rfl (kPickF rfl (kMovC rfl (kMovC rfl (kGP rfl (fun g2 => kGF rfl (kGF rfl (kGF rfl (kGF rfl (kGF rfl (kPickT rfl (kMovC rfl (kDone (kCondT rfl (kSeq (kReg (kMovC rfl (kDone (kRet (endRetA (ra := [.one (.d _)]) rfl ?_))))))))))))))) (fun g2 => kGT rfl (kFadP rfl rfl (kGT rfl (kLoadP rfl rfl rfl (kGT rfl (kIadR (m := 0) rfl rfl rfl (by omega) (kGT rfl (kLoadD rfl rfl (kGT rfl (kBin rfl rfl rfl (kPickF rfl (kMovC rfl (kDone (kCondP rfl (fun g3 => kSeq (kReg (kMovC rfl (kDone (kRet (endRetA (ra := [.one (.d _)]) rfl ?_)))))) (fun g3 => kSkip (kSeq (kReg (kFadP rfl rfl (kLoadP rfl rfl rfl (kIadR (m := 1) rfl rfl rfl (by omega) (kLoadD rfl rfl (kBin rfl rfl rfl (kMovC rfl (kGP rfl (fun g4 => kGT rfl (kFadP rfl rfl (kGT rfl (kLoadP rfl rfl rfl (kGT rfl (kIadR (m := 1) rfl rfl rfl (by omega) (kGT rfl (kLoadD rfl rfl (kGT rfl (kBin rfl rfl rfl (kPickT rfl (kMovC rfl (kMovC rfl (kDone (kRet (endRetA (ra := [.one (.d _)]) rfl ?_)))))))))))))))) (fun g4 => kGF rfl (kGF rfl (kGF rfl (kGF rfl (kGF rfl (kPickF rfl (kMovC rfl (kMovC rfl (kDone (kRet (endRetA (ra := [.one (.d _)]) rfl ?_))))))))))))))))))))))))))))))))))))))))))))))))))))))))))))))))))
  all_goals first
    | (simp [*]; done)
    | (rw [if_pos (by simpa using (by assumption : r.ty = 6)), numsOk, dif_pos (by assumption)]
       simp only [isW]
       refine congrArg (fun b : Bool => [RA.one (RV.d (DV.sc (Value.bool b)))]) ?_
       rw [Bool.eq_iff_iff]
       simp
       omega)

end Go.Proofs.YtbmagbgdpmgbmaaDoor.FnRecordOrderFn
