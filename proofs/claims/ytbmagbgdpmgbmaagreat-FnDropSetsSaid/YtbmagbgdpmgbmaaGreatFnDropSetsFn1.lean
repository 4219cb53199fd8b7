/- What the functions that FnDropSets reaches compute, one contract each; each with the bounds that it states. -/
import Derived.Test.YtbmagbgdpmgbmaaGreatHearth4
import Derived.Test.YtbmagbgdpmgbmaaGreatProg
import Derived.KernelRfl
set_option maxRecDepth 100000
set_option maxHeartbeats 8000000
set_option linter.unusedVariables false
set_option linter.unusedSimpArgs false
namespace Go.Proofs.YtbmagbgdpmgbmaaGreat.FnDropSetsFn
open Go Hearth Go.Proofs

def c_spec_l1New : C := (.seq (.reg false (.op 0 [] (some 2) none false (.mov (.v (.pointer none)))
  .done))
 (.seq (.reg false (.op 0 [] (some 5) none false (.mov (.t 0))
  (.op 1 [] (some 6) none false (.len (.t 5))
  (.op 2 [] (some 7) none false (.bin .add (.v (.int .i64 42222)) (.t 6))
  (.op 3 [] (some 3) none false (.mov (.t 7))
  .done)))))
 (.seq (.seq (.reg false (.op 0 [] (some 4) none false (.mov (.v (.int .i64 0)))
  .done))
 (.block 0 (.loop (.seq (.seq (.reg false (.op 0 [] (some 8) none false (.mov (.t 4))
  (.op 1 [] (some 9) none false (.mov (.t 0))
  (.op 2 [] (some 10) none false (.len (.t 9))
  (.op 3 [] (some 11) none false (.bin .lss (.t 8) (.t 10))
  (.op 4 [] (some 12) none false (.mov (.t 11))
  (.op 5 [] (some 13) (some (12, true)) false (.mov (.t 4))
  (.op 6 [] (some 14) (some (12, true)) false (.bin .lss (.t 13) (.v (.int .i64 4000)))
  (.op 7 [] (some 15) none false (.pick (.t 12) (.t 14) (.v (.bool false)))
  .done)))))))))
 (.cond (.t 15)
 .skip
 (.exit 0)))
 (.seq (.block 1 (.reg false (.op 0 [] (some 18) none false (.mov (.t 3))
  (.op 1 [] (some 19) none false (.bin .mul (.t 18) (.v (.int .i64 131)))
  (.op 2 [] (some 20) none false (.mov (.t 0))
  (.op 3 [] (some 21) none false (.mov (.t 4))
  (.op 4 [] (some 22) none false (.iad 1 (.t 20) (.t 21))
  (.op 5 [] (some 23) none false (.load none (.t 22))
  (.op 6 [] (some 24) none false (.conv .i64 (.t 23))
  (.op 7 [] (some 25) none false (.bin .add (.t 19) (.t 24))
  (.op 8 [] (some 26) none false (.bin .add (.t 25) (.v (.int .i64 7)))
  (.op 9 [] (some 27) none false (.bin .and (.t 26) (.v (.int .i64 1073741823)))
  (.op 10 [] (some 3) none false (.mov (.t 27))
  .done)))))))))))))
 (.reg false (.op 0 [] (some 16) none false (.mov (.t 4))
  (.op 1 [] (some 17) none false (.bin .add (.t 16) (.v (.int .i64 1)))
  (.op 2 [] (some 4) none false (.mov (.t 17))
  .done)))))))))
 (.seq (.reg false (.op 0 [] (some 28) none false (.mov (.t 0))
  (.op 1 [] (some 29) none false (.mov (.t 3))
  (.op 2 [] (some 30) none false (.build [(.n 1), (.v (.int .i64 0)), (.v (.int .i64 0))] [(0, 1, (.t 28)), (2, 1, (.t 29))])
  (.op 3 [] (some 31) none false (.box 31 (.t 30))
  (.op 4 [] (some 2) none false (.mov (.t 31))
  .done))))))
 .ret))))
theorem dg_spec_l1New : Tryz.f97.body.bind (digC Tryz.prog Tryz.f97.ntmps []) = some c_spec_l1New := by kernel_rfl
theorem rs_spec_l1New : resSlots Tryz.prog Tryz.f97 = some [.s 2] := by kernel_rfl
theorem ok_spec_l1New (code : List UInt8) (hb : (code.length : Int) ≤ 9223372036854775807) :
    FnOK Tryz.prog 97 [.one (.d (encB code))] (fun ra _ => ∃ c : Cu, True ∧ ra = [.one (.box c.cells)]) := by
  refine FnOK.ofK Tryz.func97 (by kernel_rfl) dg_spec_l1New rs_spec_l1New rfl rfl ?_
  unfold c_spec_l1New
  refine kSeq (kReg (kMovC rfl (kDone (kSeq (kReg (kMovC rfl (kLenR rfl rfl (kBin rfl rfl rfl (kMovC rfl (kDone (kSeq (kSeq (kReg (kMovC rfl (kDone (kBlock ?_))))))))))))))))
  refine kLoop (α := { i : Nat // i ≤ code.length } × Int) (fun y => ⟨tabSl [(0, .dv (encB code)), (3, .i y.2), (4, .i y.1.1)], obTab 1 [], []⟩) (fun y => code.length - y.1.1) (⟨0, by simp⟩, _) .normA ?_
  rintro ⟨⟨i, hi⟩, h⟩
  simp only
  rcases Nat.lt_or_ge i code.length with hlt | hge
  · refine kSeq (kSeq (kReg (kMovC rfl (kMovC rfl (kLenR rfl rfl (kBin rfl rfl rfl (kMovC rfl (kGP rfl (fun g0 => kGT rfl (kMovC rfl (kGT rfl (kBin rfl rfl rfl (kPickT rfl (kMovC rfl (kDone (kCondP rfl (fun g1 => kSkip (kSeq (kBlock (kReg (kMovC rfl (kBin rfl rfl rfl (kMovC rfl (kMovC rfl (kIadR rfl rfl rfl (by omega) (kLoadD rfl rfl (kConv rfl (kBin rfl rfl rfl (kBin rfl rfl rfl (kBin rfl rfl rfl (kMovC rfl (kDone (kBk (kReg (kMovC rfl (kAdd rfl rfl (by omega) (kMovC rfl (kDone ?_)))))))))))))))))))))) (fun g1 => kExit (kExC (kExI (kExB (kSeq (kReg (kMovC rfl (kMovC rfl (kBuildG rfl (kBox rfl rfl rfl rfl rfl (kMem [(131072, ⟨2, 0, .box [.d _, .d _, .d _]⟩)] [(31, .c (.ptr 131072 2 0))] [] ⟨rfl, trivial⟩ ⟨rfl, trivial⟩ rfl (kMovC rfl (kDone (kMem [(131072, ⟨2, 0, .box [.d _, .d _, .d _]⟩)] [(2, .c (.ptr 131072 2 0))] [] ⟨rfl, trivial⟩ ⟨rfl, trivial⟩ rfl (kRet (endRetA (ra := [.one (.box [_, _, _])]) rfl ?_)))))))))))))))))))))))) (fun g0 => (by omega))))))))))
    · exact kInv ⟨(⟨i + 1, by omega⟩, _), by simp only; omega, .normA⟩
    · exact ⟨⟨code, 0, h, by omega, by omega, hb⟩, trivial, rfl⟩
  · refine kSeq (kSeq (kReg (kMovC rfl (kMovC rfl (kLenR rfl rfl (kBin rfl rfl rfl (kMovC rfl (kGP rfl (fun g0 => (by omega)) (fun g0 => kGF rfl (kGF rfl (kPickF rfl (kMovC rfl (kDone (kCondF rfl (kExit (kExC (kExI (kExB (kSeq (kReg (kMovC rfl (kMovC rfl (kBuildG rfl (kBox rfl rfl rfl rfl rfl (kMem [(131072, ⟨2, 0, .box [.d _, .d _, .d _]⟩)] [(31, .c (.ptr 131072 2 0))] [] ⟨rfl, trivial⟩ ⟨rfl, trivial⟩ rfl (kMovC rfl (kDone (kMem [(131072, ⟨2, 0, .box [.d _, .d _, .d _]⟩)] [(2, .c (.ptr 131072 2 0))] [] ⟨rfl, trivial⟩ ⟨rfl, trivial⟩ rfl (kRet (endRetA (ra := [.one (.box [_, _, _])]) rfl ?_))))))))))))))))))))))))))))))
    exact ⟨⟨code, 0, h, by omega, by omega, hb⟩, trivial, rfl⟩

def c_spec_Lower : C := (.seq (.reg false (.op 0 [] (some 2) none false (.mov (.n 1))
  .done))
 (.seq (.reg false (.op 0 [] (some 5) none false (.lit 5 1 [(.v (.int .u8 0))] 0 [])
  (.op 1 [] (some 6) none false (.mov (.t 0))
  (.op 2 [] (some 7) none false (.app 7 1 1 (.t 5) (.t 6))
  (.op 3 [] (some 3) none false (.mov (.t 7))
  .done)))))
 (.seq (.seq (.reg false (.op 0 [] (some 4) none false (.mov (.v (.int .i64 0)))
  .done))
 (.block 0 (.loop (.seq (.seq (.reg false (.op 0 [] (some 8) none false (.mov (.t 4))
  (.op 1 [] (some 9) none false (.mov (.t 3))
  (.op 2 [] (some 10) none false (.len (.t 9))
  (.op 3 [] (some 11) none false (.bin .lss (.t 8) (.t 10))
  .done)))))
 (.cond (.t 11)
 .skip
 (.exit 0)))
 (.seq (.block 1 (.seq (.reg false (.op 0 [] (some 14) none false (.mov (.t 3))
  (.op 1 [] (some 15) none false (.mov (.t 4))
  (.op 2 [] (some 16) none false (.iad 1 (.t 14) (.t 15))
  (.op 3 [] (some 17) none false (.load none (.t 16))
  (.op 4 [] (some 18) none false (.bin .geq (.t 17) (.v (.int .u8 65)))
  (.op 5 [] (some 19) none false (.mov (.t 18))
  (.op 6 [] (some 20) (some (19, true)) false (.mov (.t 3))
  (.op 7 [] (some 21) (some (19, true)) false (.mov (.t 4))
  (.op 8 [] (some 22) (some (19, true)) false (.iad 1 (.t 20) (.t 21))
  (.op 9 [] (some 23) (some (19, true)) false (.load none (.t 22))
  (.op 10 [] (some 24) (some (19, true)) false (.bin .leq (.t 23) (.v (.int .u8 90)))
  (.op 11 [] (some 25) none false (.pick (.t 19) (.t 24) (.v (.bool false)))
  .done)))))))))))))
 (.cond (.t 25)
 (.reg false (.op 0 [] (some 26) none false (.mov (.t 3))
  (.op 1 [] (some 27) none false (.mov (.t 4))
  (.op 2 [] (some 28) none false (.mov (.t 3))
  (.op 3 [] (some 29) none false (.mov (.t 4))
  (.op 4 [] (some 30) none false (.iad 1 (.t 28) (.t 29))
  (.op 5 [] (some 31) none false (.load none (.t 30))
  (.op 6 [] (some 32) none false (.bin .add (.t 31) (.v (.int .u8 32)))
  (.op 7 [] (some 33) none false (.iad 1 (.t 26) (.t 27))
  (.op 8 [] none none false (.store none (.t 33) (.t 32))
  .done))))))))))
 .skip)))
 (.reg false (.op 0 [] (some 12) none false (.mov (.t 4))
  (.op 1 [] (some 13) none false (.bin .add (.t 12) (.v (.int .i64 1)))
  (.op 2 [] (some 4) none false (.mov (.t 13))
  .done)))))))))
 (.seq (.reg false (.op 0 [] (some 34) none false (.mov (.t 3))
  (.op 1 [] (some 2) none false (.mov (.t 34))
  .done)))
 .ret))))
theorem dg_spec_Lower : Tryz.f260.body.bind (digC Tryz.prog Tryz.f260.ntmps []) = some c_spec_Lower := by kernel_rfl
theorem rs_spec_Lower : resSlots Tryz.prog Tryz.f260 = some [.s 2] := by kernel_rfl
theorem ok_spec_Lower (b : List UInt8) (hb : b.length ≤ 4194304) :
    FnOK Tryz.prog 260 [.one (.d (encB b))] (fun ra _ => ra = [.one (.own true (encB (lowerB b)))]) := by
  refine FnOK.ofK Tryz.func260 (by kernel_rfl) dg_spec_Lower rs_spec_Lower rfl rfl ?_
  unfold c_spec_Lower
  refine kSeq (kReg (kMovC rfl (kDone (kSeq (kReg (kLit rfl rfl rfl rfl (kMovC rfl (kAppN rfl rfl rfl (src_encB _ _) rfl rfl rfl rfl (by omega) (kMovC rfl (kDone (kSeq (kSeq (kReg (kMovC rfl (kDone (kBlock ?_))))))))))))))))
  refine kLoop (α := { i : Nat // i ≤ b.length }) (fun y => ⟨tabSl [(3, .c (.arr (rid 5 0) 1)), (4, .i y.1)], obTab 1 [(rid 5 0, ⟨1, 0, .arr true (encB (lowerB (b.take y.1) ++ b.drop y.1))⟩)], []⟩) (fun y => b.length - y.1) ⟨0, by simp⟩ .normA ?_
  rintro ⟨i, hi⟩
  simp only
  have hlen : (lowerB (b.take i) ++ b.drop i).length = b.length := by simp [lowerB]; omega
  rcases Nat.lt_or_ge i b.length with hlt | hge
  · have hget : (lowerB (b.take i) ++ b.drop i)[i]? = some b[i] := by
      rw [List.getElem?_append_right (by simp [lowerB]; omega)]; simp [lowerB, Nat.min_eq_left hi]
    have hst : ∀ c, c = lowC b[i] → (lowerB (b.take i) ++ b.drop i).set i c = lowerB (b.take (i + 1)) ++ b.drop (i + 1) := by
      rintro c rfl
      rw [take_set_succ _ _ _ _ hlt (by simp [lowerB]; omega)]
      unfold lowerB
      rw [← List.take_append_getElem hlt, List.map_append]
      rfl
    revert hget hst hlen
    generalize lowerB (b.take i) ++ b.drop i = L
    intro hlen hget hst
    have hiL : i < L.length := by omega
    have hg : L[i] = b[i] := by rw [List.getElem?_eq_getElem hiL] at hget; simpa using hget
    have hw : IntKind.u8.wrap (((L[i]).toNat : Int) + 32) = ((L[i] + 32 : UInt8).toNat : Int) := by
      have := (L[i]).toNat_lt
      simp [IntKind.wrap, IntKind.bits, IntKind.signed, UInt8.toNat_add]
    have hno : (¬ ((L[i]).toNat : Int) ≥ 65 ∨ ¬ ((L[i]).toNat : Int) ≤ 90) → L = lowerB (b.take (i + 1)) ++ b.drop (i + 1) := by
      intro h
      rw [← hst L[i] (by
        rw [hg] at h ⊢
        unfold lowC
        rw [if_neg]
        rintro ⟨h1, h2⟩
        have h1 := UInt8.le_iff_toNat_le.1 h1
        have h2 := UInt8.le_iff_toNat_le.1 h2
        simp at h1 h2
        omega)]
      simp
    refine kSeq (kSeq (kReg (kMovC rfl (kMovC rfl (kLenR rfl rfl (kBin rfl rfl rfl (kDone (kCondP rfl (fun g0 => kSkip (kSeq (kBlock (kSeq (kReg (kMovC rfl (kMovC rfl (kIadAR rfl rfl rfl rfl (by omega) (kLoadER rfl rfl (by omega) rfl (kBin rfl rfl rfl (kMovC rfl (kGP rfl (fun g1 => kMem [(24576, ⟨1, 0, .arr true _⟩)] [(3, .c (.arr 24576 1)), (4, .c (.d _)), (19, .c (.d _))] [] ⟨rfl, trivial⟩ ⟨rfl, rfl, rfl, trivial⟩ rfl (kGT rfl (kMovC rfl (kGT rfl (kMovC rfl (kGT rfl (kIadAR rfl rfl rfl rfl (by omega) (kGT rfl (kLoadER rfl rfl (by omega) rfl (kGT rfl (kBin rfl rfl rfl (kPickT rfl (kMovC rfl (kDone (kCondP rfl (fun g2 => kReg (kMovC rfl (kMovC rfl (kMovC rfl (kMovC rfl (kIadAR rfl rfl rfl rfl (by omega) (kMem [(24576, ⟨1, 0, .arr true _⟩)] [(26, .c (.arr 24576 1)), (27, .c (.d _))] [] ⟨rfl, trivial⟩ ⟨rfl, rfl, trivial⟩ rfl (kLoadER rfl rfl (by omega) rfl (kBin rfl rfl rfl (kIadAR rfl rfl rfl rfl (by omega) ?_)))))))))) (fun g2 => kSkip (kBk (kReg (kMovC rfl (kAdd rfl rfl (by omega) (kMovC rfl (kDone ?_)))))))))))))))))))))) (fun g1 => kMem [(24576, ⟨1, 0, .arr true _⟩)] [(3, .c (.arr 24576 1)), (4, .c (.d _)), (19, .c (.d _))] [] ⟨rfl, trivial⟩ ⟨rfl, rfl, rfl, trivial⟩ rfl (kGF rfl (kGF rfl (kGF rfl (kGF rfl (kGF rfl (kPickF rfl (kMovC rfl (kDone (kCondF rfl (kSkip (kBk (kReg (kMovC rfl (kAdd rfl rfl (by omega) (kMovC rfl (kDone ?_))))))))))))))))))))))))))))) (fun g0 => (by omega))))))))))
    · refine kStoreER (z := L[i] + 32) rfl rfl rfl rfl rfl rfl rfl hiL (by rw [← hw]; rfl) ?_
      refine kDone (kBk (kReg (kMovC rfl (kAdd rfl rfl (by omega) (kMovC rfl (kDone ?_))))))
      refine kInv ⟨⟨i + 1, by omega⟩, by simp only; omega, ?_⟩
      simp only
      rw [← hst (L[i] + 32) (by
        rw [hg] at *
        unfold lowC
        rw [if_pos]
        simp only [UInt8.le_iff_toNat_le]
        exact ⟨by simp; omega, by simp; omega⟩)]
      exact .normA
    all_goals
      refine kInv ⟨⟨i + 1, by omega⟩, by simp only; omega, ?_⟩
      simp only
      rw [← hno (by omega)]
      exact .normA
  · refine kSeq (kSeq (kReg (kMovC rfl (kMovC rfl (kLenR rfl rfl (kBin rfl rfl rfl (kDone (kCondP rfl (fun g0 => (by omega)) (fun g0 => kExit (kExC (kExI (kExB (kSeq (kReg (kMovC rfl (kMovC rfl (kDone (kMem [(24576, ⟨1, 0, .arr true _⟩)] [(2, .c (.arr 24576 1))] [] ⟨rfl, trivial⟩ ⟨rfl, trivial⟩ rfl (kRet (endRetA (ra := [.one (.own true _)]) rfl ?_))))))))))))))))))))
    rw [show i = b.length by omega]
    simp

def c_spec_LabelOk : C := (.seq (.reg false (.op 0 [] (some 2) none false (.mov (.v (.bool false)))
  .done))
 (.seq (.seq (.reg false (.op 0 [] (some 4) none false (.mov (.t 0))
  (.op 1 [] (some 5) none false (.len (.t 4))
  (.op 2 [] (some 6) none false (.bin .lss (.t 5) (.v (.int .i64 1)))
  (.op 3 [] (some 7) none false (.mov (.t 6))
  (.op 4 [] (some 8) (some (7, false)) false (.mov (.t 0))
  (.op 5 [] (some 9) (some (7, false)) false (.len (.t 8))
  (.op 6 [] (some 10) (some (7, false)) false (.bin .gtr (.t 9) (.v (.int .i64 15)))
  (.op 7 [] (some 11) none false (.pick (.t 7) (.v (.bool true)) (.t 10))
  .done)))))))))
 (.cond (.t 11)
 (.seq (.reg false (.op 0 [] (some 2) none false (.mov (.v (.bool false)))
  .done))
 .ret)
 .skip))
 (.seq (.seq (.reg false (.op 0 [] (some 3) none false (.mov (.v (.int .i64 0)))
  .done))
 (.block 0 (.loop (.seq (.seq (.reg false (.op 0 [] (some 12) none false (.mov (.t 3))
  (.op 1 [] (some 13) none false (.mov (.t 0))
  (.op 2 [] (some 14) none false (.len (.t 13))
  (.op 3 [] (some 15) none false (.bin .lss (.t 12) (.t 14))
  .done)))))
 (.cond (.t 15)
 .skip
 (.exit 0)))
 (.seq (.block 1 (.seq (.reg false (.op 0 [] (some 18) none false (.mov (.t 0))
  (.op 1 [] (some 19) none false (.mov (.t 3))
  (.op 2 [] (some 20) none false (.iad 1 (.t 18) (.t 19))
  (.op 3 [] (some 21) none false (.load none (.t 20))
  (.op 4 [] (some 22) none false (.bin .geq (.t 21) (.v (.int .u8 97)))
  (.op 5 [] (some 23) none false (.mov (.t 22))
  (.op 6 [] (some 24) (some (23, true)) false (.mov (.t 0))
  (.op 7 [] (some 25) (some (23, true)) false (.mov (.t 3))
  (.op 8 [] (some 26) (some (23, true)) false (.iad 1 (.t 24) (.t 25))
  (.op 9 [] (some 27) (some (23, true)) false (.load none (.t 26))
  (.op 10 [] (some 28) (some (23, true)) false (.bin .leq (.t 27) (.v (.int .u8 122)))
  (.op 11 [] (some 29) none false (.pick (.t 23) (.t 28) (.v (.bool false)))
  (.op 12 [] (some 30) none false (.un .not (.t 29))
  (.op 13 [] (some 31) none false (.mov (.t 30))
  (.op 14 [] (some 32) (some (31, true)) false (.mov (.t 0))
  (.op 15 [] (some 33) (some (31, true)) false (.mov (.t 3))
  (.op 16 [] (some 34) (some (31, true)) false (.iad 1 (.t 32) (.t 33))
  (.op 17 [] (some 35) (some (31, true)) false (.load none (.t 34))
  (.op 18 [] (some 36) (some (31, true)) false (.bin .geq (.t 35) (.v (.int .u8 48)))
  (.op 19 [] (some 37) (some (31, true)) false (.mov (.t 36))
  (.op 20 [] (some 38) (some (37, true)) false (.mov (.t 0))
  (.op 21 [] (some 39) (some (37, true)) false (.mov (.t 3))
  (.op 22 [] (some 40) (some (37, true)) false (.iad 1 (.t 38) (.t 39))
  (.op 23 [] (some 41) (some (37, true)) false (.load none (.t 40))
  (.op 24 [] (some 42) (some (37, true)) false (.bin .leq (.t 41) (.v (.int .u8 57)))
  (.op 25 [] (some 43) (some (31, true)) false (.pick (.t 37) (.t 42) (.v (.bool false)))
  (.op 26 [] (some 44) (some (31, true)) false (.un .not (.t 43))
  (.op 27 [] (some 45) none false (.pick (.t 31) (.t 44) (.v (.bool false)))
  (.op 28 [] (some 46) none false (.mov (.t 45))
  (.op 29 [] (some 47) (some (46, true)) false (.mov (.t 0))
  (.op 30 [] (some 48) (some (46, true)) false (.mov (.t 3))
  (.op 31 [] (some 49) (some (46, true)) false (.iad 1 (.t 47) (.t 48))
  (.op 32 [] (some 50) (some (46, true)) false (.load none (.t 49))
  (.op 33 [] (some 51) (some (46, true)) false (.bin .neq (.t 50) (.v (.int .u8 45)))
  (.op 34 [] (some 52) none false (.pick (.t 46) (.t 51) (.v (.bool false)))
  .done))))))))))))))))))))))))))))))))))))
 (.cond (.t 52)
 (.seq (.reg false (.op 0 [] (some 2) none false (.mov (.v (.bool false)))
  .done))
 .ret)
 .skip)))
 (.reg false (.op 0 [] (some 16) none false (.mov (.t 3))
  (.op 1 [] (some 17) none false (.bin .add (.t 16) (.v (.int .i64 1)))
  (.op 2 [] (some 3) none false (.mov (.t 17))
  .done)))))))))
 (.seq (.reg false (.op 0 [] (some 2) none false (.mov (.v (.bool true)))
  .done))
 .ret))))
theorem dg_spec_LabelOk : Tryz.f81.body.bind (digC Tryz.prog Tryz.f81.ntmps []) = some c_spec_LabelOk := by kernel_rfl
theorem rs_spec_LabelOk : resSlots Tryz.prog Tryz.f81 = some [.s 2] := by kernel_rfl
theorem ok_spec_LabelOk (b : List UInt8) (hb : b.length ≤ 4194304) :
    FnOK Tryz.prog 81 [.one (.d (encB b))] (fun ra _ => ra = [.one (.d (.sc (.bool (labelOk b))))]) := by
  refine FnOK.ofK Tryz.func81 (by kernel_rfl) dg_spec_LabelOk rs_spec_LabelOk rfl rfl ?_
  unfold c_spec_LabelOk
  refine kSeq (kReg (kMovC rfl (kDone (kSeq (kSeq (kReg (kMovC rfl (kLenR rfl rfl (kBin rfl rfl rfl (kMovC rfl (kGP rfl (fun g0 => kGF rfl (kGF rfl (kGF rfl (kPickT rfl (kMovC rfl (kDone (kCondT rfl (kSeq (kReg (kMovC rfl (kDone (kRet (endRetA (ra := [.one (.d _)]) rfl ?_))))))))))))) (fun g0 => kGT rfl (kMovC rfl (kGT rfl (kLenR rfl rfl (kGT rfl (kBin rfl rfl rfl (kPickF rfl (kMovC rfl (kDone (kCondP rfl (fun g1 => kSeq (kReg (kMovC rfl (kDone (kRet (endRetA (ra := [.one (.d _)]) rfl ?_)))))) (fun g1 => kSkip (kSeq (kSeq (kReg (kMovC rfl (kDone (kBlock ?_))))))))))))))))))))))))))))
  · rw [show labelOk b = false by simp only [labelOk]; rw [decide_eq_false (by omega)]; rfl]
  · rw [show labelOk b = false by simp only [labelOk]; rw [decide_eq_false (p := b.length ≤ 15) (by omega)]; simp]
  refine kLoop (α := { i : Nat // i ≤ b.length ∧ (b.take i).all okLetter = true })
    (fun y => ⟨tabSl [(0, .dv (encB b)), (3, .i y.1)], (St.init [.one (.d (encB b))]).ob, []⟩) (fun y => b.length - y.1) ⟨0, by simp⟩
    (.tab rfl ⟨.refl _, .refl _, trivial⟩) ?_
  rintro ⟨i, hi, hl⟩
  simp only
  refine kSeq (kSeq (kReg (kMovC rfl (kMovC rfl (kLenR rfl rfl (kBin rfl rfl rfl (kDone (kCondP rfl (fun g0 => kSkip (kSeq (kBlock (kSeq (kReg (kMovC rfl (kMovC rfl (kIadR rfl rfl rfl (by omega) (kLoadD rfl rfl (kBin rfl rfl rfl (kMovC rfl (kGP rfl (fun g1 => kGT rfl (kMovC rfl (kGT rfl (kMovC rfl (kGT rfl (kIadR rfl rfl rfl (by omega) (kGT rfl (kLoadD rfl rfl (kGT rfl (kBin rfl rfl rfl (kPickT rfl (kMovC rfl (kUn rfl rfl (kMovC rfl (kGN rfl (fun g2 => kGT rfl (kMovC rfl (kGT rfl (kMovC rfl (kGT rfl (kIadR rfl rfl rfl (by omega) (kGT rfl (kLoadD rfl rfl (kGT rfl (kBin rfl rfl rfl (kGT rfl (kMovC rfl (kGP rfl (fun g3 => kGT rfl (kMovC rfl (kGT rfl (kMovC rfl (kGT rfl (kIadR rfl rfl rfl (by omega) (kGT rfl (kLoadD rfl rfl (kGT rfl (kBin rfl rfl rfl (kGT rfl (kPickT rfl (kMovC rfl (kGT rfl (kUn rfl rfl (kPickT rfl (kMovC rfl (kMovC rfl (kGN rfl (fun g4 => kGT rfl (kMovC rfl (kGT rfl (kMovC rfl (kGT rfl (kIadR rfl rfl rfl (by omega) (kGT rfl (kLoadD rfl rfl (kGT rfl (kBin rfl rfl rfl (kPickT rfl (kMovC rfl (kDone (kCondN rfl (fun g5 => kSeq (kReg (kMovC rfl (kDone (kRet (endRetA (ra := [.one (.d _)]) rfl ?_)))))) (fun g5 => kSkip (kBk (kReg (kMovC rfl (kAdd rfl rfl (by omega) (kMovC rfl (kDone ?_))))))))))))))))))))) (fun g4 => kGF rfl (kGF rfl (kGF rfl (kGF rfl (kGF rfl (kPickF rfl (kMovC rfl (kDone (kCondF rfl (kSkip (kBk (kReg (kMovC rfl (kAdd rfl rfl (by omega) (kMovC rfl (kDone ?_))))))))))))))))))))))))))))))))))) (fun g3 => (by omega))))))))))))))) (fun g2 => kGF rfl (kGF rfl (kGF rfl (kGF rfl (kGF rfl (kGF rfl (kGU rfl (kGU rfl (kGU rfl (kGU rfl (kGU rfl (kGF rfl (kGF rfl (kPickF rfl (kMovC rfl (kMovC rfl (kGF rfl (kGF rfl (kGF rfl (kGF rfl (kGF rfl (kPickF rfl (kMovC rfl (kDone (kCondF rfl (kSkip (kBk (kReg (kMovC rfl (kAdd rfl rfl (by omega) (kMovC rfl (kDone ?_))))))))))))))))))))))))))))))))))))))))))))))) (fun g1 => kGF rfl (kGF rfl (kGF rfl (kGF rfl (kGF rfl (kPickF rfl (kMovC rfl (kUn rfl rfl (kMovC rfl (kGT rfl (kMovC rfl (kGT rfl (kMovC rfl (kGT rfl (kIadR rfl rfl rfl (by omega) (kGT rfl (kLoadD rfl rfl (kGT rfl (kBin rfl rfl rfl (kGT rfl (kMovC rfl (kGP rfl (fun g6 => kGT rfl (kMovC rfl (kGT rfl (kMovC rfl (kGT rfl (kIadR rfl rfl rfl (by omega) (kGT rfl (kLoadD rfl rfl (kGT rfl (kBin rfl rfl rfl (kGT rfl (kPickT rfl (kMovC rfl (kGT rfl (kUn rfl rfl (kPickT rfl (kMovC rfl (kMovC rfl (kGN rfl (fun g7 => kGT rfl (kMovC rfl (kGT rfl (kMovC rfl (kGT rfl (kIadR rfl rfl rfl (by omega) (kGT rfl (kLoadD rfl rfl (kGT rfl (kBin rfl rfl rfl (kPickT rfl (kMovC rfl (kDone (kCondN rfl (fun g8 => kSeq (kReg (kMovC rfl (kDone (kRet (endRetA (ra := [.one (.d _)]) rfl ?_)))))) (fun g8 => kSkip (kBk (kReg (kMovC rfl (kAdd rfl rfl (by omega) (kMovC rfl (kDone ?_))))))))))))))))))))) (fun g7 => kGF rfl (kGF rfl (kGF rfl (kGF rfl (kGF rfl (kPickF rfl (kMovC rfl (kDone (kCondF rfl (kSkip (kBk (kReg (kMovC rfl (kAdd rfl rfl (by omega) (kMovC rfl (kDone ?_))))))))))))))))))))))))))))))))))) (fun g6 => kGF rfl (kGF rfl (kGF rfl (kGF rfl (kGF rfl (kGT rfl (kPickF rfl (kMovC rfl (kGT rfl (kUn rfl rfl (kPickT rfl (kMovC rfl (kMovC rfl (kGT rfl (kMovC rfl (kGT rfl (kMovC rfl (kGT rfl (kIadR rfl rfl rfl (by omega) (kGT rfl (kLoadD rfl rfl (kGT rfl (kBin rfl rfl rfl (kPickT rfl (kMovC rfl (kDone (kCondN rfl (fun g9 => kSeq (kReg (kMovC rfl (kDone (kRet (endRetA (ra := [.one (.d _)]) rfl ?_)))))) (fun g9 => kSkip (kBk (kReg (kMovC rfl (kAdd rfl rfl (by omega) (kMovC rfl (kDone ?_)))))))))))))))))))))))))))))))))))))))))))))))))))))))))))))))))))) (fun g0 => kExit (kExC (kExI (kExB (kSeq (kReg (kMovC rfl (kDone (kRet (endRetA (ra := [.one (.d _)]) rfl ?_))))))))))))))))))
  all_goals try simp only [decide_eq_true_eq, decide_eq_false_iff_not, beq_iff_eq, beq_eq_false_iff_ne] at *
  all_goals first
    | exact kInv ⟨⟨i + 1, by omega, labelOk_step (by omega) hl (by rw [okLetter_iff]; omega)⟩, by simp only; omega, .tab rfl ⟨.refl _, .refl _, trivial⟩⟩
    | rw [labelOk_no (b := b) (i := i) (by omega) (by rw [okLetter_iff]; omega)]
    | skip
  have hge : i = b.length := by omega
  subst hge
  rw [List.take_length] at hl
  rw [show labelOk b = true by simp only [labelOk]; rw [decide_eq_true (by omega), decide_eq_true (by omega), hl]; rfl]

def c_spec_NameOk : C := (.seq (.reg false (.op 0 [] (some 1) none false (.box 1 (.t 0))
  (.op 1 [] (some 2) none false (.mov (.v (.bool false)))
  .done)))
 (.seq (.seq (.reg false (.op 0 [] (some 4) none false (.fad (.t 1) 0)
  (.op 1 [] (some 5) none false (.load none (.t 4))
  (.op 2 [] (some 6) none false (.len (.t 5))
  (.op 3 [] (some 7) none false (.bin .gtr (.t 6) (.v (.int .i64 6)))
  .done)))))
 (.cond (.t 7)
 (.seq (.reg false (.op 0 [] (some 2) none false (.mov (.v (.bool false)))
  .done))
 .ret)
 .skip))
 (.seq (.seq (.reg false (.op 0 [] (some 3) none false (.mov (.v (.int .i64 0)))
  .done))
 (.block 0 (.loop (.seq (.seq (.reg false (.op 0 [] (some 8) none false (.mov (.t 3))
  (.op 1 [] (some 9) none false (.fad (.t 1) 0)
  (.op 2 [] (some 10) none false (.load none (.t 9))
  (.op 3 [] (some 11) none false (.len (.t 10))
  (.op 4 [] (some 12) none false (.bin .lss (.t 8) (.t 11))
  .done))))))
 (.cond (.t 12)
 .skip
 (.exit 0)))
 (.seq (.block 1 (.seq (.reg false (.op 0 [] (some 15) none false (.fad (.t 1) 0)
  (.op 1 [] (some 16) none false (.load none (.t 15))
  (.op 2 [] (some 17) none false (.mov (.t 3))
  (.op 3 [] (some 18) none false (.iad 1 (.t 16) (.t 17))
  (.op 4 [] (some 19) none false (.load none (.t 18))
  (.op 5 [] (some 20) none false (.call 20 81 [(.t 19)])
  (.op 6 [] (some 21) none false (.un .not (.t 20))
  .done))))))))
 (.cond (.t 21)
 (.seq (.reg false (.op 0 [] (some 2) none false (.mov (.v (.bool false)))
  .done))
 .ret)
 .skip)))
 (.reg false (.op 0 [] (some 13) none false (.mov (.t 3))
  (.op 1 [] (some 14) none false (.bin .add (.t 13) (.v (.int .i64 1)))
  (.op 2 [] (some 3) none false (.mov (.t 14))
  .done)))))))))
 (.seq (.reg false (.op 0 [] (some 2) none false (.mov (.v (.bool true)))
  .done))
 .ret))))
theorem dg_spec_NameOk : Tryz.f15.body.bind (digC Tryz.prog Tryz.f15.ntmps []) = some c_spec_NameOk := by kernel_rfl
theorem rs_spec_NameOk : resSlots Tryz.prog Tryz.f15 = some [.s 2] := by kernel_rfl
theorem ok_spec_NameOk (a : List (List UInt8)) (ha : a.length ≤ 4194304) (hb : ∀ b ∈ a, b.length ≤ 4194304) :
    FnOK Tryz.prog 15 [.agg [.d (encBB a)]] (fun ra _ => ra = [.one (.d (.sc (.bool (nameOk a))))]) := by
  refine FnOK.ofK Tryz.func15 (by kernel_rfl) dg_spec_NameOk rs_spec_NameOk rfl rfl ?_
  unfold c_spec_NameOk
  refine kSeq (kReg (kBox rfl rfl rfl rfl rfl (kMovC rfl (kDone (kSeq (kSeq (kReg (kFadP rfl rfl (kLoadP rfl rfl rfl (kLenR rfl rfl (kBin rfl rfl rfl (kDone (kCondP rfl (fun g0 => kSeq (kReg (kMovC rfl (kDone (kRet (endRetA (ra := [.one (.d _)]) rfl ?_)))))) (fun g0 => kSkip (kSeq (kSeq (kReg (kMovC rfl (kDone (kBlock ?_))))))))))))))))))))
  · rw [show nameOk a = false by simp only [nameOk]; rw [decide_eq_false (by omega)]; rfl]
  refine kLoop (α := { i : Nat // i ≤ a.length ∧ (a.take i).all labelOk = true })
    (fun y => ⟨tabSl [(1, .c (.ptr (rid 1 0) 1 0)), (3, .i y.1)], obTab 1 [(rid 1 0, ⟨1, 0, .box [.d (encBB a)]⟩)], []⟩) (fun y => a.length - y.1) ⟨0, by simp⟩
    .normA ?_
  rintro ⟨i, hi, hl⟩
  simp only
  refine kSeq (kSeq (kReg (kMovC rfl (kFadP rfl rfl (kLoadP rfl rfl rfl (kLenR rfl rfl (kBin rfl rfl rfl (kDone (kCondP rfl (fun g0 => kSkip (kSeq (kBlock (kSeq (kReg (kFadP rfl rfl (kLoadP rfl rfl rfl (kMovC rfl (kIadR rfl rfl rfl (by omega) (kLoadD rfl rfl (kCallD (ok_spec_LabelOk _ (by first | assumption | omega | solve_by_elim [List.getElem_mem])) ⟨rfl, trivial⟩ rfl rfl rfl rfl rfl (kUn rfl rfl (kDone (kCondN rfl (fun g1 => kSeq (kReg (kMovC rfl (kDone (kRet (endRetA (ra := [.one (.d _)]) rfl ?_)))))) (fun g1 => kSkip (kBk (kReg (kMovC rfl (kAdd rfl rfl (by omega) (kMovC rfl (kDone ?_))))))))))))))))))))) (fun g0 => kExit (kExC (kExI (kExB (kSeq (kReg (kMovC rfl (kDone (kRet (endRetA (ra := [.one (.d _)]) rfl ?_)))))))))))))))))))
  · rename_i h
    rw [show nameOk a = false by simp only [nameOk]; rw [all_no (i := i) (by omega) (by assumption), Bool.and_false]]
  · exact kInv ⟨⟨i + 1, by omega, all_step (by omega) hl (by assumption)⟩, by simp only; omega, .normA⟩
  · have hge : i = a.length := by omega
    subst hge
    rw [List.take_length] at hl
    rw [show nameOk a = true by simp only [nameOk]; rw [decide_eq_true (by omega), hl]; rfl]

def c_spec_NameRead : C := (.seq (.reg false (.op 0 [] (some 2) none false (.alloc 2 [(.n 1)])
  (.op 1 [] (some 3) none false (.mov (.v (.bool false)))
  .done)))
 (.seq (.seq (.reg false (.op 0 [] (some 7) none false (.mov (.t 0))
  (.op 1 [] (some 8) none false (.b2s (.t 7))
  (.op 2 [] (some 9) none false (.bin .eql (.t 8) (.v (.string ⟨#[46]⟩)))
  .done))))
 (.cond (.t 9)
 (.seq (.reg false (.op 0 [] (some 10) none false (.build [(.n 1)] [])
  (.op 1 [] none none false (.store (some 1) (.t 2) (.t 10))
  (.op 2 [] (some 3) none false (.mov (.v (.bool true)))
  .done))))
 .ret)
 .skip))
 (.seq (.reg false (.op 0 [] (some 4) none false (.alloc 4 [(.n 1)])
  .done))
 (.seq (.reg false (.op 0 [] (some 5) none false (.mov (.n 1))
  .done))
 (.seq (.seq (.reg false (.op 0 [] (some 6) none false (.mov (.v (.int .i64 0)))
  .done))
 (.block 0 (.loop (.seq (.seq (.reg false (.op 0 [] (some 11) none false (.mov (.t 6))
  (.op 1 [] (some 12) none false (.mov (.t 0))
  (.op 2 [] (some 13) none false (.len (.t 12))
  (.op 3 [] (some 14) none false (.bin .leq (.t 11) (.t 13))
  .done)))))
 (.cond (.t 14)
 .skip
 (.exit 0)))
 (.seq (.block 1 (.seq (.seq (.reg false (.op 0 [] (some 17) none false (.mov (.t 6))
  (.op 1 [] (some 18) none false (.mov (.t 0))
  (.op 2 [] (some 19) none false (.len (.t 18))
  (.op 3 [] (some 20) none false (.bin .lss (.t 17) (.t 19))
  (.op 4 [] (some 21) none false (.mov (.t 20))
  (.op 5 [] (some 22) (some (21, true)) false (.mov (.t 0))
  (.op 6 [] (some 23) (some (21, true)) false (.mov (.t 6))
  (.op 7 [] (some 24) (some (21, true)) false (.iad 1 (.t 22) (.t 23))
  (.op 8 [] (some 25) (some (21, true)) false (.load none (.t 24))
  (.op 9 [] (some 26) (some (21, true)) false (.bin .neq (.t 25) (.v (.int .u8 46)))
  (.op 10 [] (some 27) none false (.pick (.t 21) (.t 26) (.v (.bool false)))
  .done))))))))))))
 (.cond (.t 27)
 (.seq (.reg false (.op 0 [] (some 28) none false (.mov (.t 5))
  (.op 1 [] (some 29) none false (.mov (.t 0))
  (.op 2 [] (some 30) none false (.mov (.t 6))
  (.op 3 [] (some 31) none false (.iad 1 (.t 29) (.t 30))
  (.op 4 [] (some 32) none false (.load none (.t 31))
  (.op 5 [] (some 33) none false (.lit 33 1 [(.v (.int .u8 0))] 1 [(0, 1, (.t 32))])
  (.op 6 [] (some 34) none false (.app 34 1 1 (.t 28) (.t 33))
  (.op 7 [] (some 5) none false (.mov (.t 34))
  .done)))))))))
 (.exit 1))
 .skip))
 (.seq (.seq (.reg false (.op 0 [] (some 35) none false (.mov (.t 6))
  (.op 1 [] (some 36) none false (.mov (.t 0))
  (.op 2 [] (some 37) none false (.len (.t 36))
  (.op 3 [] (some 38) none false (.bin .eql (.t 35) (.t 37))
  (.op 4 [] (some 39) none false (.mov (.t 38))
  (.op 5 [] (some 40) (some (39, true)) false (.mov (.t 5))
  (.op 6 [] (some 41) (some (39, true)) false (.len (.t 40))
  (.op 7 [] (some 42) (some (39, true)) false (.bin .eql (.t 41) (.v (.int .i64 0)))
  (.op 8 [] (some 43) none false (.pick (.t 39) (.t 42) (.v (.bool false)))
  (.op 9 [] (some 44) none false (.mov (.t 43))
  (.op 10 [] (some 45) (some (44, true)) false (.mov (.t 6))
  (.op 11 [] (some 46) (some (44, true)) false (.bin .gtr (.t 45) (.v (.int .i64 0)))
  (.op 12 [] (some 47) none false (.pick (.t 44) (.t 46) (.v (.bool false)))
  .done))))))))))))))
 (.cond (.t 47)
 (.exit 0)
 .skip))
 (.seq (.reg true (.op 0 [] (some 48) none true (.fad (.t 4) 0)
  (.op 1 [] (some 49) none true (.load none (.t 48))
  (.op 2 [] (some 50) none true (.mov (.t 5))
  (.op 3 [] (some 51) none false (.call 51 260 [(.t 50)])
  (.op 4 [] (some 52) none false (.lit 52 1 [(.n 1)] 1 [(0, 1, (.t 51))])
  (.op 5 [1] (some 53) none false (.app 53 1 24 (.t 49) (.t 52))
  (.op 6 [] (some 54) none true (.fad (.t 4) 0)
  (.op 7 [1] none none false (.store none (.t 54) (.t 53))
  .done)))))))))
 (.reg false (.op 0 [] (some 5) none false (.mov (.n 1))
  .done))))))
 (.reg false (.op 0 [] (some 15) none false (.mov (.t 6))
  (.op 1 [] (some 16) none false (.bin .add (.t 15) (.v (.int .i64 1)))
  (.op 2 [] (some 6) none false (.mov (.t 16))
  .done)))))))))
 (.seq (.seq (.reg false (.op 0 [] (some 55) none false (.load (some 1) (.t 4))
  (.op 1 [] (some 56) none false (.call 56 15 [(.t 55)])
  (.op 2 [] (some 57) none false (.un .not (.t 56))
  .done))))
 (.cond (.t 57)
 (.seq (.reg false (.op 0 [] (some 58) none false (.build [(.n 1)] [])
  (.op 1 [] none none false (.store (some 1) (.t 2) (.t 58))
  (.op 2 [] (some 3) none false (.mov (.v (.bool false)))
  .done))))
 .ret)
 .skip))
 (.seq (.reg false (.op 0 [] (some 59) none false (.load (some 1) (.t 4))
  (.op 1 [] none none false (.store (some 1) (.t 2) (.t 59))
  (.op 2 [] (some 3) none false (.mov (.v (.bool true)))
  .done))))
 .ret)))))))
theorem dg_spec_NameRead : Tryz.f187.body.bind (digC Tryz.prog Tryz.f187.ntmps []) = some c_spec_NameRead := by kernel_rfl
theorem rs_spec_NameRead : resSlots Tryz.prog Tryz.f187 = some [.m 2 (some 1), .s 3] := by kernel_rfl
theorem ok_spec_NameRead (b : List UInt8) (hb : b.length ≤ 4194303) :
    FnOK Tryz.prog 187 [.one (.d (encB b))] (fun ra _ => ra = [.agg [.own true (encBB (readN b))], .one (.d (.sc (.bool (readOk b))))]) := by
  refine FnOK.ofK Tryz.func187 (by kernel_rfl) dg_spec_NameRead rs_spec_NameRead rfl rfl ?_
  unfold c_spec_NameRead
  obtain ⟨rl1, rl2⟩ := readL_small hb
  refine kSeq (kReg (kAlloc rfl rfl (kMovC rfl (kDone (kSeq (kSeq (kReg (kMovC rfl (kB2s rfl rfl (kBin rfl rfl rfl (kDone (kCond rfl (fun g0 => kSeq (kReg (kMem [(12288, ⟨1, 0, .box [.nil 1]⟩)] [(2, .c (.ptr 12288 1 0)), (10, .c (.un))] [] ⟨rfl, trivial⟩ ⟨rfl, rfl, trivial⟩ rfl (kBuildG rfl (kStoreP rfl rfl rfl rfl (kMovC rfl (kDone (kMem [(12288, ⟨1, 0, .box [.nil 1]⟩)] [(2, .c (.ptr 12288 1 0)), (3, .c (.d _))] [] ⟨rfl, trivial⟩ ⟨rfl, rfl, trivial⟩ rfl (kRet (endRetA (ra := [.agg [(.own true _)], .one (.d _)]) rfl ?_)))))))))) (fun g0 => kSkip (kSeq (kReg (kAlloc rfl rfl (kDone (kSeq (kReg (kMovC rfl (kDone (kSeq (kSeq (kReg (kMovC rfl (kDone (kBlock ?_)))))))))))))))))))))))))))
  · rw [eq46] at g0
    have e : b = [46] := of_decide_eq_true g0
    subst e
    rfl
  rw [eq46] at g0
  have hne : b ≠ [46] := of_decide_eq_false g0
  have hrn : readN b = if nameOk (readL b) then readL b else [] := by unfold readN; rw [if_neg hne]
  have hro : readOk b = nameOk (readL b) := by unfold readOk; rw [decide_eq_false hne]; rfl
  rw [hrn, hro]
  refine kSub (Sub.nilBox (id := rid 4 0) (id2 := rid 5001 0) (j := 0) rfl rfl rfl (by decide) (by decide)) ?_
  refine kSub (Sub.nilArr (j := 5) (id := rid 5000 0) (sz := 1) rfl (by decide)) ?_
  refine kLoop (α := { i : Nat // i ≤ b.length + 1 }) (fun y => ⟨tabSl [(0, .dv (encB b)), (2, .c (.ptr (rid 2 0) 1 0)), (4, .c (.ptr (rid 4 0) 1 0)), (5, .c (.arr (rid 5000 0) 1)), (6, .i y.1)], obTab 1 [(rid 2 0, ⟨1, 0, .box [.nil 1]⟩), (rid 4 0, ⟨1, 0, .box [.arr (rid 5001 0) 1]⟩), (rid 5000 0, ⟨1, 0, .arr true (encB (rdW b y.1))⟩), (rid 5001 0, ⟨1, 0, .arr true (encBB (rdL b y.1))⟩)], []⟩) (fun y => b.length + 1 - y.1) ⟨0, by simp⟩ .normA ?_
  rintro ⟨i, hi⟩
  simp only
  have hmem := rdW_mem b i
  rcases Nat.lt_or_ge i b.length with hlt | hge
  · have hlens := rd_lens b i (by omega)
    by_cases hc : b[i] = 46
    · obtain ⟨s1, s2⟩ := rd_dot hlt hc
      have hcn : ((b[i]).toNat : Int) = 46 := by rw [hc]; rfl
      revert s1 s2
      generalize rdL b i = L at *
      generalize rdW b i = W at *
      intro s1 s2
      refine kSeq (kSeq (kReg (kMovC rfl (kMovC rfl (kLenR rfl rfl (kBin rfl rfl rfl (kDone (kCondP rfl (fun g0 => kSkip (kSeq (kBlock (kSeq (kSeq (kReg (kMovC rfl (kMovC rfl (kLenR rfl rfl (kBin rfl rfl rfl (kMovC rfl (kGP rfl (fun g1 => kGT rfl (kMovC rfl (kGT rfl (kMovC rfl (kGT rfl (kIadR rfl rfl rfl (by omega) (kGT rfl (kLoadD rfl rfl (kGT rfl (kBin rfl rfl rfl (kPickT rfl (kMovC rfl (kDone (kCondIN rfl (fun g2 => (by omega)) (fun g2 => kSkip (kSeq (kSeq (kReg (kMem [(20484096, ⟨1, 0, .arr true _⟩)] [(6, .c (.d _)), (0, .c (.d _)), (5, .c (.arr 20484096 1))] [] ⟨rfl, trivial⟩ ⟨rfl, rfl, rfl, trivial⟩ rfl (kMovC rfl (kMovC rfl (kLenR rfl rfl (kBin rfl rfl rfl (kMovC rfl (kGP rfl (fun g3 => (by omega)) (fun g3 => kGF rfl (kGF rfl (kGF rfl (kPickF rfl (kMovC rfl (kMovC rfl (kGF rfl (kGF rfl (kPickF rfl (kMovC rfl (kDone (kCondF rfl (kSkip (kSeq (kRegD (kMem [(20480, ⟨1, 0, .box [.arr 20488192 1]⟩), (20484096, ⟨1, 0, .arr true _⟩), (20488192, ⟨1, 0, .arr true _⟩)] [(4, .c (.ptr 20480 1 0)), (5, .c (.arr 20484096 1))] [] ⟨rfl, rfl, rfl, trivial⟩ ⟨rfl, rfl, trivial⟩ rfl (kFadP rfl rfl (kLoadP rfl rfl rfl (kMovC rfl (kCall1 true (ok_spec_Lower _ (by first | assumption | omega | solve_by_elim [List.getElem_mem] | (simp only [szOut] at *; omega) | exact rfl | exact Nat.le_of_ble_eq_true rfl)) ⟨rfl, trivial⟩ rfl rfl rfl (fun _ => (kLit rfl rfl rfl rfl (kRelF rfl rfl (kAppR1 rfl rfl rfl rfl rfl rfl rfl rfl (by omega) (kFadP rfl rfl (kRelF rfl rfl (kStoreP rfl rfl rfl rfl (kDone (kH (kReg (kMovC rfl (kDone (kBk (kReg (kMovC rfl (kAdd rfl rfl (by omega) (kMovC rfl (kDone ?_))))))))))))))))))))))))))))))))))))))))))))))))))))))))))))))) (fun g1 => (by omega)))))))))))))) (fun g0 => (by omega))))))))))
      refine kInv ⟨⟨i + 1, by omega⟩, by simp only; omega, ?_⟩
      simp only [s1, s2]
      exact (Sub.nilArr (j := 5) (id := rid 5000 0) (sz := 1) rfl (by decide)).trans .normA
    · obtain ⟨s1, s2⟩ := rd_char hlt hc
      have hcn : ((b[i]).toNat : Int) ≠ 46 := fun h => hc (UInt8.toNat_inj.1 (by have : b[i].toNat = 46 := by omega
                                                                                 rw [this]; rfl))
      revert s1 s2
      generalize rdL b i = L at *
      generalize rdW b i = W at *
      intro s1 s2
      refine kSeq (kSeq (kReg (kMovC rfl (kMovC rfl (kLenR rfl rfl (kBin rfl rfl rfl (kDone (kCondP rfl (fun g0 => kSkip (kSeq (kBlock (kSeq (kSeq (kReg (kMovC rfl (kMovC rfl (kLenR rfl rfl (kBin rfl rfl rfl (kMovC rfl (kGP rfl (fun g1 => kGT rfl (kMovC rfl (kGT rfl (kMovC rfl (kGT rfl (kIadR rfl rfl rfl (by omega) (kGT rfl (kLoadD rfl rfl (kGT rfl (kBin rfl rfl rfl (kPickT rfl (kMovC rfl (kDone (kCondIN rfl (fun g2 => kSeq (kReg (kMem [(20484096, ⟨1, 0, .arr true _⟩)] [(5, .c (.arr 20484096 1)), (0, .c (.d _)), (6, .c (.d _))] [] ⟨rfl, trivial⟩ ⟨rfl, rfl, rfl, trivial⟩ rfl (kMovC rfl (kMovC rfl (kMovC rfl (kIadR rfl rfl rfl (by omega) (kLoadD rfl rfl (kLit rfl rfl rfl rfl (kAppR1 rfl rfl rfl rfl rfl rfl rfl rfl (by omega) (kMovC rfl (kDone (kExit (kExC (kExB (kReg (kMovC rfl (kAdd rfl rfl (by omega) (kMovC rfl (kDone ?_)))))))))))))))))))) (fun g2 => (by omega)))))))))))))))) (fun g1 => (by omega)))))))))))))) (fun g0 => (by omega))))))))))
      refine kInv ⟨⟨i + 1, by omega⟩, by simp only; omega, ?_⟩
      simp only [s1, s2]
      exact .normA
  · rcases Nat.lt_or_ge b.length i with hgt | hle
    · have e : i = b.length + 1 := by omega
      subst e
      rw [rd_last.1, rd_last.2]
      cases hno : nameOk (readL b)
      · refine kSeq (kSeq (kReg (kMovC rfl (kMovC rfl (kLenR rfl rfl (kBin rfl rfl rfl (kDone (kCondP rfl (fun g0 => (by omega)) (fun g0 => kExit (kExC (kExI (kExB (kSeq (kSeq (kReg (kLoadP rfl rfl rfl (kCallD (ok_spec_NameOk _ (by first | assumption | omega | solve_by_elim [List.getElem_mem] | (simp only [szOut] at *; omega) | exact rfl | exact Nat.le_of_ble_eq_true rfl) (by first | assumption | omega | solve_by_elim [List.getElem_mem] | (simp only [szOut] at *; omega) | exact rfl | exact Nat.le_of_ble_eq_true rfl)) ⟨⟨⟨rfl, trivial⟩, Nat.le_of_ble_eq_true rfl⟩, trivial⟩ rfl rfl rfl rfl rfl (kUn rfl rfl (kDone (kCondN rfl (fun g1 => kSeq (kReg (kMem [(12288, ⟨1, 0, .box [.nil 1]⟩)] [(2, .c (.ptr 12288 1 0))] [] ⟨rfl, trivial⟩ ⟨rfl, trivial⟩ rfl (kBuildG rfl (kStoreP rfl rfl rfl rfl (kMovC rfl (kDone (kMem [(12288, ⟨1, 0, .box [.nil 1]⟩)] [(2, .c (.ptr 12288 1 0)), (3, .c (.d _))] [] ⟨rfl, trivial⟩ ⟨rfl, rfl, trivial⟩ rfl (kRet (endRetA (ra := [.agg [(.own true _)], .one (.d _)]) rfl rfl)))))))))) (fun g1 => (by (simp [*] at g1)))))))))))))))))))))))
      · refine kSeq (kSeq (kReg (kMovC rfl (kMovC rfl (kLenR rfl rfl (kBin rfl rfl rfl (kDone (kCondP rfl (fun g0 => (by omega)) (fun g0 => kExit (kExC (kExI (kExB (kSeq (kSeq (kReg (kLoadP rfl rfl rfl (kCallD (ok_spec_NameOk _ (by first | assumption | omega | solve_by_elim [List.getElem_mem] | (simp only [szOut] at *; omega) | exact rfl | exact Nat.le_of_ble_eq_true rfl) (by first | assumption | omega | solve_by_elim [List.getElem_mem] | (simp only [szOut] at *; omega) | exact rfl | exact Nat.le_of_ble_eq_true rfl)) ⟨⟨⟨rfl, trivial⟩, Nat.le_of_ble_eq_true rfl⟩, trivial⟩ rfl rfl rfl rfl rfl (kUn rfl rfl (kDone (kCondN rfl (fun g1 => (by (simp [*] at g1))) (fun g1 => kSkip (kSeq (kReg (kLoadP rfl rfl rfl (kStoreP rfl rfl rfl rfl (kMovC rfl (kDone (kMem [(12288, ⟨1, 0, .box [.arr 20488192 1]⟩), (20488192, ⟨1, 0, .arr true _⟩)] [(2, .c (.ptr 12288 1 0)), (3, .c (.d _))] [] ⟨rfl, rfl, trivial⟩ ⟨rfl, rfl, trivial⟩ rfl (kRet (endRetA (ra := [.agg [(.own true _)], .one (.d _)]) rfl rfl))))))))))))))))))))))))))))))
    · have e : i = b.length := by omega
      subst e
      have hlens := rd_lens b b.length (Nat.le_refl _)
      have s1 := (rd_last (b := b)).1
      have s2 := (rd_last (b := b)).2
      by_cases hw : rdW b b.length = [] ∧ 0 < b.length
      · rw [rd_end, if_pos hw] at *
        rw [hw.1]
        obtain ⟨hw1, hw2⟩ := hw
        cases hno : nameOk (rdL b b.length)
        · refine kSeq (kSeq (kReg (kMovC rfl (kMovC rfl (kLenR rfl rfl (kBin rfl rfl rfl (kDone (kCondP rfl (fun g0 => kSkip (kSeq (kBlock (kSeq (kSeq (kReg (kMovC rfl (kMovC rfl (kLenR rfl rfl (kBin rfl rfl rfl (kMovC rfl (kGP rfl (fun g1 => (by omega)) (fun g1 => kGF rfl (kGF rfl (kGF rfl (kGF rfl (kGF rfl (kPickF rfl (kMovC rfl (kDone (kCondF rfl (kSkip (kSeq (kSeq (kReg (kMem [(20484096, ⟨1, 0, .arr true _⟩)] [(6, .c (.d _)), (0, .c (.d _)), (5, .c (.arr 20484096 1))] [] ⟨rfl, trivial⟩ ⟨rfl, rfl, rfl, trivial⟩ rfl (kMovC rfl (kMovC rfl (kLenR rfl rfl (kBin rfl rfl rfl (kMovC rfl (kGP rfl (fun g2 => kGT rfl (kMovC rfl (kGT rfl (kLenR rfl rfl (kGT rfl (kBin rfl rfl rfl (kPickT rfl (kMovC rfl (kMovC rfl (kGT rfl (kMovC rfl (kGT rfl (kBin rfl rfl rfl (kPickT rfl (kMovC rfl (kDone (kCondP rfl (fun g3 => kExit (kExC (kExB' rfl (kExC (kExI (kExB (kSeq (kSeq (kReg (kMem [(20480, ⟨1, 0, .box [.arr 20488192 1]⟩), (20488192, ⟨1, 0, .arr true _⟩)] [(4, .c (.ptr 20480 1 0))] [] ⟨rfl, rfl, trivial⟩ ⟨rfl, trivial⟩ rfl (kLoadP rfl rfl rfl (kCallD (ok_spec_NameOk _ (by first | assumption | omega | solve_by_elim [List.getElem_mem] | (simp only [szOut] at *; omega) | exact rfl | exact Nat.le_of_ble_eq_true rfl) (by first | assumption | omega | solve_by_elim [List.getElem_mem] | (simp only [szOut] at *; omega) | exact rfl | exact Nat.le_of_ble_eq_true rfl)) ⟨⟨⟨rfl, trivial⟩, Nat.le_of_ble_eq_true rfl⟩, trivial⟩ rfl rfl rfl rfl rfl (kUn rfl rfl (kDone (kCondN rfl (fun g4 => kSeq (kReg (kMem [(12288, ⟨1, 0, .box [.nil 1]⟩)] [(2, .c (.ptr 12288 1 0))] [] ⟨rfl, trivial⟩ ⟨rfl, trivial⟩ rfl (kBuildG rfl (kStoreP rfl rfl rfl rfl (kMovC rfl (kDone (kMem [(12288, ⟨1, 0, .box [.nil 1]⟩)] [(2, .c (.ptr 12288 1 0)), (3, .c (.d _))] [] ⟨rfl, trivial⟩ ⟨rfl, rfl, trivial⟩ rfl (kRet (endRetA (ra := [.agg [(.own true _)], .one (.d _)]) rfl rfl)))))))))) (fun g4 => (by (simp [*] at g4)))))))))))))))))) (fun g3 => (by omega))))))))))))))))))) (fun g2 => (by omega)))))))))))))))))))))))))))))))))) (fun g0 => (by omega))))))))))
        · refine kSeq (kSeq (kReg (kMovC rfl (kMovC rfl (kLenR rfl rfl (kBin rfl rfl rfl (kDone (kCondP rfl (fun g0 => kSkip (kSeq (kBlock (kSeq (kSeq (kReg (kMovC rfl (kMovC rfl (kLenR rfl rfl (kBin rfl rfl rfl (kMovC rfl (kGP rfl (fun g1 => (by omega)) (fun g1 => kGF rfl (kGF rfl (kGF rfl (kGF rfl (kGF rfl (kPickF rfl (kMovC rfl (kDone (kCondF rfl (kSkip (kSeq (kSeq (kReg (kMem [(20484096, ⟨1, 0, .arr true _⟩)] [(6, .c (.d _)), (0, .c (.d _)), (5, .c (.arr 20484096 1))] [] ⟨rfl, trivial⟩ ⟨rfl, rfl, rfl, trivial⟩ rfl (kMovC rfl (kMovC rfl (kLenR rfl rfl (kBin rfl rfl rfl (kMovC rfl (kGP rfl (fun g2 => kGT rfl (kMovC rfl (kGT rfl (kLenR rfl rfl (kGT rfl (kBin rfl rfl rfl (kPickT rfl (kMovC rfl (kMovC rfl (kGT rfl (kMovC rfl (kGT rfl (kBin rfl rfl rfl (kPickT rfl (kMovC rfl (kDone (kCondP rfl (fun g3 => kExit (kExC (kExB' rfl (kExC (kExI (kExB (kSeq (kSeq (kReg (kMem [(20480, ⟨1, 0, .box [.arr 20488192 1]⟩), (20488192, ⟨1, 0, .arr true _⟩)] [(4, .c (.ptr 20480 1 0))] [] ⟨rfl, rfl, trivial⟩ ⟨rfl, trivial⟩ rfl (kLoadP rfl rfl rfl (kCallD (ok_spec_NameOk _ (by first | assumption | omega | solve_by_elim [List.getElem_mem] | (simp only [szOut] at *; omega) | exact rfl | exact Nat.le_of_ble_eq_true rfl) (by first | assumption | omega | solve_by_elim [List.getElem_mem] | (simp only [szOut] at *; omega) | exact rfl | exact Nat.le_of_ble_eq_true rfl)) ⟨⟨⟨rfl, trivial⟩, Nat.le_of_ble_eq_true rfl⟩, trivial⟩ rfl rfl rfl rfl rfl (kUn rfl rfl (kDone (kCondN rfl (fun g4 => (by (simp [*] at g4))) (fun g4 => kSkip (kSeq (kReg (kLoadP rfl rfl rfl (kStoreP rfl rfl rfl rfl (kMovC rfl (kDone (kMem [(12288, ⟨1, 0, .box [.arr 20488192 1]⟩), (20488192, ⟨1, 0, .arr true _⟩)] [(2, .c (.ptr 12288 1 0)), (3, .c (.d _))] [] ⟨rfl, rfl, trivial⟩ ⟨rfl, rfl, trivial⟩ rfl (kRet (endRetA (ra := [.agg [(.own true _)], .one (.d _)]) rfl rfl))))))))))))))))))))))))) (fun g3 => (by omega))))))))))))))))))) (fun g2 => (by omega)))))))))))))))))))))))))))))))))) (fun g0 => (by omega))))))))))
      · rw [rd_end, if_neg hw] at *
        have hw' : (rdW b b.length).length ≠ 0 ∨ b.length = 0 := by
          rcases Nat.eq_zero_or_pos b.length with h | h
          · exact .inr h
          · exact .inl fun h0 => hw ⟨List.eq_nil_of_length_eq_zero h0, h⟩
        revert s1 s2
        generalize rdL b b.length = L at *
        generalize rdW b b.length = W at *
        intro s1 s2
        refine kSeq (kSeq (kReg (kMovC rfl (kMovC rfl (kLenR rfl rfl (kBin rfl rfl rfl (kDone (kCondP rfl (fun g0 => kSkip (kSeq (kBlock (kSeq (kSeq (kReg (kMovC rfl (kMovC rfl (kLenR rfl rfl (kBin rfl rfl rfl (kMovC rfl (kGP rfl (fun g1 => (by omega)) (fun g1 => kGF rfl (kGF rfl (kGF rfl (kGF rfl (kGF rfl (kPickF rfl (kMovC rfl (kDone (kCondF rfl (kSkip (kSeq (kSeq (kReg (kMem [(20484096, ⟨1, 0, .arr true _⟩)] [(6, .c (.d _)), (0, .c (.d _)), (5, .c (.arr 20484096 1))] [] ⟨rfl, trivial⟩ ⟨rfl, rfl, rfl, trivial⟩ rfl (kMovC rfl (kMovC rfl (kLenR rfl rfl (kBin rfl rfl rfl (kMovC rfl (kGP rfl (fun g2 => kGT rfl (kMovC rfl (kGT rfl (kLenR rfl rfl (kGT rfl (kBin rfl rfl rfl (kPickT rfl (kMovC rfl (kMovC rfl (kGP rfl (fun g3 => kGT rfl (kMovC rfl (kGT rfl (kBin rfl rfl rfl (kPickT rfl (kMovC rfl (kDone (kCondP rfl (fun g4 => (by omega)) (fun g4 => kSkip (kSeq (kRegD (kMem [(20480, ⟨1, 0, .box [.arr 20488192 1]⟩), (20484096, ⟨1, 0, .arr true _⟩), (20488192, ⟨1, 0, .arr true _⟩)] [(4, .c (.ptr 20480 1 0)), (5, .c (.arr 20484096 1))] [] ⟨rfl, rfl, rfl, trivial⟩ ⟨rfl, rfl, trivial⟩ rfl (kFadP rfl rfl (kLoadP rfl rfl rfl (kMovC rfl (kCall1 true (ok_spec_Lower _ (by first | assumption | omega | solve_by_elim [List.getElem_mem] | (simp only [szOut] at *; omega) | exact rfl | exact Nat.le_of_ble_eq_true rfl)) ⟨rfl, trivial⟩ rfl rfl rfl (fun _ => (kLit rfl rfl rfl rfl (kRelF rfl rfl (kAppR1 rfl rfl rfl rfl rfl rfl rfl rfl (by omega) (kFadP rfl rfl (kRelF rfl rfl (kStoreP rfl rfl rfl rfl (kDone (kH (kReg (kMovC rfl (kDone (kBk (kReg (kMovC rfl (kAdd rfl rfl (by omega) (kMovC rfl (kDone ?_)))))))))))))))))))))))))))))))))) (fun g3 => kGF rfl (kGF rfl (kPickF rfl (kMovC rfl (kDone (kCondF rfl (kSkip (kSeq (kRegD (kMem [(20480, ⟨1, 0, .box [.arr 20488192 1]⟩), (20484096, ⟨1, 0, .arr true _⟩), (20488192, ⟨1, 0, .arr true _⟩)] [(4, .c (.ptr 20480 1 0)), (5, .c (.arr 20484096 1))] [] ⟨rfl, rfl, rfl, trivial⟩ ⟨rfl, rfl, trivial⟩ rfl (kFadP rfl rfl (kLoadP rfl rfl rfl (kMovC rfl (kCall1 true (ok_spec_Lower _ (by first | assumption | omega | solve_by_elim [List.getElem_mem] | (simp only [szOut] at *; omega) | exact rfl | exact Nat.le_of_ble_eq_true rfl)) ⟨rfl, trivial⟩ rfl rfl rfl (fun _ => (kLit rfl rfl rfl rfl (kRelF rfl rfl (kAppR1 rfl rfl rfl rfl rfl rfl rfl rfl (by omega) (kFadP rfl rfl (kRelF rfl rfl (kStoreP rfl rfl rfl rfl (kDone (kH (kReg (kMovC rfl (kDone (kBk (kReg (kMovC rfl (kAdd rfl rfl (by omega) (kMovC rfl (kDone ?_)))))))))))))))))))))))))))))))))))))))))) (fun g2 => (by omega)))))))))))))))))))))))))))))))))) (fun g0 => (by omega))))))))))
        all_goals
          refine kInv ⟨⟨b.length + 1, by omega⟩, by simp only; omega, ?_⟩
          simp only [s1, s2]
          exact (Sub.nilArr (j := 5) (id := rid 5000 0) (sz := 1) rfl (by decide)).trans .normA

def c_spec_l2of : C := (.seq (.reg false (.op 0 [] (some 2) none false (.alloc 2 [(.n 1)])
  .done))
 (.seq (.reg false (.op 0 [] (some 6) none false (.mov (.t 0))
  (.op 1 [] (some 7) none false (.s2b (.t 6))
  (.op 2 [] (some 8) none false (.call 8 187 [(.t 7)])
  (.op 3 [] (some 5) none false (.mov (.t 8))
  (.op 4 [] (some 9) none false (.ext (.t 5) 0)
  (.op 5 [] (some 10) none false (.ext (.t 5) 1)
  (.op 6 [] (some 3) none false (.alloc 3 [(.n 1)])
  (.op 7 [] none none false (.store (some 1) (.t 3) (.t 9))
  (.op 8 [] (some 4) none false (.mov (.t 10))
  .done))))))))))
 (.seq (.reg false (.op 0 [] (some 11) none false (.load (some 1) (.t 3))
  (.op 1 [] none none false (.store (some 1) (.t 2) (.t 11))
  .done)))
 .ret)))
theorem dg_spec_l2of : Tryz.f207.body.bind (digC Tryz.prog Tryz.f207.ntmps []) = some c_spec_l2of := by kernel_rfl
theorem rs_spec_l2of : resSlots Tryz.prog Tryz.f207 = some [.m 2 (some 1)] := by kernel_rfl
theorem ok_spec_l2of (b : ByteArray) (hb : b.size ≤ 4194303) :
    FnOK Tryz.prog 207 [.one (.d (.sc (.string b)))] (fun ra _ => ra = [.agg [.own true (encBB (readN b.toList))]]) := by
  refine FnOK.ofK Tryz.func207 (by kernel_rfl) dg_spec_l2of rs_spec_l2of rfl rfl ?_
  unfold c_spec_l2of
  have h : b.toList.length ≤ 4194303 := by rw [bt_len]; exact hb
  refine kSeq (kReg (kAlloc rfl rfl (kDone (kSeq (kReg (kMovC rfl (kS2b rfl (by omega) (kCall1 true (ok_spec_NameRead _ (by first | assumption | omega | solve_by_elim [List.getElem_mem] | (simp only [szOut] at *; omega) | exact rfl | exact Nat.le_of_ble_eq_true rfl)) ⟨rfl, trivial⟩ rfl rfl rfl (fun _ => (kMovT rfl (kExtC rfl rfl (kExtC rfl rfl (kAlloc rfl rfl (kStoreP rfl rfl rfl rfl (kMovC rfl (kDone (kSeq (kReg (kMem [(16384, ⟨1, 0, .box [.arr 36864 1]⟩), (12288, ⟨1, 0, .box [.nil 1]⟩), (36864, ⟨1, 0, .arr true _⟩)] [(3, .c (.ptr 16384 1 0)), (2, .c (.ptr 12288 1 0)), (11, .c (.un))] [] ⟨rfl, rfl, rfl, trivial⟩ ⟨rfl, rfl, rfl, trivial⟩ rfl (kLoadP rfl rfl rfl (kStoreP rfl rfl rfl rfl (kDone (kMem [(12288, ⟨1, 0, .box [.arr 36864 1]⟩), (36864, ⟨1, 0, .arr true _⟩)] [(2, .c (.ptr 12288 1 0))] [] ⟨rfl, rfl, trivial⟩ ⟨rfl, trivial⟩ rfl (kRet (endRetA (ra := [.agg [(.own true _)]]) rfl rfl)))))))))))))))))))))))))

def c_spec_l1Byte : C := (.seq (.reg false (.op 0 [] (some 2) none false (.mov (.v (.int .i64 0)))
  .done))
 (.seq (.reg false (.op 0 [] (some 4) none false (.mov (.t 0))
  (.op 1 [] (some 5) none false (.mov (.t 0))
  (.op 2 [] (some 6) none false (.nck (.t 5))
  (.op 3 [] (some 7) none false (.fad (.t 6) 2)
  (.op 4 [] (some 8) none false (.load none (.t 7))
  (.op 5 [] (some 9) none false (.bin .mul (.t 8) (.v (.int .i64 6364136223846793005)))
  (.op 6 [] (some 10) none false (.bin .add (.t 9) (.v (.int .i64 1442695040888963407)))
  (.op 7 [] (some 11) none false (.nck (.t 4))
  (.op 8 [] (some 12) none false (.fad (.t 11) 2)
  (.op 9 [] none none false (.store none (.t 12) (.t 10))
  .done)))))))))))
 (.seq (.reg true (.op 0 [] (some 13) none true (.mov (.t 0))
  (.op 1 [] (some 14) none true (.nck (.t 13))
  (.op 2 [] (some 15) none true (.fad (.t 14) 2)
  (.op 3 [] (some 16) none true (.load none (.t 15))
  (.op 4 [] (some 17) none true (.bin .shr (.t 16) (.v (.int .u64 33)))
  (.op 5 [] (some 18) none true (.mov (.t 0))
  (.op 6 [] (some 19) none true (.nck (.t 18))
  (.op 7 [] (some 20) none true (.fad (.t 19) 2)
  (.op 8 [] (some 21) none true (.load none (.t 20))
  (.op 9 [] (some 22) none true (.bin .shr (.t 21) (.v (.int .u64 45)))
  (.op 10 [] (some 23) none true (.bin .xor (.t 17) (.t 22))
  (.op 11 [] (some 24) none true (.bin .and (.t 23) (.v (.int .i64 255)))
  (.op 12 [] (some 3) none true (.mov (.t 24))
  .done))))))))))))))
 (.seq (.seq (.reg true (.op 0 [] (some 25) none true (.mov (.t 0))
  (.op 1 [] (some 26) none true (.nck (.t 25))
  (.op 2 [] (some 27) none true (.fad (.t 26) 1)
  (.op 3 [] (some 28) none true (.load none (.t 27))
  (.op 4 [] (some 29) none true (.mov (.t 0))
  (.op 5 [] (some 30) none true (.nck (.t 29))
  (.op 6 [] (some 31) none true (.fad (.t 30) 0)
  (.op 7 [] (some 32) none true (.load none (.t 31))
  (.op 8 [] (some 33) none true (.len (.t 32))
  (.op 9 [] (some 34) none true (.bin .lss (.t 28) (.t 33))
  .done)))))))))))
 (.cond (.t 34)
 (.seq (.reg true (.op 0 [] (some 35) none true (.mov (.t 3))
  (.op 1 [] (some 36) none true (.mov (.t 0))
  (.op 2 [] (some 37) none true (.nck (.t 36))
  (.op 3 [] (some 38) none true (.fad (.t 37) 0)
  (.op 4 [] (some 39) none true (.load none (.t 38))
  (.op 5 [] (some 40) none true (.mov (.t 0))
  (.op 6 [] (some 41) none true (.nck (.t 40))
  (.op 7 [] (some 42) none true (.fad (.t 41) 1)
  (.op 8 [] (some 43) none true (.load none (.t 42))
  (.op 9 [] (some 44) none true (.iad 1 (.t 39) (.t 43))
  (.op 10 [] (some 45) none true (.load none (.t 44))
  (.op 11 [] (some 46) none true (.conv .i64 (.t 45))
  (.op 12 [] (some 47) none true (.bin .add (.t 35) (.t 46))
  (.op 13 [] (some 48) none true (.bin .and (.t 47) (.v (.int .i64 255)))
  (.op 14 [] (some 3) none true (.mov (.t 48))
  .done))))))))))))))))
 (.reg false (.op 0 [] (some 49) none false (.mov (.t 0))
  (.op 1 [] (some 50) none false (.mov (.t 0))
  (.op 2 [] (some 51) none false (.nck (.t 50))
  (.op 3 [] (some 52) none false (.fad (.t 51) 1)
  (.op 4 [] (some 53) none false (.load none (.t 52))
  (.op 5 [] (some 54) none false (.bin .add (.t 53) (.v (.int .i64 1)))
  (.op 6 [] (some 55) none false (.nck (.t 49))
  (.op 7 [] (some 56) none false (.fad (.t 55) 1)
  (.op 8 [] none none false (.store none (.t 56) (.t 54))
  .done)))))))))))
 .skip))
 (.seq (.reg false (.op 0 [] (some 57) none false (.mov (.t 3))
  (.op 1 [] (some 2) none false (.mov (.t 57))
  .done)))
 .ret)))))
theorem dg_spec_l1Byte : Tryz.f268.body.bind (digC Tryz.prog Tryz.f268.ntmps []) = some c_spec_l1Byte := by kernel_rfl
theorem rs_spec_l1Byte : resSlots Tryz.prog Tryz.f268 = some [.s 2] := by kernel_rfl
theorem ok_spec_l1Byte (c : Cu) :
    FnOK Tryz.prog 268 [.one (.box c.cells)] (fun ra os => ∃ x : Int × Cu, (0 ≤ x.1 ∧ x.1 ≤ 255) ∧ ra = [.one (.d (.sc (.int .i64 x.1)))] ∧ os.b 0 = x.2.cells) := by
  refine FnOK.ofK Tryz.func268 (by kernel_rfl) dg_spec_l1Byte rs_spec_l1Byte rfl rfl ?_
  unfold c_spec_l1Byte
  have c0 := c.i0
  have c1 := c.i1
  have c2 := c.b
  refine kSeq (kReg (kMovC rfl (kDone (kSeq (kReg (kMovC rfl (kMovC rfl (kNck rfl rfl (kFadP rfl rfl (kLoadP rfl rfl rfl (kBin rfl rfl rfl (kBin rfl rfl rfl (kNck rfl rfl (kFadP rfl rfl (kStoreP rfl rfl rfl rfl (kDone (kSeq (kRegD (kMem [(0, ⟨0, 0, .box [.d _, .d _, .d _]⟩)] [(0, .c (.ptr 0 0 0)), (13, .c (.un)), (14, .c (.un)), (15, .c (.un)), (16, .c (.un)), (18, .c (.un)), (19, .c (.un)), (20, .c (.un)), (21, .c (.un)), (17, .c (.un)), (22, .c (.un)), (23, .c (.un)), (24, .c (.un))] [] ⟨rfl, trivial⟩ ⟨rfl, rfl, rfl, rfl, rfl, rfl, rfl, rfl, rfl, rfl, rfl, rfl, rfl, trivial⟩ rfl (kMovC rfl (kNck rfl rfl (kFadP rfl rfl (kLoadP rfl rfl rfl (kShr (m := 33) rfl rfl rfl (kMovC rfl (kNck rfl rfl (kFadP rfl rfl (kLoadP rfl rfl rfl (kShr (m := 45) rfl rfl rfl (kBin rfl rfl rfl (kBin rfl rfl rfl (kMovC rfl (kDone (kH (kSeq (kSeq (kRegD (kMovC rfl (kNck rfl rfl (kFadP rfl rfl (kLoadP rfl rfl rfl (kMovC rfl (kNck rfl rfl (kFadP rfl rfl (kLoadP rfl rfl rfl (kLenR rfl rfl (kBin rfl rfl rfl (kDone (kH (kCondP rfl (fun g0 => kSeq (kRegD (kMovC rfl (kMovC rfl (kNck rfl rfl (kFadP rfl rfl (kLoadP rfl rfl rfl (kMovC rfl (kNck rfl rfl (kFadP rfl rfl (kLoadP rfl rfl rfl (kIadT rfl rfl (by omega) (kLoadD rfl rfl (kConv rfl (kBin rfl rfl rfl (kBin rfl rfl rfl (kMovC rfl (kDone (kH (kReg (kMovC rfl (kMovC rfl (kNck rfl rfl (kFadP rfl rfl (kLoadP rfl rfl rfl (kAdd rfl rfl (by omega) (kNck rfl rfl (kFadP rfl rfl (kStoreP rfl rfl rfl rfl (kDone (kSeq (kReg (kMovC rfl (kMovC rfl (kDone (kRet (endRetA (ra := [.one (.d _)]) rfl ?_))))))))))))))))))))))))))))))))))))) (fun g0 => kSkip (kSeq (kReg (kMovC rfl (kMovC rfl (kDone (kRet (endRetA (ra := [.one (.d _)]) rfl ?_))))))))))))))))))))))))))))))))))))))))))))))))))))))))))
  · refine ⟨(IntKind.i64.wrap ((_ &&& BitVec.ofInt 64 255).toNat : Int), ⟨c.code, c.i + 1, IntKind.i64.wrap _, by omega, by omega, c.b⟩), and255 _, rfl, rfl⟩
  · refine ⟨(IntKind.i64.wrap ((_ &&& BitVec.ofInt 64 255).toNat : Int), ⟨c.code, c.i, IntKind.i64.wrap _, c.i0, c.i1, c.b⟩), and255 _, rfl, rfl⟩

def c_spec_l1Below : C := (.seq (.reg false (.op 0 [] (some 4) none false (.mov (.v (.int .i64 0)))
  .done))
 (.seq (.seq (.reg false (.op 0 [] (some 9) none false (.mov (.t 1))
  (.op 1 [] (some 10) none false (.bin .leq (.t 9) (.v (.int .i64 0)))
  .done)))
 (.cond (.t 10)
 (.seq (.reg false (.op 0 [] (some 4) none false (.mov (.v (.int .i64 0)))
  .done))
 .ret)
 .skip))
 (.seq (.seq (.reg false (.op 0 [] (some 11) none false (.mov (.t 1))
  (.op 1 [] (some 12) none false (.bin .leq (.t 11) (.v (.int .i64 256)))
  .done)))
 (.cond (.t 12)
 (.seq (.reg false (.op 0 [] (some 13) none false (.mov (.t 0))
  (.op 1 [] (some 14) none false (.call 14 268 [(.t 13)])
  (.op 2 [] (some 15) none false (.mov (.t 1))
  (.op 3 [] (some 16) none false (.bin .rem (.t 14) (.t 15))
  (.op 4 [] (some 4) none false (.mov (.t 16))
  .done))))))
 .ret)
 .skip))
 (.seq (.reg false (.op 0 [] (some 17) none false (.mov (.t 0))
  (.op 1 [] (some 18) none false (.call 18 268 [(.t 17)])
  (.op 2 [] (some 5) none false (.mov (.t 18))
  .done))))
 (.seq (.reg false (.op 0 [] (some 19) none false (.mov (.t 0))
  (.op 1 [] (some 20) none false (.call 20 268 [(.t 19)])
  (.op 2 [] (some 6) none false (.mov (.t 20))
  .done))))
 (.seq (.reg false (.op 0 [] (some 21) none false (.mov (.t 0))
  (.op 1 [] (some 22) none false (.call 22 268 [(.t 21)])
  (.op 2 [] (some 7) none false (.mov (.t 22))
  .done))))
 (.seq (.reg false (.op 0 [] (some 23) none false (.mov (.t 0))
  (.op 1 [] (some 24) none false (.call 24 268 [(.t 23)])
  (.op 2 [] (some 8) none false (.mov (.t 24))
  .done))))
 (.seq (.reg false (.op 0 [] (some 25) none false (.mov (.t 5))
  (.op 1 [] (some 26) none false (.bin .mul (.t 25) (.v (.int .i64 16777216)))
  (.op 2 [] (some 27) none false (.mov (.t 6))
  (.op 3 [] (some 28) none false (.bin .mul (.t 27) (.v (.int .i64 65536)))
  (.op 4 [] (some 29) none false (.bin .add (.t 26) (.t 28))
  (.op 5 [] (some 30) none false (.mov (.t 7))
  (.op 6 [] (some 31) none false (.bin .mul (.t 30) (.v (.int .i64 256)))
  (.op 7 [] (some 32) none false (.bin .add (.t 29) (.t 31))
  (.op 8 [] (some 33) none false (.mov (.t 8))
  (.op 9 [] (some 34) none false (.bin .add (.t 32) (.t 33))
  (.op 10 [] (some 35) none false (.mov (.t 1))
  (.op 11 [] (some 36) none false (.bin .rem (.t 34) (.t 35))
  (.op 12 [] (some 4) none false (.mov (.t 36))
  .done))))))))))))))
 .ret))))))))
theorem dg_spec_l1Below : Tryz.f205.body.bind (digC Tryz.prog Tryz.f205.ntmps []) = some c_spec_l1Below := by kernel_rfl
theorem rs_spec_l1Below : resSlots Tryz.prog Tryz.f205 = some [.s 4] := by kernel_rfl
theorem ok_spec_l1Below (c : Cu) (n : Int) :
    FnOK Tryz.prog 205 [.one (.box c.cells), .one (.d (.sc (.int .i64 n)))] (fun ra os => ∃ x : Int × Cu, (0 ≤ x.1 ∧ (x.1 < n ∨ x.1 = 0)) ∧ ra = [.one (.d (.sc (.int .i64 x.1)))] ∧ os.b 0 = x.2.cells) := by
  refine FnOK.ofK Tryz.func205 (by kernel_rfl) dg_spec_l1Below rs_spec_l1Below rfl rfl ?_
  unfold c_spec_l1Below
  refine kSeq (kReg (kMovC rfl (kDone (kSeq (kSeq (kReg (kMovC rfl (kBin rfl rfl rfl (kDone (kCondP rfl (fun g0 => kSeq (kReg (kMovC rfl (kDone (kRet (endRetA (ra := [.one (.d _)]) rfl ?_)))))) (fun g0 => kSkip (kSeq (kSeq (kReg (kMovC rfl (kBin rfl rfl rfl (kDone (kCondP rfl (fun g1 => kSeq (kReg (kMovC rfl (kCallE (ok_spec_l1Byte _) ⟨⟨rfl, _, rfl, rfl⟩, trivial⟩ rfl rfl rfl (fun _ => rfl) (fun x2 hx2 => (kMovC rfl (kRem rfl rfl (by omega) (kMovC rfl (kDone (kRet (endRetA (ra := [.one (.d _)]) rfl ?_))))))))))) (fun g1 => kSkip (kSeq (kReg (kMovC rfl (kCallE (ok_spec_l1Byte _) ⟨⟨rfl, _, rfl, rfl⟩, trivial⟩ rfl rfl rfl (fun _ => rfl) (fun x3 hx3 => (kMovC rfl (kDone (kSeq (kReg (kMovC rfl (kCallE (ok_spec_l1Byte _) ⟨⟨rfl, _, rfl, rfl⟩, trivial⟩ rfl rfl rfl (fun _ => rfl) (fun x4 hx4 => (kMovC rfl (kDone (kSeq (kReg (kMem [(0, ⟨0, 2, .box [.d _, .d _, .d _]⟩)] [(0, .c (.ptr 0 0 0)), (21, .c (.un)), (22, .c (.un))] [] ⟨rfl, trivial⟩ ⟨rfl, rfl, rfl, trivial⟩ rfl (kMovC rfl (kCallE (ok_spec_l1Byte _) ⟨⟨rfl, _, rfl, rfl⟩, trivial⟩ rfl rfl rfl (fun _ => rfl) (fun x5 hx5 => (kMovC rfl (kDone (kSeq (kReg (kMovC rfl (kCallE (ok_spec_l1Byte _) ⟨⟨rfl, _, rfl, rfl⟩, trivial⟩ rfl rfl rfl (fun _ => rfl) (fun x6 hx6 => (kMovC rfl (kDone (kSeq (kReg (kMovC rfl (kMul rfl rfl (by omega) (kMovC rfl (kMul rfl rfl (by omega) (kAdd rfl rfl (by omega) (kMovC rfl (kMul rfl rfl (by omega) (kAdd rfl rfl (by omega) (kMovC rfl (kAdd rfl rfl (by omega) (kMovC rfl (kRem rfl rfl (by omega) (kMovC rfl (kDone (kRet (endRetA (ra := [.one (.d _)]) rfl ?_))))))))))))))))))))))))))))))))))))))))))))))))))))))))))))))))))
  · exact ⟨(0, c), ⟨Int.le_refl _, .inr rfl⟩, rfl, rfl⟩
  · have := tmod_in (a := x2.1) (n := n) hx2.1 (by omega)
    exact ⟨(x2.1.tmod n, x2.2), ⟨this.1, .inl this.2⟩, rfl, rfl⟩
  · have := tmod_in (a := x3.1 * 16777216 + x4.1 * 65536 + x5.1 * 256 + x6.1) (n := n) (by omega) (by omega)
    exact ⟨(_, x6.2), ⟨this.1, .inl this.2⟩, rfl, rfl⟩

def c_spec_l1PickInt : C := (.seq (.reg false (.op 0 [] (some 4) none false (.mov (.v (.int .i64 0)))
  .done))
 (.seq (.reg false (.op 0 [] (some 5) none false (.mov (.t 1))
  (.op 1 [] (some 6) none false (.mov (.t 0))
  (.op 2 [] (some 7) none false (.mov (.t 1))
  (.op 3 [] (some 8) none false (.len (.t 7))
  (.op 4 [] (some 9) none false (.call 9 205 [(.t 6), (.t 8)])
  (.op 5 [] (some 10) none false (.iad 1 (.t 5) (.t 9))
  (.op 6 [] (some 11) none false (.load none (.t 10))
  (.op 7 [] (some 4) none false (.mov (.t 11))
  .done)))))))))
 .ret))
theorem dg_spec_l1PickInt : Tryz.f252.body.bind (digC Tryz.prog Tryz.f252.ntmps []) = some c_spec_l1PickInt := by kernel_rfl
theorem rs_spec_l1PickInt : resSlots Tryz.prog Tryz.f252 = some [.s 4] := by kernel_rfl
theorem ok_spec_l1PickInt (c : Cu) (xs : List (List DV)) {l : List Int} (hx : intsOf xs = some l) (h0 : 0 < l.length) (h1 : l.length ≤ 1000000) :
    FnOK Tryz.prog 252 [.one (.box c.cells), .one (.d (.sl 1 xs))] (fun ra os => ∃ x : Int × Cu, (x.1 ∈ l) ∧ ra = [.one (.d (.sc (.int .i64 x.1)))] ∧ os.b 0 = x.2.cells) := by
  rw [intsOf_eq hx]
  refine FnOK.ofK Tryz.func252 (by kernel_rfl) dg_spec_l1PickInt rs_spec_l1PickInt rfl rfl ?_
  unfold c_spec_l1PickInt
  refine kSeq (kReg (kMovC rfl (kDone (kSeq (kReg (kMovC rfl (kMovC rfl (kMovC rfl (kLenR rfl rfl (kCallE (ok_spec_l1Below _ _) ⟨⟨rfl, _, rfl, rfl⟩, rfl, trivial⟩ rfl rfl rfl (fun _ => rfl) (fun x0 hx0 => (kIadT rfl rfl (by omega) (kLoadD rfl rfl (kMovC rfl (kDone (kRet (endRetA (ra := [.one (.d _)]) rfl ?_)))))))))))))))))
  exact ⟨(_, x0.2), List.getElem_mem _, rfl, rfl⟩

def c_spec_TypeOk : C := (.seq (.reg false (.op 0 [] (some 2) none false (.mov (.v (.bool false)))
  .done))
 (.seq (.seq (.reg false (.op 0 [] (some 3) none false (.mov (.t 0))
  .done))
 (.block 0 (.seq (.seq (.reg false (.op 0 [] (some 5) none false (.bin .eql (.t 3) (.v (.int .i64 1)))
  (.op 1 [] (some 4) none false (.mov (.t 5))
  .done)))
 (.cond (.t 4)
 .skip
 (.seq (.reg false (.op 0 [] (some 6) none false (.bin .eql (.t 3) (.v (.int .i64 2)))
  (.op 1 [] (some 4) none false (.mov (.t 6))
  .done)))
 (.cond (.t 4)
 .skip
 (.seq (.reg false (.op 0 [] (some 7) none false (.bin .eql (.t 3) (.v (.int .i64 5)))
  (.op 1 [] (some 4) none false (.mov (.t 7))
  .done)))
 (.cond (.t 4)
 .skip
 (.seq (.reg false (.op 0 [] (some 8) none false (.bin .eql (.t 3) (.v (.int .i64 6)))
  (.op 1 [] (some 4) none false (.mov (.t 8))
  .done)))
 (.cond (.t 4)
 .skip
 (.seq (.reg false (.op 0 [] (some 9) none false (.bin .eql (.t 3) (.v (.int .i64 12)))
  (.op 1 [] (some 4) none false (.mov (.t 9))
  .done)))
 (.cond (.t 4)
 .skip
 (.seq (.reg false (.op 0 [] (some 10) none false (.bin .eql (.t 3) (.v (.int .i64 16)))
  (.op 1 [] (some 4) none false (.mov (.t 10))
  .done)))
 (.cond (.t 4)
 .skip
 (.reg false (.op 0 [] (some 11) none false (.bin .eql (.t 3) (.v (.int .i64 49)))
  (.op 1 [] (some 4) none false (.mov (.t 11))
  .done)))))))))))))))
 (.cond (.t 4)
 (.seq (.reg false (.op 0 [] (some 2) none false (.mov (.v (.bool true)))
  .done))
 .ret)
 .skip))))
 (.seq (.reg false (.op 0 [] (some 2) none false (.mov (.v (.bool false)))
  .done))
 .ret)))
theorem dg_spec_TypeOk : Tryz.f152.body.bind (digC Tryz.prog Tryz.f152.ntmps []) = some c_spec_TypeOk := by kernel_rfl
theorem rs_spec_TypeOk : resSlots Tryz.prog Tryz.f152 = some [.s 2] := by kernel_rfl
theorem ok_spec_TypeOk (n : Int) : FnOK Tryz.prog 152 [.one (.d (.sc (.int .i64 n)))] (fun ra _ => ra = [.one (.d (.sc (.bool (tyOk n))))]) := by
  refine FnOK.ofK Tryz.func152 (by kernel_rfl) dg_spec_TypeOk rs_spec_TypeOk rfl rfl ?_
  unfold c_spec_TypeOk
  refine kSeq (kReg (kMovC rfl (kDone (kSeq (kSeq (kReg (kMovC rfl (kDone (kBlock (kSeq (kSeq (kReg (kBin rfl rfl rfl (kMovC rfl (kDone (kCondP rfl (fun g0 => kSkip (kCondP rfl (fun g1 => kSeq (kReg (kMovC rfl (kDone (kRet (endRetA (ra := [.one (.d _)]) rfl ?_)))))) (fun g1 => (by omega)))) (fun g0 => kSeq (kReg (kBin rfl rfl rfl (kMovC rfl (kDone (kCondP rfl (fun g2 => kSkip (kCondP rfl (fun g3 => kSeq (kReg (kMovC rfl (kDone (kRet (endRetA (ra := [.one (.d _)]) rfl ?_)))))) (fun g3 => (by omega)))) (fun g2 => kSeq (kReg (kBin rfl rfl rfl (kMovC rfl (kDone (kCondP rfl (fun g4 => kSkip (kCondP rfl (fun g5 => kSeq (kReg (kMovC rfl (kDone (kRet (endRetA (ra := [.one (.d _)]) rfl ?_)))))) (fun g5 => (by omega)))) (fun g4 => kSeq (kReg (kBin rfl rfl rfl (kMovC rfl (kDone (kCondP rfl (fun g6 => kSkip (kCondP rfl (fun g7 => kSeq (kReg (kMovC rfl (kDone (kRet (endRetA (ra := [.one (.d _)]) rfl ?_)))))) (fun g7 => (by omega)))) (fun g6 => kSeq (kReg (kBin rfl rfl rfl (kMovC rfl (kDone (kCondP rfl (fun g8 => kSkip (kCondP rfl (fun g9 => kSeq (kReg (kMovC rfl (kDone (kRet (endRetA (ra := [.one (.d _)]) rfl ?_)))))) (fun g9 => (by omega)))) (fun g8 => kSeq (kReg (kBin rfl rfl rfl (kMovC rfl (kDone (kCondP rfl (fun g10 => kSkip (kCondP rfl (fun g11 => kSeq (kReg (kMovC rfl (kDone (kRet (endRetA (ra := [.one (.d _)]) rfl ?_)))))) (fun g11 => (by omega)))) (fun g10 => kReg (kBin rfl rfl rfl (kMovC rfl (kDone (kCondP rfl (fun g12 => kSeq (kReg (kMovC rfl (kDone (kRet (endRetA (ra := [.one (.d _)]) rfl ?_)))))) (fun g12 => kSkip (kBk (kSeq (kReg (kMovC rfl (kDone (kRet (endRetA (ra := [.one (.d _)]) rfl ?_)))))))))))))))))))))))))))))))))))))))))))))))))))))))))))
  all_goals simp_all [tyOk]

def c_spec_l3named : C := (.seq (.reg false (.op 0 [] (some 2) none false (.mov (.v (.bool false)))
  .done))
 (.seq (.reg false (.op 0 [] (some 3) none false (.mov (.t 0))
  (.op 1 [] (some 4) none false (.bin .eql (.t 3) (.v (.int .i64 2)))
  (.op 2 [] (some 5) none false (.mov (.t 4))
  (.op 3 [] (some 6) (some (5, false)) false (.mov (.t 0))
  (.op 4 [] (some 7) (some (5, false)) false (.bin .eql (.t 6) (.v (.int .i64 5)))
  (.op 5 [] (some 8) none false (.pick (.t 5) (.v (.bool true)) (.t 7))
  (.op 6 [] (some 9) none false (.mov (.t 8))
  (.op 7 [] (some 10) (some (9, false)) false (.mov (.t 0))
  (.op 8 [] (some 11) (some (9, false)) false (.bin .eql (.t 10) (.v (.int .i64 6)))
  (.op 9 [] (some 12) none false (.pick (.t 9) (.v (.bool true)) (.t 11))
  (.op 10 [] (some 13) none false (.mov (.t 12))
  (.op 11 [] (some 14) (some (13, false)) false (.mov (.t 0))
  (.op 12 [] (some 15) (some (13, false)) false (.bin .eql (.t 14) (.v (.int .i64 12)))
  (.op 13 [] (some 16) none false (.pick (.t 13) (.v (.bool true)) (.t 15))
  (.op 14 [] (some 2) none false (.mov (.t 16))
  .done))))))))))))))))
 .ret))
theorem dg_spec_l3named : Tryz.f257.body.bind (digC Tryz.prog Tryz.f257.ntmps []) = some c_spec_l3named := by kernel_rfl
theorem rs_spec_l3named : resSlots Tryz.prog Tryz.f257 = some [.s 2] := by kernel_rfl
theorem ok_spec_l3named (n : Int) : FnOK Tryz.prog 257 [.one (.d (.sc (.int .i64 n)))] (fun ra _ => ra = [.one (.d (.sc (.bool (hasTo n))))]) := by
  refine FnOK.ofK Tryz.func257 (by kernel_rfl) dg_spec_l3named rs_spec_l3named rfl rfl ?_
  unfold c_spec_l3named
  refine kSeq (kReg (kMovC rfl (kDone (kSeq (kReg (kMovC rfl (kBin rfl rfl rfl (kMovC rfl (kGP rfl (fun g0 => kGF rfl (kGF rfl (kPickT rfl (kMovC rfl (kMovC rfl (kGF rfl (kGF rfl (kPickT rfl (kMovC rfl (kMovC rfl (kGF rfl (kGF rfl (kPickT rfl (kMovC rfl (kMovC rfl (kDone (kRet (endRetA (ra := [.one (.d _)]) rfl ?_)))))))))))))))))) (fun g0 => kGT rfl (kMovC rfl (kGT rfl (kBin rfl rfl rfl (kPickF rfl (kMovC rfl (kMovC rfl (kGP rfl (fun g1 => kGF rfl (kGF rfl (kPickT rfl (kMovC rfl (kMovC rfl (kGF rfl (kGF rfl (kPickT rfl (kMovC rfl (kMovC rfl (kDone (kRet (endRetA (ra := [.one (.d _)]) rfl ?_))))))))))))) (fun g1 => kGT rfl (kMovC rfl (kGT rfl (kBin rfl rfl rfl (kPickF rfl (kMovC rfl (kMovC rfl (kGP rfl (fun g2 => kGF rfl (kGF rfl (kPickT rfl (kMovC rfl (kMovC rfl (kDone (kRet (endRetA (ra := [.one (.d _)]) rfl ?_)))))))) (fun g2 => kGT rfl (kMovC rfl (kGT rfl (kBin rfl rfl rfl (kPickF rfl (kMovC rfl (kMovC rfl (kDone (kRet (endRetA (ra := [.one (.d _)]) rfl ?_)))))))))))))))))))))))))))))))))))
  all_goals simp_all [hasTo]

def c_spec_l3texted : C := (.seq (.reg false (.op 0 [] (some 2) none false (.mov (.v (.bool false)))
  .done))
 (.seq (.reg false (.op 0 [] (some 3) none false (.mov (.t 0))
  (.op 1 [] (some 4) none false (.bin .eql (.t 3) (.v (.int .i64 16)))
  (.op 2 [] (some 5) none false (.mov (.t 4))
  (.op 3 [] (some 6) (some (5, false)) false (.mov (.t 0))
  (.op 4 [] (some 7) (some (5, false)) false (.bin .eql (.t 6) (.v (.int .i64 49)))
  (.op 5 [] (some 8) none false (.pick (.t 5) (.v (.bool true)) (.t 7))
  (.op 6 [] (some 2) none false (.mov (.t 8))
  .done))))))))
 .ret))
theorem dg_spec_l3texted : Tryz.f258.body.bind (digC Tryz.prog Tryz.f258.ntmps []) = some c_spec_l3texted := by kernel_rfl
theorem rs_spec_l3texted : resSlots Tryz.prog Tryz.f258 = some [.s 2] := by kernel_rfl
theorem ok_spec_l3texted (n : Int) : FnOK Tryz.prog 258 [.one (.d (.sc (.int .i64 n)))] (fun ra _ => ra = [.one (.d (.sc (.bool (hasText n))))]) := by
  refine FnOK.ofK Tryz.func258 (by kernel_rfl) dg_spec_l3texted rs_spec_l3texted rfl rfl ?_
  unfold c_spec_l3texted
  refine kSeq (kReg (kMovC rfl (kDone (kSeq (kReg (kMovC rfl (kBin rfl rfl rfl (kMovC rfl (kGP rfl (fun g0 => kGF rfl (kGF rfl (kPickT rfl (kMovC rfl (kMovC rfl (kDone (kRet (endRetA (ra := [.one (.d _)]) rfl ?_)))))))) (fun g0 => kGT rfl (kMovC rfl (kGT rfl (kBin rfl rfl rfl (kPickF rfl (kMovC rfl (kMovC rfl (kDone (kRet (endRetA (ra := [.one (.d _)]) rfl ?_)))))))))))))))))))
  all_goals simp_all [hasText]

def c_spec_l3data : C := (.seq (.reg false (.op 0 [] (some 1) none false (.box 1 (.t 0))
  (.op 1 [] (some 2) none false (.mov (.v (.bool false)))
  .done)))
 (.seq (.seq (.reg false (.op 0 [] (some 3) none false (.fad (.t 1) 1)
  (.op 1 [] (some 4) none false (.load none (.t 3))
  (.op 2 [] (some 5) none false (.bin .eql (.t 4) (.v (.int .i64 1)))
  .done))))
 (.cond (.t 5)
 (.seq (.reg false (.op 0 [] (some 6) none false (.fad (.t 1) 3)
  (.op 1 [] (some 7) none false (.load none (.t 6))
  (.op 2 [] (some 8) none false (.bin .lss (.t 7) (.v (.int .i64 0)))
  (.op 3 [] (some 9) none false (.mov (.t 8))
  (.op 4 [] (some 10) (some (9, false)) false (.fad (.t 1) 3)
  (.op 5 [] (some 11) (some (9, false)) false (.load none (.t 10))
  (.op 6 [] (some 12) (some (9, false)) false (.bin .geq (.t 11) (.v (.int .i64 4294967296)))
  (.op 7 [] (some 13) none false (.pick (.t 9) (.v (.bool true)) (.t 12))
  .done)))))))))
 (.cond (.t 13)
 (.seq (.reg false (.op 0 [] (some 2) none false (.mov (.v (.bool false)))
  .done))
 .ret)
 .skip))
 (.seq (.reg false (.op 0 [] (some 14) none false (.fad (.t 1) 3)
  (.op 1 [] (some 15) none false (.load none (.t 14))
  (.op 2 [] (some 16) none false (.bin .neq (.t 15) (.v (.int .i64 0)))
  .done))))
 (.cond (.t 16)
 (.seq (.reg false (.op 0 [] (some 2) none false (.mov (.v (.bool false)))
  .done))
 .ret)
 .skip))))
 (.seq (.seq (.reg false (.op 0 [] (some 17) none false (.fad (.t 1) 1)
  (.op 1 [] (some 18) none false (.load none (.t 17))
  (.op 2 [] (some 19) none false (.call 19 257 [(.t 18)])
  .done))))
 (.cond (.t 19)
 (.seq (.reg false (.op 0 [] (some 20) none false (.fad (.t 1) 4)
  (.op 1 [] (some 21) none false (.load (some 1) (.t 20))
  (.op 2 [] (some 22) none false (.call 22 15 [(.t 21)])
  (.op 3 [] (some 23) none false (.un .not (.t 22))
  .done)))))
 (.cond (.t 23)
 (.seq (.reg false (.op 0 [] (some 2) none false (.mov (.v (.bool false)))
  .done))
 .ret)
 .skip))
 (.seq (.reg false (.op 0 [] (some 24) none false (.fad (.t 1) 4)
  (.op 1 [] (some 25) none false (.fad (.t 24) 0)
  (.op 2 [] (some 26) none false (.load none (.t 25))
  (.op 3 [] (some 27) none false (.len (.t 26))
  (.op 4 [] (some 28) none false (.bin .gtr (.t 27) (.v (.int .i64 0)))
  .done))))))
 (.cond (.t 28)
 (.seq (.reg false (.op 0 [] (some 2) none false (.mov (.v (.bool false)))
  .done))
 .ret)
 .skip))))
 (.seq (.seq (.reg false (.op 0 [] (some 29) none false (.fad (.t 1) 1)
  (.op 1 [] (some 30) none false (.load none (.t 29))
  (.op 2 [] (some 31) none false (.call 31 258 [(.t 30)])
  .done))))
 (.cond (.t 31)
 (.seq (.reg false (.op 0 [] (some 32) none false (.fad (.t 1) 5)
  (.op 1 [] (some 33) none false (.load none (.t 32))
  (.op 2 [] (some 34) none false (.len (.t 33))
  (.op 3 [] (some 35) none false (.bin .gtr (.t 34) (.v (.int .i64 40)))
  .done)))))
 (.cond (.t 35)
 (.seq (.reg false (.op 0 [] (some 2) none false (.mov (.v (.bool false)))
  .done))
 .ret)
 .skip))
 (.seq (.reg false (.op 0 [] (some 36) none false (.fad (.t 1) 5)
  (.op 1 [] (some 37) none false (.load none (.t 36))
  (.op 2 [] (some 38) none false (.len (.t 37))
  (.op 3 [] (some 39) none false (.bin .gtr (.t 38) (.v (.int .i64 0)))
  .done)))))
 (.cond (.t 39)
 (.seq (.reg false (.op 0 [] (some 2) none false (.mov (.v (.bool false)))
  .done))
 .ret)
 .skip))))
 (.seq (.seq (.reg false (.op 0 [] (some 40) none false (.fad (.t 1) 1)
  (.op 1 [] (some 41) none false (.load none (.t 40))
  (.op 2 [] (some 42) none false (.bin .neq (.t 41) (.v (.int .i64 6)))
  .done))))
 (.cond (.t 42)
 (.seq (.reg false (.op 0 [] (some 43) none false (.fad (.t 1) 6)
  (.op 1 [] (some 44) none false (.load none (.t 43))
  (.op 2 [] (some 45) none false (.len (.t 44))
  (.op 3 [] (some 46) none false (.bin .eql (.t 45) (.v (.int .i64 0)))
  (.op 4 [] (some 2) none false (.mov (.t 46))
  .done))))))
 .ret)
 .skip))
 (.seq (.seq (.reg false (.op 0 [] (some 47) none false (.fad (.t 1) 6)
  (.op 1 [] (some 48) none false (.load none (.t 47))
  (.op 2 [] (some 49) none false (.len (.t 48))
  (.op 3 [] (some 50) none false (.bin .neq (.t 49) (.v (.int .i64 2)))
  (.op 4 [] (some 51) none false (.mov (.t 50))
  (.op 5 [] (some 52) (some (51, false)) false (.fad (.t 1) 6)
  (.op 6 [] (some 53) (some (51, false)) false (.load none (.t 52))
  (.op 7 [] (some 54) (some (51, false)) false (.iad 1 (.t 53) (.v (.int .i64 0)))
  (.op 8 [] (some 55) (some (51, false)) false (.load none (.t 54))
  (.op 9 [] (some 56) (some (51, false)) false (.bin .lss (.t 55) (.v (.int .i64 0)))
  (.op 10 [] (some 57) none false (.pick (.t 51) (.v (.bool true)) (.t 56))
  (.op 11 [] (some 58) none false (.mov (.t 57))
  (.op 12 [] (some 59) (some (58, false)) false (.fad (.t 1) 6)
  (.op 13 [] (some 60) (some (58, false)) false (.load none (.t 59))
  (.op 14 [] (some 61) (some (58, false)) false (.iad 1 (.t 60) (.v (.int .i64 0)))
  (.op 15 [] (some 62) (some (58, false)) false (.load none (.t 61))
  (.op 16 [] (some 63) (some (58, false)) false (.bin .geq (.t 62) (.v (.int .i64 4294967296)))
  (.op 17 [] (some 64) none false (.pick (.t 58) (.v (.bool true)) (.t 63))
  .done)))))))))))))))))))
 (.cond (.t 64)
 (.seq (.reg false (.op 0 [] (some 2) none false (.mov (.v (.bool false)))
  .done))
 .ret)
 .skip))
 (.seq (.reg false (.op 0 [] (some 65) none false (.fad (.t 1) 6)
  (.op 1 [] (some 66) none false (.load none (.t 65))
  (.op 2 [] (some 67) none false (.iad 1 (.t 66) (.v (.int .i64 1)))
  (.op 3 [] (some 68) none false (.load none (.t 67))
  (.op 4 [] (some 69) none false (.bin .geq (.t 68) (.v (.int .i64 0)))
  (.op 5 [] (some 70) none false (.mov (.t 69))
  (.op 6 [] (some 71) (some (70, true)) false (.fad (.t 1) 6)
  (.op 7 [] (some 72) (some (70, true)) false (.load none (.t 71))
  (.op 8 [] (some 73) (some (70, true)) false (.iad 1 (.t 72) (.v (.int .i64 1)))
  (.op 9 [] (some 74) (some (70, true)) false (.load none (.t 73))
  (.op 10 [] (some 75) (some (70, true)) false (.bin .leq (.t 74) (.v (.int .i64 100000)))
  (.op 11 [] (some 76) none false (.pick (.t 70) (.t 75) (.v (.bool false)))
  (.op 12 [] (some 2) none false (.mov (.t 76))
  .done))))))))))))))
 .ret)))))))
theorem dg_spec_l3data : Tryz.f182.body.bind (digC Tryz.prog Tryz.f182.ntmps []) = some c_spec_l3data := by kernel_rfl
theorem rs_spec_l3data : resSlots Tryz.prog Tryz.f182 = some [.s 2] := by kernel_rfl
theorem ok_spec_l3data (r : Rr) (hs : SmallR r) :
    FnOK Tryz.prog 182 [.agg (r.cells.map .d)] (fun ra _ => ra = [.one (.d (.sc (.bool (dataOk r))))]) := by
  refine FnOK.ofK Tryz.func182 (by kernel_rfl) dg_spec_l3data rs_spec_l3data rfl rfl ?_
  unfold c_spec_l3data
  have t1 := hs.t.len
  have t2 := hs.t.mem
  have x1 := hs.x
  have m1 := hs.m
  refine kSeq (kReg (kBox rfl rfl rfl rfl rfl (kMovC rfl (kDone ?_))))
  by_cases hA : (r.ty = 1 ∧ 0 ≤ r.addr ∧ r.addr < 4294967296) ∨ (r.ty ≠ 1 ∧ r.addr = 0)
  case neg =>
    have e : (if r.ty == 1 then isW r.addr else r.addr == 0) = false := by
      by_cases h : r.ty = 1
      · simp [h, isW]; omega
      · simp [h]; omega
    rw [show dataOk r = false by simp only [dataOk, e, Bool.and_false, Bool.false_and]]
    refine kSeq ?_
    refine kSeq (kReg (kFadP rfl rfl (kLoadP rfl rfl rfl (kBin rfl rfl rfl (kDone (kCondP rfl (fun g0 => kSeq (kReg (kFadP rfl rfl (kLoadP rfl rfl rfl (kBin rfl rfl rfl (kMovC rfl (kGP rfl (fun g1 => kGF rfl (kGF rfl (kGF rfl (kPickT rfl (kMovC rfl (kDone (kCondT rfl (kSeq (kReg (kMovC rfl (kDone (kRet (endRetA (ra := [.one (.d _)]) rfl rfl))))))))))))) (fun g1 => kGT rfl (kFadP rfl rfl (kGT rfl (kLoadP rfl rfl rfl (kGT rfl (kBin rfl rfl rfl (kPickF rfl (kMovC rfl (kDone (kCondP rfl (fun g2 => kSeq (kReg (kMovC rfl (kDone (kRet (endRetA (ra := [.one (.d _)]) rfl rfl)))))) (fun g2 => (by omega))))))))))))))))))) (fun g0 => kSeq (kReg (kFadP rfl rfl (kLoadP rfl rfl rfl (kBin rfl rfl rfl (kDone (kCondIN rfl (fun g3 => kSeq (kReg (kMovC rfl (kDone (kRet (endRetA (ra := [.one (.d _)]) rfl rfl)))))) (fun g3 => (by omega)))))))))))))))
  have eA : (if r.ty == 1 then isW r.addr else r.addr == 0) = true := by
    rcases hA with ⟨h, _, _⟩ | ⟨h, h'⟩
    · simp [h, isW]; omega
    · simp [h, h']
  refine kSeq (kCut ⟨tabSl [(1, .c (.ptr (rid 1 0) 1 0))], obTab 1 [(rid 1 0, ⟨1, 0, .box (r.cells.map .d)⟩)], []⟩ ?_ (fun x hc => ?_))
  case refine_2 =>
    refine kSeq (kReg (kFadP rfl rfl (kLoadP rfl rfl rfl (kBin rfl rfl rfl (kDone (kCondP rfl (fun g0 => kSeq (kReg (kFadP rfl rfl (kLoadP rfl rfl rfl (kBin rfl rfl rfl (kMovC rfl (kGP rfl (fun g1 => (by omega)) (fun g1 => kGT rfl (kFadP rfl rfl (kGT rfl (kLoadP rfl rfl rfl (kGT rfl (kBin rfl rfl rfl (kPickF rfl (kMovC rfl (kDone (kCondP rfl (fun g2 => (by omega)) (fun g2 => kSkip (hc _ .normA))))))))))))))))))) (fun g0 => kSeq (kReg (kFadP rfl rfl (kLoadP rfl rfl rfl (kBin rfl rfl rfl (kDone (kCondIN rfl (fun g3 => (by omega)) (fun g3 => kSkip (hc _ .normA)))))))))))))))
  by_cases eB : (if hasTo r.ty then nameOk r.to else ((r.to.length : Int) == 0)) = true
  case neg =>
    rw [show dataOk r = false by simp only [dataOk, Bool.eq_false_iff.2 eB, Bool.and_false, Bool.false_and]]
    refine kSeq ?_
    cases hT : hasTo r.ty
    case false =>
      have hN : ¬ (r.to.length : Int) = 0 := by simpa [hT] using eB
      have hN' : ¬ r.to.length = 0 := by omega
      refine kSeq (kReg (kFadP rfl rfl (kLoadP rfl rfl rfl (kCallD (ok_spec_l3named _) ⟨rfl, trivial⟩ rfl rfl rfl rfl rfl (kDone (kCond rfl (fun g0 => (by (simp [*] at g0))) (fun g0 => kSeq (kReg (kFadP rfl rfl (kFadP rfl rfl (kLoadP rfl rfl rfl (kLenR rfl rfl (kBin rfl rfl rfl (kDone (kCondP rfl (fun g1 => kSeq (kReg (kMovC rfl (kDone (kRet (endRetA (ra := [.one (.d _)]) rfl rfl)))))) (fun g1 => (by omega)))))))))))))))))
    case true =>
      have hN : nameOk r.to = false := by simpa [hT] using eB
      refine kSeq (kReg (kFadP rfl rfl (kLoadP rfl rfl rfl (kCallD (ok_spec_l3named _) ⟨rfl, trivial⟩ rfl rfl rfl rfl rfl (kDone (kCond rfl (fun g0 => kSeq (kReg (kFadP rfl rfl (kLoadP rfl rfl rfl (kCallD (ok_spec_NameOk _ (by first | assumption | omega | solve_by_elim [List.getElem_mem] | (simp only [szOut] at *; omega)) (by first | assumption | omega | solve_by_elim [List.getElem_mem] | (simp only [szOut] at *; omega))) ⟨⟨⟨rfl, trivial⟩, Nat.le_of_ble_eq_true rfl⟩, trivial⟩ rfl rfl rfl rfl rfl (kUn rfl rfl (kDone (kCondN rfl (fun g1 => kSeq (kReg (kMovC rfl (kDone (kRet (endRetA (ra := [.one (.d _)]) rfl rfl)))))) (fun g1 => (by (simp [*] at g1))))))))))) (fun g0 => (by (simp [*] at g0)))))))))
  refine kSeq (kCut ⟨tabSl [(1, .c (.ptr (rid 1 0) 1 0))], obTab 1 [(rid 1 0, ⟨1, 0, .box (r.cells.map .d)⟩)], []⟩ ?_ (fun x hc => ?_))
  case refine_2 =>
    cases hT : hasTo r.ty
    case false =>
      have hN : (r.to.length : Int) = 0 := by rw [hT] at eB; simpa using eB
      have hN' : r.to.length = 0 := by omega
      clear hN
      refine kSeq (kReg (kFadP rfl rfl (kLoadP rfl rfl rfl (kCallD (ok_spec_l3named _) ⟨rfl, trivial⟩ rfl rfl rfl rfl rfl (kDone (kCond rfl (fun g0 => (by (simp [*] at g0))) (fun g0 => kSeq (kReg (kFadP rfl rfl (kFadP rfl rfl (kLoadP rfl rfl rfl (kLenR rfl rfl (kBin rfl rfl rfl (kDone (kCondP rfl (fun g1 => (by omega)) (fun g1 => kSkip (hc _ .normA)))))))))))))))))
    case true =>
      have hN : nameOk r.to = true := by simpa [hT] using eB
      refine kSeq (kReg (kFadP rfl rfl (kLoadP rfl rfl rfl (kCallD (ok_spec_l3named _) ⟨rfl, trivial⟩ rfl rfl rfl rfl rfl (kDone (kCond rfl (fun g0 => kSeq (kReg (kFadP rfl rfl (kLoadP rfl rfl rfl (kCallD (ok_spec_NameOk _ (by first | assumption | omega | solve_by_elim [List.getElem_mem] | (simp only [szOut] at *; omega)) (by first | assumption | omega | solve_by_elim [List.getElem_mem] | (simp only [szOut] at *; omega))) ⟨⟨⟨rfl, trivial⟩, Nat.le_of_ble_eq_true rfl⟩, trivial⟩ rfl rfl rfl rfl rfl (kUn rfl rfl (kDone (kCondN rfl (fun g1 => (by (simp [*] at g1))) (fun g1 => kSkip (hc _ .normA)))))))))) (fun g0 => (by (simp [*] at g0)))))))))
  by_cases eC : (if hasText r.ty then decide ((r.text.length : Int) ≤ 40) else ((r.text.length : Int) == 0)) = true
  case neg =>
    rw [show dataOk r = false by simp only [dataOk, Bool.eq_false_iff.2 eC, Bool.and_false]]
    refine kSeq ?_
    cases hT : hasText r.ty
    case false =>
      have hN' : ¬ r.text.length = 0 := by rw [hT] at eC; simp at eC; simpa using eC
      refine kSeq (kReg (kFadP rfl rfl (kLoadP rfl rfl rfl (kCallD (ok_spec_l3texted _) ⟨rfl, trivial⟩ rfl rfl rfl rfl rfl (kDone (kCond rfl (fun g0 => (by (simp [*] at g0))) (fun g0 => kSeq (kReg (kFadP rfl rfl (kLoadP rfl rfl rfl (kLenR rfl rfl (kBin rfl rfl rfl (kDone (kCondP rfl (fun g1 => kSeq (kReg (kMovC rfl (kDone (kRet (endRetA (ra := [.one (.d _)]) rfl rfl)))))) (fun g1 => (by omega))))))))))))))))
    case true =>
      have hN' : ¬ r.text.length ≤ 40 := by rw [hT] at eC; simp at eC; omega
      refine kSeq (kReg (kFadP rfl rfl (kLoadP rfl rfl rfl (kCallD (ok_spec_l3texted _) ⟨rfl, trivial⟩ rfl rfl rfl rfl rfl (kDone (kCond rfl (fun g0 => kSeq (kReg (kFadP rfl rfl (kLoadP rfl rfl rfl (kLenR rfl rfl (kBin rfl rfl rfl (kDone (kCondP rfl (fun g1 => kSeq (kReg (kMovC rfl (kDone (kRet (endRetA (ra := [.one (.d _)]) rfl rfl)))))) (fun g1 => (by omega)))))))))) (fun g0 => (by (simp [*] at g0)))))))))
  refine kSeq (kCut ⟨tabSl [(1, .c (.ptr (rid 1 0) 1 0))], obTab 1 [(rid 1 0, ⟨1, 0, .box (r.cells.map .d)⟩)], []⟩ ?_ (fun x hc => ?_))
  case refine_2 =>
    cases hT : hasText r.ty
    case false =>
      have hN' : r.text.length = 0 := by rw [hT] at eC; simp at eC; rw [eC]; rfl
      refine kSeq (kReg (kFadP rfl rfl (kLoadP rfl rfl rfl (kCallD (ok_spec_l3texted _) ⟨rfl, trivial⟩ rfl rfl rfl rfl rfl (kDone (kCond rfl (fun g0 => (by (simp [*] at g0))) (fun g0 => kSeq (kReg (kFadP rfl rfl (kLoadP rfl rfl rfl (kLenR rfl rfl (kBin rfl rfl rfl (kDone (kCondP rfl (fun g1 => (by omega)) (fun g1 => kSkip (hc _ .normA))))))))))))))))
    case true =>
      have hN' : r.text.length ≤ 40 := by rw [hT] at eC; simp at eC; omega
      refine kSeq (kReg (kFadP rfl rfl (kLoadP rfl rfl rfl (kCallD (ok_spec_l3texted _) ⟨rfl, trivial⟩ rfl rfl rfl rfl rfl (kDone (kCond rfl (fun g0 => kSeq (kReg (kFadP rfl rfl (kLoadP rfl rfl rfl (kLenR rfl rfl (kBin rfl rfl rfl (kDone (kCondP rfl (fun g1 => (by omega)) (fun g1 => kSkip (hc _ .normA)))))))))) (fun g0 => (by (simp [*] at g0)))))))))
  rw [show dataOk r = (if r.ty == 6 then numsOk r.nums else ((r.nums.length : Int) == 0)) by simp only [dataOk, eA, eB, eC, Bool.and_true]]
  clear eA eB eC hA
  refine kSeq (kSeq (kReg (kFadP rfl rfl (kLoadP rfl rfl rfl (kBin rfl rfl rfl (kDone (kCondIN rfl (fun g0 => kSeq (kReg (kFadP rfl rfl (kLoadP rfl rfl rfl (kLenR rfl rfl (kBin rfl rfl rfl (kMovC rfl (kDone (kRet (endRetA (ra := [.one (.d _)]) rfl ?_)))))))))) (fun g0 => kSkip (kSeq (kSeq (kReg (kFadP rfl rfl (kLoadP rfl rfl rfl (kLenR rfl rfl (kBin rfl rfl rfl (kMovC rfl (kGIN rfl (fun g1 => kGF rfl (kGF rfl (kGF rfl (kGF rfl (kGF rfl (kPickT rfl (kMovC rfl (kMovC rfl (kGF rfl (kGF rfl (kGF rfl (kGF rfl (kGF rfl (kPickT rfl (kMovC rfl (kDone (kCondT rfl (kSeq (kReg (kMovC rfl (kDone (kRet (endRetA (ra := [.one (.d _)]) rfl ?_))))))))))))))))))))))) (fun g1 => kGT rfl (kFadP rfl rfl (kGT rfl (kLoadP rfl rfl rfl (kGT rfl (kIadR (m := 0) rfl rfl rfl (by omega) (kGT rfl (kLoadD rfl rfl (kGT rfl (kBin rfl rfl rfl (kPickF rfl (kMovC rfl (kMovC rfl (kGP rfl (fun g2 => kGF rfl (kGF rfl (kGF rfl (kGF rfl (kGF rfl (kPickT rfl (kMovC rfl (kDone (kCondT rfl (kSeq (kReg (kMovC rfl (kDone (kRet (endRetA (ra := [.one (.d _)]) rfl ?_))))))))))))))) (fun g2 => kGT rfl (kFadP rfl rfl (kGT rfl (kLoadP rfl rfl rfl (kGT rfl (kIadR (m := 0) rfl rfl rfl (by omega) (kGT rfl (kLoadD rfl rfl (kGT rfl (kBin rfl rfl rfl (kPickF rfl (kMovC rfl (kDone (kCondP rfl (fun g3 => kSeq (kReg (kMovC rfl (kDone (kRet (endRetA (ra := [.one (.d _)]) rfl ?_)))))) (fun g3 => kSkip (kSeq (kReg (kFadP rfl rfl (kLoadP rfl rfl rfl (kIadR (m := 1) rfl rfl rfl (by omega) (kLoadD rfl rfl (kBin rfl rfl rfl (kMovC rfl (kGP rfl (fun g4 => kGT rfl (kFadP rfl rfl (kGT rfl (kLoadP rfl rfl rfl (kGT rfl (kIadR (m := 1) rfl rfl rfl (by omega) (kGT rfl (kLoadD rfl rfl (kGT rfl (kBin rfl rfl rfl (kPickT rfl (kMovC rfl (kMovC rfl (kDone (kRet (endRetA (ra := [.one (.d _)]) rfl ?_)))))))))))))))) (fun g4 => kGF rfl (kGF rfl (kGF rfl (kGF rfl (kGF rfl (kPickF rfl (kMovC rfl (kMovC rfl (kDone (kRet (endRetA (ra := [.one (.d _)]) rfl ?_))))))))))))))))))))))))))))))))))))))))))))))))))))))))))))))))))
  all_goals first
    | (simp [*]; done)
    | (rw [if_pos (by simpa using (by assumption : r.ty = 6)), numsOk, dif_pos (by assumption)]
       simp only [isW]
       refine congrArg (fun b : Bool => [RA.one (RV.d (DV.sc (Value.bool b)))]) ?_
       rw [Bool.eq_iff_iff]
       simp
       omega)

def c_spec_RrOk : C := (.seq (.reg false (.op 0 [] (some 1) none false (.box 1 (.t 0))
  (.op 1 [] (some 2) none false (.mov (.v (.bool false)))
  .done)))
 (.seq (.reg false (.op 0 [] (some 3) none false (.fad (.t 1) 0)
  (.op 1 [] (some 4) none false (.load (some 1) (.t 3))
  (.op 2 [] (some 5) none false (.call 5 15 [(.t 4)])
  (.op 3 [] (some 6) none false (.mov (.t 5))
  (.op 4 [] (some 7) (some (6, true)) false (.fad (.t 1) 1)
  (.op 5 [] (some 8) (some (6, true)) false (.load none (.t 7))
  (.op 6 [] (some 9) (some (6, true)) false (.call 9 152 [(.t 8)])
  (.op 7 [] (some 10) none false (.pick (.t 6) (.t 9) (.v (.bool false)))
  (.op 8 [] (some 11) none false (.mov (.t 10))
  (.op 9 [] (some 12) (some (11, true)) false (.fad (.t 1) 2)
  (.op 10 [] (some 13) (some (11, true)) false (.load none (.t 12))
  (.op 11 [] (some 14) (some (11, true)) false (.bin .geq (.t 13) (.v (.int .i64 0)))
  (.op 12 [] (some 15) none false (.pick (.t 11) (.t 14) (.v (.bool false)))
  (.op 13 [] (some 16) none false (.mov (.t 15))
  (.op 14 [] (some 17) (some (16, true)) false (.fad (.t 1) 2)
  (.op 15 [] (some 18) (some (16, true)) false (.load none (.t 17))
  (.op 16 [] (some 19) (some (16, true)) false (.bin .leq (.t 18) (.v (.int .i64 100000)))
  (.op 17 [] (some 20) none false (.pick (.t 16) (.t 19) (.v (.bool false)))
  (.op 18 [] (some 21) none false (.mov (.t 20))
  (.op 19 [] (some 22) (some (21, true)) false (.load (some 7) (.t 1))
  (.op 20 [] (some 23) (some (21, true)) false (.call 23 182 [(.t 22)])
  (.op 21 [] (some 24) none false (.pick (.t 21) (.t 23) (.v (.bool false)))
  (.op 22 [] (some 2) none false (.mov (.t 24))
  .done))))))))))))))))))))))))
 .ret))
theorem dg_spec_RrOk : Tryz.f76.body.bind (digC Tryz.prog Tryz.f76.ntmps []) = some c_spec_RrOk := by kernel_rfl
theorem rs_spec_RrOk : resSlots Tryz.prog Tryz.f76 = some [.s 2] := by kernel_rfl
theorem ok_spec_RrOk (r : Rr) (hs : SmallR r) :
    FnOK Tryz.prog 76 [.agg (r.cells.map .d)] (fun ra _ => ra = [.one (.d (.sc (.bool (rrOk r))))]) := by
  refine FnOK.ofK Tryz.func76 (by kernel_rfl) dg_spec_RrOk rs_spec_RrOk rfl rfl ?_
  unfold c_spec_RrOk
  have n1 := hs.n.len
  have n2 := hs.n.mem
  refine kSeq (kReg (kBox rfl rfl rfl rfl rfl (kMovC rfl (kDone (kSeq (kReg (kFadP rfl rfl (kLoadP rfl rfl rfl (kCallD (ok_spec_NameOk _ (by first | assumption | omega | solve_by_elim [List.getElem_mem] | (simp only [szOut] at *; omega)) (by first | assumption | omega | solve_by_elim [List.getElem_mem] | (simp only [szOut] at *; omega))) ⟨⟨⟨rfl, trivial⟩, Nat.le_of_ble_eq_true rfl⟩, trivial⟩ rfl rfl rfl rfl rfl (kMovC rfl (kGS rfl (fun g0 => kGT rfl (kFadP rfl rfl (kGT rfl (kLoadP rfl rfl rfl (kGT rfl (kCallD (ok_spec_TypeOk _) ⟨rfl, trivial⟩ rfl rfl rfl rfl rfl (kPickT rfl (kMovC rfl (kMovC rfl (kGS rfl (fun g1 => kGT rfl (kFadP rfl rfl (kGT rfl (kLoadP rfl rfl rfl (kGT rfl (kBin rfl rfl rfl (kPickT rfl (kMovC rfl (kMovC rfl (kGP rfl (fun g2 => kGT rfl (kFadP rfl rfl (kGT rfl (kLoadP rfl rfl rfl (kGT rfl (kBin rfl rfl rfl (kPickT rfl (kMovC rfl (kMovC rfl (kGP rfl (fun g3 => kGT rfl (kLoadP rfl rfl rfl (kGT rfl (kCallD (ok_spec_l3data _ (by first | assumption | omega | solve_by_elim [List.getElem_mem] | (simp only [szOut] at *; omega))) ⟨⟨⟨rfl, rfl, rfl, rfl, rfl, rfl, rfl, trivial⟩, Nat.le_of_ble_eq_true rfl⟩, trivial⟩ rfl rfl rfl rfl rfl (kPickT rfl (kMovC rfl (kMovC rfl (kDone (kRet (endRetA (ra := [.one (.d _)]) rfl ?_)))))))))) (fun g3 => kGF rfl (kGF rfl (kPickF rfl (kMovC rfl (kMovC rfl (kDone (kRet (endRetA (ra := [.one (.d _)]) rfl ?_)))))))))))))))))) (fun g2 => kGF rfl (kGF rfl (kGF rfl (kPickF rfl (kMovC rfl (kMovC rfl (kGF rfl (kGF rfl (kPickF rfl (kMovC rfl (kMovC rfl (kDone (kRet (endRetA (ra := [.one (.d _)]) rfl ?_)))))))))))))))))))))))) (fun g1 => kGF rfl (kGF rfl (kGF rfl (kPickF rfl (kMovC rfl (kMovC rfl (kGF rfl (kGF rfl (kGF rfl (kPickF rfl (kMovC rfl (kMovC rfl (kGF rfl (kGF rfl (kPickF rfl (kMovC rfl (kMovC rfl (kDone (kRet (endRetA (ra := [.one (.d _)]) rfl ?_)))))))))))))))))))))))))))))) (fun g0 => kGF rfl (kGF rfl (kGF rfl (kPickF rfl (kMovC rfl (kMovC rfl (kGF rfl (kGF rfl (kGF rfl (kPickF rfl (kMovC rfl (kMovC rfl (kGF rfl (kGF rfl (kGF rfl (kPickF rfl (kMovC rfl (kMovC rfl (kGF rfl (kGF rfl (kPickF rfl (kMovC rfl (kMovC rfl (kDone (kRet (endRetA (ra := [.one (.d _)]) rfl ?_)))))))))))))))))))))))))))))))))))))
  all_goals (simp only [rrOk, *]; first | rfl | (simp; done) | (simp; omega))

def c_spec_l2bytes : C := (.seq (.reg false (.op 0 [] (some 4) none false (.mov (.v (.int .i64 0)))
  .done))
 (.seq (.seq (.reg false (.op 0 [] (some 5) none false (.mov (.t 0))
  (.op 1 [] (some 6) none false (.b2s (.t 5))
  (.op 2 [] (some 7) none false (.mov (.t 1))
  (.op 3 [] (some 8) none false (.b2s (.t 7))
  (.op 4 [] (some 9) none false (.bin .lss (.t 6) (.t 8))
  .done))))))
 (.cond (.t 9)
 (.seq (.reg false (.op 0 [] (some 4) none false (.mov (.v (.int .i64 (-1))))
  .done))
 .ret)
 .skip))
 (.seq (.seq (.reg false (.op 0 [] (some 10) none false (.mov (.t 0))
  (.op 1 [] (some 11) none false (.b2s (.t 10))
  (.op 2 [] (some 12) none false (.mov (.t 1))
  (.op 3 [] (some 13) none false (.b2s (.t 12))
  (.op 4 [] (some 14) none false (.bin .gtr (.t 11) (.t 13))
  .done))))))
 (.cond (.t 14)
 (.seq (.reg false (.op 0 [] (some 4) none false (.mov (.v (.int .i64 1)))
  .done))
 .ret)
 .skip))
 (.seq (.reg false (.op 0 [] (some 4) none false (.mov (.v (.int .i64 0)))
  .done))
 .ret))))
theorem dg_spec_l2bytes : Tryz.f184.body.bind (digC Tryz.prog Tryz.f184.ntmps []) = some c_spec_l2bytes := by kernel_rfl
theorem rs_spec_l2bytes : resSlots Tryz.prog Tryz.f184 = some [.s 4] := by kernel_rfl
theorem ok_spec_l2bytes (a b : List UInt8) :
    FnOK Tryz.prog 184 [.one (.d (encB a)), .one (.d (encB b))] (fun ra _ => ra = [.one (.d (.sc (.int .i64 (cmpB a b))))]) := by
  refine FnOK.ofK Tryz.func184 (by kernel_rfl) dg_spec_l2bytes rs_spec_l2bytes rfl rfl ?_
  unfold c_spec_l2bytes
  refine kSeq (kReg (kMovC rfl (kDone (kSeq (kSeq (kReg (kMovC rfl (kB2s rfl rfl (kMovC rfl (kB2s rfl rfl (kBin rfl rfl rfl (kDone (kCond rfl (fun g0 => kSeq (kReg (kMovC rfl (kDone (kRet (endRetA (ra := [.one (.d _)]) rfl ?_)))))) (fun g0 => kSkip (kSeq (kSeq (kReg (kMovC rfl (kB2s rfl rfl (kMovC rfl (kB2s rfl rfl (kBin rfl rfl rfl (kDone (kCondN rfl (fun g1 => kSeq (kReg (kMovC rfl (kDone (kRet (endRetA (ra := [.one (.d _)]) rfl ?_)))))) (fun g1 => kSkip (kSeq (kReg (kMovC rfl (kDone (kRet (endRetA (ra := [.one (.d _)]) rfl ?_)))))))))))))))))))))))))))))))
  all_goals simp_all [cmpB]

def c_spec_l2cmp : C := (.seq (.reg false (.op 0 [] (some 2) none false (.box 2 (.t 0))
  (.op 1 [] (some 3) none false (.box 3 (.t 1))
  (.op 2 [] (some 4) none false (.mov (.v (.int .i64 0)))
  .done))))
 (.seq (.seq (.reg false (.op 0 [] (some 5) none false (.mov (.v (.int .i64 1)))
  .done))
 (.block 0 (.loop (.seq (.seq (.reg false (.op 0 [] (some 7) none false (.mov (.t 5))
  (.op 1 [] (some 8) none false (.fad (.t 2) 0)
  (.op 2 [] (some 9) none false (.load none (.t 8))
  (.op 3 [] (some 10) none false (.len (.t 9))
  (.op 4 [] (some 11) none false (.bin .leq (.t 7) (.t 10))
  (.op 5 [] (some 12) none false (.mov (.t 11))
  (.op 6 [] (some 13) (some (12, true)) false (.mov (.t 5))
  (.op 7 [] (some 14) (some (12, true)) false (.fad (.t 3) 0)
  (.op 8 [] (some 15) (some (12, true)) false (.load none (.t 14))
  (.op 9 [] (some 16) (some (12, true)) false (.len (.t 15))
  (.op 10 [] (some 17) (some (12, true)) false (.bin .leq (.t 13) (.t 16))
  (.op 11 [] (some 18) none false (.pick (.t 12) (.t 17) (.v (.bool false)))
  .done)))))))))))))
 (.cond (.t 18)
 .skip
 (.exit 0)))
 (.seq (.block 1 (.seq (.reg true (.op 0 [] (some 21) none true (.fad (.t 2) 0)
  (.op 1 [] (some 22) none true (.load none (.t 21))
  (.op 2 [] (some 23) none true (.fad (.t 2) 0)
  (.op 3 [] (some 24) none true (.load none (.t 23))
  (.op 4 [] (some 25) none true (.len (.t 24))
  (.op 5 [] (some 26) none true (.mov (.t 5))
  (.op 6 [] (some 27) none true (.bin .sub (.t 25) (.t 26))
  (.op 7 [] (some 28) none true (.iad 1 (.t 22) (.t 27))
  (.op 8 [] (some 29) none true (.load none (.t 28))
  (.op 9 [] (some 30) none true (.fad (.t 3) 0)
  (.op 10 [] (some 31) none true (.load none (.t 30))
  (.op 11 [] (some 32) none true (.fad (.t 3) 0)
  (.op 12 [] (some 33) none true (.load none (.t 32))
  (.op 13 [] (some 34) none true (.len (.t 33))
  (.op 14 [] (some 35) none true (.mov (.t 5))
  (.op 15 [] (some 36) none true (.bin .sub (.t 34) (.t 35))
  (.op 16 [] (some 37) none true (.iad 1 (.t 31) (.t 36))
  (.op 17 [] (some 38) none true (.load none (.t 37))
  (.op 18 [8, 1, 3, 17, 10, 12] (some 39) none false (.call 39 184 [(.t 29), (.t 38)])
  (.op 19 [] (some 6) none true (.mov (.t 39))
  .done)))))))))))))))))))))
 (.seq (.reg false (.op 0 [] (some 40) none false (.mov (.t 6))
  (.op 1 [] (some 41) none false (.bin .neq (.t 40) (.v (.int .i64 0)))
  .done)))
 (.cond (.t 41)
 (.seq (.reg false (.op 0 [] (some 42) none false (.mov (.t 6))
  (.op 1 [] (some 4) none false (.mov (.t 42))
  .done)))
 .ret)
 .skip))))
 (.reg false (.op 0 [] (some 19) none false (.mov (.t 5))
  (.op 1 [] (some 20) none false (.bin .add (.t 19) (.v (.int .i64 1)))
  (.op 2 [] (some 5) none false (.mov (.t 20))
  .done)))))))))
 (.seq (.seq (.reg false (.op 0 [] (some 43) none false (.fad (.t 2) 0)
  (.op 1 [] (some 44) none false (.load none (.t 43))
  (.op 2 [] (some 45) none false (.len (.t 44))
  (.op 3 [] (some 46) none false (.fad (.t 3) 0)
  (.op 4 [] (some 47) none false (.load none (.t 46))
  (.op 5 [] (some 48) none false (.len (.t 47))
  (.op 6 [] (some 49) none false (.bin .neq (.t 45) (.t 48))
  .done))))))))
 (.cond (.t 49)
 (.seq (.seq (.reg false (.op 0 [] (some 50) none false (.fad (.t 2) 0)
  (.op 1 [] (some 51) none false (.load none (.t 50))
  (.op 2 [] (some 52) none false (.len (.t 51))
  (.op 3 [] (some 53) none false (.fad (.t 3) 0)
  (.op 4 [] (some 54) none false (.load none (.t 53))
  (.op 5 [] (some 55) none false (.len (.t 54))
  (.op 6 [] (some 56) none false (.bin .lss (.t 52) (.t 55))
  .done))))))))
 (.cond (.t 56)
 (.seq (.reg false (.op 0 [] (some 4) none false (.mov (.v (.int .i64 (-1))))
  .done))
 .ret)
 .skip))
 (.seq (.reg false (.op 0 [] (some 4) none false (.mov (.v (.int .i64 1)))
  .done))
 .ret))
 .skip))
 (.seq (.reg false (.op 0 [] (some 4) none false (.mov (.v (.int .i64 0)))
  .done))
 .ret))))
theorem dg_spec_l2cmp : Tryz.f80.body.bind (digC Tryz.prog Tryz.f80.ntmps []) = some c_spec_l2cmp := by kernel_rfl
theorem rs_spec_l2cmp : resSlots Tryz.prog Tryz.f80 = some [.s 4] := by kernel_rfl
theorem ok_spec_l2cmp (a b : List (List UInt8)) (ha : a.length ≤ 4194304) (hb : b.length ≤ 4194304) :
    FnOK Tryz.prog 80 [.agg [.d (encBB a)], .agg [.d (encBB b)]] (fun ra _ => ra = [.one (.d (.sc (.int .i64 (cmpN a b))))]) := by
  refine FnOK.ofK Tryz.func80 (by kernel_rfl) dg_spec_l2cmp rs_spec_l2cmp rfl rfl ?_
  unfold c_spec_l2cmp
  refine kSeq (kReg (kBox rfl rfl rfl rfl rfl (kBox rfl rfl rfl rfl rfl (kMovC rfl (kDone (kSeq (kSeq (kReg (kMovC rfl (kDone (kBlock ?_)))))))))))
  refine kLoop (α := { k : Nat // k ≤ a.length ∧ k ≤ b.length ∧ cmpN a b = cmpL (a.reverse.drop k) (b.reverse.drop k) })
    (fun y => ⟨tabSl [(2, .c (.ptr (rid 2 0) 1 0)), (3, .c (.ptr (rid 3 0) 1 0)), (5, .i (y.1 + 1))], obTab 1 [(rid 2 0, ⟨1, 0, .box [.d (encBB a)]⟩), (rid 3 0, ⟨1, 0, .box [.d (encBB b)]⟩)], []⟩) (fun y => a.length - y.1) ⟨0, by simp [cmpN]⟩
    .normA ?_
  rintro ⟨k, h1, h2, h3⟩
  simp only
  rcases Nat.lt_or_ge k a.length with hla | hga
  · rcases Nat.lt_or_ge k b.length with hlb | hgb
    · have hst := cmpL_step a b k hla hlb (a.length - (k + 1) : Int).toNat (b.length - (k + 1) : Int).toNat (by omega) (by omega)
      refine kSeq (kSeq (kReg (kMovC rfl (kFadP rfl rfl (kLoadP rfl rfl rfl (kLenR rfl rfl (kBin rfl rfl rfl (kMovC rfl (kGP rfl (fun g0 => kGT rfl (kMovC rfl (kGT rfl (kFadP rfl rfl (kGT rfl (kLoadP rfl rfl rfl (kGT rfl (kLenR rfl rfl (kGT rfl (kBin rfl rfl rfl (kPickT rfl (kMovC rfl (kDone (kCondP rfl (fun g1 => kSkip (kSeq (kBlock (kSeq (kRegD (kFadP rfl rfl (kLoadP rfl rfl rfl (kFadP rfl rfl (kLoadP rfl rfl rfl (kLenR rfl rfl (kMovC rfl (kDif rfl rfl (by omega) (kIadT rfl rfl (by omega) (kLoadD rfl rfl (kFadP rfl rfl (kLoadP rfl rfl rfl (kFadP rfl rfl (kLoadP rfl rfl rfl (kLenR rfl rfl (kMovC rfl (kDif rfl rfl (by omega) (kIadT rfl rfl (by omega) (kLoadD rfl rfl (kRelF rfl rfl (kCallD (ok_spec_l2bytes _ _) ⟨rfl, rfl, trivial⟩ rfl rfl rfl rfl rfl (kMovC rfl (kDone (kH (kSeq (kReg (kMovC rfl (kBin rfl rfl rfl (kDone (kCondIN rfl (fun g2 => kSeq (kReg (kMovC rfl (kMovC rfl (kDone (kRet (endRetA (ra := [.one (.d _)]) rfl ?_))))))) (fun g2 => kSkip (kBk (kReg (kMovC rfl (kAdd rfl rfl (by omega) (kMovC rfl (kDone ?_))))))))))))))))))))))))))))))))))))))))) (fun g1 => (by omega)))))))))))))))) (fun g0 => (by omega)))))))))))
      · rw [h3, hst, if_neg (by assumption)]
      · refine kInv ⟨⟨k + 1, hla, hlb, ?_⟩, by simp only; omega, .normA⟩
        rw [h3, hst, if_pos (by assumption)]
    · rw [cmpL_end a b k h1 h2 (by omega)] at h3
      refine kSeq (kSeq (kReg (kMovC rfl (kFadP rfl rfl (kLoadP rfl rfl rfl (kLenR rfl rfl (kBin rfl rfl rfl (kMovC rfl (kGP rfl (fun g0 => kGT rfl (kMovC rfl (kGT rfl (kFadP rfl rfl (kGT rfl (kLoadP rfl rfl rfl (kGT rfl (kLenR rfl rfl (kGT rfl (kBin rfl rfl rfl (kPickT rfl (kMovC rfl (kDone (kCondP rfl (fun g1 => (by omega)) (fun g1 => kExit (kExC (kExI (kExB (kSeq (kSeq (kReg (kFadP rfl rfl (kLoadP rfl rfl rfl (kLenR rfl rfl (kFadP rfl rfl (kLoadP rfl rfl rfl (kLenR rfl rfl (kBin rfl rfl rfl (kDone (kCondIN rfl (fun g2 => kSeq (kSeq (kReg (kFadP rfl rfl (kLoadP rfl rfl rfl (kLenR rfl rfl (kFadP rfl rfl (kLoadP rfl rfl rfl (kLenR rfl rfl (kBin rfl rfl rfl (kDone (kCondP rfl (fun g3 => (by omega)) (fun g3 => kSkip (kSeq (kReg (kMovC rfl (kDone (kRet (endRetA (ra := [.one (.d _)]) rfl ?_))))))))))))))))))) (fun g2 => (by omega)))))))))))))))))))))))))))))))) (fun g0 => (by omega)))))))))))
      all_goals (rw [h3]; first | (rw [if_pos (by omega)]; done) | (rw [if_neg (by omega), if_pos (by omega)]; done) | rw [if_neg (by omega), if_neg (by omega)])
  · rw [cmpL_end a b k h1 h2 (by omega)] at h3
    refine kSeq (kSeq (kReg (kMovC rfl (kFadP rfl rfl (kLoadP rfl rfl rfl (kLenR rfl rfl (kBin rfl rfl rfl (kMovC rfl (kGP rfl (fun g0 => (by omega)) (fun g0 => kGF rfl (kGF rfl (kGF rfl (kGF rfl (kGF rfl (kPickF rfl (kMovC rfl (kDone (kCondF rfl (kExit (kExC (kExI (kExB (kSeq (kSeq (kReg (kFadP rfl rfl (kLoadP rfl rfl rfl (kLenR rfl rfl (kFadP rfl rfl (kLoadP rfl rfl rfl (kLenR rfl rfl (kBin rfl rfl rfl (kDone (kCondIN rfl (fun g1 => kSeq (kSeq (kReg (kFadP rfl rfl (kLoadP rfl rfl rfl (kLenR rfl rfl (kFadP rfl rfl (kLoadP rfl rfl rfl (kLenR rfl rfl (kBin rfl rfl rfl (kDone (kCondP rfl (fun g2 => kSeq (kReg (kMovC rfl (kDone (kRet (endRetA (ra := [.one (.d _)]) rfl ?_)))))) (fun g2 => (by omega)))))))))))))) (fun g1 => kSkip (kSeq (kReg (kMovC rfl (kDone (kRet (endRetA (ra := [.one (.d _)]) rfl ?_)))))))))))))))))))))))))))))))))))))))))
    all_goals (rw [h3]; first | (rw [if_pos (by omega)]; done) | (rw [if_neg (by omega), if_pos (by omega)]; done) | rw [if_neg (by omega), if_neg (by omega)])

def c_spec_l2under : C := (.seq (.reg false (.op 0 [] (some 2) none false (.box 2 (.t 0))
  (.op 1 [] (some 3) none false (.box 3 (.t 1))
  (.op 2 [] (some 4) none false (.mov (.v (.bool false)))
  .done))))
 (.seq (.reg false (.op 0 [] (some 6) none false (.fad (.t 2) 0)
  (.op 1 [] (some 7) none false (.load none (.t 6))
  (.op 2 [] (some 8) none false (.len (.t 7))
  (.op 3 [] (some 9) none false (.fad (.t 3) 0)
  (.op 4 [] (some 10) none false (.load none (.t 9))
  (.op 5 [] (some 11) none false (.len (.t 10))
  (.op 6 [] (some 12) none false (.bin .sub (.t 8) (.t 11))
  (.op 7 [] (some 5) none false (.mov (.t 12))
  .done)))))))))
 (.seq (.reg true (.op 0 [] (some 13) none true (.mov (.t 5))
  (.op 1 [] (some 14) none true (.bin .geq (.t 13) (.v (.int .i64 0)))
  (.op 2 [] (some 15) none true (.mov (.t 14))
  (.op 3 [] (some 16) (some (15, true)) true (.fad (.t 2) 0)
  (.op 4 [] (some 17) (some (15, true)) true (.load none (.t 16))
  (.op 5 [] (some 18) (some (15, true)) true (.mov (.t 5))
  (.op 6 [] (some 19) (some (15, true)) true (.cut 1 (.t 17) (some (.t 18)) none)
  (.op 7 [] (some 20) (some (15, true)) true (.build [(.n 1)] [(0, 1, (.t 19))])
  (.op 8 [] (some 21) (some (15, true)) true (.load (some 1) (.t 3))
  (.op 9 [4, 8] (some 22) (some (15, true)) false (.call 22 80 [(.t 20), (.t 21)])
  (.op 10 [] (some 23) (some (15, true)) true (.bin .eql (.t 22) (.v (.int .i64 0)))
  (.op 11 [] (some 24) none true (.pick (.t 15) (.t 23) (.v (.bool false)))
  (.op 12 [] (some 4) none true (.mov (.t 24))
  .done))))))))))))))
 .ret)))
theorem dg_spec_l2under : Tryz.f77.body.bind (digC Tryz.prog Tryz.f77.ntmps []) = some c_spec_l2under := by kernel_rfl
theorem rs_spec_l2under : resSlots Tryz.prog Tryz.f77 = some [.s 4] := by kernel_rfl
theorem ok_spec_l2under (n z : List (List UInt8)) (hn : n.length ≤ 4194304) (hz : z.length ≤ 4194304) :
    FnOK Tryz.prog 77 [.agg [.d (encBB n)], .agg [.d (encBB z)]] (fun ra _ => ra = [.one (.d (.sc (.bool (underN n z))))]) := by
  refine FnOK.ofK Tryz.func77 (by kernel_rfl) dg_spec_l2under rs_spec_l2under rfl rfl ?_
  unfold c_spec_l2under
  have hd : (n.drop (n.length - z.length : Int).toNat).length ≤ 4194304 := by simp; omega
  refine kSeq (kReg (kBox rfl rfl rfl rfl rfl (kBox rfl rfl rfl rfl rfl (kMovC rfl (kDone (kSeq (kReg (kFadP rfl rfl (kLoadP rfl rfl rfl (kLenR rfl rfl (kFadP rfl rfl (kLoadP rfl rfl rfl (kLenR rfl rfl (kDif rfl rfl (by omega) (kMovC rfl (kDone (kSeq (kRegD (kMovC rfl (kBin rfl rfl rfl (kMovC rfl (kGP rfl (fun g0 => kGT rfl (kFadP rfl rfl (kGT rfl (kLoadP rfl rfl rfl (kGT rfl (kMovC rfl (kGT rfl (kCutLT rfl rfl (by omega) (kGT rfl (kBuild rfl (kGT rfl (kLoadP rfl rfl rfl (kRelF rfl rfl (kGT rfl (kCallD (ok_spec_l2cmp _ _ (by first | assumption | omega | solve_by_elim [List.getElem_mem] | (simp only [szOut] at *; omega)) (by first | assumption | omega | solve_by_elim [List.getElem_mem] | (simp only [szOut] at *; omega))) ⟨⟨⟨rfl, trivial⟩, Nat.le_of_ble_eq_true rfl⟩, ⟨⟨rfl, trivial⟩, Nat.le_of_ble_eq_true rfl⟩, trivial⟩ rfl rfl rfl rfl rfl (kGT rfl (kBin rfl rfl rfl (kPickT rfl (kMovC rfl (kMovC rfl (kDone (kH (kRet (endRetA (ra := [.one (.d _)]) rfl ?_)))))))))))))))))))))))) (fun g0 => kGF rfl (kGF rfl (kGF rfl (kGF rfl (kGF rfl (kGF rfl (kRelF rfl rfl (kGF rfl (kGF rfl (kPickF rfl (kMovC rfl (kMovC rfl (kDone (kH (kRet (endRetA (ra := [.one (.d _)]) rfl ?_))))))))))))))))))))))))))))))))))))))
  · rw [cmpN_zero, show (n.length - z.length : Int).toNat = n.length - z.length by omega]
    simp only [underN]
    rw [decide_eq_true (show z.length ≤ n.length by omega), Bool.true_and]
  · rw [show underN n z = false by simp only [underN]; rw [decide_eq_false (by omega)]; rfl]

def c_spec_l3num : C := (.seq (.reg false (.op 0 [] (some 4) none false (.mov (.v (.int .i64 0)))
  .done))
 (.seq (.seq (.reg false (.op 0 [] (some 5) none false (.mov (.t 0))
  (.op 1 [] (some 6) none false (.mov (.t 1))
  (.op 2 [] (some 7) none false (.bin .lss (.t 5) (.t 6))
  .done))))
 (.cond (.t 7)
 (.seq (.reg false (.op 0 [] (some 4) none false (.mov (.v (.int .i64 (-1))))
  .done))
 .ret)
 .skip))
 (.seq (.seq (.reg false (.op 0 [] (some 8) none false (.mov (.t 0))
  (.op 1 [] (some 9) none false (.mov (.t 1))
  (.op 2 [] (some 10) none false (.bin .gtr (.t 8) (.t 9))
  .done))))
 (.cond (.t 10)
 (.seq (.reg false (.op 0 [] (some 4) none false (.mov (.v (.int .i64 1)))
  .done))
 .ret)
 .skip))
 (.seq (.reg false (.op 0 [] (some 4) none false (.mov (.v (.int .i64 0)))
  .done))
 .ret))))
theorem dg_spec_l3num : Tryz.f183.body.bind (digC Tryz.prog Tryz.f183.ntmps []) = some c_spec_l3num := by kernel_rfl
theorem rs_spec_l3num : resSlots Tryz.prog Tryz.f183 = some [.s 4] := by kernel_rfl
theorem ok_spec_l3num (a b : Int) :
    FnOK Tryz.prog 183 [.one (.d (.sc (.int .i64 a))), .one (.d (.sc (.int .i64 b)))] (fun ra _ => ra = [.one (.d (.sc (.int .i64 (cmpI a b))))]) := by
  refine FnOK.ofK Tryz.func183 (by kernel_rfl) dg_spec_l3num rs_spec_l3num rfl rfl ?_
  unfold c_spec_l3num
  refine kSeq (kReg (kMovC rfl (kDone (kSeq (kSeq (kReg (kMovC rfl (kMovC rfl (kBin rfl rfl rfl (kDone (kCondP rfl (fun g0 => kSeq (kReg (kMovC rfl (kDone (kRet (endRetA (ra := [.one (.d _)]) rfl ?_)))))) (fun g0 => kSkip (kSeq (kSeq (kReg (kMovC rfl (kMovC rfl (kBin rfl rfl rfl (kDone (kCondP rfl (fun g1 => kSeq (kReg (kMovC rfl (kDone (kRet (endRetA (ra := [.one (.d _)]) rfl ?_)))))) (fun g1 => kSkip (kSeq (kReg (kMovC rfl (kDone (kRet (endRetA (ra := [.one (.d _)]) rfl ?_)))))))))))))))))))))))))))
  all_goals (refine congrArg (fun z : Int => [RA.one (RV.d (DV.sc (Value.int IntKind.i64 z)))]) ?_; unfold cmpI; split <;> first | omega | (split <;> omega))

def c_spec_Put32 : C := (.seq (.reg false (.op 0 [] (some 4) none false (.mov (.n 1))
  .done))
 (.seq (.reg false (.op 0 [] (some 6) none false (.lit 6 1 [(.v (.int .u8 0))] 0 [])
  (.op 1 [] (some 7) none false (.mov (.t 0))
  (.op 2 [] (some 8) none false (.app 8 1 1 (.t 6) (.t 7))
  (.op 3 [] (some 5) none false (.mov (.t 8))
  .done)))))
 (.seq (.seq (.reg false (.op 0 [] (some 9) none false (.mov (.t 1))
  (.op 1 [] (some 10) none false (.bin .lss (.t 9) (.v (.int .i64 0)))
  (.op 2 [] (some 11) none false (.mov (.t 10))
  (.op 3 [] (some 12) (some (11, false)) false (.mov (.t 1))
  (.op 4 [] (some 13) (some (11, false)) false (.bin .geq (.t 12) (.v (.int .i64 4294967296)))
  (.op 5 [] (some 14) none false (.pick (.t 11) (.v (.bool true)) (.t 13))
  .done)))))))
 (.cond (.t 14)
 (.seq (.reg false (.op 0 [] (some 15) none false (.mov (.t 5))
  (.op 1 [] (some 4) none false (.mov (.t 15))
  .done)))
 .ret)
 .skip))
 (.seq (.reg false (.op 0 [] (some 16) none false (.mov (.t 5))
  (.op 1 [] (some 17) none false (.mov (.t 1))
  (.op 2 [] (some 18) none false (.bin .shr (.t 17) (.v (.int .u64 24)))
  (.op 3 [] (some 19) none false (.conv .u8 (.t 18))
  (.op 4 [] (some 20) none false (.mov (.t 1))
  (.op 5 [] (some 21) none false (.bin .shr (.t 20) (.v (.int .u64 16)))
  (.op 6 [] (some 22) none false (.conv .u8 (.t 21))
  (.op 7 [] (some 23) none false (.mov (.t 1))
  (.op 8 [] (some 24) none false (.bin .shr (.t 23) (.v (.int .u64 8)))
  (.op 9 [] (some 25) none false (.conv .u8 (.t 24))
  (.op 10 [] (some 26) none false (.mov (.t 1))
  (.op 11 [] (some 27) none false (.conv .u8 (.t 26))
  (.op 12 [] (some 28) none false (.lit 28 1 [(.v (.int .u8 0))] 4 [(0, 1, (.t 19)), (1, 1, (.t 22)), (2, 1, (.t 25)), (3, 1, (.t 27))])
  (.op 13 [] (some 29) none false (.app 29 1 1 (.t 16) (.t 28))
  (.op 14 [] (some 4) none false (.mov (.t 29))
  .done))))))))))))))))
 .ret))))
theorem dg_spec_Put32 : Tryz.f259.body.bind (digC Tryz.prog Tryz.f259.ntmps []) = some c_spec_Put32 := by kernel_rfl
theorem rs_spec_Put32 : resSlots Tryz.prog Tryz.f259 = some [.s 4] := by kernel_rfl
theorem ok_spec_Put32 (b : List UInt8) (n : Int) (hb : b.length ≤ 16777216) (h0 : 0 ≤ n) (h1 : n < 4294967296) :
    FnOK Tryz.prog 259 [.one (.d (encB b)), .one (.d (.sc (.int .i64 n)))] (fun ra _ => ra = [.one (.own true (encB (b ++ w4 n)))]) := by
  refine FnOK.ofK Tryz.func259 (by kernel_rfl) dg_spec_Put32 rs_spec_Put32 rfl rfl ?_
  unfold c_spec_Put32
  refine kSeq (kReg (kMovC rfl (kDone (kSeq (kReg (kLit rfl rfl rfl rfl (kMovC rfl (kAppN rfl rfl rfl (src_encB _ _) rfl rfl rfl rfl (by omega) (kMovC rfl (kDone (kSeq (kSeq (kReg (kMovC rfl (kBin rfl rfl rfl (kMovC rfl (kGP rfl (fun g0 => (by omega)) (fun g0 => kGT rfl (kMovC rfl (kGT rfl (kBin rfl rfl rfl (kPickF rfl (kMovC rfl (kDone (kCondP rfl (fun g1 => (by omega)) (fun g1 => kSkip (kSeq (kReg (kMem [(28672, ⟨2, 0, .arr true _⟩)] [(5, .c (.arr 28672 2)), (1, .c (.d _)), (17, .c (.un)), (18, .c (.un)), (20, .c (.un)), (21, .c (.un)), (23, .c (.un)), (24, .c (.un)), (26, .c (.un)), (19, .c (.un)), (22, .c (.un)), (25, .c (.un)), (27, .c (.un)), (16, .c (.un)), (28, .c (.un)), (29, .c (.un))] [] ⟨rfl, trivial⟩ ⟨rfl, rfl, rfl, rfl, rfl, rfl, rfl, rfl, rfl, rfl, rfl, rfl, rfl, rfl, rfl, rfl, trivial⟩ rfl (kMovC rfl (kMovC rfl (kShr (m := 24) rfl rfl rfl (kConvU8 rfl (kMovC rfl (kShr (m := 16) rfl rfl rfl (kConvU8 rfl (kMovC rfl (kShr (m := 8) rfl rfl rfl (kConvU8 rfl (kMovC rfl (kConvU8 rfl (kMem [(28672, ⟨2, 0, .arr true _⟩)] [(19, .c (.d _)), (22, .c (.d _)), (25, .c (.d _)), (27, .c (.d _)), (16, .c (.arr 28672 2)), (28, .c (.un)), (29, .c (.un))] [] ⟨rfl, trivial⟩ ⟨rfl, rfl, rfl, rfl, rfl, rfl, rfl, trivial⟩ rfl (kLit rfl rfl rfl rfl (kAppR4 rfl rfl rfl rfl rfl rfl rfl rfl (by omega) (kMovC rfl (kDone (kMem [(28672, ⟨3, 0, .arr true _⟩)] [(4, .c (.arr 28672 3))] [] ⟨rfl, trivial⟩ ⟨rfl, trivial⟩ rfl (kRet (endRetA (ra := [.one (.own true _)]) rfl rfl)))))))))))))))))))))))))))))))))))))))))))))))))
theorem ok_spec_Put32_nil (n : Int) (h0 : 0 ≤ n) (h1 : n < 4294967296) :
    FnOK Tryz.prog 259 [.one (.d (.sl 1 [])), .one (.d (.sc (.int .i64 n)))] (fun ra _ => ra = [.one (.own true (encB (w4 n)))]) := ok_spec_Put32 [] n (Nat.zero_le _) h0 h1

def c_spec_l2put : C := (.seq (.reg false (.op 0 [] (some 3) none false (.box 3 (.t 1))
  (.op 1 [] (some 4) none false (.mov (.n 1))
  .done)))
 (.seq (.seq (.reg false (.op 0 [] (some 5) none false (.mov (.v (.int .i64 0)))
  .done))
 (.block 0 (.loop (.seq (.seq (.reg false (.op 0 [] (some 6) none false (.mov (.t 5))
  (.op 1 [] (some 7) none false (.fad (.t 3) 0)
  (.op 2 [] (some 8) none false (.load none (.t 7))
  (.op 3 [] (some 9) none false (.len (.t 8))
  (.op 4 [] (some 10) none false (.bin .lss (.t 6) (.t 9))
  .done))))))
 (.cond (.t 10)
 .skip
 (.exit 0)))
 (.seq (.block 1 (.reg true (.op 0 [] (some 13) none true (.mov (.t 0))
  (.op 1 [] (some 14) none true (.fad (.t 3) 0)
  (.op 2 [] (some 15) none true (.load none (.t 14))
  (.op 3 [] (some 16) none true (.mov (.t 5))
  (.op 4 [] (some 17) none true (.iad 1 (.t 15) (.t 16))
  (.op 5 [] (some 18) none true (.load none (.t 17))
  (.op 6 [] (some 19) none true (.len (.t 18))
  (.op 7 [] (some 20) none true (.conv .u8 (.t 19))
  (.op 10 [] (some 23) none true (.fad (.t 3) 0)
  (.op 11 [] (some 24) none true (.load none (.t 23))
  (.op 12 [] (some 25) none true (.mov (.t 5))
  (.op 13 [] (some 26) none true (.iad 1 (.t 24) (.t 25))
  (.op 14 [] (some 27) none true (.load none (.t 26))
  (.op 8 [5, 2] (some 21) none false (.lit 21 1 [(.v (.int .u8 0))] 1 [(0, 1, (.t 20))])
  (.op 9 [5, 2] (some 22) none false (.app 22 1 1 (.t 13) (.t 21))
  (.op 15 [5, 14, 11] (some 28) none false (.app 28 1 1 (.t 22) (.t 27))
  (.op 16 [] (some 0) none true (.mov (.t 28))
  .done)))))))))))))))))))
 (.reg false (.op 0 [] (some 11) none false (.mov (.t 5))
  (.op 1 [] (some 12) none false (.bin .add (.t 11) (.v (.int .i64 1)))
  (.op 2 [] (some 5) none false (.mov (.t 12))
  .done)))))))))
 (.seq (.reg false (.op 0 [] (some 29) none false (.mov (.t 0))
  (.op 1 [] (some 30) none false (.lit 30 1 [(.v (.int .u8 0))] 1 [(0, 1, (.v (.int .u8 0)))])
  (.op 2 [] (some 31) none false (.app 31 1 1 (.t 29) (.t 30))
  (.op 3 [] (some 4) none false (.mov (.t 31))
  .done)))))
 .ret)))
theorem dg_spec_l2put : Tryz.f209.body.bind (digC Tryz.prog Tryz.f209.ntmps []) = some c_spec_l2put := by kernel_rfl
theorem rs_spec_l2put : resSlots Tryz.prog Tryz.f209 = some [.s 4] := by kernel_rfl
theorem ok_spec_l2put (b : List UInt8) (a : List (List UInt8)) (hs : SmallBB a) (hb : b.length ≤ 16777216) :
    FnOK Tryz.prog 209 [.one (.arr true true (encB b)), .agg [.d (encBB a)]] (fun ra _ => ra = [.one (.own true (encB (b ++ wireN a)))]) := by
  refine FnOK.ofK Tryz.func209 (by kernel_rfl) dg_spec_l2put rs_spec_l2put rfl rfl ?_
  unfold c_spec_l2put
  have h1 := hs.len
  have h2 := hs.flat
  refine kSeq (kReg (kBox rfl rfl rfl rfl rfl (kMovC rfl (kDone (kSeq (kSeq (kReg (kMovC rfl (kDone (kBlock ?_))))))))))
  refine kLoop (α := { i : Nat // i ≤ a.length }) (fun y => ⟨tabSl [(0, .c (.arr 0 1)), (3, .c (.ptr (rid 3 0) 1 0)), (5, .i y.1)], obTab 1 [(0, ⟨1, 0, .arr true (encB (b ++ wireL (a.take y.1)))⟩), (rid 3 0, ⟨1, 0, .box [.d (encBB a)]⟩)], []⟩) (fun y => a.length - y.1) ⟨0, by simp⟩ (by simp only [List.take_zero, wireL, List.flatMap_nil, List.append_nil]; exact .normA) ?_
  rintro ⟨i, hi⟩
  simp only
  have hl := wireL_le a i
  have hl2 : (b ++ wireL (a.take i)).length = b.length + (wireL (a.take i)).length := by simp
  rcases Nat.lt_or_ge i a.length with hlt | hge
  · have hst : b ++ wireL (a.take (i + 1)) = b ++ wireL (a.take i) ++ [u8 a[i].length] ++ a[i] := by rw [wireL_take a i hlt]; simp
    have hm := hs.mem _ (List.getElem_mem hlt)
    have hlen : (b ++ wireL (a.take i) ++ [u8 a[i].length]).length = (b ++ wireL (a.take i)).length + 1 := by simp only [List.length_append, List.length_cons, List.length_nil]
    refine kSeq (kSeq (kReg (kMovC rfl (kFadP rfl rfl (kLoadP rfl rfl rfl (kLenR rfl rfl (kBin rfl rfl rfl (kDone (kCondP rfl (fun g0 => kSkip (kSeq (kBlock (kRegD (kMovC rfl (kFadP rfl rfl (kLoadP rfl rfl rfl (kMovC rfl (kIadR rfl rfl rfl (by omega) (kMem [(16384, ⟨1, 0, .box [.d _]⟩), (0, ⟨1, 0, .arr true _⟩)] [(3, .c (.ptr 16384 1 0)), (5, .c (.d _)), (13, .c (.arr 0 1))] [16384] ⟨rfl, rfl, trivial⟩ ⟨rfl, rfl, rfl, trivial⟩ rfl (kLoadD rfl rfl (kLenR rfl rfl (kConvU8 rfl (kFadP rfl rfl (kLoadP rfl rfl rfl (kMovC rfl (kIadR rfl rfl rfl (by omega) (kLoadD rfl rfl (kRelK rfl rfl (kLit rfl rfl rfl rfl (kMem [(0, ⟨1, 0, .arr true _⟩), (90112, ⟨2, 0, .arr true _⟩)] [(13, .c (.arr 0 1)), (21, .c (.arr 90112 2)), (27, .c (.d _))] [16384, 16384] ⟨rfl, rfl, trivial⟩ ⟨rfl, rfl, rfl, trivial⟩ rfl (kRelK rfl rfl (kAppR1 rfl rfl rfl rfl rfl rfl rfl rfl (by omega) (kRelF rfl rfl (kAppR rfl rfl rfl (src_encB _ _) rfl rfl rfl rfl (by omega) (kMovC rfl (kDone (kH (kBk (kReg (kMovC rfl (kAdd rfl rfl (by omega) (kMovC rfl (kDone ?_)))))))))))))))))))))))))))))))))) (fun g0 => (by omega)))))))))))
    refine kInv ⟨⟨i + 1, by omega⟩, by simp only; omega, ?_⟩
    simp only [hst]
    exact .normA
  · have he : b ++ wireN a = b ++ wireL (a.take i) ++ [0] := by rw [show i = a.length by omega, List.take_length]; simp [wireN]
    rw [he]
    refine kSeq (kSeq (kReg (kMovC rfl (kFadP rfl rfl (kLoadP rfl rfl rfl (kLenR rfl rfl (kBin rfl rfl rfl (kDone (kCondP rfl (fun g0 => (by omega)) (fun g0 => kExit (kExC (kExI (kExB (kSeq (kReg (kMovC rfl (kLit rfl rfl rfl rfl (kAppR1 (z := (0 : UInt8)) rfl rfl rfl rfl rfl rfl rfl rfl (by omega) (kMem [(0, ⟨2, 0, .arr true _⟩)] [(31, .c (.arr 0 2))] [] ⟨rfl, trivial⟩ ⟨rfl, trivial⟩ rfl (kMovC rfl (kDone (kMem [(0, ⟨2, 0, .arr true _⟩)] [(4, .c (.arr 0 2))] [] ⟨rfl, trivial⟩ ⟨rfl, trivial⟩ rfl (kRet (endRetA (ra := [.one (.own true _)]) rfl rfl))))))))))))))))))))))))
theorem ok_spec_l2put_nil (a : List (List UInt8)) (hs : SmallBB a) :
    FnOK Tryz.prog 209 [.one (.arr true true (.sl 1 [])), .agg [.d (encBB a)]] (fun ra _ => ra = [.one (.own true (encB (wireN a)))]) := ok_spec_l2put [] a hs (Nat.zero_le _)

def c_spec_l3put : C := (.seq (.reg false (.op 0 [] (some 1) none false (.box 1 (.t 0))
  (.op 1 [] (some 2) none false (.mov (.n 1))
  .done)))
 (.seq (.block 0 (.seq (.reg false (.op 0 [] (some 4) none false (.fad (.t 1) 1)
  (.op 1 [] (some 5) none false (.load none (.t 4))
  (.op 2 [] (some 6) none false (.bin .eql (.t 5) (.v (.int .i64 1)))
  (.op 3 [] (some 3) none false (.mov (.t 6))
  .done)))))
 (.cond (.t 3)
 (.seq (.reg false (.op 0 [] (some 7) none false (.fad (.t 1) 3)
  (.op 1 [] (some 8) none false (.load none (.t 7))
  (.op 2 [] (some 9) none false (.call 9 259 [(.n 1), (.t 8)])
  (.op 3 [] (some 2) none false (.mov (.t 9))
  .done)))))
 .ret)
 (.seq (.reg false (.op 0 [] (some 11) none false (.fad (.t 1) 1)
  (.op 1 [] (some 12) none false (.load none (.t 11))
  (.op 2 [] (some 13) none false (.bin .eql (.t 12) (.v (.int .i64 6)))
  (.op 3 [] (some 10) none false (.mov (.t 13))
  .done)))))
 (.cond (.t 10)
 (.seq (.reg true (.op 0 [] (some 14) none true (.fad (.t 1) 4)
  (.op 1 [] (some 15) none true (.load (some 1) (.t 14))
  (.op 3 [] (some 17) none true (.fad (.t 1) 6)
  (.op 4 [] (some 18) none true (.load none (.t 17))
  (.op 5 [] (some 19) none true (.iad 1 (.t 18) (.v (.int .i64 0)))
  (.op 6 [] (some 20) none true (.load none (.t 19))
  (.op 8 [] (some 22) none true (.fad (.t 1) 6)
  (.op 9 [] (some 23) none true (.load none (.t 22))
  (.op 10 [] (some 24) none true (.iad 1 (.t 23) (.v (.int .i64 1)))
  (.op 11 [] (some 25) none true (.load none (.t 24))
  (.op 2 [1] (some 16) none false (.call 16 209 [(.n 1), (.t 15)])
  (.op 7 [1, 6, 4] (some 21) none false (.call 21 259 [(.t 16), (.t 20)])
  (.op 12 [1, 6, 4, 11, 9] (some 26) none false (.call 26 259 [(.t 21), (.t 25)])
  (.op 13 [] (some 2) none true (.mov (.t 26))
  .done)))))))))))))))
 .ret)
 (.seq (.reg false (.op 0 [] (some 28) none false (.fad (.t 1) 1)
  (.op 1 [] (some 29) none false (.load none (.t 28))
  (.op 2 [] (some 30) none false (.call 30 257 [(.t 29)])
  (.op 3 [] (some 27) none false (.mov (.t 30))
  .done)))))
 (.cond (.t 27)
 (.seq (.reg false (.op 0 [] (some 31) none false (.fad (.t 1) 4)
  (.op 1 [] (some 32) none false (.load (some 1) (.t 31))
  (.op 2 [] (some 33) none false (.call 33 209 [(.n 1), (.t 32)])
  (.op 3 [] (some 2) none false (.mov (.t 33))
  .done)))))
 .ret)
 .skip)))))))
 (.seq (.reg false (.op 0 [] (some 34) none false (.fad (.t 1) 5)
  (.op 1 [] (some 35) none false (.load none (.t 34))
  (.op 2 [] (some 36) none false (.len (.t 35))
  (.op 3 [] (some 37) none false (.conv .u8 (.t 36))
  (.op 4 [] (some 38) none false (.lit 38 1 [(.v (.int .u8 0))] 1 [(0, 1, (.t 37))])
  (.op 5 [] (some 39) none false (.fad (.t 1) 5)
  (.op 6 [] (some 40) none false (.load none (.t 39))
  (.op 7 [] (some 41) none false (.app 41 1 1 (.t 38) (.t 40))
  (.op 8 [] (some 2) none false (.mov (.t 41))
  .done))))))))))
 .ret)))
theorem dg_spec_l3put : Tryz.f185.body.bind (digC Tryz.prog Tryz.f185.ntmps []) = some c_spec_l3put := by kernel_rfl
theorem rs_spec_l3put : resSlots Tryz.prog Tryz.f185 = some [.s 2] := by kernel_rfl
theorem ok_spec_l3put (r : Rr) (hs : SmallR r) (hk : rrOk r = true) :
    FnOK Tryz.prog 185 [.agg (r.cells.map .d)] (fun ra _ => ra = [.one (.own true (encB (rdata r)))]) := by
  refine FnOK.ofK Tryz.func185 (by kernel_rfl) dg_spec_l3put rs_spec_l3put rfl rfl ?_
  unfold c_spec_l3put
  have ht := hs.t
  have t1 := hs.t.len
  have t2 := hs.t.flat
  have x1 := hs.x
  have m1 := hs.m
  by_cases h1 : r.ty = 1
  · rw [rdata_A h1]
    have ha := rdata_ad hk h1
    refine kSeq (kReg (kBox rfl rfl rfl rfl rfl (kMovC rfl (kDone (kSeq (kBlock (kSeq (kReg (kFadP rfl rfl (kLoadP rfl rfl rfl (kBin rfl rfl rfl (kMovC rfl (kDone (kCondP rfl (fun g0 => kSeq (kReg (kFadP rfl rfl (kLoadP rfl rfl rfl (kCall1 true (ok_spec_Put32_nil _ (by first | assumption | omega | solve_by_elim [List.getElem_mem] | (simp only [szOut] at *; omega)) (by first | assumption | omega | solve_by_elim [List.getElem_mem] | (simp only [szOut] at *; omega))) ⟨rfl, rfl, trivial⟩ rfl rfl rfl (fun _ => (kMem [(40960, ⟨1, 0, .arr true _⟩)] [(9, .c (.arr 40960 1))] [] ⟨rfl, trivial⟩ ⟨rfl, trivial⟩ rfl (kMovC rfl (kDone (kMem [(40960, ⟨1, 0, .arr true _⟩)] [(2, .c (.arr 40960 1))] [] ⟨rfl, trivial⟩ ⟨rfl, trivial⟩ rfl (kRet (endRetA (ra := [.one (.own true _)]) rfl rfl)))))))))))) (fun g0 => (by omega))))))))))))))))
  by_cases h6 : r.ty = 6
  · obtain ⟨h2, h3, h4, h5⟩ := rdata_soa hk h6
    rw [h5]
    have w1 := wireN_len r.to
    have w2 : (wireN r.to ++ w4 (r.nums[0]'(by omega))).length = (wireN r.to).length + 4 := by rw [List.length_append, w4_len]
    refine kSeq (kReg (kBox rfl rfl rfl rfl rfl (kMovC rfl (kDone (kSeq (kBlock (kSeq (kReg (kFadP rfl rfl (kLoadP rfl rfl rfl (kBin rfl rfl rfl (kMovC rfl (kDone (kCondP rfl (fun g0 => (by omega)) (fun g0 => kSeq (kReg (kFadP rfl rfl (kLoadP rfl rfl rfl (kBin rfl rfl rfl (kMovC rfl (kDone (kCondP rfl (fun g1 => kSeq (kRegD (kMem [(8192, ⟨1, 0, .box [.d _, .d _, .d _, .d _, .d _, .d _, .d _]⟩)] [(1, .c (.ptr 8192 1 0)), (14, .c (.un)), (17, .c (.un)), (18, .c (.un)), (19, .c (.un)), (22, .c (.un)), (23, .c (.un)), (24, .c (.un)), (15, .c (.un)), (16, .c (.un)), (20, .c (.un)), (21, .c (.un)), (25, .c (.un)), (26, .c (.un))] [] ⟨rfl, trivial⟩ ⟨rfl, rfl, rfl, rfl, rfl, rfl, rfl, rfl, rfl, rfl, rfl, rfl, rfl, rfl, trivial⟩ rfl (kFadP rfl rfl (kLoadP rfl rfl rfl (kFadP rfl rfl (kLoadP rfl rfl rfl (kIadR (m := 0) rfl rfl rfl (by omega) (kLoadD rfl rfl (kFadP rfl rfl (kLoadP rfl rfl rfl (kIadR (m := 1) rfl rfl rfl (by omega) (kLoadD rfl rfl (kRelK rfl rfl (kCall1 true (ok_spec_l2put_nil _ (by first | assumption | omega | solve_by_elim [List.getElem_mem] | (simp only [szOut] at *; omega))) ⟨⟨rfl, rfl⟩, ⟨⟨rfl, trivial⟩, Nat.le_of_ble_eq_true rfl⟩, trivial⟩ rfl rfl rfl (fun _ => (kMem [(69632, ⟨1, 0, .arr true _⟩)] [(16, .c (.arr 69632 1)), (20, .c (.d _)), (21, .c (.un)), (25, .c (.d _)), (26, .c (.un))] [8192, 8192, 8192] ⟨rfl, trivial⟩ ⟨rfl, rfl, rfl, rfl, rfl, trivial⟩ rfl (kRelK rfl rfl (kCall1 true (ok_spec_Put32 _ _ (by first | assumption | omega | solve_by_elim [List.getElem_mem] | (simp only [szOut] at *; omega)) (by first | assumption | omega | solve_by_elim [List.getElem_mem] | (simp only [szOut] at *; omega)) (by first | assumption | omega | solve_by_elim [List.getElem_mem] | (simp only [szOut] at *; omega))) ⟨rfl, rfl, trivial⟩ rfl rfl rfl (fun _ => (kRelF rfl rfl (kCall1 true (ok_spec_Put32 _ _ (by first | assumption | omega | solve_by_elim [List.getElem_mem] | (simp only [szOut] at *; omega)) (by first | assumption | omega | solve_by_elim [List.getElem_mem] | (simp only [szOut] at *; omega)) (by first | assumption | omega | solve_by_elim [List.getElem_mem] | (simp only [szOut] at *; omega))) ⟨rfl, rfl, trivial⟩ rfl rfl rfl (fun _ => (kMovC rfl (kDone (kH (kMem [(110592, ⟨1, 0, .arr true _⟩)] [(2, .c (.arr 110592 1))] [] ⟨rfl, trivial⟩ ⟨rfl, trivial⟩ rfl (kRet (endRetA (ra := [.one (.own true _)]) rfl rfl))))))))))))))))))))))))))))) (fun g1 => (by omega))))))))))))))))))))))))
  have hn := rdata_nm hk h6
  cases h2 : hasTo r.ty
  · rw [rdata_text h1 h2]
    refine kSeq (kReg (kBox rfl rfl rfl rfl rfl (kMovC rfl (kDone (kSeq (kBlock (kSeq (kReg (kFadP rfl rfl (kLoadP rfl rfl rfl (kBin rfl rfl rfl (kMovC rfl (kDone (kCondP rfl (fun g0 => (by omega)) (fun g0 => kSeq (kReg (kFadP rfl rfl (kLoadP rfl rfl rfl (kBin rfl rfl rfl (kMovC rfl (kDone (kCondP rfl (fun g1 => (by omega)) (fun g1 => kSeq (kReg (kMem [(8192, ⟨1, 0, .box [.d _, .d _, .d _, .d _, .d _, .d _, .d _]⟩)] [(1, .c (.ptr 8192 1 0)), (28, .c (.un)), (29, .c (.un)), (30, .c (.un))] [] ⟨rfl, trivial⟩ ⟨rfl, rfl, rfl, rfl, trivial⟩ rfl (kFadP rfl rfl (kLoadP rfl rfl rfl (kCallD (ok_spec_l3named _) ⟨rfl, trivial⟩ rfl rfl rfl rfl rfl (kMovC rfl (kDone (kCond rfl (fun g2 => (by (simp [*] at g2))) (fun g2 => kSkip (kBk (kSeq (kReg (kFadP rfl rfl (kLoadP rfl rfl rfl (kLenR rfl rfl (kConvU8 rfl (kLit rfl rfl rfl rfl (kMem [(8192, ⟨1, 0, .box [.d _, .d _, .d _, .d _, .d _, .d _, .d _]⟩), (159744, ⟨1, 0, .arr true _⟩)] [(1, .c (.ptr 8192 1 0)), (39, .c (.un)), (38, .c (.arr 159744 1)), (40, .c (.un)), (41, .c (.un))] [] ⟨rfl, rfl, trivial⟩ ⟨rfl, rfl, rfl, rfl, rfl, trivial⟩ rfl (kFadP rfl rfl (kLoadP rfl rfl rfl (kApp1R rfl rfl (src_encB _ _) rfl rfl rfl rfl rfl (by omega) (kMovC rfl (kDone (kMem [(159744, ⟨2, 0, .arr true _⟩)] [(2, .c (.arr 159744 2))] [] ⟨rfl, trivial⟩ ⟨rfl, trivial⟩ rfl (kRet (endRetA (ra := [.one (.own true _)]) rfl rfl)))))))))))))))))))))))))))))))))))))))))))))))))
  · rw [rdata_to h1 h2, hn, List.flatMap_nil, List.append_nil]
    refine kSeq (kReg (kBox rfl rfl rfl rfl rfl (kMovC rfl (kDone (kSeq (kBlock (kSeq (kReg (kFadP rfl rfl (kLoadP rfl rfl rfl (kBin rfl rfl rfl (kMovC rfl (kDone (kCondP rfl (fun g0 => (by omega)) (fun g0 => kSeq (kReg (kFadP rfl rfl (kLoadP rfl rfl rfl (kBin rfl rfl rfl (kMovC rfl (kDone (kCondP rfl (fun g1 => (by omega)) (fun g1 => kSeq (kReg (kMem [(8192, ⟨1, 0, .box [.d _, .d _, .d _, .d _, .d _, .d _, .d _]⟩)] [(1, .c (.ptr 8192 1 0)), (28, .c (.un)), (29, .c (.un)), (30, .c (.un))] [] ⟨rfl, trivial⟩ ⟨rfl, rfl, rfl, rfl, trivial⟩ rfl (kFadP rfl rfl (kLoadP rfl rfl rfl (kCallD (ok_spec_l3named _) ⟨rfl, trivial⟩ rfl rfl rfl rfl rfl (kMovC rfl (kDone (kCond rfl (fun g2 => kSeq (kReg (kFadP rfl rfl (kLoadP rfl rfl rfl (kCall1 true (ok_spec_l2put_nil _ (by first | assumption | omega | solve_by_elim [List.getElem_mem] | (simp only [szOut] at *; omega))) ⟨⟨rfl, rfl⟩, ⟨⟨rfl, trivial⟩, Nat.le_of_ble_eq_true rfl⟩, trivial⟩ rfl rfl rfl (fun _ => (kMovC rfl (kDone (kMem [(139264, ⟨1, 0, .arr true _⟩)] [(2, .c (.arr 139264 1))] [] ⟨rfl, trivial⟩ ⟨rfl, trivial⟩ rfl (kRet (endRetA (ra := [.one (.own true _)]) rfl rfl))))))))))) (fun g2 => (by (simp [*] at g2))))))))))))))))))))))))))))))))))

def c_spec_l3cmp : C := (.seq (.reg false (.op 0 [] (some 2) none false (.box 2 (.t 0))
  (.op 1 [] (some 3) none false (.box 3 (.t 1))
  (.op 2 [] (some 4) none false (.mov (.v (.int .i64 0)))
  .done))))
 (.seq (.reg false (.op 0 [] (some 6) none false (.fad (.t 2) 0)
  (.op 1 [] (some 7) none false (.load (some 1) (.t 6))
  (.op 2 [] (some 8) none false (.fad (.t 3) 0)
  (.op 3 [] (some 9) none false (.load (some 1) (.t 8))
  (.op 4 [] (some 10) none false (.call 10 80 [(.t 7), (.t 9)])
  (.op 5 [] (some 5) none false (.mov (.t 10))
  .done)))))))
 (.seq (.seq (.reg false (.op 0 [] (some 11) none false (.mov (.t 5))
  (.op 1 [] (some 12) none false (.bin .eql (.t 11) (.v (.int .i64 0)))
  .done)))
 (.cond (.t 12)
 (.reg false (.op 0 [] (some 13) none false (.fad (.t 2) 1)
  (.op 1 [] (some 14) none false (.load none (.t 13))
  (.op 2 [] (some 15) none false (.fad (.t 3) 1)
  (.op 3 [] (some 16) none false (.load none (.t 15))
  (.op 4 [] (some 17) none false (.call 17 183 [(.t 14), (.t 16)])
  (.op 5 [] (some 5) none false (.mov (.t 17))
  .done)))))))
 .skip))
 (.seq (.seq (.reg false (.op 0 [] (some 18) none false (.mov (.t 5))
  (.op 1 [] (some 19) none false (.bin .eql (.t 18) (.v (.int .i64 0)))
  .done)))
 (.cond (.t 19)
 (.reg true (.op 0 [] (some 20) none true (.load (some 7) (.t 2))
  (.op 2 [] (some 22) none true (.load (some 7) (.t 3))
  (.op 1 [0] (some 21) none false (.call 21 185 [(.t 20)])
  (.op 3 [2, 0] (some 23) none false (.call 23 185 [(.t 22)])
  (.op 4 [0, 2] (some 24) none false (.call 24 184 [(.t 21), (.t 23)])
  (.op 5 [] (some 5) none true (.mov (.t 24))
  .done)))))))
 .skip))
 (.seq (.reg false (.op 0 [] (some 25) none false (.mov (.t 5))
  (.op 1 [] (some 4) none false (.mov (.t 25))
  .done)))
 .ret)))))
theorem dg_spec_l3cmp : Tryz.f78.body.bind (digC Tryz.prog Tryz.f78.ntmps []) = some c_spec_l3cmp := by kernel_rfl
theorem rs_spec_l3cmp : resSlots Tryz.prog Tryz.f78 = some [.s 4] := by kernel_rfl
theorem ok_spec_l3cmp (a b : Rr) (ha : SmallR a) (hb : SmallR b) (ka : rrOk a = true) (kb : rrOk b = true) :
    FnOK Tryz.prog 78 [.agg (a.cells.map .d), .agg (b.cells.map .d)] (fun ra _ => ra = [.one (.d (.sc (.int .i64 (cmpR a b))))]) := by
  refine FnOK.ofK Tryz.func78 (by kernel_rfl) dg_spec_l3cmp rs_spec_l3cmp rfl rfl ?_
  unfold c_spec_l3cmp
  have n1 := ha.n.len
  have n2 := hb.n.len
  by_cases h1 : cmpN a.name b.name = 0
  · by_cases h2 : cmpI a.ty b.ty = 0
    · rw [show cmpR a b = cmpB (rdata a) (rdata b) by unfold cmpR; rw [if_pos h1, if_pos h2]]
      refine kSeq (kReg (kBox rfl rfl rfl rfl rfl (kBox rfl rfl rfl rfl rfl (kMovC rfl (kDone (kSeq (kReg (kFadP rfl rfl (kLoadP rfl rfl rfl (kFadP rfl rfl (kLoadP rfl rfl rfl (kCallD (ok_spec_l2cmp _ _ (by first | assumption | omega | solve_by_elim [List.getElem_mem] | (simp only [szOut] at *; omega)) (by first | assumption | omega | solve_by_elim [List.getElem_mem] | (simp only [szOut] at *; omega))) ⟨⟨⟨rfl, trivial⟩, Nat.le_of_ble_eq_true rfl⟩, ⟨⟨rfl, trivial⟩, Nat.le_of_ble_eq_true rfl⟩, trivial⟩ rfl rfl rfl rfl rfl (kMovC rfl (kDone (kSeq (kSeq (kReg (kMovC rfl (kBin rfl rfl rfl (kDone (kCondP rfl (fun g0 => kReg (kMem [(12288, ⟨1, 0, .box [.d _, .d _, .d _, .d _, .d _, .d _, .d _]⟩), (16384, ⟨1, 0, .box [.d _, .d _, .d _, .d _, .d _, .d _, .d _]⟩)] [(2, .c (.ptr 12288 1 0)), (13, .c (.un)), (3, .c (.ptr 16384 1 0)), (15, .c (.un)), (14, .c (.un)), (16, .c (.un)), (17, .c (.un))] [] ⟨rfl, rfl, trivial⟩ ⟨rfl, rfl, rfl, rfl, rfl, rfl, rfl, trivial⟩ rfl (kFadP rfl rfl (kLoadP rfl rfl rfl (kFadP rfl rfl (kLoadP rfl rfl rfl (kCallD (ok_spec_l3num _ _) ⟨rfl, rfl, trivial⟩ rfl rfl rfl rfl rfl (kMovC rfl (kDone (kSeq (kSeq (kReg (kMovC rfl (kBin rfl rfl rfl (kDone (kCondP rfl (fun g1 => kRegD (kLoadP rfl rfl rfl (kMem [(16384, ⟨1, 0, .box [.d _, .d _, .d _, .d _, .d _, .d _, .d _]⟩)] [(3, .c (.ptr 16384 1 0)), (20, .g [.d _, .d _, .d _, .d _, .d _, .d _, .d _]), (22, .c (.un)), (21, .c (.un)), (23, .c (.un)), (24, .c (.un))] [12288] ⟨rfl, trivial⟩ ⟨rfl, rfl, rfl, rfl, rfl, rfl, trivial⟩ rfl (kLoadP rfl rfl rfl (kRelK rfl rfl (kCall1 true (ok_spec_l3put _ (by first | assumption | omega | solve_by_elim [List.getElem_mem] | (simp only [szOut] at *; omega)) (by first | assumption | omega | solve_by_elim [List.getElem_mem] | (simp only [szOut] at *; omega))) ⟨⟨⟨rfl, rfl, rfl, rfl, rfl, rfl, rfl, trivial⟩, Nat.le_of_ble_eq_true rfl⟩, trivial⟩ rfl rfl rfl (fun _ => (kRelF rfl rfl (kCall1 true (ok_spec_l3put _ (by first | assumption | omega | solve_by_elim [List.getElem_mem] | (simp only [szOut] at *; omega)) (by first | assumption | omega | solve_by_elim [List.getElem_mem] | (simp only [szOut] at *; omega))) ⟨⟨⟨rfl, rfl, rfl, rfl, rfl, rfl, rfl, trivial⟩, Nat.le_of_ble_eq_true rfl⟩, trivial⟩ rfl rfl rfl (fun _ => (kRelF rfl rfl (kCallD (ok_spec_l2bytes _ _) ⟨rfl, rfl, trivial⟩ rfl rfl rfl rfl rfl (kMovC rfl (kDone (kH (kSeq (kReg (kMovC rfl (kMovC rfl (kDone (kRet (endRetA (ra := [.one (.d _)]) rfl rfl)))))))))))))))))))))) (fun g1 => (by omega)))))))))))))))))) (fun g0 => (by omega)))))))))))))))))))))))
    · rw [show cmpR a b = cmpI a.ty b.ty by unfold cmpR; rw [if_pos h1, if_neg h2]]
      refine kSeq (kReg (kBox rfl rfl rfl rfl rfl (kBox rfl rfl rfl rfl rfl (kMovC rfl (kDone (kSeq (kReg (kFadP rfl rfl (kLoadP rfl rfl rfl (kFadP rfl rfl (kLoadP rfl rfl rfl (kCallD (ok_spec_l2cmp _ _ (by first | assumption | omega | solve_by_elim [List.getElem_mem] | (simp only [szOut] at *; omega)) (by first | assumption | omega | solve_by_elim [List.getElem_mem] | (simp only [szOut] at *; omega))) ⟨⟨⟨rfl, trivial⟩, Nat.le_of_ble_eq_true rfl⟩, ⟨⟨rfl, trivial⟩, Nat.le_of_ble_eq_true rfl⟩, trivial⟩ rfl rfl rfl rfl rfl (kMovC rfl (kDone (kSeq (kSeq (kReg (kMovC rfl (kBin rfl rfl rfl (kDone (kCondP rfl (fun g0 => kReg (kMem [(12288, ⟨1, 0, .box [.d _, .d _, .d _, .d _, .d _, .d _, .d _]⟩), (16384, ⟨1, 0, .box [.d _, .d _, .d _, .d _, .d _, .d _, .d _]⟩)] [(2, .c (.ptr 12288 1 0)), (13, .c (.un)), (3, .c (.ptr 16384 1 0)), (15, .c (.un)), (14, .c (.un)), (16, .c (.un)), (17, .c (.un))] [] ⟨rfl, rfl, trivial⟩ ⟨rfl, rfl, rfl, rfl, rfl, rfl, rfl, trivial⟩ rfl (kFadP rfl rfl (kLoadP rfl rfl rfl (kFadP rfl rfl (kLoadP rfl rfl rfl (kCallD (ok_spec_l3num _ _) ⟨rfl, rfl, trivial⟩ rfl rfl rfl rfl rfl (kMovC rfl (kDone (kSeq (kSeq (kReg (kMovC rfl (kBin rfl rfl rfl (kDone (kCondP rfl (fun g1 => (by omega)) (fun g1 => kSkip (kSeq (kReg (kMovC rfl (kMovC rfl (kDone (kRet (endRetA (ra := [.one (.d _)]) rfl rfl)))))))))))))))))))))))) (fun g0 => (by omega)))))))))))))))))))))))
  · rw [show cmpR a b = cmpN a.name b.name by unfold cmpR; rw [if_neg h1]]
    refine kSeq (kReg (kBox rfl rfl rfl rfl rfl (kBox rfl rfl rfl rfl rfl (kMovC rfl (kDone (kSeq (kReg (kFadP rfl rfl (kLoadP rfl rfl rfl (kFadP rfl rfl (kLoadP rfl rfl rfl (kCallD (ok_spec_l2cmp _ _ (by first | assumption | omega | solve_by_elim [List.getElem_mem] | (simp only [szOut] at *; omega)) (by first | assumption | omega | solve_by_elim [List.getElem_mem] | (simp only [szOut] at *; omega))) ⟨⟨⟨rfl, trivial⟩, Nat.le_of_ble_eq_true rfl⟩, ⟨⟨rfl, trivial⟩, Nat.le_of_ble_eq_true rfl⟩, trivial⟩ rfl rfl rfl rfl rfl (kMovC rfl (kDone (kSeq (kSeq (kReg (kMovC rfl (kBin rfl rfl rfl (kDone (kCondP rfl (fun g0 => (by omega)) (fun g0 => kSkip (kSeq (kSeq (kReg (kMovC rfl (kBin rfl rfl rfl (kDone (kCondP rfl (fun g1 => (by omega)) (fun g1 => kSkip (kSeq (kReg (kMovC rfl (kMovC rfl (kDone (kRet (endRetA (ra := [.one (.d _)]) rfl rfl)))))))))))))))))))))))))))))))))))))

def c_spec_l5alone : C := (.seq (.reg false (.op 0 [] (some 4) none false (.mov (.v (.bool false)))
  .done))
 (.seq (.seq (.reg false (.op 0 [] (some 6) none false (.mov (.t 0))
  (.op 1 [] (some 7) none false (.mov (.t 1))
  (.op 2 [] (some 8) none false (.iad 7 (.t 6) (.t 7))
  (.op 3 [] (some 9) none false (.fad (.t 8) 1)
  (.op 4 [] (some 10) none false (.load none (.t 9))
  (.op 5 [] (some 11) none false (.bin .neq (.t 10) (.v (.int .i64 5)))
  .done)))))))
 (.cond (.t 11)
 (.seq (.reg false (.op 0 [] (some 4) none false (.mov (.v (.bool true)))
  .done))
 .ret)
 .skip))
 (.seq (.seq (.reg false (.op 0 [] (some 5) none false (.mov (.v (.int .i64 0)))
  .done))
 (.block 0 (.loop (.seq (.seq (.reg false (.op 0 [] (some 12) none false (.mov (.t 5))
  (.op 1 [] (some 13) none false (.mov (.t 0))
  (.op 2 [] (some 14) none false (.len (.t 13))
  (.op 3 [] (some 15) none false (.bin .lss (.t 12) (.t 14))
  .done)))))
 (.cond (.t 15)
 .skip
 (.exit 0)))
 (.seq (.block 1 (.seq (.reg true (.op 0 [] (some 18) none true (.mov (.t 5))
  (.op 1 [] (some 19) none true (.mov (.t 1))
  (.op 2 [] (some 20) none true (.bin .neq (.t 18) (.t 19))
  (.op 3 [] (some 21) none true (.mov (.t 20))
  (.op 4 [] (some 22) (some (21, true)) true (.mov (.t 0))
  (.op 5 [] (some 23) (some (21, true)) true (.mov (.t 5))
  (.op 6 [] (some 24) (some (21, true)) true (.iad 7 (.t 22) (.t 23))
  (.op 7 [] (some 25) (some (21, true)) true (.fad (.t 24) 0)
  (.op 8 [] (some 26) (some (21, true)) true (.load (some 1) (.t 25))
  (.op 9 [] (some 27) (some (21, true)) true (.mov (.t 0))
  (.op 10 [] (some 28) (some (21, true)) true (.mov (.t 1))
  (.op 11 [] (some 29) (some (21, true)) true (.iad 7 (.t 27) (.t 28))
  (.op 12 [] (some 30) (some (21, true)) true (.fad (.t 29) 0)
  (.op 13 [] (some 31) (some (21, true)) true (.load (some 1) (.t 30))
  (.op 14 [8, 13] (some 32) (some (21, true)) false (.call 32 80 [(.t 26), (.t 31)])
  (.op 15 [] (some 33) (some (21, true)) true (.bin .eql (.t 32) (.v (.int .i64 0)))
  (.op 16 [] (some 34) none true (.pick (.t 21) (.t 33) (.v (.bool false)))
  .done))))))))))))))))))
 (.cond (.t 34)
 (.seq (.reg false (.op 0 [] (some 4) none false (.mov (.v (.bool false)))
  .done))
 .ret)
 .skip)))
 (.reg false (.op 0 [] (some 16) none false (.mov (.t 5))
  (.op 1 [] (some 17) none false (.bin .add (.t 16) (.v (.int .i64 1)))
  (.op 2 [] (some 5) none false (.mov (.t 17))
  .done)))))))))
 (.seq (.reg false (.op 0 [] (some 4) none false (.mov (.v (.bool true)))
  .done))
 .ret))))
theorem dg_spec_l5alone : Tryz.f79.body.bind (digC Tryz.prog Tryz.f79.ntmps []) = some c_spec_l5alone := by kernel_rfl
theorem rs_spec_l5alone : resSlots Tryz.prog Tryz.f79 = some [.s 4] := by kernel_rfl
theorem ok_spec_l5alone (l : List Rr) (i : Nat) (hs : SmallRs l) (hi : i < l.length) :
    FnOK Tryz.prog 79 [.one (.d (encR l)), .one (.d (.sc (.int .i64 i)))] (fun ra _ => ra = [.one (.d (.sc (.bool (aloneR l i))))]) := by
  refine FnOK.ofK Tryz.func79 (by kernel_rfl) dg_spec_l5alone rs_spec_l5alone rfl rfl ?_
  unfold c_spec_l5alone
  have h1 := hs.len
  have hbi := hs.mem _ (List.getElem_mem hi)
  have n1 := hbi.n.len
  by_cases p : l[i].ty = 5
  · refine kSeq (kReg (kMovC rfl (kDone (kSeq (kSeq (kReg (kMovC rfl (kMovC rfl (kIadR rfl rfl rfl (by omega) (kFadD rfl (kLoadD rfl rfl (kBin rfl rfl rfl (kDone (kCondIN rfl (fun g0 => (by omega)) (fun g0 => kSkip (kSeq (kSeq (kReg (kMovC rfl (kDone (kBlock ?_)))))))))))))))))))))
    refine kLoop (α := { k : Nat // k ≤ l.length ∧ ∀ j, (h : j < k) → (h' : j < l.length) → j ≠ i → l[j].name ≠ l[i].name }) (fun y => ⟨tabSl [(0, .dv (encR l)), (1, .i i), (5, .i y.1)], obTab 1 [], []⟩) (fun y => l.length - y.1) ⟨0, by simp, fun _ h => by omega⟩ .normA ?_
    rintro ⟨k, hk, hn⟩
    simp only
    rcases Nat.lt_or_ge k l.length with hlt | hge
    · have hbk := hs.mem _ (List.getElem_mem hlt)
      have n2 := hbk.n.len
      have hz := cmpN_zero l[k].name l[i].name
      by_cases p1 : k = i
      · refine kSeq (kSeq (kReg (kMovC rfl (kMovC rfl (kLenR rfl rfl (kBin rfl rfl rfl (kDone (kCondP rfl (fun g0 => kSkip (kSeq (kBlock (kSeq (kRegD (kMovC rfl (kMovC rfl (kBin rfl rfl rfl (kMovC rfl (kGIN rfl (fun g1 => (by omega)) (fun g1 => kGF rfl (kGF rfl (kGF rfl (kGF rfl (kGF rfl (kGF rfl (kGF rfl (kGF rfl (kGF rfl (kGF rfl (kRelF rfl rfl (kGF rfl (kGF rfl (kPickF rfl (kMovC rfl (kDone (kH (kCondF rfl (kSkip (kBk (kReg (kMovC rfl (kAdd rfl rfl (by omega) (kMovC rfl (kDone ?_))))))))))))))))))))))))))))))))))) (fun g0 => (by omega))))))))))
        refine kInv ⟨⟨k + 1, by omega, fun j h h' hne => hn j (by omega) h' hne⟩, by simp only; omega, .normA⟩
      · by_cases p2 : l[k].name = l[i].name
        · have hc : cmpN l[k].name l[i].name = 0 := by simpa [p2] using hz
          rw [show aloneR l i = false by rw [aloneR_no hi p hlt p1 p2]]
          refine kSeq (kSeq (kReg (kMovC rfl (kMovC rfl (kLenR rfl rfl (kBin rfl rfl rfl (kDone (kCondP rfl (fun g0 => kSkip (kSeq (kBlock (kSeq (kRegD (kMovC rfl (kMovC rfl (kBin rfl rfl rfl (kMovC rfl (kGIN rfl (fun g1 => kGT rfl (kMovC rfl (kGT rfl (kMovC rfl (kGT rfl (kIadR rfl rfl rfl (by omega) (kGT rfl (kFadD rfl (kGT rfl (kLoadD rfl rfl (kGT rfl (kMovC rfl (kGT rfl (kMovC rfl (kGT rfl (kIadR rfl rfl rfl (by omega) (kGT rfl (kFadD rfl (kGT rfl (kLoadD rfl rfl (kRelF rfl rfl (kGT rfl (kCallD (ok_spec_l2cmp _ _ (by first | assumption | omega | solve_by_elim [List.getElem_mem] | (simp only [szOut] at *; omega)) (by first | assumption | omega | solve_by_elim [List.getElem_mem] | (simp only [szOut] at *; omega))) ⟨⟨⟨rfl, trivial⟩, Nat.le_of_ble_eq_true rfl⟩, ⟨⟨rfl, trivial⟩, Nat.le_of_ble_eq_true rfl⟩, trivial⟩ rfl rfl rfl rfl rfl (kGT rfl (kBin rfl rfl rfl (kPickT rfl (kMovC rfl (kDone (kH (kCondP rfl (fun g2 => kSeq (kReg (kMovC rfl (kDone (kRet (endRetA (ra := [.one (.d _)]) rfl rfl)))))) (fun g2 => (by omega)))))))))))))))))))))))))))))))) (fun g1 => (by omega)))))))))))) (fun g0 => (by omega))))))))))
        · have hc : cmpN l[k].name l[i].name ≠ 0 := by simpa [p2] using hz
          refine kSeq (kSeq (kReg (kMovC rfl (kMovC rfl (kLenR rfl rfl (kBin rfl rfl rfl (kDone (kCondP rfl (fun g0 => kSkip (kSeq (kBlock (kSeq (kRegD (kMovC rfl (kMovC rfl (kBin rfl rfl rfl (kMovC rfl (kGIN rfl (fun g1 => kGT rfl (kMovC rfl (kGT rfl (kMovC rfl (kGT rfl (kIadR rfl rfl rfl (by omega) (kGT rfl (kFadD rfl (kGT rfl (kLoadD rfl rfl (kGT rfl (kMovC rfl (kGT rfl (kMovC rfl (kGT rfl (kIadR rfl rfl rfl (by omega) (kGT rfl (kFadD rfl (kGT rfl (kLoadD rfl rfl (kRelF rfl rfl (kGT rfl (kCallD (ok_spec_l2cmp _ _ (by first | assumption | omega | solve_by_elim [List.getElem_mem] | (simp only [szOut] at *; omega)) (by first | assumption | omega | solve_by_elim [List.getElem_mem] | (simp only [szOut] at *; omega))) ⟨⟨⟨rfl, trivial⟩, Nat.le_of_ble_eq_true rfl⟩, ⟨⟨rfl, trivial⟩, Nat.le_of_ble_eq_true rfl⟩, trivial⟩ rfl rfl rfl rfl rfl (kGT rfl (kBin rfl rfl rfl (kPickT rfl (kMovC rfl (kDone (kH (kCondP rfl (fun g2 => (by omega)) (fun g2 => kSkip (kBk (kReg (kMovC rfl (kAdd rfl rfl (by omega) (kMovC rfl (kDone ?_))))))))))))))))))))))))))))))))))))) (fun g1 => (by omega)))))))))))) (fun g0 => (by omega))))))))))
          refine kInv ⟨⟨k + 1, by omega, fun j h h' hne => ?_⟩, by simp only; omega, .normA⟩
          by_cases e : j = k
          · subst e; exact p2
          · exact hn j (by omega) h' hne
    · rw [show aloneR l i = true by exact aloneR_yes hi fun j h' hne => hn j (by omega) h' hne]
      refine kSeq (kSeq (kReg (kMovC rfl (kMovC rfl (kLenR rfl rfl (kBin rfl rfl rfl (kDone (kCondP rfl (fun g0 => (by omega)) (fun g0 => kExit (kExC (kExI (kExB (kSeq (kReg (kMovC rfl (kDone (kRet (endRetA (ra := [.one (.d _)]) rfl rfl))))))))))))))))))
  · rw [show aloneR l i = true by exact aloneR_ty hi p]
    refine kSeq (kReg (kMovC rfl (kDone (kSeq (kSeq (kReg (kMovC rfl (kMovC rfl (kIadR rfl rfl rfl (by omega) (kFadD rfl (kLoadD rfl rfl (kBin rfl rfl rfl (kDone (kCondIN rfl (fun g0 => kSeq (kReg (kMovC rfl (kDone (kRet (endRetA (ra := [.one (.d _)]) rfl rfl)))))) (fun g0 => (by omega))))))))))))))))

def c_spec_ZoneOk : C := (.seq (.reg false (.op 0 [] (some 1) none false (.box 1 (.t 0))
  (.op 1 [] (some 2) none false (.mov (.v (.bool false)))
  .done)))
 (.seq (.seq (.reg false (.op 0 [] (some 6) none false (.fad (.t 1) 0)
  (.op 1 [] (some 7) none false (.load (some 1) (.t 6))
  (.op 2 [] (some 8) none false (.call 8 15 [(.t 7)])
  (.op 3 [] (some 9) none false (.un .not (.t 8))
  (.op 4 [] (some 10) none false (.mov (.t 9))
  (.op 5 [] (some 11) (some (10, false)) false (.fad (.t 1) 1)
  (.op 6 [] (some 12) (some (10, false)) false (.load none (.t 11))
  (.op 7 [] (some 13) (some (10, false)) false (.len (.t 12))
  (.op 8 [] (some 14) (some (10, false)) false (.bin .gtr (.t 13) (.v (.int .i64 60)))
  (.op 9 [] (some 15) none false (.pick (.t 10) (.v (.bool true)) (.t 14))
  .done)))))))))))
 (.cond (.t 15)
 (.seq (.reg false (.op 0 [] (some 2) none false (.mov (.v (.bool false)))
  .done))
 .ret)
 .skip))
 (.seq (.reg false (.op 0 [] (some 3) none false (.mov (.v (.int .i64 0)))
  .done))
 (.seq (.seq (.reg false (.op 0 [] (some 4) none false (.mov (.v (.int .i64 0)))
  .done))
 (.block 0 (.loop (.seq (.seq (.reg false (.op 0 [] (some 16) none false (.mov (.t 4))
  (.op 1 [] (some 17) none false (.fad (.t 1) 1)
  (.op 2 [] (some 18) none false (.load none (.t 17))
  (.op 3 [] (some 19) none false (.len (.t 18))
  (.op 4 [] (some 20) none false (.bin .lss (.t 16) (.t 19))
  .done))))))
 (.cond (.t 20)
 .skip
 (.exit 0)))
 (.seq (.block 1 (.seq (.reg false (.op 0 [] (some 23) none false (.fad (.t 1) 1)
  (.op 1 [] (some 24) none false (.load none (.t 23))
  (.op 2 [] (some 25) none false (.mov (.t 4))
  (.op 3 [] (some 26) none false (.iad 7 (.t 24) (.t 25))
  (.op 4 [] (some 27) none false (.load (some 7) (.t 26))
  (.op 5 [] (some 5) none false (.alloc 5 [(.n 1), (.v (.int .i64 0)), (.v (.int .i64 0)), (.v (.int .i64 0)), (.n 1), (.n 1), (.n 1)])
  (.op 6 [] none none false (.store (some 7) (.t 5) (.t 27))
  .done))))))))
 (.seq (.seq (.reg true (.op 0 [] (some 28) none true (.load (some 7) (.t 5))
  (.op 1 [0] (some 29) none false (.call 29 76 [(.t 28)])
  (.op 2 [] (some 30) none true (.un .not (.t 29))
  (.op 3 [] (some 31) none true (.mov (.t 30))
  (.op 4 [] (some 32) (some (31, false)) true (.fad (.t 5) 0)
  (.op 5 [] (some 33) (some (31, false)) true (.load (some 1) (.t 32))
  (.op 6 [] (some 34) (some (31, false)) true (.fad (.t 1) 0)
  (.op 7 [] (some 35) (some (31, false)) true (.load (some 1) (.t 34))
  (.op 8 [5, 0, 7] (some 36) (some (31, false)) false (.call 36 77 [(.t 33), (.t 35)])
  (.op 9 [] (some 37) (some (31, false)) true (.un .not (.t 36))
  (.op 10 [] (some 38) none true (.pick (.t 31) (.v (.bool true)) (.t 37))
  (.op 11 [] (some 39) none true (.mov (.t 38))
  (.op 12 [] (some 40) (some (39, false)) true (.mov (.t 4))
  (.op 13 [] (some 41) (some (39, false)) true (.bin .gtr (.t 40) (.v (.int .i64 0)))
  (.op 14 [] (some 42) (some (39, false)) true (.mov (.t 41))
  (.op 15 [] (some 43) (some (42, true)) true (.fad (.t 1) 1)
  (.op 16 [] (some 44) (some (42, true)) true (.load none (.t 43))
  (.op 17 [] (some 45) (some (42, true)) true (.mov (.t 4))
  (.op 18 [] (some 46) (some (42, true)) true (.bin .sub (.t 45) (.v (.int .i64 1)))
  (.op 19 [] (some 47) (some (42, true)) true (.iad 7 (.t 44) (.t 46))
  (.op 20 [] (some 48) (some (42, true)) true (.load (some 7) (.t 47))
  (.op 21 [] (some 49) (some (42, true)) true (.load (some 7) (.t 5))
  (.op 22 [20, 16, 5, 7, 21, 0] (some 50) (some (42, true)) false (.call 50 78 [(.t 48), (.t 49)])
  (.op 23 [] (some 51) (some (42, true)) true (.bin .geq (.t 50) (.v (.int .i64 0)))
  (.op 24 [] (some 52) (some (39, false)) true (.pick (.t 42) (.t 51) (.v (.bool false)))
  (.op 25 [] (some 53) none true (.pick (.t 39) (.v (.bool true)) (.t 52))
  (.op 26 [] (some 54) none true (.mov (.t 53))
  (.op 27 [] (some 55) (some (54, false)) true (.fad (.t 1) 1)
  (.op 28 [] (some 56) (some (54, false)) true (.load none (.t 55))
  (.op 29 [] (some 57) (some (54, false)) true (.mov (.t 4))
  (.op 30 [28, 20, 21, 5, 7, 16] (some 58) (some (54, false)) false (.call 58 79 [(.t 56), (.t 57)])
  (.op 31 [] (some 59) (some (54, false)) true (.un .not (.t 58))
  (.op 32 [] (some 60) none true (.pick (.t 54) (.v (.bool true)) (.t 59))
  .done))))))))))))))))))))))))))))))))))
 (.cond (.t 60)
 (.seq (.reg false (.op 0 [] (some 2) none false (.mov (.v (.bool false)))
  .done))
 .ret)
 .skip))
 (.seq (.reg false (.op 0 [] (some 61) none false (.fad (.t 5) 1)
  (.op 1 [] (some 62) none false (.load none (.t 61))
  (.op 2 [] (some 63) none false (.bin .eql (.t 62) (.v (.int .i64 6)))
  .done))))
 (.cond (.t 63)
 (.seq (.reg false (.op 0 [] (some 64) none false (.mov (.t 3))
  (.op 1 [] (some 65) none false (.bin .add (.t 64) (.v (.int .i64 1)))
  (.op 2 [] (some 3) none false (.mov (.t 65))
  .done))))
 (.seq (.reg false (.op 0 [] (some 66) none false (.fad (.t 5) 0)
  (.op 1 [] (some 67) none false (.load (some 1) (.t 66))
  (.op 2 [] (some 68) none false (.fad (.t 1) 0)
  (.op 3 [] (some 69) none false (.load (some 1) (.t 68))
  (.op 4 [] (some 70) none false (.call 70 80 [(.t 67), (.t 69)])
  (.op 5 [] (some 71) none false (.bin .neq (.t 70) (.v (.int .i64 0)))
  .done)))))))
 (.cond (.t 71)
 (.seq (.reg false (.op 0 [] (some 2) none false (.mov (.v (.bool false)))
  .done))
 .ret)
 .skip)))
 .skip)))))
 (.reg false (.op 0 [] (some 21) none false (.mov (.t 4))
  (.op 1 [] (some 22) none false (.bin .add (.t 21) (.v (.int .i64 1)))
  (.op 2 [] (some 4) none false (.mov (.t 22))
  .done)))))))))
 (.seq (.reg false (.op 0 [] (some 72) none false (.mov (.t 3))
  (.op 1 [] (some 73) none false (.bin .eql (.t 72) (.v (.int .i64 1)))
  (.op 2 [] (some 2) none false (.mov (.t 73))
  .done))))
 .ret)))))
theorem dg_spec_ZoneOk : Tryz.f14.body.bind (digC Tryz.prog Tryz.f14.ntmps []) = some c_spec_ZoneOk := by kernel_rfl
theorem rs_spec_ZoneOk : resSlots Tryz.prog Tryz.f14 = some [.s 2] := by kernel_rfl
theorem ok_spec_ZoneOk (z : Zone) (hs : SmallZ z) :
    FnOK Tryz.prog 14 [.agg (z.cells.map .d)] (fun ra _ => ra = [.one (.d (.sc (.bool (zoneOk z))))]) := by
  refine FnOK.ofK Tryz.func14 (by kernel_rfl) dg_spec_ZoneOk rs_spec_ZoneOk rfl rfl ?_
  unfold c_spec_ZoneOk
  have o1 := hs.o.len
  have o2 := hs.o.mem
  have h1 := hs.r.len
  have hm := hs.r.mem
  have hr := hs.r
  cases a1 : nameOk z.origin
  · rw [show zoneOk z = false by unfold zoneOk; rw [a1]; rfl]
    refine kSeq (kReg (kBox rfl rfl rfl rfl rfl (kMovC rfl (kDone (kSeq (kSeq (kReg (kFadP rfl rfl (kLoadP rfl rfl rfl (kCallD (ok_spec_NameOk _ (by first | assumption | omega | solve_by_elim [List.getElem_mem] | (simp only [szOut] at *; omega)) (by first | assumption | omega | solve_by_elim [List.getElem_mem] | (simp only [szOut] at *; omega))) ⟨⟨⟨rfl, trivial⟩, Nat.le_of_ble_eq_true rfl⟩, trivial⟩ rfl rfl rfl rfl rfl (kUn rfl rfl (kMovC rfl (kGN rfl (fun g0 => kGF rfl (kGF rfl (kGF rfl (kGF rfl (kPickT rfl (kMovC rfl (kDone (kCondT rfl (kSeq (kReg (kMovC rfl (kDone (kRet (endRetA (ra := [.one (.d _)]) rfl rfl)))))))))))))) (fun g0 => (by (simp [*] at g0))))))))))))))))
  by_cases a2 : z.rrs.length ≤ 60
  case neg =>
    rw [show zoneOk z = false by unfold zoneOk; rw [decide_eq_false a2]; simp]
    refine kSeq (kReg (kBox rfl rfl rfl rfl rfl (kMovC rfl (kDone (kSeq (kSeq (kReg (kFadP rfl rfl (kLoadP rfl rfl rfl (kCallD (ok_spec_NameOk _ (by first | assumption | omega | solve_by_elim [List.getElem_mem] | (simp only [szOut] at *; omega)) (by first | assumption | omega | solve_by_elim [List.getElem_mem] | (simp only [szOut] at *; omega))) ⟨⟨⟨rfl, trivial⟩, Nat.le_of_ble_eq_true rfl⟩, trivial⟩ rfl rfl rfl rfl rfl (kUn rfl rfl (kMovC rfl (kGN rfl (fun g0 => (by (simp [*] at g0))) (fun g0 => kGT rfl (kFadP rfl rfl (kGT rfl (kLoadP rfl rfl rfl (kGT rfl (kLenR rfl rfl (kGT rfl (kBin rfl rfl rfl (kPickF rfl (kMovC rfl (kDone (kCondP rfl (fun g1 => kSeq (kReg (kMovC rfl (kDone (kRet (endRetA (ra := [.one (.d _)]) rfl rfl)))))) (fun g1 => (by omega)))))))))))))))))))))))))))
  refine kSeq (kReg (kBox rfl rfl rfl rfl rfl (kMovC rfl (kDone (kSeq (kSeq (kReg (kFadP rfl rfl (kLoadP rfl rfl rfl (kCallD (ok_spec_NameOk _ (by first | assumption | omega | solve_by_elim [List.getElem_mem] | (simp only [szOut] at *; omega)) (by first | assumption | omega | solve_by_elim [List.getElem_mem] | (simp only [szOut] at *; omega))) ⟨⟨⟨rfl, trivial⟩, Nat.le_of_ble_eq_true rfl⟩, trivial⟩ rfl rfl rfl rfl rfl (kUn rfl rfl (kMovC rfl (kGN rfl (fun g0 => (by (simp [*] at g0))) (fun g0 => kGT rfl (kFadP rfl rfl (kGT rfl (kLoadP rfl rfl rfl (kGT rfl (kLenR rfl rfl (kGT rfl (kBin rfl rfl rfl (kPickF rfl (kMovC rfl (kDone (kCondP rfl (fun g1 => (by omega)) (fun g1 => kSkip (kSeq (kReg (kMovC rfl (kDone (kSeq (kSeq (kReg (kMovC rfl (kDone (kBlock ?_))))))))))))))))))))))))))))))))))))
  refine kLoop (α := { i : Nat // i ≤ z.rrs.length ∧ (List.range i).all (zAt z) = true ∧ (z.rrs.take i).all rrOk = true }) (fun y => ⟨tabSl [(1, .c (.ptr (rid 1 0) 1 0)), (3, .i (zTops (z.rrs.take y.1))), (4, .i y.1)], obTab 1 [(rid 1 0, ⟨1, 0, .box (z.cells.map .d)⟩)], []⟩) (fun y => z.rrs.length - y.1) ⟨0, by simp⟩ .normA ?_
  rintro ⟨i, hi, hz, hal⟩
  simp only
  have ht := zTops_le z.rrs i
  rcases Nat.lt_or_ge i z.rrs.length with hlt | hge
  · have hbi := hm _ (List.getElem_mem hlt)
    have n1 := hbi.n.len
    have n2 := hbi.n.mem
    have hts := zTops_succ z.rrs i hlt
    have hq := zAt_eq hlt
    have hcz := cmpN_zero z.rrs[i].name z.origin
    cases hk : rrOk z.rrs[i]
    · rw [show zoneOk z = false by unfold zoneOk; rw [all_no hlt hk]; simp]
      refine kSeq (kSeq (kReg (kMovC rfl (kFadP rfl rfl (kLoadP rfl rfl rfl (kLenR rfl rfl (kBin rfl rfl rfl (kDone (kCondP rfl (fun g0 => kSkip (kSeq (kBlock (kSeq (kReg (kFadP rfl rfl (kLoadP rfl rfl rfl (kMovC rfl (kIadR rfl rfl rfl (by omega) (kLoadD rfl rfl (kAlloc rfl rfl (kMem [(24576, ⟨2, 0, .box [.nil 1, .d _, .d _, .d _, .nil 1, .nil 1, .nil 1]⟩)] [(5, .c (.ptr 24576 2 0)), (27, .g [.d _, .d _, .d _, .d _, .d _, .d _, .d _])] [] ⟨rfl, trivial⟩ ⟨rfl, rfl, trivial⟩ rfl (kStoreP rfl rfl rfl rfl (kDone (kSeq (kSeq (kRegD (kLoadP rfl rfl rfl (kRelF rfl rfl (kCallD (ok_spec_RrOk _ (by first | assumption | omega | solve_by_elim [List.getElem_mem] | (simp only [szOut] at *; omega))) ⟨⟨⟨rfl, rfl, rfl, rfl, rfl, rfl, rfl, trivial⟩, Nat.le_of_ble_eq_true rfl⟩, trivial⟩ rfl rfl rfl rfl rfl (kUn rfl rfl (kMovC rfl (kGN rfl (fun g1 => kGF rfl (kGF rfl (kGF rfl (kGF rfl (kRelF rfl rfl (kGF rfl (kGF rfl (kPickT rfl (kMovC rfl (kMovC rfl (kGF rfl (kGF rfl (kGF rfl (kGU rfl (kGU rfl (kGU rfl (kGU rfl (kGU rfl (kMem [(24576, ⟨2, 0, .box [.d _, .d _, .d _, .d _, .d _, .d _, .d _]⟩), (8192, ⟨1, 0, .box [.d _, .d _]⟩)] [(47, .c (.un)), (5, .c (.ptr 24576 2 0)), (42, .c (.un)), (39, .c (.d _)), (1, .c (.ptr 8192 1 0)), (4, .c (.d _))] [] ⟨rfl, rfl, trivial⟩ ⟨rfl, rfl, rfl, rfl, rfl, rfl, trivial⟩ rfl (kGU rfl (kGU rfl (kRelF rfl rfl (kGU rfl (kGU rfl (kGF rfl (kPickT rfl (kMovC rfl (kMovC rfl (kGF rfl (kGF rfl (kGF rfl (kRelF rfl rfl (kGF rfl (kGF rfl (kPickT rfl (kMovC rfl (kDone (kH (kCondT rfl (kSeq (kReg (kMovC rfl (kDone (kRet (endRetA (ra := [.one (.d _)]) rfl rfl))))))))))))))))))))))))))))))))))))))))))))) (fun g1 => (by (simp [*] at g1)))))))))))))))))))))))))) (fun g0 => (by omega)))))))))))
    have kp : rrOk (z.rrs[((i : Int) - 1).toNat]'(by omega)) = true := by
      rcases Nat.eq_zero_or_pos i with h0 | h0
      · have e : ((i : Int) - 1).toNat = i := by omega
        simp only [e]; exact hk
      · have e : ((i : Int) - 1).toNat = i - 1 := by omega
        simp only [e]
        exact List.all_eq_true.1 hal _ (by rw [List.mem_take_iff_getElem]; exact ⟨i - 1, by omega, rfl⟩)
    refine kSeq ?_
    refine kSeq (kReg (kMovC rfl (kFadP rfl rfl (kLoadP rfl rfl rfl (kLenR rfl rfl (kBin rfl rfl rfl (kDone (kCondP rfl (fun g0 => kSkip (kSeq (kBlock (kSeq (kReg (kFadP rfl rfl (kLoadP rfl rfl rfl (kMovC rfl (kIadR rfl rfl rfl (by omega) (kLoadD rfl rfl (kAlloc rfl rfl (kMem [(24576, ⟨2, 0, .box [.nil 1, .d _, .d _, .d _, .nil 1, .nil 1, .nil 1]⟩)] [(5, .c (.ptr 24576 2 0)), (27, .g [.d _, .d _, .d _, .d _, .d _, .d _, .d _])] [] ⟨rfl, trivial⟩ ⟨rfl, rfl, trivial⟩ rfl (kStoreP rfl rfl rfl rfl (kDone (kSeq (kSeq (kRegD (kLoadP rfl rfl rfl (kRelF rfl rfl (kCallD (ok_spec_RrOk _ (by first | assumption | omega | solve_by_elim [List.getElem_mem] | (simp only [szOut] at *; omega))) ⟨⟨⟨rfl, rfl, rfl, rfl, rfl, rfl, rfl, trivial⟩, Nat.le_of_ble_eq_true rfl⟩, trivial⟩ rfl rfl rfl rfl rfl (kUn rfl rfl (kMovC rfl (kGN rfl (fun g1 => (by (simp [*] at g1))) (fun g1 => kGT rfl (kFadP rfl rfl (kGT rfl (kLoadP rfl rfl rfl (kGT rfl (kFadP rfl rfl (kGT rfl (kLoadP rfl rfl rfl (kRelF rfl rfl (kGT rfl (kCallD (ok_spec_l2under _ _ (by first | assumption | omega | solve_by_elim [List.getElem_mem] | (simp only [szOut] at *; omega)) (by first | assumption | omega | solve_by_elim [List.getElem_mem] | (simp only [szOut] at *; omega))) ⟨⟨⟨rfl, trivial⟩, Nat.le_of_ble_eq_true rfl⟩, ⟨⟨rfl, trivial⟩, Nat.le_of_ble_eq_true rfl⟩, trivial⟩ rfl rfl rfl rfl rfl (kGT rfl (kUn rfl rfl (kPickF rfl (kMovC rfl (kMovC rfl (kGN rfl (fun g2 => kGF rfl (kGF rfl (kGF rfl (kGU rfl (kGU rfl (kGU rfl (kGU rfl (kMem [(24576, ⟨2, 0, .box [.d _, .d _, .d _, .d _, .d _, .d _, .d _]⟩), (8192, ⟨1, 0, .box [.d _, .d _]⟩)] [(44, .c (.un)), (46, .c (.un)), (5, .c (.ptr 24576 2 0)), (42, .c (.un)), (39, .c (.d _)), (1, .c (.ptr 8192 1 0)), (4, .c (.d _))] [] ⟨rfl, rfl, trivial⟩ ⟨rfl, rfl, rfl, rfl, rfl, rfl, rfl, trivial⟩ rfl (kGU rfl (kGU rfl (kGU rfl (kRelF rfl rfl (kGU rfl (kGU rfl (kGF rfl (kPickT rfl (kMovC rfl (kMovC rfl (kGF rfl (kGF rfl (kGF rfl (kRelF rfl rfl (kGF rfl (kGF rfl (kPickT rfl (kMovC rfl (kDone (kH (kCondT rfl (kSeq (kReg (kMovC rfl (kDone (kRet (endRetA (ra := [.one (.d _)]) rfl ?_))))))))))))))))))))))))))))))))))) (fun g2 => kGT rfl (kMovC rfl (kGT rfl (kBin rfl rfl rfl (kGT rfl (kMovC rfl (kGP rfl (fun g3 => kGT rfl (kFadP rfl rfl (kGT rfl (kLoadP rfl rfl rfl (kMem [(24576, ⟨2, 0, .box [.d _, .d _, .d _, .d _, .d _, .d _, .d _]⟩), (8192, ⟨1, 0, .box [.d _, .d _]⟩)] [(4, .c (.d _)), (44, .c (.d _)), (5, .c (.ptr 24576 2 0)), (42, .c (.d _)), (39, .c (.d _)), (1, .c (.ptr 8192 1 0))] [8192] ⟨rfl, rfl, trivial⟩ ⟨rfl, rfl, rfl, rfl, rfl, rfl, trivial⟩ rfl (kGT rfl (kMovC rfl (kGT rfl (kDif rfl rfl (by omega) (kGT rfl (kIadT rfl rfl (by omega) (kGT rfl (kLoadD rfl rfl (kGT rfl (kLoadP rfl rfl rfl (kRelF rfl rfl (kGT rfl (kCallD (ok_spec_l3cmp _ _ (by first | assumption | omega | solve_by_elim [List.getElem_mem] | (simp only [szOut] at *; omega)) (by first | assumption | omega | solve_by_elim [List.getElem_mem] | (simp only [szOut] at *; omega)) (by first | assumption | omega | solve_by_elim [List.getElem_mem] | (simp only [szOut] at *; omega)) (by first | assumption | omega | solve_by_elim [List.getElem_mem] | (simp only [szOut] at *; omega))) ⟨⟨⟨rfl, rfl, rfl, rfl, rfl, rfl, rfl, trivial⟩, Nat.le_of_ble_eq_true rfl⟩, ⟨⟨rfl, rfl, rfl, rfl, rfl, rfl, rfl, trivial⟩, Nat.le_of_ble_eq_true rfl⟩, trivial⟩ rfl rfl rfl rfl rfl (kGT rfl (kBin rfl rfl rfl (kGT rfl (kPickT rfl (kMovC rfl (kPickF rfl (kMovC rfl (kMovC rfl (kGP rfl (fun g4 => kGF rfl (kGF rfl (kGF rfl (kRelF rfl rfl (kGF rfl (kGF rfl (kPickT rfl (kMovC rfl (kDone (kH (kCondT rfl (kSeq (kReg (kMovC rfl (kDone (kRet (endRetA (ra := [.one (.d _)]) rfl ?_))))))))))))))))) (fun g4 => kGT rfl (kFadP rfl rfl (kGT rfl (kLoadP rfl rfl rfl (kGT rfl (kMovC rfl (kRelF rfl rfl (kGT rfl (kCallD (ok_spec_l5alone _ _ (by first | assumption | omega | solve_by_elim [List.getElem_mem] | (simp only [szOut] at *; omega)) (by first | assumption | omega | solve_by_elim [List.getElem_mem] | (simp only [szOut] at *; omega))) ⟨rfl, rfl, trivial⟩ rfl rfl rfl rfl rfl (kGT rfl (kUn rfl rfl (kPickF rfl (kMovC rfl (kDone (kH (kCondN rfl (fun g5 => kSeq (kReg (kMovC rfl (kDone (kRet (endRetA (ra := [.one (.d _)]) rfl ?_)))))) (fun g5 => kSkip (kSeq (kReg (kFadP rfl rfl (kLoadP rfl rfl rfl (kBin rfl rfl rfl (kDone (kCondP rfl (fun g6 => kSeq (kReg (kMovC rfl (kAdd rfl rfl (by omega) (kMovC rfl (kDone (kSeq (kReg (kFadP rfl rfl (kLoadP rfl rfl rfl (kFadP rfl rfl (kLoadP rfl rfl rfl (kCallD (ok_spec_l2cmp _ _ (by first | assumption | omega | solve_by_elim [List.getElem_mem] | (simp only [szOut] at *; omega)) (by first | assumption | omega | solve_by_elim [List.getElem_mem] | (simp only [szOut] at *; omega))) ⟨⟨⟨rfl, trivial⟩, Nat.le_of_ble_eq_true rfl⟩, ⟨⟨rfl, trivial⟩, Nat.le_of_ble_eq_true rfl⟩, trivial⟩ rfl rfl rfl rfl rfl (kBin rfl rfl rfl (kDone (kCondIN rfl (fun g7 => kSeq (kReg (kMovC rfl (kDone (kRet (endRetA (ra := [.one (.d _)]) rfl ?_)))))) (fun g7 => kSkip (kBk (kReg (kMovC rfl (kAdd rfl rfl (by omega) (kMovC rfl (kDone ?_))))))))))))))))))))))) (fun g6 => kSkip (kBk (kReg (kMovC rfl (kAdd rfl rfl (by omega) (kMovC rfl (kDone ?_)))))))))))))))))))))))))))))))))))))))))))))))))))))))))) (fun g3 => kGF rfl (kGF rfl (kGF rfl (kMem [(24576, ⟨2, 0, .box [.d _, .d _, .d _, .d _, .d _, .d _, .d _]⟩), (8192, ⟨1, 0, .box [.d _, .d _]⟩)] [(45, .c (.un)), (44, .c (.un)), (5, .c (.ptr 24576 2 0)), (42, .c (.d _)), (39, .c (.d _)), (1, .c (.ptr 8192 1 0)), (4, .c (.d _))] [] ⟨rfl, rfl, trivial⟩ ⟨rfl, rfl, rfl, rfl, rfl, rfl, rfl, trivial⟩ rfl (kGF rfl (kGF rfl (kGF rfl (kGF rfl (kRelF rfl rfl (kGF rfl (kGF rfl (kGT rfl (kPickF rfl (kMovC rfl (kPickF rfl (kMovC rfl (kMovC rfl (kGT rfl (kFadP rfl rfl (kGT rfl (kLoadP rfl rfl rfl (kGT rfl (kMovC rfl (kRelF rfl rfl (kGT rfl (kCallD (ok_spec_l5alone _ _ (by first | assumption | omega | solve_by_elim [List.getElem_mem] | (simp only [szOut] at *; omega)) (by first | assumption | omega | solve_by_elim [List.getElem_mem] | (simp only [szOut] at *; omega))) ⟨rfl, rfl, trivial⟩ rfl rfl rfl rfl rfl (kGT rfl (kUn rfl rfl (kPickF rfl (kMovC rfl (kDone (kH (kCondN rfl (fun g8 => kSeq (kReg (kMovC rfl (kDone (kRet (endRetA (ra := [.one (.d _)]) rfl ?_)))))) (fun g8 => kSkip (kSeq (kReg (kFadP rfl rfl (kLoadP rfl rfl rfl (kBin rfl rfl rfl (kDone (kCondP rfl (fun g9 => kSeq (kReg (kMovC rfl (kAdd rfl rfl (by omega) (kMovC rfl (kDone (kSeq (kReg (kFadP rfl rfl (kLoadP rfl rfl rfl (kFadP rfl rfl (kLoadP rfl rfl rfl (kCallD (ok_spec_l2cmp _ _ (by first | assumption | omega | solve_by_elim [List.getElem_mem] | (simp only [szOut] at *; omega)) (by first | assumption | omega | solve_by_elim [List.getElem_mem] | (simp only [szOut] at *; omega))) ⟨⟨⟨rfl, trivial⟩, Nat.le_of_ble_eq_true rfl⟩, ⟨⟨rfl, trivial⟩, Nat.le_of_ble_eq_true rfl⟩, trivial⟩ rfl rfl rfl rfl rfl (kBin rfl rfl rfl (kDone (kCondIN rfl (fun g10 => kSeq (kReg (kMovC rfl (kDone (kRet (endRetA (ra := [.one (.d _)]) rfl ?_)))))) (fun g10 => kSkip (kBk (kReg (kMovC rfl (kAdd rfl rfl (by omega) (kMovC rfl (kDone ?_))))))))))))))))))))))) (fun g9 => kSkip (kBk (kReg (kMovC rfl (kAdd rfl rfl (by omega) (kMovC rfl (kDone ?_))))))))))))))))))))))))))))))))))))))))))))))))))))))))))))))))))))))))))))))))))))))))))))))) (fun g0 => (by omega))))))))))
    all_goals first
      | (refine congrArg (fun z : Bool => [RA.one (RV.d (DV.sc (Value.bool z)))]) (zone_no hlt (Bool.eq_false_iff.2 fun h => ?_)).symm
         rw [hq] at h
         simp only [Bool.and_eq_true, decide_eq_true_eq, Bool.or_eq_true, Bool.not_eq_true', beq_eq_false_iff_ne] at h
         obtain ⟨⟨⟨k1, k2⟩, k3⟩, k4⟩ := h
         first
           | (rw [prevB_pos (by omega) hlt (by omega), decide_eq_true_eq] at k2; omega)
           | (simp_all; done)
           | (simp_all; omega))
      | (have e1 : prevB z.rrs i = true := by
           first
             | (rw [prevB_pos (by omega) hlt (by omega)]; exact decide_eq_true (by omega))
             | (have : i = 0 := by omega
                subst this; exact prevB_zero)
         have e2 : aloneR z.rrs i = true := by
           first
             | assumption
             | (simp [*]; done)
             | (rw [decide_eq_true (by omega)]; simp)
         have e3 : (!(z.rrs[i].ty == 6) || decide (z.rrs[i].name = z.origin)) = true := by
           first
             | (simp [*]; done)
             | (simp_all; done)
         first
           | rw [if_pos (by assumption)] at hts
           | rw [if_neg (by assumption)] at hts
         have hz' : zAt z i = true := by rw [hq, e1, e2, e3]; simp [*]
         exact kInv ⟨⟨i + 1, by omega, range_all hz hz', all_step hlt hal hk⟩, by simp only; omega, .normA⟩)
  · rw [show zoneOk z = decide (zTops z.rrs = 1) by unfold zoneOk; rw [a1, decide_eq_true a2, show (List.range z.rrs.length).all (zAt z) = true by rw [show z.rrs.length = i by omega]; exact hz, show z.rrs.all rrOk = true by rw [show i = z.rrs.length by omega, List.take_length] at hal; exact hal]; rfl]
    refine kSeq (kSeq (kReg (kMovC rfl (kFadP rfl rfl (kLoadP rfl rfl rfl (kLenR rfl rfl (kBin rfl rfl rfl (kDone (kCondP rfl (fun g0 => (by omega)) (fun g0 => kExit (kExC (kExI (kExB (kSeq (kReg (kMovC rfl (kBin rfl rfl rfl (kMovC rfl (kDone (kRet (endRetA (ra := [.one (.d _)]) rfl ?_)))))))))))))))))))))
    rw [show i = z.rrs.length by omega, List.take_length]
    rfl

def c_spec_l2own : C := (.seq (.reg false (.op 0 [] (some 1) none false (.box 1 (.t 0))
  (.op 1 [] (some 2) none false (.alloc 2 [(.n 1)])
  .done)))
 (.seq (.reg false (.op 0 [] (some 3) none false (.alloc 3 [(.n 1)])
  .done))
 (.seq (.seq (.reg false (.op 0 [] (some 4) none false (.mov (.v (.int .i64 0)))
  .done))
 (.block 0 (.loop (.seq (.seq (.reg false (.op 0 [] (some 5) none false (.mov (.t 4))
  (.op 1 [] (some 6) none false (.fad (.t 1) 0)
  (.op 2 [] (some 7) none false (.load none (.t 6))
  (.op 3 [] (some 8) none false (.len (.t 7))
  (.op 4 [] (some 9) none false (.bin .lss (.t 5) (.t 8))
  .done))))))
 (.cond (.t 9)
 .skip
 (.exit 0)))
 (.seq (.block 1 (.reg true (.op 0 [] (some 12) none true (.fad (.t 3) 0)
  (.op 1 [] (some 13) none true (.load none (.t 12))
  (.op 3 [] (some 15) none true (.fad (.t 1) 0)
  (.op 4 [] (some 16) none true (.load none (.t 15))
  (.op 5 [] (some 17) none true (.mov (.t 4))
  (.op 6 [] (some 18) none true (.iad 1 (.t 16) (.t 17))
  (.op 7 [] (some 19) none true (.load none (.t 18))
  (.op 2 [] (some 14) none false (.lit 14 1 [(.v (.int .u8 0))] 0 [])
  (.op 8 [7, 4] (some 20) none false (.app 20 1 1 (.t 14) (.t 19))
  (.op 9 [7, 4] (some 21) none false (.lit 21 1 [(.n 1)] 1 [(0, 1, (.t 20))])
  (.op 10 [1, 7, 4] (some 22) none false (.app 22 1 24 (.t 13) (.t 21))
  (.op 11 [] (some 23) none true (.fad (.t 3) 0)
  (.op 12 [1, 4, 7] none none false (.store none (.t 23) (.t 22))
  .done)))))))))))))))
 (.reg false (.op 0 [] (some 10) none false (.mov (.t 4))
  (.op 1 [] (some 11) none false (.bin .add (.t 10) (.v (.int .i64 1)))
  (.op 2 [] (some 4) none false (.mov (.t 11))
  .done)))))))))
 (.seq (.reg false (.op 0 [] (some 24) none false (.load (some 1) (.t 3))
  (.op 1 [] none none false (.store (some 1) (.t 2) (.t 24))
  .done)))
 .ret))))
theorem dg_spec_l2own : Tryz.f107.body.bind (digC Tryz.prog Tryz.f107.ntmps []) = some c_spec_l2own := by kernel_rfl
theorem rs_spec_l2own : resSlots Tryz.prog Tryz.f107 = some [.m 2 (some 1)] := by kernel_rfl
theorem ok_spec_l2own (a : List (List UInt8)) (ha : a.length ≤ 4194304) (hb : ∀ b ∈ a, b.length ≤ 4194304) :
    FnOK Tryz.prog 107 [.agg [.d (encBB a)]] (fun ra _ => ra = [.agg [.own true (encBB a)]]) := by
  refine FnOK.ofK Tryz.func107 (by kernel_rfl) dg_spec_l2own rs_spec_l2own rfl rfl ?_
  unfold c_spec_l2own
  refine kSeq (kReg (kBox rfl rfl rfl rfl rfl (kAlloc rfl rfl (kDone (kSeq (kReg (kAlloc rfl rfl (kDone (kSeq (kSeq (kReg (kMovC rfl (kDone (kBlock ?_))))))))))))))
  refine kSub (Sub.nilBox (id := rid 3 0) (id2 := rid 5000 0) (j := 0) rfl rfl rfl (by decide) (by decide)) ?_
  refine kLoop (α := { i : Nat // i ≤ a.length })
    (fun y => ⟨tabSl [(1, .c (.ptr (rid 1 0) 1 0)), (2, .c (.ptr (rid 2 0) 1 0)), (3, .c (.ptr (rid 3 0) 1 0)), (4, .i y.1)],
      obTab 1 [(rid 1 0, ⟨1, 0, .box [.d (encBB a)]⟩), (rid 2 0, ⟨1, 0, .box [.nil 1]⟩), (rid 3 0, ⟨1, 0, .box [.arr (rid 5000 0) 1]⟩), (rid 5000 0, ⟨1, 0, .arr true (encBB (a.take y.1))⟩)], []⟩) (fun y => a.length - y.1) ⟨0, by simp⟩
    .normA ?_
  rintro ⟨i, hi⟩
  simp only
  have hlen : (a.take i).length = i := by simp; omega
  rcases Nat.lt_or_ge i a.length with hlt | hge
  · have hbi := hb _ (List.getElem_mem hlt)
    refine kSeq (kSeq (kReg (kMovC rfl (kFadP rfl rfl (kLoadP rfl rfl rfl (kLenR rfl rfl (kBin rfl rfl rfl (kDone (kCondP rfl (fun g0 => kSkip (kSeq (kBlock (kRegD (kFadP rfl rfl (kLoadP rfl rfl rfl (kFadP rfl rfl (kLoadP rfl rfl rfl (kMovC rfl (kIadR rfl rfl rfl (by omega) (kLoadD rfl rfl (kLit rfl rfl rfl rfl (kRelK rfl rfl (kAppN rfl rfl rfl (src_encB _ _) rfl rfl rfl rfl (by omega) (kRelK rfl rfl (kLit rfl rfl rfl rfl (kRelF rfl rfl (kAppR1 rfl rfl rfl rfl rfl rfl rfl rfl (by omega) (kFadP rfl rfl (kRelF rfl rfl (kStoreP rfl rfl rfl rfl (kDone (kH (kBk (kReg (kMovC rfl (kAdd rfl rfl (by omega) (kMovC rfl (kDone ?_))))))))))))))))))))))))))))) (fun g0 => (by omega)))))))))))
    exact kInv ⟨⟨i + 1, by omega⟩, by simp only; omega, .normA⟩
  · refine kSeq (kSeq (kReg (kMovC rfl (kFadP rfl rfl (kLoadP rfl rfl rfl (kLenR rfl rfl (kBin rfl rfl rfl (kDone (kCondP rfl (fun g0 => (by omega)) (fun g0 => kExit (kExC (kExI (kExB (kSeq (kReg (kLoadP rfl rfl rfl (kStoreP rfl rfl rfl rfl (kDone (kRet (endRetA (ra := [.agg [(.own true _)]]) rfl ?_))))))))))))))))))))
    rw [show i = a.length by omega, List.take_length]

def c_spec_l3own : C := (.seq (.reg false (.op 0 [] (some 1) none false (.box 1 (.t 0))
  (.op 1 [] (some 2) none false (.alloc 2 [(.n 1), (.v (.int .i64 0)), (.v (.int .i64 0)), (.v (.int .i64 0)), (.n 1), (.n 1), (.n 1)])
  .done)))
 (.seq (.reg true (.op 0 [] (some 3) none true (.fad (.t 1) 0)
  (.op 1 [] (some 4) none true (.load (some 1) (.t 3))
  (.op 3 [] (some 6) none true (.fad (.t 1) 1)
  (.op 4 [] (some 7) none true (.load none (.t 6))
  (.op 5 [] (some 8) none true (.fad (.t 1) 2)
  (.op 6 [] (some 9) none true (.load none (.t 8))
  (.op 7 [] (some 10) none true (.fad (.t 1) 3)
  (.op 8 [] (some 11) none true (.load none (.t 10))
  (.op 9 [] (some 12) none true (.fad (.t 1) 4)
  (.op 10 [] (some 13) none true (.load (some 1) (.t 12))
  (.op 13 [] (some 16) none true (.fad (.t 1) 5)
  (.op 14 [] (some 17) none true (.load none (.t 16))
  (.op 17 [] (some 20) none true (.fad (.t 1) 6)
  (.op 18 [] (some 21) none true (.load none (.t 20))
  (.alt (.op 2 [1] (some 5) none false (.call 5 107 [(.t 4)])
  (.alt (.op 11 [10, 1] (some 14) none false (.call 14 107 [(.t 13)])
  (.alt (.op 12 [] (some 15) none false (.lit 15 1 [(.v (.int .u8 0))] 0 [])
  (.alt (.op 15 [14, 10, 1] (some 18) none false (.app 18 1 1 (.t 15) (.t 17))
  (.op 16 [] (some 19) none false (.lit 19 1 [(.v (.int .i64 0))] 0 [])
  (.op 19 [18, 14, 10, 1] (some 22) none false (.app 22 1 8 (.t 19) (.t 21))
  (.op 20 [] (some 23) none true (.build [(.n 1), (.v (.int .i64 0)), (.v (.int .i64 0)), (.v (.int .i64 0)), (.n 1), (.n 1), (.n 1)] [(0, 1, (.t 5)), (1, 1, (.t 7)), (2, 1, (.t 9)), (3, 1, (.t 11)), (4, 1, (.t 14)), (5, 1, (.t 18)), (6, 1, (.t 22))])
  (.op 21 [1, 4, 6, 8, 10, 14, 18] none none false (.store (some 7) (.t 2) (.t 23))
  .done)))))
  (.op 16 [] (some 19) none false (.lit 19 1 [(.v (.int .i64 0))] 0 [])
  (.op 15 [14, 10, 1] (some 18) none false (.app 18 1 1 (.t 15) (.t 17))
  (.op 19 [18, 14, 10, 1] (some 22) none false (.app 22 1 8 (.t 19) (.t 21))
  (.op 20 [] (some 23) none true (.build [(.n 1), (.v (.int .i64 0)), (.v (.int .i64 0)), (.v (.int .i64 0)), (.n 1), (.n 1), (.n 1)] [(0, 1, (.t 5)), (1, 1, (.t 7)), (2, 1, (.t 9)), (3, 1, (.t 11)), (4, 1, (.t 14)), (5, 1, (.t 18)), (6, 1, (.t 22))])
  (.op 21 [1, 4, 6, 8, 10, 14, 18] none none false (.store (some 7) (.t 2) (.t 23))
  .done)))))))
  (.op 16 [] (some 19) none false (.lit 19 1 [(.v (.int .i64 0))] 0 [])
  (.op 12 [] (some 15) none false (.lit 15 1 [(.v (.int .u8 0))] 0 [])
  (.op 15 [14, 10, 1] (some 18) none false (.app 18 1 1 (.t 15) (.t 17))
  (.op 19 [18, 14, 10, 1] (some 22) none false (.app 22 1 8 (.t 19) (.t 21))
  (.op 20 [] (some 23) none true (.build [(.n 1), (.v (.int .i64 0)), (.v (.int .i64 0)), (.v (.int .i64 0)), (.n 1), (.n 1), (.n 1)] [(0, 1, (.t 5)), (1, 1, (.t 7)), (2, 1, (.t 9)), (3, 1, (.t 11)), (4, 1, (.t 14)), (5, 1, (.t 18)), (6, 1, (.t 22))])
  (.op 21 [1, 4, 6, 8, 10, 14, 18] none none false (.store (some 7) (.t 2) (.t 23))
  .done))))))))
  (.alt (.op 12 [] (some 15) none false (.lit 15 1 [(.v (.int .u8 0))] 0 [])
  (.alt (.op 11 [10, 1] (some 14) none false (.call 14 107 [(.t 13)])
  (.alt (.op 15 [14, 10, 1] (some 18) none false (.app 18 1 1 (.t 15) (.t 17))
  (.op 16 [] (some 19) none false (.lit 19 1 [(.v (.int .i64 0))] 0 [])
  (.op 19 [18, 14, 10, 1] (some 22) none false (.app 22 1 8 (.t 19) (.t 21))
  (.op 20 [] (some 23) none true (.build [(.n 1), (.v (.int .i64 0)), (.v (.int .i64 0)), (.v (.int .i64 0)), (.n 1), (.n 1), (.n 1)] [(0, 1, (.t 5)), (1, 1, (.t 7)), (2, 1, (.t 9)), (3, 1, (.t 11)), (4, 1, (.t 14)), (5, 1, (.t 18)), (6, 1, (.t 22))])
  (.op 21 [1, 4, 6, 8, 10, 14, 18] none none false (.store (some 7) (.t 2) (.t 23))
  .done)))))
  (.op 16 [] (some 19) none false (.lit 19 1 [(.v (.int .i64 0))] 0 [])
  (.op 15 [14, 10, 1] (some 18) none false (.app 18 1 1 (.t 15) (.t 17))
  (.op 19 [18, 14, 10, 1] (some 22) none false (.app 22 1 8 (.t 19) (.t 21))
  (.op 20 [] (some 23) none true (.build [(.n 1), (.v (.int .i64 0)), (.v (.int .i64 0)), (.v (.int .i64 0)), (.n 1), (.n 1), (.n 1)] [(0, 1, (.t 5)), (1, 1, (.t 7)), (2, 1, (.t 9)), (3, 1, (.t 11)), (4, 1, (.t 14)), (5, 1, (.t 18)), (6, 1, (.t 22))])
  (.op 21 [1, 4, 6, 8, 10, 14, 18] none none false (.store (some 7) (.t 2) (.t 23))
  .done)))))))
  (.op 16 [] (some 19) none false (.lit 19 1 [(.v (.int .i64 0))] 0 [])
  (.op 11 [10, 1] (some 14) none false (.call 14 107 [(.t 13)])
  (.op 15 [14, 10, 1] (some 18) none false (.app 18 1 1 (.t 15) (.t 17))
  (.op 19 [18, 14, 10, 1] (some 22) none false (.app 22 1 8 (.t 19) (.t 21))
  (.op 20 [] (some 23) none true (.build [(.n 1), (.v (.int .i64 0)), (.v (.int .i64 0)), (.v (.int .i64 0)), (.n 1), (.n 1), (.n 1)] [(0, 1, (.t 5)), (1, 1, (.t 7)), (2, 1, (.t 9)), (3, 1, (.t 11)), (4, 1, (.t 14)), (5, 1, (.t 18)), (6, 1, (.t 22))])
  (.op 21 [1, 4, 6, 8, 10, 14, 18] none none false (.store (some 7) (.t 2) (.t 23))
  .done))))))))
  (.op 16 [] (some 19) none false (.lit 19 1 [(.v (.int .i64 0))] 0 [])
  (.alt (.op 11 [10, 1] (some 14) none false (.call 14 107 [(.t 13)])
  (.op 12 [] (some 15) none false (.lit 15 1 [(.v (.int .u8 0))] 0 [])
  (.op 15 [14, 10, 1] (some 18) none false (.app 18 1 1 (.t 15) (.t 17))
  (.op 19 [18, 14, 10, 1] (some 22) none false (.app 22 1 8 (.t 19) (.t 21))
  (.op 20 [] (some 23) none true (.build [(.n 1), (.v (.int .i64 0)), (.v (.int .i64 0)), (.v (.int .i64 0)), (.n 1), (.n 1), (.n 1)] [(0, 1, (.t 5)), (1, 1, (.t 7)), (2, 1, (.t 9)), (3, 1, (.t 11)), (4, 1, (.t 14)), (5, 1, (.t 18)), (6, 1, (.t 22))])
  (.op 21 [1, 4, 6, 8, 10, 14, 18] none none false (.store (some 7) (.t 2) (.t 23))
  .done))))))
  (.op 12 [] (some 15) none false (.lit 15 1 [(.v (.int .u8 0))] 0 [])
  (.op 11 [10, 1] (some 14) none false (.call 14 107 [(.t 13)])
  (.op 15 [14, 10, 1] (some 18) none false (.app 18 1 1 (.t 15) (.t 17))
  (.op 19 [18, 14, 10, 1] (some 22) none false (.app 22 1 8 (.t 19) (.t 21))
  (.op 20 [] (some 23) none true (.build [(.n 1), (.v (.int .i64 0)), (.v (.int .i64 0)), (.v (.int .i64 0)), (.n 1), (.n 1), (.n 1)] [(0, 1, (.t 5)), (1, 1, (.t 7)), (2, 1, (.t 9)), (3, 1, (.t 11)), (4, 1, (.t 14)), (5, 1, (.t 18)), (6, 1, (.t 22))])
  (.op 21 [1, 4, 6, 8, 10, 14, 18] none none false (.store (some 7) (.t 2) (.t 23))
  .done)))))))))))
  (.alt (.op 12 [] (some 15) none false (.lit 15 1 [(.v (.int .u8 0))] 0 [])
  (.alt (.op 2 [1] (some 5) none false (.call 5 107 [(.t 4)])
  (.alt (.op 11 [10, 1] (some 14) none false (.call 14 107 [(.t 13)])
  (.alt (.op 15 [14, 10, 1] (some 18) none false (.app 18 1 1 (.t 15) (.t 17))
  (.op 16 [] (some 19) none false (.lit 19 1 [(.v (.int .i64 0))] 0 [])
  (.op 19 [18, 14, 10, 1] (some 22) none false (.app 22 1 8 (.t 19) (.t 21))
  (.op 20 [] (some 23) none true (.build [(.n 1), (.v (.int .i64 0)), (.v (.int .i64 0)), (.v (.int .i64 0)), (.n 1), (.n 1), (.n 1)] [(0, 1, (.t 5)), (1, 1, (.t 7)), (2, 1, (.t 9)), (3, 1, (.t 11)), (4, 1, (.t 14)), (5, 1, (.t 18)), (6, 1, (.t 22))])
  (.op 21 [1, 4, 6, 8, 10, 14, 18] none none false (.store (some 7) (.t 2) (.t 23))
  .done)))))
  (.op 16 [] (some 19) none false (.lit 19 1 [(.v (.int .i64 0))] 0 [])
  (.op 15 [14, 10, 1] (some 18) none false (.app 18 1 1 (.t 15) (.t 17))
  (.op 19 [18, 14, 10, 1] (some 22) none false (.app 22 1 8 (.t 19) (.t 21))
  (.op 20 [] (some 23) none true (.build [(.n 1), (.v (.int .i64 0)), (.v (.int .i64 0)), (.v (.int .i64 0)), (.n 1), (.n 1), (.n 1)] [(0, 1, (.t 5)), (1, 1, (.t 7)), (2, 1, (.t 9)), (3, 1, (.t 11)), (4, 1, (.t 14)), (5, 1, (.t 18)), (6, 1, (.t 22))])
  (.op 21 [1, 4, 6, 8, 10, 14, 18] none none false (.store (some 7) (.t 2) (.t 23))
  .done)))))))
  (.op 16 [] (some 19) none false (.lit 19 1 [(.v (.int .i64 0))] 0 [])
  (.op 11 [10, 1] (some 14) none false (.call 14 107 [(.t 13)])
  (.op 15 [14, 10, 1] (some 18) none false (.app 18 1 1 (.t 15) (.t 17))
  (.op 19 [18, 14, 10, 1] (some 22) none false (.app 22 1 8 (.t 19) (.t 21))
  (.op 20 [] (some 23) none true (.build [(.n 1), (.v (.int .i64 0)), (.v (.int .i64 0)), (.v (.int .i64 0)), (.n 1), (.n 1), (.n 1)] [(0, 1, (.t 5)), (1, 1, (.t 7)), (2, 1, (.t 9)), (3, 1, (.t 11)), (4, 1, (.t 14)), (5, 1, (.t 18)), (6, 1, (.t 22))])
  (.op 21 [1, 4, 6, 8, 10, 14, 18] none none false (.store (some 7) (.t 2) (.t 23))
  .done))))))))
  (.op 16 [] (some 19) none false (.lit 19 1 [(.v (.int .i64 0))] 0 [])
  (.op 2 [1] (some 5) none false (.call 5 107 [(.t 4)])
  (.op 11 [10, 1] (some 14) none false (.call 14 107 [(.t 13)])
  (.op 15 [14, 10, 1] (some 18) none false (.app 18 1 1 (.t 15) (.t 17))
  (.op 19 [18, 14, 10, 1] (some 22) none false (.app 22 1 8 (.t 19) (.t 21))
  (.op 20 [] (some 23) none true (.build [(.n 1), (.v (.int .i64 0)), (.v (.int .i64 0)), (.v (.int .i64 0)), (.n 1), (.n 1), (.n 1)] [(0, 1, (.t 5)), (1, 1, (.t 7)), (2, 1, (.t 9)), (3, 1, (.t 11)), (4, 1, (.t 14)), (5, 1, (.t 18)), (6, 1, (.t 22))])
  (.op 21 [1, 4, 6, 8, 10, 14, 18] none none false (.store (some 7) (.t 2) (.t 23))
  .done)))))))))
  (.op 16 [] (some 19) none false (.lit 19 1 [(.v (.int .i64 0))] 0 [])
  (.alt (.op 2 [1] (some 5) none false (.call 5 107 [(.t 4)])
  (.alt (.op 11 [10, 1] (some 14) none false (.call 14 107 [(.t 13)])
  (.op 12 [] (some 15) none false (.lit 15 1 [(.v (.int .u8 0))] 0 [])
  (.op 15 [14, 10, 1] (some 18) none false (.app 18 1 1 (.t 15) (.t 17))
  (.op 19 [18, 14, 10, 1] (some 22) none false (.app 22 1 8 (.t 19) (.t 21))
  (.op 20 [] (some 23) none true (.build [(.n 1), (.v (.int .i64 0)), (.v (.int .i64 0)), (.v (.int .i64 0)), (.n 1), (.n 1), (.n 1)] [(0, 1, (.t 5)), (1, 1, (.t 7)), (2, 1, (.t 9)), (3, 1, (.t 11)), (4, 1, (.t 14)), (5, 1, (.t 18)), (6, 1, (.t 22))])
  (.op 21 [1, 4, 6, 8, 10, 14, 18] none none false (.store (some 7) (.t 2) (.t 23))
  .done))))))
  (.op 12 [] (some 15) none false (.lit 15 1 [(.v (.int .u8 0))] 0 [])
  (.op 11 [10, 1] (some 14) none false (.call 14 107 [(.t 13)])
  (.op 15 [14, 10, 1] (some 18) none false (.app 18 1 1 (.t 15) (.t 17))
  (.op 19 [18, 14, 10, 1] (some 22) none false (.app 22 1 8 (.t 19) (.t 21))
  (.op 20 [] (some 23) none true (.build [(.n 1), (.v (.int .i64 0)), (.v (.int .i64 0)), (.v (.int .i64 0)), (.n 1), (.n 1), (.n 1)] [(0, 1, (.t 5)), (1, 1, (.t 7)), (2, 1, (.t 9)), (3, 1, (.t 11)), (4, 1, (.t 14)), (5, 1, (.t 18)), (6, 1, (.t 22))])
  (.op 21 [1, 4, 6, 8, 10, 14, 18] none none false (.store (some 7) (.t 2) (.t 23))
  .done))))))))
  (.op 12 [] (some 15) none false (.lit 15 1 [(.v (.int .u8 0))] 0 [])
  (.op 2 [1] (some 5) none false (.call 5 107 [(.t 4)])
  (.op 11 [10, 1] (some 14) none false (.call 14 107 [(.t 13)])
  (.op 15 [14, 10, 1] (some 18) none false (.app 18 1 1 (.t 15) (.t 17))
  (.op 19 [18, 14, 10, 1] (some 22) none false (.app 22 1 8 (.t 19) (.t 21))
  (.op 20 [] (some 23) none true (.build [(.n 1), (.v (.int .i64 0)), (.v (.int .i64 0)), (.v (.int .i64 0)), (.n 1), (.n 1), (.n 1)] [(0, 1, (.t 5)), (1, 1, (.t 7)), (2, 1, (.t 9)), (3, 1, (.t 11)), (4, 1, (.t 14)), (5, 1, (.t 18)), (6, 1, (.t 22))])
  (.op 21 [1, 4, 6, 8, 10, 14, 18] none none false (.store (some 7) (.t 2) (.t 23))
  .done))))))))))))))))))))))))))
 .ret))
theorem dg_spec_l3own : Tryz.f275.body.bind (digC Tryz.prog Tryz.f275.ntmps []) = some c_spec_l3own := by kernel_rfl
theorem rs_spec_l3own : resSlots Tryz.prog Tryz.f275 = some [.m 2 (some 7)] := by kernel_rfl
theorem ok_spec_l3own (r : Rr) (hs : SmallR r) :
    FnOK Tryz.prog 275 [.agg (r.cells.map .d)] (fun ra _ => ra = [.agg [.own true (encBB r.name), .d (.sc (.int .i64 r.ty)), .d (.sc (.int .i64 r.ttl)), .d (.sc (.int .i64 r.addr)), .own true (encBB r.to), .own true (encB r.text), .own true (encI r.nums)]]) := by
  refine FnOK.ofK Tryz.func275 (by kernel_rfl) dg_spec_l3own rs_spec_l3own rfl rfl ?_
  unfold c_spec_l3own
  have n1 := hs.n.len
  have n2 := hs.n.mem
  have t1 := hs.t.len
  have t2 := hs.t.mem
  have x1 := hs.x
  have m1 := hs.m
  refine kSeq (kCut ⟨tabSl [(1, .c (.ptr (rid 1 0) 1 0)), (2, .c (.ptr (rid 2 0) 1 0))], obTab 1 [(rid 1 0, ⟨1, 0, .box (r.cells.map .d)⟩), (rid 2 0, ⟨1, 0, .box [.nil 1, .d (.sc (.int .i64 0)), .d (.sc (.int .i64 0)), .d (.sc (.int .i64 0)), .nil 1, .nil 1, .nil 1]⟩)], []⟩ ?_ (fun x hc => ?_))
  case refine_2 => refine kReg (kBox rfl rfl rfl rfl rfl (kAlloc rfl rfl (kDone (kMem [(8192, ⟨1, 0, .box [.d _, .d _, .d _, .d _, .d _, .d _, .d _]⟩), (12288, ⟨1, 0, .box [.nil 1, .d _, .d _, .d _, .nil 1, .nil 1, .nil 1]⟩)] [(1, .c (.ptr 8192 1 0)), (2, .c (.ptr 12288 1 0))] [] ⟨rfl, rfl, trivial⟩ ⟨rfl, rfl, trivial⟩ rfl (hc _ .normA)))))
  refine kSeq (kCut ⟨tabSl [(2, .c (.ptr (rid 2 0) 1 0))], obTab 1 [(rid 2 0, ⟨1, 0, .box [.arr (rid 5 0) 1, .d (.sc (.int .i64 r.ty)), .d (.sc (.int .i64 r.ttl)), .d (.sc (.int .i64 r.addr)), .arr (rid 14 0) 1, .arr (rid 15 0) 1, .arr (rid 19 0) 1]⟩), (rid 5 0, ⟨1, 0, .arr true (encBB r.name)⟩), (rid 14 0, ⟨1, 0, .arr true (encBB r.to)⟩), (rid 15 0, ⟨1, 0, .arr true (encB r.text)⟩), (rid 19 0, ⟨1, 0, .arr true (encI r.nums)⟩)], []⟩ ?_ (fun x hc => ?_))
  case refine_2 => refine kRegD (kFadP rfl rfl (kLoadP rfl rfl rfl (kFadP rfl rfl (kLoadP rfl rfl rfl (kFadP rfl rfl (kLoadP rfl rfl rfl (kFadP rfl rfl (kLoadP rfl rfl rfl (kMem [(8192, ⟨1, 0, .box [.d _, .d _, .d _, .d _, .d _, .d _, .d _]⟩), (12288, ⟨1, 0, .box [.nil 1, .d _, .d _, .d _, .nil 1, .nil 1, .nil 1]⟩)] [(1, .c (.ptr 8192 1 0)), (4, .g [.d _]), (7, .c (.d _)), (9, .c (.d _)), (11, .c (.d _)), (2, .c (.ptr 12288 1 0))] [8192, 8192, 8192, 8192] ⟨rfl, rfl, trivial⟩ ⟨rfl, rfl, rfl, rfl, rfl, rfl, trivial⟩ rfl (kFadP rfl rfl (kLoadP rfl rfl rfl (kFadP rfl rfl (kLoadP rfl rfl rfl (kFadP rfl rfl (kLoadP rfl rfl rfl (kAlt (kRelK rfl rfl (kCall1 true (ok_spec_l2own _ (by first | assumption | omega | solve_by_elim [List.getElem_mem] | (simp only [szOut] at *; omega)) (by first | assumption | omega | solve_by_elim [List.getElem_mem] | (simp only [szOut] at *; omega))) ⟨⟨⟨rfl, trivial⟩, Nat.le_of_ble_eq_true rfl⟩, trivial⟩ rfl rfl rfl (fun _ => (kAlt (kRelK rfl rfl (kCall1 true (ok_spec_l2own _ (by first | assumption | omega | solve_by_elim [List.getElem_mem] | (simp only [szOut] at *; omega)) (by first | assumption | omega | solve_by_elim [List.getElem_mem] | (simp only [szOut] at *; omega))) ⟨⟨⟨rfl, trivial⟩, Nat.le_of_ble_eq_true rfl⟩, trivial⟩ rfl rfl rfl (fun _ => (kMem [(24576, ⟨2, 0, .arr true _⟩), (61440, ⟨2, 0, .arr true _⟩), (12288, ⟨1, 0, .box [.nil 1, .d _, .d _, .d _, .nil 1, .nil 1, .nil 1]⟩)] [(17, .c (.d _)), (21, .c (.d _)), (5, .g [.arr 24576 2]), (7, .c (.d _)), (9, .c (.d _)), (11, .c (.d _)), (14, .g [.arr 61440 2]), (2, .c (.ptr 12288 1 0))] [8192, 8192, 8192, 8192, 8192, 8192, 8192] ⟨rfl, rfl, rfl, trivial⟩ ⟨rfl, rfl, rfl, rfl, rfl, rfl, rfl, rfl, trivial⟩ rfl (kAlt (kLit rfl rfl rfl rfl (kAlt (kRelK rfl rfl (kAppN rfl rfl rfl (src_encB _ _) rfl rfl rfl rfl (by omega) (kLit rfl rfl rfl rfl (kRelK rfl rfl (kAppN rfl rfl rfl (src_encI _ _) rfl rfl rfl rfl (by omega) (kMem [(24576, ⟨2, 0, .arr true _⟩), (61440, ⟨2, 0, .arr true _⟩), (65536, ⟨3, 0, .arr true _⟩), (81920, ⟨3, 0, .arr true _⟩), (12288, ⟨1, 0, .box [.nil 1, .d _, .d _, .d _, .nil 1, .nil 1, .nil 1]⟩)] [(5, .g [.arr 24576 2]), (7, .c (.d _)), (9, .c (.d _)), (11, .c (.d _)), (14, .g [.arr 61440 2]), (18, .c (.arr 65536 3)), (22, .c (.arr 81920 3)), (2, .c (.ptr 12288 1 0))] [8192, 8192, 8192, 8192, 8192, 8192, 8192] ⟨rfl, rfl, rfl, rfl, rfl, trivial⟩ ⟨rfl, rfl, rfl, rfl, rfl, rfl, rfl, rfl, trivial⟩ rfl (kBuildG rfl (kMem [(12288, ⟨1, 0, .box [.nil 1, .d _, .d _, .d _, .nil 1, .nil 1, .nil 1]⟩), (24576, ⟨2, 0, .arr true _⟩), (61440, ⟨2, 0, .arr true _⟩), (65536, ⟨3, 0, .arr true _⟩), (81920, ⟨3, 0, .arr true _⟩)] [(2, .c (.ptr 12288 1 0)), (23, .g [.arr 24576 2, .d _, .d _, .d _, .arr 61440 2, .arr 65536 3, .arr 81920 3])] [8192, 8192, 8192, 8192, 8192, 8192, 8192] ⟨rfl, rfl, rfl, rfl, rfl, trivial⟩ ⟨rfl, rfl, trivial⟩ rfl (kRelF rfl rfl (kStoreP rfl rfl rfl rfl (kDone (kH (kMem [(12288, ⟨1, 0, .box [.arr 24576 2, .d _, .d _, .d _, .arr 61440 2, .arr 65536 3, .arr 81920 3]⟩), (24576, ⟨2, 0, .arr true _⟩), (61440, ⟨2, 0, .arr true _⟩), (65536, ⟨3, 0, .arr true _⟩), (81920, ⟨3, 0, .arr true _⟩)] [(2, .c (.ptr 12288 1 0))] [] ⟨rfl, rfl, rfl, rfl, rfl, trivial⟩ ⟨rfl, trivial⟩ rfl (hc _ .normA)))))))))))))) (kLit rfl rfl rfl rfl (kRelK rfl rfl (kAppN rfl rfl rfl (src_encB _ _) rfl rfl rfl rfl (by omega) (kRelK rfl rfl (kAppN rfl rfl rfl (src_encI _ _) rfl rfl rfl rfl (by omega) (kMem [(24576, ⟨2, 0, .arr true _⟩), (61440, ⟨2, 0, .arr true _⟩), (65536, ⟨3, 0, .arr true _⟩), (81920, ⟨3, 0, .arr true _⟩), (12288, ⟨1, 0, .box [.nil 1, .d _, .d _, .d _, .nil 1, .nil 1, .nil 1]⟩)] [(5, .g [.arr 24576 2]), (7, .c (.d _)), (9, .c (.d _)), (11, .c (.d _)), (14, .g [.arr 61440 2]), (18, .c (.arr 65536 3)), (22, .c (.arr 81920 3)), (2, .c (.ptr 12288 1 0))] [8192, 8192, 8192, 8192, 8192, 8192, 8192] ⟨rfl, rfl, rfl, rfl, rfl, trivial⟩ ⟨rfl, rfl, rfl, rfl, rfl, rfl, rfl, rfl, trivial⟩ rfl (kBuildG rfl (kMem [(12288, ⟨1, 0, .box [.nil 1, .d _, .d _, .d _, .nil 1, .nil 1, .nil 1]⟩), (24576, ⟨2, 0, .arr true _⟩), (61440, ⟨2, 0, .arr true _⟩), (65536, ⟨3, 0, .arr true _⟩), (81920, ⟨3, 0, .arr true _⟩)] [(2, .c (.ptr 12288 1 0)), (23, .g [.arr 24576 2, .d _, .d _, .d _, .arr 61440 2, .arr 65536 3, .arr 81920 3])] [8192, 8192, 8192, 8192, 8192, 8192, 8192] ⟨rfl, rfl, rfl, rfl, rfl, trivial⟩ ⟨rfl, rfl, trivial⟩ rfl (kRelF rfl rfl (kStoreP rfl rfl rfl rfl (kDone (kH (kMem [(12288, ⟨1, 0, .box [.arr 24576 2, .d _, .d _, .d _, .arr 61440 2, .arr 65536 3, .arr 81920 3]⟩), (24576, ⟨2, 0, .arr true _⟩), (61440, ⟨2, 0, .arr true _⟩), (65536, ⟨3, 0, .arr true _⟩), (81920, ⟨3, 0, .arr true _⟩)] [(2, .c (.ptr 12288 1 0))] [] ⟨rfl, rfl, rfl, rfl, rfl, trivial⟩ ⟨rfl, trivial⟩ rfl (hc _ .normA)))))))))))))))) (kLit rfl rfl rfl rfl (kLit rfl rfl rfl rfl (kRelK rfl rfl (kAppN rfl rfl rfl (src_encB _ _) rfl rfl rfl rfl (by omega) (kRelK rfl rfl (kAppN rfl rfl rfl (src_encI _ _) rfl rfl rfl rfl (by omega) (kMem [(24576, ⟨2, 0, .arr true _⟩), (61440, ⟨2, 0, .arr true _⟩), (65536, ⟨3, 0, .arr true _⟩), (81920, ⟨3, 0, .arr true _⟩), (12288, ⟨1, 0, .box [.nil 1, .d _, .d _, .d _, .nil 1, .nil 1, .nil 1]⟩)] [(5, .g [.arr 24576 2]), (7, .c (.d _)), (9, .c (.d _)), (11, .c (.d _)), (14, .g [.arr 61440 2]), (18, .c (.arr 65536 3)), (22, .c (.arr 81920 3)), (2, .c (.ptr 12288 1 0))] [8192, 8192, 8192, 8192, 8192, 8192, 8192] ⟨rfl, rfl, rfl, rfl, rfl, trivial⟩ ⟨rfl, rfl, rfl, rfl, rfl, rfl, rfl, rfl, trivial⟩ rfl (kBuildG rfl (kMem [(12288, ⟨1, 0, .box [.nil 1, .d _, .d _, .d _, .nil 1, .nil 1, .nil 1]⟩), (24576, ⟨2, 0, .arr true _⟩), (61440, ⟨2, 0, .arr true _⟩), (65536, ⟨3, 0, .arr true _⟩), (81920, ⟨3, 0, .arr true _⟩)] [(2, .c (.ptr 12288 1 0)), (23, .g [.arr 24576 2, .d _, .d _, .d _, .arr 61440 2, .arr 65536 3, .arr 81920 3])] [8192, 8192, 8192, 8192, 8192, 8192, 8192] ⟨rfl, rfl, rfl, rfl, rfl, trivial⟩ ⟨rfl, rfl, trivial⟩ rfl (kRelF rfl rfl (kStoreP rfl rfl rfl rfl (kDone (kH (kMem [(12288, ⟨1, 0, .box [.arr 24576 2, .d _, .d _, .d _, .arr 61440 2, .arr 65536 3, .arr 81920 3]⟩), (24576, ⟨2, 0, .arr true _⟩), (61440, ⟨2, 0, .arr true _⟩), (65536, ⟨3, 0, .arr true _⟩), (81920, ⟨3, 0, .arr true _⟩)] [(2, .c (.ptr 12288 1 0))] [] ⟨rfl, rfl, rfl, rfl, rfl, trivial⟩ ⟨rfl, trivial⟩ rfl (hc _ .normA)))))))))))))))))))) (kAlt (kLit rfl rfl rfl rfl (kMem [(65536, ⟨2, 0, .arr true _⟩), (24576, ⟨2, 0, .arr true _⟩), (12288, ⟨1, 0, .box [.nil 1, .d _, .d _, .d _, .nil 1, .nil 1, .nil 1]⟩)] [(13, .g [.d _]), (15, .c (.arr 65536 2)), (17, .c (.d _)), (21, .c (.d _)), (5, .g [.arr 24576 2]), (7, .c (.d _)), (9, .c (.d _)), (11, .c (.d _)), (2, .c (.ptr 12288 1 0))] [8192, 8192, 8192, 8192, 8192, 8192, 8192] ⟨rfl, rfl, rfl, trivial⟩ ⟨rfl, rfl, rfl, rfl, rfl, rfl, rfl, rfl, rfl, trivial⟩ rfl (kAlt (kRelK rfl rfl (kCall1 true (ok_spec_l2own _ (by first | assumption | omega | solve_by_elim [List.getElem_mem] | (simp only [szOut] at *; omega)) (by first | assumption | omega | solve_by_elim [List.getElem_mem] | (simp only [szOut] at *; omega))) ⟨⟨⟨rfl, trivial⟩, Nat.le_of_ble_eq_true rfl⟩, trivial⟩ rfl rfl rfl (fun _ => (kAlt (kRelK rfl rfl (kAppN rfl rfl rfl (src_encB _ _) rfl rfl rfl rfl (by omega) (kLit rfl rfl rfl rfl (kRelK rfl rfl (kAppN rfl rfl rfl (src_encI _ _) rfl rfl rfl rfl (by omega) (kMem [(24576, ⟨2, 0, .arr true _⟩), (61440, ⟨2, 0, .arr true _⟩), (65536, ⟨3, 0, .arr true _⟩), (81920, ⟨3, 0, .arr true _⟩), (12288, ⟨1, 0, .box [.nil 1, .d _, .d _, .d _, .nil 1, .nil 1, .nil 1]⟩)] [(5, .g [.arr 24576 2]), (7, .c (.d _)), (9, .c (.d _)), (11, .c (.d _)), (14, .g [.arr 61440 2]), (18, .c (.arr 65536 3)), (22, .c (.arr 81920 3)), (2, .c (.ptr 12288 1 0))] [8192, 8192, 8192, 8192, 8192, 8192, 8192] ⟨rfl, rfl, rfl, rfl, rfl, trivial⟩ ⟨rfl, rfl, rfl, rfl, rfl, rfl, rfl, rfl, trivial⟩ rfl (kBuildG rfl (kMem [(12288, ⟨1, 0, .box [.nil 1, .d _, .d _, .d _, .nil 1, .nil 1, .nil 1]⟩), (24576, ⟨2, 0, .arr true _⟩), (61440, ⟨2, 0, .arr true _⟩), (65536, ⟨3, 0, .arr true _⟩), (81920, ⟨3, 0, .arr true _⟩)] [(2, .c (.ptr 12288 1 0)), (23, .g [.arr 24576 2, .d _, .d _, .d _, .arr 61440 2, .arr 65536 3, .arr 81920 3])] [8192, 8192, 8192, 8192, 8192, 8192, 8192] ⟨rfl, rfl, rfl, rfl, rfl, trivial⟩ ⟨rfl, rfl, trivial⟩ rfl (kRelF rfl rfl (kStoreP rfl rfl rfl rfl (kDone (kH (kMem [(12288, ⟨1, 0, .box [.arr 24576 2, .d _, .d _, .d _, .arr 61440 2, .arr 65536 3, .arr 81920 3]⟩), (24576, ⟨2, 0, .arr true _⟩), (61440, ⟨2, 0, .arr true _⟩), (65536, ⟨3, 0, .arr true _⟩), (81920, ⟨3, 0, .arr true _⟩)] [(2, .c (.ptr 12288 1 0))] [] ⟨rfl, rfl, rfl, rfl, rfl, trivial⟩ ⟨rfl, trivial⟩ rfl (hc _ .normA)))))))))))))) (kLit rfl rfl rfl rfl (kRelK rfl rfl (kAppN rfl rfl rfl (src_encB _ _) rfl rfl rfl rfl (by omega) (kRelK rfl rfl (kAppN rfl rfl rfl (src_encI _ _) rfl rfl rfl rfl (by omega) (kMem [(24576, ⟨2, 0, .arr true _⟩), (61440, ⟨2, 0, .arr true _⟩), (65536, ⟨3, 0, .arr true _⟩), (81920, ⟨3, 0, .arr true _⟩), (12288, ⟨1, 0, .box [.nil 1, .d _, .d _, .d _, .nil 1, .nil 1, .nil 1]⟩)] [(5, .g [.arr 24576 2]), (7, .c (.d _)), (9, .c (.d _)), (11, .c (.d _)), (14, .g [.arr 61440 2]), (18, .c (.arr 65536 3)), (22, .c (.arr 81920 3)), (2, .c (.ptr 12288 1 0))] [8192, 8192, 8192, 8192, 8192, 8192, 8192] ⟨rfl, rfl, rfl, rfl, rfl, trivial⟩ ⟨rfl, rfl, rfl, rfl, rfl, rfl, rfl, rfl, trivial⟩ rfl (kBuildG rfl (kMem [(12288, ⟨1, 0, .box [.nil 1, .d _, .d _, .d _, .nil 1, .nil 1, .nil 1]⟩), (24576, ⟨2, 0, .arr true _⟩), (61440, ⟨2, 0, .arr true _⟩), (65536, ⟨3, 0, .arr true _⟩), (81920, ⟨3, 0, .arr true _⟩)] [(2, .c (.ptr 12288 1 0)), (23, .g [.arr 24576 2, .d _, .d _, .d _, .arr 61440 2, .arr 65536 3, .arr 81920 3])] [8192, 8192, 8192, 8192, 8192, 8192, 8192] ⟨rfl, rfl, rfl, rfl, rfl, trivial⟩ ⟨rfl, rfl, trivial⟩ rfl (kRelF rfl rfl (kStoreP rfl rfl rfl rfl (kDone (kH (kMem [(12288, ⟨1, 0, .box [.arr 24576 2, .d _, .d _, .d _, .arr 61440 2, .arr 65536 3, .arr 81920 3]⟩), (24576, ⟨2, 0, .arr true _⟩), (61440, ⟨2, 0, .arr true _⟩), (65536, ⟨3, 0, .arr true _⟩), (81920, ⟨3, 0, .arr true _⟩)] [(2, .c (.ptr 12288 1 0))] [] ⟨rfl, rfl, rfl, rfl, rfl, trivial⟩ ⟨rfl, trivial⟩ rfl (hc _ .normA)))))))))))))))))) (kLit rfl rfl rfl rfl (kRelK rfl rfl (kCall1 true (ok_spec_l2own _ (by first | assumption | omega | solve_by_elim [List.getElem_mem] | (simp only [szOut] at *; omega)) (by first | assumption | omega | solve_by_elim [List.getElem_mem] | (simp only [szOut] at *; omega))) ⟨⟨⟨rfl, trivial⟩, Nat.le_of_ble_eq_true rfl⟩, trivial⟩ rfl rfl rfl (fun _ => (kRelK rfl rfl (kAppN rfl rfl rfl (src_encB _ _) rfl rfl rfl rfl (by omega) (kRelK rfl rfl (kAppN rfl rfl rfl (src_encI _ _) rfl rfl rfl rfl (by omega) (kMem [(24576, ⟨2, 0, .arr true _⟩), (61440, ⟨2, 0, .arr true _⟩), (65536, ⟨3, 0, .arr true _⟩), (81920, ⟨3, 0, .arr true _⟩), (12288, ⟨1, 0, .box [.nil 1, .d _, .d _, .d _, .nil 1, .nil 1, .nil 1]⟩)] [(5, .g [.arr 24576 2]), (7, .c (.d _)), (9, .c (.d _)), (11, .c (.d _)), (14, .g [.arr 61440 2]), (18, .c (.arr 65536 3)), (22, .c (.arr 81920 3)), (2, .c (.ptr 12288 1 0))] [8192, 8192, 8192, 8192, 8192, 8192, 8192] ⟨rfl, rfl, rfl, rfl, rfl, trivial⟩ ⟨rfl, rfl, rfl, rfl, rfl, rfl, rfl, rfl, trivial⟩ rfl (kBuildG rfl (kMem [(12288, ⟨1, 0, .box [.nil 1, .d _, .d _, .d _, .nil 1, .nil 1, .nil 1]⟩), (24576, ⟨2, 0, .arr true _⟩), (61440, ⟨2, 0, .arr true _⟩), (65536, ⟨3, 0, .arr true _⟩), (81920, ⟨3, 0, .arr true _⟩)] [(2, .c (.ptr 12288 1 0)), (23, .g [.arr 24576 2, .d _, .d _, .d _, .arr 61440 2, .arr 65536 3, .arr 81920 3])] [8192, 8192, 8192, 8192, 8192, 8192, 8192] ⟨rfl, rfl, rfl, rfl, rfl, trivial⟩ ⟨rfl, rfl, trivial⟩ rfl (kRelF rfl rfl (kStoreP rfl rfl rfl rfl (kDone (kH (kMem [(12288, ⟨1, 0, .box [.arr 24576 2, .d _, .d _, .d _, .arr 61440 2, .arr 65536 3, .arr 81920 3]⟩), (24576, ⟨2, 0, .arr true _⟩), (61440, ⟨2, 0, .arr true _⟩), (65536, ⟨3, 0, .arr true _⟩), (81920, ⟨3, 0, .arr true _⟩)] [(2, .c (.ptr 12288 1 0))] [] ⟨rfl, rfl, rfl, rfl, rfl, trivial⟩ ⟨rfl, trivial⟩ rfl (hc _ .normA)))))))))))))))))))) (kLit rfl rfl rfl rfl (kMem [(81920, ⟨2, 0, .arr true _⟩), (24576, ⟨2, 0, .arr true _⟩), (12288, ⟨1, 0, .box [.nil 1, .d _, .d _, .d _, .nil 1, .nil 1, .nil 1]⟩)] [(13, .g [.d _]), (17, .c (.d _)), (19, .c (.arr 81920 2)), (21, .c (.d _)), (5, .g [.arr 24576 2]), (7, .c (.d _)), (9, .c (.d _)), (11, .c (.d _)), (2, .c (.ptr 12288 1 0))] [8192, 8192, 8192, 8192, 8192, 8192, 8192] ⟨rfl, rfl, rfl, trivial⟩ ⟨rfl, rfl, rfl, rfl, rfl, rfl, rfl, rfl, rfl, trivial⟩ rfl (kAlt (kRelK rfl rfl (kCall1 true (ok_spec_l2own _ (by first | assumption | omega | solve_by_elim [List.getElem_mem] | (simp only [szOut] at *; omega)) (by first | assumption | omega | solve_by_elim [List.getElem_mem] | (simp only [szOut] at *; omega))) ⟨⟨⟨rfl, trivial⟩, Nat.le_of_ble_eq_true rfl⟩, trivial⟩ rfl rfl rfl (fun _ => (kLit rfl rfl rfl rfl (kRelK rfl rfl (kAppN rfl rfl rfl (src_encB _ _) rfl rfl rfl rfl (by omega) (kRelK rfl rfl (kAppN rfl rfl rfl (src_encI _ _) rfl rfl rfl rfl (by omega) (kMem [(24576, ⟨2, 0, .arr true _⟩), (61440, ⟨2, 0, .arr true _⟩), (65536, ⟨3, 0, .arr true _⟩), (81920, ⟨3, 0, .arr true _⟩), (12288, ⟨1, 0, .box [.nil 1, .d _, .d _, .d _, .nil 1, .nil 1, .nil 1]⟩)] [(5, .g [.arr 24576 2]), (7, .c (.d _)), (9, .c (.d _)), (11, .c (.d _)), (14, .g [.arr 61440 2]), (18, .c (.arr 65536 3)), (22, .c (.arr 81920 3)), (2, .c (.ptr 12288 1 0))] [8192, 8192, 8192, 8192, 8192, 8192, 8192] ⟨rfl, rfl, rfl, rfl, rfl, trivial⟩ ⟨rfl, rfl, rfl, rfl, rfl, rfl, rfl, rfl, trivial⟩ rfl (kBuildG rfl (kMem [(12288, ⟨1, 0, .box [.nil 1, .d _, .d _, .d _, .nil 1, .nil 1, .nil 1]⟩), (24576, ⟨2, 0, .arr true _⟩), (61440, ⟨2, 0, .arr true _⟩), (65536, ⟨3, 0, .arr true _⟩), (81920, ⟨3, 0, .arr true _⟩)] [(2, .c (.ptr 12288 1 0)), (23, .g [.arr 24576 2, .d _, .d _, .d _, .arr 61440 2, .arr 65536 3, .arr 81920 3])] [8192, 8192, 8192, 8192, 8192, 8192, 8192] ⟨rfl, rfl, rfl, rfl, rfl, trivial⟩ ⟨rfl, rfl, trivial⟩ rfl (kRelF rfl rfl (kStoreP rfl rfl rfl rfl (kDone (kH (kMem [(12288, ⟨1, 0, .box [.arr 24576 2, .d _, .d _, .d _, .arr 61440 2, .arr 65536 3, .arr 81920 3]⟩), (24576, ⟨2, 0, .arr true _⟩), (61440, ⟨2, 0, .arr true _⟩), (65536, ⟨3, 0, .arr true _⟩), (81920, ⟨3, 0, .arr true _⟩)] [(2, .c (.ptr 12288 1 0))] [] ⟨rfl, rfl, rfl, rfl, rfl, trivial⟩ ⟨rfl, trivial⟩ rfl (hc _ .normA))))))))))))))))) (kLit rfl rfl rfl rfl (kRelK rfl rfl (kCall1 true (ok_spec_l2own _ (by first | assumption | omega | solve_by_elim [List.getElem_mem] | (simp only [szOut] at *; omega)) (by first | assumption | omega | solve_by_elim [List.getElem_mem] | (simp only [szOut] at *; omega))) ⟨⟨⟨rfl, trivial⟩, Nat.le_of_ble_eq_true rfl⟩, trivial⟩ rfl rfl rfl (fun _ => (kRelK rfl rfl (kAppN rfl rfl rfl (src_encB _ _) rfl rfl rfl rfl (by omega) (kRelK rfl rfl (kAppN rfl rfl rfl (src_encI _ _) rfl rfl rfl rfl (by omega) (kMem [(24576, ⟨2, 0, .arr true _⟩), (61440, ⟨2, 0, .arr true _⟩), (65536, ⟨3, 0, .arr true _⟩), (81920, ⟨3, 0, .arr true _⟩), (12288, ⟨1, 0, .box [.nil 1, .d _, .d _, .d _, .nil 1, .nil 1, .nil 1]⟩)] [(5, .g [.arr 24576 2]), (7, .c (.d _)), (9, .c (.d _)), (11, .c (.d _)), (14, .g [.arr 61440 2]), (18, .c (.arr 65536 3)), (22, .c (.arr 81920 3)), (2, .c (.ptr 12288 1 0))] [8192, 8192, 8192, 8192, 8192, 8192, 8192] ⟨rfl, rfl, rfl, rfl, rfl, trivial⟩ ⟨rfl, rfl, rfl, rfl, rfl, rfl, rfl, rfl, trivial⟩ rfl (kBuildG rfl (kMem [(12288, ⟨1, 0, .box [.nil 1, .d _, .d _, .d _, .nil 1, .nil 1, .nil 1]⟩), (24576, ⟨2, 0, .arr true _⟩), (61440, ⟨2, 0, .arr true _⟩), (65536, ⟨3, 0, .arr true _⟩), (81920, ⟨3, 0, .arr true _⟩)] [(2, .c (.ptr 12288 1 0)), (23, .g [.arr 24576 2, .d _, .d _, .d _, .arr 61440 2, .arr 65536 3, .arr 81920 3])] [8192, 8192, 8192, 8192, 8192, 8192, 8192] ⟨rfl, rfl, rfl, rfl, rfl, trivial⟩ ⟨rfl, rfl, trivial⟩ rfl (kRelF rfl rfl (kStoreP rfl rfl rfl rfl (kDone (kH (kMem [(12288, ⟨1, 0, .box [.arr 24576 2, .d _, .d _, .d _, .arr 61440 2, .arr 65536 3, .arr 81920 3]⟩), (24576, ⟨2, 0, .arr true _⟩), (61440, ⟨2, 0, .arr true _⟩), (65536, ⟨3, 0, .arr true _⟩), (81920, ⟨3, 0, .arr true _⟩)] [(2, .c (.ptr 12288 1 0))] [] ⟨rfl, rfl, rfl, rfl, rfl, trivial⟩ ⟨rfl, trivial⟩ rfl (hc _ .normA))))))))))))))))))))))))) (kAlt (kLit rfl rfl rfl rfl (kMem [(65536, ⟨2, 0, .arr true _⟩), (12288, ⟨1, 0, .box [.nil 1, .d _, .d _, .d _, .nil 1, .nil 1, .nil 1]⟩)] [(4, .g [.d _]), (13, .g [.d _]), (15, .c (.arr 65536 2)), (17, .c (.d _)), (21, .c (.d _)), (7, .c (.d _)), (9, .c (.d _)), (11, .c (.d _)), (2, .c (.ptr 12288 1 0))] [8192, 8192, 8192, 8192, 8192, 8192, 8192] ⟨rfl, rfl, trivial⟩ ⟨rfl, rfl, rfl, rfl, rfl, rfl, rfl, rfl, rfl, trivial⟩ rfl (kAlt (kRelK rfl rfl (kCall1 true (ok_spec_l2own _ (by first | assumption | omega | solve_by_elim [List.getElem_mem] | (simp only [szOut] at *; omega)) (by first | assumption | omega | solve_by_elim [List.getElem_mem] | (simp only [szOut] at *; omega))) ⟨⟨⟨rfl, trivial⟩, Nat.le_of_ble_eq_true rfl⟩, trivial⟩ rfl rfl rfl (fun _ => (kAlt (kRelK rfl rfl (kCall1 true (ok_spec_l2own _ (by first | assumption | omega | solve_by_elim [List.getElem_mem] | (simp only [szOut] at *; omega)) (by first | assumption | omega | solve_by_elim [List.getElem_mem] | (simp only [szOut] at *; omega))) ⟨⟨⟨rfl, trivial⟩, Nat.le_of_ble_eq_true rfl⟩, trivial⟩ rfl rfl rfl (fun _ => (kAlt (kRelK rfl rfl (kAppN rfl rfl rfl (src_encB _ _) rfl rfl rfl rfl (by omega) (kLit rfl rfl rfl rfl (kRelK rfl rfl (kAppN rfl rfl rfl (src_encI _ _) rfl rfl rfl rfl (by omega) (kMem [(24576, ⟨2, 0, .arr true _⟩), (61440, ⟨2, 0, .arr true _⟩), (65536, ⟨3, 0, .arr true _⟩), (81920, ⟨3, 0, .arr true _⟩), (12288, ⟨1, 0, .box [.nil 1, .d _, .d _, .d _, .nil 1, .nil 1, .nil 1]⟩)] [(5, .g [.arr 24576 2]), (7, .c (.d _)), (9, .c (.d _)), (11, .c (.d _)), (14, .g [.arr 61440 2]), (18, .c (.arr 65536 3)), (22, .c (.arr 81920 3)), (2, .c (.ptr 12288 1 0))] [8192, 8192, 8192, 8192, 8192, 8192, 8192] ⟨rfl, rfl, rfl, rfl, rfl, trivial⟩ ⟨rfl, rfl, rfl, rfl, rfl, rfl, rfl, rfl, trivial⟩ rfl (kBuildG rfl (kMem [(12288, ⟨1, 0, .box [.nil 1, .d _, .d _, .d _, .nil 1, .nil 1, .nil 1]⟩), (24576, ⟨2, 0, .arr true _⟩), (61440, ⟨2, 0, .arr true _⟩), (65536, ⟨3, 0, .arr true _⟩), (81920, ⟨3, 0, .arr true _⟩)] [(2, .c (.ptr 12288 1 0)), (23, .g [.arr 24576 2, .d _, .d _, .d _, .arr 61440 2, .arr 65536 3, .arr 81920 3])] [8192, 8192, 8192, 8192, 8192, 8192, 8192] ⟨rfl, rfl, rfl, rfl, rfl, trivial⟩ ⟨rfl, rfl, trivial⟩ rfl (kRelF rfl rfl (kStoreP rfl rfl rfl rfl (kDone (kH (kMem [(12288, ⟨1, 0, .box [.arr 24576 2, .d _, .d _, .d _, .arr 61440 2, .arr 65536 3, .arr 81920 3]⟩), (24576, ⟨2, 0, .arr true _⟩), (61440, ⟨2, 0, .arr true _⟩), (65536, ⟨3, 0, .arr true _⟩), (81920, ⟨3, 0, .arr true _⟩)] [(2, .c (.ptr 12288 1 0))] [] ⟨rfl, rfl, rfl, rfl, rfl, trivial⟩ ⟨rfl, trivial⟩ rfl (hc _ .normA)))))))))))))) (kLit rfl rfl rfl rfl (kRelK rfl rfl (kAppN rfl rfl rfl (src_encB _ _) rfl rfl rfl rfl (by omega) (kRelK rfl rfl (kAppN rfl rfl rfl (src_encI _ _) rfl rfl rfl rfl (by omega) (kMem [(24576, ⟨2, 0, .arr true _⟩), (61440, ⟨2, 0, .arr true _⟩), (65536, ⟨3, 0, .arr true _⟩), (81920, ⟨3, 0, .arr true _⟩), (12288, ⟨1, 0, .box [.nil 1, .d _, .d _, .d _, .nil 1, .nil 1, .nil 1]⟩)] [(5, .g [.arr 24576 2]), (7, .c (.d _)), (9, .c (.d _)), (11, .c (.d _)), (14, .g [.arr 61440 2]), (18, .c (.arr 65536 3)), (22, .c (.arr 81920 3)), (2, .c (.ptr 12288 1 0))] [8192, 8192, 8192, 8192, 8192, 8192, 8192] ⟨rfl, rfl, rfl, rfl, rfl, trivial⟩ ⟨rfl, rfl, rfl, rfl, rfl, rfl, rfl, rfl, trivial⟩ rfl (kBuildG rfl (kMem [(12288, ⟨1, 0, .box [.nil 1, .d _, .d _, .d _, .nil 1, .nil 1, .nil 1]⟩), (24576, ⟨2, 0, .arr true _⟩), (61440, ⟨2, 0, .arr true _⟩), (65536, ⟨3, 0, .arr true _⟩), (81920, ⟨3, 0, .arr true _⟩)] [(2, .c (.ptr 12288 1 0)), (23, .g [.arr 24576 2, .d _, .d _, .d _, .arr 61440 2, .arr 65536 3, .arr 81920 3])] [8192, 8192, 8192, 8192, 8192, 8192, 8192] ⟨rfl, rfl, rfl, rfl, rfl, trivial⟩ ⟨rfl, rfl, trivial⟩ rfl (kRelF rfl rfl (kStoreP rfl rfl rfl rfl (kDone (kH (kMem [(12288, ⟨1, 0, .box [.arr 24576 2, .d _, .d _, .d _, .arr 61440 2, .arr 65536 3, .arr 81920 3]⟩), (24576, ⟨2, 0, .arr true _⟩), (61440, ⟨2, 0, .arr true _⟩), (65536, ⟨3, 0, .arr true _⟩), (81920, ⟨3, 0, .arr true _⟩)] [(2, .c (.ptr 12288 1 0))] [] ⟨rfl, rfl, rfl, rfl, rfl, trivial⟩ ⟨rfl, trivial⟩ rfl (hc _ .normA)))))))))))))))))) (kLit rfl rfl rfl rfl (kRelK rfl rfl (kCall1 true (ok_spec_l2own _ (by first | assumption | omega | solve_by_elim [List.getElem_mem] | (simp only [szOut] at *; omega)) (by first | assumption | omega | solve_by_elim [List.getElem_mem] | (simp only [szOut] at *; omega))) ⟨⟨⟨rfl, trivial⟩, Nat.le_of_ble_eq_true rfl⟩, trivial⟩ rfl rfl rfl (fun _ => (kRelK rfl rfl (kAppN rfl rfl rfl (src_encB _ _) rfl rfl rfl rfl (by omega) (kRelK rfl rfl (kAppN rfl rfl rfl (src_encI _ _) rfl rfl rfl rfl (by omega) (kMem [(24576, ⟨2, 0, .arr true _⟩), (61440, ⟨2, 0, .arr true _⟩), (65536, ⟨3, 0, .arr true _⟩), (81920, ⟨3, 0, .arr true _⟩), (12288, ⟨1, 0, .box [.nil 1, .d _, .d _, .d _, .nil 1, .nil 1, .nil 1]⟩)] [(5, .g [.arr 24576 2]), (7, .c (.d _)), (9, .c (.d _)), (11, .c (.d _)), (14, .g [.arr 61440 2]), (18, .c (.arr 65536 3)), (22, .c (.arr 81920 3)), (2, .c (.ptr 12288 1 0))] [8192, 8192, 8192, 8192, 8192, 8192, 8192] ⟨rfl, rfl, rfl, rfl, rfl, trivial⟩ ⟨rfl, rfl, rfl, rfl, rfl, rfl, rfl, rfl, trivial⟩ rfl (kBuildG rfl (kMem [(12288, ⟨1, 0, .box [.nil 1, .d _, .d _, .d _, .nil 1, .nil 1, .nil 1]⟩), (24576, ⟨2, 0, .arr true _⟩), (61440, ⟨2, 0, .arr true _⟩), (65536, ⟨3, 0, .arr true _⟩), (81920, ⟨3, 0, .arr true _⟩)] [(2, .c (.ptr 12288 1 0)), (23, .g [.arr 24576 2, .d _, .d _, .d _, .arr 61440 2, .arr 65536 3, .arr 81920 3])] [8192, 8192, 8192, 8192, 8192, 8192, 8192] ⟨rfl, rfl, rfl, rfl, rfl, trivial⟩ ⟨rfl, rfl, trivial⟩ rfl (kRelF rfl rfl (kStoreP rfl rfl rfl rfl (kDone (kH (kMem [(12288, ⟨1, 0, .box [.arr 24576 2, .d _, .d _, .d _, .arr 61440 2, .arr 65536 3, .arr 81920 3]⟩), (24576, ⟨2, 0, .arr true _⟩), (61440, ⟨2, 0, .arr true _⟩), (65536, ⟨3, 0, .arr true _⟩), (81920, ⟨3, 0, .arr true _⟩)] [(2, .c (.ptr 12288 1 0))] [] ⟨rfl, rfl, rfl, rfl, rfl, trivial⟩ ⟨rfl, trivial⟩ rfl (hc _ .normA))))))))))))))))))))) (kLit rfl rfl rfl rfl (kRelK rfl rfl (kCall1 true (ok_spec_l2own _ (by first | assumption | omega | solve_by_elim [List.getElem_mem] | (simp only [szOut] at *; omega)) (by first | assumption | omega | solve_by_elim [List.getElem_mem] | (simp only [szOut] at *; omega))) ⟨⟨⟨rfl, trivial⟩, Nat.le_of_ble_eq_true rfl⟩, trivial⟩ rfl rfl rfl (fun _ => (kRelK rfl rfl (kCall1 true (ok_spec_l2own _ (by first | assumption | omega | solve_by_elim [List.getElem_mem] | (simp only [szOut] at *; omega)) (by first | assumption | omega | solve_by_elim [List.getElem_mem] | (simp only [szOut] at *; omega))) ⟨⟨⟨rfl, trivial⟩, Nat.le_of_ble_eq_true rfl⟩, trivial⟩ rfl rfl rfl (fun _ => (kRelK rfl rfl (kAppN rfl rfl rfl (src_encB _ _) rfl rfl rfl rfl (by omega) (kRelK rfl rfl (kAppN rfl rfl rfl (src_encI _ _) rfl rfl rfl rfl (by omega) (kMem [(24576, ⟨2, 0, .arr true _⟩), (61440, ⟨2, 0, .arr true _⟩), (65536, ⟨3, 0, .arr true _⟩), (81920, ⟨3, 0, .arr true _⟩), (12288, ⟨1, 0, .box [.nil 1, .d _, .d _, .d _, .nil 1, .nil 1, .nil 1]⟩)] [(5, .g [.arr 24576 2]), (7, .c (.d _)), (9, .c (.d _)), (11, .c (.d _)), (14, .g [.arr 61440 2]), (18, .c (.arr 65536 3)), (22, .c (.arr 81920 3)), (2, .c (.ptr 12288 1 0))] [8192, 8192, 8192, 8192, 8192, 8192, 8192] ⟨rfl, rfl, rfl, rfl, rfl, trivial⟩ ⟨rfl, rfl, rfl, rfl, rfl, rfl, rfl, rfl, trivial⟩ rfl (kBuildG rfl (kMem [(12288, ⟨1, 0, .box [.nil 1, .d _, .d _, .d _, .nil 1, .nil 1, .nil 1]⟩), (24576, ⟨2, 0, .arr true _⟩), (61440, ⟨2, 0, .arr true _⟩), (65536, ⟨3, 0, .arr true _⟩), (81920, ⟨3, 0, .arr true _⟩)] [(2, .c (.ptr 12288 1 0)), (23, .g [.arr 24576 2, .d _, .d _, .d _, .arr 61440 2, .arr 65536 3, .arr 81920 3])] [8192, 8192, 8192, 8192, 8192, 8192, 8192] ⟨rfl, rfl, rfl, rfl, rfl, trivial⟩ ⟨rfl, rfl, trivial⟩ rfl (kRelF rfl rfl (kStoreP rfl rfl rfl rfl (kDone (kH (kMem [(12288, ⟨1, 0, .box [.arr 24576 2, .d _, .d _, .d _, .arr 61440 2, .arr 65536 3, .arr 81920 3]⟩), (24576, ⟨2, 0, .arr true _⟩), (61440, ⟨2, 0, .arr true _⟩), (65536, ⟨3, 0, .arr true _⟩), (81920, ⟨3, 0, .arr true _⟩)] [(2, .c (.ptr 12288 1 0))] [] ⟨rfl, rfl, rfl, rfl, rfl, trivial⟩ ⟨rfl, trivial⟩ rfl (hc _ .normA))))))))))))))))))))))) (kLit rfl rfl rfl rfl (kMem [(81920, ⟨2, 0, .arr true _⟩), (12288, ⟨1, 0, .box [.nil 1, .d _, .d _, .d _, .nil 1, .nil 1, .nil 1]⟩)] [(4, .g [.d _]), (13, .g [.d _]), (17, .c (.d _)), (19, .c (.arr 81920 2)), (21, .c (.d _)), (7, .c (.d _)), (9, .c (.d _)), (11, .c (.d _)), (2, .c (.ptr 12288 1 0))] [8192, 8192, 8192, 8192, 8192, 8192, 8192] ⟨rfl, rfl, trivial⟩ ⟨rfl, rfl, rfl, rfl, rfl, rfl, rfl, rfl, rfl, trivial⟩ rfl (kAlt (kRelK rfl rfl (kCall1 true (ok_spec_l2own _ (by first | assumption | omega | solve_by_elim [List.getElem_mem] | (simp only [szOut] at *; omega)) (by first | assumption | omega | solve_by_elim [List.getElem_mem] | (simp only [szOut] at *; omega))) ⟨⟨⟨rfl, trivial⟩, Nat.le_of_ble_eq_true rfl⟩, trivial⟩ rfl rfl rfl (fun _ => (kAlt (kRelK rfl rfl (kCall1 true (ok_spec_l2own _ (by first | assumption | omega | solve_by_elim [List.getElem_mem] | (simp only [szOut] at *; omega)) (by first | assumption | omega | solve_by_elim [List.getElem_mem] | (simp only [szOut] at *; omega))) ⟨⟨⟨rfl, trivial⟩, Nat.le_of_ble_eq_true rfl⟩, trivial⟩ rfl rfl rfl (fun _ => (kLit rfl rfl rfl rfl (kRelK rfl rfl (kAppN rfl rfl rfl (src_encB _ _) rfl rfl rfl rfl (by omega) (kRelK rfl rfl (kAppN rfl rfl rfl (src_encI _ _) rfl rfl rfl rfl (by omega) (kMem [(24576, ⟨2, 0, .arr true _⟩), (61440, ⟨2, 0, .arr true _⟩), (65536, ⟨3, 0, .arr true _⟩), (81920, ⟨3, 0, .arr true _⟩), (12288, ⟨1, 0, .box [.nil 1, .d _, .d _, .d _, .nil 1, .nil 1, .nil 1]⟩)] [(5, .g [.arr 24576 2]), (7, .c (.d _)), (9, .c (.d _)), (11, .c (.d _)), (14, .g [.arr 61440 2]), (18, .c (.arr 65536 3)), (22, .c (.arr 81920 3)), (2, .c (.ptr 12288 1 0))] [8192, 8192, 8192, 8192, 8192, 8192, 8192] ⟨rfl, rfl, rfl, rfl, rfl, trivial⟩ ⟨rfl, rfl, rfl, rfl, rfl, rfl, rfl, rfl, trivial⟩ rfl (kBuildG rfl (kMem [(12288, ⟨1, 0, .box [.nil 1, .d _, .d _, .d _, .nil 1, .nil 1, .nil 1]⟩), (24576, ⟨2, 0, .arr true _⟩), (61440, ⟨2, 0, .arr true _⟩), (65536, ⟨3, 0, .arr true _⟩), (81920, ⟨3, 0, .arr true _⟩)] [(2, .c (.ptr 12288 1 0)), (23, .g [.arr 24576 2, .d _, .d _, .d _, .arr 61440 2, .arr 65536 3, .arr 81920 3])] [8192, 8192, 8192, 8192, 8192, 8192, 8192] ⟨rfl, rfl, rfl, rfl, rfl, trivial⟩ ⟨rfl, rfl, trivial⟩ rfl (kRelF rfl rfl (kStoreP rfl rfl rfl rfl (kDone (kH (kMem [(12288, ⟨1, 0, .box [.arr 24576 2, .d _, .d _, .d _, .arr 61440 2, .arr 65536 3, .arr 81920 3]⟩), (24576, ⟨2, 0, .arr true _⟩), (61440, ⟨2, 0, .arr true _⟩), (65536, ⟨3, 0, .arr true _⟩), (81920, ⟨3, 0, .arr true _⟩)] [(2, .c (.ptr 12288 1 0))] [] ⟨rfl, rfl, rfl, rfl, rfl, trivial⟩ ⟨rfl, trivial⟩ rfl (hc _ .normA))))))))))))))))) (kLit rfl rfl rfl rfl (kRelK rfl rfl (kCall1 true (ok_spec_l2own _ (by first | assumption | omega | solve_by_elim [List.getElem_mem] | (simp only [szOut] at *; omega)) (by first | assumption | omega | solve_by_elim [List.getElem_mem] | (simp only [szOut] at *; omega))) ⟨⟨⟨rfl, trivial⟩, Nat.le_of_ble_eq_true rfl⟩, trivial⟩ rfl rfl rfl (fun _ => (kRelK rfl rfl (kAppN rfl rfl rfl (src_encB _ _) rfl rfl rfl rfl (by omega) (kRelK rfl rfl (kAppN rfl rfl rfl (src_encI _ _) rfl rfl rfl rfl (by omega) (kMem [(24576, ⟨2, 0, .arr true _⟩), (61440, ⟨2, 0, .arr true _⟩), (65536, ⟨3, 0, .arr true _⟩), (81920, ⟨3, 0, .arr true _⟩), (12288, ⟨1, 0, .box [.nil 1, .d _, .d _, .d _, .nil 1, .nil 1, .nil 1]⟩)] [(5, .g [.arr 24576 2]), (7, .c (.d _)), (9, .c (.d _)), (11, .c (.d _)), (14, .g [.arr 61440 2]), (18, .c (.arr 65536 3)), (22, .c (.arr 81920 3)), (2, .c (.ptr 12288 1 0))] [8192, 8192, 8192, 8192, 8192, 8192, 8192] ⟨rfl, rfl, rfl, rfl, rfl, trivial⟩ ⟨rfl, rfl, rfl, rfl, rfl, rfl, rfl, rfl, trivial⟩ rfl (kBuildG rfl (kMem [(12288, ⟨1, 0, .box [.nil 1, .d _, .d _, .d _, .nil 1, .nil 1, .nil 1]⟩), (24576, ⟨2, 0, .arr true _⟩), (61440, ⟨2, 0, .arr true _⟩), (65536, ⟨3, 0, .arr true _⟩), (81920, ⟨3, 0, .arr true _⟩)] [(2, .c (.ptr 12288 1 0)), (23, .g [.arr 24576 2, .d _, .d _, .d _, .arr 61440 2, .arr 65536 3, .arr 81920 3])] [8192, 8192, 8192, 8192, 8192, 8192, 8192] ⟨rfl, rfl, rfl, rfl, rfl, trivial⟩ ⟨rfl, rfl, trivial⟩ rfl (kRelF rfl rfl (kStoreP rfl rfl rfl rfl (kDone (kH (kMem [(12288, ⟨1, 0, .box [.arr 24576 2, .d _, .d _, .d _, .arr 61440 2, .arr 65536 3, .arr 81920 3]⟩), (24576, ⟨2, 0, .arr true _⟩), (61440, ⟨2, 0, .arr true _⟩), (65536, ⟨3, 0, .arr true _⟩), (81920, ⟨3, 0, .arr true _⟩)] [(2, .c (.ptr 12288 1 0))] [] ⟨rfl, rfl, rfl, rfl, rfl, trivial⟩ ⟨rfl, trivial⟩ rfl (hc _ .normA))))))))))))))))))))) (kLit rfl rfl rfl rfl (kRelK rfl rfl (kCall1 true (ok_spec_l2own _ (by first | assumption | omega | solve_by_elim [List.getElem_mem] | (simp only [szOut] at *; omega)) (by first | assumption | omega | solve_by_elim [List.getElem_mem] | (simp only [szOut] at *; omega))) ⟨⟨⟨rfl, trivial⟩, Nat.le_of_ble_eq_true rfl⟩, trivial⟩ rfl rfl rfl (fun _ => (kRelK rfl rfl (kCall1 true (ok_spec_l2own _ (by first | assumption | omega | solve_by_elim [List.getElem_mem] | (simp only [szOut] at *; omega)) (by first | assumption | omega | solve_by_elim [List.getElem_mem] | (simp only [szOut] at *; omega))) ⟨⟨⟨rfl, trivial⟩, Nat.le_of_ble_eq_true rfl⟩, trivial⟩ rfl rfl rfl (fun _ => (kRelK rfl rfl (kAppN rfl rfl rfl (src_encB _ _) rfl rfl rfl rfl (by omega) (kRelK rfl rfl (kAppN rfl rfl rfl (src_encI _ _) rfl rfl rfl rfl (by omega) (kMem [(24576, ⟨2, 0, .arr true _⟩), (61440, ⟨2, 0, .arr true _⟩), (65536, ⟨3, 0, .arr true _⟩), (81920, ⟨3, 0, .arr true _⟩), (12288, ⟨1, 0, .box [.nil 1, .d _, .d _, .d _, .nil 1, .nil 1, .nil 1]⟩)] [(5, .g [.arr 24576 2]), (7, .c (.d _)), (9, .c (.d _)), (11, .c (.d _)), (14, .g [.arr 61440 2]), (18, .c (.arr 65536 3)), (22, .c (.arr 81920 3)), (2, .c (.ptr 12288 1 0))] [8192, 8192, 8192, 8192, 8192, 8192, 8192] ⟨rfl, rfl, rfl, rfl, rfl, trivial⟩ ⟨rfl, rfl, rfl, rfl, rfl, rfl, rfl, rfl, trivial⟩ rfl (kBuildG rfl (kMem [(12288, ⟨1, 0, .box [.nil 1, .d _, .d _, .d _, .nil 1, .nil 1, .nil 1]⟩), (24576, ⟨2, 0, .arr true _⟩), (61440, ⟨2, 0, .arr true _⟩), (65536, ⟨3, 0, .arr true _⟩), (81920, ⟨3, 0, .arr true _⟩)] [(2, .c (.ptr 12288 1 0)), (23, .g [.arr 24576 2, .d _, .d _, .d _, .arr 61440 2, .arr 65536 3, .arr 81920 3])] [8192, 8192, 8192, 8192, 8192, 8192, 8192] ⟨rfl, rfl, rfl, rfl, rfl, trivial⟩ ⟨rfl, rfl, trivial⟩ rfl (kRelF rfl rfl (kStoreP rfl rfl rfl rfl (kDone (kH (kMem [(12288, ⟨1, 0, .box [.arr 24576 2, .d _, .d _, .d _, .arr 61440 2, .arr 65536 3, .arr 81920 3]⟩), (24576, ⟨2, 0, .arr true _⟩), (61440, ⟨2, 0, .arr true _⟩), (65536, ⟨3, 0, .arr true _⟩), (81920, ⟨3, 0, .arr true _⟩)] [(2, .c (.ptr 12288 1 0))] [] ⟨rfl, rfl, rfl, rfl, rfl, trivial⟩ ⟨rfl, trivial⟩ rfl (hc _ .normA))))))))))))))))))))))))))))))))))))))))
  refine kMem [(12288, ⟨1, 0, .box [.arr 24576 1, .d _, .d _, .d _, .arr 61440 1, .arr 65536 1, .arr 81920 1]⟩), (24576, ⟨1, 0, .arr true _⟩), (61440, ⟨1, 0, .arr true _⟩), (65536, ⟨1, 0, .arr true _⟩), (81920, ⟨1, 0, .arr true _⟩)] [(2, .c (.ptr 12288 1 0))] [] ⟨rfl, rfl, rfl, rfl, rfl, trivial⟩ ⟨rfl, trivial⟩ rfl (kRet (endRetA (ra := [.agg [(.own true _), (.d _), (.d _), (.d _), (.own true _), (.own true _), (.own true _)]]) rfl rfl))

def c_spec_l3ownAll : C := (.seq (.reg false (.op 0 [] (some 2) none false (.mov (.n 7))
  .done))
 (.seq (.reg false (.op 0 [] (some 3) none false (.mov (.n 7))
  .done))
 (.seq (.seq (.reg false (.op 0 [] (some 4) none false (.mov (.v (.int .i64 0)))
  .done))
 (.block 0 (.loop (.seq (.seq (.reg false (.op 0 [] (some 5) none false (.mov (.t 4))
  (.op 1 [] (some 6) none false (.mov (.t 0))
  (.op 2 [] (some 7) none false (.len (.t 6))
  (.op 3 [] (some 8) none false (.bin .lss (.t 5) (.t 7))
  .done)))))
 (.cond (.t 8)
 .skip
 (.exit 0)))
 (.seq (.block 1 (.reg false (.op 0 [] (some 11) none false (.mov (.t 3))
  (.op 1 [] (some 12) none false (.mov (.t 0))
  (.op 2 [] (some 13) none false (.mov (.t 4))
  (.op 3 [] (some 14) none false (.iad 7 (.t 12) (.t 13))
  (.op 4 [] (some 15) none false (.load (some 7) (.t 14))
  (.op 5 [] (some 16) none false (.call 16 275 [(.t 15)])
  (.op 6 [] (some 17) none false (.lit 17 7 [(.n 1), (.v (.int .i64 0)), (.v (.int .i64 0)), (.v (.int .i64 0)), (.n 1), (.n 1), (.n 1)] 1 [(0, 7, (.t 16))])
  (.op 7 [] (some 18) none false (.app 18 7 120 (.t 11) (.t 17))
  (.op 8 [] (some 3) none false (.mov (.t 18))
  .done)))))))))))
 (.reg false (.op 0 [] (some 9) none false (.mov (.t 4))
  (.op 1 [] (some 10) none false (.bin .add (.t 9) (.v (.int .i64 1)))
  (.op 2 [] (some 4) none false (.mov (.t 10))
  .done)))))))))
 (.seq (.reg false (.op 0 [] (some 19) none false (.mov (.t 3))
  (.op 1 [] (some 2) none false (.mov (.t 19))
  .done)))
 .ret))))
theorem dg_spec_l3ownAll : Tryz.f228.body.bind (digC Tryz.prog Tryz.f228.ntmps []) = some c_spec_l3ownAll := by kernel_rfl
theorem rs_spec_l3ownAll : resSlots Tryz.prog Tryz.f228 = some [.s 2] := by kernel_rfl
theorem ok_spec_l3ownAll (l : List Rr) (hs : SmallRs l) :
    FnOK Tryz.prog 228 [.one (.d (encR l))] (fun ra _ => ra = [.one (.own true (encR l))]) := by
  refine FnOK.ofK Tryz.func228 (by kernel_rfl) dg_spec_l3ownAll rs_spec_l3ownAll rfl rfl ?_
  unfold c_spec_l3ownAll
  have h1 := hs.len
  refine kSeq (kReg (kMovC rfl (kDone (kSeq (kReg (kMovC rfl (kDone (kSeq (kSeq (kReg (kMovC rfl (kDone (kBlock ?_)))))))))))))
  refine kSub (Sub.nilArr (j := 3) (id := rid 5000 0) (sz := 7) rfl (by decide)) ?_
  refine kLoop (α := { i : Nat // i ≤ l.length }) (fun y => ⟨tabSl [(0, .dv (encR l)), (3, .c (.arr (rid 5000 0) 1)), (4, .i y.1)], obTab 1 [(rid 5000 0, ⟨1, 0, .arr true (encR (l.take y.1))⟩)], []⟩) (fun y => l.length - y.1) ⟨0, by simp⟩ .normA ?_
  rintro ⟨i, hi⟩
  simp only
  have hlen : (l.take i).length = i := by simp; omega
  rcases Nat.lt_or_ge i l.length with hlt | hge
  · have hbi := hs.mem _ (List.getElem_mem hlt)
    refine kSeq (kSeq (kReg (kMovC rfl (kMovC rfl (kLenR rfl rfl (kBin rfl rfl rfl (kDone (kCondP rfl (fun g0 => kSkip (kSeq (kBlock (kReg (kMovC rfl (kMovC rfl (kMovC rfl (kIadR rfl rfl rfl (by omega) (kLoadD rfl rfl (kCall1 true (ok_spec_l3own _ (by first | assumption | omega | solve_by_elim [List.getElem_mem] | (simp only [szOut] at *; omega))) ⟨⟨⟨rfl, rfl, rfl, rfl, rfl, rfl, rfl, trivial⟩, Nat.le_of_ble_eq_true rfl⟩, trivial⟩ rfl rfl rfl (fun _ => (kLit rfl rfl rfl rfl (kMem [(20484096, ⟨1, 0, .arr true _⟩), (73728, ⟨2, 0, .arr true _⟩)] [(11, .c (.arr 20484096 1)), (17, .c (.arr 73728 2))] [] ⟨rfl, rfl, trivial⟩ ⟨rfl, rfl, trivial⟩ rfl (kAppRec rfl rfl rfl rfl rfl rfl rfl (by omega) (kMovC rfl (kDone (kBk (kReg (kMovC rfl (kAdd rfl rfl (by omega) (kMovC rfl (kDone ?_)))))))))))))))))))))) (fun g0 => (by omega))))))))))
    exact kInv ⟨⟨i + 1, by omega⟩, by simp only; omega, .normA⟩
  · refine kSeq (kSeq (kReg (kMovC rfl (kMovC rfl (kLenR rfl rfl (kBin rfl rfl rfl (kDone (kCondP rfl (fun g0 => (by omega)) (fun g0 => kExit (kExC (kExI (kExB (kSeq (kReg (kMovC rfl (kMovC rfl (kDone (kMem [(20484096, ⟨1, 0, .arr true _⟩)] [(2, .c (.arr 20484096 1))] [] ⟨rfl, trivial⟩ ⟨rfl, trivial⟩ rfl (kRet (endRetA (ra := [.one (.own true _)]) rfl ?_))))))))))))))))))))
    rw [show i = l.length by omega, List.take_length]

def c_spec_l5own : C := (.seq (.reg false (.op 0 [] (some 1) none false (.box 1 (.t 0))
  (.op 1 [] (some 2) none false (.alloc 2 [(.n 1), (.n 7)])
  .done)))
 (.seq (.reg true (.op 0 [] (some 3) none true (.fad (.t 1) 0)
  (.op 1 [] (some 4) none true (.load (some 1) (.t 3))
  (.op 3 [] (some 6) none true (.fad (.t 1) 1)
  (.op 4 [] (some 7) none true (.load none (.t 6))
  (.op 2 [1] (some 5) none false (.call 5 107 [(.t 4)])
  (.op 5 [4, 1] (some 8) none false (.call 8 228 [(.t 7)])
  (.op 6 [] (some 9) none true (.build [(.n 1), (.n 7)] [(0, 1, (.t 5)), (1, 1, (.t 8))])
  (.op 7 [1, 4] none none false (.store (some 2) (.t 2) (.t 9))
  .done)))))))))
 .ret))
theorem dg_spec_l5own : Tryz.f211.body.bind (digC Tryz.prog Tryz.f211.ntmps []) = some c_spec_l5own := by kernel_rfl
theorem rs_spec_l5own : resSlots Tryz.prog Tryz.f211 = some [.m 2 (some 2)] := by kernel_rfl
theorem ok_spec_l5own (z : Zone) (hs : SmallZ z) :
    FnOK Tryz.prog 211 [.agg (z.cells.map .d)] (fun ra _ => ra = [.agg [.own true (encBB z.origin), .own true (encR z.rrs)]]) := by
  refine FnOK.ofK Tryz.func211 (by kernel_rfl) dg_spec_l5own rs_spec_l5own rfl rfl ?_
  unfold c_spec_l5own
  have o1 := hs.o.len
  have o2 := hs.o.mem
  have h1 := hs.r
  refine kSeq (kReg (kBox rfl rfl rfl rfl rfl (kAlloc rfl rfl (kDone (kSeq (kRegD (kFadP rfl rfl (kLoadP rfl rfl rfl (kFadP rfl rfl (kLoadP rfl rfl rfl (kRelK rfl rfl (kCall1 true (ok_spec_l2own _ (by first | assumption | omega | solve_by_elim [List.getElem_mem] | (simp only [szOut] at *; omega)) (by first | assumption | omega | solve_by_elim [List.getElem_mem] | (simp only [szOut] at *; omega))) ⟨⟨⟨rfl, trivial⟩, Nat.le_of_ble_eq_true rfl⟩, trivial⟩ rfl rfl rfl (fun _ => (kMem [(24576, ⟨1, 0, .arr true _⟩), (12288, ⟨1, 0, .box [.nil 1, .nil 7]⟩)] [(7, .c (.d _)), (5, .g [.arr 24576 1]), (8, .c (.un)), (2, .c (.ptr 12288 1 0)), (9, .c (.un))] [8192, 8192] ⟨rfl, rfl, trivial⟩ ⟨rfl, rfl, rfl, rfl, rfl, trivial⟩ rfl (kRelF rfl rfl (kCall1 true (ok_spec_l3ownAll _ (by first | assumption | omega | solve_by_elim [List.getElem_mem] | (simp only [szOut] at *; omega))) ⟨rfl, trivial⟩ rfl rfl rfl (fun _ => (kBuildG rfl (kMem [(12288, ⟨1, 0, .box [.nil 1, .nil 7]⟩), (24576, ⟨1, 0, .arr true _⟩), (36864, ⟨1, 0, .arr true _⟩)] [(2, .c (.ptr 12288 1 0)), (9, .g [.arr 24576 1, .arr 36864 1])] [] ⟨rfl, rfl, rfl, trivial⟩ ⟨rfl, rfl, trivial⟩ rfl (kRelF rfl rfl (kStoreP rfl rfl rfl rfl (kDone (kH (kMem [(12288, ⟨1, 0, .box [.arr 24576 1, .arr 36864 1]⟩), (24576, ⟨1, 0, .arr true _⟩), (36864, ⟨1, 0, .arr true _⟩)] [(2, .c (.ptr 12288 1 0))] [] ⟨rfl, rfl, rfl, trivial⟩ ⟨rfl, trivial⟩ rfl (kRet (endRetA (ra := [.agg [(.own true _), (.own true _)]]) rfl rfl))))))))))))))))))))))))))

def c_spec_ZoneNew : C := (.seq (.reg false (.op 0 [] (some 2) none false (.box 2 (.t 0))
  (.op 1 [] (some 4) none false (.alloc 4 [(.n 1), (.n 7)])
  (.op 2 [] (some 5) none false (.mov (.v (.bool false)))
  .done))))
 (.seq (.reg false (.op 0 [] (some 7) none false (.load (some 1) (.t 2))
  (.op 1 [] (some 8) none false (.load (some 1) (.t 2))
  (.op 2 [] (some 9) none false (.load (some 1) (.t 2))
  (.op 3 [] (some 10) none false (.mov (.t 1))
  (.op 4 [] (some 11) none false (.lit 11 1 [(.v (.int .i64 0))] 2 [(0, 1, (.t 10)), (1, 1, (.v (.int .i64 60)))])
  (.op 5 [] (some 12) none false (.build [(.n 1), (.v (.int .i64 0)), (.v (.int .i64 0)), (.v (.int .i64 0)), (.n 1), (.n 1), (.n 1)] [(0, 1, (.t 8)), (1, 1, (.v (.int .i64 6))), (2, 1, (.v (.int .i64 60))), (4, 1, (.t 9)), (6, 1, (.t 11))])
  (.op 6 [] (some 13) none false (.lit 13 7 [(.n 1), (.v (.int .i64 0)), (.v (.int .i64 0)), (.v (.int .i64 0)), (.n 1), (.n 1), (.n 1)] 1 [(0, 7, (.t 12))])
  (.op 7 [] (some 14) none false (.build [(.n 1), (.n 7)] [(0, 1, (.t 7)), (1, 1, (.t 13))])
  (.op 8 [] (some 6) none false (.alloc 6 [(.n 1), (.n 7)])
  (.op 9 [] none none false (.store (some 2) (.t 6) (.t 14))
  .done)))))))))))
 (.seq (.seq (.reg false (.op 0 [] (some 15) none false (.load (some 2) (.t 6))
  (.op 1 [] (some 16) none false (.call 16 14 [(.t 15)])
  (.op 2 [] (some 17) none false (.un .not (.t 16))
  .done))))
 (.cond (.t 17)
 (.seq (.reg false (.op 0 [] (some 18) none false (.build [(.n 1), (.n 7)] [])
  (.op 1 [] none none false (.store (some 2) (.t 4) (.t 18))
  (.op 2 [] (some 5) none false (.mov (.v (.bool false)))
  .done))))
 .ret)
 .skip))
 (.seq (.reg false (.op 0 [] (some 19) none false (.load (some 2) (.t 6))
  (.op 1 [] (some 20) none false (.call 20 211 [(.t 19)])
  (.op 2 [] none none false (.store (some 2) (.t 4) (.t 20))
  (.op 3 [] (some 5) none false (.mov (.v (.bool true)))
  .done)))))
 .ret))))
theorem dg_spec_ZoneNew : Tryz.f134.body.bind (digC Tryz.prog Tryz.f134.ntmps []) = some c_spec_ZoneNew := by kernel_rfl
theorem rs_spec_ZoneNew : resSlots Tryz.prog Tryz.f134 = some [.m 4 (some 2), .s 5] := by kernel_rfl
theorem ok_spec_ZoneNew (o : List (List UInt8)) (s : Int) (ho : SmallBB o) :
    FnOK Tryz.prog 134 [.agg [.d (encBB o)], .one (.d (.sc (.int .i64 s)))] (fun ra _ => ra = [.agg [.own true (encBB (zoneNewN o s).origin), .own true (encR (zoneNewN o s).rrs)], .one (.d (.sc (.bool (zoneOk (newZ o s)))))]) := by
  refine FnOK.ofK Tryz.func134 (by kernel_rfl) dg_spec_ZoneNew rs_spec_ZoneNew rfl rfl ?_
  unfold c_spec_ZoneNew
  have hs := SmallZ.top s ho
  refine kSeq (kCut ⟨tabSl [(1, .i s), (2, .c (.ptr (rid 2 0) 1 0)), (4, .c (.ptr (rid 4 0) 1 0)), (5, .b false)], obTab 1 [(rid 2 0, ⟨1, 0, .box [.d (encBB o)]⟩), (rid 4 0, ⟨1, 0, .box [.nil 1, .nil 7]⟩)], []⟩ ?_ (fun x hc => ?_))
  case refine_2 => refine kReg (kBox rfl rfl rfl rfl rfl (kAlloc rfl rfl (kMovC rfl (kDone (kMem [(12288, ⟨1, 0, .box [.d _]⟩), (20480, ⟨1, 0, .box [.nil 1, .nil 7]⟩)] [(1, .c (.d _)), (2, .c (.ptr 12288 1 0)), (4, .c (.ptr 20480 1 0)), (5, .c (.d _))] [] ⟨rfl, rfl, trivial⟩ ⟨rfl, rfl, rfl, rfl, trivial⟩ rfl (hc _ .normA))))))
  refine kSeq (kCut ⟨tabSl [(4, .c (.ptr (rid 4 0) 1 0)), (5, .b false), (6, .c (.ptr (rid 6 0) 1 0))], obTab 1 [(rid 4 0, ⟨1, 0, .box [.nil 1, .nil 7]⟩), (rid 6 0, ⟨1, 0, .box [.d (encBB o), .arr (rid 13 0) 1]⟩), (rid 13 0, ⟨1, 0, .arr false (encR [topR o s])⟩)], []⟩ ?_ (fun x hc => ?_))
  case refine_2 => refine kReg (kLoadP rfl rfl rfl (kLoadP rfl rfl rfl (kLoadP rfl rfl rfl (kMovC rfl (kLit rfl rfl rfl rfl (kMem [(49152, ⟨2, 0, .arr true _⟩)] [(8, .g [.d _]), (9, .g [.d _]), (11, .c (.arr 49152 2)), (7, .g [.d _])] [] ⟨rfl, trivial⟩ ⟨rfl, rfl, rfl, rfl, trivial⟩ rfl (kBuildG rfl (kLit rfl rfl rfl rfl (kMem [(57344, ⟨2, 0, .arr false _⟩)] [(7, .g [.d _]), (13, .c (.arr 57344 2))] [] ⟨rfl, trivial⟩ ⟨rfl, rfl, trivial⟩ rfl (kBuildG rfl (kAlloc rfl rfl (kMem [(28672, ⟨2, 0, .box [.nil 1, .nil 7]⟩), (57344, ⟨2, 0, .arr false _⟩)] [(6, .c (.ptr 28672 2 0)), (14, .g [.d _, .arr 57344 2])] [] ⟨rfl, rfl, trivial⟩ ⟨rfl, rfl, trivial⟩ rfl (kStoreP rfl rfl rfl rfl (kDone (kMem [(20480, ⟨1, 0, .box [.nil 1, .nil 7]⟩), (28672, ⟨2, 0, .box [.d _, .arr 57344 2]⟩), (57344, ⟨2, 0, .arr false _⟩)] [(4, .c (.ptr 20480 1 0)), (5, .c (.d _)), (6, .c (.ptr 28672 2 0))] [] ⟨rfl, rfl, rfl, trivial⟩ ⟨rfl, rfl, rfl, trivial⟩ rfl (hc _ .normA))))))))))))))))
  refine kSeq (kSeq (kReg (kLoadP rfl rfl rfl ?_)))
  refine kCallD (ok_spec_ZoneOk (newZ o s) hs) ⟨⟨⟨rfl, rfl, trivial⟩, Nat.le_of_ble_eq_true rfl⟩, trivial⟩ rfl rfl rfl rfl rfl ?_
  cases hok : zoneOk (newZ o s)
  · rw [show zoneNewN o s = zeroZ by unfold zoneNewN; rw [hok]; rfl]
    refine kUn rfl rfl (kDone (kCondT rfl (kSeq (kReg (kMem [(20480, ⟨1, 0, .box [.nil 1, .nil 7]⟩)] [(4, .c (.ptr 20480 1 0))] [] ⟨rfl, trivial⟩ ⟨rfl, trivial⟩ rfl (kBuildG rfl (kMem [(20480, ⟨1, 0, .box [.nil 1, .nil 7]⟩)] [(4, .c (.ptr 20480 1 0)), (18, .g [.nil 1, .nil 7])] [] ⟨rfl, trivial⟩ ⟨rfl, rfl, trivial⟩ rfl (kStoreP rfl rfl rfl rfl (kMovC rfl (kDone (kMem [(20480, ⟨1, 0, .box [.nil 1, .nil 7]⟩)] [(4, .c (.ptr 20480 1 0)), (5, .c (.d _))] [] ⟨rfl, trivial⟩ ⟨rfl, rfl, trivial⟩ rfl (kRet (endRetA (ra := [.agg [(.own true _), (.own true _)], .one (.d _)]) rfl rfl)))))))))))))
  · rw [show zoneNewN o s = newZ o s by unfold zoneNewN; rw [hok]; rfl]
    refine kUn rfl rfl (kDone (kCondF rfl (kSkip (kSeq (kReg (kLoadP rfl rfl rfl ?_))))))
    refine kCall1 true (ok_spec_l5own (newZ o s) hs) ⟨⟨⟨rfl, rfl, trivial⟩, Nat.le_of_ble_eq_true rfl⟩, trivial⟩ rfl rfl rfl (fun _ => ?_)
    refine kMem [(20480, ⟨1, 0, .box [.nil 1, .nil 7]⟩), (86016, ⟨2, 0, .arr true _⟩), (86017, ⟨2, 0, .arr true _⟩)] [(4, .c (.ptr 20480 1 0)), (20, .g [.arr 86016 2, .arr 86017 2])] [] ⟨rfl, rfl, rfl, trivial⟩ ⟨rfl, rfl, trivial⟩ rfl (kStoreP rfl rfl rfl rfl (kMovC rfl (kDone (kMem [(20480, ⟨1, 0, .box [.arr 86016 2, .arr 86017 2]⟩), (86016, ⟨2, 0, .arr true _⟩), (86017, ⟨2, 0, .arr true _⟩)] [(4, .c (.ptr 20480 1 0)), (5, .c (.d _))] [] ⟨rfl, rfl, rfl, trivial⟩ ⟨rfl, rfl, trivial⟩ rfl (kRet (endRetA (ra := [.agg [(.own true _), (.own true _)], .one (.d _)]) rfl rfl))))))

end Go.Proofs.YtbmagbgdpmgbmaaGreat.FnDropSetsFn
