/- What the functions that FnInsides reaches compute, one contract each; each with the bounds that it states. -/
import Derived.Test.YtbmagbgdpmgbmaaHearth4
import Derived.Test.YtbmagbgdpmgbmaaProg
import Derived.KernelRfl
set_option maxRecDepth 100000
set_option maxHeartbeats 8000000
set_option linter.unusedVariables false
set_option linter.unusedSimpArgs false
namespace Go.Proofs.Ytbmagbgdpmgbmaa.FnInsidesFn
open Go Hearth Go.Proofs

def c_spec_l1New : C := (.seq (.reg false (.op 0 [] (some 2) none false (.mov (.v (.pointer none)))
  .done))
 (.seq (.reg false (.op 0 [] (some 5) none false (.mov (.t 0))
  (.op 1 [] (some 6) none false (.len (.t 5))
  (.op 2 [] (some 7) none false (.bin .add (.v (.int .i64 42222)) (.t 6))
  (.op 3 [] (some 3) none false (.mov (.t 7))
  .done)))))
 (.seq (.seq (.reg false (.op 0 [] (some 4) none false (.mov (.v (.int .i64 0)))
  .done))
 (.block 0 (.loop (.seq (.seq (.reg false (.op 0 [] (some 8) none false (.mov (.t 4))
  (.op 1 [] (some 9) none false (.mov (.t 0))
  (.op 2 [] (some 10) none false (.len (.t 9))
  (.op 3 [] (some 11) none false (.bin .lss (.t 8) (.t 10))
  (.op 4 [] (some 12) none false (.mov (.t 11))
  (.op 5 [] (some 13) (some (12, true)) false (.mov (.t 4))
  (.op 6 [] (some 14) (some (12, true)) false (.bin .lss (.t 13) (.v (.int .i64 4000)))
  (.op 7 [] (some 15) none false (.pick (.t 12) (.t 14) (.v (.bool false)))
  .done)))))))))
 (.cond (.t 15)
 .skip
 (.exit 0)))
 (.seq (.block 1 (.reg false (.op 0 [] (some 18) none false (.mov (.t 3))
  (.op 1 [] (some 19) none false (.bin .mul (.t 18) (.v (.int .i64 131)))
  (.op 2 [] (some 20) none false (.mov (.t 0))
  (.op 3 [] (some 21) none false (.mov (.t 4))
  (.op 4 [] (some 22) none false (.iad 1 (.t 20) (.t 21))
  (.op 5 [] (some 23) none false (.load none (.t 22))
  (.op 6 [] (some 24) none false (.conv .i64 (.t 23))
  (.op 7 [] (some 25) none false (.bin .add (.t 19) (.t 24))
  (.op 8 [] (some 26) none false (.bin .add (.t 25) (.v (.int .i64 7)))
  (.op 9 [] (some 27) none false (.bin .and (.t 26) (.v (.int .i64 1073741823)))
  (.op 10 [] (some 3) none false (.mov (.t 27))
  .done)))))))))))))
 (.reg false (.op 0 [] (some 16) none false (.mov (.t 4))
  (.op 1 [] (some 17) none false (.bin .add (.t 16) (.v (.int .i64 1)))
  (.op 2 [] (some 4) none false (.mov (.t 17))
  .done)))))))))
 (.seq (.reg false (.op 0 [] (some 28) none false (.mov (.t 0))
  (.op 1 [] (some 29) none false (.mov (.t 3))
  (.op 2 [] (some 30) none false (.build [(.n 1), (.v (.int .i64 0)), (.v (.int .i64 0))] [(0, 1, (.t 28)), (2, 1, (.t 29))])
  (.op 3 [] (some 31) none false (.box 31 (.t 30))
  (.op 4 [] (some 2) none false (.mov (.t 31))
  .done))))))
 .ret))))
theorem dg_spec_l1New : Try.f9.body.bind (digC Try.prog Try.f9.ntmps []) = some c_spec_l1New := by kernel_rfl
theorem rs_spec_l1New : resSlots Try.prog Try.f9 = some [.s 2] := by kernel_rfl
theorem ok_spec_l1New (code : List UInt8) (hb : (code.length : Int) ≤ 9223372036854775807) :
    FnOK Try.prog 9 [.one (.d (encB code))] (fun ra _ => ∃ c : Cu, True ∧ ra = [.one (.box c.cells)]) := by
  refine FnOK.ofK Try.func9 (by kernel_rfl) dg_spec_l1New rs_spec_l1New rfl rfl ?_
  unfold c_spec_l1New
  refine kSeq (kReg (kMovC rfl (kDone (kSeq (kReg (kMovC rfl (kLenR rfl rfl (kBin rfl rfl rfl (kMovC rfl (kDone (kSeq (kSeq (kReg (kMovC rfl (kDone (kBlock ?_))))))))))))))))
  refine kLoop (α := { i : Nat // i ≤ code.length } × Int) (fun y => ⟨tabSl [(0, .dv (encB code)), (3, .i y.2), (4, .i y.1.1)], obTab 1 [], []⟩) (fun y => code.length - y.1.1) (⟨0, by simp⟩, _) .normA ?_
  rintro ⟨⟨i, hi⟩, h⟩
  simp only
  rcases Nat.lt_or_ge i code.length with hlt | hge
  · refine kSeq (kSeq (kReg (kMovC rfl (kMovC rfl (kLenR rfl rfl (kBin rfl rfl rfl (kMovC rfl (kGP rfl (fun g0 => kGT rfl (kMovC rfl (kGT rfl (kBin rfl rfl rfl (kPickT rfl (kMovC rfl (kDone (kCondP rfl (fun g1 => kSkip (kSeq (kBlock (kReg (kMovC rfl (kBin rfl rfl rfl (kMovC rfl (kMovC rfl (kIadR rfl rfl rfl (by omega) (kLoadD rfl rfl (kConv rfl (kBin rfl rfl rfl (kBin rfl rfl rfl (kBin rfl rfl rfl (kMovC rfl (kDone (kBk (kReg (kMovC rfl (kAdd rfl rfl (by omega) (kMovC rfl (kDone ?_)))))))))))))))))))))) (fun g1 => kExit (kExC (kExI (kExB (kSeq (kReg (kMovC rfl (kMovC rfl (kBuildG rfl (kBox rfl rfl rfl rfl rfl (kMem [(131072, ⟨2, 0, .box [.d _, .d _, .d _]⟩)] [(31, .c (.ptr 131072 2 0))] [] ⟨rfl, trivial⟩ ⟨rfl, trivial⟩ rfl (kMovC rfl (kDone (kMem [(131072, ⟨2, 0, .box [.d _, .d _, .d _]⟩)] [(2, .c (.ptr 131072 2 0))] [] ⟨rfl, trivial⟩ ⟨rfl, trivial⟩ rfl (kRet (endRetA (ra := [.one (.box [_, _, _])]) rfl ?_)))))))))))))))))))))))) (fun g0 => (by omega))))))))))
    · exact kInv ⟨(⟨i + 1, by omega⟩, _), by simp only; omega, .normA⟩
    · exact ⟨⟨code, 0, h, by omega, by omega, hb⟩, trivial, rfl⟩
  · refine kSeq (kSeq (kReg (kMovC rfl (kMovC rfl (kLenR rfl rfl (kBin rfl rfl rfl (kMovC rfl (kGP rfl (fun g0 => (by omega)) (fun g0 => kGF rfl (kGF rfl (kPickF rfl (kMovC rfl (kDone (kCondF rfl (kExit (kExC (kExI (kExB (kSeq (kReg (kMovC rfl (kMovC rfl (kBuildG rfl (kBox rfl rfl rfl rfl rfl (kMem [(131072, ⟨2, 0, .box [.d _, .d _, .d _]⟩)] [(31, .c (.ptr 131072 2 0))] [] ⟨rfl, trivial⟩ ⟨rfl, trivial⟩ rfl (kMovC rfl (kDone (kMem [(131072, ⟨2, 0, .box [.d _, .d _, .d _]⟩)] [(2, .c (.ptr 131072 2 0))] [] ⟨rfl, trivial⟩ ⟨rfl, trivial⟩ rfl (kRet (endRetA (ra := [.one (.box [_, _, _])]) rfl ?_))))))))))))))))))))))))))))))
    exact ⟨⟨code, 0, h, by omega, by omega, hb⟩, trivial, rfl⟩

def c_spec_l1Byte : C := (.seq (.reg false (.op 0 [] (some 2) none false (.mov (.v (.int .i64 0)))
  .done))
 (.seq (.reg false (.op 0 [] (some 4) none false (.mov (.t 0))
  (.op 1 [] (some 5) none false (.mov (.t 0))
  (.op 2 [] (some 6) none false (.nck (.t 5))
  (.op 3 [] (some 7) none false (.fad (.t 6) 2)
  (.op 4 [] (some 8) none false (.load none (.t 7))
  (.op 5 [] (some 9) none false (.bin .mul (.t 8) (.v (.int .i64 6364136223846793005)))
  (.op 6 [] (some 10) none false (.bin .add (.t 9) (.v (.int .i64 1442695040888963407)))
  (.op 7 [] (some 11) none false (.nck (.t 4))
  (.op 8 [] (some 12) none false (.fad (.t 11) 2)
  (.op 9 [] none none false (.store none (.t 12) (.t 10))
  .done)))))))))))
 (.seq (.reg true (.op 0 [] (some 13) none true (.mov (.t 0))
  (.op 1 [] (some 14) none true (.nck (.t 13))
  (.op 2 [] (some 15) none true (.fad (.t 14) 2)
  (.op 3 [] (some 16) none true (.load none (.t 15))
  (.op 4 [] (some 17) none true (.bin .shr (.t 16) (.v (.int .u64 33)))
  (.op 5 [] (some 18) none true (.mov (.t 0))
  (.op 6 [] (some 19) none true (.nck (.t 18))
  (.op 7 [] (some 20) none true (.fad (.t 19) 2)
  (.op 8 [] (some 21) none true (.load none (.t 20))
  (.op 9 [] (some 22) none true (.bin .shr (.t 21) (.v (.int .u64 45)))
  (.op 10 [] (some 23) none true (.bin .xor (.t 17) (.t 22))
  (.op 11 [] (some 24) none true (.bin .and (.t 23) (.v (.int .i64 255)))
  (.op 12 [] (some 3) none true (.mov (.t 24))
  .done))))))))))))))
 (.seq (.seq (.reg true (.op 0 [] (some 25) none true (.mov (.t 0))
  (.op 1 [] (some 26) none true (.nck (.t 25))
  (.op 2 [] (some 27) none true (.fad (.t 26) 1)
  (.op 3 [] (some 28) none true (.load none (.t 27))
  (.op 4 [] (some 29) none true (.mov (.t 0))
  (.op 5 [] (some 30) none true (.nck (.t 29))
  (.op 6 [] (some 31) none true (.fad (.t 30) 0)
  (.op 7 [] (some 32) none true (.load none (.t 31))
  (.op 8 [] (some 33) none true (.len (.t 32))
  (.op 9 [] (some 34) none true (.bin .lss (.t 28) (.t 33))
  .done)))))))))))
 (.cond (.t 34)
 (.seq (.reg true (.op 0 [] (some 35) none true (.mov (.t 3))
  (.op 1 [] (some 36) none true (.mov (.t 0))
  (.op 2 [] (some 37) none true (.nck (.t 36))
  (.op 3 [] (some 38) none true (.fad (.t 37) 0)
  (.op 4 [] (some 39) none true (.load none (.t 38))
  (.op 5 [] (some 40) none true (.mov (.t 0))
  (.op 6 [] (some 41) none true (.nck (.t 40))
  (.op 7 [] (some 42) none true (.fad (.t 41) 1)
  (.op 8 [] (some 43) none true (.load none (.t 42))
  (.op 9 [] (some 44) none true (.iad 1 (.t 39) (.t 43))
  (.op 10 [] (some 45) none true (.load none (.t 44))
  (.op 11 [] (some 46) none true (.conv .i64 (.t 45))
  (.op 12 [] (some 47) none true (.bin .add (.t 35) (.t 46))
  (.op 13 [] (some 48) none true (.bin .and (.t 47) (.v (.int .i64 255)))
  (.op 14 [] (some 3) none true (.mov (.t 48))
  .done))))))))))))))))
 (.reg false (.op 0 [] (some 49) none false (.mov (.t 0))
  (.op 1 [] (some 50) none false (.mov (.t 0))
  (.op 2 [] (some 51) none false (.nck (.t 50))
  (.op 3 [] (some 52) none false (.fad (.t 51) 1)
  (.op 4 [] (some 53) none false (.load none (.t 52))
  (.op 5 [] (some 54) none false (.bin .add (.t 53) (.v (.int .i64 1)))
  (.op 6 [] (some 55) none false (.nck (.t 49))
  (.op 7 [] (some 56) none false (.fad (.t 55) 1)
  (.op 8 [] none none false (.store none (.t 56) (.t 54))
  .done)))))))))))
 .skip))
 (.seq (.reg false (.op 0 [] (some 57) none false (.mov (.t 3))
  (.op 1 [] (some 2) none false (.mov (.t 57))
  .done)))
 .ret)))))
theorem dg_spec_l1Byte : Try.f26.body.bind (digC Try.prog Try.f26.ntmps []) = some c_spec_l1Byte := by kernel_rfl
theorem rs_spec_l1Byte : resSlots Try.prog Try.f26 = some [.s 2] := by kernel_rfl
theorem ok_spec_l1Byte (c : Cu) :
    FnOK Try.prog 26 [.one (.box c.cells)] (fun ra os => ∃ x : Int × Cu, (0 ≤ x.1 ∧ x.1 ≤ 255) ∧ ra = [.one (.d (.sc (.int .i64 x.1)))] ∧ os.b 0 = x.2.cells) := by
  refine FnOK.ofK Try.func26 (by kernel_rfl) dg_spec_l1Byte rs_spec_l1Byte rfl rfl ?_
  unfold c_spec_l1Byte
  have c0 := c.i0
  have c1 := c.i1
  have c2 := c.b
  refine kSeq (kReg (kMovC rfl (kDone (kSeq (kReg (kMovC rfl (kMovC rfl (kNck rfl rfl (kFadP rfl rfl (kLoadP rfl rfl rfl (kBin rfl rfl rfl (kBin rfl rfl rfl (kNck rfl rfl (kFadP rfl rfl (kStoreP rfl rfl rfl rfl (kDone (kSeq (kRegD (kMem [(0, ⟨0, 0, .box [.d _, .d _, .d _]⟩)] [(0, .c (.ptr 0 0 0)), (13, .c (.un)), (14, .c (.un)), (15, .c (.un)), (16, .c (.un)), (18, .c (.un)), (19, .c (.un)), (20, .c (.un)), (21, .c (.un)), (17, .c (.un)), (22, .c (.un)), (23, .c (.un)), (24, .c (.un))] [] ⟨rfl, trivial⟩ ⟨rfl, rfl, rfl, rfl, rfl, rfl, rfl, rfl, rfl, rfl, rfl, rfl, rfl, trivial⟩ rfl (kMovC rfl (kNck rfl rfl (kFadP rfl rfl (kLoadP rfl rfl rfl (kShr (m := 33) rfl rfl rfl (kMovC rfl (kNck rfl rfl (kFadP rfl rfl (kLoadP rfl rfl rfl (kShr (m := 45) rfl rfl rfl (kBin rfl rfl rfl (kBin rfl rfl rfl (kMovC rfl (kDone (kH (kSeq (kSeq (kRegD (kMovC rfl (kNck rfl rfl (kFadP rfl rfl (kLoadP rfl rfl rfl (kMovC rfl (kNck rfl rfl (kFadP rfl rfl (kLoadP rfl rfl rfl (kLenR rfl rfl (kBin rfl rfl rfl (kDone (kH (kCondP rfl (fun g0 => kSeq (kRegD (kMovC rfl (kMovC rfl (kNck rfl rfl (kFadP rfl rfl (kLoadP rfl rfl rfl (kMovC rfl (kNck rfl rfl (kFadP rfl rfl (kLoadP rfl rfl rfl (kIadT rfl rfl (by omega) (kLoadD rfl rfl (kConv rfl (kBin rfl rfl rfl (kBin rfl rfl rfl (kMovC rfl (kDone (kH (kReg (kMovC rfl (kMovC rfl (kNck rfl rfl (kFadP rfl rfl (kLoadP rfl rfl rfl (kAdd rfl rfl (by omega) (kNck rfl rfl (kFadP rfl rfl (kStoreP rfl rfl rfl rfl (kDone (kSeq (kReg (kMovC rfl (kMovC rfl (kDone (kRet (endRetA (ra := [.one (.d _)]) rfl ?_))))))))))))))))))))))))))))))))))))) (fun g0 => kSkip (kSeq (kReg (kMovC rfl (kMovC rfl (kDone (kRet (endRetA (ra := [.one (.d _)]) rfl ?_))))))))))))))))))))))))))))))))))))))))))))))))))))))))))
  · refine ⟨(IntKind.i64.wrap ((_ &&& BitVec.ofInt 64 255).toNat : Int), ⟨c.code, c.i + 1, IntKind.i64.wrap _, by omega, by omega, c.b⟩), and255 _, rfl, rfl⟩
  · refine ⟨(IntKind.i64.wrap ((_ &&& BitVec.ofInt 64 255).toNat : Int), ⟨c.code, c.i, IntKind.i64.wrap _, c.i0, c.i1, c.b⟩), and255 _, rfl, rfl⟩

def c_spec_l1Below : C := (.seq (.reg false (.op 0 [] (some 4) none false (.mov (.v (.int .i64 0)))
  .done))
 (.seq (.seq (.reg false (.op 0 [] (some 9) none false (.mov (.t 1))
  (.op 1 [] (some 10) none false (.bin .leq (.t 9) (.v (.int .i64 0)))
  .done)))
 (.cond (.t 10)
 (.seq (.reg false (.op 0 [] (some 4) none false (.mov (.v (.int .i64 0)))
  .done))
 .ret)
 .skip))
 (.seq (.seq (.reg false (.op 0 [] (some 11) none false (.mov (.t 1))
  (.op 1 [] (some 12) none false (.bin .leq (.t 11) (.v (.int .i64 256)))
  .done)))
 (.cond (.t 12)
 (.seq (.reg false (.op 0 [] (some 13) none false (.mov (.t 0))
  (.op 1 [] (some 14) none false (.call 14 26 [(.t 13)])
  (.op 2 [] (some 15) none false (.mov (.t 1))
  (.op 3 [] (some 16) none false (.bin .rem (.t 14) (.t 15))
  (.op 4 [] (some 4) none false (.mov (.t 16))
  .done))))))
 .ret)
 .skip))
 (.seq (.reg false (.op 0 [] (some 17) none false (.mov (.t 0))
  (.op 1 [] (some 18) none false (.call 18 26 [(.t 17)])
  (.op 2 [] (some 5) none false (.mov (.t 18))
  .done))))
 (.seq (.reg false (.op 0 [] (some 19) none false (.mov (.t 0))
  (.op 1 [] (some 20) none false (.call 20 26 [(.t 19)])
  (.op 2 [] (some 6) none false (.mov (.t 20))
  .done))))
 (.seq (.reg false (.op 0 [] (some 21) none false (.mov (.t 0))
  (.op 1 [] (some 22) none false (.call 22 26 [(.t 21)])
  (.op 2 [] (some 7) none false (.mov (.t 22))
  .done))))
 (.seq (.reg false (.op 0 [] (some 23) none false (.mov (.t 0))
  (.op 1 [] (some 24) none false (.call 24 26 [(.t 23)])
  (.op 2 [] (some 8) none false (.mov (.t 24))
  .done))))
 (.seq (.reg false (.op 0 [] (some 25) none false (.mov (.t 5))
  (.op 1 [] (some 26) none false (.bin .mul (.t 25) (.v (.int .i64 16777216)))
  (.op 2 [] (some 27) none false (.mov (.t 6))
  (.op 3 [] (some 28) none false (.bin .mul (.t 27) (.v (.int .i64 65536)))
  (.op 4 [] (some 29) none false (.bin .add (.t 26) (.t 28))
  (.op 5 [] (some 30) none false (.mov (.t 7))
  (.op 6 [] (some 31) none false (.bin .mul (.t 30) (.v (.int .i64 256)))
  (.op 7 [] (some 32) none false (.bin .add (.t 29) (.t 31))
  (.op 8 [] (some 33) none false (.mov (.t 8))
  (.op 9 [] (some 34) none false (.bin .add (.t 32) (.t 33))
  (.op 10 [] (some 35) none false (.mov (.t 1))
  (.op 11 [] (some 36) none false (.bin .rem (.t 34) (.t 35))
  (.op 12 [] (some 4) none false (.mov (.t 36))
  .done))))))))))))))
 .ret))))))))
theorem dg_spec_l1Below : Try.f10.body.bind (digC Try.prog Try.f10.ntmps []) = some c_spec_l1Below := by kernel_rfl
theorem rs_spec_l1Below : resSlots Try.prog Try.f10 = some [.s 4] := by kernel_rfl
theorem ok_spec_l1Below (c : Cu) (n : Int) :
    FnOK Try.prog 10 [.one (.box c.cells), .one (.d (.sc (.int .i64 n)))] (fun ra os => ∃ x : Int × Cu, (0 ≤ x.1 ∧ (x.1 < n ∨ x.1 = 0)) ∧ ra = [.one (.d (.sc (.int .i64 x.1)))] ∧ os.b 0 = x.2.cells) := by
  refine FnOK.ofK Try.func10 (by kernel_rfl) dg_spec_l1Below rs_spec_l1Below rfl rfl ?_
  unfold c_spec_l1Below
  refine kSeq (kReg (kMovC rfl (kDone (kSeq (kSeq (kReg (kMovC rfl (kBin rfl rfl rfl (kDone (kCondP rfl (fun g0 => kSeq (kReg (kMovC rfl (kDone (kRet (endRetA (ra := [.one (.d _)]) rfl ?_)))))) (fun g0 => kSkip (kSeq (kSeq (kReg (kMovC rfl (kBin rfl rfl rfl (kDone (kCondP rfl (fun g1 => kSeq (kReg (kMovC rfl (kCallE (ok_spec_l1Byte _) ⟨⟨rfl, _, rfl, rfl⟩, trivial⟩ rfl rfl rfl (fun _ => rfl) (fun x2 hx2 => (kMovC rfl (kRem rfl rfl (by omega) (kMovC rfl (kDone (kRet (endRetA (ra := [.one (.d _)]) rfl ?_))))))))))) (fun g1 => kSkip (kSeq (kReg (kMovC rfl (kCallE (ok_spec_l1Byte _) ⟨⟨rfl, _, rfl, rfl⟩, trivial⟩ rfl rfl rfl (fun _ => rfl) (fun x3 hx3 => (kMovC rfl (kDone (kSeq (kReg (kMovC rfl (kCallE (ok_spec_l1Byte _) ⟨⟨rfl, _, rfl, rfl⟩, trivial⟩ rfl rfl rfl (fun _ => rfl) (fun x4 hx4 => (kMovC rfl (kDone (kSeq (kReg (kMem [(0, ⟨0, 2, .box [.d _, .d _, .d _]⟩)] [(0, .c (.ptr 0 0 0)), (21, .c (.un)), (22, .c (.un))] [] ⟨rfl, trivial⟩ ⟨rfl, rfl, rfl, trivial⟩ rfl (kMovC rfl (kCallE (ok_spec_l1Byte _) ⟨⟨rfl, _, rfl, rfl⟩, trivial⟩ rfl rfl rfl (fun _ => rfl) (fun x5 hx5 => (kMovC rfl (kDone (kSeq (kReg (kMovC rfl (kCallE (ok_spec_l1Byte _) ⟨⟨rfl, _, rfl, rfl⟩, trivial⟩ rfl rfl rfl (fun _ => rfl) (fun x6 hx6 => (kMovC rfl (kDone (kSeq (kReg (kMovC rfl (kMul rfl rfl (by omega) (kMovC rfl (kMul rfl rfl (by omega) (kAdd rfl rfl (by omega) (kMovC rfl (kMul rfl rfl (by omega) (kAdd rfl rfl (by omega) (kMovC rfl (kAdd rfl rfl (by omega) (kMovC rfl (kRem rfl rfl (by omega) (kMovC rfl (kDone (kRet (endRetA (ra := [.one (.d _)]) rfl ?_))))))))))))))))))))))))))))))))))))))))))))))))))))))))))))))))))
  · exact ⟨(0, c), ⟨Int.le_refl _, .inr rfl⟩, rfl, rfl⟩
  · have := tmod_in (a := x2.1) (n := n) hx2.1 (by omega)
    exact ⟨(x2.1.tmod n, x2.2), ⟨this.1, .inl this.2⟩, rfl, rfl⟩
  · have := tmod_in (a := x3.1 * 16777216 + x4.1 * 65536 + x5.1 * 256 + x6.1) (n := n) (by omega) (by omega)
    exact ⟨(_, x6.2), ⟨this.1, .inl this.2⟩, rfl, rfl⟩

def c_spec_Lower : C := (.seq (.reg false (.op 0 [] (some 2) none false (.mov (.n 1))
  .done))
 (.seq (.reg false (.op 0 [] (some 5) none false (.lit 5 1 [(.v (.int .u8 0))] 0 [])
  (.op 1 [] (some 6) none false (.mov (.t 0))
  (.op 2 [] (some 7) none false (.app 7 1 1 (.t 5) (.t 6))
  (.op 3 [] (some 3) none false (.mov (.t 7))
  .done)))))
 (.seq (.seq (.reg false (.op 0 [] (some 4) none false (.mov (.v (.int .i64 0)))
  .done))
 (.block 0 (.loop (.seq (.seq (.reg false (.op 0 [] (some 8) none false (.mov (.t 4))
  (.op 1 [] (some 9) none false (.mov (.t 3))
  (.op 2 [] (some 10) none false (.len (.t 9))
  (.op 3 [] (some 11) none false (.bin .lss (.t 8) (.t 10))
  .done)))))
 (.cond (.t 11)
 .skip
 (.exit 0)))
 (.seq (.block 1 (.seq (.reg false (.op 0 [] (some 14) none false (.mov (.t 3))
  (.op 1 [] (some 15) none false (.mov (.t 4))
  (.op 2 [] (some 16) none false (.iad 1 (.t 14) (.t 15))
  (.op 3 [] (some 17) none false (.load none (.t 16))
  (.op 4 [] (some 18) none false (.bin .geq (.t 17) (.v (.int .u8 65)))
  (.op 5 [] (some 19) none false (.mov (.t 18))
  (.op 6 [] (some 20) (some (19, true)) false (.mov (.t 3))
  (.op 7 [] (some 21) (some (19, true)) false (.mov (.t 4))
  (.op 8 [] (some 22) (some (19, true)) false (.iad 1 (.t 20) (.t 21))
  (.op 9 [] (some 23) (some (19, true)) false (.load none (.t 22))
  (.op 10 [] (some 24) (some (19, true)) false (.bin .leq (.t 23) (.v (.int .u8 90)))
  (.op 11 [] (some 25) none false (.pick (.t 19) (.t 24) (.v (.bool false)))
  .done)))))))))))))
 (.cond (.t 25)
 (.reg false (.op 0 [] (some 26) none false (.mov (.t 3))
  (.op 1 [] (some 27) none false (.mov (.t 4))
  (.op 2 [] (some 28) none false (.mov (.t 3))
  (.op 3 [] (some 29) none false (.mov (.t 4))
  (.op 4 [] (some 30) none false (.iad 1 (.t 28) (.t 29))
  (.op 5 [] (some 31) none false (.load none (.t 30))
  (.op 6 [] (some 32) none false (.bin .add (.t 31) (.v (.int .u8 32)))
  (.op 7 [] (some 33) none false (.iad 1 (.t 26) (.t 27))
  (.op 8 [] none none false (.store none (.t 33) (.t 32))
  .done))))))))))
 .skip)))
 (.reg false (.op 0 [] (some 12) none false (.mov (.t 4))
  (.op 1 [] (some 13) none false (.bin .add (.t 12) (.v (.int .i64 1)))
  (.op 2 [] (some 4) none false (.mov (.t 13))
  .done)))))))))
 (.seq (.reg false (.op 0 [] (some 34) none false (.mov (.t 3))
  (.op 1 [] (some 2) none false (.mov (.t 34))
  .done)))
 .ret))))
theorem dg_spec_Lower : Try.f68.body.bind (digC Try.prog Try.f68.ntmps []) = some c_spec_Lower := by kernel_rfl
theorem rs_spec_Lower : resSlots Try.prog Try.f68 = some [.s 2] := by kernel_rfl
theorem ok_spec_Lower (b : List UInt8) (hb : b.length ≤ 4194304) :
    FnOK Try.prog 68 [.one (.d (encB b))] (fun ra _ => ra = [.one (.own true (encB (lowerB b)))]) := by
  refine FnOK.ofK Try.func68 (by kernel_rfl) dg_spec_Lower rs_spec_Lower rfl rfl ?_
  unfold c_spec_Lower
  refine kSeq (kReg (kMovC rfl (kDone (kSeq (kReg (kLit rfl rfl rfl rfl (kMovC rfl (kAppN rfl rfl rfl (src_encB _ _) rfl rfl rfl rfl (by omega) (kMovC rfl (kDone (kSeq (kSeq (kReg (kMovC rfl (kDone (kBlock ?_))))))))))))))))
  refine kLoop (α := { i : Nat // i ≤ b.length }) (fun y => ⟨tabSl [(3, .c (.arr (rid 5 0) 1)), (4, .i y.1)], obTab 1 [(rid 5 0, ⟨1, 0, .arr true (encB (lowerB (b.take y.1) ++ b.drop y.1))⟩)], []⟩) (fun y => b.length - y.1) ⟨0, by simp⟩ .normA ?_
  rintro ⟨i, hi⟩
  simp only
  have hlen : (lowerB (b.take i) ++ b.drop i).length = b.length := by simp [lowerB]; omega
  rcases Nat.lt_or_ge i b.length with hlt | hge
  · have hget : (lowerB (b.take i) ++ b.drop i)[i]? = some b[i] := by
      rw [List.getElem?_append_right (by simp [lowerB]; omega)]; simp [lowerB, Nat.min_eq_left hi]
    have hst : ∀ c, c = lowC b[i] → (lowerB (b.take i) ++ b.drop i).set i c = lowerB (b.take (i + 1)) ++ b.drop (i + 1) := by
      rintro c rfl
      rw [take_set_succ _ _ _ _ hlt (by simp [lowerB]; omega)]
      unfold lowerB
      rw [← List.take_append_getElem hlt, List.map_append]
      rfl
    revert hget hst hlen
    generalize lowerB (b.take i) ++ b.drop i = L
    intro hlen hget hst
    have hiL : i < L.length := by omega
    have hg : L[i] = b[i] := by rw [List.getElem?_eq_getElem hiL] at hget; simpa using hget
    have hw : IntKind.u8.wrap (((L[i]).toNat : Int) + 32) = ((L[i] + 32 : UInt8).toNat : Int) := by
      have := (L[i]).toNat_lt
      simp [IntKind.wrap, IntKind.bits, IntKind.signed, UInt8.toNat_add]
    have hno : (¬ ((L[i]).toNat : Int) ≥ 65 ∨ ¬ ((L[i]).toNat : Int) ≤ 90) → L = lowerB (b.take (i + 1)) ++ b.drop (i + 1) := by
      intro h
      rw [← hst L[i] (by
        rw [hg] at h ⊢
        unfold lowC
        rw [if_neg]
        rintro ⟨h1, h2⟩
        have h1 := UInt8.le_iff_toNat_le.1 h1
        have h2 := UInt8.le_iff_toNat_le.1 h2
        simp at h1 h2
        omega)]
      simp
    refine kSeq (kSeq (kReg (kMovC rfl (kMovC rfl (kLenR rfl rfl (kBin rfl rfl rfl (kDone (kCondP rfl (fun g0 => kSkip (kSeq (kBlock (kSeq (kReg (kMovC rfl (kMovC rfl (kIadAR rfl rfl rfl rfl (by omega) (kLoadER rfl rfl (by omega) rfl (kBin rfl rfl rfl (kMovC rfl (kGP rfl (fun g1 => kMem [(24576, ⟨1, 0, .arr true _⟩)] [(3, .c (.arr 24576 1)), (4, .c (.d _)), (19, .c (.d _))] [] ⟨rfl, trivial⟩ ⟨rfl, rfl, rfl, trivial⟩ rfl (kGT rfl (kMovC rfl (kGT rfl (kMovC rfl (kGT rfl (kIadAR rfl rfl rfl rfl (by omega) (kGT rfl (kLoadER rfl rfl (by omega) rfl (kGT rfl (kBin rfl rfl rfl (kPickT rfl (kMovC rfl (kDone (kCondP rfl (fun g2 => kReg (kMovC rfl (kMovC rfl (kMovC rfl (kMovC rfl (kIadAR rfl rfl rfl rfl (by omega) (kMem [(24576, ⟨1, 0, .arr true _⟩)] [(26, .c (.arr 24576 1)), (27, .c (.d _))] [] ⟨rfl, trivial⟩ ⟨rfl, rfl, trivial⟩ rfl (kLoadER rfl rfl (by omega) rfl (kBin rfl rfl rfl (kIadAR rfl rfl rfl rfl (by omega) ?_)))))))))) (fun g2 => kSkip (kBk (kReg (kMovC rfl (kAdd rfl rfl (by omega) (kMovC rfl (kDone ?_)))))))))))))))))))))) (fun g1 => kMem [(24576, ⟨1, 0, .arr true _⟩)] [(3, .c (.arr 24576 1)), (4, .c (.d _)), (19, .c (.d _))] [] ⟨rfl, trivial⟩ ⟨rfl, rfl, rfl, trivial⟩ rfl (kGF rfl (kGF rfl (kGF rfl (kGF rfl (kGF rfl (kPickF rfl (kMovC rfl (kDone (kCondF rfl (kSkip (kBk (kReg (kMovC rfl (kAdd rfl rfl (by omega) (kMovC rfl (kDone ?_))))))))))))))))))))))))))))) (fun g0 => (by omega))))))))))
    · refine kStoreER (z := L[i] + 32) rfl rfl rfl rfl rfl rfl rfl hiL (by rw [← hw]; rfl) ?_
      refine kDone (kBk (kReg (kMovC rfl (kAdd rfl rfl (by omega) (kMovC rfl (kDone ?_))))))
      refine kInv ⟨⟨i + 1, by omega⟩, by simp only; omega, ?_⟩
      simp only
      rw [← hst (L[i] + 32) (by
        rw [hg] at *
        unfold lowC
        rw [if_pos]
        simp only [UInt8.le_iff_toNat_le]
        exact ⟨by simp; omega, by simp; omega⟩)]
      exact .normA
    all_goals
      refine kInv ⟨⟨i + 1, by omega⟩, by simp only; omega, ?_⟩
      simp only
      rw [← hno (by omega)]
      exact .normA
  · refine kSeq (kSeq (kReg (kMovC rfl (kMovC rfl (kLenR rfl rfl (kBin rfl rfl rfl (kDone (kCondP rfl (fun g0 => (by omega)) (fun g0 => kExit (kExC (kExI (kExB (kSeq (kReg (kMovC rfl (kMovC rfl (kDone (kMem [(24576, ⟨1, 0, .arr true _⟩)] [(2, .c (.arr 24576 1))] [] ⟨rfl, trivial⟩ ⟨rfl, trivial⟩ rfl (kRet (endRetA (ra := [.one (.own true _)]) rfl ?_))))))))))))))))))))
    rw [show i = b.length by omega]
    simp

def c_spec_LabelOk : C := (.seq (.reg false (.op 0 [] (some 2) none false (.mov (.v (.bool false)))
  .done))
 (.seq (.seq (.reg false (.op 0 [] (some 4) none false (.mov (.t 0))
  (.op 1 [] (some 5) none false (.len (.t 4))
  (.op 2 [] (some 6) none false (.bin .lss (.t 5) (.v (.int .i64 1)))
  (.op 3 [] (some 7) none false (.mov (.t 6))
  (.op 4 [] (some 8) (some (7, false)) false (.mov (.t 0))
  (.op 5 [] (some 9) (some (7, false)) false (.len (.t 8))
  (.op 6 [] (some 10) (some (7, false)) false (.bin .gtr (.t 9) (.v (.int .i64 15)))
  (.op 7 [] (some 11) none false (.pick (.t 7) (.v (.bool true)) (.t 10))
  .done)))))))))
 (.cond (.t 11)
 (.seq (.reg false (.op 0 [] (some 2) none false (.mov (.v (.bool false)))
  .done))
 .ret)
 .skip))
 (.seq (.seq (.reg false (.op 0 [] (some 3) none false (.mov (.v (.int .i64 0)))
  .done))
 (.block 0 (.loop (.seq (.seq (.reg false (.op 0 [] (some 12) none false (.mov (.t 3))
  (.op 1 [] (some 13) none false (.mov (.t 0))
  (.op 2 [] (some 14) none false (.len (.t 13))
  (.op 3 [] (some 15) none false (.bin .lss (.t 12) (.t 14))
  .done)))))
 (.cond (.t 15)
 .skip
 (.exit 0)))
 (.seq (.block 1 (.seq (.reg false (.op 0 [] (some 18) none false (.mov (.t 0))
  (.op 1 [] (some 19) none false (.mov (.t 3))
  (.op 2 [] (some 20) none false (.iad 1 (.t 18) (.t 19))
  (.op 3 [] (some 21) none false (.load none (.t 20))
  (.op 4 [] (some 22) none false (.bin .geq (.t 21) (.v (.int .u8 97)))
  (.op 5 [] (some 23) none false (.mov (.t 22))
  (.op 6 [] (some 24) (some (23, true)) false (.mov (.t 0))
  (.op 7 [] (some 25) (some (23, true)) false (.mov (.t 3))
  (.op 8 [] (some 26) (some (23, true)) false (.iad 1 (.t 24) (.t 25))
  (.op 9 [] (some 27) (some (23, true)) false (.load none (.t 26))
  (.op 10 [] (some 28) (some (23, true)) false (.bin .leq (.t 27) (.v (.int .u8 122)))
  (.op 11 [] (some 29) none false (.pick (.t 23) (.t 28) (.v (.bool false)))
  (.op 12 [] (some 30) none false (.un .not (.t 29))
  (.op 13 [] (some 31) none false (.mov (.t 30))
  (.op 14 [] (some 32) (some (31, true)) false (.mov (.t 0))
  (.op 15 [] (some 33) (some (31, true)) false (.mov (.t 3))
  (.op 16 [] (some 34) (some (31, true)) false (.iad 1 (.t 32) (.t 33))
  (.op 17 [] (some 35) (some (31, true)) false (.load none (.t 34))
  (.op 18 [] (some 36) (some (31, true)) false (.bin .geq (.t 35) (.v (.int .u8 48)))
  (.op 19 [] (some 37) (some (31, true)) false (.mov (.t 36))
  (.op 20 [] (some 38) (some (37, true)) false (.mov (.t 0))
  (.op 21 [] (some 39) (some (37, true)) false (.mov (.t 3))
  (.op 22 [] (some 40) (some (37, true)) false (.iad 1 (.t 38) (.t 39))
  (.op 23 [] (some 41) (some (37, true)) false (.load none (.t 40))
  (.op 24 [] (some 42) (some (37, true)) false (.bin .leq (.t 41) (.v (.int .u8 57)))
  (.op 25 [] (some 43) (some (31, true)) false (.pick (.t 37) (.t 42) (.v (.bool false)))
  (.op 26 [] (some 44) (some (31, true)) false (.un .not (.t 43))
  (.op 27 [] (some 45) none false (.pick (.t 31) (.t 44) (.v (.bool false)))
  (.op 28 [] (some 46) none false (.mov (.t 45))
  (.op 29 [] (some 47) (some (46, true)) false (.mov (.t 0))
  (.op 30 [] (some 48) (some (46, true)) false (.mov (.t 3))
  (.op 31 [] (some 49) (some (46, true)) false (.iad 1 (.t 47) (.t 48))
  (.op 32 [] (some 50) (some (46, true)) false (.load none (.t 49))
  (.op 33 [] (some 51) (some (46, true)) false (.bin .neq (.t 50) (.v (.int .u8 45)))
  (.op 34 [] (some 52) none false (.pick (.t 46) (.t 51) (.v (.bool false)))
  .done))))))))))))))))))))))))))))))))))))
 (.cond (.t 52)
 (.seq (.reg false (.op 0 [] (some 2) none false (.mov (.v (.bool false)))
  .done))
 .ret)
 .skip)))
 (.reg false (.op 0 [] (some 16) none false (.mov (.t 3))
  (.op 1 [] (some 17) none false (.bin .add (.t 16) (.v (.int .i64 1)))
  (.op 2 [] (some 3) none false (.mov (.t 17))
  .done)))))))))
 (.seq (.reg false (.op 0 [] (some 2) none false (.mov (.v (.bool true)))
  .done))
 .ret))))
theorem dg_spec_LabelOk : Try.f70.body.bind (digC Try.prog Try.f70.ntmps []) = some c_spec_LabelOk := by kernel_rfl
theorem rs_spec_LabelOk : resSlots Try.prog Try.f70 = some [.s 2] := by kernel_rfl
theorem ok_spec_LabelOk (b : List UInt8) (hb : b.length ≤ 4194304) :
    FnOK Try.prog 70 [.one (.d (encB b))] (fun ra _ => ra = [.one (.d (.sc (.bool (labelOk b))))]) := by
  refine FnOK.ofK Try.func70 (by kernel_rfl) dg_spec_LabelOk rs_spec_LabelOk rfl rfl ?_
  unfold c_spec_LabelOk
  refine kSeq (kReg (kMovC rfl (kDone (kSeq (kSeq (kReg (kMovC rfl (kLenR rfl rfl (kBin rfl rfl rfl (kMovC rfl (kGP rfl (fun g0 => kGF rfl (kGF rfl (kGF rfl (kPickT rfl (kMovC rfl (kDone (kCondT rfl (kSeq (kReg (kMovC rfl (kDone (kRet (endRetA (ra := [.one (.d _)]) rfl ?_))))))))))))) (fun g0 => kGT rfl (kMovC rfl (kGT rfl (kLenR rfl rfl (kGT rfl (kBin rfl rfl rfl (kPickF rfl (kMovC rfl (kDone (kCondP rfl (fun g1 => kSeq (kReg (kMovC rfl (kDone (kRet (endRetA (ra := [.one (.d _)]) rfl ?_)))))) (fun g1 => kSkip (kSeq (kSeq (kReg (kMovC rfl (kDone (kBlock ?_))))))))))))))))))))))))))))
  · rw [show labelOk b = false by simp only [labelOk]; rw [decide_eq_false (by omega)]; rfl]
  · rw [show labelOk b = false by simp only [labelOk]; rw [decide_eq_false (p := b.length ≤ 15) (by omega)]; simp]
  refine kLoop (α := { i : Nat // i ≤ b.length ∧ (b.take i).all okLetter = true })
    (fun y => ⟨tabSl [(0, .dv (encB b)), (3, .i y.1)], (St.init [.one (.d (encB b))]).ob, []⟩) (fun y => b.length - y.1) ⟨0, by simp⟩
    (.tab rfl ⟨.refl _, .refl _, trivial⟩) ?_
  rintro ⟨i, hi, hl⟩
  simp only
  refine kSeq (kSeq (kReg (kMovC rfl (kMovC rfl (kLenR rfl rfl (kBin rfl rfl rfl (kDone (kCondP rfl (fun g0 => kSkip (kSeq (kBlock (kSeq (kReg (kMovC rfl (kMovC rfl (kIadR rfl rfl rfl (by omega) (kLoadD rfl rfl (kBin rfl rfl rfl (kMovC rfl (kGP rfl (fun g1 => kGT rfl (kMovC rfl (kGT rfl (kMovC rfl (kGT rfl (kIadR rfl rfl rfl (by omega) (kGT rfl (kLoadD rfl rfl (kGT rfl (kBin rfl rfl rfl (kPickT rfl (kMovC rfl (kUn rfl rfl (kMovC rfl (kGN rfl (fun g2 => kGT rfl (kMovC rfl (kGT rfl (kMovC rfl (kGT rfl (kIadR rfl rfl rfl (by omega) (kGT rfl (kLoadD rfl rfl (kGT rfl (kBin rfl rfl rfl (kGT rfl (kMovC rfl (kGP rfl (fun g3 => kGT rfl (kMovC rfl (kGT rfl (kMovC rfl (kGT rfl (kIadR rfl rfl rfl (by omega) (kGT rfl (kLoadD rfl rfl (kGT rfl (kBin rfl rfl rfl (kGT rfl (kPickT rfl (kMovC rfl (kGT rfl (kUn rfl rfl (kPickT rfl (kMovC rfl (kMovC rfl (kGN rfl (fun g4 => kGT rfl (kMovC rfl (kGT rfl (kMovC rfl (kGT rfl (kIadR rfl rfl rfl (by omega) (kGT rfl (kLoadD rfl rfl (kGT rfl (kBin rfl rfl rfl (kPickT rfl (kMovC rfl (kDone (kCondN rfl (fun g5 => kSeq (kReg (kMovC rfl (kDone (kRet (endRetA (ra := [.one (.d _)]) rfl ?_)))))) (fun g5 => kSkip (kBk (kReg (kMovC rfl (kAdd rfl rfl (by omega) (kMovC rfl (kDone ?_))))))))))))))))))))) (fun g4 => kGF rfl (kGF rfl (kGF rfl (kGF rfl (kGF rfl (kPickF rfl (kMovC rfl (kDone (kCondF rfl (kSkip (kBk (kReg (kMovC rfl (kAdd rfl rfl (by omega) (kMovC rfl (kDone ?_))))))))))))))))))))))))))))))))))) (fun g3 => (by omega))))))))))))))) (fun g2 => kGF rfl (kGF rfl (kGF rfl (kGF rfl (kGF rfl (kGF rfl (kGU rfl (kGU rfl (kGU rfl (kGU rfl (kGU rfl (kGF rfl (kGF rfl (kPickF rfl (kMovC rfl (kMovC rfl (kGF rfl (kGF rfl (kGF rfl (kGF rfl (kGF rfl (kPickF rfl (kMovC rfl (kDone (kCondF rfl (kSkip (kBk (kReg (kMovC rfl (kAdd rfl rfl (by omega) (kMovC rfl (kDone ?_))))))))))))))))))))))))))))))))))))))))))))))) (fun g1 => kGF rfl (kGF rfl (kGF rfl (kGF rfl (kGF rfl (kPickF rfl (kMovC rfl (kUn rfl rfl (kMovC rfl (kGT rfl (kMovC rfl (kGT rfl (kMovC rfl (kGT rfl (kIadR rfl rfl rfl (by omega) (kGT rfl (kLoadD rfl rfl (kGT rfl (kBin rfl rfl rfl (kGT rfl (kMovC rfl (kGP rfl (fun g6 => kGT rfl (kMovC rfl (kGT rfl (kMovC rfl (kGT rfl (kIadR rfl rfl rfl (by omega) (kGT rfl (kLoadD rfl rfl (kGT rfl (kBin rfl rfl rfl (kGT rfl (kPickT rfl (kMovC rfl (kGT rfl (kUn rfl rfl (kPickT rfl (kMovC rfl (kMovC rfl (kGN rfl (fun g7 => kGT rfl (kMovC rfl (kGT rfl (kMovC rfl (kGT rfl (kIadR rfl rfl rfl (by omega) (kGT rfl (kLoadD rfl rfl (kGT rfl (kBin rfl rfl rfl (kPickT rfl (kMovC rfl (kDone (kCondN rfl (fun g8 => kSeq (kReg (kMovC rfl (kDone (kRet (endRetA (ra := [.one (.d _)]) rfl ?_)))))) (fun g8 => kSkip (kBk (kReg (kMovC rfl (kAdd rfl rfl (by omega) (kMovC rfl (kDone ?_))))))))))))))))))))) (fun g7 => kGF rfl (kGF rfl (kGF rfl (kGF rfl (kGF rfl (kPickF rfl (kMovC rfl (kDone (kCondF rfl (kSkip (kBk (kReg (kMovC rfl (kAdd rfl rfl (by omega) (kMovC rfl (kDone ?_))))))))))))))))))))))))))))))))))) (fun g6 => kGF rfl (kGF rfl (kGF rfl (kGF rfl (kGF rfl (kGT rfl (kPickF rfl (kMovC rfl (kGT rfl (kUn rfl rfl (kPickT rfl (kMovC rfl (kMovC rfl (kGT rfl (kMovC rfl (kGT rfl (kMovC rfl (kGT rfl (kIadR rfl rfl rfl (by omega) (kGT rfl (kLoadD rfl rfl (kGT rfl (kBin rfl rfl rfl (kPickT rfl (kMovC rfl (kDone (kCondN rfl (fun g9 => kSeq (kReg (kMovC rfl (kDone (kRet (endRetA (ra := [.one (.d _)]) rfl ?_)))))) (fun g9 => kSkip (kBk (kReg (kMovC rfl (kAdd rfl rfl (by omega) (kMovC rfl (kDone ?_)))))))))))))))))))))))))))))))))))))))))))))))))))))))))))))))))))) (fun g0 => kExit (kExC (kExI (kExB (kSeq (kReg (kMovC rfl (kDone (kRet (endRetA (ra := [.one (.d _)]) rfl ?_))))))))))))))))))
  all_goals try simp only [decide_eq_true_eq, decide_eq_false_iff_not, beq_iff_eq, beq_eq_false_iff_ne] at *
  all_goals first
    | exact kInv ⟨⟨i + 1, by omega, labelOk_step (by omega) hl (by rw [okLetter_iff]; omega)⟩, by simp only; omega, .tab rfl ⟨.refl _, .refl _, trivial⟩⟩
    | rw [labelOk_no (b := b) (i := i) (by omega) (by rw [okLetter_iff]; omega)]
    | skip
  have hge : i = b.length := by omega
  subst hge
  rw [List.take_length] at hl
  rw [show labelOk b = true by simp only [labelOk]; rw [decide_eq_true (by omega), decide_eq_true (by omega), hl]; rfl]

def c_spec_NameOk : C := (.seq (.reg false (.op 0 [] (some 1) none false (.box 1 (.t 0))
  (.op 1 [] (some 2) none false (.mov (.v (.bool false)))
  .done)))
 (.seq (.seq (.reg false (.op 0 [] (some 4) none false (.fad (.t 1) 0)
  (.op 1 [] (some 5) none false (.load none (.t 4))
  (.op 2 [] (some 6) none false (.len (.t 5))
  (.op 3 [] (some 7) none false (.bin .gtr (.t 6) (.v (.int .i64 6)))
  .done)))))
 (.cond (.t 7)
 (.seq (.reg false (.op 0 [] (some 2) none false (.mov (.v (.bool false)))
  .done))
 .ret)
 .skip))
 (.seq (.seq (.reg false (.op 0 [] (some 3) none false (.mov (.v (.int .i64 0)))
  .done))
 (.block 0 (.loop (.seq (.seq (.reg false (.op 0 [] (some 8) none false (.mov (.t 3))
  (.op 1 [] (some 9) none false (.fad (.t 1) 0)
  (.op 2 [] (some 10) none false (.load none (.t 9))
  (.op 3 [] (some 11) none false (.len (.t 10))
  (.op 4 [] (some 12) none false (.bin .lss (.t 8) (.t 11))
  .done))))))
 (.cond (.t 12)
 .skip
 (.exit 0)))
 (.seq (.block 1 (.seq (.reg false (.op 0 [] (some 15) none false (.fad (.t 1) 0)
  (.op 1 [] (some 16) none false (.load none (.t 15))
  (.op 2 [] (some 17) none false (.mov (.t 3))
  (.op 3 [] (some 18) none false (.iad 1 (.t 16) (.t 17))
  (.op 4 [] (some 19) none false (.load none (.t 18))
  (.op 5 [] (some 20) none false (.call 20 70 [(.t 19)])
  (.op 6 [] (some 21) none false (.un .not (.t 20))
  .done))))))))
 (.cond (.t 21)
 (.seq (.reg false (.op 0 [] (some 2) none false (.mov (.v (.bool false)))
  .done))
 .ret)
 .skip)))
 (.reg false (.op 0 [] (some 13) none false (.mov (.t 3))
  (.op 1 [] (some 14) none false (.bin .add (.t 13) (.v (.int .i64 1)))
  (.op 2 [] (some 3) none false (.mov (.t 14))
  .done)))))))))
 (.seq (.reg false (.op 0 [] (some 2) none false (.mov (.v (.bool true)))
  .done))
 .ret))))
theorem dg_spec_NameOk : Try.f44.body.bind (digC Try.prog Try.f44.ntmps []) = some c_spec_NameOk := by kernel_rfl
theorem rs_spec_NameOk : resSlots Try.prog Try.f44 = some [.s 2] := by kernel_rfl
theorem ok_spec_NameOk (a : List (List UInt8)) (ha : a.length ≤ 4194304) (hb : ∀ b ∈ a, b.length ≤ 4194304) :
    FnOK Try.prog 44 [.agg [.d (encBB a)]] (fun ra _ => ra = [.one (.d (.sc (.bool (nameOk a))))]) := by
  refine FnOK.ofK Try.func44 (by kernel_rfl) dg_spec_NameOk rs_spec_NameOk rfl rfl ?_
  unfold c_spec_NameOk
  refine kSeq (kReg (kBox rfl rfl rfl rfl rfl (kMovC rfl (kDone (kSeq (kSeq (kReg (kFadP rfl rfl (kLoadP rfl rfl rfl (kLenR rfl rfl (kBin rfl rfl rfl (kDone (kCondP rfl (fun g0 => kSeq (kReg (kMovC rfl (kDone (kRet (endRetA (ra := [.one (.d _)]) rfl ?_)))))) (fun g0 => kSkip (kSeq (kSeq (kReg (kMovC rfl (kDone (kBlock ?_))))))))))))))))))))
  · rw [show nameOk a = false by simp only [nameOk]; rw [decide_eq_false (by omega)]; rfl]
  refine kLoop (α := { i : Nat // i ≤ a.length ∧ (a.take i).all labelOk = true })
    (fun y => ⟨tabSl [(1, .c (.ptr (rid 1 0) 1 0)), (3, .i y.1)], obTab 1 [(rid 1 0, ⟨1, 0, .box [.d (encBB a)]⟩)], []⟩) (fun y => a.length - y.1) ⟨0, by simp⟩
    .normA ?_
  rintro ⟨i, hi, hl⟩
  simp only
  refine kSeq (kSeq (kReg (kMovC rfl (kFadP rfl rfl (kLoadP rfl rfl rfl (kLenR rfl rfl (kBin rfl rfl rfl (kDone (kCondP rfl (fun g0 => kSkip (kSeq (kBlock (kSeq (kReg (kFadP rfl rfl (kLoadP rfl rfl rfl (kMovC rfl (kIadR rfl rfl rfl (by omega) (kLoadD rfl rfl (kCallD (ok_spec_LabelOk _ (by first | assumption | omega | solve_by_elim [List.getElem_mem])) ⟨rfl, trivial⟩ rfl rfl rfl rfl rfl (kUn rfl rfl (kDone (kCondN rfl (fun g1 => kSeq (kReg (kMovC rfl (kDone (kRet (endRetA (ra := [.one (.d _)]) rfl ?_)))))) (fun g1 => kSkip (kBk (kReg (kMovC rfl (kAdd rfl rfl (by omega) (kMovC rfl (kDone ?_))))))))))))))))))))) (fun g0 => kExit (kExC (kExI (kExB (kSeq (kReg (kMovC rfl (kDone (kRet (endRetA (ra := [.one (.d _)]) rfl ?_)))))))))))))))))))
  · rename_i h
    rw [show nameOk a = false by simp only [nameOk]; rw [all_no (i := i) (by omega) (by assumption), Bool.and_false]]
  · exact kInv ⟨⟨i + 1, by omega, all_step (by omega) hl (by assumption)⟩, by simp only; omega, .normA⟩
  · have hge : i = a.length := by omega
    subst hge
    rw [List.take_length] at hl
    rw [show nameOk a = true by simp only [nameOk]; rw [decide_eq_true (by omega), hl]; rfl]

def c_spec_NameRead : C := (.seq (.reg false (.op 0 [] (some 2) none false (.alloc 2 [(.n 1)])
  (.op 1 [] (some 3) none false (.mov (.v (.bool false)))
  .done)))
 (.seq (.seq (.reg false (.op 0 [] (some 7) none false (.mov (.t 0))
  (.op 1 [] (some 8) none false (.b2s (.t 7))
  (.op 2 [] (some 9) none false (.bin .eql (.t 8) (.v (.string ⟨#[46]⟩)))
  .done))))
 (.cond (.t 9)
 (.seq (.reg false (.op 0 [] (some 10) none false (.build [(.n 1)] [])
  (.op 1 [] none none false (.store (some 1) (.t 2) (.t 10))
  (.op 2 [] (some 3) none false (.mov (.v (.bool true)))
  .done))))
 .ret)
 .skip))
 (.seq (.reg false (.op 0 [] (some 4) none false (.alloc 4 [(.n 1)])
  .done))
 (.seq (.reg false (.op 0 [] (some 5) none false (.mov (.n 1))
  .done))
 (.seq (.seq (.reg false (.op 0 [] (some 6) none false (.mov (.v (.int .i64 0)))
  .done))
 (.block 0 (.loop (.seq (.seq (.reg false (.op 0 [] (some 11) none false (.mov (.t 6))
  (.op 1 [] (some 12) none false (.mov (.t 0))
  (.op 2 [] (some 13) none false (.len (.t 12))
  (.op 3 [] (some 14) none false (.bin .leq (.t 11) (.t 13))
  .done)))))
 (.cond (.t 14)
 .skip
 (.exit 0)))
 (.seq (.block 1 (.seq (.seq (.reg false (.op 0 [] (some 17) none false (.mov (.t 6))
  (.op 1 [] (some 18) none false (.mov (.t 0))
  (.op 2 [] (some 19) none false (.len (.t 18))
  (.op 3 [] (some 20) none false (.bin .lss (.t 17) (.t 19))
  (.op 4 [] (some 21) none false (.mov (.t 20))
  (.op 5 [] (some 22) (some (21, true)) false (.mov (.t 0))
  (.op 6 [] (some 23) (some (21, true)) false (.mov (.t 6))
  (.op 7 [] (some 24) (some (21, true)) false (.iad 1 (.t 22) (.t 23))
  (.op 8 [] (some 25) (some (21, true)) false (.load none (.t 24))
  (.op 9 [] (some 26) (some (21, true)) false (.bin .neq (.t 25) (.v (.int .u8 46)))
  (.op 10 [] (some 27) none false (.pick (.t 21) (.t 26) (.v (.bool false)))
  .done))))))))))))
 (.cond (.t 27)
 (.seq (.reg false (.op 0 [] (some 28) none false (.mov (.t 5))
  (.op 1 [] (some 29) none false (.mov (.t 0))
  (.op 2 [] (some 30) none false (.mov (.t 6))
  (.op 3 [] (some 31) none false (.iad 1 (.t 29) (.t 30))
  (.op 4 [] (some 32) none false (.load none (.t 31))
  (.op 5 [] (some 33) none false (.lit 33 1 [(.v (.int .u8 0))] 1 [(0, 1, (.t 32))])
  (.op 6 [] (some 34) none false (.app 34 1 1 (.t 28) (.t 33))
  (.op 7 [] (some 5) none false (.mov (.t 34))
  .done)))))))))
 (.exit 1))
 .skip))
 (.seq (.seq (.reg false (.op 0 [] (some 35) none false (.mov (.t 6))
  (.op 1 [] (some 36) none false (.mov (.t 0))
  (.op 2 [] (some 37) none false (.len (.t 36))
  (.op 3 [] (some 38) none false (.bin .eql (.t 35) (.t 37))
  (.op 4 [] (some 39) none false (.mov (.t 38))
  (.op 5 [] (some 40) (some (39, true)) false (.mov (.t 5))
  (.op 6 [] (some 41) (some (39, true)) false (.len (.t 40))
  (.op 7 [] (some 42) (some (39, true)) false (.bin .eql (.t 41) (.v (.int .i64 0)))
  (.op 8 [] (some 43) none false (.pick (.t 39) (.t 42) (.v (.bool false)))
  (.op 9 [] (some 44) none false (.mov (.t 43))
  (.op 10 [] (some 45) (some (44, true)) false (.mov (.t 6))
  (.op 11 [] (some 46) (some (44, true)) false (.bin .gtr (.t 45) (.v (.int .i64 0)))
  (.op 12 [] (some 47) none false (.pick (.t 44) (.t 46) (.v (.bool false)))
  .done))))))))))))))
 (.cond (.t 47)
 (.exit 0)
 .skip))
 (.seq (.reg true (.op 0 [] (some 48) none true (.fad (.t 4) 0)
  (.op 1 [] (some 49) none true (.load none (.t 48))
  (.op 2 [] (some 50) none true (.mov (.t 5))
  (.op 3 [] (some 51) none false (.call 51 68 [(.t 50)])
  (.op 4 [] (some 52) none false (.lit 52 1 [(.n 1)] 1 [(0, 1, (.t 51))])
  (.op 5 [1] (some 53) none false (.app 53 1 24 (.t 49) (.t 52))
  (.op 6 [] (some 54) none true (.fad (.t 4) 0)
  (.op 7 [1] none none false (.store none (.t 54) (.t 53))
  .done)))))))))
 (.reg false (.op 0 [] (some 5) none false (.mov (.n 1))
  .done))))))
 (.reg false (.op 0 [] (some 15) none false (.mov (.t 6))
  (.op 1 [] (some 16) none false (.bin .add (.t 15) (.v (.int .i64 1)))
  (.op 2 [] (some 6) none false (.mov (.t 16))
  .done)))))))))
 (.seq (.seq (.reg false (.op 0 [] (some 55) none false (.load (some 1) (.t 4))
  (.op 1 [] (some 56) none false (.call 56 44 [(.t 55)])
  (.op 2 [] (some 57) none false (.un .not (.t 56))
  .done))))
 (.cond (.t 57)
 (.seq (.reg false (.op 0 [] (some 58) none false (.build [(.n 1)] [])
  (.op 1 [] none none false (.store (some 1) (.t 2) (.t 58))
  (.op 2 [] (some 3) none false (.mov (.v (.bool false)))
  .done))))
 .ret)
 .skip))
 (.seq (.reg false (.op 0 [] (some 59) none false (.load (some 1) (.t 4))
  (.op 1 [] none none false (.store (some 1) (.t 2) (.t 59))
  (.op 2 [] (some 3) none false (.mov (.v (.bool true)))
  .done))))
 .ret)))))))
theorem dg_spec_NameRead : Try.f38.body.bind (digC Try.prog Try.f38.ntmps []) = some c_spec_NameRead := by kernel_rfl
theorem rs_spec_NameRead : resSlots Try.prog Try.f38 = some [.m 2 (some 1), .s 3] := by kernel_rfl
theorem ok_spec_NameRead (b : List UInt8) (hb : b.length ≤ 4194303) :
    FnOK Try.prog 38 [.one (.d (encB b))] (fun ra _ => ra = [.agg [.own true (encBB (readN b))], .one (.d (.sc (.bool (readOk b))))]) := by
  refine FnOK.ofK Try.func38 (by kernel_rfl) dg_spec_NameRead rs_spec_NameRead rfl rfl ?_
  unfold c_spec_NameRead
  obtain ⟨rl1, rl2⟩ := readL_small hb
  refine kSeq (kReg (kAlloc rfl rfl (kMovC rfl (kDone (kSeq (kSeq (kReg (kMovC rfl (kB2s rfl rfl (kBin rfl rfl rfl (kDone (kCond rfl (fun g0 => kSeq (kReg (kMem [(12288, ⟨1, 0, .box [.nil 1]⟩)] [(2, .c (.ptr 12288 1 0)), (10, .c (.un))] [] ⟨rfl, trivial⟩ ⟨rfl, rfl, trivial⟩ rfl (kBuildG rfl (kStoreP rfl rfl rfl rfl (kMovC rfl (kDone (kMem [(12288, ⟨1, 0, .box [.nil 1]⟩)] [(2, .c (.ptr 12288 1 0)), (3, .c (.d _))] [] ⟨rfl, trivial⟩ ⟨rfl, rfl, trivial⟩ rfl (kRet (endRetA (ra := [.agg [(.own true _)], .one (.d _)]) rfl ?_)))))))))) (fun g0 => kSkip (kSeq (kReg (kAlloc rfl rfl (kDone (kSeq (kReg (kMovC rfl (kDone (kSeq (kSeq (kReg (kMovC rfl (kDone (kBlock ?_)))))))))))))))))))))))))))
  · rw [eq46] at g0
    have e : b = [46] := of_decide_eq_true g0
    subst e
    rfl
  rw [eq46] at g0
  have hne : b ≠ [46] := of_decide_eq_false g0
  have hrn : readN b = if nameOk (readL b) then readL b else [] := by unfold readN; rw [if_neg hne]
  have hro : readOk b = nameOk (readL b) := by unfold readOk; rw [decide_eq_false hne]; rfl
  rw [hrn, hro]
  refine kSub (Sub.nilBox (id := rid 4 0) (id2 := rid 5001 0) (j := 0) rfl rfl rfl (by decide) (by decide)) ?_
  refine kSub (Sub.nilArr (j := 5) (id := rid 5000 0) (sz := 1) rfl (by decide)) ?_
  refine kLoop (α := { i : Nat // i ≤ b.length + 1 }) (fun y => ⟨tabSl [(0, .dv (encB b)), (2, .c (.ptr (rid 2 0) 1 0)), (4, .c (.ptr (rid 4 0) 1 0)), (5, .c (.arr (rid 5000 0) 1)), (6, .i y.1)], obTab 1 [(rid 2 0, ⟨1, 0, .box [.nil 1]⟩), (rid 4 0, ⟨1, 0, .box [.arr (rid 5001 0) 1]⟩), (rid 5000 0, ⟨1, 0, .arr true (encB (rdW b y.1))⟩), (rid 5001 0, ⟨1, 0, .arr true (encBB (rdL b y.1))⟩)], []⟩) (fun y => b.length + 1 - y.1) ⟨0, by simp⟩ .normA ?_
  rintro ⟨i, hi⟩
  simp only
  have hmem := rdW_mem b i
  rcases Nat.lt_or_ge i b.length with hlt | hge
  · have hlens := rd_lens b i (by omega)
    by_cases hc : b[i] = 46
    · obtain ⟨s1, s2⟩ := rd_dot hlt hc
      have hcn : ((b[i]).toNat : Int) = 46 := by rw [hc]; rfl
      revert s1 s2
      generalize rdL b i = L at *
      generalize rdW b i = W at *
      intro s1 s2
      refine kSeq (kSeq (kReg (kMovC rfl (kMovC rfl (kLenR rfl rfl (kBin rfl rfl rfl (kDone (kCondP rfl (fun g0 => kSkip (kSeq (kBlock (kSeq (kSeq (kReg (kMovC rfl (kMovC rfl (kLenR rfl rfl (kBin rfl rfl rfl (kMovC rfl (kGP rfl (fun g1 => kGT rfl (kMovC rfl (kGT rfl (kMovC rfl (kGT rfl (kIadR rfl rfl rfl (by omega) (kGT rfl (kLoadD rfl rfl (kGT rfl (kBin rfl rfl rfl (kPickT rfl (kMovC rfl (kDone (kCondIN rfl (fun g2 => (by omega)) (fun g2 => kSkip (kSeq (kSeq (kReg (kMem [(20484096, ⟨1, 0, .arr true _⟩)] [(6, .c (.d _)), (0, .c (.d _)), (5, .c (.arr 20484096 1))] [] ⟨rfl, trivial⟩ ⟨rfl, rfl, rfl, trivial⟩ rfl (kMovC rfl (kMovC rfl (kLenR rfl rfl (kBin rfl rfl rfl (kMovC rfl (kGP rfl (fun g3 => (by omega)) (fun g3 => kGF rfl (kGF rfl (kGF rfl (kPickF rfl (kMovC rfl (kMovC rfl (kGF rfl (kGF rfl (kPickF rfl (kMovC rfl (kDone (kCondF rfl (kSkip (kSeq (kRegD (kMem [(20480, ⟨1, 0, .box [.arr 20488192 1]⟩), (20484096, ⟨1, 0, .arr true _⟩), (20488192, ⟨1, 0, .arr true _⟩)] [(4, .c (.ptr 20480 1 0)), (5, .c (.arr 20484096 1))] [] ⟨rfl, rfl, rfl, trivial⟩ ⟨rfl, rfl, trivial⟩ rfl (kFadP rfl rfl (kLoadP rfl rfl rfl (kMovC rfl (kCall1 true (ok_spec_Lower _ (by first | assumption | omega | solve_by_elim [List.getElem_mem] | (simp only [szOut] at *; omega) | exact rfl | exact Nat.le_of_ble_eq_true rfl)) ⟨rfl, trivial⟩ rfl rfl rfl (fun _ => (kLit rfl rfl rfl rfl (kRelF rfl rfl (kAppR1 rfl rfl rfl rfl rfl rfl rfl rfl (by omega) (kFadP rfl rfl (kRelF rfl rfl (kStoreP rfl rfl rfl rfl (kDone (kH (kReg (kMovC rfl (kDone (kBk (kReg (kMovC rfl (kAdd rfl rfl (by omega) (kMovC rfl (kDone ?_))))))))))))))))))))))))))))))))))))))))))))))))))))))))))))))) (fun g1 => (by omega)))))))))))))) (fun g0 => (by omega))))))))))
      refine kInv ⟨⟨i + 1, by omega⟩, by simp only; omega, ?_⟩
      simp only [s1, s2]
      exact (Sub.nilArr (j := 5) (id := rid 5000 0) (sz := 1) rfl (by decide)).trans .normA
    · obtain ⟨s1, s2⟩ := rd_char hlt hc
      have hcn : ((b[i]).toNat : Int) ≠ 46 := fun h => hc (UInt8.toNat_inj.1 (by have : b[i].toNat = 46 := by omega
                                                                                 rw [this]; rfl))
      revert s1 s2
      generalize rdL b i = L at *
      generalize rdW b i = W at *
      intro s1 s2
      refine kSeq (kSeq (kReg (kMovC rfl (kMovC rfl (kLenR rfl rfl (kBin rfl rfl rfl (kDone (kCondP rfl (fun g0 => kSkip (kSeq (kBlock (kSeq (kSeq (kReg (kMovC rfl (kMovC rfl (kLenR rfl rfl (kBin rfl rfl rfl (kMovC rfl (kGP rfl (fun g1 => kGT rfl (kMovC rfl (kGT rfl (kMovC rfl (kGT rfl (kIadR rfl rfl rfl (by omega) (kGT rfl (kLoadD rfl rfl (kGT rfl (kBin rfl rfl rfl (kPickT rfl (kMovC rfl (kDone (kCondIN rfl (fun g2 => kSeq (kReg (kMem [(20484096, ⟨1, 0, .arr true _⟩)] [(5, .c (.arr 20484096 1)), (0, .c (.d _)), (6, .c (.d _))] [] ⟨rfl, trivial⟩ ⟨rfl, rfl, rfl, trivial⟩ rfl (kMovC rfl (kMovC rfl (kMovC rfl (kIadR rfl rfl rfl (by omega) (kLoadD rfl rfl (kLit rfl rfl rfl rfl (kAppR1 rfl rfl rfl rfl rfl rfl rfl rfl (by omega) (kMovC rfl (kDone (kExit (kExC (kExB (kReg (kMovC rfl (kAdd rfl rfl (by omega) (kMovC rfl (kDone ?_)))))))))))))))))))) (fun g2 => (by omega)))))))))))))))) (fun g1 => (by omega)))))))))))))) (fun g0 => (by omega))))))))))
      refine kInv ⟨⟨i + 1, by omega⟩, by simp only; omega, ?_⟩
      simp only [s1, s2]
      exact .normA
  · rcases Nat.lt_or_ge b.length i with hgt | hle
    · have e : i = b.length + 1 := by omega
      subst e
      rw [rd_last.1, rd_last.2]
      cases hno : nameOk (readL b)
      · refine kSeq (kSeq (kReg (kMovC rfl (kMovC rfl (kLenR rfl rfl (kBin rfl rfl rfl (kDone (kCondP rfl (fun g0 => (by omega)) (fun g0 => kExit (kExC (kExI (kExB (kSeq (kSeq (kReg (kLoadP rfl rfl rfl (kCallD (ok_spec_NameOk _ (by first | assumption | omega | solve_by_elim [List.getElem_mem] | (simp only [szOut] at *; omega) | exact rfl | exact Nat.le_of_ble_eq_true rfl) (by first | assumption | omega | solve_by_elim [List.getElem_mem] | (simp only [szOut] at *; omega) | exact rfl | exact Nat.le_of_ble_eq_true rfl)) ⟨⟨⟨rfl, trivial⟩, Nat.le_of_ble_eq_true rfl⟩, trivial⟩ rfl rfl rfl rfl rfl (kUn rfl rfl (kDone (kCondN rfl (fun g1 => kSeq (kReg (kMem [(12288, ⟨1, 0, .box [.nil 1]⟩)] [(2, .c (.ptr 12288 1 0))] [] ⟨rfl, trivial⟩ ⟨rfl, trivial⟩ rfl (kBuildG rfl (kStoreP rfl rfl rfl rfl (kMovC rfl (kDone (kMem [(12288, ⟨1, 0, .box [.nil 1]⟩)] [(2, .c (.ptr 12288 1 0)), (3, .c (.d _))] [] ⟨rfl, trivial⟩ ⟨rfl, rfl, trivial⟩ rfl (kRet (endRetA (ra := [.agg [(.own true _)], .one (.d _)]) rfl rfl)))))))))) (fun g1 => (by (simp [*] at g1)))))))))))))))))))))))
      · refine kSeq (kSeq (kReg (kMovC rfl (kMovC rfl (kLenR rfl rfl (kBin rfl rfl rfl (kDone (kCondP rfl (fun g0 => (by omega)) (fun g0 => kExit (kExC (kExI (kExB (kSeq (kSeq (kReg (kLoadP rfl rfl rfl (kCallD (ok_spec_NameOk _ (by first | assumption | omega | solve_by_elim [List.getElem_mem] | (simp only [szOut] at *; omega) | exact rfl | exact Nat.le_of_ble_eq_true rfl) (by first | assumption | omega | solve_by_elim [List.getElem_mem] | (simp only [szOut] at *; omega) | exact rfl | exact Nat.le_of_ble_eq_true rfl)) ⟨⟨⟨rfl, trivial⟩, Nat.le_of_ble_eq_true rfl⟩, trivial⟩ rfl rfl rfl rfl rfl (kUn rfl rfl (kDone (kCondN rfl (fun g1 => (by (simp [*] at g1))) (fun g1 => kSkip (kSeq (kReg (kLoadP rfl rfl rfl (kStoreP rfl rfl rfl rfl (kMovC rfl (kDone (kMem [(12288, ⟨1, 0, .box [.arr 20488192 1]⟩), (20488192, ⟨1, 0, .arr true _⟩)] [(2, .c (.ptr 12288 1 0)), (3, .c (.d _))] [] ⟨rfl, rfl, trivial⟩ ⟨rfl, rfl, trivial⟩ rfl (kRet (endRetA (ra := [.agg [(.own true _)], .one (.d _)]) rfl rfl))))))))))))))))))))))))))))))
    · have e : i = b.length := by omega
      subst e
      have hlens := rd_lens b b.length (Nat.le_refl _)
      have s1 := (rd_last (b := b)).1
      have s2 := (rd_last (b := b)).2
      by_cases hw : rdW b b.length = [] ∧ 0 < b.length
      · rw [rd_end, if_pos hw] at *
        rw [hw.1]
        obtain ⟨hw1, hw2⟩ := hw
        cases hno : nameOk (rdL b b.length)
        · refine kSeq (kSeq (kReg (kMovC rfl (kMovC rfl (kLenR rfl rfl (kBin rfl rfl rfl (kDone (kCondP rfl (fun g0 => kSkip (kSeq (kBlock (kSeq (kSeq (kReg (kMovC rfl (kMovC rfl (kLenR rfl rfl (kBin rfl rfl rfl (kMovC rfl (kGP rfl (fun g1 => (by omega)) (fun g1 => kGF rfl (kGF rfl (kGF rfl (kGF rfl (kGF rfl (kPickF rfl (kMovC rfl (kDone (kCondF rfl (kSkip (kSeq (kSeq (kReg (kMem [(20484096, ⟨1, 0, .arr true _⟩)] [(6, .c (.d _)), (0, .c (.d _)), (5, .c (.arr 20484096 1))] [] ⟨rfl, trivial⟩ ⟨rfl, rfl, rfl, trivial⟩ rfl (kMovC rfl (kMovC rfl (kLenR rfl rfl (kBin rfl rfl rfl (kMovC rfl (kGP rfl (fun g2 => kGT rfl (kMovC rfl (kGT rfl (kLenR rfl rfl (kGT rfl (kBin rfl rfl rfl (kPickT rfl (kMovC rfl (kMovC rfl (kGT rfl (kMovC rfl (kGT rfl (kBin rfl rfl rfl (kPickT rfl (kMovC rfl (kDone (kCondP rfl (fun g3 => kExit (kExC (kExB' rfl (kExC (kExI (kExB (kSeq (kSeq (kReg (kMem [(20480, ⟨1, 0, .box [.arr 20488192 1]⟩), (20488192, ⟨1, 0, .arr true _⟩)] [(4, .c (.ptr 20480 1 0))] [] ⟨rfl, rfl, trivial⟩ ⟨rfl, trivial⟩ rfl (kLoadP rfl rfl rfl (kCallD (ok_spec_NameOk _ (by first | assumption | omega | solve_by_elim [List.getElem_mem] | (simp only [szOut] at *; omega) | exact rfl | exact Nat.le_of_ble_eq_true rfl) (by first | assumption | omega | solve_by_elim [List.getElem_mem] | (simp only [szOut] at *; omega) | exact rfl | exact Nat.le_of_ble_eq_true rfl)) ⟨⟨⟨rfl, trivial⟩, Nat.le_of_ble_eq_true rfl⟩, trivial⟩ rfl rfl rfl rfl rfl (kUn rfl rfl (kDone (kCondN rfl (fun g4 => kSeq (kReg (kMem [(12288, ⟨1, 0, .box [.nil 1]⟩)] [(2, .c (.ptr 12288 1 0))] [] ⟨rfl, trivial⟩ ⟨rfl, trivial⟩ rfl (kBuildG rfl (kStoreP rfl rfl rfl rfl (kMovC rfl (kDone (kMem [(12288, ⟨1, 0, .box [.nil 1]⟩)] [(2, .c (.ptr 12288 1 0)), (3, .c (.d _))] [] ⟨rfl, trivial⟩ ⟨rfl, rfl, trivial⟩ rfl (kRet (endRetA (ra := [.agg [(.own true _)], .one (.d _)]) rfl rfl)))))))))) (fun g4 => (by (simp [*] at g4)))))))))))))))))) (fun g3 => (by omega))))))))))))))))))) (fun g2 => (by omega)))))))))))))))))))))))))))))))))) (fun g0 => (by omega))))))))))
        · refine kSeq (kSeq (kReg (kMovC rfl (kMovC rfl (kLenR rfl rfl (kBin rfl rfl rfl (kDone (kCondP rfl (fun g0 => kSkip (kSeq (kBlock (kSeq (kSeq (kReg (kMovC rfl (kMovC rfl (kLenR rfl rfl (kBin rfl rfl rfl (kMovC rfl (kGP rfl (fun g1 => (by omega)) (fun g1 => kGF rfl (kGF rfl (kGF rfl (kGF rfl (kGF rfl (kPickF rfl (kMovC rfl (kDone (kCondF rfl (kSkip (kSeq (kSeq (kReg (kMem [(20484096, ⟨1, 0, .arr true _⟩)] [(6, .c (.d _)), (0, .c (.d _)), (5, .c (.arr 20484096 1))] [] ⟨rfl, trivial⟩ ⟨rfl, rfl, rfl, trivial⟩ rfl (kMovC rfl (kMovC rfl (kLenR rfl rfl (kBin rfl rfl rfl (kMovC rfl (kGP rfl (fun g2 => kGT rfl (kMovC rfl (kGT rfl (kLenR rfl rfl (kGT rfl (kBin rfl rfl rfl (kPickT rfl (kMovC rfl (kMovC rfl (kGT rfl (kMovC rfl (kGT rfl (kBin rfl rfl rfl (kPickT rfl (kMovC rfl (kDone (kCondP rfl (fun g3 => kExit (kExC (kExB' rfl (kExC (kExI (kExB (kSeq (kSeq (kReg (kMem [(20480, ⟨1, 0, .box [.arr 20488192 1]⟩), (20488192, ⟨1, 0, .arr true _⟩)] [(4, .c (.ptr 20480 1 0))] [] ⟨rfl, rfl, trivial⟩ ⟨rfl, trivial⟩ rfl (kLoadP rfl rfl rfl (kCallD (ok_spec_NameOk _ (by first | assumption | omega | solve_by_elim [List.getElem_mem] | (simp only [szOut] at *; omega) | exact rfl | exact Nat.le_of_ble_eq_true rfl) (by first | assumption | omega | solve_by_elim [List.getElem_mem] | (simp only [szOut] at *; omega) | exact rfl | exact Nat.le_of_ble_eq_true rfl)) ⟨⟨⟨rfl, trivial⟩, Nat.le_of_ble_eq_true rfl⟩, trivial⟩ rfl rfl rfl rfl rfl (kUn rfl rfl (kDone (kCondN rfl (fun g4 => (by (simp [*] at g4))) (fun g4 => kSkip (kSeq (kReg (kLoadP rfl rfl rfl (kStoreP rfl rfl rfl rfl (kMovC rfl (kDone (kMem [(12288, ⟨1, 0, .box [.arr 20488192 1]⟩), (20488192, ⟨1, 0, .arr true _⟩)] [(2, .c (.ptr 12288 1 0)), (3, .c (.d _))] [] ⟨rfl, rfl, trivial⟩ ⟨rfl, rfl, trivial⟩ rfl (kRet (endRetA (ra := [.agg [(.own true _)], .one (.d _)]) rfl rfl))))))))))))))))))))))))) (fun g3 => (by omega))))))))))))))))))) (fun g2 => (by omega)))))))))))))))))))))))))))))))))) (fun g0 => (by omega))))))))))
      · rw [rd_end, if_neg hw] at *
        have hw' : (rdW b b.length).length ≠ 0 ∨ b.length = 0 := by
          rcases Nat.eq_zero_or_pos b.length with h | h
          · exact .inr h
          · exact .inl fun h0 => hw ⟨List.eq_nil_of_length_eq_zero h0, h⟩
        revert s1 s2
        generalize rdL b b.length = L at *
        generalize rdW b b.length = W at *
        intro s1 s2
        refine kSeq (kSeq (kReg (kMovC rfl (kMovC rfl (kLenR rfl rfl (kBin rfl rfl rfl (kDone (kCondP rfl (fun g0 => kSkip (kSeq (kBlock (kSeq (kSeq (kReg (kMovC rfl (kMovC rfl (kLenR rfl rfl (kBin rfl rfl rfl (kMovC rfl (kGP rfl (fun g1 => (by omega)) (fun g1 => kGF rfl (kGF rfl (kGF rfl (kGF rfl (kGF rfl (kPickF rfl (kMovC rfl (kDone (kCondF rfl (kSkip (kSeq (kSeq (kReg (kMem [(20484096, ⟨1, 0, .arr true _⟩)] [(6, .c (.d _)), (0, .c (.d _)), (5, .c (.arr 20484096 1))] [] ⟨rfl, trivial⟩ ⟨rfl, rfl, rfl, trivial⟩ rfl (kMovC rfl (kMovC rfl (kLenR rfl rfl (kBin rfl rfl rfl (kMovC rfl (kGP rfl (fun g2 => kGT rfl (kMovC rfl (kGT rfl (kLenR rfl rfl (kGT rfl (kBin rfl rfl rfl (kPickT rfl (kMovC rfl (kMovC rfl (kGP rfl (fun g3 => kGT rfl (kMovC rfl (kGT rfl (kBin rfl rfl rfl (kPickT rfl (kMovC rfl (kDone (kCondP rfl (fun g4 => (by omega)) (fun g4 => kSkip (kSeq (kRegD (kMem [(20480, ⟨1, 0, .box [.arr 20488192 1]⟩), (20484096, ⟨1, 0, .arr true _⟩), (20488192, ⟨1, 0, .arr true _⟩)] [(4, .c (.ptr 20480 1 0)), (5, .c (.arr 20484096 1))] [] ⟨rfl, rfl, rfl, trivial⟩ ⟨rfl, rfl, trivial⟩ rfl (kFadP rfl rfl (kLoadP rfl rfl rfl (kMovC rfl (kCall1 true (ok_spec_Lower _ (by first | assumption | omega | solve_by_elim [List.getElem_mem] | (simp only [szOut] at *; omega) | exact rfl | exact Nat.le_of_ble_eq_true rfl)) ⟨rfl, trivial⟩ rfl rfl rfl (fun _ => (kLit rfl rfl rfl rfl (kRelF rfl rfl (kAppR1 rfl rfl rfl rfl rfl rfl rfl rfl (by omega) (kFadP rfl rfl (kRelF rfl rfl (kStoreP rfl rfl rfl rfl (kDone (kH (kReg (kMovC rfl (kDone (kBk (kReg (kMovC rfl (kAdd rfl rfl (by omega) (kMovC rfl (kDone ?_)))))))))))))))))))))))))))))))))) (fun g3 => kGF rfl (kGF rfl (kPickF rfl (kMovC rfl (kDone (kCondF rfl (kSkip (kSeq (kRegD (kMem [(20480, ⟨1, 0, .box [.arr 20488192 1]⟩), (20484096, ⟨1, 0, .arr true _⟩), (20488192, ⟨1, 0, .arr true _⟩)] [(4, .c (.ptr 20480 1 0)), (5, .c (.arr 20484096 1))] [] ⟨rfl, rfl, rfl, trivial⟩ ⟨rfl, rfl, trivial⟩ rfl (kFadP rfl rfl (kLoadP rfl rfl rfl (kMovC rfl (kCall1 true (ok_spec_Lower _ (by first | assumption | omega | solve_by_elim [List.getElem_mem] | (simp only [szOut] at *; omega) | exact rfl | exact Nat.le_of_ble_eq_true rfl)) ⟨rfl, trivial⟩ rfl rfl rfl (fun _ => (kLit rfl rfl rfl rfl (kRelF rfl rfl (kAppR1 rfl rfl rfl rfl rfl rfl rfl rfl (by omega) (kFadP rfl rfl (kRelF rfl rfl (kStoreP rfl rfl rfl rfl (kDone (kH (kReg (kMovC rfl (kDone (kBk (kReg (kMovC rfl (kAdd rfl rfl (by omega) (kMovC rfl (kDone ?_)))))))))))))))))))))))))))))))))))))))))) (fun g2 => (by omega)))))))))))))))))))))))))))))))))) (fun g0 => (by omega))))))))))
        all_goals
          refine kInv ⟨⟨b.length + 1, by omega⟩, by simp only; omega, ?_⟩
          simp only [s1, s2]
          exact (Sub.nilArr (j := 5) (id := rid 5000 0) (sz := 1) rfl (by decide)).trans .normA

def c_spec_l2of : C := (.seq (.reg false (.op 0 [] (some 2) none false (.alloc 2 [(.n 1)])
  .done))
 (.seq (.reg false (.op 0 [] (some 6) none false (.mov (.t 0))
  (.op 1 [] (some 7) none false (.s2b (.t 6))
  (.op 2 [] (some 8) none false (.call 8 38 [(.t 7)])
  (.op 3 [] (some 5) none false (.mov (.t 8))
  (.op 4 [] (some 9) none false (.ext (.t 5) 0)
  (.op 5 [] (some 10) none false (.ext (.t 5) 1)
  (.op 6 [] (some 3) none false (.alloc 3 [(.n 1)])
  (.op 7 [] none none false (.store (some 1) (.t 3) (.t 9))
  (.op 8 [] (some 4) none false (.mov (.t 10))
  .done))))))))))
 (.seq (.reg false (.op 0 [] (some 11) none false (.load (some 1) (.t 3))
  (.op 1 [] none none false (.store (some 1) (.t 2) (.t 11))
  .done)))
 .ret)))
theorem dg_spec_l2of : Try.f51.body.bind (digC Try.prog Try.f51.ntmps []) = some c_spec_l2of := by kernel_rfl
theorem rs_spec_l2of : resSlots Try.prog Try.f51 = some [.m 2 (some 1)] := by kernel_rfl
theorem ok_spec_l2of (b : ByteArray) (hb : b.size ≤ 4194303) :
    FnOK Try.prog 51 [.one (.d (.sc (.string b)))] (fun ra _ => ra = [.agg [.own true (encBB (readN b.toList))]]) := by
  refine FnOK.ofK Try.func51 (by kernel_rfl) dg_spec_l2of rs_spec_l2of rfl rfl ?_
  unfold c_spec_l2of
  have h : b.toList.length ≤ 4194303 := by rw [bt_len]; exact hb
  refine kSeq (kReg (kAlloc rfl rfl (kDone (kSeq (kReg (kMovC rfl (kS2b rfl (by omega) (kCall1 true (ok_spec_NameRead _ (by first | assumption | omega | solve_by_elim [List.getElem_mem] | (simp only [szOut] at *; omega) | exact rfl | exact Nat.le_of_ble_eq_true rfl)) ⟨rfl, trivial⟩ rfl rfl rfl (fun _ => (kMovT rfl (kExtC rfl rfl (kExtC rfl rfl (kAlloc rfl rfl (kStoreP rfl rfl rfl rfl (kMovC rfl (kDone (kSeq (kReg (kMem [(16384, ⟨1, 0, .box [.arr 36864 1]⟩), (12288, ⟨1, 0, .box [.nil 1]⟩), (36864, ⟨1, 0, .arr true _⟩)] [(3, .c (.ptr 16384 1 0)), (2, .c (.ptr 12288 1 0)), (11, .c (.un))] [] ⟨rfl, rfl, rfl, trivial⟩ ⟨rfl, rfl, rfl, trivial⟩ rfl (kLoadP rfl rfl rfl (kStoreP rfl rfl rfl rfl (kDone (kMem [(12288, ⟨1, 0, .box [.arr 36864 1]⟩), (36864, ⟨1, 0, .arr true _⟩)] [(2, .c (.ptr 12288 1 0))] [] ⟨rfl, rfl, trivial⟩ ⟨rfl, trivial⟩ rfl (kRet (endRetA (ra := [.agg [(.own true _)]]) rfl rfl)))))))))))))))))))))))))

def c_spec_l2draw : C := (.seq (.reg false (.op 0 [] (some 2) none false (.alloc 2 [(.n 1)])
  .done))
 (.seq (.reg false (.op 0 [] (some 3) none false (.lit 3 1 [(.v (.string ⟨#[]⟩))] 12 [(0, 1, (.v (.string ⟨#[46]⟩))), (1, 1, (.v (.string ⟨#[104, 111, 109, 101, 46]⟩))), (2, 1, (.v (.string ⟨#[112, 99, 46, 104, 111, 109, 101, 46]⟩))), (3, 1, (.v (.string ⟨#[116, 118, 46, 104, 111, 109, 101, 46]⟩))), (4, 1, (.v (.string ⟨#[97, 46, 112, 99, 46, 104, 111, 109, 101, 46]⟩))), (5, 1, (.v (.string ⟨#[99, 111, 109, 46]⟩))), (6, 1, (.v (.string ⟨#[120, 46, 99, 111, 109, 46]⟩))), (7, 1, (.v (.string ⟨#[119, 119, 119, 46, 120, 46, 99, 111, 109, 46]⟩))), (8, 1, (.v (.string ⟨#[110, 115, 46, 99, 111, 109, 46]⟩))), (9, 1, (.v (.string ⟨#[51, 46, 48, 46, 48, 46, 49, 48, 46, 105, 110, 45, 97, 100, 100, 114, 46, 97, 114, 112, 97, 46]⟩))), (10, 1, (.v (.string ⟨#[115, 117, 98, 46, 104, 111, 109, 101, 46]⟩))), (11, 1, (.v (.string ⟨#[121, 46, 115, 117, 98, 46, 104, 111, 109, 101, 46]⟩)))])
  (.op 1 [] (some 4) none false (.mov (.t 0))
  (.op 2 [] (some 5) none false (.call 5 10 [(.t 4), (.v (.int .i64 12))])
  (.op 3 [] (some 6) none false (.iad 1 (.t 3) (.t 5))
  (.op 4 [] (some 7) none false (.load none (.t 6))
  (.op 5 [] (some 8) none false (.call 8 51 [(.t 7)])
  (.op 6 [] none none false (.store (some 1) (.t 2) (.t 8))
  .done))))))))
 .ret))
theorem dg_spec_l2draw : Try.f27.body.bind (digC Try.prog Try.f27.ntmps []) = some c_spec_l2draw := by kernel_rfl
theorem rs_spec_l2draw : resSlots Try.prog Try.f27 = some [.m 2 (some 1)] := by kernel_rfl
theorem ok_spec_l2draw (c : Cu) :
    FnOK Try.prog 27 [.one (.box c.cells)] (fun ra os => ∃ x : List (List UInt8) × Cu, (nameOk x.1 = true) ∧ ra = [.agg [.own true (encBB x.1)]] ∧ os.b 0 = x.2.cells) := by
  refine FnOK.ofK Try.func27 (by kernel_rfl) dg_spec_l2draw rs_spec_l2draw rfl rfl ?_
  unfold c_spec_l2draw
  refine kSeq (kReg (kAlloc rfl rfl (kDone (kSeq (kReg (kLitG rfl rfl rfl rfl (kMovC rfl (kCallE (ok_spec_l1Below _ _) ⟨⟨rfl, _, rfl, rfl⟩, rfl, trivial⟩ rfl rfl rfl (fun _ => rfl) (fun x0 hx0 => (kIadStr rfl rfl rfl rfl (by simp only [List.length_cons, List.length_nil]; omega) (kLoadStr rfl rfl rfl (by simp only [List.length_cons, List.length_nil]; omega) rfl (fun b1 hb1 => (kCall1 true (ok_spec_l2of _ (by first | assumption | omega | solve_by_elim [List.getElem_mem] | (simp only [szOut] at *; omega) | exact rfl | exact Nat.le_of_ble_eq_true rfl)) ⟨rfl, trivial⟩ rfl rfl rfl (fun _ => (kMem [(12288, ⟨1, 0, .box [.nil 1]⟩), (36864, ⟨1, 0, .arr true _⟩)] [(2, .c (.ptr 12288 1 0)), (8, .g [.arr 36864 1])] [] ⟨rfl, rfl, trivial⟩ ⟨rfl, rfl, trivial⟩ rfl (kStoreP rfl rfl rfl rfl (kDone (kMem [(12288, ⟨1, 0, .box [.arr 36864 1]⟩), (36864, ⟨1, 0, .arr true _⟩)] [(2, .c (.ptr 12288 1 0))] [] ⟨rfl, rfl, trivial⟩ ⟨rfl, trivial⟩ rfl (kRet (endRetA (ra := [.agg [(.own true _)]]) rfl ?_))))))))))))))))))))
  exact ⟨(readN b1.toList, x0.2), readN_ok _, rfl, rfl⟩

def c_spec_l1PickInt : C := (.seq (.reg false (.op 0 [] (some 4) none false (.mov (.v (.int .i64 0)))
  .done))
 (.seq (.reg false (.op 0 [] (some 5) none false (.mov (.t 1))
  (.op 1 [] (some 6) none false (.mov (.t 0))
  (.op 2 [] (some 7) none false (.mov (.t 1))
  (.op 3 [] (some 8) none false (.len (.t 7))
  (.op 4 [] (some 9) none false (.call 9 10 [(.t 6), (.t 8)])
  (.op 5 [] (some 10) none false (.iad 1 (.t 5) (.t 9))
  (.op 6 [] (some 11) none false (.load none (.t 10))
  (.op 7 [] (some 4) none false (.mov (.t 11))
  .done)))))))))
 .ret))
theorem dg_spec_l1PickInt : Try.f28.body.bind (digC Try.prog Try.f28.ntmps []) = some c_spec_l1PickInt := by kernel_rfl
theorem rs_spec_l1PickInt : resSlots Try.prog Try.f28 = some [.s 4] := by kernel_rfl
theorem ok_spec_l1PickInt (c : Cu) (xs : List (List DV)) {l : List Int} (hx : intsOf xs = some l) (h0 : 0 < l.length) (h1 : l.length ≤ 1000000) :
    FnOK Try.prog 28 [.one (.box c.cells), .one (.d (.sl 1 xs))] (fun ra os => ∃ x : Int × Cu, (x.1 ∈ l) ∧ ra = [.one (.d (.sc (.int .i64 x.1)))] ∧ os.b 0 = x.2.cells) := by
  rw [intsOf_eq hx]
  refine FnOK.ofK Try.func28 (by kernel_rfl) dg_spec_l1PickInt rs_spec_l1PickInt rfl rfl ?_
  unfold c_spec_l1PickInt
  refine kSeq (kReg (kMovC rfl (kDone (kSeq (kReg (kMovC rfl (kMovC rfl (kMovC rfl (kLenR rfl rfl (kCallE (ok_spec_l1Below _ _) ⟨⟨rfl, _, rfl, rfl⟩, rfl, trivial⟩ rfl rfl rfl (fun _ => rfl) (fun x0 hx0 => (kIadT rfl rfl (by omega) (kLoadD rfl rfl (kMovC rfl (kDone (kRet (endRetA (ra := [.one (.d _)]) rfl ?_)))))))))))))))))
  exact ⟨(_, x0.2), List.getElem_mem _, rfl, rfl⟩

def c_spec_l3named : C := (.seq (.reg false (.op 0 [] (some 2) none false (.mov (.v (.bool false)))
  .done))
 (.seq (.reg false (.op 0 [] (some 3) none false (.mov (.t 0))
  (.op 1 [] (some 4) none false (.bin .eql (.t 3) (.v (.int .i64 2)))
  (.op 2 [] (some 5) none false (.mov (.t 4))
  (.op 3 [] (some 6) (some (5, false)) false (.mov (.t 0))
  (.op 4 [] (some 7) (some (5, false)) false (.bin .eql (.t 6) (.v (.int .i64 5)))
  (.op 5 [] (some 8) none false (.pick (.t 5) (.v (.bool true)) (.t 7))
  (.op 6 [] (some 9) none false (.mov (.t 8))
  (.op 7 [] (some 10) (some (9, false)) false (.mov (.t 0))
  (.op 8 [] (some 11) (some (9, false)) false (.bin .eql (.t 10) (.v (.int .i64 6)))
  (.op 9 [] (some 12) none false (.pick (.t 9) (.v (.bool true)) (.t 11))
  (.op 10 [] (some 13) none false (.mov (.t 12))
  (.op 11 [] (some 14) (some (13, false)) false (.mov (.t 0))
  (.op 12 [] (some 15) (some (13, false)) false (.bin .eql (.t 14) (.v (.int .i64 12)))
  (.op 13 [] (some 16) none false (.pick (.t 13) (.v (.bool true)) (.t 15))
  (.op 14 [] (some 2) none false (.mov (.t 16))
  .done))))))))))))))))
 .ret))
theorem dg_spec_l3named : Try.f29.body.bind (digC Try.prog Try.f29.ntmps []) = some c_spec_l3named := by kernel_rfl
theorem rs_spec_l3named : resSlots Try.prog Try.f29 = some [.s 2] := by kernel_rfl
theorem ok_spec_l3named (n : Int) : FnOK Try.prog 29 [.one (.d (.sc (.int .i64 n)))] (fun ra _ => ra = [.one (.d (.sc (.bool (hasTo n))))]) := by
  refine FnOK.ofK Try.func29 (by kernel_rfl) dg_spec_l3named rs_spec_l3named rfl rfl ?_
  unfold c_spec_l3named
  refine kSeq (kReg (kMovC rfl (kDone (kSeq (kReg (kMovC rfl (kBin rfl rfl rfl (kMovC rfl (kGP rfl (fun g0 => kGF rfl (kGF rfl (kPickT rfl (kMovC rfl (kMovC rfl (kGF rfl (kGF rfl (kPickT rfl (kMovC rfl (kMovC rfl (kGF rfl (kGF rfl (kPickT rfl (kMovC rfl (kMovC rfl (kDone (kRet (endRetA (ra := [.one (.d _)]) rfl ?_)))))))))))))))))) (fun g0 => kGT rfl (kMovC rfl (kGT rfl (kBin rfl rfl rfl (kPickF rfl (kMovC rfl (kMovC rfl (kGP rfl (fun g1 => kGF rfl (kGF rfl (kPickT rfl (kMovC rfl (kMovC rfl (kGF rfl (kGF rfl (kPickT rfl (kMovC rfl (kMovC rfl (kDone (kRet (endRetA (ra := [.one (.d _)]) rfl ?_))))))))))))) (fun g1 => kGT rfl (kMovC rfl (kGT rfl (kBin rfl rfl rfl (kPickF rfl (kMovC rfl (kMovC rfl (kGP rfl (fun g2 => kGF rfl (kGF rfl (kPickT rfl (kMovC rfl (kMovC rfl (kDone (kRet (endRetA (ra := [.one (.d _)]) rfl ?_)))))))) (fun g2 => kGT rfl (kMovC rfl (kGT rfl (kBin rfl rfl rfl (kPickF rfl (kMovC rfl (kMovC rfl (kDone (kRet (endRetA (ra := [.one (.d _)]) rfl ?_)))))))))))))))))))))))))))))))))))
  all_goals simp_all [hasTo]

def c_spec_l1some : C := (.seq (.reg false (.op 0 [] (some 4) none false (.mov (.n 1))
  .done))
 (.seq (.reg false (.op 0 [] (some 5) none false (.mov (.n 1))
  .done))
 (.seq (.reg false (.op 0 [] (some 8) none false (.mov (.t 0))
  (.op 1 [] (some 9) none false (.mov (.t 1))
  (.op 2 [] (some 10) none false (.call 10 10 [(.t 8), (.t 9)])
  (.op 3 [] (some 6) none false (.mov (.t 10))
  .done)))))
 (.seq (.seq (.reg false (.op 0 [] (some 7) none false (.mov (.v (.int .i64 0)))
  .done))
 (.block 0 (.loop (.seq (.seq (.reg false (.op 0 [] (some 11) none false (.mov (.t 7))
  (.op 1 [] (some 12) none false (.mov (.t 6))
  (.op 2 [] (some 13) none false (.bin .lss (.t 11) (.t 12))
  .done))))
 (.cond (.t 13)
 .skip
 (.exit 0)))
 (.seq (.block 1 (.reg false (.op 0 [] (some 16) none false (.mov (.t 5))
  (.op 1 [] (some 17) none false (.mov (.t 0))
  (.op 2 [] (some 18) none false (.call 18 26 [(.t 17)])
  (.op 3 [] (some 19) none false (.conv .u8 (.t 18))
  (.op 4 [] (some 20) none false (.lit 20 1 [(.v (.int .u8 0))] 1 [(0, 1, (.t 19))])
  (.op 5 [] (some 21) none false (.app 21 1 1 (.t 16) (.t 20))
  (.op 6 [] (some 5) none false (.mov (.t 21))
  .done)))))))))
 (.reg false (.op 0 [] (some 14) none false (.mov (.t 7))
  (.op 1 [] (some 15) none false (.bin .add (.t 14) (.v (.int .i64 1)))
  (.op 2 [] (some 7) none false (.mov (.t 15))
  .done)))))))))
 (.seq (.reg false (.op 0 [] (some 22) none false (.mov (.t 5))
  (.op 1 [] (some 4) none false (.mov (.t 22))
  .done)))
 .ret)))))
theorem dg_spec_l1some : Try.f30.body.bind (digC Try.prog Try.f30.ntmps []) = some c_spec_l1some := by kernel_rfl
theorem rs_spec_l1some : resSlots Try.prog Try.f30 = some [.s 4] := by kernel_rfl
theorem ok_spec_l1some (c : Cu) (n : Int) (hn : n ≤ 4194304) :
    FnOK Try.prog 30 [.one (.box c.cells), .one (.d (.sc (.int .i64 n)))] (fun ra os => ∃ x : List UInt8 × Cu, ((x.1.length : Int) < n ∨ x.1 = []) ∧ ra = [.one (.own true (encB x.1))] ∧ os.b 0 = x.2.cells) := by
  refine FnOK.ofK Try.func30 (by kernel_rfl) dg_spec_l1some rs_spec_l1some rfl rfl ?_
  unfold c_spec_l1some
  refine kSeq (kReg (kMovC rfl (kDone (kSeq (kReg (kMovC rfl (kDone (kSeq (kReg (kMovC rfl (kMovC rfl (kCallE (ok_spec_l1Below _ _) ⟨⟨rfl, _, rfl, rfl⟩, rfl, trivial⟩ rfl rfl rfl (fun _ => rfl) (fun x0 hx0 => (kMovC rfl (kDone (kSeq (kSeq (kReg (kMovC rfl (kDone (kBlock ?_)))))))))))))))))))))
  refine kSub (Sub.nilArr (j := 5) (id := rid 5000 0) (sz := 1) rfl (by decide)) ?_
  refine kLoop (α := { l : List UInt8 // (l.length : Int) ≤ x0.1 } × Cu) (fun y => ⟨tabSl [(0, .c (.ptr 0 0 0)), (5, .c (.arr (rid 5000 0) 1)), (6, .i x0.1), (7, .i y.1.1.length)], obTab 1 [(0, ⟨0, 0, .box (y.2.cells.map .d)⟩), (rid 5000 0, ⟨1, 0, .arr true (encB y.1.1)⟩)], []⟩) (fun y => x0.1.toNat - y.1.1.length) (⟨[], by simp; omega⟩, x0.2) .normA ?_
  rintro ⟨⟨l, hl⟩, c'⟩
  simp only
  rcases Int.lt_or_le (l.length : Int) x0.1 with hlt | hge
  · refine kSeq (kSeq (kReg (kMovC rfl (kMovC rfl (kBin rfl rfl rfl (kDone (kCondP rfl (fun g0 => kSkip (kSeq (kBlock (kReg (kMovC rfl (kMovC rfl (kCallE (ok_spec_l1Byte _) ⟨⟨rfl, _, rfl, rfl⟩, trivial⟩ rfl rfl rfl (fun _ => rfl) (fun x1 hx1 => (kConvU8 rfl (kLit rfl rfl rfl rfl (kAppR1 rfl rfl rfl rfl rfl rfl rfl rfl (by omega) (kMem [(20484096, ⟨2, 0, .arr true _⟩)] [(21, .c (.arr 20484096 2))] [] ⟨rfl, trivial⟩ ⟨rfl, trivial⟩ rfl (kMovC rfl (kDone (kBk (kReg (kMovC rfl (kAdd rfl rfl (by omega) (kMovC rfl (kDone ?_)))))))))))))))))))) (fun g0 => (by omega)))))))))
    refine kInv ⟨(⟨l ++ [u8 x1.1], by simp; omega⟩, x1.2), by simp; omega, .norm ?_ ?_⟩
    · refine ⟨⟨_, rfl, rfl, rfl, rfl⟩, ⟨_, rfl, rfl, rfl, rfl⟩, ⟨_, rfl, .inl rfl⟩, ⟨_, rfl, .inl ?_⟩, trivial⟩
      simp
    · repeat' first | exact trivial | exact rfl | exact .inl rfl | refine ⟨_, rfl, ?_⟩ | refine ⟨?_, ?_⟩ | fail
  · refine kSeq (kSeq (kReg (kMovC rfl (kMovC rfl (kBin rfl rfl rfl (kDone (kCondP rfl (fun g0 => (by omega)) (fun g0 => kExit (kExC (kExI (kExB (kSeq (kReg (kMovC rfl (kMovC rfl (kDone (kMem [(20484096, ⟨1, 0, .arr true _⟩)] [(4, .c (.arr 20484096 1))] [] ⟨rfl, trivial⟩ ⟨rfl, trivial⟩ rfl (kRet (endRetA (ra := [.one (.own true _)]) rfl ?_)))))))))))))))))))
    exact ⟨(l, c'), by rcases hx0.2 with h | h; exact .inl (by simp only; omega); exact .inr (show l = [] from List.eq_nil_of_length_eq_zero (by omega)), rfl, rfl⟩

def c_spec_l3draw : C := (.seq (.reg false (.op 0 [] (some 2) none false (.alloc 2 [(.n 1), (.v (.int .i64 0)), (.v (.int .i64 0)), (.v (.int .i64 0)), (.n 1), (.n 1), (.n 1)])
  .done))
 (.seq (.reg false (.op 0 [] (some 4) none false (.mov (.t 0))
  (.op 1 [] (some 5) none false (.call 5 27 [(.t 4)])
  (.op 2 [] (some 6) none false (.mov (.t 0))
  (.op 3 [] (some 7) none false (.lit 7 1 [(.v (.int .i64 0))] 8 [(0, 1, (.v (.int .i64 1))), (1, 1, (.v (.int .i64 1))), (2, 1, (.v (.int .i64 2))), (3, 1, (.v (.int .i64 5))), (4, 1, (.v (.int .i64 6))), (5, 1, (.v (.int .i64 12))), (6, 1, (.v (.int .i64 16))), (7, 1, (.v (.int .i64 49)))])
  (.op 4 [] (some 8) none false (.call 8 28 [(.t 6), (.t 7)])
  (.op 5 [] (some 9) none false (.mov (.t 0))
  (.op 6 [] (some 10) none false (.lit 10 1 [(.v (.int .i64 0))] 5 [(0, 1, (.v (.int .i64 0))), (1, 1, (.v (.int .i64 5))), (2, 1, (.v (.int .i64 60))), (3, 1, (.v (.int .i64 300))), (4, 1, (.v (.int .i64 100000)))])
  (.op 7 [] (some 11) none false (.call 11 28 [(.t 9), (.t 10)])
  (.op 8 [] (some 12) none false (.build [(.n 1), (.v (.int .i64 0)), (.v (.int .i64 0)), (.v (.int .i64 0)), (.n 1), (.n 1), (.n 1)] [(0, 1, (.t 5)), (1, 1, (.t 8)), (2, 1, (.t 11))])
  (.op 9 [] (some 3) none false (.alloc 3 [(.n 1), (.v (.int .i64 0)), (.v (.int .i64 0)), (.v (.int .i64 0)), (.n 1), (.n 1), (.n 1)])
  (.op 10 [] none none false (.store (some 7) (.t 3) (.t 12))
  .done))))))))))))
 (.seq (.block 0 (.seq (.reg false (.op 0 [] (some 17) none false (.fad (.t 3) 1)
  (.op 1 [] (some 18) none false (.load none (.t 17))
  (.op 2 [] (some 19) none false (.bin .eql (.t 18) (.v (.int .i64 1)))
  (.op 3 [] (some 16) none false (.mov (.t 19))
  .done)))))
 (.cond (.t 16)
 (.reg false (.op 0 [] (some 20) none false (.mov (.t 0))
  (.op 1 [] (some 21) none false (.lit 21 1 [(.v (.int .i64 0))] 4 [(0, 1, (.v (.int .i64 1))), (1, 1, (.v (.int .i64 167772163))), (2, 1, (.v (.int .i64 167772164))), (3, 1, (.v (.int .i64 4294967295)))])
  (.op 2 [] (some 22) none false (.call 22 28 [(.t 20), (.t 21)])
  (.op 3 [] (some 23) none false (.fad (.t 3) 3)
  (.op 4 [] none none false (.store none (.t 23) (.t 22))
  .done))))))
 (.seq (.reg false (.op 0 [] (some 25) none false (.fad (.t 3) 1)
  (.op 1 [] (some 26) none false (.load none (.t 25))
  (.op 2 [] (some 27) none false (.call 27 29 [(.t 26)])
  (.op 3 [] (some 24) none false (.mov (.t 27))
  .done)))))
 (.cond (.t 24)
 (.seq (.reg false (.op 0 [] (some 28) none false (.mov (.t 0))
  (.op 1 [] (some 29) none false (.call 29 27 [(.t 28)])
  (.op 2 [] (some 30) none false (.fad (.t 3) 4)
  (.op 3 [] none none false (.store (some 1) (.t 30) (.t 29))
  .done)))))
 (.seq (.reg false (.op 0 [] (some 31) none false (.fad (.t 3) 1)
  (.op 1 [] (some 32) none false (.load none (.t 31))
  (.op 2 [] (some 33) none false (.bin .eql (.t 32) (.v (.int .i64 6)))
  .done))))
 (.cond (.t 33)
 (.reg false (.op 0 [] (some 34) none false (.mov (.t 0))
  (.op 1 [] (some 35) none false (.call 35 10 [(.t 34), (.v (.int .i64 9))])
  (.op 2 [] (some 36) none false (.mov (.t 0))
  (.op 3 [] (some 37) none false (.lit 37 1 [(.v (.int .i64 0))] 3 [(0, 1, (.v (.int .i64 0))), (1, 1, (.v (.int .i64 30))), (2, 1, (.v (.int .i64 100000)))])
  (.op 4 [] (some 38) none false (.call 38 28 [(.t 36), (.t 37)])
  (.op 5 [] (some 39) none false (.lit 39 1 [(.v (.int .i64 0))] 2 [(0, 1, (.t 35)), (1, 1, (.t 38))])
  (.op 6 [] (some 40) none false (.fad (.t 3) 6)
  (.op 7 [] none none false (.store none (.t 40) (.t 39))
  .done)))))))))
 .skip)))
 (.reg false (.op 0 [] (some 13) none false (.mov (.t 0))
  (.op 1 [] (some 14) none false (.call 14 30 [(.t 13), (.v (.int .i64 5))])
  (.op 2 [] (some 15) none false (.fad (.t 3) 5)
  (.op 3 [] none none false (.store none (.t 15) (.t 14))
  .done))))))))))
 (.seq (.reg false (.op 0 [] (some 41) none false (.load (some 7) (.t 3))
  (.op 1 [] none none false (.store (some 7) (.t 2) (.t 41))
  .done)))
 .ret))))
theorem dg_spec_l3draw : Try.f11.body.bind (digC Try.prog Try.f11.ntmps []) = some c_spec_l3draw := by kernel_rfl
theorem rs_spec_l3draw : resSlots Try.prog Try.f11 = some [.m 2 (some 7)] := by kernel_rfl
theorem ok_spec_l3draw (c : Cu) :
    FnOK Try.prog 11 [.one (.box c.cells)] (fun ra os => ∃ x : Rr × Cu, (drawnR x.1) ∧ ra = [.agg [.own true (encBB x.1.name), .d (.sc (.int .i64 x.1.ty)), .d (.sc (.int .i64 x.1.ttl)), .d (.sc (.int .i64 x.1.addr)), .own true (encBB x.1.to), .own true (encB x.1.text), .own true (encI x.1.nums)]] ∧ os.b 0 = x.2.cells) := by
  refine FnOK.ofK Try.func11 (by kernel_rfl) dg_spec_l3draw rs_spec_l3draw rfl rfl ?_
  unfold c_spec_l3draw
  refine kSeq (kReg (kAlloc rfl rfl (kDone (kSeq (kReg (kMovC rfl (kCallE (ok_spec_l2draw _) ⟨⟨rfl, _, rfl, rfl⟩, trivial⟩ rfl rfl rfl (fun _ => rfl) (fun x0 hx0 => (kMovC rfl (kLitD rfl rfl rfl rfl (kCallE (ok_spec_l1PickInt _ _ (by first | assumption | omega | solve_by_elim [List.getElem_mem] | (simp only [szOut] at *; omega) | exact rfl | exact Nat.le_of_ble_eq_true rfl) (by first | assumption | omega | solve_by_elim [List.getElem_mem] | (simp only [szOut] at *; omega) | exact rfl | exact Nat.le_of_ble_eq_true rfl) (by first | assumption | omega | solve_by_elim [List.getElem_mem] | (simp only [szOut] at *; omega) | exact rfl | exact Nat.le_of_ble_eq_true rfl)) ⟨⟨rfl, _, rfl, rfl⟩, rfl, trivial⟩ rfl rfl rfl (fun _ => rfl) (fun x1 hx1 => (kMovC rfl (kMem [(0, ⟨0, 2, .box [.d _, .d _, .d _]⟩), (24576, ⟨1, 0, .arr true _⟩)] [(9, .c (.ptr 0 0 0)), (10, .c (.un)), (5, .g [.arr 24576 1]), (8, .c (.d _)), (11, .c (.un)), (3, .c (.un)), (12, .c (.un))] [] ⟨rfl, rfl, trivial⟩ ⟨rfl, rfl, rfl, rfl, rfl, rfl, rfl, trivial⟩ rfl (kLitD rfl rfl rfl rfl (kCallE (ok_spec_l1PickInt _ _ (by first | assumption | omega | solve_by_elim [List.getElem_mem] | (simp only [szOut] at *; omega) | exact rfl | exact Nat.le_of_ble_eq_true rfl) (by first | assumption | omega | solve_by_elim [List.getElem_mem] | (simp only [szOut] at *; omega) | exact rfl | exact Nat.le_of_ble_eq_true rfl) (by first | assumption | omega | solve_by_elim [List.getElem_mem] | (simp only [szOut] at *; omega) | exact rfl | exact Nat.le_of_ble_eq_true rfl)) ⟨⟨rfl, _, rfl, rfl⟩, rfl, trivial⟩ rfl rfl rfl (fun _ => rfl) (fun x2 hx2 => (kMem [(24576, ⟨1, 0, .arr true _⟩)] [(5, .g [.arr 24576 1]), (8, .c (.d _)), (11, .c (.d _)), (3, .c (.un)), (12, .c (.un))] [] ⟨rfl, trivial⟩ ⟨rfl, rfl, rfl, rfl, rfl, trivial⟩ rfl (kBuildG rfl (kAlloc rfl rfl (kMem [(16384, ⟨1, 0, .box [.nil 1, .d _, .d _, .d _, .nil 1, .nil 1, .nil 1]⟩), (24576, ⟨1, 0, .arr true _⟩)] [(3, .c (.ptr 16384 1 0)), (12, .g [.arr 24576 1, .d _, .d _, .d _, .nil 1, .nil 1, .nil 1])] [] ⟨rfl, rfl, trivial⟩ ⟨rfl, rfl, trivial⟩ rfl (kStoreP rfl rfl rfl rfl (kDone (kSeq (kBlock (kSeq (kReg (kFadP rfl rfl (kLoadP rfl rfl rfl (kBin rfl rfl rfl (kMovC rfl (kDone (kCondP rfl (fun g3 => kReg (kMovC rfl (kLitD rfl rfl rfl rfl (kCallE (ok_spec_l1PickInt _ _ (by first | assumption | omega | solve_by_elim [List.getElem_mem] | (simp only [szOut] at *; omega) | exact rfl | exact Nat.le_of_ble_eq_true rfl) (by first | assumption | omega | solve_by_elim [List.getElem_mem] | (simp only [szOut] at *; omega) | exact rfl | exact Nat.le_of_ble_eq_true rfl) (by first | assumption | omega | solve_by_elim [List.getElem_mem] | (simp only [szOut] at *; omega) | exact rfl | exact Nat.le_of_ble_eq_true rfl)) ⟨⟨rfl, _, rfl, rfl⟩, rfl, trivial⟩ rfl rfl rfl (fun _ => rfl) (fun x4 hx4 => (kMem [(16384, ⟨1, 0, .box [.arr 24576 1, .d _, .d _, .d _, .nil 1, .nil 1, .nil 1]⟩), (24576, ⟨1, 0, .arr true _⟩)] [(3, .c (.ptr 16384 1 0)), (23, .c (.un)), (22, .c (.d _))] [] ⟨rfl, rfl, trivial⟩ ⟨rfl, rfl, rfl, trivial⟩ rfl (kFadP rfl rfl (kStoreP rfl rfl rfl rfl (kDone (kBk (kSeq (kReg (kLoadP rfl rfl rfl (kMem [(12288, ⟨1, 0, .box [.nil 1, .d _, .d _, .d _, .nil 1, .nil 1, .nil 1]⟩), (24576, ⟨1, 0, .arr true _⟩)] [(2, .c (.ptr 12288 1 0)), (41, .g [.arr 24576 1, .d _, .d _, .d _, .nil 1, .nil 1, .nil 1])] [] ⟨rfl, rfl, trivial⟩ ⟨rfl, rfl, trivial⟩ rfl (kStoreP rfl rfl rfl rfl (kDone (kMem [(12288, ⟨1, 0, .box [.arr 24576 1, .d _, .d _, .d _, .nil 1, .nil 1, .nil 1]⟩), (24576, ⟨1, 0, .arr true _⟩)] [(2, .c (.ptr 12288 1 0))] [] ⟨rfl, rfl, trivial⟩ ⟨rfl, trivial⟩ rfl (kRet (endRetA (ra := [.agg [(.own true _), (.d _), (.d _), (.d _), (.own true _), (.own true _), (.own true _)]]) rfl ?_))))))))))))))))))) (fun g3 => kSeq (kReg (kFadP rfl rfl (kLoadP rfl rfl rfl (kCallD (ok_spec_l3named _) ⟨rfl, trivial⟩ rfl rfl rfl rfl rfl (kMovC rfl (kDone (kCond rfl (fun g5 => kSeq (kReg (kMem [(0, ⟨0, 3, .box [.d _, .d _, .d _]⟩), (16384, ⟨1, 0, .box [.arr 24576 1, .d _, .d _, .d _, .nil 1, .nil 1, .nil 1]⟩), (24576, ⟨1, 0, .arr true _⟩)] [(0, .c (.ptr 0 0 0)), (28, .c (.un)), (3, .c (.ptr 16384 1 0)), (30, .c (.un)), (29, .c (.un))] [] ⟨rfl, rfl, rfl, trivial⟩ ⟨rfl, rfl, rfl, rfl, rfl, trivial⟩ rfl (kMovC rfl (kCallE (ok_spec_l2draw _) ⟨⟨rfl, _, rfl, rfl⟩, trivial⟩ rfl rfl rfl (fun _ => rfl) (fun x6 hx6 => (kFadP rfl rfl (kStoreP rfl rfl rfl rfl (kDone (kSeq (kReg (kFadP rfl rfl (kLoadP rfl rfl rfl (kBin rfl rfl rfl (kDone (kCondP rfl (fun g7 => kReg (kMovC rfl (kCallE (ok_spec_l1Below _ _) ⟨⟨rfl, _, rfl, rfl⟩, rfl, trivial⟩ rfl rfl rfl (fun _ => rfl) (fun x8 hx8 => (kMem [(0, ⟨0, 5, .box [.d _, .d _, .d _]⟩), (16384, ⟨1, 0, .box [.arr 24576 1, .d _, .d _, .d _, .arr 122880 1, .nil 1, .nil 1]⟩), (24576, ⟨1, 0, .arr true _⟩), (122880, ⟨1, 0, .arr true _⟩)] [(0, .c (.ptr 0 0 0)), (36, .c (.un)), (37, .c (.un)), (35, .c (.d _)), (38, .c (.un)), (3, .c (.ptr 16384 1 0)), (40, .c (.un)), (39, .c (.un))] [] ⟨rfl, rfl, rfl, rfl, trivial⟩ ⟨rfl, rfl, rfl, rfl, rfl, rfl, rfl, rfl, trivial⟩ rfl (kMovC rfl (kLitD rfl rfl rfl rfl (kCallE (ok_spec_l1PickInt _ _ (by first | assumption | omega | solve_by_elim [List.getElem_mem] | (simp only [szOut] at *; omega) | exact rfl | exact Nat.le_of_ble_eq_true rfl) (by first | assumption | omega | solve_by_elim [List.getElem_mem] | (simp only [szOut] at *; omega) | exact rfl | exact Nat.le_of_ble_eq_true rfl) (by first | assumption | omega | solve_by_elim [List.getElem_mem] | (simp only [szOut] at *; omega) | exact rfl | exact Nat.le_of_ble_eq_true rfl)) ⟨⟨rfl, _, rfl, rfl⟩, rfl, trivial⟩ rfl rfl rfl (fun _ => rfl) (fun x9 hx9 => (kLitG rfl rfl rfl rfl (kFadP rfl rfl (kStoreP rfl rfl rfl rfl (kDone (kBk (kSeq (kReg (kMem [(16384, ⟨1, 0, .box [.arr 24576 1, .d _, .d _, .d _, .arr 122880 1, .nil 1, .arr 163840 1]⟩), (12288, ⟨1, 0, .box [.nil 1, .d _, .d _, .d _, .nil 1, .nil 1, .nil 1]⟩), (24576, ⟨1, 0, .arr true _⟩), (122880, ⟨1, 0, .arr true _⟩), (163840, ⟨1, 0, .arr true _⟩)] [(3, .c (.ptr 16384 1 0)), (2, .c (.ptr 12288 1 0)), (41, .c (.un))] [] ⟨rfl, rfl, rfl, rfl, rfl, trivial⟩ ⟨rfl, rfl, rfl, trivial⟩ rfl (kLoadP rfl rfl rfl (kMem [(12288, ⟨1, 0, .box [.nil 1, .d _, .d _, .d _, .nil 1, .nil 1, .nil 1]⟩), (24576, ⟨1, 0, .arr true _⟩), (122880, ⟨1, 0, .arr true _⟩), (163840, ⟨1, 0, .arr true _⟩)] [(2, .c (.ptr 12288 1 0)), (41, .g [.arr 24576 1, .d _, .d _, .d _, .arr 122880 1, .nil 1, .arr 163840 1])] [] ⟨rfl, rfl, rfl, rfl, trivial⟩ ⟨rfl, rfl, trivial⟩ rfl (kStoreP rfl rfl rfl rfl (kDone (kMem [(12288, ⟨1, 0, .box [.arr 24576 1, .d _, .d _, .d _, .arr 122880 1, .nil 1, .arr 163840 1]⟩), (24576, ⟨1, 0, .arr true _⟩), (122880, ⟨1, 0, .arr true _⟩), (163840, ⟨1, 0, .arr true _⟩)] [(2, .c (.ptr 12288 1 0))] [] ⟨rfl, rfl, rfl, rfl, trivial⟩ ⟨rfl, trivial⟩ rfl (kRet (endRetA (ra := [.agg [(.own true _), (.d _), (.d _), (.d _), (.own true _), (.own true _), (.own true _)]]) rfl ?_)))))))))))))))))))))))) (fun g7 => kSkip (kBk (kSeq (kReg (kLoadP rfl rfl rfl (kMem [(12288, ⟨1, 0, .box [.nil 1, .d _, .d _, .d _, .nil 1, .nil 1, .nil 1]⟩), (24576, ⟨1, 0, .arr true _⟩), (122880, ⟨1, 0, .arr true _⟩)] [(2, .c (.ptr 12288 1 0)), (41, .g [.arr 24576 1, .d _, .d _, .d _, .arr 122880 1, .nil 1, .nil 1])] [] ⟨rfl, rfl, rfl, trivial⟩ ⟨rfl, rfl, trivial⟩ rfl (kStoreP rfl rfl rfl rfl (kDone (kMem [(12288, ⟨1, 0, .box [.arr 24576 1, .d _, .d _, .d _, .arr 122880 1, .nil 1, .nil 1]⟩), (24576, ⟨1, 0, .arr true _⟩), (122880, ⟨1, 0, .arr true _⟩)] [(2, .c (.ptr 12288 1 0))] [] ⟨rfl, rfl, rfl, trivial⟩ ⟨rfl, trivial⟩ rfl (kRet (endRetA (ra := [.agg [(.own true _), (.d _), (.d _), (.d _), (.own true _), (.own true _), (.own true _)]]) rfl ?_))))))))))))))))))))))))))) (fun g5 => kReg (kMem [(0, ⟨0, 3, .box [.d _, .d _, .d _]⟩), (16384, ⟨1, 0, .box [.arr 24576 1, .d _, .d _, .d _, .nil 1, .nil 1, .nil 1]⟩), (24576, ⟨1, 0, .arr true _⟩)] [(0, .c (.ptr 0 0 0)), (13, .c (.un)), (3, .c (.ptr 16384 1 0)), (15, .c (.un)), (14, .c (.un))] [] ⟨rfl, rfl, rfl, trivial⟩ ⟨rfl, rfl, rfl, rfl, rfl, trivial⟩ rfl (kMovC rfl (kCallE (ok_spec_l1some _ _ (by first | assumption | omega | solve_by_elim [List.getElem_mem] | (simp only [szOut] at *; omega) | exact rfl | exact Nat.le_of_ble_eq_true rfl)) ⟨⟨rfl, _, rfl, rfl⟩, rfl, trivial⟩ rfl rfl rfl (fun _ => rfl) (fun x10 hx10 => (kFadP rfl rfl (kStoreP rfl rfl rfl rfl (kDone (kBk (kSeq (kReg (kLoadP rfl rfl rfl (kMem [(12288, ⟨1, 0, .box [.nil 1, .d _, .d _, .d _, .nil 1, .nil 1, .nil 1]⟩), (24576, ⟨1, 0, .arr true _⟩), (61440, ⟨1, 0, .arr true _⟩)] [(2, .c (.ptr 12288 1 0)), (41, .g [.arr 24576 1, .d _, .d _, .d _, .nil 1, .arr 61440 1, .nil 1])] [] ⟨rfl, rfl, rfl, trivial⟩ ⟨rfl, rfl, trivial⟩ rfl (kStoreP rfl rfl rfl rfl (kDone (kMem [(12288, ⟨1, 0, .box [.arr 24576 1, .d _, .d _, .d _, .nil 1, .arr 61440 1, .nil 1]⟩), (24576, ⟨1, 0, .arr true _⟩), (61440, ⟨1, 0, .arr true _⟩)] [(2, .c (.ptr 12288 1 0))] [] ⟨rfl, rfl, rfl, trivial⟩ ⟨rfl, trivial⟩ rfl (kRet (endRetA (ra := [.agg [(.own true _), (.d _), (.d _), (.d _), (.own true _), (.own true _), (.own true _)]]) rfl ?_)))))))))))))))))))))))))))))))))))))))))))))))))))))))))))
  · exact ⟨(⟨x0.1, x1.1, x2.1, x4.1, [], [], []⟩, x4.2), ⟨hx0, rfl, Nat.zero_le _, Nat.zero_le _⟩, rfl, rfl⟩
  · exact ⟨(⟨x0.1, x1.1, x2.1, 0, x6.1, [], [x8.1, x9.1]⟩, x9.2), ⟨hx0, hx6, Nat.zero_le _, Nat.le_of_ble_eq_true rfl⟩, rfl, rfl⟩
  · exact ⟨(⟨x0.1, x1.1, x2.1, 0, x6.1, [], []⟩, x6.2), ⟨hx0, hx6, Nat.zero_le _, Nat.zero_le _⟩, rfl, rfl⟩
  · exact ⟨(⟨x0.1, x1.1, x2.1, 0, [], x10.1, []⟩, x10.2), ⟨hx0, rfl, show x10.1.length ≤ 64 from by rcases hx10 with h | h; omega; rw [h]; simp, Nat.zero_le _⟩, rfl, rfl⟩

def c_spec_l1Once : C := (.seq (.reg false (.op 0 [] (some 4) none false (.mov (.v (.bool false)))
  .done))
 (.seq (.reg false (.op 0 [] (some 5) none false (.mov (.t 0))
  (.op 1 [] (some 6) none false (.mov (.t 1))
  (.op 2 [] (some 7) none false (.call 7 10 [(.t 5), (.t 6)])
  (.op 3 [] (some 8) none false (.bin .eql (.t 7) (.v (.int .i64 0)))
  (.op 4 [] (some 4) none false (.mov (.t 8))
  .done))))))
 .ret))
theorem dg_spec_l1Once : Try.f12.body.bind (digC Try.prog Try.f12.ntmps []) = some c_spec_l1Once := by kernel_rfl
theorem rs_spec_l1Once : resSlots Try.prog Try.f12 = some [.s 4] := by kernel_rfl
theorem ok_spec_l1Once (c : Cu) (n : Int) :
    FnOK Try.prog 12 [.one (.box c.cells), .one (.d (.sc (.int .i64 n)))] (fun ra os => ∃ x : Bool × Cu, True ∧ ra = [.one (.d (.sc (.bool x.1)))] ∧ os.b 0 = x.2.cells) := by
  refine FnOK.ofK Try.func12 (by kernel_rfl) dg_spec_l1Once rs_spec_l1Once rfl rfl ?_
  unfold c_spec_l1Once
  refine kSeq (kReg (kMovC rfl (kDone (kSeq (kReg (kMovC rfl (kMovC rfl (kCallE (ok_spec_l1Below _ _) ⟨⟨rfl, _, rfl, rfl⟩, rfl, trivial⟩ rfl rfl rfl (fun _ => rfl) (fun x0 hx0 => (kBin rfl rfl rfl (kMovC rfl (kDone (kRet (endRetA (ra := [.one (.d _)]) rfl ?_))))))))))))))
  exact ⟨(_, x0.2), trivial, rfl, rfl⟩

def c_spec_l2bent : C := (.seq (.reg false (.op 0 [] (some 2) none false (.alloc 2 [(.n 1)])
  .done))
 (.seq (.reg false (.op 0 [] (some 4) none false (.mov (.t 0))
  (.op 1 [] (some 5) none false (.call 5 27 [(.t 4)])
  (.op 2 [] (some 3) none false (.alloc 3 [(.n 1)])
  (.op 3 [] none none false (.store (some 1) (.t 3) (.t 5))
  .done)))))
 (.seq (.seq (.reg false (.op 0 [] (some 6) none false (.mov (.t 0))
  (.op 1 [] (some 7) none false (.call 7 12 [(.t 6), (.v (.int .i64 9))])
  .done)))
 (.cond (.t 7)
 (.seq (.reg false (.op 0 [] (some 8) none false (.mov (.t 0))
  (.op 1 [] (some 9) none false (.call 9 10 [(.t 8), (.v (.int .i64 4))])
  .done)))
 (.block 0 (.seq (.reg false (.op 0 [] (some 22) none false (.bin .eql (.t 9) (.v (.int .i64 0)))
  (.op 1 [] (some 21) none false (.mov (.t 22))
  .done)))
 (.cond (.t 21)
 (.reg false (.op 0 [] (some 23) none false (.fad (.t 3) 0)
  (.op 1 [] (some 24) none false (.load none (.t 23))
  (.op 2 [] (some 25) none false (.lit 25 1 [(.n 1)] 1 [(0, 1, (.n 1))])
  (.op 3 [] (some 26) none false (.app 26 1 24 (.t 24) (.t 25))
  (.op 4 [] (some 27) none false (.fad (.t 3) 0)
  (.op 5 [] none none false (.store none (.t 27) (.t 26))
  .done)))))))
 (.seq (.reg false (.op 0 [] (some 29) none false (.bin .eql (.t 9) (.v (.int .i64 1)))
  (.op 1 [] (some 28) none false (.mov (.t 29))
  .done)))
 (.cond (.t 28)
 (.reg false (.op 0 [] (some 30) none false (.fad (.t 3) 0)
  (.op 1 [] (some 31) none false (.load none (.t 30))
  (.op 2 [] (some 32) none false (.lit 32 1 [(.v (.int .u8 0))] 1 [(0, 1, (.v (.int .u8 81)))])
  (.op 3 [] (some 33) none false (.s2s (.t 32))
  (.op 4 [] (some 34) none false (.lit 34 1 [(.n 1)] 1 [(0, 1, (.t 33))])
  (.op 5 [] (some 35) none false (.app 35 1 24 (.t 31) (.t 34))
  (.op 6 [] (some 36) none false (.fad (.t 3) 0)
  (.op 7 [] none none false (.store none (.t 36) (.t 35))
  .done)))))))))
 (.seq (.reg false (.op 0 [] (some 38) none false (.bin .eql (.t 9) (.v (.int .i64 2)))
  (.op 1 [] (some 37) none false (.mov (.t 38))
  .done)))
 (.cond (.t 37)
 (.reg true (.op 0 [] (some 39) none true (.fad (.t 3) 0)
  (.op 1 [] (some 40) none true (.load none (.t 39))
  (.op 3 [] (some 42) none true (.mov (.t 0))
  (.alt (.op 2 [] (some 41) none false (.lit 41 1 [(.v (.string ⟨#[]⟩))] 2 [(0, 1, (.v (.string ⟨#[97, 98, 99, 100, 101, 102, 103, 104, 105, 106, 107, 108, 109, 110, 111]⟩))), (1, 1, (.v (.string ⟨#[97, 98, 99, 100, 101, 102, 103, 104, 105, 106, 107, 108, 109, 110, 111, 112]⟩)))])
  (.op 4 [] (some 43) none false (.call 43 10 [(.t 42), (.v (.int .i64 2))])
  (.op 5 [] (some 44) none true (.iad 1 (.t 41) (.t 43))
  (.op 6 [] (some 45) none true (.load none (.t 44))
  (.op 7 [6] (some 46) none false (.s2b (.t 45))
  (.op 8 [6] (some 47) none false (.lit 47 1 [(.n 1)] 1 [(0, 1, (.t 46))])
  (.op 9 [1, 6] (some 48) none false (.app 48 1 24 (.t 40) (.t 47))
  (.op 10 [] (some 49) none true (.fad (.t 3) 0)
  (.op 11 [1, 6] none none false (.store none (.t 49) (.t 48))
  .done)))))))))
  (.op 4 [] (some 43) none false (.call 43 10 [(.t 42), (.v (.int .i64 2))])
  (.op 2 [] (some 41) none false (.lit 41 1 [(.v (.string ⟨#[]⟩))] 2 [(0, 1, (.v (.string ⟨#[97, 98, 99, 100, 101, 102, 103, 104, 105, 106, 107, 108, 109, 110, 111]⟩))), (1, 1, (.v (.string ⟨#[97, 98, 99, 100, 101, 102, 103, 104, 105, 106, 107, 108, 109, 110, 111, 112]⟩)))])
  (.op 5 [] (some 44) none true (.iad 1 (.t 41) (.t 43))
  (.op 6 [] (some 45) none true (.load none (.t 44))
  (.op 7 [6] (some 46) none false (.s2b (.t 45))
  (.op 8 [6] (some 47) none false (.lit 47 1 [(.n 1)] 1 [(0, 1, (.t 46))])
  (.op 9 [1, 6] (some 48) none false (.app 48 1 24 (.t 40) (.t 47))
  (.op 10 [] (some 49) none true (.fad (.t 3) 0)
  (.op 11 [1, 6] none none false (.store none (.t 49) (.t 48))
  .done))))))))))))))
 (.block 1 (.loop (.seq (.seq (.reg false (.op 0 [] (some 10) none false (.fad (.t 3) 0)
  (.op 1 [] (some 11) none false (.load none (.t 10))
  (.op 2 [] (some 12) none false (.len (.t 11))
  (.op 3 [] (some 13) none false (.bin .leq (.t 12) (.v (.int .i64 6)))
  .done)))))
 (.cond (.t 13)
 .skip
 (.exit 1)))
 (.block 2 (.reg false (.op 0 [] (some 14) none false (.fad (.t 3) 0)
  (.op 1 [] (some 15) none false (.load none (.t 14))
  (.op 2 [] (some 16) none false (.lit 16 1 [(.v (.int .u8 0))] 1 [(0, 1, (.v (.int .u8 122)))])
  (.op 3 [] (some 17) none false (.s2s (.t 16))
  (.op 4 [] (some 18) none false (.lit 18 1 [(.n 1)] 1 [(0, 1, (.t 17))])
  (.op 5 [] (some 19) none false (.app 19 1 24 (.t 15) (.t 18))
  (.op 6 [] (some 20) none false (.fad (.t 3) 0)
  (.op 7 [] none none false (.store none (.t 20) (.t 19))
  .done)))))))))))))))))))))
 .skip))
 (.seq (.reg false (.op 0 [] (some 50) none false (.load (some 1) (.t 3))
  (.op 1 [] none none false (.store (some 1) (.t 2) (.t 50))
  .done)))
 .ret))))
theorem dg_spec_l2bent : Try.f14.body.bind (digC Try.prog Try.f14.ntmps []) = some c_spec_l2bent := by kernel_rfl
theorem rs_spec_l2bent : resSlots Try.prog Try.f14 = some [.m 2 (some 1)] := by kernel_rfl
theorem ok_spec_l2bent (c : Cu) :
    FnOK Try.prog 14 [.one (.box c.cells)] (fun ra os => ∃ x : List (List UInt8) × Cu, (x.1.length ≤ 7 ∧ ∀ b ∈ x.1, b.length ≤ 64) ∧ ra = [.agg [.d (encBB x.1)]] ∧ os.b 0 = x.2.cells) := by
  refine FnOK.ofK Try.func14 (by kernel_rfl) dg_spec_l2bent rs_spec_l2bent rfl rfl ?_
  unfold c_spec_l2bent
  refine kSeq (kReg (kAlloc rfl rfl (kDone (kSeq (kReg (kMovC rfl (kCallE (ok_spec_l2draw _) ⟨⟨rfl, _, rfl, rfl⟩, trivial⟩ rfl rfl rfl (fun _ => rfl) (fun x0 hx0 => (kAlloc rfl rfl (kStoreP rfl rfl rfl rfl (kDone (kSeq (kSeq (kReg (kMovC rfl (kCallE (ok_spec_l1Once _ _) ⟨⟨rfl, _, rfl, rfl⟩, rfl, trivial⟩ rfl rfl rfl (fun _ => rfl) (fun x1 hx1 => (kDone (kCond rfl (fun g2 => kSeq (kReg (kMem [(0, ⟨0, 2, .box [.d _, .d _, .d _]⟩)] [(0, .c (.ptr 0 0 0)), (8, .c (.un))] [] ⟨rfl, trivial⟩ ⟨rfl, rfl, trivial⟩ rfl (kMovC rfl (kCallE (ok_spec_l1Below _ _) ⟨⟨rfl, _, rfl, rfl⟩, rfl, trivial⟩ rfl rfl rfl (fun _ => rfl) (fun x3 hx3 => (kDone (kBlock (kSeq (kReg (kBin rfl rfl rfl (kMovC rfl (kDone (kCondP rfl (fun g4 => kReg (kFadP rfl rfl (kLoadP rfl rfl rfl (kLitG rfl rfl rfl rfl ?_)))) (fun g4 => kSeq (kReg (kBin rfl rfl rfl (kMovC rfl (kDone (kCondP rfl (fun g5 => kReg (kFadP rfl rfl (kLoadP rfl rfl rfl (kLitG rfl rfl rfl rfl (kMem [(135168, ⟨1, 0, .arr true _⟩), (24576, ⟨1, 0, .arr true _⟩), (16384, ⟨1, 0, .box [.arr 24576 1]⟩)] [(32, .c (.arr 135168 1)), (33, .c (.un)), (31, .c (.arr 24576 1)), (34, .c (.un)), (3, .c (.ptr 16384 1 0)), (36, .c (.un)), (35, .c (.un))] [] ⟨rfl, rfl, rfl, trivial⟩ ⟨rfl, rfl, rfl, rfl, rfl, rfl, rfl, trivial⟩ rfl (kS2sB (y := 81) (ys := []) rfl rfl rfl (kLitG rfl rfl rfl rfl ?_))))))) (fun g5 => kSeq (kReg (kBin rfl rfl rfl (kMovC rfl (kDone (kCondP rfl (fun g6 => kRegD (kFadP rfl rfl (kLoadP rfl rfl rfl (kMem [(0, ⟨0, 3, .box [.d _, .d _, .d _]⟩), (24576, ⟨1, 0, .arr true _⟩), (16384, ⟨1, 0, .box [.arr 24576 1]⟩)] [(0, .c (.ptr 0 0 0)), (42, .c (.un)), (41, .c (.un)), (43, .c (.un)), (44, .c (.un)), (45, .c (.un)), (46, .c (.un)), (40, .c (.arr 24576 1)), (47, .c (.un)), (3, .c (.ptr 16384 1 0)), (49, .c (.un)), (48, .c (.un))] [16384] ⟨rfl, rfl, rfl, trivial⟩ ⟨rfl, rfl, rfl, rfl, rfl, rfl, rfl, rfl, rfl, rfl, rfl, rfl, trivial⟩ rfl (kMovC rfl (kAlt (kLitG rfl rfl rfl rfl (kCallE (ok_spec_l1Below _ _) ⟨⟨rfl, _, rfl, rfl⟩, rfl, trivial⟩ rfl rfl rfl (fun _ => rfl) (fun x8 hx8 => (kIadStr rfl rfl rfl rfl (by simp only [List.length_cons, List.length_nil]; omega) (kLoadStr rfl rfl rfl (by simp only [List.length_cons, List.length_nil]; omega) rfl (fun b9 hb9 => (kRelK rfl rfl (kS2b rfl (by omega) (kRelK rfl rfl (kLitG rfl rfl rfl rfl (kMem [(24576, ⟨1, 0, .arr true _⟩), (196608, ⟨1, 0, .arr false _⟩), (16384, ⟨1, 0, .box [.arr 24576 1]⟩)] [(40, .c (.arr 24576 1)), (47, .c (.arr 196608 1)), (3, .c (.ptr 16384 1 0)), (49, .c (.un)), (48, .c (.un))] [172032, 16384] ⟨rfl, rfl, rfl, trivial⟩ ⟨rfl, rfl, rfl, rfl, rfl, trivial⟩ rfl (kRelF rfl rfl ?_)))))))))))) (kCallE (ok_spec_l1Below _ _) ⟨⟨rfl, _, rfl, rfl⟩, rfl, trivial⟩ rfl rfl rfl (fun _ => rfl) (fun x10 hx10 => (kLitG rfl rfl rfl rfl (kIadStr rfl rfl rfl rfl (by simp only [List.length_cons, List.length_nil]; omega) (kLoadStr rfl rfl rfl (by simp only [List.length_cons, List.length_nil]; omega) rfl (fun b11 hb11 => (kRelK rfl rfl (kS2b rfl (by omega) (kRelK rfl rfl (kLitG rfl rfl rfl rfl (kMem [(24576, ⟨1, 0, .arr true _⟩), (196608, ⟨1, 0, .arr false _⟩), (16384, ⟨1, 0, .box [.arr 24576 1]⟩)] [(40, .c (.arr 24576 1)), (47, .c (.arr 196608 1)), (3, .c (.ptr 16384 1 0)), (49, .c (.un)), (48, .c (.un))] [172032, 16384] ⟨rfl, rfl, rfl, trivial⟩ ⟨rfl, rfl, rfl, rfl, rfl, trivial⟩ rfl (kRelF rfl rfl ?_)))))))))))))))))) (fun g6 => kBlock ?_))))))))))))))))))))))))))) (fun g2 => kSkip (kSeq (kReg (kMem [(16384, ⟨1, 0, .box [.arr 24576 1]⟩), (12288, ⟨1, 0, .box [.nil 1]⟩), (24576, ⟨1, 0, .arr true _⟩)] [(3, .c (.ptr 16384 1 0)), (2, .c (.ptr 12288 1 0)), (50, .c (.un))] [] ⟨rfl, rfl, rfl, trivial⟩ ⟨rfl, rfl, rfl, trivial⟩ rfl (kLoadP rfl rfl rfl (kStoreP rfl rfl rfl rfl (kDone (kMem [(12288, ⟨1, 0, .box [.arr 24576 1]⟩), (24576, ⟨1, 0, .arr true _⟩)] [(2, .c (.ptr 12288 1 0))] [] ⟨rfl, rfl, trivial⟩ ⟨rfl, trivial⟩ rfl (kRet (endRetA (ra := [.agg [(.d _)]]) rfl ?_)))))))))))))))))))))))))))))
  · have h6 := nameOk_len hx0
    refine kAppR1 (z := ([] : List UInt8)) rfl rfl rfl rfl rfl rfl rfl rfl (by omega) ?_
    refine kMem [(16384, ⟨1, 0, .box [.arr 24576 1]⟩), (24576, ⟨2, 0, .arr true _⟩)] [(3, .c (.ptr 16384 1 0)), (27, .c (.un)), (26, .c (.arr 24576 2))] [] ⟨rfl, rfl, trivial⟩ ⟨rfl, rfl, rfl, trivial⟩ rfl (kFadP rfl rfl (kStoreP rfl rfl rfl rfl (kDone (kBk (kSeq (kReg (kLoadP rfl rfl rfl (kStoreP rfl rfl rfl rfl (kDone (kMem [(12288, ⟨1, 0, .box [.arr 24576 2]⟩), (24576, ⟨2, 0, .arr true _⟩)] [(2, .c (.ptr 12288 1 0))] [] ⟨rfl, rfl, trivial⟩ ⟨rfl, trivial⟩ rfl (kRet (endRetA (ra := [.agg [(.d _)]]) rfl ?_))))))))))))
    exact ⟨(_, x3.2), bent_app hx0 (by decide), rfl, rfl⟩
  · have h6 := nameOk_len hx0
    refine kAppR1 (z := ([81] : List UInt8)) rfl rfl rfl rfl rfl rfl rfl rfl (by omega) ?_
    refine kFadP rfl rfl (kStoreP rfl rfl rfl rfl (kDone (kBk (kSeq (kReg (kLoadP rfl rfl rfl (kMem [(12288, ⟨1, 0, .box [.nil 1]⟩), (24576, ⟨2, 0, .arr false _⟩)] [(2, .c (.ptr 12288 1 0)), (50, .g [.arr 24576 2])] [] ⟨rfl, rfl, trivial⟩ ⟨rfl, rfl, trivial⟩ rfl (kStoreP rfl rfl rfl rfl (kDone (kMem [(12288, ⟨1, 0, .box [.arr 24576 2]⟩), (24576, ⟨2, 0, .arr false _⟩)] [(2, .c (.ptr 12288 1 0))] [] ⟨rfl, rfl, trivial⟩ ⟨rfl, trivial⟩ rfl (kRet (endRetA (ra := [.agg [(.d _)]]) rfl ?_))))))))))))
    exact ⟨(_, x3.2), bent_app hx0 (by decide), rfl, rfl⟩
  · have h6 := nameOk_len hx0
    refine kAppR1 (z := b9.toList) rfl rfl rfl rfl rfl rfl rfl rfl (by omega) ?_
    refine kFadP rfl rfl (kRelF rfl rfl (kStoreP rfl rfl rfl rfl (kDone (kH (kBk (kSeq (kReg (kLoadP rfl rfl rfl (kStoreP rfl rfl rfl rfl (kDone (kMem [(12288, ⟨1, 0, .box [.arr 24576 2]⟩), (24576, ⟨2, 0, .arr false _⟩)] [(2, .c (.ptr 12288 1 0))] [] ⟨rfl, rfl, trivial⟩ ⟨rfl, trivial⟩ rfl (kRet (endRetA (ra := [.agg [(.d _)]]) rfl ?_)))))))))))))
    exact ⟨(_, x8.2), bent_app hx0 (by rw [bt_len]; exact hb9), rfl, rfl⟩
  · have h6 := nameOk_len hx0
    refine kAppR1 (z := b11.toList) rfl rfl rfl rfl rfl rfl rfl rfl (by omega) ?_
    refine kFadP rfl rfl (kRelF rfl rfl (kStoreP rfl rfl rfl rfl (kDone (kH (kBk (kSeq (kReg (kLoadP rfl rfl rfl (kStoreP rfl rfl rfl rfl (kDone (kMem [(12288, ⟨1, 0, .box [.arr 24576 2]⟩), (24576, ⟨2, 0, .arr false _⟩)] [(2, .c (.ptr 12288 1 0))] [] ⟨rfl, rfl, trivial⟩ ⟨rfl, trivial⟩ rfl (kRet (endRetA (ra := [.agg [(.d _)]]) rfl ?_)))))))))))))
    exact ⟨(_, x10.2), bent_app hx0 (by rw [bt_len]; exact hb11), rfl, rfl⟩
  · refine kLoop (α := { L : List (List UInt8) // L.length ≤ 7 ∧ ∀ b ∈ L, b.length ≤ 64 }) (fun y => ⟨tabSl [(2, .c (.ptr (rid 2 0) 1 0)), (3, .c (.ptr (rid 3 0) 1 0))], obTab 1 [(0, ⟨0, 0, .box (x3.2.cells.map .d)⟩), (rid 2 0, ⟨1, 0, .box [.nil 1]⟩), (rid 3 0, ⟨1, 0, .box [.arr (rid 5 0) 1]⟩), (rid 5 0, ⟨1, 0, .arr false (encBB y.1)⟩)], []⟩) (fun y => 7 - y.1.length) ⟨x0.1, bent_ok hx0⟩ .normA ?_
    rintro ⟨L, h7, hL⟩
    simp only
    rcases Nat.lt_or_ge L.length 7 with hlt | hge
    · refine kSeq (kSeq (kReg (kFadP rfl rfl (kLoadP rfl rfl rfl (kLenR rfl rfl (kBin rfl rfl rfl (kDone (kCondP rfl (fun g0 => kSkip (kBlock (kReg (kFadP rfl rfl (kLoadP rfl rfl rfl (kLitG rfl rfl rfl rfl (kS2sB (y := 122) (ys := []) rfl rfl rfl (kMem [(24576, ⟨1, 0, .arr false _⟩), (16384, ⟨1, 0, .box [.arr 24576 1]⟩)] [(17, .c (.d _)), (15, .c (.arr 24576 1)), (3, .c (.ptr 16384 1 0))] [] ⟨rfl, rfl, trivial⟩ ⟨rfl, rfl, rfl, trivial⟩ rfl (kLitG rfl rfl rfl rfl (kAppR1 rfl rfl rfl rfl rfl rfl rfl rfl (by first | omega | (simp only [List.length_append, List.length_cons, List.length_nil]; omega)) (kFadP rfl rfl (kStoreP rfl rfl rfl rfl (kDone (kBk ?_)))))))))))))) (fun g0 => (by omega))))))))))
      refine kInv ⟨⟨L ++ [[122]], by simp; omega, fun b hb => ?_⟩, by simp; omega, .normA⟩
      rcases List.mem_append.1 hb with hb | hb
      · exact hL b hb
      · simp only [List.mem_singleton] at hb; subst hb; decide
    · refine kSeq (kSeq (kReg (kFadP rfl rfl (kLoadP rfl rfl rfl (kLenR rfl rfl (kBin rfl rfl rfl (kDone (kCondP rfl (fun g0 => (by omega)) (fun g0 => kExit (kExC (kExI (kExB (kBk (kSeq (kReg (kLoadP rfl rfl rfl (kStoreP rfl rfl rfl rfl (kDone (kMem [(12288, ⟨1, 0, .box [.arr 24576 1]⟩), (24576, ⟨1, 0, .arr false _⟩)] [(2, .c (.ptr 12288 1 0))] [] ⟨rfl, rfl, trivial⟩ ⟨rfl, trivial⟩ rfl (kRet (endRetA (ra := [.agg [(.d _)]]) rfl ?_)))))))))))))))))))))
      exact ⟨(L, x3.2), ⟨h7, hL⟩, rfl, rfl⟩
  · exact ⟨(x0.1, x1.2), bent_ok hx0, rfl, rfl⟩

def c_spec_l3bent : C := (.seq (.reg false (.op 0 [] (some 2) none false (.alloc 2 [(.n 1), (.v (.int .i64 0)), (.v (.int .i64 0)), (.v (.int .i64 0)), (.n 1), (.n 1), (.n 1)])
  .done))
 (.seq (.reg false (.op 0 [] (some 4) none false (.mov (.t 0))
  (.op 1 [] (some 5) none false (.call 5 11 [(.t 4)])
  (.op 2 [] (some 3) none false (.alloc 3 [(.n 1), (.v (.int .i64 0)), (.v (.int .i64 0)), (.v (.int .i64 0)), (.n 1), (.n 1), (.n 1)])
  (.op 3 [] none none false (.store (some 7) (.t 3) (.t 5))
  .done)))))
 (.seq (.seq (.reg false (.op 0 [] (some 6) none false (.mov (.t 0))
  (.op 1 [] (some 7) none false (.call 7 12 [(.t 6), (.v (.int .i64 7))])
  .done)))
 (.cond (.t 7)
 (.seq (.reg false (.op 0 [] (some 8) none false (.mov (.t 0))
  (.op 1 [] (some 9) none false (.call 9 10 [(.t 8), (.v (.int .i64 7))])
  .done)))
 (.block 0 (.seq (.reg false (.op 0 [] (some 18) none false (.bin .eql (.t 9) (.v (.int .i64 0)))
  (.op 1 [] (some 17) none false (.mov (.t 18))
  .done)))
 (.cond (.t 17)
 (.reg false (.op 0 [] (some 19) none false (.mov (.t 0))
  (.op 1 [] (some 20) none false (.call 20 14 [(.t 19)])
  (.op 2 [] (some 21) none false (.fad (.t 3) 0)
  (.op 3 [] none none false (.store (some 1) (.t 21) (.t 20))
  .done)))))
 (.seq (.reg false (.op 0 [] (some 23) none false (.bin .eql (.t 9) (.v (.int .i64 1)))
  (.op 1 [] (some 22) none false (.mov (.t 23))
  .done)))
 (.cond (.t 22)
 (.reg false (.op 0 [] (some 24) none false (.mov (.t 0))
  (.op 1 [] (some 25) none false (.lit 25 1 [(.v (.int .i64 0))] 7 [(0, 1, (.v (.int .i64 0))), (1, 1, (.v (.int .i64 3))), (2, 1, (.v (.int .i64 28))), (3, 1, (.v (.int .i64 255))), (4, 1, (.v (.int .i64 (-1)))), (5, 1, (.v (.int .i64 1))), (6, 1, (.v (.int .i64 5)))])
  (.op 2 [] (some 26) none false (.call 26 28 [(.t 24), (.t 25)])
  (.op 3 [] (some 27) none false (.fad (.t 3) 1)
  (.op 4 [] none none false (.store none (.t 27) (.t 26))
  .done))))))
 (.seq (.reg false (.op 0 [] (some 29) none false (.bin .eql (.t 9) (.v (.int .i64 2)))
  (.op 1 [] (some 28) none false (.mov (.t 29))
  .done)))
 (.cond (.t 28)
 (.reg false (.op 0 [] (some 30) none false (.mov (.t 0))
  (.op 1 [] (some 31) none false (.lit 31 1 [(.v (.int .i64 0))] 2 [(0, 1, (.v (.int .i64 (-1)))), (1, 1, (.v (.int .i64 100001)))])
  (.op 2 [] (some 32) none false (.call 32 28 [(.t 30), (.t 31)])
  (.op 3 [] (some 33) none false (.fad (.t 3) 2)
  (.op 4 [] none none false (.store none (.t 33) (.t 32))
  .done))))))
 (.seq (.reg false (.op 0 [] (some 35) none false (.bin .eql (.t 9) (.v (.int .i64 3)))
  (.op 1 [] (some 34) none false (.mov (.t 35))
  .done)))
 (.cond (.t 34)
 (.reg false (.op 0 [] (some 36) none false (.mov (.t 0))
  (.op 1 [] (some 37) none false (.lit 37 1 [(.v (.int .i64 0))] 3 [(0, 1, (.v (.int .i64 (-1)))), (1, 1, (.v (.int .i64 4294967296))), (2, 1, (.v (.int .i64 7)))])
  (.op 2 [] (some 38) none false (.call 38 28 [(.t 36), (.t 37)])
  (.op 3 [] (some 39) none false (.fad (.t 3) 3)
  (.op 4 [] none none false (.store none (.t 39) (.t 38))
  .done))))))
 (.seq (.reg false (.op 0 [] (some 41) none false (.bin .eql (.t 9) (.v (.int .i64 4)))
  (.op 1 [] (some 40) none false (.mov (.t 41))
  .done)))
 (.cond (.t 40)
 (.reg false (.op 0 [] (some 42) none false (.mov (.t 0))
  (.op 1 [] (some 43) none false (.call 43 14 [(.t 42)])
  (.op 2 [] (some 44) none false (.fad (.t 3) 4)
  (.op 3 [] none none false (.store (some 1) (.t 44) (.t 43))
  .done)))))
 (.seq (.reg false (.op 0 [] (some 46) none false (.bin .eql (.t 9) (.v (.int .i64 5)))
  (.op 1 [] (some 45) none false (.mov (.t 46))
  .done)))
 (.cond (.t 45)
 (.reg false (.op 0 [] (some 47) none false (.mov (.t 0))
  (.op 1 [] (some 48) none false (.call 48 10 [(.t 47), (.v (.int .i64 2))])
  (.op 2 [] (some 49) none false (.bin .add (.v (.int .i64 40)) (.t 48))
  (.op 3 [] (some 50) none false (.mk 50 1 [(.v (.int .u8 0))] 1 (.t 49))
  (.op 4 [] (some 51) none false (.fad (.t 3) 5)
  (.op 5 [] none none false (.store none (.t 51) (.t 50))
  .done)))))))
 (.reg true (.op 0 [] (some 10) none true (.fad (.t 3) 6)
  (.op 1 [] (some 11) none true (.load none (.t 10))
  (.op 2 [] (some 12) none true (.mov (.t 0))
  (.op 3 [] (some 13) none false (.call 13 10 [(.t 12), (.v (.int .i64 5))])
  (.op 4 [] (some 14) none false (.lit 14 1 [(.v (.int .i64 0))] 1 [(0, 1, (.t 13))])
  (.op 5 [1] (some 15) none false (.app 15 1 8 (.t 11) (.t 14))
  (.op 6 [] (some 16) none true (.fad (.t 3) 6)
  (.op 7 [1] none none false (.store none (.t 16) (.t 15))
  .done)))))))))))))))))))))))
 .skip))
 (.seq (.reg false (.op 0 [] (some 52) none false (.load (some 7) (.t 3))
  (.op 1 [] none none false (.store (some 7) (.t 2) (.t 52))
  .done)))
 .ret))))
theorem dg_spec_l3bent : Try.f13.body.bind (digC Try.prog Try.f13.ntmps []) = some c_spec_l3bent := by kernel_rfl
theorem rs_spec_l3bent : resSlots Try.prog Try.f13 = some [.m 2 (some 7)] := by kernel_rfl
theorem ok_spec_l3bent (c : Cu) :
    FnOK Try.prog 13 [.one (.box c.cells)] (fun ra os => ∃ x : Rr × Cu, (SmallR x.1) ∧ ra = [.agg [.d (encBB x.1.name), .d (.sc (.int .i64 x.1.ty)), .d (.sc (.int .i64 x.1.ttl)), .d (.sc (.int .i64 x.1.addr)), .d (encBB x.1.to), .d (encB x.1.text), .d (encI x.1.nums)]] ∧ os.b 0 = x.2.cells) := by
  refine FnOK.ofK Try.func13 (by kernel_rfl) dg_spec_l3bent rs_spec_l3bent rfl rfl ?_
  unfold c_spec_l3bent
  refine kSeq (kReg (kAlloc rfl rfl (kDone (kSeq (kReg (kMovC rfl (kCallE (ok_spec_l3draw _) ⟨⟨rfl, _, rfl, rfl⟩, trivial⟩ rfl rfl rfl (fun _ => rfl) (fun x0 hx0 => (kAlloc rfl rfl (kMem [(16384, ⟨1, 0, .box [.nil 1, .d _, .d _, .d _, .nil 1, .nil 1, .nil 1]⟩), (24576, ⟨1, 0, .arr true _⟩), (24580, ⟨1, 0, .arr true _⟩), (24581, ⟨1, 0, .arr true _⟩), (24582, ⟨1, 0, .arr true _⟩)] [(3, .c (.ptr 16384 1 0)), (5, .g [.arr 24576 1, .d _, .d _, .d _, .arr 24580 1, .arr 24581 1, .arr 24582 1])] [] ⟨rfl, rfl, rfl, rfl, rfl, trivial⟩ ⟨rfl, rfl, trivial⟩ rfl (kStoreP rfl rfl rfl rfl (kDone (kSeq (kSeq (kReg (kMovC rfl (kCallE (ok_spec_l1Once _ _) ⟨⟨rfl, _, rfl, rfl⟩, rfl, trivial⟩ rfl rfl rfl (fun _ => rfl) (fun x1 hx1 => (kDone (kCond rfl (fun g2 => kSeq (kReg (kMovC rfl (kCallE (ok_spec_l1Below _ _) ⟨⟨rfl, _, rfl, rfl⟩, rfl, trivial⟩ rfl rfl rfl (fun _ => rfl) (fun x3 hx3 => (kDone (kBlock (kSeq (kReg (kBin rfl rfl rfl (kMovC rfl (kDone (kCondP rfl (fun g4 => kReg (kMovC rfl (kCallE (ok_spec_l2bent _) ⟨⟨rfl, _, rfl, rfl⟩, trivial⟩ rfl rfl rfl (fun _ => rfl) (fun x5 hx5 => (kMem [(16384, ⟨1, 0, .box [.arr 24576 1, .d _, .d _, .d _, .arr 24580 1, .arr 24581 1, .arr 24582 1]⟩), (24576, ⟨1, 0, .arr true _⟩), (24580, ⟨1, 0, .arr true _⟩), (24581, ⟨1, 0, .arr true _⟩), (24582, ⟨1, 0, .arr true _⟩)] [(3, .c (.ptr 16384 1 0)), (21, .c (.un)), (20, .g [.d _])] [] ⟨rfl, rfl, rfl, rfl, rfl, trivial⟩ ⟨rfl, rfl, rfl, trivial⟩ rfl (kFadP rfl rfl (kStoreP rfl rfl rfl rfl (kDone (kBk (kSeq (kReg (kLoadP rfl rfl rfl (kMem [(12288, ⟨1, 0, .box [.nil 1, .d _, .d _, .d _, .nil 1, .nil 1, .nil 1]⟩), (24580, ⟨1, 0, .arr true _⟩), (24581, ⟨1, 0, .arr true _⟩), (24582, ⟨1, 0, .arr true _⟩)] [(2, .c (.ptr 12288 1 0)), (52, .g [.d _, .d _, .d _, .d _, .arr 24580 1, .arr 24581 1, .arr 24582 1])] [] ⟨rfl, rfl, rfl, rfl, trivial⟩ ⟨rfl, rfl, trivial⟩ rfl (kStoreP rfl rfl rfl rfl (kDone (kMem [(12288, ⟨1, 0, .box [.d _, .d _, .d _, .d _, .arr 24580 1, .arr 24581 1, .arr 24582 1]⟩), (24580, ⟨1, 0, .arr true _⟩), (24581, ⟨1, 0, .arr true _⟩), (24582, ⟨1, 0, .arr true _⟩)] [(2, .c (.ptr 12288 1 0))] [] ⟨rfl, rfl, rfl, rfl, trivial⟩ ⟨rfl, trivial⟩ rfl (kRet (endRetA (ra := [.agg [(.d _), (.d _), (.d _), (.d _), (.d _), (.d _), (.d _)]]) rfl ?_)))))))))))))))))) (fun g4 => kSeq (kReg (kBin rfl rfl rfl (kMovC rfl (kDone (kCondP rfl (fun g6 => kReg (kMem [(0, ⟨0, 3, .box [.d _, .d _, .d _]⟩), (16384, ⟨1, 0, .box [.arr 24576 1, .d _, .d _, .d _, .arr 24580 1, .arr 24581 1, .arr 24582 1]⟩), (24576, ⟨1, 0, .arr true _⟩), (24580, ⟨1, 0, .arr true _⟩), (24581, ⟨1, 0, .arr true _⟩), (24582, ⟨1, 0, .arr true _⟩)] [(0, .c (.ptr 0 0 0)), (24, .c (.un)), (25, .c (.un)), (3, .c (.ptr 16384 1 0)), (27, .c (.un)), (26, .c (.un))] [] ⟨rfl, rfl, rfl, rfl, rfl, rfl, trivial⟩ ⟨rfl, rfl, rfl, rfl, rfl, rfl, trivial⟩ rfl (kMovC rfl (kLitD rfl rfl rfl rfl (kCallE (ok_spec_l1PickInt _ _ (by first | assumption | omega | solve_by_elim [List.getElem_mem] | (simp only [szOut] at *; omega) | exact rfl | exact Nat.le_of_ble_eq_true rfl) (by first | assumption | omega | solve_by_elim [List.getElem_mem] | (simp only [szOut] at *; omega) | exact rfl | exact Nat.le_of_ble_eq_true rfl) (by first | assumption | omega | solve_by_elim [List.getElem_mem] | (simp only [szOut] at *; omega) | exact rfl | exact Nat.le_of_ble_eq_true rfl)) ⟨⟨rfl, _, rfl, rfl⟩, rfl, trivial⟩ rfl rfl rfl (fun _ => rfl) (fun x7 hx7 => (kFadP rfl rfl (kStoreP rfl rfl rfl rfl (kDone (kBk (kSeq (kReg (kLoadP rfl rfl rfl (kMem [(12288, ⟨1, 0, .box [.nil 1, .d _, .d _, .d _, .nil 1, .nil 1, .nil 1]⟩), (24576, ⟨1, 0, .arr true _⟩), (24580, ⟨1, 0, .arr true _⟩), (24581, ⟨1, 0, .arr true _⟩), (24582, ⟨1, 0, .arr true _⟩)] [(2, .c (.ptr 12288 1 0)), (52, .g [.arr 24576 1, .d _, .d _, .d _, .arr 24580 1, .arr 24581 1, .arr 24582 1])] [] ⟨rfl, rfl, rfl, rfl, rfl, trivial⟩ ⟨rfl, rfl, trivial⟩ rfl (kStoreP rfl rfl rfl rfl (kDone (kMem [(12288, ⟨1, 0, .box [.arr 24576 1, .d _, .d _, .d _, .arr 24580 1, .arr 24581 1, .arr 24582 1]⟩), (24576, ⟨1, 0, .arr true _⟩), (24580, ⟨1, 0, .arr true _⟩), (24581, ⟨1, 0, .arr true _⟩), (24582, ⟨1, 0, .arr true _⟩)] [(2, .c (.ptr 12288 1 0))] [] ⟨rfl, rfl, rfl, rfl, rfl, trivial⟩ ⟨rfl, trivial⟩ rfl (kRet (endRetA (ra := [.agg [(.d _), (.d _), (.d _), (.d _), (.d _), (.d _), (.d _)]]) rfl ?_))))))))))))))))))) (fun g6 => kSeq (kReg (kBin rfl rfl rfl (kMovC rfl (kDone (kCondP rfl (fun g8 => kReg (kMem [(0, ⟨0, 3, .box [.d _, .d _, .d _]⟩), (16384, ⟨1, 0, .box [.arr 24576 1, .d _, .d _, .d _, .arr 24580 1, .arr 24581 1, .arr 24582 1]⟩), (24576, ⟨1, 0, .arr true _⟩), (24580, ⟨1, 0, .arr true _⟩), (24581, ⟨1, 0, .arr true _⟩), (24582, ⟨1, 0, .arr true _⟩)] [(0, .c (.ptr 0 0 0)), (30, .c (.un)), (31, .c (.un)), (3, .c (.ptr 16384 1 0)), (33, .c (.un)), (32, .c (.un))] [] ⟨rfl, rfl, rfl, rfl, rfl, rfl, trivial⟩ ⟨rfl, rfl, rfl, rfl, rfl, rfl, trivial⟩ rfl (kMovC rfl (kLitD rfl rfl rfl rfl (kCallE (ok_spec_l1PickInt _ _ (by first | assumption | omega | solve_by_elim [List.getElem_mem] | (simp only [szOut] at *; omega) | exact rfl | exact Nat.le_of_ble_eq_true rfl) (by first | assumption | omega | solve_by_elim [List.getElem_mem] | (simp only [szOut] at *; omega) | exact rfl | exact Nat.le_of_ble_eq_true rfl) (by first | assumption | omega | solve_by_elim [List.getElem_mem] | (simp only [szOut] at *; omega) | exact rfl | exact Nat.le_of_ble_eq_true rfl)) ⟨⟨rfl, _, rfl, rfl⟩, rfl, trivial⟩ rfl rfl rfl (fun _ => rfl) (fun x9 hx9 => (kFadP rfl rfl (kStoreP rfl rfl rfl rfl (kDone (kBk (kSeq (kReg (kLoadP rfl rfl rfl (kMem [(12288, ⟨1, 0, .box [.nil 1, .d _, .d _, .d _, .nil 1, .nil 1, .nil 1]⟩), (24576, ⟨1, 0, .arr true _⟩), (24580, ⟨1, 0, .arr true _⟩), (24581, ⟨1, 0, .arr true _⟩), (24582, ⟨1, 0, .arr true _⟩)] [(2, .c (.ptr 12288 1 0)), (52, .g [.arr 24576 1, .d _, .d _, .d _, .arr 24580 1, .arr 24581 1, .arr 24582 1])] [] ⟨rfl, rfl, rfl, rfl, rfl, trivial⟩ ⟨rfl, rfl, trivial⟩ rfl (kStoreP rfl rfl rfl rfl (kDone (kMem [(12288, ⟨1, 0, .box [.arr 24576 1, .d _, .d _, .d _, .arr 24580 1, .arr 24581 1, .arr 24582 1]⟩), (24576, ⟨1, 0, .arr true _⟩), (24580, ⟨1, 0, .arr true _⟩), (24581, ⟨1, 0, .arr true _⟩), (24582, ⟨1, 0, .arr true _⟩)] [(2, .c (.ptr 12288 1 0))] [] ⟨rfl, rfl, rfl, rfl, rfl, trivial⟩ ⟨rfl, trivial⟩ rfl (kRet (endRetA (ra := [.agg [(.d _), (.d _), (.d _), (.d _), (.d _), (.d _), (.d _)]]) rfl ?_))))))))))))))))))) (fun g8 => kSeq (kReg (kBin rfl rfl rfl (kMovC rfl (kDone (kCondP rfl (fun g10 => kReg (kMem [(0, ⟨0, 3, .box [.d _, .d _, .d _]⟩), (16384, ⟨1, 0, .box [.arr 24576 1, .d _, .d _, .d _, .arr 24580 1, .arr 24581 1, .arr 24582 1]⟩), (24576, ⟨1, 0, .arr true _⟩), (24580, ⟨1, 0, .arr true _⟩), (24581, ⟨1, 0, .arr true _⟩), (24582, ⟨1, 0, .arr true _⟩)] [(0, .c (.ptr 0 0 0)), (36, .c (.un)), (37, .c (.un)), (3, .c (.ptr 16384 1 0)), (39, .c (.un)), (38, .c (.un))] [] ⟨rfl, rfl, rfl, rfl, rfl, rfl, trivial⟩ ⟨rfl, rfl, rfl, rfl, rfl, rfl, trivial⟩ rfl (kMovC rfl (kLitD rfl rfl rfl rfl (kCallE (ok_spec_l1PickInt _ _ (by first | assumption | omega | solve_by_elim [List.getElem_mem] | (simp only [szOut] at *; omega) | exact rfl | exact Nat.le_of_ble_eq_true rfl) (by first | assumption | omega | solve_by_elim [List.getElem_mem] | (simp only [szOut] at *; omega) | exact rfl | exact Nat.le_of_ble_eq_true rfl) (by first | assumption | omega | solve_by_elim [List.getElem_mem] | (simp only [szOut] at *; omega) | exact rfl | exact Nat.le_of_ble_eq_true rfl)) ⟨⟨rfl, _, rfl, rfl⟩, rfl, trivial⟩ rfl rfl rfl (fun _ => rfl) (fun x11 hx11 => (kFadP rfl rfl (kStoreP rfl rfl rfl rfl (kDone (kBk (kSeq (kReg (kLoadP rfl rfl rfl (kMem [(12288, ⟨1, 0, .box [.nil 1, .d _, .d _, .d _, .nil 1, .nil 1, .nil 1]⟩), (24576, ⟨1, 0, .arr true _⟩), (24580, ⟨1, 0, .arr true _⟩), (24581, ⟨1, 0, .arr true _⟩), (24582, ⟨1, 0, .arr true _⟩)] [(2, .c (.ptr 12288 1 0)), (52, .g [.arr 24576 1, .d _, .d _, .d _, .arr 24580 1, .arr 24581 1, .arr 24582 1])] [] ⟨rfl, rfl, rfl, rfl, rfl, trivial⟩ ⟨rfl, rfl, trivial⟩ rfl (kStoreP rfl rfl rfl rfl (kDone (kMem [(12288, ⟨1, 0, .box [.arr 24576 1, .d _, .d _, .d _, .arr 24580 1, .arr 24581 1, .arr 24582 1]⟩), (24576, ⟨1, 0, .arr true _⟩), (24580, ⟨1, 0, .arr true _⟩), (24581, ⟨1, 0, .arr true _⟩), (24582, ⟨1, 0, .arr true _⟩)] [(2, .c (.ptr 12288 1 0))] [] ⟨rfl, rfl, rfl, rfl, rfl, trivial⟩ ⟨rfl, trivial⟩ rfl (kRet (endRetA (ra := [.agg [(.d _), (.d _), (.d _), (.d _), (.d _), (.d _), (.d _)]]) rfl ?_))))))))))))))))))) (fun g10 => kSeq (kReg (kBin rfl rfl rfl (kMovC rfl (kDone (kCondP rfl (fun g12 => kReg (kMem [(0, ⟨0, 3, .box [.d _, .d _, .d _]⟩), (16384, ⟨1, 0, .box [.arr 24576 1, .d _, .d _, .d _, .arr 24580 1, .arr 24581 1, .arr 24582 1]⟩), (24576, ⟨1, 0, .arr true _⟩), (24580, ⟨1, 0, .arr true _⟩), (24581, ⟨1, 0, .arr true _⟩), (24582, ⟨1, 0, .arr true _⟩)] [(0, .c (.ptr 0 0 0)), (42, .c (.un)), (3, .c (.ptr 16384 1 0)), (44, .c (.un)), (43, .c (.un))] [] ⟨rfl, rfl, rfl, rfl, rfl, rfl, trivial⟩ ⟨rfl, rfl, rfl, rfl, rfl, trivial⟩ rfl (kMovC rfl (kCallE (ok_spec_l2bent _) ⟨⟨rfl, _, rfl, rfl⟩, trivial⟩ rfl rfl rfl (fun _ => rfl) (fun x13 hx13 => (kFadP rfl rfl (kStoreP rfl rfl rfl rfl (kDone (kBk (kSeq (kReg (kLoadP rfl rfl rfl (kMem [(12288, ⟨1, 0, .box [.nil 1, .d _, .d _, .d _, .nil 1, .nil 1, .nil 1]⟩), (24576, ⟨1, 0, .arr true _⟩), (24581, ⟨1, 0, .arr true _⟩), (24582, ⟨1, 0, .arr true _⟩)] [(2, .c (.ptr 12288 1 0)), (52, .g [.arr 24576 1, .d _, .d _, .d _, .d _, .arr 24581 1, .arr 24582 1])] [] ⟨rfl, rfl, rfl, rfl, trivial⟩ ⟨rfl, rfl, trivial⟩ rfl (kStoreP rfl rfl rfl rfl (kDone (kMem [(12288, ⟨1, 0, .box [.arr 24576 1, .d _, .d _, .d _, .d _, .arr 24581 1, .arr 24582 1]⟩), (24576, ⟨1, 0, .arr true _⟩), (24581, ⟨1, 0, .arr true _⟩), (24582, ⟨1, 0, .arr true _⟩)] [(2, .c (.ptr 12288 1 0))] [] ⟨rfl, rfl, rfl, rfl, trivial⟩ ⟨rfl, trivial⟩ rfl (kRet (endRetA (ra := [.agg [(.d _), (.d _), (.d _), (.d _), (.d _), (.d _), (.d _)]]) rfl ?_)))))))))))))))))) (fun g12 => kSeq (kReg (kBin rfl rfl rfl (kMovC rfl (kDone (kCondP rfl (fun g14 => kReg (kMem [(0, ⟨0, 3, .box [.d _, .d _, .d _]⟩), (16384, ⟨1, 0, .box [.arr 24576 1, .d _, .d _, .d _, .arr 24580 1, .arr 24581 1, .arr 24582 1]⟩), (24576, ⟨1, 0, .arr true _⟩), (24580, ⟨1, 0, .arr true _⟩), (24581, ⟨1, 0, .arr true _⟩), (24582, ⟨1, 0, .arr true _⟩)] [(0, .c (.ptr 0 0 0)), (47, .c (.un)), (48, .c (.un)), (49, .c (.un)), (3, .c (.ptr 16384 1 0)), (51, .c (.un)), (50, .c (.un))] [] ⟨rfl, rfl, rfl, rfl, rfl, rfl, trivial⟩ ⟨rfl, rfl, rfl, rfl, rfl, rfl, rfl, trivial⟩ rfl (kMovC rfl (kCallE (ok_spec_l1Below _ _) ⟨⟨rfl, _, rfl, rfl⟩, rfl, trivial⟩ rfl rfl rfl (fun _ => rfl) (fun x15 hx15 => (kAdd rfl rfl (by omega) ?_)))))) (fun g14 => kRegD (kMem [(16384, ⟨1, 0, .box [.arr 24576 1, .d _, .d _, .d _, .arr 24580 1, .arr 24581 1, .arr 24582 1]⟩), (0, ⟨0, 3, .box [.d _, .d _, .d _]⟩), (24576, ⟨1, 0, .arr true _⟩), (24580, ⟨1, 0, .arr true _⟩), (24581, ⟨1, 0, .arr true _⟩), (24582, ⟨1, 0, .arr true _⟩)] [(3, .c (.ptr 16384 1 0)), (10, .c (.un)), (0, .c (.ptr 0 0 0)), (12, .c (.un)), (13, .c (.un)), (11, .c (.un)), (14, .c (.un)), (16, .c (.un)), (15, .c (.un))] [] ⟨rfl, rfl, rfl, rfl, rfl, rfl, trivial⟩ ⟨rfl, rfl, rfl, rfl, rfl, rfl, rfl, rfl, rfl, trivial⟩ rfl (kFadP rfl rfl (kLoadP rfl rfl rfl (kMovC rfl (kCallE (ok_spec_l1Below _ _) ⟨⟨rfl, _, rfl, rfl⟩, rfl, trivial⟩ rfl rfl rfl (fun _ => rfl) (fun x16 hx16 => (kLitG rfl rfl rfl rfl (kRelF rfl rfl ?_)))))))))))))))))))))))))))))))))))))))))))))))))))) (fun g2 => kSkip (kSeq (kReg (kLoadP rfl rfl rfl (kMem [(12288, ⟨1, 0, .box [.nil 1, .d _, .d _, .d _, .nil 1, .nil 1, .nil 1]⟩), (24576, ⟨1, 0, .arr true _⟩), (24580, ⟨1, 0, .arr true _⟩), (24581, ⟨1, 0, .arr true _⟩), (24582, ⟨1, 0, .arr true _⟩)] [(2, .c (.ptr 12288 1 0)), (52, .g [.arr 24576 1, .d _, .d _, .d _, .arr 24580 1, .arr 24581 1, .arr 24582 1])] [] ⟨rfl, rfl, rfl, rfl, rfl, trivial⟩ ⟨rfl, rfl, trivial⟩ rfl (kStoreP rfl rfl rfl rfl (kDone (kMem [(12288, ⟨1, 0, .box [.arr 24576 1, .d _, .d _, .d _, .arr 24580 1, .arr 24581 1, .arr 24582 1]⟩), (24576, ⟨1, 0, .arr true _⟩), (24580, ⟨1, 0, .arr true _⟩), (24581, ⟨1, 0, .arr true _⟩), (24582, ⟨1, 0, .arr true _⟩)] [(2, .c (.ptr 12288 1 0))] [] ⟨rfl, rfl, rfl, rfl, rfl, trivial⟩ ⟨rfl, trivial⟩ rfl (kRet (endRetA (ra := [.agg [(.d _), (.d _), (.d _), (.d _), (.d _), (.d _), (.d _)]]) rfl ?_))))))))))))))))))))))))))))))
  · exact ⟨({ x0.1 with name := x5.1 }, x5.2), ⟨.bent hx5, hx0.small.t, hx0.small.x, hx0.small.m⟩, rfl, rfl⟩
  · exact ⟨({ x0.1 with ty := x7.1 }, x7.2), ⟨hx0.small.n, hx0.small.t, hx0.small.x, hx0.small.m⟩, rfl, rfl⟩
  · exact ⟨({ x0.1 with ttl := x9.1 }, x9.2), ⟨hx0.small.n, hx0.small.t, hx0.small.x, hx0.small.m⟩, rfl, rfl⟩
  · exact ⟨({ x0.1 with addr := x11.1 }, x11.2), ⟨hx0.small.n, hx0.small.t, hx0.small.x, hx0.small.m⟩, rfl, rfl⟩
  · exact ⟨({ x0.1 with to := x13.1 }, x13.2), ⟨hx0.small.n, .bent hx13, hx0.small.x, hx0.small.m⟩, rfl, rfl⟩
  · refine kMk rfl (by omega) rfl rfl rfl rfl rfl ?_
    rw [show DV.sl 1 (List.replicate (Int.toNat (40 + x15.1)) [.sc (.int .u8 0)]) = encB (List.replicate (Int.toNat (40 + x15.1)) 0) by simp [encB]]
    refine kFadP rfl rfl (kStoreP rfl rfl rfl rfl (kDone (kBk (kSeq (kReg (kLoadP rfl rfl rfl (kMem [(12288, ⟨1, 0, .box [.nil 1, .d _, .d _, .d _, .nil 1, .nil 1, .nil 1]⟩), (24576, ⟨1, 0, .arr true _⟩), (24580, ⟨1, 0, .arr true _⟩), (208896, ⟨1, 0, .arr true _⟩), (24582, ⟨1, 0, .arr true _⟩)] [(2, .c (.ptr 12288 1 0)), (52, .g [.arr 24576 1, .d _, .d _, .d _, .arr 24580 1, .arr 208896 1, .arr 24582 1])] [] ⟨rfl, rfl, rfl, rfl, rfl, trivial⟩ ⟨rfl, rfl, trivial⟩ rfl (kStoreP rfl rfl rfl rfl (kDone (kMem [(12288, ⟨1, 0, .box [.arr 24576 1, .d _, .d _, .d _, .arr 24580 1, .arr 208896 1, .arr 24582 1]⟩), (24576, ⟨1, 0, .arr true _⟩), (24580, ⟨1, 0, .arr true _⟩), (208896, ⟨1, 0, .arr true _⟩), (24582, ⟨1, 0, .arr true _⟩)] [(2, .c (.ptr 12288 1 0))] [] ⟨rfl, rfl, rfl, rfl, rfl, trivial⟩ ⟨rfl, trivial⟩ rfl (kRet (endRetA (ra := [.agg [(.d _), (.d _), (.d _), (.d _), (.d _), (.d _), (.d _)]]) rfl ?_))))))))))))
    exact ⟨({ x0.1 with text := List.replicate (Int.toNat (40 + x15.1)) 0 }, x15.2), ⟨hx0.small.n, hx0.small.t, show (List.replicate (Int.toNat (40 + x15.1)) (0 : UInt8)).length ≤ 4194304 from by rw [List.length_replicate]; omega, hx0.small.m⟩, rfl, rfl⟩
  · have hm := hx0.m
    refine kAppR1 (z := x16.1) rfl rfl rfl rfl rfl rfl rfl rfl (by omega) ?_
    refine kFadP rfl rfl (kRelF rfl rfl (kStoreP rfl rfl rfl rfl (kDone (kH (kBk (kSeq (kReg (kLoadP rfl rfl rfl (kMem [(12288, ⟨1, 0, .box [.nil 1, .d _, .d _, .d _, .nil 1, .nil 1, .nil 1]⟩), (24576, ⟨1, 0, .arr true _⟩), (24580, ⟨1, 0, .arr true _⟩), (24581, ⟨1, 0, .arr true _⟩), (24582, ⟨2, 0, .arr true _⟩)] [(2, .c (.ptr 12288 1 0)), (52, .g [.arr 24576 1, .d _, .d _, .d _, .arr 24580 1, .arr 24581 1, .arr 24582 2])] [] ⟨rfl, rfl, rfl, rfl, rfl, trivial⟩ ⟨rfl, rfl, trivial⟩ rfl (kStoreP rfl rfl rfl rfl (kDone (kMem [(12288, ⟨1, 0, .box [.arr 24576 1, .d _, .d _, .d _, .arr 24580 1, .arr 24581 1, .arr 24582 2]⟩), (24576, ⟨1, 0, .arr true _⟩), (24580, ⟨1, 0, .arr true _⟩), (24581, ⟨1, 0, .arr true _⟩), (24582, ⟨2, 0, .arr true _⟩)] [(2, .c (.ptr 12288 1 0))] [] ⟨rfl, rfl, rfl, rfl, rfl, trivial⟩ ⟨rfl, trivial⟩ rfl (kRet (endRetA (ra := [.agg [(.d _), (.d _), (.d _), (.d _), (.d _), (.d _), (.d _)]]) rfl ?_))))))))))))))
    exact ⟨({ x0.1 with nums := x0.1.nums ++ [x16.1] }, x16.2), ⟨hx0.small.n, hx0.small.t, hx0.small.x, show (x0.1.nums ++ [x16.1]).length ≤ 4194304 from by rw [List.length_append]; simp; omega⟩, rfl, rfl⟩
  · exact ⟨(x0.1, x1.2), hx0.small, rfl, rfl⟩

def c_spec_DrawInside : C := (.seq (.reg false (.op 0 [] (some 2) none false (.mov (.n 7))
  (.op 1 [] (some 3) none false (.alloc 3 [(.n 1)])
  .done)))
 (.seq (.reg false (.op 0 [] (some 8) none false (.mov (.t 0))
  (.op 1 [] (some 9) none false (.call 9 9 [(.t 8)])
  (.op 2 [] (some 4) none false (.mov (.t 9))
  .done))))
 (.seq (.reg false (.op 0 [] (some 5) none false (.mov (.n 7))
  .done))
 (.seq (.reg false (.op 0 [] (some 10) none false (.mov (.t 4))
  (.op 1 [] (some 11) none false (.call 11 10 [(.t 10), (.v (.int .i64 6))])
  (.op 2 [] (some 6) none false (.mov (.t 11))
  .done))))
 (.seq (.seq (.reg false (.op 0 [] (some 7) none false (.mov (.v (.int .i64 0)))
  .done))
 (.block 0 (.loop (.seq (.seq (.reg false (.op 0 [] (some 12) none false (.mov (.t 7))
  (.op 1 [] (some 13) none false (.mov (.t 6))
  (.op 2 [] (some 14) none false (.bin .lss (.t 12) (.t 13))
  .done))))
 (.cond (.t 14)
 .skip
 (.exit 0)))
 (.seq (.block 1 (.reg false (.op 0 [] (some 17) none false (.mov (.t 5))
  (.op 1 [] (some 18) none false (.mov (.t 4))
  (.op 2 [] (some 19) none false (.call 19 11 [(.t 18)])
  (.op 3 [] (some 20) none false (.lit 20 7 [(.n 1), (.v (.int .i64 0)), (.v (.int .i64 0)), (.v (.int .i64 0)), (.n 1), (.n 1), (.n 1)] 1 [(0, 7, (.t 19))])
  (.op 4 [] (some 21) none false (.app 21 7 120 (.t 17) (.t 20))
  (.op 5 [] (some 5) none false (.mov (.t 21))
  .done))))))))
 (.reg false (.op 0 [] (some 15) none false (.mov (.t 7))
  (.op 1 [] (some 16) none false (.bin .add (.t 15) (.v (.int .i64 1)))
  (.op 2 [] (some 7) none false (.mov (.t 16))
  .done)))))))))
 (.seq (.seq (.reg false (.op 0 [] (some 22) none false (.mov (.t 4))
  (.op 1 [] (some 23) none false (.call 23 12 [(.t 22), (.v (.int .i64 15))])
  .done)))
 (.cond (.t 23)
 (.reg false (.op 0 [] (some 24) none false (.mov (.t 5))
  (.op 1 [] (some 25) none false (.mov (.t 4))
  (.op 2 [] (some 26) none false (.call 26 13 [(.t 25)])
  (.op 3 [] (some 27) none false (.lit 27 7 [(.n 1), (.v (.int .i64 0)), (.v (.int .i64 0)), (.v (.int .i64 0)), (.n 1), (.n 1), (.n 1)] 1 [(0, 7, (.t 26))])
  (.op 4 [] (some 28) none false (.app 28 7 120 (.t 24) (.t 27))
  (.op 5 [] (some 5) none false (.mov (.t 28))
  .done)))))))
 .skip))
 (.seq (.reg false (.op 0 [] (some 29) none false (.mov (.t 5))
  (.op 1 [] (some 30) none false (.mov (.t 4))
  (.op 2 [] (some 31) none false (.call 31 14 [(.t 30)])
  (.op 3 [] (some 2) none false (.mov (.t 29))
  (.op 4 [] none none false (.store (some 1) (.t 3) (.t 31))
  .done))))))
 .ret)))))))
theorem dg_spec_DrawInside : Try.f4.body.bind (digC Try.prog Try.f4.ntmps []) = some c_spec_DrawInside := by kernel_rfl
theorem rs_spec_DrawInside : resSlots Try.prog Try.f4 = some [.s 2, .m 3 (some 1)] := by kernel_rfl
theorem ok_spec_DrawInside (code : List UInt8) (hb : (code.length : Int) ≤ 9223372036854775807) :
    FnOK Try.prog 4 [.one (.d (encB code))] (fun ra _ => ∃ x : List Rr × List (List UInt8), (SmallRs x.1 ∧ SmallBB x.2) ∧ ra = [.one (.d (encR x.1)), .agg [.d (encBB x.2)]]) := by
  refine FnOK.ofK Try.func4 (by kernel_rfl) dg_spec_DrawInside rs_spec_DrawInside rfl rfl ?_
  unfold c_spec_DrawInside
  refine kSeq (kReg (kMovC rfl (kAlloc rfl rfl (kDone (kSeq (kReg (kMovC rfl (kCallX false (ok_spec_l1New _ (by first | assumption | omega | solve_by_elim [List.getElem_mem] | (simp only [szOut] at *; omega) | exact rfl | exact Nat.le_of_ble_eq_true rfl)) ⟨rfl, trivial⟩ rfl (fun _ => rfl) (fun _ => rfl) (fun x0 _ hx0 => (kMovC rfl (kDone (kSeq (kReg (kMovC rfl (kDone (kSeq (kReg (kMovC rfl (kCallE (ok_spec_l1Below _ _) ⟨⟨rfl, _, rfl, rfl⟩, rfl, trivial⟩ rfl rfl rfl (fun _ => rfl) (fun x1 hx1 => (kMovC rfl (kDone (kSeq (kSeq (kReg (kMovC rfl (kDone (kBlock ?_))))))))))))))))))))))))))))
  refine kSub (Sub.nilArr (j := 5) (id := rid 5000 0) (sz := 7) rfl (by decide)) ?_
  refine kLoop (α := { L : List Rr // (L.length : Int) ≤ x1.1 ∧ ∀ r ∈ L, SmallR r } × Cu) (fun y => ⟨tabSl [(3, .c (.ptr (rid 3 0) 1 0)), (4, .c (.ptr (rid 9 0) 1 0)), (5, .c (.arr (rid 5000 0) 1)), (6, .i x1.1), (7, .i y.1.1.length)], obTab 1 [(rid 3 0, ⟨1, 0, .box [.nil 1]⟩), (rid 9 0, ⟨1, 0, .box (y.2.cells.map .d)⟩), (rid 5000 0, ⟨1, 0, .arr false (encR y.1.1)⟩)], []⟩) (fun y => x1.1.toNat - y.1.1.length) (⟨[], by simp; omega, nofun⟩, x1.2) .normA ?_
  rintro ⟨⟨L, hL, hm⟩, c⟩
  simp only
  rcases Int.lt_or_le (L.length : Int) x1.1 with hlt | hge
  · refine kSeq (kSeq (kReg (kMovC rfl (kMovC rfl (kBin rfl rfl rfl (kDone (kCondP rfl (fun g2 => kSkip (kSeq (kBlock (kReg (kMovC rfl (kMovC rfl (kCallE (ok_spec_l3draw _) ⟨⟨rfl, _, rfl, rfl⟩, trivial⟩ rfl rfl rfl (fun _ => rfl) (fun x3 hx3 => (kLitG rfl rfl rfl rfl (kAppRec rfl rfl rfl rfl rfl rfl rfl (by first | omega | (simp only [List.length_append, List.length_cons, List.length_nil]; omega)) (kMem [(20484096, ⟨2, 0, .arr false _⟩)] [(21, .c (.arr 20484096 2))] [] ⟨rfl, trivial⟩ ⟨rfl, trivial⟩ rfl (kMovC rfl (kDone (kBk (kReg (kMovC rfl (kAdd rfl rfl (by omega) (kMovC rfl (kDone ?_))))))))))))))))))) (fun g2 => (by omega)))))))))
    exact kInv ⟨(⟨L ++ [x3.1], by simp; omega, fun b hb => by
      rcases List.mem_append.1 hb with hb | hb
      · exact hm b hb
      · simp only [List.mem_singleton] at hb; subst hb; exact hx3.small⟩, x3.2), by simp; omega, .normA⟩
  · have h6 : L.length ≤ 6 := by omega
    refine kSeq (kSeq (kReg (kMovC rfl (kMovC rfl (kBin rfl rfl rfl (kDone (kCondP rfl (fun g2 => (by omega)) (fun g2 => kExit (kExC (kExI (kExB (kSeq (kSeq (kReg (kMovC rfl (kCallE (ok_spec_l1Once _ _) ⟨⟨rfl, _, rfl, rfl⟩, rfl, trivial⟩ rfl rfl rfl (fun _ => rfl) (fun x3 hx3 => (kDone (kCond rfl (fun g4 => kReg (kMovC rfl (kMovC rfl (kCallE (ok_spec_l3bent _) ⟨⟨rfl, _, rfl, rfl⟩, trivial⟩ rfl rfl rfl (fun _ => rfl) (fun x5 hx5 => (kLitG rfl rfl rfl rfl (kMem [(20484096, ⟨1, 0, .arr false _⟩), (114688, ⟨2, 0, .arr false _⟩)] [(24, .c (.arr 20484096 1)), (27, .c (.arr 114688 2))] [] ⟨rfl, rfl, trivial⟩ ⟨rfl, rfl, trivial⟩ rfl (kAppRec rfl rfl rfl rfl rfl rfl rfl (by first | omega | (simp only [List.length_append, List.length_cons, List.length_nil]; omega)) (kMovC rfl (kDone (kSeq (kReg (kMovC rfl (kMovC rfl (kCallE (ok_spec_l2bent _) ⟨⟨rfl, _, rfl, rfl⟩, trivial⟩ rfl rfl rfl (fun _ => rfl) (fun x6 hx6 => (kMovC rfl (kStoreP rfl rfl rfl rfl (kDone (kMem [(20484096, ⟨2, 0, .arr false _⟩), (16384, ⟨1, 0, .box [.d _]⟩)] [(2, .c (.arr 20484096 2)), (3, .c (.ptr 16384 1 0))] [] ⟨rfl, rfl, trivial⟩ ⟨rfl, rfl, trivial⟩ rfl (kRet (endRetA (ra := [.one (.d _), .agg [(.d _)]]) rfl ?_)))))))))))))))))))))) (fun g4 => kSkip (kSeq (kReg (kMovC rfl (kMovC rfl (kCallE (ok_spec_l2bent _) ⟨⟨rfl, _, rfl, rfl⟩, trivial⟩ rfl rfl rfl (fun _ => rfl) (fun x7 hx7 => (kMovC rfl (kStoreP rfl rfl rfl rfl (kDone (kMem [(20484096, ⟨1, 0, .arr false _⟩), (16384, ⟨1, 0, .box [.d _]⟩)] [(2, .c (.arr 20484096 1)), (3, .c (.ptr 16384 1 0))] [] ⟨rfl, rfl, trivial⟩ ⟨rfl, rfl, trivial⟩ rfl (kRet (endRetA (ra := [.one (.d _), .agg [(.d _)]]) rfl ?_))))))))))))))))))))))))))))))))
    · exact ⟨(L ++ [x5.1], x6.1), ⟨⟨by simp; omega, fun b hb => by
        rcases List.mem_append.1 hb with hb | hb
        · exact hm b hb
        · simp only [List.mem_singleton] at hb; subst hb; exact hx5⟩, .bent hx6⟩, rfl⟩
    · exact ⟨(L, x7.1), ⟨⟨by simp; omega, hm⟩, .bent hx7⟩, rfl⟩

def c_impl_within : C := (.seq (.reg false (.op 0 [] (some 6) none false (.mov (.v (.bool false)))
  .done))
 (.seq (.reg false (.op 0 [] (some 7) none false (.mov (.t 1))
  (.op 1 [] (some 8) none false (.mov (.t 0))
  (.op 2 [] (some 9) none false (.bin .leq (.t 7) (.t 8))
  (.op 3 [] (some 10) none false (.mov (.t 9))
  (.op 4 [] (some 11) (some (10, true)) false (.mov (.t 0))
  (.op 5 [] (some 12) (some (10, true)) false (.mov (.t 2))
  (.op 6 [] (some 13) (some (10, true)) false (.bin .leq (.t 11) (.t 12))
  (.op 7 [] (some 14) none false (.pick (.t 10) (.t 13) (.v (.bool false)))
  (.op 8 [] (some 6) none false (.mov (.t 14))
  .done))))))))))
 .ret))
theorem dg_impl_within : Try.f55.body.bind (digC Try.prog Try.f55.ntmps []) = some c_impl_within := by kernel_rfl
theorem rs_impl_within : resSlots Try.prog Try.f55 = some [.s 6] := by kernel_rfl
theorem ok_impl_within (n lo hi : Int) : FnOK Try.prog 55 [.one (.d (.sc (.int .i64 n))), .one (.d (.sc (.int .i64 lo))), .one (.d (.sc (.int .i64 hi)))] (fun ra _ => ra = [.one (.d (.sc (.bool (decide (lo ≤ n ∧ n ≤ hi)))))]) := by
  refine FnOK.ofK Try.func55 (by kernel_rfl) dg_impl_within rs_impl_within rfl rfl ?_
  unfold c_impl_within
  repeat' first
    | refine kSeq ?_ | refine kReg ?_ | refine kDone ?_ | refine kMovC rfl ?_ | refine kBin rfl rfl rfl ?_
    | refine kGT rfl ?_ | refine kGF rfl ?_ | refine kGU rfl ?_ | refine kG rfl (fun h => ?_) (fun h => ?_)
    | refine kPickT rfl ?_ | refine kPickF rfl ?_ | refine kPick rfl (fun h => ?_) (fun h => ?_) | refine kRet ?_
  all_goals refine endRet (ra := [.one (.d _)]) rfl ⟨⟨⟨rfl, .inl rfl⟩, trivial⟩, .nil, trivial, trivial, trivial, trivial⟩ ?_
  all_goals simp_all
  all_goals omega

def c_impl_all_byte_1 : C := (.seq (.reg false (.op 0 [] (some 3) none false (.mov (.v (.bool false)))
  .done))
 (.seq (.reg false (.op 0 [] (some 4) none false (.load none (.t 1))
  (.op 1 [] (some 5) none false (.mov (.t 0))
  (.op 2 [] (some 6) none false (.callv 6 (.t 4) [(.t 5)])
  (.op 3 [] (some 7) none false (.un .not (.t 6))
  (.op 4 [] (some 3) none false (.mov (.t 7))
  .done))))))
 .ret))
theorem dg_impl_all_byte_1 : Try.f78.body.bind (digC Try.prog Try.f78.ntmps []) = some c_impl_all_byte_1 := by kernel_rfl
theorem rs_impl_all_byte_1 : resSlots Try.prog Try.f78 = some [.s 3] := by kernel_rfl
theorem ok_impl_all_byte_1 (x : DV) (D : DV → Prop) (g : DV → Bool) (hx : D x) :
    FnOK Try.prog 78 [.one (.d x), .one (.ptr [.fv false (fcPred D g)])] (fun ra _ => ra = [.one (.d (.sc (.bool (!g x))))]) := by
  refine FnOK.ofK Try.func78 (by kernel_rfl) dg_impl_all_byte_1 rs_impl_all_byte_1 rfl rfl ?_
  unfold c_impl_all_byte_1
  refine kSeq (kReg (kMovC rfl (kDone ?_)))
  refine kSeq (kReg (kLoadC rfl rfl (kMovC rfl (kCallv rfl ⟨x, hx, rfl, rfl⟩ ⟨rfl, trivial⟩ (.inr ?_) rfl ?_ rfl ?_))))
  · rintro _ rfl; rfl
  · rintro _ rfl; exact Nat.le_of_ble_eq_true rfl
  rintro _ rfl
  refine kUn rfl rfl (kMovC rfl (kDone (kRet ?_)))
  exact endRet (ra := [.one (.d _)]) rfl ⟨⟨⟨rfl, .inl rfl⟩, trivial⟩, .nil, trivial, trivial, trivial⟩ rfl

def c_slices_IndexFunc_Lbyte_byte : C := (.seq (.reg false (.op 0 [] (some 4) none false (.mov (.v (.int .i64 0)))
  .done))
 (.seq (.seq (.reg false (.op 0 [] (some 6) none false (.mov (.t 0))
  (.op 1 [] (some 7) none false (.len (.t 6))
  (.op 2 [] (some 8) none false (.mov (.v (.int .i64 0)))
  .done))))
 (.block 0 (.loop (.seq (.reg false (.op 0 [] (some 9) none false (.bin .lss (.t 8) (.t 7))
  .done))
 (.seq (.cond (.t 9)
 .skip
 (.exit 0))
 (.seq (.block 1 (.seq (.reg false (.op 0 [] (some 10) none false (.mov (.t 8))
  (.op 1 [] (some 5) none false (.mov (.t 10))
  .done)))
 (.seq (.reg false (.op 0 [] (some 11) none false (.mov (.t 1))
  (.op 1 [] (some 12) none false (.mov (.t 0))
  (.op 2 [] (some 13) none false (.mov (.t 5))
  (.op 3 [] (some 14) none false (.iad 1 (.t 12) (.t 13))
  (.op 4 [] (some 15) none false (.load none (.t 14))
  (.op 5 [] (some 16) none false (.callv 16 (.t 11) [(.t 15)])
  .done)))))))
 (.cond (.t 16)
 (.seq (.reg false (.op 0 [] (some 17) none false (.mov (.t 5))
  (.op 1 [] (some 4) none false (.mov (.t 17))
  .done)))
 .ret)
 .skip))))
 (.reg false (.op 0 [] (some 18) none false (.bin .add (.t 8) (.v (.int .i64 1)))
  (.op 1 [] (some 8) none false (.mov (.t 18))
  .done)))))))))
 (.seq (.reg false (.op 0 [] (some 4) none false (.mov (.v (.int .i64 (-1))))
  .done))
 .ret)))
theorem dg_slices_IndexFunc_Lbyte_byte : Try.f80.body.bind (digC Try.prog Try.f80.ntmps []) = some c_slices_IndexFunc_Lbyte_byte := by kernel_rfl
theorem rs_slices_IndexFunc_Lbyte_byte : resSlots Try.prog Try.f80 = some [.s 4] := by kernel_rfl
theorem ok_slices_IndexFunc_Lbyte_byte (l : List DV) (D : DV → Prop) (g : DV → Bool) (hl : (l.length : Int) ≤ 9223372036854775807) (hD : ∀ x ∈ l, D x) :
    FnOK Try.prog 80 [.one (.d (lst l)), .one (.fv false (fcPred D g))] (fun ra _ => ra = [.one (.d (.sc (.int .i64 (idxF g l))))]) := by
  refine FnOK.ofK Try.func80 (by kernel_rfl) dg_slices_IndexFunc_Lbyte_byte rs_slices_IndexFunc_Lbyte_byte rfl rfl ?_
  unfold c_slices_IndexFunc_Lbyte_byte
  refine kSeq (kReg (kMovC rfl (kDone ?_)))
  refine kSeq (kSeq (kReg (kMovC rfl (kLen rfl rfl rfl (kMovC rfl (kDone (kBlock ?_)))))))
  rw [len_lst]
  refine kLoop (α := { i : Nat // i ≤ l.length ∧ ∀ x ∈ l.take i, g x = false })
    (fun y => ⟨tabSl [(0, .dv (lst l)), (1, .c (.fv false (fcPred D g))), (7, .i l.length), (8, .i y.1)], (St.init [.one (.d (lst l)), .one (.fv false (fcPred D g))]).ob, []⟩) (fun y => l.length - y.1) ⟨0, by simp⟩
    (.tab rfl ⟨.refl _, .refl _, .refl _, .refl _, trivial⟩) ?_
  rintro ⟨i, hi, hg⟩
  simp only
  refine kSeq (kReg (kBin rfl rfl rfl (kDone ?_)))
  refine kSeq (kCond rfl (fun h1 => ?_) (fun h1 => ?_))
  · have hlt : i < l.length := by simp at h1; omega
    refine kSkip (kSeq (kBlock (kSeq (kReg (kMovC rfl (kMovC rfl (kDone ?_)))))))
    refine kSeq (kReg (kMovC rfl (kMovC rfl (kMovC rfl (kIadD rfl rfl rfl rfl ?_ ?_)))))
    · rw [len_lst]; omega
    rw [show (lst l).row (i : Int).toNat = [l[i]] from row_lst l i hlt]
    refine kLoadD rfl rfl (kCallv rfl ⟨l[i], hD _ (List.getElem_mem hlt), rfl, rfl⟩ ⟨rfl, trivial⟩ (.inr ?_) rfl ?_ rfl ?_)
    · rintro _ rfl; rfl
    · rintro _ rfl; exact Nat.le_of_ble_eq_true rfl
    rintro _ rfl
    refine kDone (kCond rfl (fun h2 => ?_) (fun h2 => ?_))
    · refine kSeq (kReg (kMovC rfl (kMovC rfl (kDone (kRet ?_)))))
      refine endRet (ra := [.one (.d _)]) rfl ⟨⟨⟨rfl, .inl rfl⟩, trivial⟩, .nil, trivial, trivial, trivial⟩ ?_
      have : l.findIdx? g = some i := by
        rw [List.findIdx?_eq_some_iff_getElem]
        refine ⟨hlt, h2, fun j hj => ?_⟩
        simpa using hg _ (by rw [List.mem_take_iff_getElem]; exact ⟨j, by omega, rfl⟩)
      simp [idxF, this]
    · refine kSkip (kBk (kReg (kAdd rfl rfl ?_ (kMovC rfl (kDone (kInv ?_))))))
      · omega
      refine ⟨⟨i + 1, hlt, ?_⟩, by simp only; omega, .tab rfl ⟨.refl _, .refl _, .refl _, .refl _, trivial⟩⟩
      intro x hx
      rw [← List.take_append_getElem hlt, List.mem_append] at hx
      rcases hx with hx | hx
      · exact hg x hx
      · simp at hx; rw [hx]; exact h2
  · refine kExit (kExC (kExI (kExB ?_)))
    have hge : i = l.length := by simp at h1; omega
    refine kSeq (kReg (kMovC rfl (kDone (kRet ?_))))
    refine endRet (ra := [.one (.d _)]) rfl ⟨⟨⟨rfl, .inl rfl⟩, trivial⟩, .nil, trivial, trivial, trivial⟩ ?_
    have : l.findIdx? g = none := by
      rw [List.findIdx?_eq_none_iff]
      intro x hx
      rw [hge, List.take_length] at hg
      exact hg x hx
    simp [idxF, this]

def c_slices_ContainsFunc_Lbyte_byte : C := (.seq (.reg false (.op 0 [] (some 4) none false (.mov (.v (.bool false)))
  .done))
 (.seq (.reg false (.op 0 [] (some 5) none false (.mov (.t 0))
  (.op 1 [] (some 6) none false (.mov (.t 1))
  (.op 2 [] (some 7) none false (.call 7 80 [(.t 5), (.t 6)])
  (.op 3 [] (some 8) none false (.bin .geq (.t 7) (.v (.int .i64 0)))
  (.op 4 [] (some 4) none false (.mov (.t 8))
  .done))))))
 .ret))
theorem dg_slices_ContainsFunc_Lbyte_byte : Try.f77.body.bind (digC Try.prog Try.f77.ntmps []) = some c_slices_ContainsFunc_Lbyte_byte := by kernel_rfl
theorem rs_slices_ContainsFunc_Lbyte_byte : resSlots Try.prog Try.f77 = some [.s 4] := by kernel_rfl
theorem ok_slices_ContainsFunc_Lbyte_byte (l : List DV) (D : DV → Prop) (g : DV → Bool) (hl : (l.length : Int) ≤ 9223372036854775807) (hD : ∀ x ∈ l, D x) :
    FnOK Try.prog 77 [.one (.d (lst l)), .one (.fv false (fcPred D g))] (fun ra _ => ra = [.one (.d (.sc (.bool (l.any g))))]) := by
  refine FnOK.ofK Try.func77 (by kernel_rfl) dg_slices_ContainsFunc_Lbyte_byte rs_slices_ContainsFunc_Lbyte_byte rfl rfl ?_
  unfold c_slices_ContainsFunc_Lbyte_byte
  refine kSeq (kReg (kMovC rfl (kDone ?_)))
  refine kSeq (kReg (kMovC rfl (kMovC rfl ?_)))
  refine kCall1 true (ok_slices_IndexFunc_Lbyte_byte l D g hl hD) ⟨rfl, ⟨fun h => h, fun _ _ h => h⟩, trivial⟩ rfl rfl rfl fun os => ?_
  refine kBin rfl rfl rfl (kMovC rfl (kDone (kRet ?_)))
  refine endRet (ra := [.one (.d _)]) rfl ⟨⟨⟨rfl, .inl rfl⟩, trivial⟩, .nil, trivial, trivial, trivial⟩ ?_
  have : decide (idxF g l ≥ 0) = l.any g := by
    unfold idxF
    cases h : l.findIdx? g with
    | none =>
      rw [List.findIdx?_eq_none_iff] at h
      have : l.any g = false := by rw [List.any_eq_false]; intro x hx; simp [h x hx]
      rw [this]; rfl
    | some i =>
      rw [List.findIdx?_eq_some_iff_getElem] at h
      obtain ⟨h1, h2, _⟩ := h
      have : l.any g = true := by rw [List.any_eq_true]; exact ⟨_, List.getElem_mem h1, h2⟩
      rw [this]; simp
  rw [this]

def c_impl_all_byte : C := (.seq (.reg false (.op 0 [] (some 3) none false (.box 3 (.t 1))
  (.op 1 [] (some 4) none false (.mov (.v (.bool false)))
  .done)))
 (.seq (.reg false (.op 0 [] (some 5) none false (.mov (.t 0))
  (.op 1 [] (some 6) none false (.clo 78 [] [(.t 3)])
  (.op 2 [] (some 7) none false (.call 7 77 [(.t 5), (.t 6)])
  (.op 3 [] (some 8) none false (.un .not (.t 7))
  (.op 4 [] (some 4) none false (.mov (.t 8))
  .done))))))
 .ret))
theorem dg_impl_all_byte : Try.f61.body.bind (digC Try.prog Try.f61.ntmps []) = some c_impl_all_byte := by kernel_rfl
theorem rs_impl_all_byte : resSlots Try.prog Try.f61 = some [.s 4] := by kernel_rfl
theorem ok_impl_all_byte (l : List DV) (D : DV → Prop) (g : DV → Bool) (hl : (l.length : Int) ≤ 9223372036854775807) (hD : ∀ x ∈ l, D x) :
    FnOK Try.prog 61 [.one (.d (lst l)), .one (.fv false (fcPred D g))] (fun ra _ => ra = [.one (.d (.sc (.bool (l.all g))))]) := by
  refine FnOK.ofK Try.func61 (by kernel_rfl) dg_impl_all_byte rs_impl_all_byte rfl rfl ?_
  unfold c_impl_all_byte
  refine kSeq (kReg (kBox rfl rfl rfl rfl rfl (kMovC rfl (kDone ?_))))
  refine kSeq (kReg (kMovC rfl (kClo rfl rfl ?_)))
  refine kCall1 true (ok_slices_ContainsFunc_Lbyte_byte l D (fun x => !g x) hl hD) ⟨rfl, ⟨rfl, ⟨_, Try.func78, rfl, by kernel_rfl⟩, _, rfl, ?_⟩, trivial⟩ rfl rfl rfl fun os => ?_
  · rintro l R ⟨x, hx, rfl, rfl⟩
    exact ⟨by rintro _ rfl; rfl, ok_impl_all_byte_1 x D g hx⟩
  refine kUn rfl rfl (kMovC rfl (kDone (kRet ?_)))
  refine endRet (ra := [.one (.d _)]) rfl ⟨⟨⟨rfl, .inl rfl⟩, trivial⟩, .nil, trivial, trivial, trivial⟩ ?_
  simp [List.all_eq_not_any_not]

def c_impl_LabelOk_1 : C := (.seq (.reg false (.op 0 [] (some 2) none false (.mov (.v (.bool false)))
  .done))
 (.seq (.reg false (.op 0 [] (some 3) none false (.mov (.t 0))
  (.op 1 [] (some 4) none false (.bin .geq (.t 3) (.v (.int .u8 97)))
  (.op 2 [] (some 5) none false (.mov (.t 4))
  (.op 3 [] (some 6) (some (5, true)) false (.mov (.t 0))
  (.op 4 [] (some 7) (some (5, true)) false (.bin .leq (.t 6) (.v (.int .u8 122)))
  (.op 5 [] (some 8) none false (.pick (.t 5) (.t 7) (.v (.bool false)))
  (.op 6 [] (some 9) none false (.mov (.t 8))
  (.op 7 [] (some 10) (some (9, false)) false (.mov (.t 0))
  (.op 8 [] (some 11) (some (9, false)) false (.bin .geq (.t 10) (.v (.int .u8 48)))
  (.op 9 [] (some 12) (some (9, false)) false (.mov (.t 11))
  (.op 10 [] (some 13) (some (12, true)) false (.mov (.t 0))
  (.op 11 [] (some 14) (some (12, true)) false (.bin .leq (.t 13) (.v (.int .u8 57)))
  (.op 12 [] (some 15) (some (9, false)) false (.pick (.t 12) (.t 14) (.v (.bool false)))
  (.op 13 [] (some 16) none false (.pick (.t 9) (.v (.bool true)) (.t 15))
  (.op 14 [] (some 17) none false (.mov (.t 16))
  (.op 15 [] (some 18) (some (17, false)) false (.mov (.t 0))
  (.op 16 [] (some 19) (some (17, false)) false (.bin .eql (.t 18) (.v (.int .u8 45)))
  (.op 17 [] (some 20) none false (.pick (.t 17) (.v (.bool true)) (.t 19))
  (.op 18 [] (some 2) none false (.mov (.t 20))
  .done))))))))))))))))))))
 .ret))
theorem dg_impl_LabelOk_1 : Try.f62.body.bind (digC Try.prog Try.f62.ntmps []) = some c_impl_LabelOk_1 := by kernel_rfl
theorem rs_impl_LabelOk_1 : resSlots Try.prog Try.f62 = some [.s 2] := by kernel_rfl
theorem ok_impl_LabelOk_1 (b : UInt8) : FnOK Try.prog 62 [.one (.d (.sc (.int .u8 b.toNat)))] (fun ra _ => ra = [.one (.d (.sc (.bool (okLetter b))))]) := by
  refine FnOK.ofK Try.func62 (by kernel_rfl) dg_impl_LabelOk_1 rs_impl_LabelOk_1 rfl rfl ?_
  unfold c_impl_LabelOk_1
  repeat' first
    | refine kSeq ?_ | refine kReg ?_ | refine kDone ?_ | refine kMovC rfl ?_ | refine kBin rfl rfl rfl ?_
    | refine kGT rfl ?_ | refine kGF rfl ?_ | refine kGU rfl ?_ | refine kG rfl (fun h => ?_) (fun h => ?_)
    | refine kPickT rfl ?_ | refine kPickF rfl ?_ | refine kPick rfl (fun h => ?_) (fun h => ?_) | refine kRet ?_
  all_goals refine endRet (ra := [.one (.d _)]) rfl ⟨⟨⟨rfl, .inl rfl⟩, trivial⟩, .nil, trivial, trivial⟩ ?_
  all_goals simp_all [okLetter]
  all_goals first | omega | (rw [Bool.eq_iff_iff]; simp; omega)

def c_impl_LabelOk : C := (.seq (.reg false (.op 0 [] (some 2) none false (.mov (.v (.bool false)))
  .done))
 (.seq (.reg false (.op 0 [] (some 3) none false (.mov (.t 0))
  (.op 1 [] (some 4) none false (.len (.t 3))
  (.op 2 [] (some 5) none false (.call 5 55 [(.t 4), (.v (.int .i64 1)), (.v (.int .i64 15))])
  (.op 3 [] (some 6) none false (.mov (.t 5))
  (.op 4 [] (some 7) (some (6, true)) false (.mov (.t 0))
  (.op 5 [] (some 8) (some (6, true)) false (.call 8 61 [(.t 7), (.fn 62)])
  (.op 6 [] (some 9) none false (.pick (.t 6) (.t 8) (.v (.bool false)))
  (.op 7 [] (some 2) none false (.mov (.t 9))
  .done)))))))))
 .ret))
theorem dg_impl_LabelOk : Try.f34.body.bind (digC Try.prog Try.f34.ntmps []) = some c_impl_LabelOk := by kernel_rfl
theorem rs_impl_LabelOk : resSlots Try.prog Try.f34 = some [.s 2] := by kernel_rfl
theorem ok_impl_LabelOk (b : List UInt8) (hb : b.length ≤ 4194304) :
    FnOK Try.prog 34 [.one (.d (encB b))] (fun ra _ => ra = [.one (.d (.sc (.bool (labelOk b))))]) := by
  refine FnOK.ofK Try.func34 (by kernel_rfl) dg_impl_LabelOk rs_impl_LabelOk rfl rfl ?_
  unfold c_impl_LabelOk
  refine kSeq (kReg (kMovC rfl (kDone (kSeq (kReg (kMovC rfl (kLenR rfl rfl (kCallD (ok_impl_within _ _ _) ⟨rfl, rfl, rfl, trivial⟩ rfl rfl rfl rfl rfl (kMovC rfl (kGP rfl (fun g0 => kGT rfl (kMovC rfl (kGT rfl ?_))) (fun g0 => kGF rfl (kGF rfl (kPickF rfl (kMovC rfl (kMovC rfl (kDone (kRet (endRetA (ra := [.one (.d _)]) rfl ?_))))))))))))))))))
  · refine kCall1 true (ok_impl_all_byte (b.map fun b : UInt8 => .sc (.int .u8 b.toNat)) is8 (fun x => okLetter (dec8 x)) (by simp; omega) (fun x hx => by obtain ⟨c, _, rfl⟩ := List.mem_map.1 hx; exact ⟨c, rfl⟩)) ⟨congrArg some (encB_lst b), ⟨rfl, rfl, ⟨_, Try.func62, rfl, by kernel_rfl⟩, ?_⟩, trivial⟩ rfl rfl rfl (fun _ => ?_)
    · rintro _ R ⟨x, ⟨c, rfl⟩, rfl, rfl⟩
      have := ok_impl_LabelOk_1 c
      simp only [dec8_enc]
      exact this
    refine kPickT rfl (kMovC rfl (kMovC rfl (kDone (kRet (endRetA (ra := [.one (.d _)]) rfl ?_)))))
    rw [all_dec8, show labelOk b = b.all okLetter by simp only [labelOk]; rw [decide_eq_true (by omega), decide_eq_true (by omega)]; rfl]
  · rw [show labelOk b = false by simp only [labelOk]; rw [show (decide (1 ≤ b.length) && decide (b.length ≤ 15)) = false by simp; omega]; rfl]

def c_impl_all_Lbyte_1 : C := (.seq (.reg false (.op 0 [] (some 3) none false (.mov (.v (.bool false)))
  .done))
 (.seq (.reg false (.op 0 [] (some 4) none false (.load none (.t 1))
  (.op 1 [] (some 5) none false (.mov (.t 0))
  (.op 2 [] (some 6) none false (.callv 6 (.t 4) [(.t 5)])
  (.op 3 [] (some 7) none false (.un .not (.t 6))
  (.op 4 [] (some 3) none false (.mov (.t 7))
  .done))))))
 .ret))
theorem dg_impl_all_Lbyte_1 : Try.f60.body.bind (digC Try.prog Try.f60.ntmps []) = some c_impl_all_Lbyte_1 := by kernel_rfl
theorem rs_impl_all_Lbyte_1 : resSlots Try.prog Try.f60 = some [.s 3] := by kernel_rfl
theorem ok_impl_all_Lbyte_1 (x : DV) (D : DV → Prop) (g : DV → Bool) (hx : D x) :
    FnOK Try.prog 60 [.one (.d x), .one (.ptr [.fv false (fcPred D g)])] (fun ra _ => ra = [.one (.d (.sc (.bool (!g x))))]) := by
  refine FnOK.ofK Try.func60 (by kernel_rfl) dg_impl_all_Lbyte_1 rs_impl_all_Lbyte_1 rfl rfl ?_
  unfold c_impl_all_Lbyte_1
  refine kSeq (kReg (kMovC rfl (kDone ?_)))
  refine kSeq (kReg (kLoadC rfl rfl (kMovC rfl (kCallv rfl ⟨x, hx, rfl, rfl⟩ ⟨rfl, trivial⟩ (.inr ?_) rfl ?_ rfl ?_))))
  · rintro _ rfl; rfl
  · rintro _ rfl; exact Nat.le_of_ble_eq_true rfl
  rintro _ rfl
  refine kUn rfl rfl (kMovC rfl (kDone (kRet ?_)))
  exact endRet (ra := [.one (.d _)]) rfl ⟨⟨⟨rfl, .inl rfl⟩, trivial⟩, .nil, trivial, trivial, trivial⟩ rfl

def c_slices_IndexFunc_LLbyte_Lbyte : C := (.seq (.reg false (.op 0 [] (some 4) none false (.mov (.v (.int .i64 0)))
  .done))
 (.seq (.seq (.reg false (.op 0 [] (some 6) none false (.mov (.t 0))
  (.op 1 [] (some 7) none false (.len (.t 6))
  (.op 2 [] (some 8) none false (.mov (.v (.int .i64 0)))
  .done))))
 (.block 0 (.loop (.seq (.reg false (.op 0 [] (some 9) none false (.bin .lss (.t 8) (.t 7))
  .done))
 (.seq (.cond (.t 9)
 .skip
 (.exit 0))
 (.seq (.block 1 (.seq (.reg false (.op 0 [] (some 10) none false (.mov (.t 8))
  (.op 1 [] (some 5) none false (.mov (.t 10))
  .done)))
 (.seq (.reg false (.op 0 [] (some 11) none false (.mov (.t 1))
  (.op 1 [] (some 12) none false (.mov (.t 0))
  (.op 2 [] (some 13) none false (.mov (.t 5))
  (.op 3 [] (some 14) none false (.iad 1 (.t 12) (.t 13))
  (.op 4 [] (some 15) none false (.load none (.t 14))
  (.op 5 [] (some 16) none false (.callv 16 (.t 11) [(.t 15)])
  .done)))))))
 (.cond (.t 16)
 (.seq (.reg false (.op 0 [] (some 17) none false (.mov (.t 5))
  (.op 1 [] (some 4) none false (.mov (.t 17))
  .done)))
 .ret)
 .skip))))
 (.reg false (.op 0 [] (some 18) none false (.bin .add (.t 8) (.v (.int .i64 1)))
  (.op 1 [] (some 8) none false (.mov (.t 18))
  .done)))))))))
 (.seq (.reg false (.op 0 [] (some 4) none false (.mov (.v (.int .i64 (-1))))
  .done))
 .ret)))
theorem dg_slices_IndexFunc_LLbyte_Lbyte : Try.f76.body.bind (digC Try.prog Try.f76.ntmps []) = some c_slices_IndexFunc_LLbyte_Lbyte := by kernel_rfl
theorem rs_slices_IndexFunc_LLbyte_Lbyte : resSlots Try.prog Try.f76 = some [.s 4] := by kernel_rfl
theorem ok_slices_IndexFunc_LLbyte_Lbyte (l : List DV) (D : DV → Prop) (g : DV → Bool) (hl : (l.length : Int) ≤ 9223372036854775807) (hD : ∀ x ∈ l, D x) :
    FnOK Try.prog 76 [.one (.d (lst l)), .one (.fv false (fcPred D g))] (fun ra _ => ra = [.one (.d (.sc (.int .i64 (idxF g l))))]) := by
  refine FnOK.ofK Try.func76 (by kernel_rfl) dg_slices_IndexFunc_LLbyte_Lbyte rs_slices_IndexFunc_LLbyte_Lbyte rfl rfl ?_
  unfold c_slices_IndexFunc_LLbyte_Lbyte
  refine kSeq (kReg (kMovC rfl (kDone ?_)))
  refine kSeq (kSeq (kReg (kMovC rfl (kLen rfl rfl rfl (kMovC rfl (kDone (kBlock ?_)))))))
  rw [len_lst]
  refine kLoop (α := { i : Nat // i ≤ l.length ∧ ∀ x ∈ l.take i, g x = false })
    (fun y => ⟨tabSl [(0, .dv (lst l)), (1, .c (.fv false (fcPred D g))), (7, .i l.length), (8, .i y.1)], (St.init [.one (.d (lst l)), .one (.fv false (fcPred D g))]).ob, []⟩) (fun y => l.length - y.1) ⟨0, by simp⟩
    (.tab rfl ⟨.refl _, .refl _, .refl _, .refl _, trivial⟩) ?_
  rintro ⟨i, hi, hg⟩
  simp only
  refine kSeq (kReg (kBin rfl rfl rfl (kDone ?_)))
  refine kSeq (kCond rfl (fun h1 => ?_) (fun h1 => ?_))
  · have hlt : i < l.length := by simp at h1; omega
    refine kSkip (kSeq (kBlock (kSeq (kReg (kMovC rfl (kMovC rfl (kDone ?_)))))))
    refine kSeq (kReg (kMovC rfl (kMovC rfl (kMovC rfl (kIadD rfl rfl rfl rfl ?_ ?_)))))
    · rw [len_lst]; omega
    rw [show (lst l).row (i : Int).toNat = [l[i]] from row_lst l i hlt]
    refine kLoadD rfl rfl (kCallv rfl ⟨l[i], hD _ (List.getElem_mem hlt), rfl, rfl⟩ ⟨rfl, trivial⟩ (.inr ?_) rfl ?_ rfl ?_)
    · rintro _ rfl; rfl
    · rintro _ rfl; exact Nat.le_of_ble_eq_true rfl
    rintro _ rfl
    refine kDone (kCond rfl (fun h2 => ?_) (fun h2 => ?_))
    · refine kSeq (kReg (kMovC rfl (kMovC rfl (kDone (kRet ?_)))))
      refine endRet (ra := [.one (.d _)]) rfl ⟨⟨⟨rfl, .inl rfl⟩, trivial⟩, .nil, trivial, trivial, trivial⟩ ?_
      have : l.findIdx? g = some i := by
        rw [List.findIdx?_eq_some_iff_getElem]
        refine ⟨hlt, h2, fun j hj => ?_⟩
        simpa using hg _ (by rw [List.mem_take_iff_getElem]; exact ⟨j, by omega, rfl⟩)
      simp [idxF, this]
    · refine kSkip (kBk (kReg (kAdd rfl rfl ?_ (kMovC rfl (kDone (kInv ?_))))))
      · omega
      refine ⟨⟨i + 1, hlt, ?_⟩, by simp only; omega, .tab rfl ⟨.refl _, .refl _, .refl _, .refl _, trivial⟩⟩
      intro x hx
      rw [← List.take_append_getElem hlt, List.mem_append] at hx
      rcases hx with hx | hx
      · exact hg x hx
      · simp at hx; rw [hx]; exact h2
  · refine kExit (kExC (kExI (kExB ?_)))
    have hge : i = l.length := by simp at h1; omega
    refine kSeq (kReg (kMovC rfl (kDone (kRet ?_))))
    refine endRet (ra := [.one (.d _)]) rfl ⟨⟨⟨rfl, .inl rfl⟩, trivial⟩, .nil, trivial, trivial, trivial⟩ ?_
    have : l.findIdx? g = none := by
      rw [List.findIdx?_eq_none_iff]
      intro x hx
      rw [hge, List.take_length] at hg
      exact hg x hx
    simp [idxF, this]

def c_slices_ContainsFunc_LLbyte_Lbyte : C := (.seq (.reg false (.op 0 [] (some 4) none false (.mov (.v (.bool false)))
  .done))
 (.seq (.reg false (.op 0 [] (some 5) none false (.mov (.t 0))
  (.op 1 [] (some 6) none false (.mov (.t 1))
  (.op 2 [] (some 7) none false (.call 7 76 [(.t 5), (.t 6)])
  (.op 3 [] (some 8) none false (.bin .geq (.t 7) (.v (.int .i64 0)))
  (.op 4 [] (some 4) none false (.mov (.t 8))
  .done))))))
 .ret))
theorem dg_slices_ContainsFunc_LLbyte_Lbyte : Try.f59.body.bind (digC Try.prog Try.f59.ntmps []) = some c_slices_ContainsFunc_LLbyte_Lbyte := by kernel_rfl
theorem rs_slices_ContainsFunc_LLbyte_Lbyte : resSlots Try.prog Try.f59 = some [.s 4] := by kernel_rfl
theorem ok_slices_ContainsFunc_LLbyte_Lbyte (l : List DV) (D : DV → Prop) (g : DV → Bool) (hl : (l.length : Int) ≤ 9223372036854775807) (hD : ∀ x ∈ l, D x) :
    FnOK Try.prog 59 [.one (.d (lst l)), .one (.fv false (fcPred D g))] (fun ra _ => ra = [.one (.d (.sc (.bool (l.any g))))]) := by
  refine FnOK.ofK Try.func59 (by kernel_rfl) dg_slices_ContainsFunc_LLbyte_Lbyte rs_slices_ContainsFunc_LLbyte_Lbyte rfl rfl ?_
  unfold c_slices_ContainsFunc_LLbyte_Lbyte
  refine kSeq (kReg (kMovC rfl (kDone ?_)))
  refine kSeq (kReg (kMovC rfl (kMovC rfl ?_)))
  refine kCall1 true (ok_slices_IndexFunc_LLbyte_Lbyte l D g hl hD) ⟨rfl, ⟨fun h => h, fun _ _ h => h⟩, trivial⟩ rfl rfl rfl fun os => ?_
  refine kBin rfl rfl rfl (kMovC rfl (kDone (kRet ?_)))
  refine endRet (ra := [.one (.d _)]) rfl ⟨⟨⟨rfl, .inl rfl⟩, trivial⟩, .nil, trivial, trivial, trivial⟩ ?_
  have : decide (idxF g l ≥ 0) = l.any g := by
    unfold idxF
    cases h : l.findIdx? g with
    | none =>
      rw [List.findIdx?_eq_none_iff] at h
      have : l.any g = false := by rw [List.any_eq_false]; intro x hx; simp [h x hx]
      rw [this]; rfl
    | some i =>
      rw [List.findIdx?_eq_some_iff_getElem] at h
      obtain ⟨h1, h2, _⟩ := h
      have : l.any g = true := by rw [List.any_eq_true]; exact ⟨_, List.getElem_mem h1, h2⟩
      rw [this]; simp
  rw [this]

def c_impl_all_Lbyte : C := (.seq (.reg false (.op 0 [] (some 3) none false (.box 3 (.t 1))
  (.op 1 [] (some 4) none false (.mov (.v (.bool false)))
  .done)))
 (.seq (.reg false (.op 0 [] (some 5) none false (.mov (.t 0))
  (.op 1 [] (some 6) none false (.clo 60 [] [(.t 3)])
  (.op 2 [] (some 7) none false (.call 7 59 [(.t 5), (.t 6)])
  (.op 3 [] (some 8) none false (.un .not (.t 7))
  (.op 4 [] (some 4) none false (.mov (.t 8))
  .done))))))
 .ret))
theorem dg_impl_all_Lbyte : Try.f33.body.bind (digC Try.prog Try.f33.ntmps []) = some c_impl_all_Lbyte := by kernel_rfl
theorem rs_impl_all_Lbyte : resSlots Try.prog Try.f33 = some [.s 4] := by kernel_rfl
theorem ok_impl_all_Lbyte (l : List DV) (D : DV → Prop) (g : DV → Bool) (hl : (l.length : Int) ≤ 9223372036854775807) (hD : ∀ x ∈ l, D x) :
    FnOK Try.prog 33 [.one (.d (lst l)), .one (.fv false (fcPred D g))] (fun ra _ => ra = [.one (.d (.sc (.bool (l.all g))))]) := by
  refine FnOK.ofK Try.func33 (by kernel_rfl) dg_impl_all_Lbyte rs_impl_all_Lbyte rfl rfl ?_
  unfold c_impl_all_Lbyte
  refine kSeq (kReg (kBox rfl rfl rfl rfl rfl (kMovC rfl (kDone ?_))))
  refine kSeq (kReg (kMovC rfl (kClo rfl rfl ?_)))
  refine kCall1 true (ok_slices_ContainsFunc_LLbyte_Lbyte l D (fun x => !g x) hl hD) ⟨rfl, ⟨rfl, ⟨_, Try.func60, rfl, by kernel_rfl⟩, _, rfl, ?_⟩, trivial⟩ rfl rfl rfl fun os => ?_
  · rintro l R ⟨x, hx, rfl, rfl⟩
    exact ⟨by rintro _ rfl; rfl, ok_impl_all_Lbyte_1 x D g hx⟩
  refine kUn rfl rfl (kMovC rfl (kDone (kRet ?_)))
  refine endRet (ra := [.one (.d _)]) rfl ⟨⟨⟨rfl, .inl rfl⟩, trivial⟩, .nil, trivial, trivial, trivial⟩ ?_
  simp [List.all_eq_not_any_not]

def c_impl_NameOk : C := (.seq (.reg false (.op 0 [] (some 1) none false (.box 1 (.t 0))
  (.op 1 [] (some 2) none false (.mov (.v (.bool false)))
  .done)))
 (.seq (.reg false (.op 0 [] (some 3) none false (.fad (.t 1) 0)
  (.op 1 [] (some 4) none false (.load none (.t 3))
  (.op 2 [] (some 5) none false (.len (.t 4))
  (.op 3 [] (some 6) none false (.bin .leq (.t 5) (.v (.int .i64 6)))
  (.op 4 [] (some 7) none false (.mov (.t 6))
  (.op 5 [] (some 8) (some (7, true)) false (.fad (.t 1) 0)
  (.op 6 [] (some 9) (some (7, true)) false (.load none (.t 8))
  (.op 7 [] (some 10) (some (7, true)) false (.call 10 33 [(.t 9), (.fn 34)])
  (.op 8 [] (some 11) none false (.pick (.t 7) (.t 10) (.v (.bool false)))
  (.op 9 [] (some 2) none false (.mov (.t 11))
  .done)))))))))))
 .ret))
theorem dg_impl_NameOk : Try.f16.body.bind (digC Try.prog Try.f16.ntmps []) = some c_impl_NameOk := by kernel_rfl
theorem rs_impl_NameOk : resSlots Try.prog Try.f16 = some [.s 2] := by kernel_rfl
theorem ok_impl_NameOk (a : List (List UInt8)) (ha : a.length ≤ 4194304) (hb : ∀ b ∈ a, b.length ≤ 4194304) :
    FnOK Try.prog 16 [.agg [.d (encBB a)]] (fun ra _ => ra = [.one (.d (.sc (.bool (nameOk a))))]) := by
  refine FnOK.ofK Try.func16 (by kernel_rfl) dg_impl_NameOk rs_impl_NameOk rfl rfl ?_
  unfold c_impl_NameOk
  refine kSeq (kReg (kBox rfl rfl rfl rfl rfl (kMovC rfl (kDone (kSeq (kReg (kFadP rfl rfl (kLoadP rfl rfl rfl (kLenR rfl rfl (kBin rfl rfl rfl (kMovC rfl (kGP rfl (fun g0 => kGT rfl (kFadP rfl rfl (kGT rfl (kLoadP rfl rfl rfl (kGT rfl ?_))))) (fun g0 => kGF rfl (kGF rfl (kGF rfl (kPickF rfl (kMovC rfl (kMovC rfl (kDone (kRet (endRetA (ra := [.one (.d _)]) rfl ?_)))))))))))))))))))))
  · refine kCall1 true (ok_impl_all_Lbyte (a.map encB) (fun x => ∃ b : List UInt8, x = encB b ∧ b.length ≤ 4194304) (fun x => labelOk (decB x)) (by simp; omega) (fun x hx => by obtain ⟨c, h, rfl⟩ := List.mem_map.1 hx; exact ⟨c, rfl, hb c h⟩)) ⟨congrArg some (encBB_lst a), ⟨rfl, rfl, ⟨_, Try.func34, rfl, by kernel_rfl⟩, ?_⟩, trivial⟩ rfl rfl rfl (fun _ => ?_)
    · rintro _ R ⟨x, ⟨c, rfl, h⟩, rfl, rfl⟩
      have := ok_impl_LabelOk c h
      simp only [decB_enc]
      exact this
    refine kPickT rfl (kMovC rfl (kMovC rfl (kDone (kRet (endRetA (ra := [.one (.d _)]) rfl ?_)))))
    rw [all_decB, show nameOk a = a.all labelOk by simp only [nameOk]; rw [decide_eq_true (by omega)]; rfl]
  · rw [show nameOk a = false by simp only [nameOk]; rw [decide_eq_false (by omega)]; rfl]

/-- What a type is called. -/
def typeTab : List (Int × ByteArray) := [(1, ⟨#[65]⟩), (2, ⟨#[78, 83]⟩), (5, ⟨#[67, 78, 65, 77, 69]⟩), (6, ⟨#[83, 79, 65]⟩), (12, ⟨#[80, 84, 82]⟩), (16, ⟨#[84, 88, 84]⟩), (49, ⟨#[68, 72, 67, 73, 68]⟩)]
def typeNm (n : Int) : ByteArray := ((typeTab.find? fun e => n == e.1).map (·.2)).getD ByteArray.empty
theorem ok_impl_typeName (n : Int) : FnOK Try.prog 75 [.one (.d (.sc (.int .i64 n)))] (fun ra _ => ra = [.one (.d (.sc (.string (typeNm n))))]) := by
  refine FnOK.ofWalk Try.func75 rfl (by kernel_rfl) fun w => ?_
  have kk : Try.prog.underlying 3 = some (.int .i64) := by kernel_rfl
  have hmm := @Go.RowKit.run_makeMap Try.prog
  go_enter Try.func75, Try.ntmps75
  go_wp2
  have t0 : Tab (w.alloc (.map #[] 0)) w.heap.size [] := ⟨_, _, (MapKept.heap_alloc w _).1, rfl⟩
  have b0 : Go.RowKit.Below w.heap.size w (w.alloc (.map #[] 0)) := (Go.RowKit.Below.refl _ _).alloc (Nat.le_refl _) _
  have st : ∀ {w1 w2 : World}, Go.RowKit.Below w.heap.size w w1 → Ext w1 w2 (fun b => b = w.heap.size) → Go.RowKit.Below w.heap.size w w2 := fun h e => ⟨e.os.trans h.os, e.tape.trans h.tape, e.output.trans h.output, Nat.le_trans h.size e.size, fun k hk => (e.same k (Nat.lt_of_lt_of_le hk h.size) (by omega)).trans (h.block k hk)⟩
  refine upon_insert (kt := 3) (et := 9) ?_ kk t0 ?_ (fun w1 t1 e1 => ?_)
  · kernel_rfl
  · rfl
  have b1 := st b0 e1
  go_wp2
  refine upon_insert (kt := 3) (et := 9) ?_ kk t1 ?_ (fun w2 t2 e2 => ?_)
  · kernel_rfl
  · rfl
  have b2 := st b1 e2
  go_wp2
  refine upon_insert (kt := 3) (et := 9) ?_ kk t2 ?_ (fun w3 t3 e3 => ?_)
  · kernel_rfl
  · rfl
  have b3 := st b2 e3
  go_wp2
  refine upon_insert (kt := 3) (et := 9) ?_ kk t3 ?_ (fun w4 t4 e4 => ?_)
  · kernel_rfl
  · rfl
  have b4 := st b3 e4
  go_wp2
  refine upon_insert (kt := 3) (et := 9) ?_ kk t4 ?_ (fun w5 t5 e5 => ?_)
  · kernel_rfl
  · rfl
  have b5 := st b4 e5
  go_wp2
  refine upon_insert (kt := 3) (et := 9) ?_ kk t5 ?_ (fun w6 t6 e6 => ?_)
  · kernel_rfl
  · rfl
  have b6 := st b5 e6
  go_wp2
  refine upon_insert (kt := 3) (et := 9) ?_ kk t6 ?_ (fun w7 t7 e7 => ?_)
  · kernel_rfl
  · rfl
  have b7 := st b6 e7
  go_wp2
  refine upon_find (kt := 3) (et := 9) ?_ kk ?_ t7 ?_
  · kernel_rfl
  · rfl
  go_wp2
  all_goals go_ret
  exact ⟨rfl, b7⟩

theorem typeNm_ok (n : Int) : (!((typeNm n).toList == (⟨#[]⟩ : ByteArray).toList)) = tyOk n := by
  by_cases h1 : n = 1
  · subst h1; rw [ByteArray.toList_eq, ByteArray.toList_eq]; rfl
  by_cases h2 : n = 2
  · subst h2; rw [ByteArray.toList_eq, ByteArray.toList_eq]; rfl
  by_cases h3 : n = 5
  · subst h3; rw [ByteArray.toList_eq, ByteArray.toList_eq]; rfl
  by_cases h4 : n = 6
  · subst h4; rw [ByteArray.toList_eq, ByteArray.toList_eq]; rfl
  by_cases h5 : n = 12
  · subst h5; rw [ByteArray.toList_eq, ByteArray.toList_eq]; rfl
  by_cases h6 : n = 16
  · subst h6; rw [ByteArray.toList_eq, ByteArray.toList_eq]; rfl
  by_cases h7 : n = 49
  · subst h7; rw [ByteArray.toList_eq, ByteArray.toList_eq]; rfl
  have e : ∀ m : Int, n ≠ m → (n == m) = false := fun m h => by simpa using h
  have : typeNm n = ByteArray.empty := by
    unfold typeNm typeTab
    simp only [List.find?_cons, e 1 h1, e 2 h2, e 5 h3, e 6 h4, e 12 h5, e 16 h6, e 49 h7, List.find?_nil]
    rfl
  rw [this]
  simp only [tyOk, e 1 h1, e 2 h2, e 5 h3, e 6 h4, e 12 h5, e 16 h6, e 49 h7]
  rw [ByteArray.toList_eq, ByteArray.toList_eq]; rfl

def c_impl_TypeOk : C := (.seq (.reg false (.op 0 [] (some 2) none false (.mov (.v (.bool false)))
  .done))
 (.seq (.reg false (.op 0 [] (some 3) none false (.mov (.t 0))
  (.op 1 [] (some 4) none false (.call 4 75 [(.t 3)])
  (.op 2 [] (some 5) none false (.bin .neq (.t 4) (.v (.string ⟨#[]⟩)))
  (.op 3 [] (some 2) none false (.mov (.t 5))
  .done)))))
 .ret))
theorem dg_impl_TypeOk : Try.f54.body.bind (digC Try.prog Try.f54.ntmps []) = some c_impl_TypeOk := by kernel_rfl
theorem rs_impl_TypeOk : resSlots Try.prog Try.f54 = some [.s 2] := by kernel_rfl
theorem ok_impl_TypeOk (n : Int) : FnOK Try.prog 54 [.one (.d (.sc (.int .i64 n)))] (fun ra _ => ra = [.one (.d (.sc (.bool (tyOk n))))]) := by
  rw [← typeNm_ok]
  refine FnOK.ofK Try.func54 (by kernel_rfl) dg_impl_TypeOk rs_impl_TypeOk rfl rfl ?_
  unfold c_impl_TypeOk
  refine kSeq (kReg (kMovC rfl (kDone (kSeq (kReg (kMovC rfl (kCallD (ok_impl_typeName _) ⟨rfl, trivial⟩ rfl rfl rfl rfl rfl (kBin rfl rfl rfl (kMovC rfl (kDone (kRet (endRetA (ra := [.one (.d _)]) rfl rfl))))))))))))

def c_impl_isWord : C := (.seq (.reg false (.op 0 [] (some 2) none false (.mov (.v (.bool false)))
  .done))
 (.seq (.reg false (.op 0 [] (some 3) none false (.mov (.t 0))
  (.op 1 [] (some 4) none false (.call 4 55 [(.t 3), (.v (.int .i64 0)), (.v (.int .i64 4294967295))])
  (.op 2 [] (some 2) none false (.mov (.t 4))
  .done))))
 .ret))
theorem dg_impl_isWord : Try.f56.body.bind (digC Try.prog Try.f56.ntmps []) = some c_impl_isWord := by kernel_rfl
theorem rs_impl_isWord : resSlots Try.prog Try.f56 = some [.s 2] := by kernel_rfl
theorem ok_impl_isWord (n : Int) : FnOK Try.prog 56 [.one (.d (.sc (.int .i64 n)))] (fun ra _ => ra = [.one (.d (.sc (.bool (isW n))))]) := by
  refine FnOK.ofK Try.func56 (by kernel_rfl) dg_impl_isWord rs_impl_isWord rfl rfl ?_
  unfold c_impl_isWord
  refine kSeq (kReg (kMovC rfl (kDone (kSeq (kReg (kMovC rfl (kCallD (ok_impl_within _ _ _) ⟨rfl, rfl, rfl, trivial⟩ rfl rfl rfl rfl rfl (kMovC rfl (kDone (kRet (endRetA (ra := [.one (.d _)]) rfl ?_)))))))))))
  rw [show isW n = decide (0 ≤ n ∧ n ≤ 4294967295) by unfold isW; rw [Bool.eq_iff_iff]; simp; omega]

def c_impl_hasTo : C := (.seq (.reg false (.op 0 [] (some 2) none false (.mov (.v (.bool false)))
  .done))
 (.seq (.reg false (.op 0 [] (some 3) none false (.mov (.t 0))
  (.op 1 [] (some 4) none false (.bin .eql (.t 3) (.v (.int .i64 2)))
  (.op 2 [] (some 5) none false (.mov (.t 4))
  (.op 3 [] (some 6) (some (5, false)) false (.mov (.t 0))
  (.op 4 [] (some 7) (some (5, false)) false (.bin .eql (.t 6) (.v (.int .i64 5)))
  (.op 5 [] (some 8) none false (.pick (.t 5) (.v (.bool true)) (.t 7))
  (.op 6 [] (some 9) none false (.mov (.t 8))
  (.op 7 [] (some 10) (some (9, false)) false (.mov (.t 0))
  (.op 8 [] (some 11) (some (9, false)) false (.bin .eql (.t 10) (.v (.int .i64 6)))
  (.op 9 [] (some 12) none false (.pick (.t 9) (.v (.bool true)) (.t 11))
  (.op 10 [] (some 13) none false (.mov (.t 12))
  (.op 11 [] (some 14) (some (13, false)) false (.mov (.t 0))
  (.op 12 [] (some 15) (some (13, false)) false (.bin .eql (.t 14) (.v (.int .i64 12)))
  (.op 13 [] (some 16) none false (.pick (.t 13) (.v (.bool true)) (.t 15))
  (.op 14 [] (some 2) none false (.mov (.t 16))
  .done))))))))))))))))
 .ret))
theorem dg_impl_hasTo : Try.f57.body.bind (digC Try.prog Try.f57.ntmps []) = some c_impl_hasTo := by kernel_rfl
theorem rs_impl_hasTo : resSlots Try.prog Try.f57 = some [.s 2] := by kernel_rfl
theorem ok_impl_hasTo (n : Int) : FnOK Try.prog 57 [.one (.d (.sc (.int .i64 n)))] (fun ra _ => ra = [.one (.d (.sc (.bool (hasTo n))))]) := by
  refine FnOK.ofK Try.func57 (by kernel_rfl) dg_impl_hasTo rs_impl_hasTo rfl rfl ?_
  unfold c_impl_hasTo
  refine kSeq (kReg (kMovC rfl (kDone (kSeq (kReg (kMovC rfl (kBin rfl rfl rfl (kMovC rfl (kGP rfl (fun g0 => kGF rfl (kGF rfl (kPickT rfl (kMovC rfl (kMovC rfl (kGF rfl (kGF rfl (kPickT rfl (kMovC rfl (kMovC rfl (kGF rfl (kGF rfl (kPickT rfl (kMovC rfl (kMovC rfl (kDone (kRet (endRetA (ra := [.one (.d _)]) rfl ?_)))))))))))))))))) (fun g0 => kGT rfl (kMovC rfl (kGT rfl (kBin rfl rfl rfl (kPickF rfl (kMovC rfl (kMovC rfl (kGP rfl (fun g1 => kGF rfl (kGF rfl (kPickT rfl (kMovC rfl (kMovC rfl (kGF rfl (kGF rfl (kPickT rfl (kMovC rfl (kMovC rfl (kDone (kRet (endRetA (ra := [.one (.d _)]) rfl ?_))))))))))))) (fun g1 => kGT rfl (kMovC rfl (kGT rfl (kBin rfl rfl rfl (kPickF rfl (kMovC rfl (kMovC rfl (kGP rfl (fun g2 => kGF rfl (kGF rfl (kPickT rfl (kMovC rfl (kMovC rfl (kDone (kRet (endRetA (ra := [.one (.d _)]) rfl ?_)))))))) (fun g2 => kGT rfl (kMovC rfl (kGT rfl (kBin rfl rfl rfl (kPickF rfl (kMovC rfl (kMovC rfl (kDone (kRet (endRetA (ra := [.one (.d _)]) rfl ?_)))))))))))))))))))))))))))))))))))
  all_goals simp_all [hasTo]

def c_impl_hasText : C := (.seq (.reg false (.op 0 [] (some 2) none false (.mov (.v (.bool false)))
  .done))
 (.seq (.reg false (.op 0 [] (some 3) none false (.mov (.t 0))
  (.op 1 [] (some 4) none false (.bin .eql (.t 3) (.v (.int .i64 16)))
  (.op 2 [] (some 5) none false (.mov (.t 4))
  (.op 3 [] (some 6) (some (5, false)) false (.mov (.t 0))
  (.op 4 [] (some 7) (some (5, false)) false (.bin .eql (.t 6) (.v (.int .i64 49)))
  (.op 5 [] (some 8) none false (.pick (.t 5) (.v (.bool true)) (.t 7))
  (.op 6 [] (some 2) none false (.mov (.t 8))
  .done))))))))
 .ret))
theorem dg_impl_hasText : Try.f58.body.bind (digC Try.prog Try.f58.ntmps []) = some c_impl_hasText := by kernel_rfl
theorem rs_impl_hasText : resSlots Try.prog Try.f58 = some [.s 2] := by kernel_rfl
theorem ok_impl_hasText (n : Int) : FnOK Try.prog 58 [.one (.d (.sc (.int .i64 n)))] (fun ra _ => ra = [.one (.d (.sc (.bool (hasText n))))]) := by
  refine FnOK.ofK Try.func58 (by kernel_rfl) dg_impl_hasText rs_impl_hasText rfl rfl ?_
  unfold c_impl_hasText
  refine kSeq (kReg (kMovC rfl (kDone (kSeq (kReg (kMovC rfl (kBin rfl rfl rfl (kMovC rfl (kGP rfl (fun g0 => kGF rfl (kGF rfl (kPickT rfl (kMovC rfl (kMovC rfl (kDone (kRet (endRetA (ra := [.one (.d _)]) rfl ?_)))))))) (fun g0 => kGT rfl (kMovC rfl (kGT rfl (kBin rfl rfl rfl (kPickF rfl (kMovC rfl (kMovC rfl (kDone (kRet (endRetA (ra := [.one (.d _)]) rfl ?_)))))))))))))))))))
  all_goals simp_all [hasText]

def c_impl_RrOk : C := (.seq (.reg false (.op 0 [] (some 1) none false (.box 1 (.t 0))
  (.op 1 [] (some 2) none false (.mov (.v (.bool false)))
  .done)))
 (.seq (.seq (.reg false (.op 0 [] (some 7) none false (.fad (.t 1) 0)
  (.op 1 [] (some 8) none false (.load (some 1) (.t 7))
  (.op 2 [] (some 9) none false (.call 9 16 [(.t 8)])
  (.op 3 [] (some 10) none false (.un .not (.t 9))
  (.op 4 [] (some 11) none false (.mov (.t 10))
  (.op 5 [] (some 12) (some (11, false)) false (.fad (.t 1) 1)
  (.op 6 [] (some 13) (some (11, false)) false (.load none (.t 12))
  (.op 7 [] (some 14) (some (11, false)) false (.call 14 54 [(.t 13)])
  (.op 8 [] (some 15) (some (11, false)) false (.un .not (.t 14))
  (.op 9 [] (some 16) none false (.pick (.t 11) (.v (.bool true)) (.t 15))
  (.op 10 [] (some 17) none false (.mov (.t 16))
  (.op 11 [] (some 18) (some (17, false)) false (.fad (.t 1) 2)
  (.op 12 [] (some 19) (some (17, false)) false (.load none (.t 18))
  (.op 13 [] (some 20) (some (17, false)) false (.call 20 55 [(.t 19), (.v (.int .i64 0)), (.v (.int .i64 100000))])
  (.op 14 [] (some 21) (some (17, false)) false (.un .not (.t 20))
  (.op 15 [] (some 22) none false (.pick (.t 17) (.v (.bool true)) (.t 21))
  .done)))))))))))))))))
 (.cond (.t 22)
 (.seq (.reg false (.op 0 [] (some 2) none false (.mov (.v (.bool false)))
  .done))
 .ret)
 .skip))
 (.seq (.reg false (.op 0 [] (some 23) none false (.fad (.t 1) 6)
  (.op 1 [] (some 24) none false (.load none (.t 23))
  (.op 2 [] (some 25) none false (.len (.t 24))
  (.op 3 [] (some 26) none false (.bin .eql (.t 25) (.v (.int .i64 0)))
  (.op 4 [] (some 3) none false (.mov (.t 26))
  .done))))))
 (.seq (.seq (.reg false (.op 0 [] (some 27) none false (.fad (.t 1) 1)
  (.op 1 [] (some 28) none false (.load none (.t 27))
  (.op 2 [] (some 29) none false (.bin .eql (.t 28) (.v (.int .i64 6)))
  .done))))
 (.cond (.t 29)
 (.reg false (.op 0 [] (some 30) none false (.fad (.t 1) 6)
  (.op 1 [] (some 31) none false (.load none (.t 30))
  (.op 2 [] (some 32) none false (.len (.t 31))
  (.op 3 [] (some 33) none false (.bin .eql (.t 32) (.v (.int .i64 2)))
  (.op 4 [] (some 34) none false (.mov (.t 33))
  (.op 5 [] (some 35) (some (34, true)) false (.fad (.t 1) 6)
  (.op 6 [] (some 36) (some (34, true)) false (.load none (.t 35))
  (.op 7 [] (some 37) (some (34, true)) false (.iad 1 (.t 36) (.v (.int .i64 0)))
  (.op 8 [] (some 38) (some (34, true)) false (.load none (.t 37))
  (.op 9 [] (some 39) (some (34, true)) false (.call 39 56 [(.t 38)])
  (.op 10 [] (some 40) none false (.pick (.t 34) (.t 39) (.v (.bool false)))
  (.op 11 [] (some 41) none false (.mov (.t 40))
  (.op 12 [] (some 42) (some (41, true)) false (.fad (.t 1) 6)
  (.op 13 [] (some 43) (some (41, true)) false (.load none (.t 42))
  (.op 14 [] (some 44) (some (41, true)) false (.iad 1 (.t 43) (.v (.int .i64 1)))
  (.op 15 [] (some 45) (some (41, true)) false (.load none (.t 44))
  (.op 16 [] (some 46) (some (41, true)) false (.call 46 55 [(.t 45), (.v (.int .i64 0)), (.v (.int .i64 100000))])
  (.op 17 [] (some 47) none false (.pick (.t 41) (.t 46) (.v (.bool false)))
  (.op 18 [] (some 3) none false (.mov (.t 47))
  .done))))))))))))))))))))
 .skip))
 (.seq (.reg false (.op 0 [] (some 48) none false (.fad (.t 1) 3)
  (.op 1 [] (some 49) none false (.load none (.t 48))
  (.op 2 [] (some 50) none false (.bin .eql (.t 49) (.v (.int .i64 0)))
  (.op 3 [] (some 51) none false (.mov (.t 50))
  (.op 4 [] (some 52) (some (51, false)) false (.fad (.t 1) 1)
  (.op 5 [] (some 53) (some (51, false)) false (.load none (.t 52))
  (.op 6 [] (some 54) (some (51, false)) false (.bin .eql (.t 53) (.v (.int .i64 1)))
  (.op 7 [] (some 55) (some (51, false)) false (.mov (.t 54))
  (.op 8 [] (some 56) (some (55, true)) false (.fad (.t 1) 3)
  (.op 9 [] (some 57) (some (55, true)) false (.load none (.t 56))
  (.op 10 [] (some 58) (some (55, true)) false (.call 58 56 [(.t 57)])
  (.op 11 [] (some 59) (some (51, false)) false (.pick (.t 55) (.t 58) (.v (.bool false)))
  (.op 12 [] (some 60) none false (.pick (.t 51) (.v (.bool true)) (.t 59))
  (.op 13 [] (some 4) none false (.mov (.t 60))
  .done)))))))))))))))
 (.seq (.reg false (.op 0 [] (some 61) none false (.fad (.t 1) 4)
  (.op 1 [] (some 62) none false (.fad (.t 61) 0)
  (.op 2 [] (some 63) none false (.load none (.t 62))
  (.op 3 [] (some 64) none false (.len (.t 63))
  (.op 4 [] (some 65) none false (.bin .eql (.t 64) (.v (.int .i64 0)))
  (.op 5 [] (some 66) none false (.mov (.t 65))
  (.op 6 [] (some 67) (some (66, false)) false (.fad (.t 1) 1)
  (.op 7 [] (some 68) (some (66, false)) false (.load none (.t 67))
  (.op 8 [] (some 69) (some (66, false)) false (.call 69 57 [(.t 68)])
  (.op 9 [] (some 70) (some (66, false)) false (.mov (.t 69))
  (.op 10 [] (some 71) (some (70, true)) false (.fad (.t 1) 4)
  (.op 11 [] (some 72) (some (70, true)) false (.load (some 1) (.t 71))
  (.op 12 [] (some 73) (some (70, true)) false (.call 73 16 [(.t 72)])
  (.op 13 [] (some 74) (some (66, false)) false (.pick (.t 70) (.t 73) (.v (.bool false)))
  (.op 14 [] (some 75) none false (.pick (.t 66) (.v (.bool true)) (.t 74))
  (.op 15 [] (some 5) none false (.mov (.t 75))
  .done)))))))))))))))))
 (.seq (.reg false (.op 0 [] (some 76) none false (.fad (.t 1) 5)
  (.op 1 [] (some 77) none false (.load none (.t 76))
  (.op 2 [] (some 78) none false (.len (.t 77))
  (.op 3 [] (some 79) none false (.bin .eql (.t 78) (.v (.int .i64 0)))
  (.op 4 [] (some 80) none false (.mov (.t 79))
  (.op 5 [] (some 81) (some (80, false)) false (.fad (.t 1) 1)
  (.op 6 [] (some 82) (some (80, false)) false (.load none (.t 81))
  (.op 7 [] (some 83) (some (80, false)) false (.call 83 58 [(.t 82)])
  (.op 8 [] (some 84) (some (80, false)) false (.mov (.t 83))
  (.op 9 [] (some 85) (some (84, true)) false (.fad (.t 1) 5)
  (.op 10 [] (some 86) (some (84, true)) false (.load none (.t 85))
  (.op 11 [] (some 87) (some (84, true)) false (.len (.t 86))
  (.op 12 [] (some 88) (some (84, true)) false (.bin .leq (.t 87) (.v (.int .i64 40)))
  (.op 13 [] (some 89) (some (80, false)) false (.pick (.t 84) (.t 88) (.v (.bool false)))
  (.op 14 [] (some 90) none false (.pick (.t 80) (.v (.bool true)) (.t 89))
  (.op 15 [] (some 6) none false (.mov (.t 90))
  .done)))))))))))))))))
 (.seq (.reg false (.op 0 [] (some 91) none false (.mov (.t 3))
  (.op 1 [] (some 92) none false (.mov (.t 91))
  (.op 2 [] (some 93) (some (92, true)) false (.mov (.t 4))
  (.op 3 [] (some 94) none false (.pick (.t 92) (.t 93) (.v (.bool false)))
  (.op 4 [] (some 95) none false (.mov (.t 94))
  (.op 5 [] (some 96) (some (95, true)) false (.mov (.t 5))
  (.op 6 [] (some 97) none false (.pick (.t 95) (.t 96) (.v (.bool false)))
  (.op 7 [] (some 98) none false (.mov (.t 97))
  (.op 8 [] (some 99) (some (98, true)) false (.mov (.t 6))
  (.op 9 [] (some 100) none false (.pick (.t 98) (.t 99) (.v (.bool false)))
  (.op 10 [] (some 2) none false (.mov (.t 100))
  .done))))))))))))
 .ret))))))))
theorem dg_impl_RrOk : Try.f32.body.bind (digC Try.prog Try.f32.ntmps []) = some c_impl_RrOk := by kernel_rfl
theorem rs_impl_RrOk : resSlots Try.prog Try.f32 = some [.s 2] := by kernel_rfl
theorem ok_impl_RrOk (r : Rr) (hs : SmallR r) :
    FnOK Try.prog 32 [.agg (r.cells.map .d)] (fun ra _ => ra = [.one (.d (.sc (.bool (rrOk r))))]) := by
  refine FnOK.ofK Try.func32 (by kernel_rfl) dg_impl_RrOk rs_impl_RrOk rfl rfl ?_
  unfold c_impl_RrOk
  have n1 := hs.n.len
  have n2 := hs.n.mem
  have t1 := hs.t.len
  have t2 := hs.t.mem
  have x1 := hs.x
  have m1 := hs.m
  refine kSeq (kReg (kBox rfl rfl rfl rfl rfl (kMovC rfl (kDone ?_))))
  by_cases h0 : nameOk r.name = true ∧ tyOk r.ty = true ∧ (0 ≤ r.ttl ∧ r.ttl ≤ 100000)
  case neg =>
    rw [show rrOk r = false by simp only [rrOk]; revert h0; cases nameOk r.name <;> cases tyOk r.ty <;> simp <;> intros <;> omega]
    refine kSeq ?_
    cases h1 : nameOk r.name
    case false => refine kSeq (kReg (kFadP rfl rfl (kLoadP rfl rfl rfl (kCallD (ok_impl_NameOk _ (by first | assumption | omega | solve_by_elim [List.getElem_mem] | (simp only [szOut] at *; omega)) (by first | assumption | omega | solve_by_elim [List.getElem_mem] | (simp only [szOut] at *; omega))) ⟨⟨⟨rfl, trivial⟩, Nat.le_of_ble_eq_true rfl⟩, trivial⟩ rfl rfl rfl rfl rfl (kUn rfl rfl (kMovC rfl (kGN rfl (fun g0 => kGF rfl (kGF rfl (kGF rfl (kGF rfl (kPickT rfl (kMovC rfl (kMovC rfl (kGF rfl (kGF rfl (kGF rfl (kGF rfl (kPickT rfl (kMovC rfl (kDone (kCondT rfl (kSeq (kReg (kMovC rfl (kDone (kRet (endRetA (ra := [.one (.d _)]) rfl rfl))))))))))))))))))))) (fun g0 => (by (simp [*] at g0))))))))))
    cases h2 : tyOk r.ty
    case false => refine kSeq (kReg (kFadP rfl rfl (kLoadP rfl rfl rfl (kCallD (ok_impl_NameOk _ (by first | assumption | omega | solve_by_elim [List.getElem_mem] | (simp only [szOut] at *; omega)) (by first | assumption | omega | solve_by_elim [List.getElem_mem] | (simp only [szOut] at *; omega))) ⟨⟨⟨rfl, trivial⟩, Nat.le_of_ble_eq_true rfl⟩, trivial⟩ rfl rfl rfl rfl rfl (kUn rfl rfl (kMovC rfl (kGN rfl (fun g0 => (by (simp [*] at g0))) (fun g0 => kGT rfl (kFadP rfl rfl (kGT rfl (kLoadP rfl rfl rfl (kGT rfl (kCallD (ok_impl_TypeOk _) ⟨rfl, trivial⟩ rfl rfl rfl rfl rfl (kGT rfl (kUn rfl rfl (kPickF rfl (kMovC rfl (kMovC rfl (kGN rfl (fun g1 => kGF rfl (kGF rfl (kGF rfl (kGF rfl (kPickT rfl (kMovC rfl (kDone (kCondT rfl (kSeq (kReg (kMovC rfl (kDone (kRet (endRetA (ra := [.one (.d _)]) rfl rfl)))))))))))))) (fun g1 => (by (simp [*] at g1))))))))))))))))))))))
    have h3 : ¬ (0 ≤ r.ttl ∧ r.ttl ≤ 100000) := fun h => h0 ⟨h1, h2, h⟩
    refine kSeq (kReg (kFadP rfl rfl (kLoadP rfl rfl rfl (kCallD (ok_impl_NameOk _ (by first | assumption | omega | solve_by_elim [List.getElem_mem] | (simp only [szOut] at *; omega)) (by first | assumption | omega | solve_by_elim [List.getElem_mem] | (simp only [szOut] at *; omega))) ⟨⟨⟨rfl, trivial⟩, Nat.le_of_ble_eq_true rfl⟩, trivial⟩ rfl rfl rfl rfl rfl (kUn rfl rfl (kMovC rfl (kGN rfl (fun g0 => (by (simp [*] at g0))) (fun g0 => kGT rfl (kFadP rfl rfl (kGT rfl (kLoadP rfl rfl rfl (kGT rfl (kCallD (ok_impl_TypeOk _) ⟨rfl, trivial⟩ rfl rfl rfl rfl rfl (kGT rfl (kUn rfl rfl (kPickF rfl (kMovC rfl (kMovC rfl (kGN rfl (fun g1 => (by (simp [*] at g1))) (fun g1 => kGT rfl (kFadP rfl rfl (kGT rfl (kLoadP rfl rfl rfl (kGT rfl (kCallD (ok_impl_within _ _ _) ⟨rfl, rfl, rfl, trivial⟩ rfl rfl rfl rfl rfl (kGT rfl (kUn rfl rfl (kPickF rfl (kMovC rfl (kDone (kCondN rfl (fun g2 => kSeq (kReg (kMovC rfl (kDone (kRet (endRetA (ra := [.one (.d _)]) rfl rfl)))))) (fun g2 => (by (simp [*] at g2))))))))))))))))))))))))))))))))))
  obtain ⟨h1, h2, h3⟩ := h0
  rw [show rrOk r = dataOk r by simp only [rrOk]; rw [h1, h2, decide_eq_true h3.1, decide_eq_true h3.2]; rfl]
  refine kSeq (kCut ⟨tabSl [(1, .c (.ptr (rid 1 0) 1 0))], obTab 1 [(rid 1 0, ⟨1, 0, .box (r.cells.map .d)⟩)], []⟩ ?_ (fun x hc => ?_))
  case refine_2 =>
    refine kSeq (kReg (kFadP rfl rfl (kLoadP rfl rfl rfl (kCallD (ok_impl_NameOk _ (by first | assumption | omega | solve_by_elim [List.getElem_mem] | (simp only [szOut] at *; omega)) (by first | assumption | omega | solve_by_elim [List.getElem_mem] | (simp only [szOut] at *; omega))) ⟨⟨⟨rfl, trivial⟩, Nat.le_of_ble_eq_true rfl⟩, trivial⟩ rfl rfl rfl rfl rfl (kUn rfl rfl (kMovC rfl (kGN rfl (fun g0 => (by (simp [*] at g0))) (fun g0 => kGT rfl (kFadP rfl rfl (kGT rfl (kLoadP rfl rfl rfl (kGT rfl (kCallD (ok_impl_TypeOk _) ⟨rfl, trivial⟩ rfl rfl rfl rfl rfl (kGT rfl (kUn rfl rfl (kPickF rfl (kMovC rfl (kMovC rfl (kGN rfl (fun g1 => (by (simp [*] at g1))) (fun g1 => kGT rfl (kFadP rfl rfl (kGT rfl (kLoadP rfl rfl rfl (kGT rfl (kCallD (ok_impl_within _ _ _) ⟨rfl, rfl, rfl, trivial⟩ rfl rfl rfl rfl rfl (kGT rfl (kUn rfl rfl (kPickF rfl (kMovC rfl (kDone (kCondN rfl (fun g2 => (by (simp [*] at g2))) (fun g2 => kSkip (hc _ .normA)))))))))))))))))))))))))))))))))
  refine kSeq (kCut ⟨tabSl [(1, .c (.ptr (rid 1 0) 1 0)), (3, .b (((r.nums.length : Int) == 0)))], obTab 1 [(rid 1 0, ⟨1, 0, .box (r.cells.map .d)⟩)], []⟩ ?_ (fun x hc => ?_))
  case refine_2 => refine kReg (kFadP rfl rfl (kLoadP rfl rfl rfl (kLenR rfl rfl (kBin rfl rfl rfl (kMovC rfl (kDone (hc _ .normA)))))))
  refine kSeq (kCut ⟨tabSl [(1, .c (.ptr (rid 1 0) 1 0)), (3, .b ((if r.ty == 6 then numsOk r.nums else ((r.nums.length : Int) == 0))))], obTab 1 [(rid 1 0, ⟨1, 0, .box (r.cells.map .d)⟩)], []⟩ ?_ (fun x hc => ?_))
  case refine_2 =>
    refine kSeq (kReg (kFadP rfl rfl (kLoadP rfl rfl rfl (kBin rfl rfl rfl (kDone (kCondP rfl (fun g0 => kReg (kFadP rfl rfl (kLoadP rfl rfl rfl (kLenR rfl rfl (kBin rfl rfl rfl (kMovC rfl (kGP rfl (fun g1 => kGT rfl (kFadP rfl rfl (kGT rfl (kLoadP rfl rfl rfl (kGT rfl (kIadR rfl rfl rfl (by omega) (kGT rfl (kLoadD rfl rfl (kGT rfl (kCallD (ok_impl_isWord _) ⟨rfl, trivial⟩ rfl rfl rfl rfl rfl (kPickT rfl (kMovC rfl (kMovC rfl (kGS rfl (fun g2 => kGT rfl (kFadP rfl rfl (kGT rfl (kLoadP rfl rfl rfl (kGT rfl (kIadR rfl rfl rfl (by omega) (kGT rfl (kLoadD rfl rfl (kGT rfl (kCallD (ok_impl_within _ _ _) ⟨rfl, rfl, rfl, trivial⟩ rfl rfl rfl rfl rfl (kPickT rfl (kMovC rfl (kMovC rfl (kDone (hc _ .normA))))))))))))))) (fun g2 => kGF rfl (kGF rfl (kGF rfl (kGF rfl (kGF rfl (kPickF rfl (kMovC rfl (kMovC rfl (kDone (hc _ .normA)))))))))))))))))))))))) (fun g1 => kGF rfl (kGF rfl (kGF rfl (kGF rfl (kGF rfl (kPickF rfl (kMovC rfl (kMovC rfl (kGF rfl (kGF rfl (kGF rfl (kGF rfl (kGF rfl (kPickF rfl (kMovC rfl (kMovC rfl (kDone (hc _ .normA))))))))))))))))))))))))) (fun g0 => kSkip (hc _ .normA))))))))
  refine kSeq (kCut ⟨tabSl [(1, .c (.ptr (rid 1 0) 1 0)), (3, .b ((if r.ty == 6 then numsOk r.nums else ((r.nums.length : Int) == 0)))), (4, .b ((if r.ty == 1 then isW r.addr else r.addr == 0)))], obTab 1 [(rid 1 0, ⟨1, 0, .box (r.cells.map .d)⟩)], []⟩ ?_ (fun x hc => ?_))
  case refine_2 =>
    refine kReg (kFadP rfl rfl (kLoadP rfl rfl rfl (kBin rfl rfl rfl (kMovC rfl (kGP rfl (fun g0 => kGF rfl (kGF rfl (kGF rfl (kGF rfl (kGU rfl (kGU rfl (kGU rfl (kGF rfl (kPickT rfl (kMovC rfl (kMovC rfl (kDone (hc _ .normA))))))))))))) (fun g0 => kGT rfl (kFadP rfl rfl (kGT rfl (kLoadP rfl rfl rfl (kGT rfl (kBin rfl rfl rfl (kGT rfl (kMovC rfl (kGP rfl (fun g1 => kGT rfl (kFadP rfl rfl (kGT rfl (kLoadP rfl rfl rfl (kGT rfl (kCallD (ok_impl_isWord _) ⟨rfl, trivial⟩ rfl rfl rfl rfl rfl (kGT rfl (kPickT rfl (kMovC rfl (kPickF rfl (kMovC rfl (kMovC rfl (kDone (hc _ .normA)))))))))))))) (fun g1 => kGF rfl (kGF rfl (kGF rfl (kGT rfl (kPickF rfl (kMovC rfl (kPickF rfl (kMovC rfl (kMovC rfl (kDone (hc _ .normA)))))))))))))))))))))))))
  refine kSeq (kCut ⟨tabSl [(1, .c (.ptr (rid 1 0) 1 0)), (3, .b ((if r.ty == 6 then numsOk r.nums else ((r.nums.length : Int) == 0)))), (4, .b ((if r.ty == 1 then isW r.addr else r.addr == 0))), (5, .b ((if hasTo r.ty then nameOk r.to else ((r.to.length : Int) == 0))))], obTab 1 [(rid 1 0, ⟨1, 0, .box (r.cells.map .d)⟩)], []⟩ ?_ (fun x hc => ?_))
  case refine_2 =>
    refine kReg (kFadP rfl rfl (kFadP rfl rfl (kLoadP rfl rfl rfl (kLenR rfl rfl (kBin rfl rfl rfl (kMovC rfl (kGP rfl (fun g0 => kGF rfl (kGF rfl (kGF rfl (kGF rfl (kGU rfl (kGU rfl (kGU rfl (kGF rfl (kPickT rfl (kMovC rfl (kMovC rfl (kDone (hc _ .normA))))))))))))) (fun g0 => kGT rfl (kFadP rfl rfl (kGT rfl (kLoadP rfl rfl rfl (kGT rfl (kCallD (ok_impl_hasTo _) ⟨rfl, trivial⟩ rfl rfl rfl rfl rfl (kGT rfl (kMovC rfl (kGS rfl (fun g1 => kGT rfl (kFadP rfl rfl (kGT rfl (kLoadP rfl rfl rfl (kGT rfl (kCallD (ok_impl_NameOk _ (by first | assumption | omega | solve_by_elim [List.getElem_mem] | (simp only [szOut] at *; omega)) (by first | assumption | omega | solve_by_elim [List.getElem_mem] | (simp only [szOut] at *; omega))) ⟨⟨⟨rfl, trivial⟩, Nat.le_of_ble_eq_true rfl⟩, trivial⟩ rfl rfl rfl rfl rfl (kGT rfl (kPickT rfl (kMovC rfl (kPickF rfl (kMovC rfl (kMovC rfl (kDone (hc _ .normA)))))))))))))) (fun g1 => kGF rfl (kGF rfl (kGF rfl (kGT rfl (kPickF rfl (kMovC rfl (kPickF rfl (kMovC rfl (kMovC rfl (kDone (hc _ .normA)))))))))))))))))))))))))))
  refine kSeq (kCut ⟨tabSl [(1, .c (.ptr (rid 1 0) 1 0)), (3, .b ((if r.ty == 6 then numsOk r.nums else ((r.nums.length : Int) == 0)))), (4, .b ((if r.ty == 1 then isW r.addr else r.addr == 0))), (5, .b ((if hasTo r.ty then nameOk r.to else ((r.to.length : Int) == 0)))), (6, .b ((if hasText r.ty then decide ((r.text.length : Int) ≤ 40) else ((r.text.length : Int) == 0))))], obTab 1 [(rid 1 0, ⟨1, 0, .box (r.cells.map .d)⟩)], []⟩ ?_ (fun x hc => ?_))
  case refine_2 =>
    refine kReg (kFadP rfl rfl (kLoadP rfl rfl rfl (kLenR rfl rfl (kBin rfl rfl rfl (kMovC rfl (kGP rfl (fun g0 => kGF rfl (kGF rfl (kGF rfl (kGF rfl (kGU rfl (kGU rfl (kGU rfl (kGU rfl (kGF rfl (kPickT rfl (kMovC rfl (kMovC rfl (kDone (hc _ .normA)))))))))))))) (fun g0 => kGT rfl (kFadP rfl rfl (kGT rfl (kLoadP rfl rfl rfl (kGT rfl (kCallD (ok_impl_hasText _) ⟨rfl, trivial⟩ rfl rfl rfl rfl rfl (kGT rfl (kMovC rfl (kGS rfl (fun g1 => kGT rfl (kFadP rfl rfl (kGT rfl (kLoadP rfl rfl rfl (kGT rfl (kLenR rfl rfl (kGT rfl (kBin rfl rfl rfl (kGT rfl (kPickT rfl (kMovC rfl (kPickF rfl (kMovC rfl (kMovC rfl (kDone (hc _ .normA)))))))))))))))) (fun g1 => kGF rfl (kGF rfl (kGF rfl (kGF rfl (kGT rfl (kPickF rfl (kMovC rfl (kPickF rfl (kMovC rfl (kMovC rfl (kDone (hc _ .normA)))))))))))))))))))))))))))
  refine kSeq (kReg (kMovC rfl (kMovC rfl (kGS rfl (fun g0 => kGT rfl (kMovC rfl (kPickT rfl (kMovC rfl (kMovC rfl (kGS rfl (fun g1 => kGT rfl (kMovC rfl (kPickT rfl (kMovC rfl (kMovC rfl (kGS rfl (fun g2 => kGT rfl (kMovC rfl (kPickT rfl (kMovC rfl (kMovC rfl (kDone (kRet (endRetA (ra := [.one (.d _)]) rfl ?_)))))))) (fun g2 => kGF rfl (kPickF rfl (kMovC rfl (kMovC rfl (kDone (kRet (endRetA (ra := [.one (.d _)]) rfl ?_))))))))))))) (fun g1 => kGF rfl (kPickF rfl (kMovC rfl (kMovC rfl (kGF rfl (kPickF rfl (kMovC rfl (kMovC rfl (kDone (kRet (endRetA (ra := [.one (.d _)]) rfl ?_))))))))))))))))) (fun g0 => kGF rfl (kPickF rfl (kMovC rfl (kMovC rfl (kGF rfl (kPickF rfl (kMovC rfl (kMovC rfl (kGF rfl (kPickF rfl (kMovC rfl (kMovC rfl (kDone (kRet (endRetA (ra := [.one (.d _)]) rfl ?_)))))))))))))))))))
  all_goals simp only [dataOk, *, Bool.true_and, Bool.false_and, Bool.and_true, Bool.and_false]

def c_impl_all_impl_Rr_1 : C := (.seq (.reg false (.op 0 [] (some 2) none false (.box 2 (.t 0))
  (.op 1 [] (some 3) none false (.mov (.v (.bool false)))
  .done)))
 (.seq (.reg false (.op 0 [] (some 4) none false (.load none (.t 1))
  (.op 1 [] (some 5) none false (.load (some 7) (.t 2))
  (.op 2 [] (some 6) none false (.callv 6 (.t 4) [(.t 5)])
  (.op 3 [] (some 7) none false (.un .not (.t 6))
  (.op 4 [] (some 3) none false (.mov (.t 7))
  .done))))))
 .ret))
theorem dg_impl_all_impl_Rr_1 : Try.f53.body.bind (digC Try.prog Try.f53.ntmps []) = some c_impl_all_impl_Rr_1 := by kernel_rfl
theorem rs_impl_all_impl_Rr_1 : resSlots Try.prog Try.f53 = some [.s 3] := by kernel_rfl
theorem ok_impl_all_impl_Rr_1 (x : Rr) (D : Rr → Prop) (g : Rr → Bool) (hx : D x) :
    FnOK Try.prog 53 [.agg (x.cells.map .d), .one (.ptr [.fv false (fcAgg D Rr.cells g)])] (fun ra _ => ra = [.one (.d (.sc (.bool (!g x))))]) := by
  refine FnOK.ofK Try.func53 (by kernel_rfl) dg_impl_all_impl_Rr_1 rs_impl_all_impl_Rr_1 rfl rfl ?_
  unfold c_impl_all_impl_Rr_1
  refine kSeq (kReg (kBox rfl rfl rfl rfl rfl (kMovC rfl (kDone (kSeq (kReg (kLoadC rfl rfl (kLoadP rfl rfl rfl ?_))))))))
  refine kCallv rfl ⟨x, hx, rfl, rfl⟩ ⟨⟨⟨rfl, rfl, rfl, rfl, rfl, rfl, rfl, trivial⟩, Nat.le_of_ble_eq_true rfl⟩, trivial⟩ (.inr ?_) rfl ?_ rfl ?_
  · rintro _ rfl; rfl
  · rintro _ rfl; exact Nat.le_of_ble_eq_true rfl
  rintro _ rfl
  refine kUn rfl rfl (kMovC rfl (kDone (kRet (endRetA (ra := [.one (.d _)]) rfl rfl))))

def c_slices_IndexFunc_Limpl_Rr_impl_Rr : C := (.seq (.reg false (.op 0 [] (some 4) none false (.mov (.v (.int .i64 0)))
  .done))
 (.seq (.seq (.reg false (.op 0 [] (some 6) none false (.mov (.t 0))
  (.op 1 [] (some 7) none false (.len (.t 6))
  (.op 2 [] (some 8) none false (.mov (.v (.int .i64 0)))
  .done))))
 (.block 0 (.loop (.seq (.reg false (.op 0 [] (some 9) none false (.bin .lss (.t 8) (.t 7))
  .done))
 (.seq (.cond (.t 9)
 .skip
 (.exit 0))
 (.seq (.block 1 (.seq (.reg false (.op 0 [] (some 10) none false (.mov (.t 8))
  (.op 1 [] (some 5) none false (.mov (.t 10))
  .done)))
 (.seq (.reg false (.op 0 [] (some 11) none false (.mov (.t 1))
  (.op 1 [] (some 12) none false (.mov (.t 0))
  (.op 2 [] (some 13) none false (.mov (.t 5))
  (.op 3 [] (some 14) none false (.iad 7 (.t 12) (.t 13))
  (.op 4 [] (some 15) none false (.load (some 7) (.t 14))
  (.op 5 [] (some 16) none false (.callv 16 (.t 11) [(.t 15)])
  .done)))))))
 (.cond (.t 16)
 (.seq (.reg false (.op 0 [] (some 17) none false (.mov (.t 5))
  (.op 1 [] (some 4) none false (.mov (.t 17))
  .done)))
 .ret)
 .skip))))
 (.reg false (.op 0 [] (some 18) none false (.bin .add (.t 8) (.v (.int .i64 1)))
  (.op 1 [] (some 8) none false (.mov (.t 18))
  .done)))))))))
 (.seq (.reg false (.op 0 [] (some 4) none false (.mov (.v (.int .i64 (-1))))
  .done))
 .ret)))
theorem dg_slices_IndexFunc_Limpl_Rr_impl_Rr : Try.f74.body.bind (digC Try.prog Try.f74.ntmps []) = some c_slices_IndexFunc_Limpl_Rr_impl_Rr := by kernel_rfl
theorem rs_slices_IndexFunc_Limpl_Rr_impl_Rr : resSlots Try.prog Try.f74 = some [.s 4] := by kernel_rfl
theorem ok_slices_IndexFunc_Limpl_Rr_impl_Rr (l : List Rr) (D : Rr → Prop) (g : Rr → Bool) (hl : l.length ≤ 4194304) (hD : ∀ x ∈ l, D x) :
    FnOK Try.prog 74 [.one (.d (encR l)), .one (.fv false (fcAgg D Rr.cells g))] (fun ra _ => ra = [.one (.d (.sc (.int .i64 (idx g l))))]) := by
  refine FnOK.ofK Try.func74 (by kernel_rfl) dg_slices_IndexFunc_Limpl_Rr_impl_Rr rs_slices_IndexFunc_Limpl_Rr_impl_Rr rfl rfl ?_
  unfold c_slices_IndexFunc_Limpl_Rr_impl_Rr
  refine kSeq (kReg (kMovC rfl (kDone (kSeq (kSeq (kReg (kMovC rfl (kLenR rfl rfl (kMovC rfl (kDone (kBlock ?_)))))))))))
  refine kLoop (α := { i : Nat // i ≤ l.length ∧ ∀ x ∈ l.take i, g x = false })
    (fun y => ⟨tabSl [(0, .dv (encR l)), (1, .c (.fv false (fcAgg D Rr.cells g))), (7, .i l.length), (8, .i y.1)], obTab 1 [], []⟩) (fun y => l.length - y.1) ⟨0, by simp⟩
    .normA ?_
  rintro ⟨i, hi, hg⟩
  simp only
  rcases Nat.lt_or_ge i l.length with hlt | hge
  · refine kSeq (kReg (kBin rfl rfl rfl (kDone (kSeq (kCondP rfl (fun g0 => kSkip (kSeq (kBlock (kSeq (kReg (kMovC rfl (kMovC rfl (kDone (kSeq (kReg (kMovC rfl (kMovC rfl (kMovC rfl (kIadR rfl rfl rfl (by omega) (kLoadD rfl rfl ?_))))))))))))))) (fun g0 => (by omega)))))))
    refine kCallv rfl ⟨l[i], hD _ (List.getElem_mem hlt), rfl, rfl⟩ ⟨⟨⟨rfl, rfl, rfl, rfl, rfl, rfl, rfl, trivial⟩, Nat.le_of_ble_eq_true rfl⟩, trivial⟩ (.inr ?_) rfl ?_ rfl ?_
    · rintro _ rfl; rfl
    · rintro _ rfl; exact Nat.le_of_ble_eq_true rfl
    rintro _ rfl
    refine kDone (kCond rfl (fun g0 => kSeq (kReg (kMovC rfl (kMovC rfl (kDone (kRet (endRetA (ra := [.one (.d _)]) rfl ?_))))))) (fun g0 => kSkip (kBk (kReg (kAdd rfl rfl (by omega) (kMovC rfl (kDone ?_)))))))
    · have : l.findIdx? g = some i := by
        rw [List.findIdx?_eq_some_iff_getElem]
        refine ⟨hlt, by assumption, fun j hj => ?_⟩
        simpa using hg _ (by rw [List.mem_take_iff_getElem]; exact ⟨j, by omega, rfl⟩)
      simp [idx, this]
    · refine kInv ⟨⟨i + 1, hlt, ?_⟩, by simp only; omega, .normA⟩
      intro x hx
      rw [← List.take_append_getElem hlt, List.mem_append] at hx
      rcases hx with hx | hx
      · exact hg x hx
      · simp at hx; rw [hx]; assumption
  · refine kSeq (kReg (kBin rfl rfl rfl (kDone (kSeq (kCondP rfl (fun g0 => (by omega)) (fun g0 => kExit (kExC (kExI (kExB (kSeq (kReg (kMovC rfl (kDone (kRet (endRetA (ra := [.one (.d _)]) rfl ?_)))))))))))))))
    have : l.findIdx? g = none := by
      rw [List.findIdx?_eq_none_iff]
      intro x hx
      rw [show i = l.length by omega, List.take_length] at hg
      exact hg x hx
    simp [idx, this]

def c_slices_ContainsFunc_Limpl_Rr_impl_Rr : C := (.seq (.reg false (.op 0 [] (some 4) none false (.mov (.v (.bool false)))
  .done))
 (.seq (.reg false (.op 0 [] (some 5) none false (.mov (.t 0))
  (.op 1 [] (some 6) none false (.mov (.t 1))
  (.op 2 [] (some 7) none false (.call 7 74 [(.t 5), (.t 6)])
  (.op 3 [] (some 8) none false (.bin .geq (.t 7) (.v (.int .i64 0)))
  (.op 4 [] (some 4) none false (.mov (.t 8))
  .done))))))
 .ret))
theorem dg_slices_ContainsFunc_Limpl_Rr_impl_Rr : Try.f52.body.bind (digC Try.prog Try.f52.ntmps []) = some c_slices_ContainsFunc_Limpl_Rr_impl_Rr := by kernel_rfl
theorem rs_slices_ContainsFunc_Limpl_Rr_impl_Rr : resSlots Try.prog Try.f52 = some [.s 4] := by kernel_rfl
theorem ok_slices_ContainsFunc_Limpl_Rr_impl_Rr (l : List Rr) (D : Rr → Prop) (g : Rr → Bool) (hl : l.length ≤ 4194304) (hD : ∀ x ∈ l, D x) :
    FnOK Try.prog 52 [.one (.d (encR l)), .one (.fv false (fcAgg D Rr.cells g))] (fun ra _ => ra = [.one (.d (.sc (.bool (l.any g))))]) := by
  refine FnOK.ofK Try.func52 (by kernel_rfl) dg_slices_ContainsFunc_Limpl_Rr_impl_Rr rs_slices_ContainsFunc_Limpl_Rr_impl_Rr rfl rfl ?_
  unfold c_slices_ContainsFunc_Limpl_Rr_impl_Rr
  refine kSeq (kReg (kMovC rfl (kDone (kSeq (kReg (kMovC rfl (kMovC rfl ?_)))))))
  refine kCall1 true (ok_slices_IndexFunc_Limpl_Rr_impl_Rr l D g hl hD) ⟨rfl, ⟨fun h => h, fun _ _ h => h⟩, trivial⟩ rfl rfl rfl fun os => ?_
  rw [← idx_ge g l]
  refine kBin rfl rfl rfl (kMovC rfl (kDone (kRet (endRetA (ra := [.one (.d _)]) rfl rfl))))

def c_impl_all_impl_Rr : C := (.seq (.reg false (.op 0 [] (some 3) none false (.box 3 (.t 1))
  (.op 1 [] (some 4) none false (.mov (.v (.bool false)))
  .done)))
 (.seq (.reg false (.op 0 [] (some 5) none false (.mov (.t 0))
  (.op 1 [] (some 6) none false (.clo 53 [] [(.t 3)])
  (.op 2 [] (some 7) none false (.call 7 52 [(.t 5), (.t 6)])
  (.op 3 [] (some 8) none false (.un .not (.t 7))
  (.op 4 [] (some 4) none false (.mov (.t 8))
  .done))))))
 .ret))
theorem dg_impl_all_impl_Rr : Try.f31.body.bind (digC Try.prog Try.f31.ntmps []) = some c_impl_all_impl_Rr := by kernel_rfl
theorem rs_impl_all_impl_Rr : resSlots Try.prog Try.f31 = some [.s 4] := by kernel_rfl
theorem ok_impl_all_impl_Rr (l : List Rr) (D : Rr → Prop) (g : Rr → Bool) (hl : l.length ≤ 4194304) (hD : ∀ x ∈ l, D x) :
    FnOK Try.prog 31 [.one (.d (encR l)), .one (.fv false (fcAgg D Rr.cells g))] (fun ra _ => ra = [.one (.d (.sc (.bool (l.all g))))]) := by
  refine FnOK.ofK Try.func31 (by kernel_rfl) dg_impl_all_impl_Rr rs_impl_all_impl_Rr rfl rfl ?_
  unfold c_impl_all_impl_Rr
  refine kSeq (kReg (kBox rfl rfl rfl rfl rfl (kMovC rfl (kDone (kSeq (kReg (kMovC rfl (kClo rfl rfl ?_))))))))
  refine kCall1 true (ok_slices_ContainsFunc_Limpl_Rr_impl_Rr l D (fun x => !g x) hl hD) ⟨rfl, ⟨rfl, ⟨_, Try.func53, rfl, by kernel_rfl⟩, _, rfl, ?_⟩, trivial⟩ rfl rfl rfl fun os => ?_
  · rintro _ R ⟨x, hx, rfl, rfl⟩
    exact ⟨by rintro _ rfl; rfl, ok_impl_all_impl_Rr_1 x D g hx⟩
  rw [List.all_eq_not_any_not]
  refine kUn rfl rfl (kMovC rfl (kDone (kRet (endRetA (ra := [.one (.d _)]) rfl rfl))))

def c_impl_areRrs : C := (.seq (.reg false (.op 0 [] (some 2) none false (.mov (.v (.bool false)))
  .done))
 (.seq (.reg false (.op 0 [] (some 3) none false (.mov (.t 0))
  (.op 1 [] (some 4) none false (.len (.t 3))
  (.op 2 [] (some 5) none false (.bin .leq (.t 4) (.v (.int .i64 12)))
  (.op 3 [] (some 6) none false (.mov (.t 5))
  (.op 4 [] (some 7) (some (6, true)) false (.mov (.t 0))
  (.op 5 [] (some 8) (some (6, true)) false (.call 8 31 [(.t 7), (.fn 32)])
  (.op 6 [] (some 9) none false (.pick (.t 6) (.t 8) (.v (.bool false)))
  (.op 7 [] (some 2) none false (.mov (.t 9))
  .done)))))))))
 .ret))
theorem dg_impl_areRrs : Try.f15.body.bind (digC Try.prog Try.f15.ntmps []) = some c_impl_areRrs := by kernel_rfl
theorem rs_impl_areRrs : resSlots Try.prog Try.f15 = some [.s 2] := by kernel_rfl
theorem ok_impl_areRrs (l : List Rr) (hs : SmallRs l) :
    FnOK Try.prog 15 [.one (.d (encR l))] (fun ra _ => ra = [.one (.d (.sc (.bool (rrsOk l))))]) := by
  refine FnOK.ofK Try.func15 (by kernel_rfl) dg_impl_areRrs rs_impl_areRrs rfl rfl ?_
  unfold c_impl_areRrs
  have h1 := hs.len
  refine kSeq (kReg (kMovC rfl (kDone (kSeq (kReg (kMovC rfl (kLenR rfl rfl (kBin rfl rfl rfl (kMovC rfl (kGP rfl (fun g0 => kGT rfl (kMovC rfl (kGT rfl ?_))) (fun g0 => kGF rfl (kGF rfl (kPickF rfl (kMovC rfl (kMovC rfl (kDone (kRet (endRetA (ra := [.one (.d _)]) rfl ?_))))))))))))))))))
  · refine kCallD (ok_impl_all_impl_Rr l SmallR rrOk h1 hs.mem) ⟨rfl, ⟨rfl, rfl, ⟨_, Try.func32, rfl, by kernel_rfl⟩, ?_⟩, trivial⟩ rfl rfl rfl rfl rfl ?_
    · rintro _ R ⟨x, h, rfl, rfl⟩
      exact ok_impl_RrOk x h
    refine kPickT rfl (kMovC rfl (kMovC rfl (kDone (kRet (endRetA (ra := [.one (.d _)]) rfl ?_)))))
    rw [show rrsOk l = l.all rrOk by simp only [rrsOk]; rw [decide_eq_true (by omega)]; rfl]
  · rw [show rrsOk l = false by simp only [rrsOk]; rw [decide_eq_false (by omega)]; rfl]

def c_slices_EqualFunc_LLbyte_LLbyte_Lbyte_Lbyte : C := (.seq (.reg false (.op 0 [] (some 6) none false (.mov (.v (.bool false)))
  .done))
 (.seq (.seq (.reg false (.op 0 [] (some 10) none false (.mov (.t 0))
  (.op 1 [] (some 11) none false (.len (.t 10))
  (.op 2 [] (some 12) none false (.mov (.t 1))
  (.op 3 [] (some 13) none false (.len (.t 12))
  (.op 4 [] (some 14) none false (.bin .neq (.t 11) (.t 13))
  .done))))))
 (.cond (.t 14)
 (.seq (.reg false (.op 0 [] (some 6) none false (.mov (.v (.bool false)))
  .done))
 .ret)
 .skip))
 (.seq (.seq (.reg false (.op 0 [] (some 15) none false (.mov (.t 0))
  (.op 1 [] (some 16) none false (.len (.t 15))
  (.op 2 [] (some 17) none false (.mov (.v (.int .i64 0)))
  .done))))
 (.block 0 (.loop (.seq (.reg false (.op 0 [] (some 18) none false (.bin .lss (.t 17) (.t 16))
  .done))
 (.seq (.cond (.t 18)
 .skip
 (.exit 0))
 (.seq (.block 1 (.seq (.reg false (.op 0 [] (some 19) none false (.mov (.t 17))
  (.op 1 [] (some 20) none false (.iad 1 (.t 15) (.t 17))
  (.op 2 [] (some 21) none false (.load none (.t 20))
  (.op 3 [] (some 7) none false (.mov (.t 19))
  (.op 4 [] (some 8) none false (.mov (.t 21))
  .done))))))
 (.seq (.reg false (.op 0 [] (some 22) none false (.mov (.t 1))
  (.op 1 [] (some 23) none false (.mov (.t 7))
  (.op 2 [] (some 24) none false (.iad 1 (.t 22) (.t 23))
  (.op 3 [] (some 25) none false (.load none (.t 24))
  (.op 4 [] (some 9) none false (.mov (.t 25))
  .done))))))
 (.seq (.reg false (.op 0 [] (some 26) none false (.mov (.t 2))
  (.op 1 [] (some 27) none false (.mov (.t 8))
  (.op 2 [] (some 28) none false (.mov (.t 9))
  (.op 3 [] (some 29) none false (.callv 29 (.t 26) [(.t 27), (.t 28)])
  (.op 4 [] (some 30) none false (.un .not (.t 29))
  .done))))))
 (.cond (.t 30)
 (.seq (.reg false (.op 0 [] (some 6) none false (.mov (.v (.bool false)))
  .done))
 .ret)
 .skip)))))
 (.reg false (.op 0 [] (some 31) none false (.bin .add (.t 17) (.v (.int .i64 1)))
  (.op 1 [] (some 17) none false (.mov (.t 31))
  .done)))))))))
 (.seq (.reg false (.op 0 [] (some 6) none false (.mov (.v (.bool true)))
  .done))
 .ret))))
theorem dg_slices_EqualFunc_LLbyte_LLbyte_Lbyte_Lbyte : Try.f42.body.bind (digC Try.prog Try.f42.ntmps []) = some c_slices_EqualFunc_LLbyte_LLbyte_Lbyte_Lbyte := by kernel_rfl
theorem rs_slices_EqualFunc_LLbyte_LLbyte_Lbyte_Lbyte : resSlots Try.prog Try.f42 = some [.s 6] := by kernel_rfl
def fcEq : FC := fun l R => ∃ x y : List UInt8, l = [DA.one (encB x), DA.one (encB y)] ∧ R = fun ra => ra = [.one (.d (.sc (.bool (x == y))))]
theorem ok_slices_EqualFunc_LLbyte_LLbyte_Lbyte_Lbyte (a b : List (List UInt8)) (ha : a.length ≤ 4194304) (hb : b.length ≤ 4194304) :
    FnOK Try.prog 42 [.one (.d (encBB a)), .one (.d (encBB b)), .one (.fv false fcEq)] (fun ra _ => ra = [.one (.d (.sc (.bool (decide (a = b)))))]) := by
  refine FnOK.ofK Try.func42 (by kernel_rfl) dg_slices_EqualFunc_LLbyte_LLbyte_Lbyte_Lbyte rs_slices_EqualFunc_LLbyte_LLbyte_Lbyte_Lbyte rfl rfl ?_
  unfold c_slices_EqualFunc_LLbyte_LLbyte_Lbyte_Lbyte
  refine kSeq (kReg (kMovC rfl (kDone (kSeq (kSeq (kReg (kMovC rfl (kLenR rfl rfl (kMovC rfl (kLenR rfl rfl (kBin rfl rfl rfl (kDone (kCondIN rfl (fun g0 => kSeq (kReg (kMovC rfl (kDone (kRet (endRetA (ra := [.one (.d _)]) rfl ?_)))))) (fun g0 => kSkip (kSeq (kSeq (kReg (kMovC rfl (kLenR rfl rfl (kMovC rfl (kDone (kBlock ?_))))))))))))))))))))))
  · rw [decide_eq_false (by rintro rfl; simp_all)]
  have hab : a.length = b.length := by omega
  refine kLoop (α := { i : Nat // i ≤ a.length ∧ a.take i = b.take i })
    (fun y => ⟨tabSl [(1, .dv (encBB b)), (2, .c (.fv false fcEq)), (15, .dv (encBB a)), (16, .i a.length), (17, .i y.1)], obTab 1 [], []⟩) (fun y => a.length - y.1) ⟨0, by simp⟩
    .normA ?_
  rintro ⟨i, hi, he⟩
  simp only
  rcases Nat.lt_or_ge i a.length with hlt | hge
  · refine kSeq (kReg (kBin rfl rfl rfl (kDone (kSeq (kCondP rfl (fun g0 => kSkip (kSeq (kBlock (kSeq (kReg (kMovC rfl (kIadR rfl rfl rfl (by omega) (kLoadD rfl rfl (kMovC rfl (kMovC rfl (kDone (kSeq (kReg (kMovC rfl (kMovC rfl (kIadR rfl rfl rfl (by omega) (kLoadD rfl rfl (kMovC rfl (kDone (kSeq (kReg (kMovC rfl (kMovC rfl (kMovC rfl ?_)))))))))))))))))))))))) (fun g0 => (by omega)))))))
    refine kCallv rfl ⟨a[i], b[i], rfl, rfl⟩ ⟨rfl, rfl, trivial⟩ (.inr ?_) rfl ?_ rfl ?_
    · rintro _ rfl; rfl
    · rintro _ rfl; exact Nat.le_of_ble_eq_true rfl
    rintro _ rfl
    refine kUn rfl rfl (kDone (kCondN rfl (fun g0 => kSeq (kReg (kMovC rfl (kDone (kRet (endRetA (ra := [.one (.d _)]) rfl ?_)))))) (fun g0 => kSkip (kBk (kReg (kAdd rfl rfl (by omega) (kMovC rfl (kDone ?_))))))))
    · rw [decide_eq_false]
      rintro rfl
      simp_all
    · refine kInv ⟨⟨i + 1, by omega, ?_⟩, by simp only; omega, .normA⟩
      rw [← List.take_append_getElem (by omega), ← List.take_append_getElem (by omega), he]
      simp_all
  · refine kSeq (kReg (kBin rfl rfl rfl (kDone (kSeq (kCondP rfl (fun g0 => (by omega)) (fun g0 => kExit (kExC (kExI (kExB (kSeq (kReg (kMovC rfl (kDone (kRet (endRetA (ra := [.one (.d _)]) rfl ?_)))))))))))))))
    rw [show i = a.length by omega, List.take_length, hab, List.take_length] at he
    rw [he, decide_eq_true rfl]

def c_bytes_Equal : C := (.seq (.reg false (.op 0 [] (some 4) none false (.mov (.v (.bool false)))
  .done))
 (.seq (.reg false (.op 0 [] (some 5) none false (.mov (.t 0))
  (.op 1 [] (some 6) none false (.b2s (.t 5))
  (.op 2 [] (some 7) none false (.mov (.t 1))
  (.op 3 [] (some 8) none false (.b2s (.t 7))
  (.op 4 [] (some 9) none false (.bin .eql (.t 6) (.t 8))
  (.op 5 [] (some 4) none false (.mov (.t 9))
  .done)))))))
 .ret))
theorem dg_bytes_Equal : Try.f43.body.bind (digC Try.prog Try.f43.ntmps []) = some c_bytes_Equal := by kernel_rfl
theorem rs_bytes_Equal : resSlots Try.prog Try.f43 = some [.s 4] := by kernel_rfl
theorem ok_bytes_Equal (a b : List UInt8) :
    FnOK Try.prog 43 [.one (.d (encB a)), .one (.d (encB b))] (fun ra _ => ra = [.one (.d (.sc (.bool (a == b))))]) := by
  refine FnOK.ofK Try.func43 (by kernel_rfl) dg_bytes_Equal rs_bytes_Equal rfl rfl ?_
  unfold c_bytes_Equal
  refine kSeq (kReg (kMovC rfl (kDone (kSeq (kReg (kMovC rfl (kB2s rfl rfl (kMovC rfl (kB2s rfl rfl (kBin rfl rfl rfl (kMovC rfl (kDone (kRet (endRetA (ra := [.one (.d _)]) rfl ?_))))))))))))))
  simp only [bt_list]

def c_impl_Name_under : C := (.seq (.reg false (.op 0 [] (some 2) none false (.box 2 (.t 0))
  (.op 1 [] (some 3) none false (.box 3 (.t 1))
  (.op 2 [] (some 4) none false (.mov (.v (.bool false)))
  .done))))
 (.seq (.reg false (.op 0 [] (some 6) none false (.fad (.t 2) 0)
  (.op 1 [] (some 7) none false (.load none (.t 6))
  (.op 2 [] (some 8) none false (.len (.t 7))
  (.op 3 [] (some 9) none false (.fad (.t 3) 0)
  (.op 4 [] (some 10) none false (.load none (.t 9))
  (.op 5 [] (some 11) none false (.len (.t 10))
  (.op 6 [] (some 12) none false (.bin .sub (.t 8) (.t 11))
  (.op 7 [] (some 5) none false (.mov (.t 12))
  .done)))))))))
 (.seq (.reg true (.op 0 [] (some 13) none true (.mov (.t 5))
  (.op 1 [] (some 14) none true (.bin .geq (.t 13) (.v (.int .i64 0)))
  (.op 2 [] (some 15) none true (.mov (.t 14))
  (.op 3 [] (some 16) (some (15, true)) true (.fad (.t 2) 0)
  (.op 4 [] (some 17) (some (15, true)) true (.load none (.t 16))
  (.op 5 [] (some 18) (some (15, true)) true (.mov (.t 5))
  (.op 6 [] (some 19) (some (15, true)) true (.mm true (.t 18) (.v (.int .i64 0)))
  (.op 7 [] (some 20) (some (15, true)) true (.cut 1 (.t 17) (some (.t 19)) none)
  (.op 8 [] (some 21) (some (15, true)) true (.fad (.t 3) 0)
  (.op 9 [] (some 22) (some (15, true)) true (.load none (.t 21))
  (.op 10 [4, 9] (some 23) (some (15, true)) false (.call 23 42 [(.t 20), (.t 22), (.fn 43)])
  (.op 11 [] (some 24) none true (.pick (.t 15) (.t 23) (.v (.bool false)))
  (.op 12 [] (some 4) none true (.mov (.t 24))
  .done))))))))))))))
 .ret)))
theorem dg_impl_Name_under : Try.f23.body.bind (digC Try.prog Try.f23.ntmps []) = some c_impl_Name_under := by kernel_rfl
theorem rs_impl_Name_under : resSlots Try.prog Try.f23 = some [.s 4] := by kernel_rfl
theorem ok_impl_Name_under (n z : List (List UInt8)) (hn : n.length ≤ 4194304) (hz : z.length ≤ 4194304) :
    FnOK Try.prog 23 [.agg [.d (encBB n)], .agg [.d (encBB z)]] (fun ra _ => ra = [.one (.d (.sc (.bool (underN n z))))]) := by
  refine FnOK.ofK Try.func23 (by kernel_rfl) dg_impl_Name_under rs_impl_Name_under rfl rfl ?_
  unfold c_impl_Name_under
  have hd : ∀ m, (n.drop m).length ≤ 4194304 := fun m => by simp; omega
  refine kSeq (kReg (kBox rfl rfl rfl rfl rfl (kBox rfl rfl rfl rfl rfl (kMovC rfl (kDone (kSeq (kReg (kFadP rfl rfl (kLoadP rfl rfl rfl (kLenR rfl rfl (kFadP rfl rfl (kLoadP rfl rfl rfl (kLenR rfl rfl (kDif rfl rfl (by omega) (kMovC rfl (kDone (kSeq (kRegD (kMovC rfl (kBin rfl rfl rfl (kMovC rfl (kGP rfl (fun g0 => kGT rfl (kFadP rfl rfl (kGT rfl (kLoadP rfl rfl rfl (kGT rfl (kMovC rfl (kGT rfl (kMm rfl rfl (kGT rfl (kCutLT rfl rfl (by omega) (kGT rfl (kFadP rfl rfl (kGT rfl (kLoadP rfl rfl rfl (kRelF rfl rfl (kGT rfl ?_)))))))))))))))) (fun g0 => kGF rfl (kGF rfl (kGF rfl (kGF rfl (kGF rfl (kGF rfl (kGF rfl (kRelF rfl rfl (kGF rfl (kPickF rfl (kMovC rfl (kMovC rfl (kDone (kH (kRet (endRetA (ra := [.one (.d _)]) rfl ?_))))))))))))))))))))))))))))))))))))))
  · refine kCallD (ok_slices_EqualFunc_LLbyte_LLbyte_Lbyte_Lbyte _ z (hd _) hz) ⟨rfl, rfl, ⟨rfl, rfl, ⟨_, Try.func43, rfl, by kernel_rfl⟩, ?_⟩, trivial⟩ rfl rfl rfl rfl rfl ?_
    · rintro _ R ⟨x, y, rfl, rfl⟩
      exact ok_bytes_Equal x y
    refine kPickT rfl (kMovC rfl (kMovC rfl (kDone (kH (kRet (endRetA (ra := [.one (.d _)]) rfl ?_))))))
    simp only [if_true, underN]
    rw [if_neg (by omega), show (n.length - z.length : Int).toNat = n.length - z.length by omega, decide_eq_true (show z.length ≤ n.length by omega), Bool.true_and]
  · rw [show underN n z = false by simp only [underN]; rw [decide_eq_false (by omega)]; rfl]

def c_impl_inside : C := (.seq (.reg false (.op 0 [] (some 3) none false (.box 3 (.t 1))
  (.op 1 [] (some 4) none false (.mov (.n 7))
  .done)))
 (.seq (.reg false (.op 0 [] (some 8) none false (.lit 8 7 [(.n 1), (.v (.int .i64 0)), (.v (.int .i64 0)), (.v (.int .i64 0)), (.n 1), (.n 1), (.n 1)] 0 [])
  (.op 1 [] (some 5) none false (.mov (.t 8))
  .done)))
 (.seq (.seq (.reg false (.op 0 [] (some 9) none false (.mov (.t 0))
  (.op 1 [] (some 10) none false (.len (.t 9))
  (.op 2 [] (some 11) none false (.mov (.v (.int .i64 0)))
  .done))))
 (.block 0 (.loop (.seq (.reg false (.op 0 [] (some 12) none false (.bin .lss (.t 11) (.t 10))
  .done))
 (.seq (.cond (.t 12)
 .skip
 (.exit 0))
 (.seq (.block 1 (.seq (.reg false (.op 0 [] (some 13) none false (.iad 7 (.t 9) (.t 11))
  (.op 1 [] (some 14) none false (.load (some 7) (.t 13))
  (.op 2 [] (some 7) none false (.alloc 7 [(.n 1), (.v (.int .i64 0)), (.v (.int .i64 0)), (.v (.int .i64 0)), (.n 1), (.n 1), (.n 1)])
  (.op 3 [] none none false (.store (some 7) (.t 7) (.t 14))
  .done)))))
 (.seq (.reg false (.op 0 [] (some 15) none false (.fad (.t 7) 0)
  (.op 1 [] (some 16) none false (.load (some 1) (.t 15))
  (.op 2 [] (some 17) none false (.load (some 1) (.t 3))
  (.op 3 [] (some 18) none false (.call 18 23 [(.t 16), (.t 17)])
  .done)))))
 (.cond (.t 18)
 (.reg false (.op 0 [] (some 19) none false (.mov (.t 5))
  (.op 1 [] (some 20) none false (.load (some 7) (.t 7))
  (.op 2 [] (some 21) none false (.lit 21 7 [(.n 1), (.v (.int .i64 0)), (.v (.int .i64 0)), (.v (.int .i64 0)), (.n 1), (.n 1), (.n 1)] 1 [(0, 7, (.t 20))])
  (.op 3 [] (some 22) none false (.app 22 7 120 (.t 19) (.t 21))
  (.op 4 [] (some 5) none false (.mov (.t 22))
  .done))))))
 .skip))))
 (.reg false (.op 0 [] (some 23) none false (.bin .add (.t 11) (.v (.int .i64 1)))
  (.op 1 [] (some 11) none false (.mov (.t 23))
  .done)))))))))
 (.seq (.reg false (.op 0 [] (some 24) none false (.mov (.t 5))
  (.op 1 [] (some 4) none false (.mov (.t 24))
  .done)))
 .ret))))
theorem dg_impl_inside : Try.f18.body.bind (digC Try.prog Try.f18.ntmps []) = some c_impl_inside := by kernel_rfl
theorem rs_impl_inside : resSlots Try.prog Try.f18 = some [.s 4] := by kernel_rfl
theorem ok_impl_inside (l : List Rr) (z : List (List UInt8)) (hs : SmallRs l) (hz : z.length ≤ 4194304) (hz' : ∀ b ∈ z, b.length ≤ 4194304) :
    FnOK Try.prog 18 [.one (.d (encR l)), .agg [.d (encBB z)]] (fun ra _ => ra = [.one (.d (encR (insideR l z)))]) := by
  refine FnOK.ofK Try.func18 (by kernel_rfl) dg_impl_inside rs_impl_inside rfl rfl ?_
  unfold c_impl_inside
  have h1 := hs.len
  refine kSeq (kReg (kBox rfl rfl rfl rfl rfl (kMovC rfl (kDone (kSeq (kReg (kLit rfl rfl rfl rfl (kMovC rfl (kDone (kSeq (kSeq (kReg (kMovC rfl (kLenR rfl rfl (kMovC rfl (kDone (kBlock ?_)))))))))))))))))
  refine kLoop (α := { i : Nat // i ≤ l.length }) (fun y => ⟨tabSl [(3, .c (.ptr (rid 3 0) 1 0)), (5, .c (.arr (rid 8 0) 1)), (9, .dv (encR l)), (10, .i l.length), (11, .i y.1)], obTab 1 [(rid 3 0, ⟨1, 0, .box [.d (encBB z)]⟩), (rid 8 0, ⟨1, 0, .arr false (encR (insideR (l.take y.1) z))⟩)], []⟩) (fun y => l.length - y.1) ⟨0, by simp⟩ .normA ?_
  rintro ⟨i, hi⟩
  simp only
  have hlen : (l.take i).length = i := by simp; omega
  have hle : (insideR (l.take i) z).length ≤ l.length := filter_len _ l i
  rcases Nat.lt_or_ge i l.length with hlt | hge
  · have hbi := hs.mem _ (List.getElem_mem hlt)
    have n1 := hbi.n.len
    have n2 := hbi.n.mem
    cases hu : underN l[i].name z
    · have hst : insideR (l.take (i + 1)) z = insideR (l.take i) z := filter_no hlt hu
      refine kSeq (kReg (kBin rfl rfl rfl (kDone (kSeq (kCondP rfl (fun g0 => kSkip (kSeq (kBlock (kSeq (kReg (kIadR rfl rfl rfl (by omega) (kLoadD rfl rfl (kAlloc rfl rfl (kMem [(32768, ⟨2, 0, .box [.nil 1, .d _, .d _, .d _, .nil 1, .nil 1, .nil 1]⟩)] [(7, .c (.ptr 32768 2 0)), (14, .g [.d _, .d _, .d _, .d _, .d _, .d _, .d _])] [] ⟨rfl, trivial⟩ ⟨rfl, rfl, trivial⟩ rfl (kStoreP rfl rfl rfl rfl (kDone (kSeq (kReg (kFadP rfl rfl (kLoadP rfl rfl rfl (kLoadP rfl rfl rfl (kCallD (ok_impl_Name_under _ _ (by first | assumption | omega | solve_by_elim [List.getElem_mem] | (simp only [szOut] at *; omega)) (by first | assumption | omega | solve_by_elim [List.getElem_mem] | (simp only [szOut] at *; omega))) ⟨⟨⟨rfl, trivial⟩, Nat.le_of_ble_eq_true rfl⟩, ⟨⟨rfl, trivial⟩, Nat.le_of_ble_eq_true rfl⟩, trivial⟩ rfl rfl rfl rfl rfl (kDone (kCond rfl (fun g1 => (by (simp [*] at g1))) (fun g1 => kSkip (kBk (kReg (kAdd rfl rfl (by omega) (kMovC rfl (kDone ?_))))))))))))))))))))))))) (fun g0 => (by omega)))))))
      refine kInv ⟨⟨i + 1, by omega⟩, by simp only; omega, ?_⟩
      simp only [hst]
      exact .normA
    · have hst : insideR (l.take (i + 1)) z = insideR (l.take i) z ++ [l[i]] := filter_yes hlt hu
      refine kSeq (kReg (kBin rfl rfl rfl (kDone (kSeq (kCondP rfl (fun g0 => kSkip (kSeq (kBlock (kSeq (kReg (kIadR rfl rfl rfl (by omega) (kLoadD rfl rfl (kAlloc rfl rfl (kMem [(32768, ⟨2, 0, .box [.nil 1, .d _, .d _, .d _, .nil 1, .nil 1, .nil 1]⟩)] [(7, .c (.ptr 32768 2 0)), (14, .g [.d _, .d _, .d _, .d _, .d _, .d _, .d _])] [] ⟨rfl, trivial⟩ ⟨rfl, rfl, trivial⟩ rfl (kStoreP rfl rfl rfl rfl (kDone (kSeq (kReg (kFadP rfl rfl (kLoadP rfl rfl rfl (kLoadP rfl rfl rfl (kCallD (ok_impl_Name_under _ _ (by first | assumption | omega | solve_by_elim [List.getElem_mem] | (simp only [szOut] at *; omega)) (by first | assumption | omega | solve_by_elim [List.getElem_mem] | (simp only [szOut] at *; omega))) ⟨⟨⟨rfl, trivial⟩, Nat.le_of_ble_eq_true rfl⟩, ⟨⟨rfl, trivial⟩, Nat.le_of_ble_eq_true rfl⟩, trivial⟩ rfl rfl rfl rfl rfl (kDone (kCond rfl (fun g1 => kReg (kMovC rfl (kLoadP rfl rfl rfl (kLit rfl rfl rfl rfl (kMem [(36864, ⟨1, 0, .arr false _⟩), (90112, ⟨2, 0, .arr false _⟩)] [(19, .c (.arr 36864 1)), (21, .c (.arr 90112 2))] [] ⟨rfl, rfl, trivial⟩ ⟨rfl, rfl, trivial⟩ rfl (kAppRec rfl rfl rfl rfl rfl rfl rfl (by omega) (kMovC rfl (kDone (kBk (kReg (kAdd rfl rfl (by omega) (kMovC rfl (kDone ?_))))))))))))) (fun g1 => (by (simp [*] at g1)))))))))))))))))))))) (fun g0 => (by omega)))))))
      refine kInv ⟨⟨i + 1, by omega⟩, by simp only; omega, ?_⟩
      simp only [hst]
      exact .normA
  · refine kSeq (kReg (kBin rfl rfl rfl (kDone (kSeq (kCondP rfl (fun g0 => (by omega)) (fun g0 => kExit (kExC (kExI (kExB (kSeq (kReg (kMovC rfl (kMovC rfl (kDone (kMem [(36864, ⟨1, 0, .arr false _⟩)] [(4, .c (.arr 36864 1))] [] ⟨rfl, trivial⟩ ⟨rfl, trivial⟩ rfl (kRet (endRetA (ra := [.one (.d _)]) rfl ?_)))))))))))))))))
    rw [show i = l.length by omega, List.take_length]

def c_bytes_Clone : C := (.seq (.reg false (.op 0 [] (some 2) none false (.mov (.n 1))
  .done))
 (.seq (.seq (.reg false (.op 0 [] (some 3) none false (.mov (.t 0))
  (.op 1 [] (some 4) none false (.eqn false (.t 3))
  .done)))
 (.cond (.t 4)
 (.seq (.reg false (.op 0 [] (some 2) none false (.mov (.n 1))
  .done))
 .ret)
 .skip))
 (.seq (.reg false (.op 0 [] (some 5) none false (.lit 5 1 [(.v (.int .u8 0))] 0 [])
  (.op 1 [] (some 6) none false (.mov (.t 0))
  (.op 2 [] (some 7) none false (.app 7 1 1 (.t 5) (.t 6))
  (.op 3 [] (some 2) none false (.mov (.t 7))
  .done)))))
 .ret)))
theorem dg_bytes_Clone : Try.f64.body.bind (digC Try.prog Try.f64.ntmps []) = some c_bytes_Clone := by kernel_rfl
theorem rs_bytes_Clone : resSlots Try.prog Try.f64 = some [.s 2] := by kernel_rfl
theorem ok_bytes_Clone (b : List UInt8) (hb : b.length ≤ 140737488355328) :
    FnOK Try.prog 64 [.one (.d (encB b))] (fun ra _ => ra = [.one (.own true (encB b))]) := by
  refine FnOK.ofK Try.func64 (by kernel_rfl) dg_bytes_Clone rs_bytes_Clone rfl rfl ?_
  unfold c_bytes_Clone
  refine kSeq (kReg (kMovC rfl (kDone ?_)))
  refine kSeq (kSeq (kReg (kMovC rfl (kEqn rfl rfl rfl fun n hn => kDone ?_))))
  refine kCond rfl (fun h => ?_) (fun h => ?_)
  · refine kSeq (kReg (kMovC rfl (kDone (kRet ?_))))
    refine endRet (ra := [.one (.own true (.sl 1 []))]) rfl ⟨⟨rfl, trivial⟩, nodupB_sound rfl, trivial, trivial⟩ ?_
    have : b = [] := by
      rw [len_encB] at hn
      cases b with
      | nil => rfl
      | cons x l => have := hn (by simp); simp [this] at h
    rw [this]; rfl
  · refine kSkip (kSeq (kReg ?_))
    refine kLit rfl rfl rfl rfl (kMovC rfl ?_)
    refine kApp (cy := .d (encB b)) rfl rfl rfl (src_encB _ b) rfl rfl ⟨rfl, rfl, Nat.zero_lt_one⟩ rfl ?_ (kMovC rfl (kDone (kRet ?_)))
    · show ((DV.sl 1 (chunk 1 0 [])).len + (encB b).len) * 1 ≤ _ ∧ _
      rw [len_encB]; simp [DV.len, chunk]; omega
    refine endRet (ra := [.one (.own true _)]) rfl ⟨⟨⟨⟨_, rfl, fun _ => rfl⟩, .inl (Nat.zero_lt_succ _)⟩, trivial⟩, nodupB_sound rfl, trivial, trivial⟩ ?_
    exact congrArg (fun x => [RA.one (RV.own true x)]) (app_nil_encB b)

def c_impl_Name_copied : C := (.seq (.reg false (.op 0 [] (some 1) none false (.box 1 (.t 0))
  (.op 1 [] (some 2) none false (.alloc 2 [(.n 1)])
  .done)))
 (.seq (.reg false (.op 0 [] (some 6) none false (.build [(.n 1)] [])
  (.op 1 [] (some 3) none false (.alloc 3 [(.n 1)])
  (.op 2 [] none none false (.store (some 1) (.t 3) (.t 6))
  .done))))
 (.seq (.seq (.reg false (.op 0 [] (some 7) none false (.fad (.t 1) 0)
  (.op 1 [] (some 8) none false (.load none (.t 7))
  (.op 2 [] (some 9) none false (.len (.t 8))
  (.op 3 [] (some 10) none false (.mov (.v (.int .i64 0)))
  .done)))))
 (.block 0 (.loop (.seq (.reg false (.op 0 [] (some 11) none false (.bin .lss (.t 10) (.t 9))
  .done))
 (.seq (.cond (.t 11)
 .skip
 (.exit 0))
 (.seq (.block 1 (.seq (.reg false (.op 0 [] (some 12) none false (.iad 1 (.t 8) (.t 10))
  (.op 1 [] (some 13) none false (.load none (.t 12))
  (.op 2 [] (some 5) none false (.mov (.t 13))
  .done))))
 (.reg true (.op 0 [] (some 14) none true (.fad (.t 3) 0)
  (.op 1 [] (some 15) none true (.load none (.t 14))
  (.op 2 [] (some 16) none true (.mov (.t 5))
  (.op 3 [] (some 17) none false (.call 17 64 [(.t 16)])
  (.op 4 [] (some 18) none false (.lit 18 1 [(.n 1)] 1 [(0, 1, (.t 17))])
  (.op 5 [1] (some 19) none false (.app 19 1 24 (.t 15) (.t 18))
  (.op 6 [] (some 20) none true (.fad (.t 3) 0)
  (.op 7 [1] none none false (.store none (.t 20) (.t 19))
  .done)))))))))))
 (.reg false (.op 0 [] (some 21) none false (.bin .add (.t 10) (.v (.int .i64 1)))
  (.op 1 [] (some 10) none false (.mov (.t 21))
  .done)))))))))
 (.seq (.reg false (.op 0 [] (some 22) none false (.load (some 1) (.t 3))
  (.op 1 [] none none false (.store (some 1) (.t 2) (.t 22))
  .done)))
 .ret))))
theorem dg_impl_Name_copied : Try.f63.body.bind (digC Try.prog Try.f63.ntmps []) = some c_impl_Name_copied := by kernel_rfl
theorem rs_impl_Name_copied : resSlots Try.prog Try.f63 = some [.m 2 (some 1)] := by kernel_rfl
theorem ok_impl_Name_copied (a : List (List UInt8)) (ha : a.length ≤ 4194304) (hb : ∀ b ∈ a, b.length ≤ 4194304) :
    FnOK Try.prog 63 [.agg [.d (encBB a)]] (fun ra _ => ra = [.agg [.own true (encBB a)]]) := by
  refine FnOK.ofK Try.func63 (by kernel_rfl) dg_impl_Name_copied rs_impl_Name_copied rfl rfl ?_
  unfold c_impl_Name_copied
  refine kSeq (kReg (kBox rfl rfl rfl rfl rfl (kAlloc rfl rfl (kDone ?_))))
  refine kSeq (kReg (kBuild rfl (kAlloc rfl rfl (kStoreP rfl rfl rfl rfl (kDone ?_)))))
  refine kSeq (kSeq (kReg (kFadP rfl rfl (kLoadP rfl rfl rfl (kLen rfl rfl rfl (kMovC rfl (kDone (kBlock ?_))))))))
  rw [len_encBB]
  refine kSub (Sub.nilBox (id := rid 3 0) (id2 := rid 5000 0) (j := 0) rfl rfl rfl (by decide) (by decide)) ?_
  refine kLoop (α := { i : Nat // i ≤ a.length })
    (fun y => ⟨tabSl [(1, .c (.ptr (rid 1 0) 1 0)), (2, .c (.ptr (rid 2 0) 1 0)), (3, .c (.ptr (rid 3 0) 1 0)), (8, .dv (encBB a)), (9, .i a.length), (10, .i y.1)],
      obTab 1 [(rid 1 0, ⟨1, 0, .box [.d (encBB a)]⟩), (rid 2 0, ⟨1, 0, .box [.nil 1]⟩), (rid 3 0, ⟨1, 0, .box [.arr (rid 5000 0) 1]⟩), (rid 5000 0, ⟨1, 0, .arr true (encBB (a.take y.1))⟩)], []⟩) (fun y => a.length - y.1) ⟨0, by simp⟩
    (.norm ?_ ?_) ?_
  · repeat' first | exact trivial | exact rfl | exact .inl rfl | refine ⟨_, rfl, ?_⟩ | refine ⟨?_, ?_⟩ | fail
  · repeat' first | exact trivial | exact rfl | exact .inl rfl | refine ⟨_, rfl, ?_⟩ | refine ⟨?_, ?_⟩ | fail
  rintro ⟨i, hi⟩
  simp only at hi ⊢
  refine kSeq (kReg (kBin rfl rfl rfl (kDone (kSeq ?_))))
  refine kCond rfl (fun h1 => ?_) (fun h1 => ?_)
  · have hlt : i < a.length := by simp at h1; omega
    refine kSkip (kSeq (kBlock (kSeq (kReg ?_))))
    refine kIadD rfl rfl rfl rfl ?_ ?_
    · rw [len_encBB]; omega
    rw [show (encBB a).row (i : Int).toNat = [encB a[i]] from row_encBB a i hlt]
    refine kLoadD rfl rfl (kMovC rfl (kDone (kRegD (kFadP rfl rfl (kLoadP rfl rfl rfl (kMovC rfl ?_))))))
    refine kCall1 false (ok_bytes_Clone a[i] (Nat.le_trans (hb _ (List.getElem_mem hlt)) (by omega))) ⟨rfl, trivial⟩ rfl rfl rfl fun os => ?_
    refine kLit rfl rfl rfl rfl (kRelF rfl rfl ?_)
    refine kApp rfl rfl rfl rfl rfl rfl ⟨rfl, rfl, Nat.zero_lt_one⟩ rfl ?_ ?_
    · show ((encBB (a.take i)).len + (DV.sl 1 [[encB a[i]]]).len) * 24 ≤ _ ∧ (encBB (a.take i)).len + (DV.sl 1 [[encB a[i]]]).len ≤ _
      rw [len_encBB, List.length_take]; simp [DV.len, DV.rows]; omega
    refine kFadP rfl rfl (kRelF rfl rfl (kStoreP rfl rfl rfl rfl (kDone (kH (kBk (kReg (kAdd rfl rfl (by omega) (kMovC rfl (kDone ?_)))))))))
    refine kInv ⟨⟨i + 1, hlt⟩, by simp only; omega, .norm ?_ ?_⟩
    · repeat' first | exact trivial | exact rfl | exact .inl rfl | refine ⟨_, rfl, ?_⟩ | refine ⟨?_, ?_⟩ | fail
    · repeat' first | exact trivial | exact rfl | exact .inl rfl | refine ⟨_, rfl, ?_⟩ | refine ⟨?_, ?_⟩ | fail
      rw [← List.take_append_getElem hlt, ← app_encBB]
      rfl
  · refine kExit (kExC (kExI (kExB (kSeq (kReg (kLoadP rfl rfl rfl (kStoreP rfl rfl rfl rfl (kDone ?_))))))))
    have hge : i = a.length := by simp at h1; omega
    subst hge
    refine kRet (endRet (ra := [.agg [.own true _]]) rfl ⟨⟨⟨⟨⟨⟨_, rfl, fun _ => rfl⟩, .inl Nat.zero_lt_one⟩, trivial⟩, Nat.le_of_ble_eq_true rfl⟩, trivial⟩, nodupB_sound rfl, ⟨trivial, trivial⟩, trivial⟩ ?_)
    rw [List.take_length]

def c_slices_Clone_Lint_int : C := (.seq (.reg false (.op 0 [] (some 2) none false (.mov (.n 1))
  .done))
 (.seq (.seq (.reg false (.op 0 [] (some 3) none false (.mov (.t 0))
  (.op 1 [] (some 4) none false (.eqn false (.t 3))
  .done)))
 (.cond (.t 4)
 (.seq (.reg false (.op 0 [] (some 2) none false (.mov (.n 1))
  .done))
 .ret)
 .skip))
 (.seq (.reg false (.op 0 [] (some 5) none false (.lit 5 1 [(.v (.int .i64 0))] 0 [])
  (.op 1 [] (some 6) none false (.mov (.t 0))
  (.op 2 [] (some 7) none false (.app 7 1 8 (.t 5) (.t 6))
  (.op 3 [] (some 2) none false (.mov (.t 7))
  .done)))))
 .ret)))
theorem dg_slices_Clone_Lint_int : Try.f65.body.bind (digC Try.prog Try.f65.ntmps []) = some c_slices_Clone_Lint_int := by kernel_rfl
theorem rs_slices_Clone_Lint_int : resSlots Try.prog Try.f65 = some [.s 2] := by kernel_rfl
theorem ok_slices_Clone_Lint_int (b : List Int) (hb : b.length ≤ 4194304) :
    FnOK Try.prog 65 [.one (.d (encI b))] (fun ra _ => ra = [.one (.own true (encI b))]) := by
  refine FnOK.ofK Try.func65 (by kernel_rfl) dg_slices_Clone_Lint_int rs_slices_Clone_Lint_int rfl rfl ?_
  unfold c_slices_Clone_Lint_int
  refine kSeq (kReg (kMovC rfl (kDone ?_)))
  refine kSeq (kSeq (kReg (kMovC rfl (kEqn rfl rfl rfl fun n hn => kDone ?_))))
  refine kCond rfl (fun h => ?_) (fun h => ?_)
  · refine kSeq (kReg (kMovC rfl (kDone (kRet ?_))))
    refine endRet (ra := [.one (.own true (.sl 1 []))]) rfl ⟨⟨rfl, trivial⟩, nodupB_sound rfl, trivial, trivial⟩ ?_
    have : b = [] := by
      rw [len_encI] at hn
      cases b with
      | nil => rfl
      | cons x l => have := hn (by simp); simp [this] at h
    rw [this]; rfl
  · refine kSkip (kSeq (kReg ?_))
    refine kLit rfl rfl rfl rfl (kMovC rfl ?_)
    refine kApp (cy := .d (encI b)) rfl rfl rfl (src_encI _ b) rfl rfl ⟨rfl, rfl, Nat.zero_lt_one⟩ rfl ?_ (kMovC rfl (kDone (kRet ?_)))
    · show ((DV.sl 1 (chunk 1 0 [])).len + (encI b).len) * 8 ≤ _ ∧ _
      rw [len_encI]; simp [DV.len, chunk]; omega
    refine endRet (ra := [.one (.own true _)]) rfl ⟨⟨⟨⟨_, rfl, fun _ => rfl⟩, .inl (Nat.zero_lt_succ _)⟩, trivial⟩, nodupB_sound rfl, trivial, trivial⟩ ?_
    exact congrArg (fun x => [RA.one (RV.own true x)]) (app_nil_encI b)

end Go.Proofs.Ytbmagbgdpmgbmaa.FnInsidesFn
