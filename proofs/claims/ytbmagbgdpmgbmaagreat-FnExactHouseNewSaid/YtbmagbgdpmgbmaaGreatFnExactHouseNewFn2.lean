/- What the functions that FnExactHouseNew reaches compute, one contract each; each with the bounds that it states. -/
import Derived.Test.YtbmagbgdpmgbmaaGreatFnExactHouseNewFn1
import Derived.Test.YtbmagbgdpmgbmaaGreatProg
import Derived.KernelRfl
set_option maxRecDepth 100000
set_option maxHeartbeats 8000000
set_option linter.unusedVariables false
set_option linter.unusedSimpArgs false
namespace Go.Proofs.YtbmagbgdpmgbmaaGreat.FnExactHouseNewFn
open Go Hearth Go.Proofs

def c_cmp_Compare_int : C := (.seq (.reg false (.o 0 4 (.mov (.i 0)) .done)) (.seq (.reg false (.o 0 7 (.mov (.t 0)) (.o 1 8 (.call 8 263 [(.t 7)]) (.o 2 5 (.mov (.t 8)) .done)))) (.seq (.reg false (.o 0 9 (.mov (.t 1)) (.o 1 10 (.call 10 263 [(.t 9)]) (.o 2 6 (.mov (.t 10)) .done)))) (.seq (.seq (.reg false (.o 0 11 (.mov (.t 5)) .done)) (.cond (.t 11) (.seq (.seq (.reg false (.o 0 12 (.mov (.t 6)) .done)) (.cond (.t 12) (.seq (.reg false (.o 0 4 (.mov (.i 0)) .done)) .ret) .skip)) (.seq (.reg false (.o 0 4 (.mov (.i (-1))) .done)) .ret)) .skip)) (.seq (.seq (.reg false (.o 0 13 (.mov (.t 6)) .done)) (.cond (.t 13) (.seq (.reg false (.o 0 4 (.mov (.i 1)) .done)) .ret) .skip)) (.seq (.seq (.reg false (.o 0 14 (.mov (.t 0)) (.o 1 15 (.mov (.t 1)) (.o 2 16 (.bin .lss (.t 14) (.t 15)) .done)))) (.cond (.t 16) (.seq (.reg false (.o 0 4 (.mov (.i (-1))) .done)) .ret) .skip)) (.seq (.seq (.reg false (.o 0 17 (.mov (.t 0)) (.o 1 18 (.mov (.t 1)) (.o 2 19 (.bin .gtr (.t 17) (.t 18)) .done)))) (.cond (.t 19) (.seq (.reg false (.o 0 4 (.mov (.i 1)) .done)) .ret) .skip)) (.seq (.reg false (.o 0 4 (.mov (.i 0)) .done)) .ret))))))))
theorem dg_cmp_Compare_int : Tryz.f197.body.bind (digC Tryz.prog Tryz.f197.ntmps []) = some c_cmp_Compare_int := by kernel_rfl
theorem rs_cmp_Compare_int : resSlots Tryz.prog Tryz.f197 = some [.s 4] := by kernel_rfl
theorem ok_cmp_Compare_int (a b : Int) :
    FnOK Tryz.prog 197 [.one (.d (.sc (.int .i64 a))), .one (.d (.sc (.int .i64 b)))] (fun ra _ => ra = [.one (.d (.sc (.int .i64 (cmpI a b))))]) := by
  refine FnOK.ofK Tryz.func197 (by kernel_rfl) dg_cmp_Compare_int rs_cmp_Compare_int rfl rfl ?_
  delta c_cmp_Compare_int T.o X.i
  refine kSeq (kReg (kMovC rfl (kDone (kSeq (kReg (kMovC rfl (kCallD (ok_cmp_isNaN_int _) ⟨rfl, trivial⟩ rfl rfl rfl rfl rfl (kMovC rfl (kDone (kSeq (kReg (kMovC rfl (kCallD (ok_cmp_isNaN_int _) ⟨rfl, trivial⟩ rfl rfl rfl rfl rfl (kMovC rfl (kDone (kSeq (kSeq (kReg (kMovC rfl (kDone (kCondF rfl (kSkip (kSeq (kSeq (kReg (kMovC rfl (kDone (kCondF rfl (kSkip (kSeq (kSeq (kReg (kMovC rfl (kMovC rfl (kBin rfl rfl rfl (kDone (kCondP rfl (fun g0 => kSeq (kReg (kMovC rfl (kDone (kRet (endRetA (ra := [.one (.d _)]) rfl ?_)))))) (fun g0 => kSkip (kSeq (kSeq (kReg (kMovC rfl (kMovC rfl (kBin rfl rfl rfl (kDone (kCondP rfl (fun g1 => kSeq (kReg (kMovC rfl (kDone (kRet (endRetA (ra := [.one (.d _)]) rfl ?_)))))) (fun g1 => kSkip (kSeq (kReg (kMovC rfl (kDone (kRet (endRetA (ra := [.one (.d _)]) rfl ?_)))))))))))))))))))))))))))))))))))))))))))))))))))))
  all_goals (refine congrArg (fun z : Int => [RA.one (RV.d (DV.sc (Value.int IntKind.i64 z)))]) ?_; unfold cmpI; split <;> first | omega | (split <;> omega))

def c_impl_Name_compare : C := (.seq (.reg false (.o 0 2 (.box 2 (.t 0)) (.o 1 3 (.box 3 (.t 1)) (.o 2 4 (.mov (.i 0)) .done)))) (.seq (.seq (.reg false (.o 0 5 (.mov (.i 1)) .done)) (.block 0 (.loop (.seq (.seq (.reg false (.o 0 7 (.mov (.t 5)) (.o 1 8 (.fad (.t 2) 0) (.o 2 9 (.load none (.t 8)) (.o 3 10 (.len (.t 9)) (.o 4 11 (.fad (.t 3) 0) (.o 5 12 (.load none (.t 11)) (.o 6 13 (.len (.t 12)) (.o 7 14 (.mm false (.t 10) (.t 13)) (.o 8 15 (.bin .leq (.t 7) (.t 14)) .done)))))))))) (.cond (.t 15) .skip (.exit 0))) (.seq (.block 1 (.seq (.reg true (.op 0 [] (some 18) none true (.fad (.t 2) 0) (.op 1 [] (some 19) none true (.load none (.t 18)) (.op 2 [] (some 20) none true (.fad (.t 2) 0) (.op 3 [] (some 21) none true (.load none (.t 20)) (.op 4 [] (some 22) none true (.len (.t 21)) (.op 5 [] (some 23) none true (.mov (.t 5)) (.op 6 [] (some 24) none true (.bin .sub (.t 22) (.t 23)) (.op 7 [] (some 25) none true (.iad 1 (.t 19) (.t 24)) (.op 8 [] (some 26) none true (.load none (.t 25)) (.op 9 [] (some 27) none true (.fad (.t 3) 0) (.op 10 [] (some 28) none true (.load none (.t 27)) (.op 11 [] (some 29) none true (.fad (.t 3) 0) (.op 12 [] (some 30) none true (.load none (.t 29)) (.op 13 [] (some 31) none true (.len (.t 30)) (.op 14 [] (some 32) none true (.mov (.t 5)) (.op 15 [] (some 33) none true (.bin .sub (.t 31) (.t 32)) (.op 16 [] (some 34) none true (.iad 1 (.t 28) (.t 33)) (.op 17 [] (some 35) none true (.load none (.t 34)) (.op 18 [8, 1, 3, 17, 10, 12] (some 36) none false (.call 36 198 [(.t 26), (.t 35)]) (.op 19 [] (some 6) none true (.mov (.t 36)) .done))))))))))))))))))))) (.seq (.reg false (.o 0 37 (.mov (.t 6)) (.o 1 38 (.bin .neq (.t 37) (.i 0)) .done))) (.cond (.t 38) (.seq (.reg false (.o 0 39 (.mov (.t 6)) (.o 1 4 (.mov (.t 39)) .done))) .ret) .skip)))) (.reg false (.o 0 16 (.mov (.t 5)) (.o 1 17 (.bin .add (.t 16) (.i 1)) (.o 2 5 (.mov (.t 17)) .done))))))))) (.seq (.reg false (.o 0 40 (.fad (.t 2) 0) (.o 1 41 (.load none (.t 40)) (.o 2 42 (.len (.t 41)) (.o 3 43 (.fad (.t 3) 0) (.o 4 44 (.load none (.t 43)) (.o 5 45 (.len (.t 44)) (.o 6 46 (.call 46 197 [(.t 42), (.t 45)]) (.o 7 4 (.mov (.t 46)) .done))))))))) .ret)))
theorem dg_impl_Name_compare : Tryz.f196.body.bind (digC Tryz.prog Tryz.f196.ntmps []) = some c_impl_Name_compare := by kernel_rfl
theorem rs_impl_Name_compare : resSlots Tryz.prog Tryz.f196 = some [.s 4] := by kernel_rfl
theorem ok_impl_Name_compare (a b : List (List UInt8)) (ha : a.length ≤ 4194304) (hb : b.length ≤ 4194304) :
    FnOK Tryz.prog 196 [.agg [.d (encBB a)], .agg [.d (encBB b)]] (fun ra _ => ra = [.one (.d (.sc (.int .i64 (cmpN a b))))]) := by
  refine FnOK.ofK Tryz.func196 (by kernel_rfl) dg_impl_Name_compare rs_impl_Name_compare rfl rfl ?_
  delta c_impl_Name_compare T.o X.i
  refine kSeq (kReg (kBox rfl rfl rfl rfl rfl (kBox rfl rfl rfl rfl rfl (kMovC rfl (kDone (kSeq (kSeq (kReg (kMovC rfl (kDone (kBlock ?_)))))))))))
  refine kLoop (α := { k : Nat // k ≤ a.length ∧ k ≤ b.length ∧ cmpN a b = cmpL (a.reverse.drop k) (b.reverse.drop k) })
    (fun y => ⟨tabSl [(2, .c (.ptr (rid 2 0) 1 0)), (3, .c (.ptr (rid 3 0) 1 0)), (5, .i (y.1 + 1))], obTab 1 [(rid 2 0, ⟨1, 0, .box [.d (encBB a)]⟩), (rid 3 0, ⟨1, 0, .box [.d (encBB b)]⟩)], []⟩) (fun y => a.length - y.1) ⟨0, by simp [cmpN]⟩
    .normA ?_
  rintro ⟨k, h1, h2, h3⟩
  simp only
  rcases Nat.lt_or_ge k a.length with hla | hga
  · rcases Nat.lt_or_ge k b.length with hlb | hgb
    · have hst := cmpL_step a b k hla hlb (a.length - (k + 1) : Int).toNat (b.length - (k + 1) : Int).toNat (by omega) (by omega)
      refine kSeq (kSeq (kReg (kMovC rfl (kFadP rfl rfl (kLoadP rfl rfl rfl (kLenR rfl rfl (kFadP rfl rfl (kLoadP rfl rfl rfl (kLenR rfl rfl (kMmMin rfl rfl (kBin rfl rfl rfl (kDone (kCondP rfl (fun g0 => kSkip (kSeq (kBlock (kSeq (kRegD (kFadP rfl rfl (kLoadP rfl rfl rfl (kFadP rfl rfl (kLoadP rfl rfl rfl (kLenR rfl rfl (kMovC rfl (kDif rfl rfl (by omega) (kIadT rfl rfl (by omega) (kLoadD rfl rfl (kFadP rfl rfl (kLoadP rfl rfl rfl (kFadP rfl rfl (kLoadP rfl rfl rfl (kLenR rfl rfl (kMovC rfl (kDif rfl rfl (by omega) (kIadT rfl rfl (by omega) (kLoadD rfl rfl (kRelF rfl rfl (kCallD (ok_bytes_Compare _ _) ⟨rfl, rfl, trivial⟩ rfl rfl rfl rfl rfl (kMovC rfl (kDone (kH (kSeq (kReg (kMovC rfl (kBin rfl rfl rfl (kDone (kCondIN rfl (fun g1 => kSeq (kReg (kMovC rfl (kMovC rfl (kDone (kRet (endRetA (ra := [.one (.d _)]) rfl ?_))))))) (fun g1 => kSkip (kBk (kReg (kMovC rfl (kAdd rfl rfl (by omega) (kMovC rfl (kDone ?_))))))))))))))))))))))))))))))))))))))))) (fun g0 => (by omega)))))))))))))))
      · rw [h3, hst, if_neg (by assumption)]
      · refine kInv ⟨⟨k + 1, hla, hlb, ?_⟩, by simp only; omega, .normA⟩
        rw [h3, hst, if_pos (by assumption)]
    · rw [cmpL_end a b k h1 h2 (by omega)] at h3
      refine kSeq (kSeq (kReg (kMovC rfl (kFadP rfl rfl (kLoadP rfl rfl rfl (kLenR rfl rfl (kFadP rfl rfl (kLoadP rfl rfl rfl (kLenR rfl rfl (kMmMin rfl rfl (kBin rfl rfl rfl (kDone (kCondP rfl (fun g0 => (by omega)) (fun g0 => kExit (kExC (kExI (kExB (kSeq (kReg (kFadP rfl rfl (kLoadP rfl rfl rfl (kLenR rfl rfl (kFadP rfl rfl (kLoadP rfl rfl rfl (kLenR rfl rfl (kCallD (ok_cmp_Compare_int _ _) ⟨rfl, rfl, trivial⟩ rfl rfl rfl rfl rfl (kMovC rfl (kDone (kRet (endRetA (ra := [.one (.d _)]) rfl ?_))))))))))))))))))))))))))))))
      all_goals (rw [h3]; refine congrArg (fun z : Int => [RA.one (RV.d (DV.sc (Value.int IntKind.i64 z)))]) ?_; unfold cmpI; split <;> (repeat' split) <;> omega)
  · rw [cmpL_end a b k h1 h2 (by omega)] at h3
    refine kSeq (kSeq (kReg (kMovC rfl (kFadP rfl rfl (kLoadP rfl rfl rfl (kLenR rfl rfl (kFadP rfl rfl (kLoadP rfl rfl rfl (kLenR rfl rfl (kMmMin rfl rfl (kBin rfl rfl rfl (kDone (kCondP rfl (fun g0 => (by omega)) (fun g0 => kExit (kExC (kExI (kExB (kSeq (kReg (kFadP rfl rfl (kLoadP rfl rfl rfl (kLenR rfl rfl (kFadP rfl rfl (kLoadP rfl rfl rfl (kLenR rfl rfl (kCallD (ok_cmp_Compare_int _ _) ⟨rfl, rfl, trivial⟩ rfl rfl rfl rfl rfl (kMovC rfl (kDone (kRet (endRetA (ra := [.one (.d _)]) rfl ?_))))))))))))))))))))))))))))))
    all_goals (rw [h3]; refine congrArg (fun z : Int => [RA.one (RV.d (DV.sc (Value.int IntKind.i64 z)))]) ?_; unfold cmpI; split <;> (repeat' split) <;> omega)

def c_impl_two : C := (.seq (.reg false (.o 0 2 (.mov (.n 1)) .done)) (.seq (.reg false (.o 0 3 (.mov (.t 0)) (.o 1 4 (.bin .shr (.t 3) (.v (.int .u64 8))) (.o 2 5 (.conv .u8 (.t 4)) (.o 3 6 (.mov (.t 0)) (.o 4 7 (.conv .u8 (.t 6)) (.o 5 8 (.lit 8 1 [(.v (.int .u8 0))] 2 [(0, 1, (.t 5)), (1, 1, (.t 7))]) (.o 6 2 (.mov (.t 8)) .done)))))))) .ret))
theorem dg_impl_two : Tryz.f286.body.bind (digC Tryz.prog Tryz.f286.ntmps []) = some c_impl_two := by kernel_rfl
theorem rs_impl_two : resSlots Tryz.prog Tryz.f286 = some [.s 2] := by kernel_rfl
theorem ok_impl_two (n : Int) :
    FnOK Tryz.prog 286 [.one (.d (.sc (.int .i64 n)))] (fun ra _ => ra = [.one (.own true (encB (w2 n)))]) := by
  refine FnOK.ofK Tryz.func286 (by kernel_rfl) dg_impl_two rs_impl_two rfl rfl ?_
  delta c_impl_two T.o X.i
  refine kSeq (kReg (kMovC rfl (kDone (kSeq (kReg (kMovC rfl (kShr (m := 8) rfl rfl rfl (kConvU8 rfl (kMovC rfl (kConvU8 rfl (kLit rfl rfl rfl rfl (kMovC rfl (kDone (kRet (endRetA (ra := [.one (.own true _)]) rfl rfl)))))))))))))))

def c_impl_four : C := (.seq (.reg false (.o 0 2 (.mov (.n 1)) .done)) (.seq (.reg false (.o 0 3 (.mov (.t 0)) (.o 1 4 (.bin .shr (.t 3) (.v (.int .u64 16))) (.o 2 5 (.call 5 286 [(.t 4)]) (.o 3 6 (.mov (.t 0)) (.o 4 7 (.call 7 286 [(.t 6)]) (.o 5 8 (.app 8 1 1 (.t 5) (.t 7)) (.o 6 2 (.mov (.t 8)) .done)))))))) .ret))
theorem dg_impl_four : Tryz.f265.body.bind (digC Tryz.prog Tryz.f265.ntmps []) = some c_impl_four := by kernel_rfl
theorem rs_impl_four : resSlots Tryz.prog Tryz.f265 = some [.s 2] := by kernel_rfl
theorem ok_impl_four (n : Int) :
    FnOK Tryz.prog 265 [.one (.d (.sc (.int .i64 n)))] (fun ra _ => ra = [.one (.own true (encB (w4 n)))]) := by
  refine FnOK.ofK Tryz.func265 (by kernel_rfl) dg_impl_four rs_impl_four rfl rfl ?_
  delta c_impl_four T.o X.i
  rw [← w4_two]
  have hl : ∀ m, (w2 m).length = 2 := fun _ => rfl
  have l1 := hl (sr n 16)
  have l2 := hl n
  refine kSeq (kReg (kMovC rfl (kDone (kSeq (kReg (kMovC rfl (kShr (m := 16) rfl rfl rfl (kCall1 true (ok_impl_two _) ⟨rfl, trivial⟩ rfl rfl rfl (fun _ => (kMovC rfl (kCall1 true (ok_impl_two _) ⟨rfl, trivial⟩ rfl rfl rfl (fun _ => (kAppR rfl rfl rfl rfl rfl rfl rfl rfl (by omega) (kMovC rfl (kDone (kRet (endRetA (ra := [.one (.own true _)]) rfl rfl)))))))))))))))))

def c_impl_Name_wire : C := (.seq (.reg false (.o 0 1 (.box 1 (.t 0)) (.o 1 2 (.mov (.n 1)) .done))) (.seq (.reg false (.o 0 6 (.lit 6 1 [(.v (.int .u8 0))] 0 []) (.o 1 3 (.mov (.t 6)) .done))) (.seq (.seq (.reg false (.o 0 7 (.fad (.t 1) 0) (.o 1 8 (.load none (.t 7)) (.o 2 9 (.len (.t 8)) (.o 3 10 (.mov (.i 0)) .done))))) (.block 0 (.loop (.seq (.reg false (.o 0 11 (.bin .lss (.t 10) (.t 9)) .done)) (.seq (.cond (.t 11) .skip (.exit 0)) (.seq (.block 1 (.seq (.reg false (.o 0 12 (.iad 1 (.t 8) (.t 10)) (.o 1 13 (.load none (.t 12)) (.o 2 5 (.mov (.t 13)) .done)))) (.reg false (.o 0 14 (.mov (.t 3)) (.o 1 15 (.mov (.t 5)) (.o 2 16 (.len (.t 15)) (.o 3 17 (.conv .u8 (.t 16)) (.o 4 18 (.lit 18 1 [(.v (.int .u8 0))] 1 [(0, 1, (.t 17))]) (.o 5 19 (.app 19 1 1 (.t 14) (.t 18)) (.o 6 20 (.mov (.t 5)) (.o 7 21 (.app 21 1 1 (.t 19) (.t 20)) (.o 8 3 (.mov (.t 21)) .done)))))))))))) (.reg false (.o 0 22 (.bin .add (.t 10) (.i 1)) (.o 1 10 (.mov (.t 22)) .done))))))))) (.seq (.reg false (.o 0 23 (.mov (.t 3)) (.o 1 24 (.lit 24 1 [(.v (.int .u8 0))] 1 [(0, 1, (.v (.int .u8 0)))]) (.o 2 25 (.app 25 1 1 (.t 23) (.t 24)) (.o 3 2 (.mov (.t 25)) .done))))) .ret))))
theorem dg_impl_Name_wire : Tryz.f266.body.bind (digC Tryz.prog Tryz.f266.ntmps []) = some c_impl_Name_wire := by kernel_rfl
theorem rs_impl_Name_wire : resSlots Tryz.prog Tryz.f266 = some [.s 2] := by kernel_rfl
theorem ok_impl_Name_wire (a : List (List UInt8)) (hs : SmallBB a) :
    FnOK Tryz.prog 266 [.agg [.d (encBB a)]] (fun ra _ => ra = [.one (.own true (encB (wireN a)))]) := by
  refine FnOK.ofK Tryz.func266 (by kernel_rfl) dg_impl_Name_wire rs_impl_Name_wire rfl rfl ?_
  delta c_impl_Name_wire T.o X.i
  have h1 := hs.len
  have h2 := hs.flat
  refine kSeq (kReg (kBox rfl rfl rfl rfl rfl (kMovC rfl (kDone (kSeq (kReg (kLit rfl rfl rfl rfl (kMovC rfl (kDone (kSeq (kSeq (kReg (kFadP rfl rfl (kLoadP rfl rfl rfl (kLenR rfl rfl (kMovC rfl (kDone (kBlock ?_))))))))))))))))))
  refine kLoop (α := { i : Nat // i ≤ a.length }) (fun y => ⟨tabSl [(3, .c (.arr (rid 6 0) 1)), (8, .dv (encBB a)), (9, .i a.length), (10, .i y.1)], obTab 1 [(rid 6 0, ⟨1, 0, .arr true (encB (wireL (a.take y.1)))⟩)], []⟩) (fun y => a.length - y.1) ⟨0, by simp⟩ .normA ?_
  rintro ⟨i, hi⟩
  simp only
  have hl := wireL_le a i
  rcases Nat.lt_or_ge i a.length with hlt | hge
  · have hst := wireL_take a i hlt
    have hm := hs.mem _ (List.getElem_mem hlt)
    have hlen : (wireL (a.take i) ++ [u8 a[i].length]).length = (wireL (a.take i)).length + 1 := by simp
    refine kSeq (kReg (kBin rfl rfl rfl (kDone (kSeq (kCondP rfl (fun g0 => kSkip (kSeq (kBlock (kSeq (kReg (kIadR rfl rfl rfl (by omega) (kLoadD rfl rfl (kMovC rfl (kDone (kReg (kMovC rfl (kMovC rfl (kLenR rfl rfl (kConvU8 rfl (kLit rfl rfl rfl rfl (kAppR1 rfl rfl rfl rfl rfl rfl rfl rfl (by omega) (kMovC rfl (kAppR rfl rfl rfl (src_encB _ _) rfl rfl rfl rfl (by omega) (kMovC rfl (kDone (kBk (kReg (kAdd rfl rfl (by omega) (kMovC rfl (kDone ?_))))))))))))))))))))))))) (fun g0 => (by omega)))))))
    refine kInv ⟨⟨i + 1, by omega⟩, by simp only; omega, ?_⟩
    simp only [hst]
    exact .normA
  · have he : wireN a = wireL (a.take i) ++ [0] := by rw [show i = a.length by omega, List.take_length]; rfl
    rw [he]
    refine kSeq (kReg (kBin rfl rfl rfl (kDone (kSeq (kCondP rfl (fun g0 => (by omega)) (fun g0 => kExit (kExC (kExI (kExB (kSeq (kReg (kMovC rfl (kLit rfl rfl rfl rfl (kAppR1 (z := (0 : UInt8)) rfl rfl rfl rfl rfl rfl rfl rfl (by omega) (kMovC rfl (kDone (kRet (endRetA (ra := [.one (.own true _)]) rfl rfl))))))))))))))))))

def c_impl_Rr_data : C := (.seq (.reg false (.o 0 1 (.box 1 (.t 0)) (.o 1 2 (.mov (.n 1)) .done))) (.seq (.block 0 (.seq (.reg false (.o 0 7 (.fad (.t 1) 1) (.o 1 8 (.load none (.t 7)) (.o 2 9 (.bin .eql (.t 8) (.i 1)) (.o 3 6 (.mov (.t 9)) .done))))) (.cond (.t 6) (.seq (.reg false (.o 0 10 (.fad (.t 1) 3) (.o 1 11 (.load none (.t 10)) (.o 2 12 (.call 12 265 [(.t 11)]) (.o 3 2 (.mov (.t 12)) .done))))) .ret) (.seq (.reg false (.o 0 14 (.fad (.t 1) 1) (.o 1 15 (.load none (.t 14)) (.o 2 16 (.call 16 193 [(.t 15)]) (.o 3 13 (.mov (.t 16)) .done))))) (.cond (.t 13) (.seq (.reg false (.o 0 17 (.fad (.t 1) 4) (.o 1 18 (.load (some 1) (.t 17)) (.o 2 19 (.call 19 266 [(.t 18)]) (.o 3 3 (.mov (.t 19)) .done))))) (.seq (.seq (.reg false (.o 0 20 (.fad (.t 1) 6) (.o 1 21 (.load none (.t 20)) (.o 2 22 (.len (.t 21)) (.o 3 23 (.mov (.i 0)) .done))))) (.block 1 (.loop (.seq (.reg false (.o 0 24 (.bin .lss (.t 23) (.t 22)) .done)) (.seq (.cond (.t 24) .skip (.exit 1)) (.seq (.block 2 (.seq (.reg false (.o 0 25 (.iad 1 (.t 21) (.t 23)) (.o 1 26 (.load none (.t 25)) (.o 2 5 (.mov (.t 26)) .done)))) (.reg false (.o 0 27 (.mov (.t 3)) (.o 1 28 (.mov (.t 5)) (.o 2 29 (.call 29 265 [(.t 28)]) (.o 3 30 (.app 30 1 1 (.t 27) (.t 29)) (.o 4 3 (.mov (.t 30)) .done)))))))) (.reg false (.o 0 31 (.bin .add (.t 23) (.i 1)) (.o 1 23 (.mov (.t 31)) .done))))))))) (.seq (.reg false (.o 0 32 (.mov (.t 3)) (.o 1 2 (.mov (.t 32)) .done))) .ret))) .skip))))) (.seq (.reg false (.o 0 33 (.fad (.t 1) 5) (.o 1 34 (.load none (.t 33)) (.o 2 35 (.len (.t 34)) (.o 3 36 (.conv .u8 (.t 35)) (.o 4 37 (.lit 37 1 [(.v (.int .u8 0))] 1 [(0, 1, (.t 36))]) (.o 5 38 (.fad (.t 1) 5) (.o 6 39 (.load none (.t 38)) (.o 7 40 (.app 40 1 1 (.t 37) (.t 39)) (.o 8 2 (.mov (.t 40)) .done)))))))))) .ret)))
theorem dg_impl_Rr_data : Tryz.f199.body.bind (digC Tryz.prog Tryz.f199.ntmps []) = some c_impl_Rr_data := by kernel_rfl
theorem rs_impl_Rr_data : resSlots Tryz.prog Tryz.f199 = some [.s 2] := by kernel_rfl
theorem ok_impl_Rr_data (r : Rr) (hs : SmallR r) :
    FnOK Tryz.prog 199 [.agg (r.cells.map .d)] (fun ra _ => ra = [.one (.own true (encB (rdata r)))]) := by
  refine FnOK.ofK Tryz.func199 (by kernel_rfl) dg_impl_Rr_data rs_impl_Rr_data rfl rfl ?_
  delta c_impl_Rr_data T.o X.i
  have ht := hs.t
  have t1 := hs.t.len
  have t2 := hs.t.flat
  have x1 := hs.x
  have m1 := hs.m
  by_cases h1 : r.ty = 1
  · rw [rdata_A h1]
    refine kSeq (kReg (kBox rfl rfl rfl rfl rfl (kMovC rfl (kDone (kSeq (kBlock (kSeq (kReg (kFadP rfl rfl (kLoadP rfl rfl rfl (kBin rfl rfl rfl (kMovC rfl (kDone (kCondP rfl (fun g0 => kSeq (kReg (kFadP rfl rfl (kLoadP rfl rfl rfl (kCall1 true (ok_impl_four _) ⟨rfl, trivial⟩ rfl rfl rfl (fun _ => (kMovC rfl (kDone (kRet (endRetA (ra := [.one (.own true _)]) rfl rfl)))))))))) (fun g0 => (by omega))))))))))))))))
  cases h2 : hasTo r.ty
  · rw [rdata_text h1 h2]
    refine kSeq (kReg (kBox rfl rfl rfl rfl rfl (kMovC rfl (kDone (kSeq (kBlock (kSeq (kReg (kFadP rfl rfl (kLoadP rfl rfl rfl (kBin rfl rfl rfl (kMovC rfl (kDone (kCondP rfl (fun g0 => (by omega)) (fun g0 => kSeq (kReg (kFadP rfl rfl (kLoadP rfl rfl rfl (kCallD (ok_impl_hasTo _) ⟨rfl, trivial⟩ rfl rfl rfl rfl rfl (kMovC rfl (kDone (kCond rfl (fun g1 => (by (simp [*] at g1))) (fun g1 => kSkip (kBk (kSeq (kReg (kFadP rfl rfl (kLoadP rfl rfl rfl (kLenR rfl rfl (kConvU8 rfl (kLit rfl rfl rfl rfl (kFadP rfl rfl (kLoadP rfl rfl rfl (kApp1R rfl rfl (src_encB _ _) rfl rfl rfl rfl rfl (by omega) (kMovC rfl (kDone (kRet (endRetA (ra := [.one (.own true _)]) rfl rfl))))))))))))))))))))))))))))))))))))))
  · rw [rdata_to h1 h2]
    refine kSeq (kReg (kBox rfl rfl rfl rfl rfl (kMovC rfl (kDone (kSeq (kBlock (kSeq (kReg (kFadP rfl rfl (kLoadP rfl rfl rfl (kBin rfl rfl rfl (kMovC rfl (kDone (kCondP rfl (fun g0 => (by omega)) (fun g0 => kSeq (kReg (kFadP rfl rfl (kLoadP rfl rfl rfl (kCallD (ok_impl_hasTo _) ⟨rfl, trivial⟩ rfl rfl rfl rfl rfl (kMovC rfl (kDone (kCond rfl (fun g1 => kSeq (kReg (kFadP rfl rfl (kLoadP rfl rfl rfl (kCall1 true (ok_impl_Name_wire _ pr) ⟨⟨⟨rfl, trivial⟩, leb⟩, trivial⟩ rfl rfl rfl (fun _ => (kMovC rfl (kDone (kSeq (kSeq (kReg (kFadP rfl rfl (kLoadP rfl rfl rfl (kLenR rfl rfl (kMovC rfl (kDone (kBlock ?_))))))))))))))))) (fun g1 => (by (simp [*] at g1)))))))))))))))))))))))))
    refine kLoop (α := { i : Nat // i ≤ r.nums.length }) (fun y => ⟨tabSl [(3, .c (.arr (rid 19 0) 1)), (21, .dv (encI r.nums)), (22, .i r.nums.length), (23, .i y.1)], obTab 1 [(rid 19 0, ⟨1, 0, .arr true (encB (wireN r.to ++ (r.nums.take y.1).flatMap w4))⟩)], []⟩) (fun y => r.nums.length - y.1) ⟨0, by simp⟩ (by simp only [List.take_zero, List.flatMap_nil, List.append_nil]; exact .normA) ?_
    rintro ⟨i, hi⟩
    simp only
    have hl : (wireN r.to ++ (r.nums.take i).flatMap w4).length ≤ 33554432 := by
      rw [List.length_append, wireN_len, w4s_len, List.length_take]; omega
    have hl4 : ∀ n, (w4 n).length = 4 := w4_len
    rcases Nat.lt_or_ge i r.nums.length with hlt | hge
    · have hst : wireN r.to ++ (r.nums.take (i + 1)).flatMap w4 = wireN r.to ++ (r.nums.take i).flatMap w4 ++ w4 r.nums[i] := by rw [flatMap_take _ _ _ hlt, List.append_assoc]
      have h4 := hl4 r.nums[i]
      refine kSeq (kReg (kBin rfl rfl rfl (kDone (kSeq (kCondP rfl (fun g0 => kSkip (kSeq (kBlock (kSeq (kReg (kIadR rfl rfl rfl (by omega) (kLoadD rfl rfl (kMovC rfl (kDone (kReg (kMovC rfl (kMovC rfl (kCall1 true (ok_impl_four _) ⟨rfl, trivial⟩ rfl rfl rfl (fun _ => (kAppR rfl rfl rfl rfl rfl rfl rfl rfl (by omega) (kMovC rfl (kDone (kBk (kReg (kAdd rfl rfl (by omega) (kMovC rfl (kDone ?_)))))))))))))))))))))) (fun g0 => (by omega)))))))
      refine kInv ⟨⟨i + 1, by omega⟩, by simp only; omega, ?_⟩
      simp only [hst]
      exact .normA
    · rw [show i = r.nums.length by omega, List.take_length]
      refine kSeq (kReg (kBin rfl rfl rfl (kDone (kSeq (kCondP rfl (fun g0 => (by omega)) (fun g0 => kExit (kExC (kExI (kExB (kSeq (kReg (kMovC rfl (kMovC rfl (kDone (kRet (endRetA (ra := [.one (.own true _)]) rfl rfl))))))))))))))))

def c_cmp_Or_int : C := (.seq (.reg false (.o 0 2 (.mov (.i 0)) .done)) (.seq (.reg false (.o 0 3 (.mov (.i 0)) .done)) (.seq (.seq (.reg false (.o 0 6 (.mov (.t 0)) (.o 1 7 (.len (.t 6)) (.o 2 8 (.mov (.i 0)) .done)))) (.block 0 (.loop (.seq (.reg false (.o 0 9 (.bin .lss (.t 8) (.t 7)) .done)) (.seq (.cond (.t 9) .skip (.exit 0)) (.seq (.block 1 (.seq (.reg false (.o 0 10 (.iad 1 (.t 6) (.t 8)) (.o 1 11 (.load none (.t 10)) (.o 2 5 (.mov (.t 11)) .done)))) (.seq (.reg false (.o 0 12 (.mov (.t 5)) (.o 1 13 (.mov (.t 3)) (.o 2 14 (.bin .neq (.t 12) (.t 13)) .done)))) (.cond (.t 14) (.seq (.reg false (.o 0 15 (.mov (.t 5)) (.o 1 2 (.mov (.t 15)) .done))) .ret) .skip)))) (.reg false (.o 0 16 (.bin .add (.t 8) (.i 1)) (.o 1 8 (.mov (.t 16)) .done))))))))) (.seq (.reg false (.o 0 17 (.mov (.t 3)) (.o 1 2 (.mov (.t 17)) .done))) .ret))))
theorem dg_cmp_Or_int : Tryz.f195.body.bind (digC Tryz.prog Tryz.f195.ntmps []) = some c_cmp_Or_int := by kernel_rfl
theorem rs_cmp_Or_int : resSlots Tryz.prog Tryz.f195 = some [.s 2] := by kernel_rfl
theorem ok_cmp_Or_int (l : List Int) (h : l.length ≤ 4194304) :
    FnOK Tryz.prog 195 [.one (.d (encI l))] (fun ra _ => ra = [.one (.d (.sc (.int .i64 (orL l))))]) := by
  refine FnOK.ofK Tryz.func195 (by kernel_rfl) dg_cmp_Or_int rs_cmp_Or_int rfl rfl ?_
  delta c_cmp_Or_int T.o X.i
  refine kSeq (kReg (kMovC rfl (kDone (kSeq (kReg (kMovC rfl (kDone (kSeq (kSeq (kReg (kMovC rfl (kLenR rfl rfl (kMovC rfl (kDone (kBlock ?_)))))))))))))))
  refine kLoop (α := { i : Nat // i ≤ l.length ∧ orL l = orL (l.drop i) }) (fun y => ⟨tabSl [(3, .i 0), (6, .dv (encI l)), (7, .i l.length), (8, .i y.1)], obTab 1 [], []⟩) (fun y => l.length - y.1) ⟨0, by simp⟩ .normA ?_
  rintro ⟨i, hi, hr⟩
  simp only
  rcases Nat.lt_or_ge i l.length with hlt | hge
  · have hst := orL_drop l i hlt
    refine kSeq (kReg (kBin rfl rfl rfl (kDone (kSeq (kCondP rfl (fun g0 => kSkip (kSeq (kBlock (kSeq (kReg (kIadR rfl rfl rfl (by omega) (kLoadD rfl rfl (kMovC rfl (kDone (kSeq (kReg (kMovC rfl (kMovC rfl (kBin rfl rfl rfl (kDone (kCondIN rfl (fun g1 => kSeq (kReg (kMovC rfl (kMovC rfl (kDone (kRet (endRetA (ra := [.one (.d _)]) rfl ?_))))))) (fun g1 => kSkip (kBk (kReg (kAdd rfl rfl (by omega) (kMovC rfl (kDone ?_)))))))))))))))))))))) (fun g0 => (by omega)))))))
    · rw [hr, hst, if_neg (by assumption)]
    · exact kInv ⟨⟨i + 1, by omega, by rw [hr, hst, if_pos (by assumption)]⟩, by simp only; omega, .normA⟩
  · have hst : orL l = 0 := by rw [hr, List.drop_eq_nil_of_le hge]; rfl
    rw [hst]
    refine kSeq (kReg (kBin rfl rfl rfl (kDone (kSeq (kCondP rfl (fun g0 => (by omega)) (fun g0 => kExit (kExC (kExI (kExB (kSeq (kReg (kMovC rfl (kMovC rfl (kDone (kRet (endRetA (ra := [.one (.d _)]) rfl rfl))))))))))))))))

theorem ok_cmp_Or_int3 (a b c : Int) :
    FnOK Tryz.prog 195 [.one (.d (.sl 1 [[.sc (.int .i64 a)], [.sc (.int .i64 b)], [.sc (.int .i64 c)]]))] (fun ra _ => ra = [.one (.d (.sc (.int .i64 (orL [a, b, c]))))]) := ok_cmp_Or_int [a, b, c] (by simp)
theorem ok_cmp_Or_int2 (a b : Int) :
    FnOK Tryz.prog 195 [.one (.d (.sl 1 [[.sc (.int .i64 a)], [.sc (.int .i64 b)]]))] (fun ra _ => ra = [.one (.d (.sc (.int .i64 (orL [a, b]))))]) := ok_cmp_Or_int [a, b] (by simp)

def c_impl_Rr_compare : C := (.seq (.reg false (.o 0 2 (.box 2 (.t 0)) (.o 1 3 (.box 3 (.t 1)) (.o 2 4 (.mov (.i 0)) .done)))) (.seq (.reg true (.op 0 [] (some 5) none true (.fad (.t 2) 0) (.op 1 [] (some 6) none true (.load (some 1) (.t 5)) (.op 2 [] (some 7) none true (.fad (.t 3) 0) (.op 3 [] (some 8) none true (.load (some 1) (.t 7)) (.op 5 [] (some 10) none true (.fad (.t 2) 1) (.op 6 [] (some 11) none true (.load none (.t 10)) (.op 7 [] (some 12) none true (.fad (.t 3) 1) (.op 8 [] (some 13) none true (.load none (.t 12)) (.op 10 [] (some 15) none true (.load (some 7) (.t 2)) (.op 12 [] (some 17) none true (.load (some 7) (.t 3)) (.op 4 [1, 3] (some 9) none false (.call 9 196 [(.t 6), (.t 8)]) (.op 9 [6, 8, 1, 3] (some 14) none false (.call 14 197 [(.t 11), (.t 13)]) (.op 11 [10, 6, 8, 1, 3] (some 16) none false (.call 16 199 [(.t 15)]) (.op 13 [12, 10, 6, 8, 1, 3] (some 18) none false (.call 18 199 [(.t 17)]) (.op 14 [10, 6, 8, 1, 3, 12] (some 19) none false (.call 19 198 [(.t 16), (.t 18)]) (.op 15 [1, 3, 6, 8, 10, 12] (some 20) none false (.lit 20 1 [(.i 0)] 3 [(0, 1, (.t 9)), (1, 1, (.t 14)), (2, 1, (.t 19))]) (.op 16 [1, 3, 6, 8, 10, 12] (some 21) none false (.call 21 195 [(.t 20)]) (.op 17 [] (some 4) none true (.mov (.t 21)) .done))))))))))))))))))) .ret))
theorem dg_impl_Rr_compare : Tryz.f89.body.bind (digC Tryz.prog Tryz.f89.ntmps []) = some c_impl_Rr_compare := by kernel_rfl
theorem rs_impl_Rr_compare : resSlots Tryz.prog Tryz.f89 = some [.s 4] := by kernel_rfl
theorem ok_impl_Rr_compare (a b : Rr) (ha : SmallR a) (hb : SmallR b) :
    FnOK Tryz.prog 89 [.agg (a.cells.map .d), .agg (b.cells.map .d)] (fun ra _ => ra = [.one (.d (.sc (.int .i64 (cmpR a b))))]) := by
  refine FnOK.ofK Tryz.func89 (by kernel_rfl) dg_impl_Rr_compare rs_impl_Rr_compare rfl rfl ?_
  delta c_impl_Rr_compare T.o X.i
  have n1 := ha.n.len
  have n2 := hb.n.len
  have r1 := rdata_le ha
  have r2 := rdata_le hb
  rw [cmpR_or]
  refine kSeq (kReg (kBox rfl rfl rfl rfl rfl (kBox rfl rfl rfl rfl rfl (kMovC rfl (kDone (kSeq (kRegD (kFadP rfl rfl (kLoadP rfl rfl rfl (kFadP rfl rfl (kLoadP rfl rfl rfl (kFadP rfl rfl (kLoadP rfl rfl rfl (kFadP rfl rfl (kLoadP rfl rfl rfl (kLoadP rfl rfl rfl (kLoadP rfl rfl rfl (kRelK rfl rfl (kCallD (ok_impl_Name_compare _ _ pr pr) ⟨⟨⟨rfl, trivial⟩, leb⟩, ⟨⟨rfl, trivial⟩, leb⟩, trivial⟩ rfl rfl rfl rfl rfl (kRelK rfl rfl (kCallD (ok_cmp_Compare_int _ _) ⟨rfl, rfl, trivial⟩ rfl rfl rfl rfl rfl (kRelK rfl rfl (kCall1 true (ok_impl_Rr_data _ pr) ⟨⟨⟨rfl, rfl, rfl, rfl, rfl, rfl, rfl, trivial⟩, leb⟩, trivial⟩ rfl rfl rfl (fun _ => (kRelF rfl rfl (kCall1 true (ok_impl_Rr_data _ pr) ⟨⟨⟨rfl, rfl, rfl, rfl, rfl, rfl, rfl, trivial⟩, leb⟩, trivial⟩ rfl rfl rfl (fun _ => (kRelF rfl rfl (kCallD (ok_bytes_Compare _ _) ⟨rfl, rfl, trivial⟩ rfl rfl rfl rfl rfl (kRelF rfl rfl (kLit rfl rfl rfl rfl (kRelF rfl rfl (kCallD (ok_cmp_Or_int3 _ _ _) ⟨rfl, trivial⟩ rfl rfl rfl rfl rfl (kMovC rfl (kDone (kH (kRet (endRetA (ra := [.one (.d _)]) rfl rfl))))))))))))))))))))))))))))))))))))))


def c_slices_EqualFunc_LLbyte_LLbyte_Lbyte_Lbyte : C := (.seq (.reg false (.o 0 6 (.mov (.v (.bool false))) .done)) (.seq (.seq (.reg false (.o 0 10 (.mov (.t 0)) (.o 1 11 (.len (.t 10)) (.o 2 12 (.mov (.t 1)) (.o 3 13 (.len (.t 12)) (.o 4 14 (.bin .neq (.t 11) (.t 13)) .done)))))) (.cond (.t 14) (.seq (.reg false (.o 0 6 (.mov (.v (.bool false))) .done)) .ret) .skip)) (.seq (.seq (.reg false (.o 0 15 (.mov (.t 0)) (.o 1 16 (.len (.t 15)) (.o 2 17 (.mov (.i 0)) .done)))) (.block 0 (.loop (.seq (.reg false (.o 0 18 (.bin .lss (.t 17) (.t 16)) .done)) (.seq (.cond (.t 18) .skip (.exit 0)) (.seq (.block 1 (.seq (.reg false (.o 0 19 (.mov (.t 17)) (.o 1 20 (.iad 1 (.t 15) (.t 17)) (.o 2 21 (.load none (.t 20)) (.o 3 7 (.mov (.t 19)) (.o 4 8 (.mov (.t 21)) .done)))))) (.seq (.reg false (.o 0 22 (.mov (.t 1)) (.o 1 23 (.mov (.t 7)) (.o 2 24 (.iad 1 (.t 22) (.t 23)) (.o 3 25 (.load none (.t 24)) (.o 4 9 (.mov (.t 25)) .done)))))) (.seq (.reg false (.o 0 26 (.mov (.t 2)) (.o 1 27 (.mov (.t 8)) (.o 2 28 (.mov (.t 9)) (.o 3 29 (.callv 29 (.t 26) [(.t 27), (.t 28)]) (.o 4 30 (.un .not (.t 29)) .done)))))) (.cond (.t 30) (.seq (.reg false (.o 0 6 (.mov (.v (.bool false))) .done)) .ret) .skip))))) (.reg false (.o 0 31 (.bin .add (.t 17) (.i 1)) (.o 1 17 (.mov (.t 31)) .done))))))))) (.seq (.reg false (.o 0 6 (.mov (.v (.bool true))) .done)) .ret))))
theorem dg_slices_EqualFunc_LLbyte_LLbyte_Lbyte_Lbyte : Tryz.f200.body.bind (digC Tryz.prog Tryz.f200.ntmps []) = some c_slices_EqualFunc_LLbyte_LLbyte_Lbyte_Lbyte := by kernel_rfl
theorem rs_slices_EqualFunc_LLbyte_LLbyte_Lbyte_Lbyte : resSlots Tryz.prog Tryz.f200 = some [.s 6] := by kernel_rfl
def fcEq : FC := fun l R => ∃ x y : List UInt8, l = [DA.one (encB x), DA.one (encB y)] ∧ R = fun ra => ra = [.one (.d (.sc (.bool (x == y))))]
theorem ok_slices_EqualFunc_LLbyte_LLbyte_Lbyte_Lbyte (a b : List (List UInt8)) (ha : a.length ≤ 4194304) (hb : b.length ≤ 4194304) :
    FnOK Tryz.prog 200 [.one (.d (encBB a)), .one (.d (encBB b)), .one (.fv false fcEq)] (fun ra _ => ra = [.one (.d (.sc (.bool (decide (a = b)))))]) := by
  refine FnOK.ofK Tryz.func200 (by kernel_rfl) dg_slices_EqualFunc_LLbyte_LLbyte_Lbyte_Lbyte rs_slices_EqualFunc_LLbyte_LLbyte_Lbyte_Lbyte rfl rfl ?_
  delta c_slices_EqualFunc_LLbyte_LLbyte_Lbyte_Lbyte T.o X.i
  refine kSeq (kReg (kMovC rfl (kDone (kSeq (kSeq (kReg (kMovC rfl (kLenR rfl rfl (kMovC rfl (kLenR rfl rfl (kBin rfl rfl rfl (kDone (kCondIN rfl (fun g0 => kSeq (kReg (kMovC rfl (kDone (kRet (endRetA (ra := [.one (.d _)]) rfl ?_)))))) (fun g0 => kSkip (kSeq (kSeq (kReg (kMovC rfl (kLenR rfl rfl (kMovC rfl (kDone (kBlock ?_))))))))))))))))))))))
  · rw [decide_eq_false (by rintro rfl; simp_all)]
  have hab : a.length = b.length := by omega
  refine kLoop (α := { i : Nat // i ≤ a.length ∧ a.take i = b.take i })
    (fun y => ⟨tabSl [(1, .dv (encBB b)), (2, .c (.fv false fcEq)), (15, .dv (encBB a)), (16, .i a.length), (17, .i y.1)], obTab 1 [], []⟩) (fun y => a.length - y.1) ⟨0, by simp⟩
    .normA ?_
  rintro ⟨i, hi, he⟩
  simp only
  rcases Nat.lt_or_ge i a.length with hlt | hge
  · refine kSeq (kReg (kBin rfl rfl rfl (kDone (kSeq (kCondP rfl (fun g0 => kSkip (kSeq (kBlock (kSeq (kReg (kMovC rfl (kIadR rfl rfl rfl (by omega) (kLoadD rfl rfl (kMovC rfl (kMovC rfl (kDone (kSeq (kReg (kMovC rfl (kMovC rfl (kIadR rfl rfl rfl (by omega) (kLoadD rfl rfl (kMovC rfl (kDone (kSeq (kReg (kMovC rfl (kMovC rfl (kMovC rfl ?_)))))))))))))))))))))))) (fun g0 => (by omega)))))))
    refine kCallv rfl ⟨a[i], b[i], rfl, rfl⟩ ⟨rfl, rfl, trivial⟩ (.inr ?_) rfl ?_ rfl ?_
    · rintro _ rfl; rfl
    · rintro _ rfl; exact leb
    rintro _ rfl
    refine kUn rfl rfl (kDone (kCondN rfl (fun g0 => kSeq (kReg (kMovC rfl (kDone (kRet (endRetA (ra := [.one (.d _)]) rfl ?_)))))) (fun g0 => kSkip (kBk (kReg (kAdd rfl rfl (by omega) (kMovC rfl (kDone ?_))))))))
    · rw [decide_eq_false]
      rintro rfl
      simp_all
    · refine kInv ⟨⟨i + 1, by omega, ?_⟩, by simp only; omega, .normA⟩
      rw [← List.take_append_getElem (by omega), ← List.take_append_getElem (by omega), he]
      simp_all
  · refine kSeq (kReg (kBin rfl rfl rfl (kDone (kSeq (kCondP rfl (fun g0 => (by omega)) (fun g0 => kExit (kExC (kExI (kExB (kSeq (kReg (kMovC rfl (kDone (kRet (endRetA (ra := [.one (.d _)]) rfl ?_)))))))))))))))
    rw [show i = a.length by omega, List.take_length, hab, List.take_length] at he
    rw [he, decide_eq_true rfl]

def c_bytes_Equal : C := (.seq (.reg false (.o 0 4 (.mov (.v (.bool false))) .done)) (.seq (.reg false (.o 0 5 (.mov (.t 0)) (.o 1 6 (.b2s (.t 5)) (.o 2 7 (.mov (.t 1)) (.o 3 8 (.b2s (.t 7)) (.o 4 9 (.bin .eql (.t 6) (.t 8)) (.o 5 4 (.mov (.t 9)) .done))))))) .ret))
theorem dg_bytes_Equal : Tryz.f201.body.bind (digC Tryz.prog Tryz.f201.ntmps []) = some c_bytes_Equal := by kernel_rfl
theorem rs_bytes_Equal : resSlots Tryz.prog Tryz.f201 = some [.s 4] := by kernel_rfl
theorem ok_bytes_Equal (a b : List UInt8) :
    FnOK Tryz.prog 201 [.one (.d (encB a)), .one (.d (encB b))] (fun ra _ => ra = [.one (.d (.sc (.bool (a == b))))]) := by
  refine FnOK.ofK Tryz.func201 (by kernel_rfl) dg_bytes_Equal rs_bytes_Equal rfl rfl ?_
  delta c_bytes_Equal T.o X.i
  refine kSeq (kReg (kMovC rfl (kDone (kSeq (kReg (kMovC rfl (kB2s rfl rfl (kMovC rfl (kB2s rfl rfl (kBin rfl rfl rfl (kMovC rfl (kDone (kRet (endRetA (ra := [.one (.d _)]) rfl ?_))))))))))))))
  simp only [bt_list]

def c_impl_Name_under : C := (.seq (.reg false (.o 0 2 (.box 2 (.t 0)) (.o 1 3 (.box 3 (.t 1)) (.o 2 4 (.mov (.v (.bool false))) .done)))) (.seq (.reg false (.o 0 6 (.fad (.t 2) 0) (.o 1 7 (.load none (.t 6)) (.o 2 8 (.len (.t 7)) (.o 3 9 (.fad (.t 3) 0) (.o 4 10 (.load none (.t 9)) (.o 5 11 (.len (.t 10)) (.o 6 12 (.bin .sub (.t 8) (.t 11)) (.o 7 5 (.mov (.t 12)) .done))))))))) (.seq (.reg true (.op 0 [] (some 13) none true (.mov (.t 5)) (.op 1 [] (some 14) none true (.bin .geq (.t 13) (.i 0)) (.op 2 [] (some 15) none true (.mov (.t 14)) (.op 3 [] (some 16) (some (15, true)) true (.fad (.t 2) 0) (.op 4 [] (some 17) (some (15, true)) true (.load none (.t 16)) (.op 5 [] (some 18) (some (15, true)) true (.mov (.t 5)) (.op 6 [] (some 19) (some (15, true)) true (.mm true (.t 18) (.i 0)) (.op 7 [] (some 20) (some (15, true)) true (.cut 1 (.t 17) (some (.t 19)) none) (.op 8 [] (some 21) (some (15, true)) true (.fad (.t 3) 0) (.op 9 [] (some 22) (some (15, true)) true (.load none (.t 21)) (.op 10 [4, 9] (some 23) (some (15, true)) false (.call 23 200 [(.t 20), (.t 22), (.fn 201)]) (.op 11 [] (some 24) none true (.pick (.t 15) (.t 23) (.v (.bool false))) (.op 12 [] (some 4) none true (.mov (.t 24)) .done)))))))))))))) .ret)))
theorem dg_impl_Name_under : Tryz.f90.body.bind (digC Tryz.prog Tryz.f90.ntmps []) = some c_impl_Name_under := by kernel_rfl
theorem rs_impl_Name_under : resSlots Tryz.prog Tryz.f90 = some [.s 4] := by kernel_rfl
theorem ok_impl_Name_under (n z : List (List UInt8)) (hn : n.length ≤ 4194304) (hz : z.length ≤ 4194304) :
    FnOK Tryz.prog 90 [.agg [.d (encBB n)], .agg [.d (encBB z)]] (fun ra _ => ra = [.one (.d (.sc (.bool (underN n z))))]) := by
  refine FnOK.ofK Tryz.func90 (by kernel_rfl) dg_impl_Name_under rs_impl_Name_under rfl rfl ?_
  delta c_impl_Name_under T.o X.i
  have hd : ∀ m, (n.drop m).length ≤ 4194304 := fun m => by simp; omega
  refine kSeq (kReg (kBox rfl rfl rfl rfl rfl (kBox rfl rfl rfl rfl rfl (kMovC rfl (kDone (kSeq (kReg (kFadP rfl rfl (kLoadP rfl rfl rfl (kLenR rfl rfl (kFadP rfl rfl (kLoadP rfl rfl rfl (kLenR rfl rfl (kDif rfl rfl (by omega) (kMovC rfl (kDone (kSeq (kRegD (kMovC rfl (kBin rfl rfl rfl (kMovC rfl (kGP rfl (fun g0 => kGT rfl (kFadP rfl rfl (kGT rfl (kLoadP rfl rfl rfl (kGT rfl (kMovC rfl (kGT rfl (kMm rfl rfl (kGT rfl (kCutLT rfl rfl (by omega) (kGT rfl (kFadP rfl rfl (kGT rfl (kLoadP rfl rfl rfl (kRelF rfl rfl (kGT rfl ?_)))))))))))))))) (fun g0 => kGF rfl (kGF rfl (kGF rfl (kGF rfl (kGF rfl (kGF rfl (kGF rfl (kRelF rfl rfl (kGF rfl (kPickF rfl (kMovC rfl (kMovC rfl (kDone (kH (kRet (endRetA (ra := [.one (.d _)]) rfl ?_))))))))))))))))))))))))))))))))))))))
  · refine kCallD (ok_slices_EqualFunc_LLbyte_LLbyte_Lbyte_Lbyte _ z (hd _) hz) ⟨rfl, rfl, ⟨rfl, rfl, ⟨_, Tryz.func201, rfl, by kernel_rfl⟩, ?_⟩, trivial⟩ rfl rfl rfl rfl rfl ?_
    · rintro _ R ⟨x, y, rfl, rfl⟩
      exact ok_bytes_Equal x y
    refine kPickT rfl (kMovC rfl (kMovC rfl (kDone (kH (kRet (endRetA (ra := [.one (.d _)]) rfl ?_))))))
    simp only [if_true, underN]
    rw [if_neg (by omega), show (n.length - z.length : Int).toNat = n.length - z.length by omega, decide_eq_true (show z.length ≤ n.length by omega), Bool.true_and]
  · rw [show underN n z = false by simp only [underN]; rw [decide_eq_false (by omega)]; rfl]

def c_impl_Name_is : C := (.seq (.reg false (.o 0 2 (.box 2 (.t 0)) (.o 1 3 (.box 3 (.t 1)) (.o 2 4 (.mov (.v (.bool false))) .done)))) (.seq (.reg false (.o 0 5 (.load (some 1) (.t 2)) (.o 1 6 (.load (some 1) (.t 3)) (.o 2 7 (.call 7 196 [(.t 5), (.t 6)]) (.o 3 8 (.bin .eql (.t 7) (.i 0)) (.o 4 4 (.mov (.t 8)) .done)))))) .ret))
theorem dg_impl_Name_is : Tryz.f91.body.bind (digC Tryz.prog Tryz.f91.ntmps []) = some c_impl_Name_is := by kernel_rfl
theorem rs_impl_Name_is : resSlots Tryz.prog Tryz.f91 = some [.s 4] := by kernel_rfl
theorem ok_impl_Name_is (a b : List (List UInt8)) (ha : a.length ≤ 4194304) (hb : b.length ≤ 4194304) :
    FnOK Tryz.prog 91 [.agg [.d (encBB a)], .agg [.d (encBB b)]] (fun ra _ => ra = [.one (.d (.sc (.bool (decide (a = b)))))]) := by
  refine FnOK.ofK Tryz.func91 (by kernel_rfl) dg_impl_Name_is rs_impl_Name_is rfl rfl ?_
  delta c_impl_Name_is T.o X.i
  rw [← cmpN_zero]
  refine kSeq (kReg (kBox rfl rfl rfl rfl rfl (kBox rfl rfl rfl rfl rfl (kMovC rfl (kDone (kSeq (kReg (kLoadP rfl rfl rfl (kLoadP rfl rfl rfl (kCallD (ok_impl_Name_compare _ _ pr pr) ⟨⟨⟨rfl, trivial⟩, leb⟩, ⟨⟨rfl, trivial⟩, leb⟩, trivial⟩ rfl rfl rfl rfl rfl (kBin rfl rfl rfl (kMovC rfl (kDone (kRet (endRetA (ra := [.one (.d _)]) rfl rfl)))))))))))))))

def c_impl_Zone_set : C := (.seq (.reg false (.o 0 3 (.box 3 (.t 0)) (.o 1 4 (.box 4 (.t 1)) (.o 2 6 (.mov (.n 7)) .done)))) (.seq (.reg false (.o 0 10 (.lit 10 7 [(.n 1), (.i 0), (.i 0), (.i 0), (.n 1), (.n 1), (.n 1)] 0 []) (.o 1 7 (.mov (.t 10)) .done))) (.seq (.seq (.reg false (.o 0 11 (.fad (.t 3) 1) (.o 1 12 (.load none (.t 11)) (.o 2 13 (.len (.t 12)) (.o 3 14 (.mov (.i 0)) .done))))) (.block 0 (.loop (.seq (.reg false (.o 0 15 (.bin .lss (.t 14) (.t 13)) .done)) (.seq (.cond (.t 15) .skip (.exit 0)) (.seq (.block 1 (.seq (.reg false (.o 0 16 (.iad 7 (.t 12) (.t 14)) (.o 1 17 (.load (some 7) (.t 16)) (.o 2 9 (.alloc 9 [(.n 1), (.i 0), (.i 0), (.i 0), (.n 1), (.n 1), (.n 1)]) (.op 3 [] none none false (.store (some 7) (.t 9) (.t 17)) .done))))) (.seq (.reg false (.o 0 18 (.fad (.t 9) 0) (.o 1 19 (.load (some 1) (.t 18)) (.o 2 20 (.load (some 1) (.t 4)) (.o 3 21 (.call 21 91 [(.t 19), (.t 20)]) (.o 4 22 (.mov (.t 21)) (.op 5 [] (some 23) (some (22, true)) false (.mov (.t 2)) (.op 6 [] (some 24) (some (22, true)) false (.bin .eql (.t 23) (.i 255)) (.op 7 [] (some 25) (some (22, true)) false (.mov (.t 24)) (.op 8 [] (some 26) (some (25, false)) false (.fad (.t 9) 1) (.op 9 [] (some 27) (some (25, false)) false (.load none (.t 26)) (.op 10 [] (some 28) (some (25, false)) false (.mov (.t 2)) (.op 11 [] (some 29) (some (25, false)) false (.bin .eql (.t 27) (.t 28)) (.op 12 [] (some 30) (some (22, true)) false (.pick (.t 25) (.v (.bool true)) (.t 29)) (.o 13 31 (.pick (.t 22) (.t 30) (.v (.bool false))) .done))))))))))))))) (.cond (.t 31) (.reg false (.o 0 32 (.mov (.t 7)) (.o 1 33 (.load (some 7) (.t 9)) (.o 2 34 (.lit 34 7 [(.n 1), (.i 0), (.i 0), (.i 0), (.n 1), (.n 1), (.n 1)] 1 [(0, 7, (.t 33))]) (.o 3 35 (.app 35 7 120 (.t 32) (.t 34)) (.o 4 7 (.mov (.t 35)) .done)))))) .skip)))) (.reg false (.o 0 36 (.bin .add (.t 14) (.i 1)) (.o 1 14 (.mov (.t 36)) .done))))))))) (.seq (.reg false (.o 0 37 (.mov (.t 7)) (.o 1 6 (.mov (.t 37)) .done))) .ret))))
theorem dg_impl_Zone_set : Tryz.f85.body.bind (digC Tryz.prog Tryz.f85.ntmps []) = some c_impl_Zone_set := by kernel_rfl
theorem rs_impl_Zone_set : resSlots Tryz.prog Tryz.f85 = some [.s 6] := by kernel_rfl
theorem ok_impl_Zone_set (z : Zone) (n : List (List UInt8)) (t : Int) (hs : SmallZ z) (hn : n.length ≤ 4194304) :
    FnOK Tryz.prog 85 [.agg (z.cells.map .d), .agg [.d (encBB n)], .one (.d (.sc (.int .i64 t)))] (fun ra _ => ra = [.one (.d (encR (setOf z.rrs n t)))]) := by
  refine FnOK.ofK Tryz.func85 (by kernel_rfl) dg_impl_Zone_set rs_impl_Zone_set rfl rfl ?_
  delta c_impl_Zone_set T.o X.i
  have h1 := hs.r.len
  refine kSeq (kReg (kBox rfl rfl rfl rfl rfl (kBox rfl rfl rfl rfl rfl (kMovC rfl (kDone (kSeq (kReg (kLit rfl rfl rfl rfl (kMovC rfl (kDone (kSeq (kSeq (kReg (kFadP rfl rfl (kLoadP rfl rfl rfl (kLenR rfl rfl (kMovC rfl (kDone (kBlock ?_)))))))))))))))))))
  refine kLoop (α := { i : Nat // i ≤ z.rrs.length }) (fun y => ⟨tabSl [(2, .i t), (4, .c (.ptr (rid 4 0) 1 0)), (7, .c (.arr (rid 10 0) 1)), (12, .dv (encR z.rrs)), (13, .i z.rrs.length), (14, .i y.1)], obTab 1 [(rid 4 0, ⟨1, 0, .box [.d (encBB n)]⟩), (rid 10 0, ⟨1, 0, .arr false (encR (setOf (z.rrs.take y.1) n t))⟩)], []⟩) (fun y => z.rrs.length - y.1) ⟨0, by simp⟩ .normA ?_
  rintro ⟨i, hi⟩
  simp only
  have hlen : (z.rrs.take i).length = i := by simp; omega
  have hle : (setOf (z.rrs.take i) n t).length ≤ z.rrs.length := filter_len _ z.rrs i
  rcases Nat.lt_or_ge i z.rrs.length with hlt | hge
  · have hbi := hs.r.mem _ (List.getElem_mem hlt)
    have n1 := hbi.n.len
    have no : ∀ h : (decide (z.rrs[i].name = n) && (t == 255 || z.rrs[i].ty == t)) = false, setOf (z.rrs.take (i + 1)) n t = setOf (z.rrs.take i) n t := fun h => filter_no hlt h
    have yes : ∀ h : (decide (z.rrs[i].name = n) && (t == 255 || z.rrs[i].ty == t)) = true, setOf (z.rrs.take (i + 1)) n t = setOf (z.rrs.take i) n t ++ [z.rrs[i]] := fun h => filter_yes hlt h
    by_cases p1 : z.rrs[i].name = n
    · by_cases p2 : t = 255
      · have hst := yes (by simp [p1, p2])
        refine kSeq (kReg (kBin rfl rfl rfl (kDone (kSeq (kCondP rfl (fun g0 => kSkip (kSeq (kBlock (kSeq (kReg (kIadR rfl rfl rfl (by omega) (kLoadD rfl rfl (kAlloc rfl rfl (kStoreP rfl rfl rfl rfl (kDone (kSeq (kReg (kFadP rfl rfl (kLoadP rfl rfl rfl (kLoadP rfl rfl rfl (kCallD (ok_impl_Name_is _ _ pr pr) ⟨⟨⟨rfl, trivial⟩, leb⟩, ⟨⟨rfl, trivial⟩, leb⟩, trivial⟩ rfl rfl rfl rfl rfl (kMovC rfl (kGP rfl (fun g1 => kGT rfl (kMovC rfl (kGT rfl (kBin rfl rfl rfl (kGT rfl (kMovC rfl (kGP rfl (fun g2 => kGF rfl (kGF rfl (kGF rfl (kGF rfl (kGT rfl (kPickT rfl (kMovC rfl (kPickT rfl (kMovC rfl (kDone (kCondT rfl (kReg (kMovC rfl (kLoadP rfl rfl rfl (kLit rfl rfl rfl rfl (kAppRec rfl rfl rfl rfl rfl rfl rfl (by omega) (kMovC rfl (kDone (kBk (kReg (kAdd rfl rfl (by omega) (kMovC rfl (kDone ?_))))))))))))))))))))))) (fun g2 => (by omega))))))))) (fun g1 => (by (simp [*] at g1))))))))))))))))))))) (fun g0 => (by omega)))))))
        refine kInv ⟨⟨i + 1, by omega⟩, by simp only; omega, ?_⟩
        simp only [hst]
        exact .normA
      · by_cases p3 : z.rrs[i].ty = t
        · have hst := yes (by simp [p1, p3])
          refine kSeq (kReg (kBin rfl rfl rfl (kDone (kSeq (kCondP rfl (fun g0 => kSkip (kSeq (kBlock (kSeq (kReg (kIadR rfl rfl rfl (by omega) (kLoadD rfl rfl (kAlloc rfl rfl (kStoreP rfl rfl rfl rfl (kDone (kSeq (kReg (kFadP rfl rfl (kLoadP rfl rfl rfl (kLoadP rfl rfl rfl (kCallD (ok_impl_Name_is _ _ pr pr) ⟨⟨⟨rfl, trivial⟩, leb⟩, ⟨⟨rfl, trivial⟩, leb⟩, trivial⟩ rfl rfl rfl rfl rfl (kMovC rfl (kGP rfl (fun g1 => kGT rfl (kMovC rfl (kGT rfl (kBin rfl rfl rfl (kGT rfl (kMovC rfl (kGP rfl (fun g2 => (by omega)) (fun g2 => kGT rfl (kFadP rfl rfl (kGT rfl (kLoadP rfl rfl rfl (kGT rfl (kMovC rfl (kGT rfl (kBin rfl rfl rfl (kGT rfl (kPickF rfl (kMovC rfl (kPickT rfl (kMovC rfl (kDone (kCondP rfl (fun g3 => kReg (kMovC rfl (kLoadP rfl rfl rfl (kLit rfl rfl rfl rfl (kAppRec rfl rfl rfl rfl rfl rfl rfl (by omega) (kMovC rfl (kDone (kBk (kReg (kAdd rfl rfl (by omega) (kMovC rfl (kDone ?_)))))))))))) (fun g3 => (by omega)))))))))))))))))))))))) (fun g1 => (by (simp [*] at g1))))))))))))))))))))) (fun g0 => (by omega)))))))
          refine kInv ⟨⟨i + 1, by omega⟩, by simp only; omega, ?_⟩
          simp only [hst]
          exact .normA
        · have hst := no (by simp [p2, p3])
          refine kSeq (kReg (kBin rfl rfl rfl (kDone (kSeq (kCondP rfl (fun g0 => kSkip (kSeq (kBlock (kSeq (kReg (kIadR rfl rfl rfl (by omega) (kLoadD rfl rfl (kAlloc rfl rfl (kStoreP rfl rfl rfl rfl (kDone (kSeq (kReg (kFadP rfl rfl (kLoadP rfl rfl rfl (kLoadP rfl rfl rfl (kCallD (ok_impl_Name_is _ _ pr pr) ⟨⟨⟨rfl, trivial⟩, leb⟩, ⟨⟨rfl, trivial⟩, leb⟩, trivial⟩ rfl rfl rfl rfl rfl (kMovC rfl (kGP rfl (fun g1 => kGT rfl (kMovC rfl (kGT rfl (kBin rfl rfl rfl (kGT rfl (kMovC rfl (kGP rfl (fun g2 => (by omega)) (fun g2 => kGT rfl (kFadP rfl rfl (kGT rfl (kLoadP rfl rfl rfl (kGT rfl (kMovC rfl (kGT rfl (kBin rfl rfl rfl (kGT rfl (kPickF rfl (kMovC rfl (kPickT rfl (kMovC rfl (kDone (kCondP rfl (fun g3 => (by omega)) (fun g3 => kSkip (kBk (kReg (kAdd rfl rfl (by omega) (kMovC rfl (kDone ?_)))))))))))))))))))))))))))) (fun g1 => (by (simp [*] at g1))))))))))))))))))))) (fun g0 => (by omega)))))))
          refine kInv ⟨⟨i + 1, by omega⟩, by simp only; omega, ?_⟩
          simp only [hst]
          exact .normA
    · have hst := no (by simp [p1])
      refine kSeq (kReg (kBin rfl rfl rfl (kDone (kSeq (kCondP rfl (fun g0 => kSkip (kSeq (kBlock (kSeq (kReg (kIadR rfl rfl rfl (by omega) (kLoadD rfl rfl (kAlloc rfl rfl (kStoreP rfl rfl rfl rfl (kDone (kSeq (kReg (kFadP rfl rfl (kLoadP rfl rfl rfl (kLoadP rfl rfl rfl (kCallD (ok_impl_Name_is _ _ pr pr) ⟨⟨⟨rfl, trivial⟩, leb⟩, ⟨⟨rfl, trivial⟩, leb⟩, trivial⟩ rfl rfl rfl rfl rfl (kMovC rfl (kGP rfl (fun g1 => (by (simp [*] at g1))) (fun g1 => kGF rfl (kGF rfl (kGF rfl (kGU rfl (kGU rfl (kGU rfl (kGU rfl (kGF rfl (kPickF rfl (kMovC rfl (kDone (kCondF rfl (kSkip (kBk (kReg (kAdd rfl rfl (by omega) (kMovC rfl (kDone ?_)))))))))))))))))))))))))))))))))))) (fun g0 => (by omega)))))))
      refine kInv ⟨⟨i + 1, by omega⟩, by simp only; omega, ?_⟩
      simp only [hst]
      exact .normA
  · refine kSeq (kReg (kBin rfl rfl rfl (kDone (kSeq (kCondP rfl (fun g0 => (by omega)) (fun g0 => kExit (kExC (kExI (kExB (kSeq (kReg (kMovC rfl (kMovC rfl (kDone (kRet (endRetA (ra := [.one (.d _)]) rfl ?_))))))))))))))))
    rw [show i = z.rrs.length by omega, List.take_length]

def c_impl_ZoneOk : C := (.seq (.reg false (.o 0 1 (.box 1 (.t 0)) (.o 1 2 (.mov (.v (.bool false))) .done))) (.seq (.seq (.reg false (.o 0 6 (.fad (.t 1) 0) (.o 1 7 (.load (some 1) (.t 6)) (.o 2 8 (.call 8 72 [(.t 7)]) (.o 3 9 (.un .not (.t 8)) (.o 4 10 (.mov (.t 9)) (.op 5 [] (some 11) (some (10, false)) false (.fad (.t 1) 1) (.op 6 [] (some 12) (some (10, false)) false (.load none (.t 11)) (.op 7 [] (some 13) (some (10, false)) false (.len (.t 12)) (.op 8 [] (some 14) (some (10, false)) false (.bin .gtr (.t 13) (.i 60)) (.o 9 15 (.pick (.t 10) (.v (.bool true)) (.t 14)) (.o 10 16 (.mov (.t 15)) (.op 11 [] (some 17) (some (16, false)) false (.fad (.t 1) 1) (.op 12 [] (some 18) (some (16, false)) false (.load none (.t 17)) (.op 13 [] (some 19) (some (16, false)) false (.call 19 87 [(.t 18), (.fn 88)]) (.op 14 [] (some 20) (some (16, false)) false (.un .not (.t 19)) (.o 15 21 (.pick (.t 16) (.v (.bool true)) (.t 20)) .done))))))))))))))))) (.cond (.t 21) (.seq (.reg false (.o 0 2 (.mov (.v (.bool false))) .done)) .ret) .skip)) (.seq (.reg false (.o 0 3 (.mov (.i 0)) .done)) (.seq (.seq (.reg false (.o 0 22 (.fad (.t 1) 1) (.o 1 23 (.load none (.t 22)) (.o 2 24 (.len (.t 23)) (.o 3 25 (.mov (.i 0)) .done))))) (.block 0 (.loop (.seq (.reg false (.o 0 26 (.bin .lss (.t 25) (.t 24)) .done)) (.seq (.cond (.t 26) .skip (.exit 0)) (.seq (.block 1 (.seq (.reg false (.o 0 27 (.mov (.t 25)) (.o 1 28 (.iad 7 (.t 23) (.t 25)) (.o 2 29 (.load (some 7) (.t 28)) (.o 3 5 (.alloc 5 [(.n 1), (.i 0), (.i 0), (.i 0), (.n 1), (.n 1), (.n 1)]) (.o 4 4 (.mov (.t 27)) (.op 5 [] none none false (.store (some 7) (.t 5) (.t 29)) .done))))))) (.seq (.seq (.reg true (.op 0 [] (some 30) none true (.mov (.t 4)) (.op 1 [] (some 31) none true (.bin .gtr (.t 30) (.i 0)) (.op 2 [] (some 32) none true (.mov (.t 31)) (.op 3 [] (some 33) (some (32, true)) true (.fad (.t 1) 1) (.op 4 [] (some 34) (some (32, true)) true (.load none (.t 33)) (.op 5 [] (some 35) (some (32, true)) true (.mov (.t 4)) (.op 6 [] (some 36) (some (32, true)) true (.bin .sub (.t 35) (.i 1)) (.op 7 [] (some 37) (some (32, true)) true (.iad 7 (.t 34) (.t 36)) (.op 8 [] (some 38) (some (32, true)) true (.load (some 7) (.t 37)) (.op 9 [] (some 39) (some (32, true)) true (.load (some 7) (.t 5)) (.op 10 [8, 4, 9] (some 40) (some (32, true)) false (.call 40 89 [(.t 38), (.t 39)]) (.op 11 [] (some 41) (some (32, true)) true (.bin .geq (.t 40) (.i 0)) (.op 12 [] (some 42) none true (.pick (.t 32) (.t 41) (.v (.bool false))) (.op 13 [] (some 43) none true (.mov (.t 42)) (.op 14 [] (some 44) (some (43, false)) true (.fad (.t 5) 0) (.op 15 [] (some 45) (some (43, false)) true (.load (some 1) (.t 44)) (.op 16 [] (some 46) (some (43, false)) true (.fad (.t 1) 0) (.op 17 [] (some 47) (some (43, false)) true (.load (some 1) (.t 46)) (.op 18 [15, 8, 9, 4, 17] (some 48) (some (43, false)) false (.call 48 90 [(.t 45), (.t 47)]) (.op 19 [] (some 49) (some (43, false)) true (.un .not (.t 48)) (.op 20 [] (some 50) none true (.pick (.t 43) (.v (.bool true)) (.t 49)) .done)))))))))))))))))))))) (.cond (.t 50) (.seq (.reg false (.o 0 2 (.mov (.v (.bool false))) .done)) .ret) .skip)) (.seq (.seq (.reg false (.o 0 51 (.fad (.t 5) 1) (.o 1 52 (.load none (.t 51)) (.o 2 53 (.bin .eql (.t 52) (.i 6)) .done)))) (.cond (.t 53) (.seq (.reg false (.o 0 54 (.mov (.t 3)) (.o 1 55 (.bin .add (.t 54) (.i 1)) (.o 2 3 (.mov (.t 55)) .done)))) (.seq (.reg false (.o 0 56 (.fad (.t 5) 0) (.o 1 57 (.load (some 1) (.t 56)) (.o 2 58 (.fad (.t 1) 0) (.o 3 59 (.load (some 1) (.t 58)) (.o 4 60 (.call 60 91 [(.t 57), (.t 59)]) (.o 5 61 (.un .not (.t 60)) .done))))))) (.cond (.t 61) (.seq (.reg false (.o 0 2 (.mov (.v (.bool false))) .done)) .ret) .skip))) .skip)) (.seq (.reg false (.o 0 62 (.fad (.t 5) 1) (.o 1 63 (.load none (.t 62)) (.o 2 64 (.bin .eql (.t 63) (.i 5)) (.o 3 65 (.mov (.t 64)) (.op 4 [] (some 66) (some (65, true)) false (.load (some 2) (.t 1)) (.op 5 [] (some 67) (some (65, true)) false (.fad (.t 5) 0) (.op 6 [] (some 68) (some (65, true)) false (.load (some 1) (.t 67)) (.op 7 [] (some 69) (some (65, true)) false (.call 69 85 [(.t 66), (.t 68), (.i 255)]) (.op 8 [] (some 70) (some (65, true)) false (.len (.t 69)) (.op 9 [] (some 71) (some (65, true)) false (.bin .gtr (.t 70) (.i 1)) (.o 10 72 (.pick (.t 65) (.t 71) (.v (.bool false))) .done)))))))))))) (.cond (.t 72) (.seq (.reg false (.o 0 2 (.mov (.v (.bool false))) .done)) .ret) .skip)))))) (.reg false (.o 0 73 (.bin .add (.t 25) (.i 1)) (.o 1 25 (.mov (.t 73)) .done))))))))) (.seq (.reg false (.o 0 74 (.mov (.t 3)) (.o 1 75 (.bin .eql (.t 74) (.i 1)) (.o 2 2 (.mov (.t 75)) .done)))) .ret)))))
theorem dg_impl_ZoneOk : Tryz.f19.body.bind (digC Tryz.prog Tryz.f19.ntmps []) = some c_impl_ZoneOk := by kernel_rfl
theorem rs_impl_ZoneOk : resSlots Tryz.prog Tryz.f19 = some [.s 2] := by kernel_rfl
theorem ok_impl_ZoneOk (z : Zone) (hs : SmallZ z) :
    FnOK Tryz.prog 19 [.agg (z.cells.map .d)] (fun ra _ => ra = [.one (.d (.sc (.bool (zoneOk z))))]) := by
  refine FnOK.ofK Tryz.func19 (by kernel_rfl) dg_impl_ZoneOk rs_impl_ZoneOk rfl rfl ?_
  delta c_impl_ZoneOk T.o X.i
  have o1 := hs.o.len
  have o2 := hs.o.mem
  have h1 := hs.r.len
  have hm := hs.r.mem
  have hr := hs.r
  cases a1 : nameOk z.origin
  · rw [show zoneOk z = false by unfold zoneOk; rw [a1]; rfl]
    refine kSeq (kReg (kBox rfl rfl rfl rfl rfl (kMovC rfl (kDone (kSeq (kSeq (kReg (kFadP rfl rfl (kLoadP rfl rfl rfl (kCallD (ok_impl_NameOk _ pr pr) ⟨⟨⟨rfl, trivial⟩, leb⟩, trivial⟩ rfl rfl rfl rfl rfl (kUn rfl rfl (kMovC rfl (kGN rfl (fun g0 => kGF rfl (kGF rfl (kGF rfl (kGF rfl (kPickT rfl (kMovC rfl (kMovC rfl (kGF rfl (kGF rfl (kGF rfl (kGF rfl (kPickT rfl (kMovC rfl (kDone (kCondT rfl (kSeq (kReg (kMovC rfl (kDone (kRet (endRetA (ra := [.one (.d _)]) rfl rfl))))))))))))))))))))) (fun g0 => (by (simp [*] at g0))))))))))))))))
  by_cases a2 : z.rrs.length ≤ 60
  case neg =>
    rw [show zoneOk z = false by unfold zoneOk; rw [decide_eq_false a2]; simp]
    refine kSeq (kReg (kBox rfl rfl rfl rfl rfl (kMovC rfl (kDone (kSeq (kSeq (kReg (kFadP rfl rfl (kLoadP rfl rfl rfl (kCallD (ok_impl_NameOk _ pr pr) ⟨⟨⟨rfl, trivial⟩, leb⟩, trivial⟩ rfl rfl rfl rfl rfl (kUn rfl rfl (kMovC rfl (kGN rfl (fun g0 => (by (simp [*] at g0))) (fun g0 => kGT rfl (kFadP rfl rfl (kGT rfl (kLoadP rfl rfl rfl (kGT rfl (kLenR rfl rfl (kGT rfl (kBin rfl rfl rfl (kPickF rfl (kMovC rfl (kMovC rfl (kGP rfl (fun g1 => kGF rfl (kGF rfl (kGF rfl (kGF rfl (kPickT rfl (kMovC rfl (kDone (kCondT rfl (kSeq (kReg (kMovC rfl (kDone (kRet (endRetA (ra := [.one (.d _)]) rfl rfl)))))))))))))) (fun g1 => (by omega)))))))))))))))))))))))))))
  refine kSeq (kReg (kBox rfl rfl rfl rfl rfl (kMovC rfl (kDone (kSeq (kSeq (kReg (kFadP rfl rfl (kLoadP rfl rfl rfl (kCallD (ok_impl_NameOk _ pr pr) ⟨⟨⟨rfl, trivial⟩, leb⟩, trivial⟩ rfl rfl rfl rfl rfl (kUn rfl rfl (kMovC rfl (kGN rfl (fun g0 => (by (simp [*] at g0))) (fun g0 => kGT rfl (kFadP rfl rfl (kGT rfl (kLoadP rfl rfl rfl (kGT rfl (kLenR rfl rfl (kGT rfl (kBin rfl rfl rfl (kPickF rfl (kMovC rfl (kMovC rfl (kGP rfl (fun g1 => (by omega)) (fun g1 => kGT rfl (kFadP rfl rfl (kGT rfl (kLoadP rfl rfl rfl (kGT rfl ?_))))))))))))))))))))))))))))))
  refine kCallD (ok_impl_all_impl_Rr z.rrs SmallR rrOk h1 hm) ⟨rfl, ⟨rfl, rfl, ⟨_, Tryz.func88, rfl, by kernel_rfl⟩, ?_⟩, trivial⟩ rfl rfl rfl rfl rfl ?_
  · rintro _ R ⟨x, h, rfl, rfl⟩
    exact ok_impl_RrOk x h
  cases a3 : z.rrs.all rrOk
  · rw [show zoneOk z = false by unfold zoneOk; rw [a3]; simp]
    refine kGT rfl (kUn rfl rfl (kPickF rfl (kMovC rfl (kDone (kCondT rfl (kSeq (kReg (kMovC rfl (kDone (kRet (endRetA (ra := [.one (.d _)]) rfl rfl)))))))))))
  refine kGT rfl (kUn rfl rfl (kPickF rfl (kMovC rfl (kDone (kCondF rfl (kSkip (kSeq (kReg (kMovC rfl (kDone (kSeq (kSeq (kReg (kFadP rfl rfl (kLoadP rfl rfl rfl (kLenR rfl rfl (kMovC rfl (kDone (kBlock ?_)))))))))))))))))))
  refine kLoop (α := { i : Nat // i ≤ z.rrs.length ∧ (List.range i).all (zAt z) = true }) (fun y => ⟨tabSl [(1, .c (.ptr (rid 1 0) 1 0)), (3, .i (zTops (z.rrs.take y.1))), (23, .dv (encR z.rrs)), (24, .i z.rrs.length), (25, .i y.1)], obTab 1 [(rid 1 0, ⟨1, 0, .box (z.cells.map .d)⟩)], []⟩) (fun y => z.rrs.length - y.1) ⟨0, by simp⟩ .normA ?_
  rintro ⟨i, hi, hz⟩
  simp only
  have ht := zTops_le z.rrs i
  rcases Nat.lt_or_ge i z.rrs.length with hlt | hge
  · have hbi := hm _ (List.getElem_mem hlt)
    have n1 := hbi.n.len
    have n2 := hbi.n.mem
    have hts := zTops_succ z.rrs i hlt
    have hq := zAt_eq hlt
    rw [aloneR_eq hlt] at hq
    have hset : (setOf z.rrs z.rrs[i].name 255).length ≤ z.rrs.length := List.length_filter_le _ _
    refine kSeq ?_
    refine kReg (kBin rfl rfl rfl (kDone (kSeq (kCondP rfl (fun g0 => kSkip (kSeq (kBlock (kSeq (kReg (kMovC rfl (kIadR rfl rfl rfl (by omega) (kLoadD rfl rfl (kAlloc rfl rfl (kMovC rfl (kStoreP rfl rfl rfl rfl (kDone (kSeq (kSeq (kRegD (kMovC rfl (kBin rfl rfl rfl (kMovC rfl (kGP rfl (fun g1 => kGT rfl (kFadP rfl rfl (kGT rfl (kLoadP rfl rfl rfl (kGT rfl (kMovC rfl (kGT rfl (kDif rfl rfl (by omega) (kGT rfl (kIadT rfl rfl (by omega) (kGT rfl (kLoadD rfl rfl (kGT rfl (kLoadP rfl rfl rfl (kRelF rfl rfl (kGT rfl (kCallD (ok_impl_Rr_compare _ _ pr pr) ⟨⟨⟨rfl, rfl, rfl, rfl, rfl, rfl, rfl, trivial⟩, leb⟩, ⟨⟨rfl, rfl, rfl, rfl, rfl, rfl, rfl, trivial⟩, leb⟩, trivial⟩ rfl rfl rfl rfl rfl (kGT rfl (kBin rfl rfl rfl (kPickT rfl (kMovC rfl (kMovC rfl (kGP rfl (fun g2 => kGF rfl (kGF rfl (kGF rfl (kGF rfl (kRelF rfl rfl (kGF rfl (kGF rfl (kPickT rfl (kMovC rfl (kDone (kH (kCondT rfl (kSeq (kReg (kMovC rfl (kDone (kRet (endRetA (ra := [.one (.d _)]) rfl ?_)))))))))))))))))) (fun g2 => kGT rfl (kFadP rfl rfl (kGT rfl (kLoadP rfl rfl rfl (kGT rfl (kFadP rfl rfl (kGT rfl (kLoadP rfl rfl rfl (kRelF rfl rfl (kGT rfl (kCallD (ok_impl_Name_under _ _ pr pr) ⟨⟨⟨rfl, trivial⟩, leb⟩, ⟨⟨rfl, trivial⟩, leb⟩, trivial⟩ rfl rfl rfl rfl rfl (kGT rfl (kUn rfl rfl (kPickF rfl (kMovC rfl (kDone (kH (kCondN rfl (fun g3 => kSeq (kReg (kMovC rfl (kDone (kRet (endRetA (ra := [.one (.d _)]) rfl ?_)))))) (fun g3 => kSkip (kSeq (kSeq (kReg (kFadP rfl rfl (kLoadP rfl rfl rfl (kBin rfl rfl rfl (kDone (kCondP rfl (fun g4 => kSeq (kReg (kMovC rfl (kAdd rfl rfl (by omega) (kMovC rfl (kDone (kSeq (kReg (kFadP rfl rfl (kLoadP rfl rfl rfl (kFadP rfl rfl (kLoadP rfl rfl rfl (kCallD (ok_impl_Name_is _ _ pr pr) ⟨⟨⟨rfl, trivial⟩, leb⟩, ⟨⟨rfl, trivial⟩, leb⟩, trivial⟩ rfl rfl rfl rfl rfl (kUn rfl rfl (kDone (kCondN rfl (fun g5 => kSeq (kReg (kMovC rfl (kDone (kRet (endRetA (ra := [.one (.d _)]) rfl ?_)))))) (fun g5 => kSkip (kSeq (kReg (kFadP rfl rfl (kLoadP rfl rfl rfl (kBin rfl rfl rfl (kMovC rfl (kGP rfl (fun g6 => (by omega)) (fun g6 => kGF rfl (kGF rfl (kGF rfl (kGF rfl (kGF rfl (kGF rfl (kPickF rfl (kMovC rfl (kDone (kCondF rfl (kSkip (kBk (kReg (kAdd rfl rfl (by omega) (kMovC rfl (kDone ?_)))))))))))))))))))))))))))))))))))))))) (fun g4 => kSkip (kSeq (kReg (kFadP rfl rfl (kLoadP rfl rfl rfl (kBin rfl rfl rfl (kMovC rfl (kGP rfl (fun g7 => kGT rfl (kLoadP rfl rfl rfl (kGT rfl (kFadP rfl rfl (kGT rfl (kLoadP rfl rfl rfl (kGT rfl (kCallD2 (ok_impl_Zone_set _ _ _ pr pr) ⟨⟨⟨rfl, rfl, trivial⟩, leb⟩, ⟨⟨rfl, trivial⟩, leb⟩, rfl, trivial⟩ rfl rfl rfl rfl (kGT rfl (kLenR rfl rfl (kGT rfl (kBin rfl rfl rfl (kPickT rfl (kMovC rfl (kDone (kCondP rfl (fun g8 => kSeq (kReg (kMovC rfl (kDone (kRet (endRetA (ra := [.one (.d _)]) rfl ?_)))))) (fun g8 => kSkip (kBk (kReg (kAdd rfl rfl (by omega) (kMovC rfl (kDone ?_)))))))))))))))))))))) (fun g7 => kGF rfl (kGF rfl (kGF rfl (kGF rfl (kGF rfl (kGF rfl (kPickF rfl (kMovC rfl (kDone (kCondF rfl (kSkip (kBk (kReg (kAdd rfl rfl (by omega) (kMovC rfl (kDone ?_)))))))))))))))))))))))))))))))))))))))))))))))))))))))))))))))))))))))))) (fun g1 => kGF rfl (kGF rfl (kGF rfl (kGF rfl (kGF rfl (kGF rfl (kGF rfl (kRelF rfl rfl (kGF rfl (kGF rfl (kPickF rfl (kMovC rfl (kMovC rfl (kGT rfl (kFadP rfl rfl (kGT rfl (kLoadP rfl rfl rfl (kGT rfl (kFadP rfl rfl (kGT rfl (kLoadP rfl rfl rfl (kRelF rfl rfl (kGT rfl (kCallD (ok_impl_Name_under _ _ pr pr) ⟨⟨⟨rfl, trivial⟩, leb⟩, ⟨⟨rfl, trivial⟩, leb⟩, trivial⟩ rfl rfl rfl rfl rfl (kGT rfl (kUn rfl rfl (kPickF rfl (kMovC rfl (kDone (kH (kCondN rfl (fun g9 => kSeq (kReg (kMovC rfl (kDone (kRet (endRetA (ra := [.one (.d _)]) rfl ?_)))))) (fun g9 => kSkip (kSeq (kSeq (kReg (kFadP rfl rfl (kLoadP rfl rfl rfl (kBin rfl rfl rfl (kDone (kCondP rfl (fun g10 => kSeq (kReg (kMovC rfl (kAdd rfl rfl (by omega) (kMovC rfl (kDone (kSeq (kReg (kFadP rfl rfl (kLoadP rfl rfl rfl (kFadP rfl rfl (kLoadP rfl rfl rfl (kCallD (ok_impl_Name_is _ _ pr pr) ⟨⟨⟨rfl, trivial⟩, leb⟩, ⟨⟨rfl, trivial⟩, leb⟩, trivial⟩ rfl rfl rfl rfl rfl (kUn rfl rfl (kDone (kCondN rfl (fun g11 => kSeq (kReg (kMovC rfl (kDone (kRet (endRetA (ra := [.one (.d _)]) rfl ?_)))))) (fun g11 => kSkip (kSeq (kReg (kFadP rfl rfl (kLoadP rfl rfl rfl (kBin rfl rfl rfl (kMovC rfl (kGP rfl (fun g12 => (by omega)) (fun g12 => kGF rfl (kGF rfl (kGF rfl (kGF rfl (kGF rfl (kGF rfl (kPickF rfl (kMovC rfl (kDone (kCondF rfl (kSkip (kBk (kReg (kAdd rfl rfl (by omega) (kMovC rfl (kDone ?_)))))))))))))))))))))))))))))))))))))))) (fun g10 => kSkip (kSeq (kReg (kFadP rfl rfl (kLoadP rfl rfl rfl (kBin rfl rfl rfl (kMovC rfl (kGP rfl (fun g13 => kGT rfl (kLoadP rfl rfl rfl (kGT rfl (kFadP rfl rfl (kGT rfl (kLoadP rfl rfl rfl (kGT rfl (kCallD2 (ok_impl_Zone_set _ _ _ pr pr) ⟨⟨⟨rfl, rfl, trivial⟩, leb⟩, ⟨⟨rfl, trivial⟩, leb⟩, rfl, trivial⟩ rfl rfl rfl rfl (kGT rfl (kLenR rfl rfl (kGT rfl (kBin rfl rfl rfl (kPickT rfl (kMovC rfl (kDone (kCondP rfl (fun g14 => kSeq (kReg (kMovC rfl (kDone (kRet (endRetA (ra := [.one (.d _)]) rfl ?_)))))) (fun g14 => kSkip (kBk (kReg (kAdd rfl rfl (by omega) (kMovC rfl (kDone ?_)))))))))))))))))))))) (fun g13 => kGF rfl (kGF rfl (kGF rfl (kGF rfl (kGF rfl (kGF rfl (kPickF rfl (kMovC rfl (kDone (kCondF rfl (kSkip (kBk (kReg (kAdd rfl rfl (by omega) (kMovC rfl (kDone ?_))))))))))))))))))))))))))))))))))))))))))))))))))))))))))))))))))))))))))))))))))) (fun g0 => (by omega))))))
    all_goals first
      | (refine congrArg (fun z : Bool => [RA.one (RV.d (DV.sc (Value.bool z)))]) (zone_no hlt (Bool.eq_false_iff.2 fun h => ?_)).symm
         rw [hq] at h
         simp only [Bool.and_eq_true, decide_eq_true_eq, Bool.or_eq_true, Bool.not_eq_true', beq_eq_false_iff_ne] at h
         obtain ⟨⟨⟨k1, k2⟩, k3⟩, k4⟩ := h
         first
           | (rw [prevB_pos (by omega) hlt (by omega), decide_eq_true_eq] at k2; omega)
           | (simp_all; done)
           | (simp_all; omega))
      | (have e1 : prevB z.rrs i = true := by
           first
             | (rw [prevB_pos (by omega) hlt (by omega)]; exact decide_eq_true (by omega))
             | (have : i = 0 := by omega
                subst this; exact prevB_zero)
         have e2 : (!(z.rrs[i].ty == 5) || decide ((setOf z.rrs z.rrs[i].name 255).length ≤ 1)) = true := by
           first
             | assumption
             | (simp [*]; done)
             | (rw [decide_eq_true (by omega)]; simp)
         have e3 : (!(z.rrs[i].ty == 6) || decide (z.rrs[i].name = z.origin)) = true := by
           first
             | (simp [*]; done)
             | (simp_all; done)
         first
           | rw [if_pos (by assumption)] at hts
           | rw [if_neg (by assumption)] at hts
         have hz' : zAt z i = true := by rw [hq, e1, e2, e3]; simp [*]
         exact kInv ⟨⟨i + 1, by omega, range_all hz hz'⟩, by simp only; omega, .normA⟩)
  · rw [show zoneOk z = decide (zTops z.rrs = 1) by unfold zoneOk; rw [a1, decide_eq_true a2, a3, show (List.range z.rrs.length).all (zAt z) = true by rw [show z.rrs.length = i by omega]; exact hz]; rfl]
    refine kSeq (kReg (kBin rfl rfl rfl (kDone (kSeq (kCondP rfl (fun g0 => (by omega)) (fun g0 => kExit (kExC (kExI (kExB (kSeq (kReg (kMovC rfl (kBin rfl rfl rfl (kMovC rfl (kDone (kRet (endRetA (ra := [.one (.d _)]) rfl ?_)))))))))))))))))
    rw [show i = z.rrs.length by omega, List.take_length]
    rfl

def c_bytes_Clone : C := (.seq (.reg false (.o 0 2 (.mov (.n 1)) .done)) (.seq (.seq (.reg false (.o 0 3 (.mov (.t 0)) (.o 1 4 (.eqn false (.t 3)) .done))) (.cond (.t 4) (.seq (.reg false (.o 0 2 (.mov (.n 1)) .done)) .ret) .skip)) (.seq (.reg false (.o 0 5 (.lit 5 1 [(.v (.int .u8 0))] 0 []) (.o 1 6 (.mov (.t 0)) (.o 2 7 (.app 7 1 1 (.t 5) (.t 6)) (.o 3 2 (.mov (.t 7)) .done))))) .ret)))
theorem dg_bytes_Clone : Tryz.f222.body.bind (digC Tryz.prog Tryz.f222.ntmps []) = some c_bytes_Clone := by kernel_rfl
theorem rs_bytes_Clone : resSlots Tryz.prog Tryz.f222 = some [.s 2] := by kernel_rfl
theorem ok_bytes_Clone (b : List UInt8) (hb : b.length ≤ 140737488355328) :
    FnOK Tryz.prog 222 [.one (.d (encB b))] (fun ra _ => ra = [.one (.own true (encB b))]) := by
  refine FnOK.ofK Tryz.func222 (by kernel_rfl) dg_bytes_Clone rs_bytes_Clone rfl rfl ?_
  delta c_bytes_Clone T.o X.i
  refine kSeq (kReg (kMovC rfl (kDone ?_)))
  refine kSeq (kSeq (kReg (kMovC rfl (kEqn rfl rfl rfl fun n hn => kDone ?_))))
  refine kCond rfl (fun h => ?_) (fun h => ?_)
  · refine kSeq (kReg (kMovC rfl (kDone (kRet ?_))))
    refine endRet (ra := [.one (.own true (.sl 1 []))]) rfl ⟨⟨rfl, trivial⟩, nodupB_sound rfl, trivial, trivial⟩ ?_
    have : b = [] := by
      rw [len_encB] at hn
      cases b with
      | nil => rfl
      | cons x l => have := hn (by simp); simp [this] at h
    rw [this]; rfl
  · refine kSkip (kSeq (kReg ?_))
    refine kLit rfl rfl rfl rfl (kMovC rfl ?_)
    refine kApp (cy := .d (encB b)) rfl rfl rfl (src_encB _ b) rfl rfl ⟨rfl, rfl, Nat.zero_lt_one⟩ rfl ?_ (kMovC rfl (kDone (kRet ?_)))
    · show ((DV.sl 1 (chunk 1 0 [])).len + (encB b).len) * 1 ≤ _ ∧ _
      rw [len_encB]; simp [DV.len, chunk]; omega
    refine endRet (ra := [.one (.own true _)]) rfl ⟨⟨⟨⟨_, rfl, fun _ => rfl⟩, .inl (Nat.zero_lt_succ _)⟩, trivial⟩, nodupB_sound rfl, trivial, trivial⟩ ?_
    exact congrArg (fun x => [RA.one (RV.own true x)]) (app_nil_encB b)

def c_impl_Name_copied : C := (.seq (.reg false (.o 0 1 (.box 1 (.t 0)) (.o 1 2 (.alloc 2 [(.n 1)]) .done))) (.seq (.reg false (.o 0 6 (.build [(.n 1)] []) (.o 1 3 (.alloc 3 [(.n 1)]) (.op 2 [] none none false (.store (some 1) (.t 3) (.t 6)) .done)))) (.seq (.seq (.reg false (.o 0 7 (.fad (.t 1) 0) (.o 1 8 (.load none (.t 7)) (.o 2 9 (.len (.t 8)) (.o 3 10 (.mov (.i 0)) .done))))) (.block 0 (.loop (.seq (.reg false (.o 0 11 (.bin .lss (.t 10) (.t 9)) .done)) (.seq (.cond (.t 11) .skip (.exit 0)) (.seq (.block 1 (.seq (.reg false (.o 0 12 (.iad 1 (.t 8) (.t 10)) (.o 1 13 (.load none (.t 12)) (.o 2 5 (.mov (.t 13)) .done)))) (.reg true (.op 0 [] (some 14) none true (.fad (.t 3) 0) (.op 1 [] (some 15) none true (.load none (.t 14)) (.op 2 [] (some 16) none true (.mov (.t 5)) (.o 3 17 (.call 17 222 [(.t 16)]) (.o 4 18 (.lit 18 1 [(.n 1)] 1 [(0, 1, (.t 17))]) (.op 5 [1] (some 19) none false (.app 19 1 24 (.t 15) (.t 18)) (.op 6 [] (some 20) none true (.fad (.t 3) 0) (.op 7 [1] none none false (.store none (.t 20) (.t 19)) .done))))))))))) (.reg false (.o 0 21 (.bin .add (.t 10) (.i 1)) (.o 1 10 (.mov (.t 21)) .done))))))))) (.seq (.reg false (.o 0 22 (.load (some 1) (.t 3)) (.op 1 [] none none false (.store (some 1) (.t 2) (.t 22)) .done))) .ret))))
theorem dg_impl_Name_copied : Tryz.f110.body.bind (digC Tryz.prog Tryz.f110.ntmps []) = some c_impl_Name_copied := by kernel_rfl
theorem rs_impl_Name_copied : resSlots Tryz.prog Tryz.f110 = some [.m 2 (some 1)] := by kernel_rfl
theorem ok_impl_Name_copied (a : List (List UInt8)) (ha : a.length ≤ 4194304) (hb : ∀ b ∈ a, b.length ≤ 4194304) :
    FnOK Tryz.prog 110 [.agg [.d (encBB a)]] (fun ra _ => ra = [.agg [.own true (encBB a)]]) := by
  refine FnOK.ofK Tryz.func110 (by kernel_rfl) dg_impl_Name_copied rs_impl_Name_copied rfl rfl ?_
  delta c_impl_Name_copied T.o X.i
  refine kSeq (kReg (kBox rfl rfl rfl rfl rfl (kAlloc rfl rfl (kDone ?_))))
  refine kSeq (kReg (kBuild rfl (kAlloc rfl rfl (kStoreP rfl rfl rfl rfl (kDone ?_)))))
  refine kSeq (kSeq (kReg (kFadP rfl rfl (kLoadP rfl rfl rfl (kLen rfl rfl rfl (kMovC rfl (kDone (kBlock ?_))))))))
  rw [len_encBB]
  refine kSub (Sub.nilBox (id := rid 3 0) (id2 := rid 5000 0) (j := 0) rfl rfl rfl (by decide) (by decide)) ?_
  refine kLoop (α := { i : Nat // i ≤ a.length })
    (fun y => ⟨tabSl [(1, .c (.ptr (rid 1 0) 1 0)), (2, .c (.ptr (rid 2 0) 1 0)), (3, .c (.ptr (rid 3 0) 1 0)), (8, .dv (encBB a)), (9, .i a.length), (10, .i y.1)],
      obTab 1 [(rid 1 0, ⟨1, 0, .box [.d (encBB a)]⟩), (rid 2 0, ⟨1, 0, .box [.nil 1]⟩), (rid 3 0, ⟨1, 0, .box [.arr (rid 5000 0) 1]⟩), (rid 5000 0, ⟨1, 0, .arr true (encBB (a.take y.1))⟩)], []⟩) (fun y => a.length - y.1) ⟨0, by simp⟩
    (.norm ?_ ?_) ?_
  · repeat' first | exact trivial | exact rfl | exact .inl rfl | refine ⟨_, rfl, ?_⟩ | refine ⟨?_, ?_⟩ | fail
  · repeat' first | exact trivial | exact rfl | exact .inl rfl | refine ⟨_, rfl, ?_⟩ | refine ⟨?_, ?_⟩ | fail
  rintro ⟨i, hi⟩
  simp only at hi ⊢
  refine kSeq (kReg (kBin rfl rfl rfl (kDone (kSeq ?_))))
  refine kCond rfl (fun h1 => ?_) (fun h1 => ?_)
  · have hlt : i < a.length := by simp at h1; omega
    refine kSkip (kSeq (kBlock (kSeq (kReg ?_))))
    refine kIadD rfl rfl rfl rfl ?_ ?_
    · rw [len_encBB]; omega
    rw [show (encBB a).row (i : Int).toNat = [encB a[i]] from row_encBB a i hlt]
    refine kLoadD rfl rfl (kMovC rfl (kDone (kRegD (kFadP rfl rfl (kLoadP rfl rfl rfl (kMovC rfl ?_))))))
    refine kCall1 false (ok_bytes_Clone a[i] (Nat.le_trans (hb _ (List.getElem_mem hlt)) (by omega))) ⟨rfl, trivial⟩ rfl rfl rfl fun os => ?_
    refine kLit rfl rfl rfl rfl (kRelF rfl rfl ?_)
    refine kApp rfl rfl rfl rfl rfl rfl ⟨rfl, rfl, Nat.zero_lt_one⟩ rfl ?_ ?_
    · show ((encBB (a.take i)).len + (DV.sl 1 [[encB a[i]]]).len) * 24 ≤ _ ∧ (encBB (a.take i)).len + (DV.sl 1 [[encB a[i]]]).len ≤ _
      rw [len_encBB, List.length_take]; simp [DV.len, DV.rows]; omega
    refine kFadP rfl rfl (kRelF rfl rfl (kStoreP rfl rfl rfl rfl (kDone (kH (kBk (kReg (kAdd rfl rfl (by omega) (kMovC rfl (kDone ?_)))))))))
    refine kInv ⟨⟨i + 1, hlt⟩, by simp only; omega, .norm ?_ ?_⟩
    · repeat' first | exact trivial | exact rfl | exact .inl rfl | refine ⟨_, rfl, ?_⟩ | refine ⟨?_, ?_⟩ | fail
    · repeat' first | exact trivial | exact rfl | exact .inl rfl | refine ⟨_, rfl, ?_⟩ | refine ⟨?_, ?_⟩ | fail
      rw [← List.take_append_getElem hlt, ← app_encBB]
      rfl
  · refine kExit (kExC (kExI (kExB (kSeq (kReg (kLoadP rfl rfl rfl (kStoreP rfl rfl rfl rfl (kDone ?_))))))))
    have hge : i = a.length := by simp at h1; omega
    subst hge
    refine kRet (endRet (ra := [.agg [.own true _]]) rfl ⟨⟨⟨⟨⟨⟨_, rfl, fun _ => rfl⟩, .inl Nat.zero_lt_one⟩, trivial⟩, leb⟩, trivial⟩, nodupB_sound rfl, ⟨trivial, trivial⟩, trivial⟩ ?_)
    rw [List.take_length]

def c_slices_Clone_Lint_int : C := (.seq (.reg false (.o 0 2 (.mov (.n 1)) .done)) (.seq (.seq (.reg false (.o 0 3 (.mov (.t 0)) (.o 1 4 (.eqn false (.t 3)) .done))) (.cond (.t 4) (.seq (.reg false (.o 0 2 (.mov (.n 1)) .done)) .ret) .skip)) (.seq (.reg false (.o 0 5 (.lit 5 1 [(.i 0)] 0 []) (.o 1 6 (.mov (.t 0)) (.o 2 7 (.app 7 1 8 (.t 5) (.t 6)) (.o 3 2 (.mov (.t 7)) .done))))) .ret)))
theorem dg_slices_Clone_Lint_int : Tryz.f235.body.bind (digC Tryz.prog Tryz.f235.ntmps []) = some c_slices_Clone_Lint_int := by kernel_rfl
theorem rs_slices_Clone_Lint_int : resSlots Tryz.prog Tryz.f235 = some [.s 2] := by kernel_rfl
theorem ok_slices_Clone_Lint_int (b : List Int) (hb : b.length ≤ 4194304) :
    FnOK Tryz.prog 235 [.one (.d (encI b))] (fun ra _ => ra = [.one (.own true (encI b))]) := by
  refine FnOK.ofK Tryz.func235 (by kernel_rfl) dg_slices_Clone_Lint_int rs_slices_Clone_Lint_int rfl rfl ?_
  delta c_slices_Clone_Lint_int T.o X.i
  refine kSeq (kReg (kMovC rfl (kDone ?_)))
  refine kSeq (kSeq (kReg (kMovC rfl (kEqn rfl rfl rfl fun n hn => kDone ?_))))
  refine kCond rfl (fun h => ?_) (fun h => ?_)
  · refine kSeq (kReg (kMovC rfl (kDone (kRet ?_))))
    refine endRet (ra := [.one (.own true (.sl 1 []))]) rfl ⟨⟨rfl, trivial⟩, nodupB_sound rfl, trivial, trivial⟩ ?_
    have : b = [] := by
      rw [len_encI] at hn
      cases b with
      | nil => rfl
      | cons x l => have := hn (by simp); simp [this] at h
    rw [this]; rfl
  · refine kSkip (kSeq (kReg ?_))
    refine kLit rfl rfl rfl rfl (kMovC rfl ?_)
    refine kApp (cy := .d (encI b)) rfl rfl rfl (src_encI _ b) rfl rfl ⟨rfl, rfl, Nat.zero_lt_one⟩ rfl ?_ (kMovC rfl (kDone (kRet ?_)))
    · show ((DV.sl 1 (chunk 1 0 [])).len + (encI b).len) * 8 ≤ _ ∧ _
      rw [len_encI]; simp [DV.len, chunk]; omega
    refine endRet (ra := [.one (.own true _)]) rfl ⟨⟨⟨⟨_, rfl, fun _ => rfl⟩, .inl (Nat.zero_lt_succ _)⟩, trivial⟩, nodupB_sound rfl, trivial, trivial⟩ ?_
    exact congrArg (fun x => [RA.one (RV.own true x)]) (app_nil_encI b)

def c_impl_Rr_copied : C := (.seq (.reg false (.o 0 1 (.box 1 (.t 0)) (.o 1 2 (.alloc 2 [(.n 1), (.i 0), (.i 0), (.i 0), (.n 1), (.n 1), (.n 1)]) .done))) (.seq (.reg true (.op 0 [] (some 3) none true (.fad (.t 1) 0) (.op 1 [] (some 4) none true (.load (some 1) (.t 3)) (.op 3 [] (some 6) none true (.fad (.t 1) 4) (.op 4 [] (some 7) none true (.load (some 1) (.t 6)) (.op 6 [] (some 9) none true (.fad (.t 1) 5) (.op 7 [] (some 10) none true (.load none (.t 9)) (.op 9 [] (some 12) none true (.fad (.t 1) 6) (.op 10 [] (some 13) none true (.load none (.t 12)) (.op 2 [1] (some 5) none false (.call 5 110 [(.t 4)]) (.op 12 [] (some 15) none true (.fad (.t 1) 0) (.op 5 [4, 1] (some 8) none false (.call 8 110 [(.t 7)]) (.op 8 [7, 4, 1] (some 11) none false (.call 11 222 [(.t 10)]) (.op 11 [10, 7, 4, 1] (some 14) none false (.call 14 235 [(.t 13)]) (.op 13 [1, 4, 7, 10] none none false (.store (some 1) (.t 15) (.t 5)) (.op 14 [] (some 16) none true (.fad (.t 1) 4) (.op 15 [1, 4, 7, 10] none none false (.store (some 1) (.t 16) (.t 8)) (.op 16 [] (some 17) none true (.fad (.t 1) 5) (.op 17 [1, 4, 7, 10] none none false (.store none (.t 17) (.t 11)) (.op 18 [] (some 18) none true (.fad (.t 1) 6) (.op 19 [1, 4, 7, 10] none none false (.store none (.t 18) (.t 14)) .done))))))))))))))))))))) (.seq (.reg false (.o 0 19 (.load (some 7) (.t 1)) (.op 1 [] none none false (.store (some 7) (.t 2) (.t 19)) .done))) .ret)))
theorem dg_impl_Rr_copied : Tryz.f188.body.bind (digC Tryz.prog Tryz.f188.ntmps []) = some c_impl_Rr_copied := by kernel_rfl
theorem rs_impl_Rr_copied : resSlots Tryz.prog Tryz.f188 = some [.m 2 (some 7)] := by kernel_rfl
theorem ok_impl_Rr_copied (r : Rr) (hs : SmallR r) :
    FnOK Tryz.prog 188 [.agg (r.cells.map .d)] (fun ra _ => ra = [.agg [.own true (encBB r.name), .d (.sc (.int .i64 r.ty)), .d (.sc (.int .i64 r.ttl)), .d (.sc (.int .i64 r.addr)), .own true (encBB r.to), .own true (encB r.text), .own true (encI r.nums)]]) := by
  refine FnOK.ofK Tryz.func188 (by kernel_rfl) dg_impl_Rr_copied rs_impl_Rr_copied rfl rfl ?_
  delta c_impl_Rr_copied T.o X.i
  have n1 := hs.n.len
  have n2 := hs.n.mem
  have t1 := hs.t.len
  have t2 := hs.t.mem
  have x1 := hs.x
  have m1 := hs.m
  refine kSeq (kCut ⟨tabSl [(1, .c (.ptr (rid 1 0) 1 0)), (2, .c (.ptr (rid 2 0) 1 0))], obTab 1 [(rid 1 0, ⟨1, 0, .box (r.cells.map .d)⟩), (rid 2 0, ⟨1, 0, .box [.nil 1, .d (.sc (.int .i64 0)), .d (.sc (.int .i64 0)), .d (.sc (.int .i64 0)), .nil 1, .nil 1, .nil 1]⟩)], []⟩ ?_ (fun x hc => ?_))
  case refine_2 => refine kReg (kBox rfl rfl rfl rfl rfl (kAlloc rfl rfl (kDone (hc _ .normA))))
  refine kSeq (kCut ⟨tabSl [(1, .c (.ptr (rid 1 0) 1 0)), (2, .c (.ptr (rid 2 0) 1 0))], obTab 1 [(rid 1 0, ⟨1, 0, .box [.arr (rid 5 0) 1, .d (.sc (.int .i64 r.ty)), .d (.sc (.int .i64 r.ttl)), .d (.sc (.int .i64 r.addr)), .arr (rid 8 0) 1, .arr (rid 11 0) 1, .arr (rid 14 0) 1]⟩), (rid 2 0, ⟨1, 0, .box [.nil 1, .d (.sc (.int .i64 0)), .d (.sc (.int .i64 0)), .d (.sc (.int .i64 0)), .nil 1, .nil 1, .nil 1]⟩), (rid 5 0, ⟨1, 0, .arr true (encBB r.name)⟩), (rid 8 0, ⟨1, 0, .arr true (encBB r.to)⟩), (rid 11 0, ⟨1, 0, .arr true (encB r.text)⟩), (rid 14 0, ⟨1, 0, .arr true (encI r.nums)⟩)], []⟩ ?_ (fun x hc => ?_))
  case refine_2 => refine kRegD (kFadP rfl rfl (kLoadP rfl rfl rfl (kFadP rfl rfl (kLoadP rfl rfl rfl (kFadP rfl rfl (kLoadP rfl rfl rfl (kFadP rfl rfl (kLoadP rfl rfl rfl (kRelK rfl rfl (kCall1 true (ok_impl_Name_copied _ pr pr) ⟨⟨⟨rfl, trivial⟩, leb⟩, trivial⟩ rfl rfl rfl (fun _ => (kFadP rfl rfl (kRelK rfl rfl (kCall1 true (ok_impl_Name_copied _ pr pr) ⟨⟨⟨rfl, trivial⟩, leb⟩, trivial⟩ rfl rfl rfl (fun _ => (kRelK rfl rfl (kCall1 true (ok_bytes_Clone _ pr) ⟨rfl, trivial⟩ rfl rfl rfl (fun _ => (kRelF rfl rfl (kCall1 true (ok_slices_Clone_Lint_int _ pr) ⟨rfl, trivial⟩ rfl rfl rfl (fun _ => (kRelF rfl rfl (kStoreP rfl rfl rfl rfl (kFadP rfl rfl (kRelF rfl rfl (kStoreP rfl rfl rfl rfl (kFadP rfl rfl (kRelF rfl rfl (kStoreP rfl rfl rfl rfl (kFadP rfl rfl (kRelF rfl rfl (kStoreP rfl rfl rfl rfl (kDone (kH (kMem [(8192, ⟨1, 0, .box [.arr 24576 2, .d _, .d _, .d _, .arr 36864 2, .arr 49152 2, .arr 61440 2]⟩), (12288, ⟨1, 0, .box [.nil 1, .d _, .d _, .d _, .nil 1, .nil 1, .nil 1]⟩), (24576, ⟨2, 0, .arr true _⟩), (36864, ⟨2, 0, .arr true _⟩), (49152, ⟨2, 0, .arr true _⟩), (61440, ⟨2, 0, .arr true _⟩)] [(1, .c (.ptr 8192 1 0)), (2, .c (.ptr 12288 1 0))] [] ⟨rfl, rfl, rfl, rfl, rfl, rfl, trivial⟩ ⟨rfl, rfl, trivial⟩ rfl (hc _ .normA))))))))))))))))))))))))))))))))))))
  refine kSeq (kCut ⟨tabSl [(2, .c (.ptr (rid 2 0) 1 0))], obTab 1 [(rid 2 0, ⟨1, 0, .box [.arr (rid 5 0) 1, .d (.sc (.int .i64 r.ty)), .d (.sc (.int .i64 r.ttl)), .d (.sc (.int .i64 r.addr)), .arr (rid 8 0) 1, .arr (rid 11 0) 1, .arr (rid 14 0) 1]⟩), (rid 5 0, ⟨1, 0, .arr true (encBB r.name)⟩), (rid 8 0, ⟨1, 0, .arr true (encBB r.to)⟩), (rid 11 0, ⟨1, 0, .arr true (encB r.text)⟩), (rid 14 0, ⟨1, 0, .arr true (encI r.nums)⟩)], []⟩ ?_ (fun x hc => ?_))
  case refine_2 => refine kReg (kLoadP rfl rfl rfl (kStoreP rfl rfl rfl rfl (kDone (hc _ .normA))))
  refine (kRet (endRetA (ra := [.agg [(.own true _), (.d _), (.d _), (.d _), (.own true _), (.own true _), (.own true _)]]) rfl rfl))

def c_impl_copyRrs : C := (.seq (.reg false (.o 0 2 (.mov (.n 7)) .done)) (.seq (.reg false (.o 0 6 (.lit 6 7 [(.n 1), (.i 0), (.i 0), (.i 0), (.n 1), (.n 1), (.n 1)] 0 []) (.o 1 3 (.mov (.t 6)) .done))) (.seq (.seq (.reg false (.o 0 7 (.mov (.t 0)) (.o 1 8 (.len (.t 7)) (.o 2 9 (.mov (.i 0)) .done)))) (.block 0 (.loop (.seq (.reg false (.o 0 10 (.bin .lss (.t 9) (.t 8)) .done)) (.seq (.cond (.t 10) .skip (.exit 0)) (.seq (.block 1 (.seq (.reg false (.o 0 11 (.iad 7 (.t 7) (.t 9)) (.o 1 12 (.load (some 7) (.t 11)) (.o 2 5 (.alloc 5 [(.n 1), (.i 0), (.i 0), (.i 0), (.n 1), (.n 1), (.n 1)]) (.op 3 [] none none false (.store (some 7) (.t 5) (.t 12)) .done))))) (.reg false (.o 0 13 (.mov (.t 3)) (.o 1 14 (.load (some 7) (.t 5)) (.o 2 15 (.call 15 188 [(.t 14)]) (.o 3 16 (.lit 16 7 [(.n 1), (.i 0), (.i 0), (.i 0), (.n 1), (.n 1), (.n 1)] 1 [(0, 7, (.t 15))]) (.o 4 17 (.app 17 7 120 (.t 13) (.t 16)) (.o 5 3 (.mov (.t 17)) .done))))))))) (.reg false (.o 0 18 (.bin .add (.t 9) (.i 1)) (.o 1 9 (.mov (.t 18)) .done))))))))) (.seq (.reg false (.o 0 19 (.mov (.t 3)) (.o 1 2 (.mov (.t 19)) .done))) .ret))))
theorem dg_impl_copyRrs : Tryz.f84.body.bind (digC Tryz.prog Tryz.f84.ntmps []) = some c_impl_copyRrs := by kernel_rfl
theorem rs_impl_copyRrs : resSlots Tryz.prog Tryz.f84 = some [.s 2] := by kernel_rfl
theorem ok_impl_copyRrs (l : List Rr) (hs : SmallRs l) :
    FnOK Tryz.prog 84 [.one (.d (encR l))] (fun ra _ => ra = [.one (.own true (encR l))]) := by
  refine FnOK.ofK Tryz.func84 (by kernel_rfl) dg_impl_copyRrs rs_impl_copyRrs rfl rfl ?_
  delta c_impl_copyRrs T.o X.i
  have h1 := hs.len
  refine kSeq (kReg (kMovC rfl (kDone (kSeq (kReg (kLit rfl rfl rfl rfl (kMovC rfl (kDone (kSeq (kSeq (kReg (kMovC rfl (kLenR rfl rfl (kMovC rfl (kDone (kBlock ?_))))))))))))))))
  refine kLoop (α := { i : Nat // i ≤ l.length }) (fun y => ⟨tabSl [(3, .c (.arr (rid 6 0) 1)), (7, .dv (encR l)), (8, .i l.length), (9, .i y.1)], obTab 1 [(rid 6 0, ⟨1, 0, .arr true (encR (l.take y.1))⟩)], []⟩) (fun y => l.length - y.1) ⟨0, by simp⟩ .normA ?_
  rintro ⟨i, hi⟩
  simp only
  have hlen : (l.take i).length = i := by simp; omega
  rcases Nat.lt_or_ge i l.length with hlt | hge
  · have hbi := hs.mem _ (List.getElem_mem hlt)
    refine kSeq (kReg (kBin rfl rfl rfl (kDone (kSeq (kCondP rfl (fun g0 => kSkip (kSeq (kBlock (kSeq (kReg (kIadR rfl rfl rfl (by omega) (kLoadD rfl rfl (kAlloc rfl rfl (kStoreP rfl rfl rfl rfl (kDone (kReg (kMovC rfl (kLoadP rfl rfl rfl (kCall1 true (ok_impl_Rr_copied _ pr) ⟨⟨⟨rfl, rfl, rfl, rfl, rfl, rfl, rfl, trivial⟩, leb⟩, trivial⟩ rfl rfl rfl (fun _ => (kLit rfl rfl rfl rfl (kAppRec rfl rfl rfl rfl rfl rfl rfl (by omega) (kMovC rfl (kDone (kBk (kReg (kAdd rfl rfl (by omega) (kMovC rfl (kDone ?_)))))))))))))))))))))))) (fun g0 => (by omega)))))))
    exact kInv ⟨⟨i + 1, by omega⟩, by simp only; omega, .normA⟩
  · refine kSeq (kReg (kBin rfl rfl rfl (kDone (kSeq (kCondP rfl (fun g0 => (by omega)) (fun g0 => kExit (kExC (kExI (kExB (kSeq (kReg (kMovC rfl (kMovC rfl (kDone (kRet (endRetA (ra := [.one (.own true _)]) rfl ?_))))))))))))))))
    rw [show i = l.length by omega, List.take_length]

def c_impl_Zone_copied : C := (.seq (.reg false (.o 0 1 (.box 1 (.t 0)) (.o 1 2 (.alloc 2 [(.n 1), (.n 7)]) .done))) (.seq (.reg true (.op 0 [] (some 3) none true (.fad (.t 1) 0) (.op 1 [] (some 4) none true (.load (some 1) (.t 3)) (.op 3 [] (some 6) none true (.fad (.t 1) 1) (.op 4 [] (some 7) none true (.load none (.t 6)) (.op 2 [1] (some 5) none false (.call 5 110 [(.t 4)]) (.op 5 [4, 1] (some 8) none false (.call 8 84 [(.t 7)]) (.op 6 [] (some 9) none true (.build [(.n 1), (.n 7)] [(0, 1, (.t 5)), (1, 1, (.t 8))]) (.op 7 [1, 4] none none false (.store (some 2) (.t 2) (.t 9)) .done))))))))) .ret))
theorem dg_impl_Zone_copied : Tryz.f75.body.bind (digC Tryz.prog Tryz.f75.ntmps []) = some c_impl_Zone_copied := by kernel_rfl
theorem rs_impl_Zone_copied : resSlots Tryz.prog Tryz.f75 = some [.m 2 (some 2)] := by kernel_rfl
theorem ok_impl_Zone_copied (z : Zone) (hs : SmallZ z) :
    FnOK Tryz.prog 75 [.agg (z.cells.map .d)] (fun ra _ => ra = [.agg [.own true (encBB z.origin), .own true (encR z.rrs)]]) := by
  refine FnOK.ofK Tryz.func75 (by kernel_rfl) dg_impl_Zone_copied rs_impl_Zone_copied rfl rfl ?_
  delta c_impl_Zone_copied T.o X.i
  have o1 := hs.o.len
  have o2 := hs.o.mem
  have h1 := hs.r
  refine kSeq (kReg (kBox rfl rfl rfl rfl rfl (kAlloc rfl rfl (kDone (kSeq (kRegD (kFadP rfl rfl (kLoadP rfl rfl rfl (kFadP rfl rfl (kLoadP rfl rfl rfl (kRelK rfl rfl (kCall1 true (ok_impl_Name_copied _ pr pr) ⟨⟨⟨rfl, trivial⟩, leb⟩, trivial⟩ rfl rfl rfl (fun _ => (kRelF rfl rfl (kCall1 true (ok_impl_copyRrs _ pr) ⟨rfl, trivial⟩ rfl rfl rfl (fun _ => (kBuildG rfl (kRelF rfl rfl (kStoreP rfl rfl rfl rfl (kDone (kH (kRet (endRetA (ra := [.agg [(.own true _), (.own true _)]]) rfl rfl)))))))))))))))))))))))

def c_impl_ZoneNew : C := (.seq (.reg false (.o 0 2 (.box 2 (.t 0)) (.o 1 4 (.alloc 4 [(.n 1), (.n 7)]) (.o 2 5 (.mov (.v (.bool false))) .done)))) (.seq (.reg true (.op 0 [] (some 7) none true (.load (some 1) (.t 2)) (.op 1 [] (some 8) none true (.load (some 1) (.t 2)) (.op 2 [] (some 9) none true (.mov (.t 1)) (.alt (.op 3 [1] (some 10) none false (.call 10 186 [(.t 8), (.t 9)]) (.alt (.op 4 [1] (some 11) none false (.lit 11 7 [(.n 1), (.i 0), (.i 0), (.i 0), (.n 1), (.n 1), (.n 1)] 1 [(0, 7, (.t 10))]) (.op 5 [] (some 12) none true (.build [(.n 1), (.n 7)] [(0, 1, (.t 7)), (1, 1, (.t 11))]) (.o 6 6 (.alloc 6 [(.n 1), (.n 7)]) (.op 7 [0, 1] none none false (.store (some 2) (.t 6) (.t 12)) .done)))) (.o 6 6 (.alloc 6 [(.n 1), (.n 7)]) (.op 4 [1] (some 11) none false (.lit 11 7 [(.n 1), (.i 0), (.i 0), (.i 0), (.n 1), (.n 1), (.n 1)] 1 [(0, 7, (.t 10))]) (.op 5 [] (some 12) none true (.build [(.n 1), (.n 7)] [(0, 1, (.t 7)), (1, 1, (.t 11))]) (.op 7 [0, 1] none none false (.store (some 2) (.t 6) (.t 12)) .done)))))) (.o 6 6 (.alloc 6 [(.n 1), (.n 7)]) (.op 3 [1] (some 10) none false (.call 10 186 [(.t 8), (.t 9)]) (.op 4 [1] (some 11) none false (.lit 11 7 [(.n 1), (.i 0), (.i 0), (.i 0), (.n 1), (.n 1), (.n 1)] 1 [(0, 7, (.t 10))]) (.op 5 [] (some 12) none true (.build [(.n 1), (.n 7)] [(0, 1, (.t 7)), (1, 1, (.t 11))]) (.op 7 [0, 1] none none false (.store (some 2) (.t 6) (.t 12)) .done)))))))))) (.seq (.seq (.reg false (.o 0 13 (.load (some 2) (.t 6)) (.o 1 14 (.call 14 19 [(.t 13)]) (.o 2 15 (.un .not (.t 14)) .done)))) (.cond (.t 15) (.seq (.reg false (.o 0 16 (.build [(.n 1), (.n 7)] []) (.op 1 [] none none false (.store (some 2) (.t 4) (.t 16)) (.o 2 5 (.mov (.v (.bool false))) .done)))) .ret) .skip)) (.seq (.reg false (.o 0 17 (.load (some 2) (.t 6)) (.o 1 18 (.call 18 75 [(.t 17)]) (.op 2 [] none none false (.store (some 2) (.t 4) (.t 18)) (.o 3 5 (.mov (.v (.bool true))) .done))))) .ret))))
theorem dg_impl_ZoneNew : Tryz.f82.body.bind (digC Tryz.prog Tryz.f82.ntmps []) = some c_impl_ZoneNew := by kernel_rfl
theorem rs_impl_ZoneNew : resSlots Tryz.prog Tryz.f82 = some [.m 4 (some 2), .s 5] := by kernel_rfl
theorem ok_impl_ZoneNew (o : List (List UInt8)) (s : Int) (ho : SmallBB o) :
    FnOK Tryz.prog 82 [.agg [.d (encBB o)], .one (.d (.sc (.int .i64 s)))] (fun ra _ => ra = [.agg [.own true (encBB (zoneNewN o s).origin), .own true (encR (zoneNewN o s).rrs)], .one (.d (.sc (.bool (zoneOk (newZ o s)))))]) := by
  refine FnOK.ofK Tryz.func82 (by kernel_rfl) dg_impl_ZoneNew rs_impl_ZoneNew rfl rfl ?_
  delta c_impl_ZoneNew T.o X.i
  have hs := SmallZ.top s ho
  refine kSeq (kCut ⟨tabSl [(1, .i s), (2, .c (.ptr (rid 2 0) 1 0)), (4, .c (.ptr (rid 4 0) 1 0)), (5, .b false)], obTab 1 [(rid 2 0, ⟨1, 0, .box [.d (encBB o)]⟩), (rid 4 0, ⟨1, 0, .box [.nil 1, .nil 7]⟩)], []⟩ ?_ (fun x hc => ?_))
  case refine_2 => refine kReg (kBox rfl rfl rfl rfl rfl (kAlloc rfl rfl (kMovC rfl (kDone (hc _ .normA)))))
  refine kSeq (kCut ⟨tabSl [(4, .c (.ptr (rid 4 0) 1 0)), (5, .b false), (6, .c (.ptr (rid 6 0) 1 0))], obTab 1 [(rid 4 0, ⟨1, 0, .box [.nil 1, .nil 7]⟩), (rid 6 0, ⟨1, 0, .box [.d (encBB o), .arr (rid 11 0) 1]⟩), (rid 11 0, ⟨1, 0, .arr false (encR [topR o s])⟩)], []⟩ ?_ (fun x hc => ?_))
  case refine_2 => refine kRegD (kLoadP rfl rfl rfl (kLoadP rfl rfl rfl (kMovC rfl (kAlt (kRelK rfl rfl (kCall1 false (ok_impl_topRr _ _) ⟨⟨⟨rfl, trivial⟩, leb⟩, rfl, trivial⟩ rfl rfl rfl (fun _ => (kAlt (kRelK rfl rfl (kLit rfl rfl rfl rfl (kBuildG rfl (kAlloc rfl rfl (kRelF rfl rfl (kStoreP rfl rfl rfl rfl (kDone (kH (hc _ .normA))))))))) (kAlloc rfl rfl (kRelK rfl rfl (kLit rfl rfl rfl rfl (kBuildG rfl (kRelF rfl rfl (kStoreP rfl rfl rfl rfl (kDone (kH (hc _ .normA))))))))))))) (kAlloc rfl rfl (kRelK rfl rfl (kCall1 false (ok_impl_topRr _ _) ⟨⟨⟨rfl, trivial⟩, leb⟩, rfl, trivial⟩ rfl rfl rfl (fun _ => (kRelK rfl rfl (kLit rfl rfl rfl rfl (kBuildG rfl (kRelF rfl rfl (kStoreP rfl rfl rfl rfl (kDone (kH (hc _ .normA))))))))))))))))
  refine kSeq (kSeq (kReg (kLoadP rfl rfl rfl ?_)))
  refine kCallD (ok_impl_ZoneOk (newZ o s) hs) ⟨⟨⟨rfl, rfl, trivial⟩, leb⟩, trivial⟩ rfl rfl rfl rfl rfl ?_
  cases hok : zoneOk (newZ o s)
  · rw [show zoneNewN o s = zeroZ by unfold zoneNewN; rw [hok]; rfl]
    refine kUn rfl rfl (kDone (kCondT rfl (kSeq (kReg (kBuildG rfl (kStoreP rfl rfl rfl rfl (kMovC rfl (kDone (kRet (endRetA (ra := [.agg [(.own true _), (.own true _)], .one (.d _)]) rfl rfl))))))))))
  · rw [show zoneNewN o s = newZ o s by unfold zoneNewN; rw [hok]; rfl]
    refine kUn rfl rfl (kDone (kCondF rfl (kSkip (kSeq (kReg (kLoadP rfl rfl rfl ?_))))))
    refine kCall1 true (ok_impl_Zone_copied (newZ o s) hs) ⟨⟨⟨rfl, rfl, trivial⟩, leb⟩, trivial⟩ rfl rfl rfl (fun _ => ?_)
    refine (kStoreP rfl rfl rfl rfl (kMovC rfl (kDone (kRet (endRetA (ra := [.agg [(.own true _), (.own true _)], .one (.d _)]) rfl rfl)))))

def c_impl_HouseNew : C := (.seq (.reg false (.o 0 2 (.alloc 2 [(.i 0), (.n 1), (.n 7), (.n 1), (.n 7), (.n 5)]) (.o 1 3 (.mov (.v (.bool false))) .done))) (.seq (.reg false (.o 0 9 (.call 9 137 []) (.o 1 10 (.mov (.t 0)) (.o 2 11 (.call 11 82 [(.t 9), (.t 10)]) (.o 3 8 (.mov (.t 11)) (.o 4 12 (.ext (.t 8) 0) (.o 5 13 (.ext (.t 8) 1) (.o 6 4 (.alloc 4 [(.n 1), (.n 7)]) (.op 7 [] none none false (.store (some 2) (.t 4) (.t 12)) (.o 8 5 (.mov (.t 13)) .done)))))))))) (.seq (.reg false (.o 0 15 (.call 15 138 []) (.o 1 16 (.mov (.t 0)) (.o 2 17 (.call 17 82 [(.t 15), (.t 16)]) (.o 3 14 (.mov (.t 17)) (.o 4 18 (.ext (.t 14) 0) (.o 5 19 (.ext (.t 14) 1) (.o 6 6 (.alloc 6 [(.n 1), (.n 7)]) (.op 7 [] none none false (.store (some 2) (.t 6) (.t 18)) (.o 8 7 (.mov (.t 19)) .done)))))))))) (.seq (.seq (.reg false (.o 0 20 (.mov (.t 5)) (.o 1 21 (.un .not (.t 20)) (.o 2 22 (.mov (.t 21)) (.op 3 [] (some 23) (some (22, false)) false (.mov (.t 7)) (.op 4 [] (some 24) (some (22, false)) false (.un .not (.t 23)) (.o 5 25 (.pick (.t 22) (.v (.bool true)) (.t 24)) .done))))))) (.cond (.t 25) (.seq (.reg false (.o 0 26 (.build [(.i 0), (.n 1), (.n 7), (.n 1), (.n 7), (.n 5)] []) (.op 1 [] none none false (.store (some 6) (.t 2) (.t 26)) (.o 2 3 (.mov (.v (.bool false))) .done)))) .ret) .skip)) (.seq (.reg false (.o 0 27 (.load (some 2) (.t 4)) (.o 1 28 (.load (some 2) (.t 6)) (.o 2 29 (.build [(.i 0), (.n 1), (.n 7), (.n 1), (.n 7), (.n 5)] [(1, 2, (.t 27)), (3, 2, (.t 28))]) (.op 3 [] none none false (.store (some 6) (.t 2) (.t 29)) (.o 4 3 (.mov (.v (.bool true))) .done)))))) .ret)))))
theorem dg_impl_HouseNew : Tryz.f48.body.bind (digC Tryz.prog Tryz.f48.ntmps []) = some c_impl_HouseNew := by kernel_rfl
theorem rs_impl_HouseNew : resSlots Tryz.prog Tryz.f48 = some [.m 2 (some 6), .s 3] := by kernel_rfl
theorem ok_impl_HouseNew (s : Int) :
    FnOK Tryz.prog 48 [.one (.d (.sc (.int .i64 s)))] (fun ra _ => ra = [.agg [.d (.sc (.int .i64 0)), .own true (encBB (hZone homeN s).origin), .own true (encR (hZone homeN s).rrs), .own true (encBB (hZone revN s).origin), .own true (encR (hZone revN s).rrs), .own true (encE [])], .one (.d (.sc (.bool (hOk s))))]) := by
  refine FnOK.ofK Tryz.func48 (by kernel_rfl) dg_impl_HouseNew rs_impl_HouseNew rfl rfl ?_
  delta c_impl_HouseNew T.o X.i
  have q1 := small_homeN
  have q2 := small_revN
  refine kSeq (kReg (kAlloc rfl rfl (kMovC rfl (kDone (kSeq (kReg (kCall1 false (ok_impl_home) trivial rfl rfl rfl (fun _ => (kMovC rfl (kCall1 true (ok_impl_ZoneNew _ _ (by first | assumption | omega | solve_by_elim [List.getElem_mem] | (simp only [szOut] at *; omega) | exact rfl | exact leb | exact rrOk_small (by assumption) | exact zoneOk_small (by assumption) | exact SmallBB.ok (by assumption) | exact (SmallBB.ok (by assumption)).len | exact (SmallBB.ok (by assumption)).mem | exact SmallBB.bent (by assumption))) ⟨⟨⟨rfl, trivial⟩, leb⟩, rfl, trivial⟩ rfl rfl rfl (fun _ => (kMovT rfl (kExtC rfl rfl (kExtC rfl rfl (kAlloc rfl rfl (kMem [(20480, ⟨1, 0, .box [.nil 1, .nil 7]⟩), (49152, ⟨1, 0, .arr true _⟩), (49153, ⟨1, 0, .arr true _⟩)] [(4, .c (.ptr 20480 1 0)), (12, .g [.arr 49152 1, .arr 49153 1]), (13, .c (.d _))] [] ⟨rfl, rfl, rfl, trivial⟩ ⟨rfl, rfl, rfl, trivial⟩ rfl (kStoreP rfl rfl rfl rfl (kMovC rfl (kDone (kSeq (kReg (kCall1 false (ok_impl_rev) trivial rfl rfl rfl (fun _ => (kMovC rfl (kCall1 true (ok_impl_ZoneNew _ _ (by first | assumption | omega | solve_by_elim [List.getElem_mem] | (simp only [szOut] at *; omega) | exact rfl | exact leb | exact rrOk_small (by assumption) | exact zoneOk_small (by assumption) | exact SmallBB.ok (by assumption) | exact (SmallBB.ok (by assumption)).len | exact (SmallBB.ok (by assumption)).mem | exact SmallBB.bent (by assumption))) ⟨⟨⟨rfl, trivial⟩, leb⟩, rfl, trivial⟩ rfl rfl rfl (fun _ => (kMovT rfl (kExtC rfl rfl (kExtC rfl rfl (kAlloc rfl rfl (kMem [(28672, ⟨1, 0, .box [.nil 1, .nil 7]⟩), (73728, ⟨1, 0, .arr true _⟩), (73729, ⟨1, 0, .arr true _⟩)] [(6, .c (.ptr 28672 1 0)), (18, .g [.arr 73728 1, .arr 73729 1]), (19, .c (.d _))] [] ⟨rfl, rfl, rfl, trivial⟩ ⟨rfl, rfl, rfl, trivial⟩ rfl (kStoreP rfl rfl rfl rfl (kMovC rfl (kDone (kSeq (kSeq (kReg (kMovC rfl (kUn rfl rfl (kMovC rfl (kGN rfl (fun g0 => kGF rfl (kGF rfl (kPickT rfl (kMovC rfl (kDone (kCondT rfl (kSeq (kReg (kMem [(12288, ⟨1, 0, .box [.d _, .nil 1, .nil 7, .nil 1, .nil 7, .nil 5]⟩)] [(2, .c (.ptr 12288 1 0)), (26, .c (.un))] [] ⟨rfl, trivial⟩ ⟨rfl, rfl, trivial⟩ rfl (kBuildG rfl (kMem [(12288, ⟨1, 0, .box [.d _, .nil 1, .nil 7, .nil 1, .nil 7, .nil 5]⟩)] [(2, .c (.ptr 12288 1 0)), (26, .g [.d _, .nil 1, .nil 7, .nil 1, .nil 7, .nil 5])] [] ⟨rfl, trivial⟩ ⟨rfl, rfl, trivial⟩ rfl (kStoreP rfl rfl rfl rfl (kMovC rfl (kDone (kMem [(12288, ⟨1, 0, .box [.d _, .nil 1, .nil 7, .nil 1, .nil 7, .nil 5]⟩)] [(2, .c (.ptr 12288 1 0)), (3, .c (.d _))] [] ⟨rfl, trivial⟩ ⟨rfl, rfl, trivial⟩ rfl (kRet (endRetA (ra := [.agg [(.d _), (.own true _), (.own true _), (.own true _), (.own true _), (.own true _)], .one (.d _)]) rfl ?_))))))))))))))))) (fun g0 => kGT rfl (kMovC rfl (kGT rfl (kUn rfl rfl (kPickF rfl (kMovC rfl (kDone (kCondN rfl (fun g1 => kSeq (kReg (kMem [(12288, ⟨1, 0, .box [.d _, .nil 1, .nil 7, .nil 1, .nil 7, .nil 5]⟩)] [(2, .c (.ptr 12288 1 0)), (26, .c (.un))] [] ⟨rfl, trivial⟩ ⟨rfl, rfl, trivial⟩ rfl (kBuildG rfl (kMem [(12288, ⟨1, 0, .box [.d _, .nil 1, .nil 7, .nil 1, .nil 7, .nil 5]⟩)] [(2, .c (.ptr 12288 1 0)), (26, .g [.d _, .nil 1, .nil 7, .nil 1, .nil 7, .nil 5])] [] ⟨rfl, trivial⟩ ⟨rfl, rfl, trivial⟩ rfl (kStoreP rfl rfl rfl rfl (kMovC rfl (kDone (kMem [(12288, ⟨1, 0, .box [.d _, .nil 1, .nil 7, .nil 1, .nil 7, .nil 5]⟩)] [(2, .c (.ptr 12288 1 0)), (3, .c (.d _))] [] ⟨rfl, trivial⟩ ⟨rfl, rfl, trivial⟩ rfl (kRet (endRetA (ra := [.agg [(.d _), (.own true _), (.own true _), (.own true _), (.own true _), (.own true _)], .one (.d _)]) rfl ?_))))))))))) (fun g1 => kSkip (kSeq (kReg (kLoadP rfl rfl rfl (kMem [(28672, ⟨1, 0, .box [.arr 73728 1, .arr 73729 1]⟩), (49152, ⟨1, 0, .arr true _⟩), (49153, ⟨1, 0, .arr true _⟩), (12288, ⟨1, 0, .box [.d _, .nil 1, .nil 7, .nil 1, .nil 7, .nil 5]⟩), (73728, ⟨1, 0, .arr true _⟩), (73729, ⟨1, 0, .arr true _⟩)] [(6, .c (.ptr 28672 1 0)), (27, .g [.arr 49152 1, .arr 49153 1]), (28, .c (.un)), (2, .c (.ptr 12288 1 0)), (29, .c (.un))] [] ⟨rfl, rfl, rfl, rfl, rfl, rfl, trivial⟩ ⟨rfl, rfl, rfl, rfl, rfl, trivial⟩ rfl (kLoadP rfl rfl rfl (kBuildG rfl (kMem [(12288, ⟨1, 0, .box [.d _, .nil 1, .nil 7, .nil 1, .nil 7, .nil 5]⟩), (49152, ⟨1, 0, .arr true _⟩), (49153, ⟨1, 0, .arr true _⟩), (73728, ⟨1, 0, .arr true _⟩), (73729, ⟨1, 0, .arr true _⟩)] [(2, .c (.ptr 12288 1 0)), (29, .g [.d _, .arr 49152 1, .arr 49153 1, .arr 73728 1, .arr 73729 1, .nil 5])] [] ⟨rfl, rfl, rfl, rfl, rfl, trivial⟩ ⟨rfl, rfl, trivial⟩ rfl (kStoreP rfl rfl rfl rfl (kMovC rfl (kDone (kMem [(12288, ⟨1, 0, .box [.d _, .arr 49152 1, .arr 49153 1, .arr 73728 1, .arr 73729 1, .nil 5]⟩), (49152, ⟨1, 0, .arr true _⟩), (49153, ⟨1, 0, .arr true _⟩), (73728, ⟨1, 0, .arr true _⟩), (73729, ⟨1, 0, .arr true _⟩)] [(2, .c (.ptr 12288 1 0)), (3, .c (.d _))] [] ⟨rfl, rfl, rfl, rfl, rfl, trivial⟩ ⟨rfl, rfl, trivial⟩ rfl (kRet (endRetA (ra := [.agg [(.d _), (.own true _), (.own true _), (.own true _), (.own true _), (.own true _)], .one (.d _)]) rfl ?_)))))))))))))))))))))))))))))))))))))))))))))))))))))))))))))))
  · have e : hOk s = false := by unfold hOk; rw [g0]; rfl
    have e2 : ∀ o, hZone o s = zeroZ := fun o => by unfold hZone; rw [e]; rfl
    rw [e, e2, e2]
    rfl
  · have e : hOk s = false := by unfold hOk; rw [g0, g1]; rfl
    have e2 : ∀ o, hZone o s = zeroZ := fun o => by unfold hZone; rw [e]; rfl
    rw [e, e2, e2]
    rfl
  · have e : hOk s = true := by unfold hOk; rw [g0, g1]; rfl
    have e2 : ∀ o, hZone o s = newZ o s := fun o => by unfold hZone; rw [e]; rfl
    have e3 : zoneNewN homeN s = newZ homeN s := by unfold zoneNewN; rw [if_pos g0]
    have e4 : zoneNewN revN s = newZ revN s := by unfold zoneNewN; rw [if_pos g1]
    rw [e, e2, e2, e3, e4]
    rfl

def c_laws_eqByteS : C := (.seq (.reg false (.o 0 4 (.mov (.v (.bool false))) .done)) (.seq (.seq (.reg false (.o 0 6 (.mov (.t 0)) (.o 1 7 (.len (.t 6)) (.o 2 8 (.mov (.t 1)) (.o 3 9 (.len (.t 8)) (.o 4 10 (.bin .neq (.t 7) (.t 9)) .done)))))) (.cond (.t 10) (.seq (.reg false (.o 0 4 (.mov (.v (.bool false))) .done)) .ret) .skip)) (.seq (.seq (.reg false (.o 0 5 (.mov (.i 0)) .done)) (.block 0 (.loop (.seq (.seq (.reg false (.o 0 11 (.mov (.t 5)) (.o 1 12 (.mov (.t 0)) (.o 2 13 (.len (.t 12)) (.o 3 14 (.bin .lss (.t 11) (.t 13)) .done))))) (.cond (.t 14) .skip (.exit 0))) (.seq (.block 1 (.seq (.reg true (.op 0 [] (some 17) none true (.mov (.t 0)) (.op 1 [] (some 18) none true (.mov (.t 5)) (.op 2 [] (some 19) none true (.iad 1 (.t 17) (.t 18)) (.op 3 [] (some 20) none true (.load none (.t 19)) (.op 4 [] (some 21) none true (.mov (.t 1)) (.op 5 [] (some 22) none true (.mov (.t 5)) (.op 6 [] (some 23) none true (.iad 1 (.t 21) (.t 22)) (.op 7 [] (some 24) none true (.load none (.t 23)) (.op 8 [] (some 25) none true (.bin .neq (.t 20) (.t 24)) .done)))))))))) (.cond (.t 25) (.seq (.reg false (.o 0 4 (.mov (.v (.bool false))) .done)) .ret) .skip))) (.reg false (.o 0 15 (.mov (.t 5)) (.o 1 16 (.bin .add (.t 15) (.i 1)) (.o 2 5 (.mov (.t 16)) .done))))))))) (.seq (.reg false (.o 0 4 (.mov (.v (.bool true))) .done)) .ret))))
theorem dg_laws_eqByteS : Tryz.f243.body.bind (digC Tryz.prog Tryz.f243.ntmps []) = some c_laws_eqByteS := by kernel_rfl
theorem rs_laws_eqByteS : resSlots Tryz.prog Tryz.f243 = some [.s 4] := by kernel_rfl
theorem ok_laws_eqByteS (a b : List UInt8) (ha : a.length ≤ 4194304) :
    FnOK Tryz.prog 243 [.one (.d (encB a)), .one (.d (encB b))] (fun ra _ => ra = [.one (.d (.sc (.bool (decide (a = b)))))]) := by
  refine FnOK.ofK Tryz.func243 (by kernel_rfl) dg_laws_eqByteS rs_laws_eqByteS rfl rfl ?_
  delta c_laws_eqByteS T.o X.i
  refine kSeq (kReg (kMovC rfl (kDone ?_)))
  refine kSeq (kSeq (kReg ?_))
  refine kMovC rfl (kLen rfl rfl rfl (kMovC rfl (kLen rfl rfl rfl (kBin rfl rfl rfl (kDone ?_)))))
  refine kCond rfl (fun h => ?_) (fun h => ?_)
  · refine kSeq (kReg (kMovC rfl (kDone (kRet ?_))))
    refine endRet (ra := [.one (.d _)]) rfl ⟨⟨⟨rfl, .inl rfl⟩, trivial⟩, .nil, trivial, trivial, trivial⟩ ?_
    have : a ≠ b := by rintro rfl; simp at h
    simp [this]
  refine kSkip (kSeq (kSeq (kReg (kMovC rfl (kDone ?_)))))
  have hl : a.length = b.length := by simp [len_encB] at h; omega
  refine kBlock ?_
  refine kLoop (α := { i : Nat // i ≤ a.length ∧ a.take i = b.take i })
    (fun y => ⟨tabSl [(0, .dv (encB a)), (1, .dv (encB b)), (5, .i y.1)], (St.init [.one (.d (encB a)), .one (.d (encB b))]).ob, []⟩) (fun y => a.length - y.1) ⟨0, by simp⟩ (.tab rfl ⟨.refl _, .refl _, .refl _, trivial⟩) ?_
  rintro ⟨i, hi, he⟩
  refine kSeq (kSeq (kReg ?_))
  refine kMovC rfl (kMovC rfl (kLen rfl rfl rfl (kBin rfl rfl rfl (kDone ?_))))
  refine kCond rfl (fun h1 => ?_) (fun h1 => ?_)
  · have hlt : i < a.length := by simp [len_encB] at h1; omega
    refine kSkip (kSeq (kBlock (kSeq (kRegD ?_))))
    refine kMovC rfl (kMovC rfl (kIadD rfl rfl rfl rfl ?_ ?_))
    · simp [len_encB]; omega
    rw [show (encB a).row (i : Int).toNat = _ from row_encB a i hlt]
    refine kLoadD rfl rfl ?_
    refine kMovC rfl (kMovC rfl (kIadD rfl rfl rfl rfl ?_ ?_))
    · simp [len_encB]; omega
    rw [show (encB b).row (i : Int).toNat = _ from row_encB b i (by omega)]
    refine kLoadD rfl rfl ?_
    refine kBin rfl rfl rfl (kDone (kH ?_))
    refine kCond rfl (fun h2 => ?_) (fun h2 => ?_)
    · refine kSeq (kReg (kMovC rfl (kDone (kRet ?_))))
      refine endRet (ra := [.one (.d _)]) rfl ⟨⟨⟨rfl, .inl rfl⟩, trivial⟩, .nil, trivial, trivial, trivial⟩ ?_
      have : a ≠ b := by rintro rfl; simp at h2
      simp [this]
    · refine kSkip (kBk (kReg (kMovC rfl (kAdd rfl rfl ?_ (kMovC rfl (kDone (kInv ?_)))))))
      · simp only; omega
      · have h3 : a[i] = b[i] := by
          simp at h2
          exact UInt8.toNat_inj.1 (by omega)
        refine ⟨⟨i + 1, hlt, ?_⟩, ?_, .tab rfl ⟨.refl _, .refl _, .refl _, trivial⟩⟩
        · rw [List.take_add_one, List.take_add_one, he, List.getElem?_eq_getElem hlt, List.getElem?_eq_getElem (by omega), h3]
        · simp only; omega
  · refine kExit (kExC (kExI (kExB ?_)))
    have hge : i = a.length := by simp [len_encB] at h1; omega
    refine kSeq (kReg (kMovC rfl (kDone (kRet ?_))))
    refine endRet (ra := [.one (.d _)]) rfl ⟨⟨⟨rfl, .inl rfl⟩, trivial⟩, .nil, trivial, trivial, trivial⟩ ?_
    have : a = b := by
      rw [hge, List.take_length] at he
      rw [he, hl, List.take_length]
    simp [this]

def c_laws_eqByteSS : C := (.seq (.reg false (.o 0 4 (.mov (.v (.bool false))) .done)) (.seq (.seq (.reg false (.o 0 6 (.mov (.t 0)) (.o 1 7 (.len (.t 6)) (.o 2 8 (.mov (.t 1)) (.o 3 9 (.len (.t 8)) (.o 4 10 (.bin .neq (.t 7) (.t 9)) .done)))))) (.cond (.t 10) (.seq (.reg false (.o 0 4 (.mov (.v (.bool false))) .done)) .ret) .skip)) (.seq (.seq (.reg false (.o 0 5 (.mov (.i 0)) .done)) (.block 0 (.loop (.seq (.seq (.reg false (.o 0 11 (.mov (.t 5)) (.o 1 12 (.mov (.t 0)) (.o 2 13 (.len (.t 12)) (.o 3 14 (.bin .lss (.t 11) (.t 13)) .done))))) (.cond (.t 14) .skip (.exit 0))) (.seq (.block 1 (.seq (.reg true (.op 0 [] (some 17) none true (.mov (.t 0)) (.op 1 [] (some 18) none true (.mov (.t 5)) (.op 2 [] (some 19) none true (.iad 1 (.t 17) (.t 18)) (.op 3 [] (some 20) none true (.load none (.t 19)) (.op 4 [] (some 21) none true (.mov (.t 1)) (.op 5 [] (some 22) none true (.mov (.t 5)) (.op 6 [] (some 23) none true (.iad 1 (.t 21) (.t 22)) (.op 7 [] (some 24) none true (.load none (.t 23)) (.op 8 [3, 7] (some 25) none false (.call 25 243 [(.t 20), (.t 24)]) (.op 9 [] (some 26) none true (.un .not (.t 25)) .done))))))))))) (.cond (.t 26) (.seq (.reg false (.o 0 4 (.mov (.v (.bool false))) .done)) .ret) .skip))) (.reg false (.o 0 15 (.mov (.t 5)) (.o 1 16 (.bin .add (.t 15) (.i 1)) (.o 2 5 (.mov (.t 16)) .done))))))))) (.seq (.reg false (.o 0 4 (.mov (.v (.bool true))) .done)) .ret))))
theorem dg_laws_eqByteSS : Tryz.f158.body.bind (digC Tryz.prog Tryz.f158.ntmps []) = some c_laws_eqByteSS := by kernel_rfl
theorem rs_laws_eqByteSS : resSlots Tryz.prog Tryz.f158 = some [.s 4] := by kernel_rfl
theorem ok_laws_eqByteSS (a b : List (List UInt8)) (ha : a.length ≤ 4194304) (ha2 : ∀ x ∈ a, x.length ≤ 4194304) :
    FnOK Tryz.prog 158 [.one (.d (encBB a)), .one (.d (encBB b))] (fun ra _ => ra = [.one (.d (.sc (.bool (decide (a = b)))))]) := by
  refine FnOK.ofK Tryz.func158 (by kernel_rfl) dg_laws_eqByteSS rs_laws_eqByteSS rfl rfl ?_
  delta c_laws_eqByteSS T.o X.i
  refine kSeq (kReg (kMovC rfl (kDone (kSeq (kSeq (kReg (kMovC rfl (kLenR rfl rfl (kMovC rfl (kLenR rfl rfl (kBin rfl rfl rfl (kDone (kCondN rfl (fun g0 => kSeq (kReg (kMovC rfl (kDone (kRet (endRetA (ra := [.one (.d _)]) rfl ?_)))))) (fun g0 => kSkip (kSeq (kSeq (kReg (kMovC rfl (kDone (kBlock ?_))))))))))))))))))))
  · rw [decide_eq_false (by rintro rfl; simp_all)]
  have hab : a.length = b.length := by simp at *; omega
  refine kLoop (α := { i : Nat // i ≤ a.length ∧ a.take i = b.take i })
    (fun y => ⟨tabSl [(0, .dv (encBB a)), (1, .dv (encBB b)), (5, .i y.1)], obTab 1 [], []⟩) (fun y => a.length - y.1) ⟨0, by simp⟩
    .normA ?_
  rintro ⟨i, hi, he⟩
  simp only
  refine kSeq (kSeq (kReg (kMovC rfl (kMovC rfl (kLenR rfl rfl (kBin rfl rfl rfl (kDone (kCondP rfl (fun g0 => kSkip (kSeq (kBlock (kSeq (kRegD (kMovC rfl (kMovC rfl (kIadR rfl rfl rfl (by omega) (kLoadD rfl rfl (kMovC rfl (kMovC rfl (kIadR rfl rfl rfl (by omega) (kLoadD rfl rfl (kRelF rfl rfl (kCallD (ok_laws_eqByteS _ _ (by first | assumption | omega | solve_by_elim [List.getElem_mem])) ⟨rfl, rfl, trivial⟩ rfl rfl rfl rfl rfl (kUn rfl rfl (kDone (kH (kCondN rfl (fun g1 => kSeq (kReg (kMovC rfl (kDone (kRet (endRetA (ra := [.one (.d _)]) rfl ?_)))))) (fun g1 => kSkip (kBk (kReg (kMovC rfl (kAdd rfl rfl (by omega) (kMovC rfl (kDone ?_)))))))))))))))))))))))))) (fun g0 => kExit (kExC (kExI (kExB (kSeq (kReg (kMovC rfl (kDone (kRet (endRetA (ra := [.one (.d _)]) rfl ?_))))))))))))))))))
  · rw [decide_eq_false]
    rintro rfl
    simp_all
  · refine kInv ⟨⟨i + 1, by omega, ?_⟩, by simp only; omega, .normA⟩
    rw [← List.take_append_getElem (by omega), ← List.take_append_getElem (by omega), he]
    simp_all
  · have hge : i = a.length := by omega
    rw [hge, List.take_length, hab, List.take_length] at he
    rw [he, decide_eq_true rfl]

def c_laws_eqName : C := (.seq (.reg false (.o 0 2 (.box 2 (.t 0)) (.o 1 3 (.box 3 (.t 1)) (.o 2 4 (.mov (.v (.bool false))) .done)))) (.seq (.seq (.reg false (.o 0 5 (.fad (.t 2) 0) (.o 1 6 (.load none (.t 5)) (.o 2 7 (.fad (.t 3) 0) (.o 3 8 (.load none (.t 7)) (.o 4 9 (.call 9 158 [(.t 6), (.t 8)]) (.o 5 10 (.un .not (.t 9)) .done))))))) (.cond (.t 10) (.seq (.reg false (.o 0 4 (.mov (.v (.bool false))) .done)) .ret) .skip)) (.seq (.reg false (.o 0 4 (.mov (.v (.bool true))) .done)) .ret)))
theorem dg_laws_eqName : Tryz.f60.body.bind (digC Tryz.prog Tryz.f60.ntmps []) = some c_laws_eqName := by kernel_rfl
theorem rs_laws_eqName : resSlots Tryz.prog Tryz.f60 = some [.s 4] := by kernel_rfl
theorem ok_laws_eqName (a b : List (List UInt8)) (ha : a.length ≤ 4194304) (ha2 : ∀ x ∈ a, x.length ≤ 4194304) :
    FnOK Tryz.prog 60 [.agg [.d (encBB a)], .agg [.d (encBB b)]] (fun ra _ => ra = [.one (.d (.sc (.bool (decide (a = b)))))]) := by
  refine FnOK.ofK Tryz.func60 (by kernel_rfl) dg_laws_eqName rs_laws_eqName rfl rfl ?_
  delta c_laws_eqName T.o X.i
  refine kSeq (kReg (kBox rfl rfl rfl rfl rfl (kBox rfl rfl rfl rfl rfl (kMovC rfl (kDone (kSeq (kSeq (kReg (kFadP rfl rfl (kLoadP rfl rfl rfl (kFadP rfl rfl (kLoadP rfl rfl rfl (kCallD (ok_laws_eqByteSS _ _ (by first | assumption | omega | solve_by_elim [List.getElem_mem]) (by first | assumption | omega | solve_by_elim [List.getElem_mem])) ⟨rfl, rfl, trivial⟩ rfl rfl rfl rfl rfl (kUn rfl rfl (kDone (kCondN rfl (fun g0 => kSeq (kReg (kMovC rfl (kDone (kRet (endRetA (ra := [.one (.d _)]) rfl ?_)))))) (fun g0 => kSkip (kSeq (kReg (kMovC rfl (kDone (kRet (endRetA (ra := [.one (.d _)]) rfl ?_)))))))))))))))))))))))
  all_goals simp_all

def c_laws_eqIntS : C := (.seq (.reg false (.o 0 4 (.mov (.v (.bool false))) .done)) (.seq (.seq (.reg false (.o 0 6 (.mov (.t 0)) (.o 1 7 (.len (.t 6)) (.o 2 8 (.mov (.t 1)) (.o 3 9 (.len (.t 8)) (.o 4 10 (.bin .neq (.t 7) (.t 9)) .done)))))) (.cond (.t 10) (.seq (.reg false (.o 0 4 (.mov (.v (.bool false))) .done)) .ret) .skip)) (.seq (.seq (.reg false (.o 0 5 (.mov (.i 0)) .done)) (.block 0 (.loop (.seq (.seq (.reg false (.o 0 11 (.mov (.t 5)) (.o 1 12 (.mov (.t 0)) (.o 2 13 (.len (.t 12)) (.o 3 14 (.bin .lss (.t 11) (.t 13)) .done))))) (.cond (.t 14) .skip (.exit 0))) (.seq (.block 1 (.seq (.reg true (.op 0 [] (some 17) none true (.mov (.t 0)) (.op 1 [] (some 18) none true (.mov (.t 5)) (.op 2 [] (some 19) none true (.iad 1 (.t 17) (.t 18)) (.op 3 [] (some 20) none true (.load none (.t 19)) (.op 4 [] (some 21) none true (.mov (.t 1)) (.op 5 [] (some 22) none true (.mov (.t 5)) (.op 6 [] (some 23) none true (.iad 1 (.t 21) (.t 22)) (.op 7 [] (some 24) none true (.load none (.t 23)) (.op 8 [] (some 25) none true (.bin .neq (.t 20) (.t 24)) .done)))))))))) (.cond (.t 25) (.seq (.reg false (.o 0 4 (.mov (.v (.bool false))) .done)) .ret) .skip))) (.reg false (.o 0 15 (.mov (.t 5)) (.o 1 16 (.bin .add (.t 15) (.i 1)) (.o 2 5 (.mov (.t 16)) .done))))))))) (.seq (.reg false (.o 0 4 (.mov (.v (.bool true))) .done)) .ret))))
theorem dg_laws_eqIntS : Tryz.f128.body.bind (digC Tryz.prog Tryz.f128.ntmps []) = some c_laws_eqIntS := by kernel_rfl
theorem rs_laws_eqIntS : resSlots Tryz.prog Tryz.f128 = some [.s 4] := by kernel_rfl
theorem ok_laws_eqIntS (a b : List Int) (ha : a.length ≤ 4194304) :
    FnOK Tryz.prog 128 [.one (.d (encI a)), .one (.d (encI b))] (fun ra _ => ra = [.one (.d (.sc (.bool (decide (a = b)))))]) := by
  refine FnOK.ofK Tryz.func128 (by kernel_rfl) dg_laws_eqIntS rs_laws_eqIntS rfl rfl ?_
  delta c_laws_eqIntS T.o X.i
  refine kSeq (kReg (kMovC rfl (kDone (kSeq (kSeq (kReg (kMovC rfl (kLenR rfl rfl (kMovC rfl (kLenR rfl rfl (kBin rfl rfl rfl (kDone (kCondIN rfl (fun g0 => kSeq (kReg (kMovC rfl (kDone (kRet (endRetA (ra := [.one (.d _)]) rfl ?_)))))) (fun g0 => kSkip (kSeq (kSeq (kReg (kMovC rfl (kDone (kBlock ?_))))))))))))))))))))
  · rw [decide_eq_false (by rintro rfl; simp_all)]
  have hab : a.length = b.length := by omega
  refine kLoop (α := { i : Nat // i ≤ a.length ∧ a.take i = b.take i })
    (fun y => ⟨tabSl [(0, .dv (encI a)), (1, .dv (encI b)), (5, .i y.1)], obTab 1 [], []⟩) (fun y => a.length - y.1) ⟨0, by simp⟩
    .normA ?_
  rintro ⟨i, hi, he⟩
  simp only
  refine kSeq (kSeq (kReg (kMovC rfl (kMovC rfl (kLenR rfl rfl (kBin rfl rfl rfl (kDone (kCondP rfl (fun g0 => kSkip (kSeq (kBlock (kSeq (kRegD (kMovC rfl (kMovC rfl (kIadR rfl rfl rfl (by omega) (kLoadD rfl rfl (kMovC rfl (kMovC rfl (kIadR rfl rfl rfl (by omega) (kLoadD rfl rfl (kBin rfl rfl rfl (kDone (kH (kCondIN rfl (fun g1 => kSeq (kReg (kMovC rfl (kDone (kRet (endRetA (ra := [.one (.d _)]) rfl ?_)))))) (fun g1 => kSkip (kBk (kReg (kMovC rfl (kAdd rfl rfl (by omega) (kMovC rfl (kDone ?_)))))))))))))))))))))))) (fun g0 => kExit (kExC (kExI (kExB (kSeq (kReg (kMovC rfl (kDone (kRet (endRetA (ra := [.one (.d _)]) rfl ?_))))))))))))))))))
  · rw [decide_eq_false]
    rintro rfl
    simp_all
  · refine kInv ⟨⟨i + 1, by omega, ?_⟩, by simp only; omega, .normA⟩
    rw [← List.take_append_getElem (by omega), ← List.take_append_getElem (by omega), he]
    simp_all
  · have hge : i = a.length := by omega
    rw [hge, List.take_length, hab, List.take_length] at he
    rw [he, decide_eq_true rfl]

def c_laws_eqRr : C := (.seq (.reg false (.o 0 2 (.box 2 (.t 0)) (.o 1 3 (.box 3 (.t 1)) (.o 2 4 (.mov (.v (.bool false))) .done)))) (.seq (.seq (.reg false (.o 0 5 (.fad (.t 2) 0) (.o 1 6 (.load (some 1) (.t 5)) (.o 2 7 (.fad (.t 3) 0) (.o 3 8 (.load (some 1) (.t 7)) (.o 4 9 (.call 9 60 [(.t 6), (.t 8)]) (.o 5 10 (.un .not (.t 9)) .done))))))) (.cond (.t 10) (.seq (.reg false (.o 0 4 (.mov (.v (.bool false))) .done)) .ret) .skip)) (.seq (.seq (.reg false (.o 0 11 (.fad (.t 2) 1) (.o 1 12 (.load none (.t 11)) (.o 2 13 (.fad (.t 3) 1) (.o 3 14 (.load none (.t 13)) (.o 4 15 (.bin .neq (.t 12) (.t 14)) .done)))))) (.cond (.t 15) (.seq (.reg false (.o 0 4 (.mov (.v (.bool false))) .done)) .ret) .skip)) (.seq (.seq (.reg false (.o 0 16 (.fad (.t 2) 2) (.o 1 17 (.load none (.t 16)) (.o 2 18 (.fad (.t 3) 2) (.o 3 19 (.load none (.t 18)) (.o 4 20 (.bin .neq (.t 17) (.t 19)) .done)))))) (.cond (.t 20) (.seq (.reg false (.o 0 4 (.mov (.v (.bool false))) .done)) .ret) .skip)) (.seq (.seq (.reg false (.o 0 21 (.fad (.t 2) 3) (.o 1 22 (.load none (.t 21)) (.o 2 23 (.fad (.t 3) 3) (.o 3 24 (.load none (.t 23)) (.o 4 25 (.bin .neq (.t 22) (.t 24)) .done)))))) (.cond (.t 25) (.seq (.reg false (.o 0 4 (.mov (.v (.bool false))) .done)) .ret) .skip)) (.seq (.seq (.reg false (.o 0 26 (.fad (.t 2) 4) (.o 1 27 (.load (some 1) (.t 26)) (.o 2 28 (.fad (.t 3) 4) (.o 3 29 (.load (some 1) (.t 28)) (.o 4 30 (.call 30 60 [(.t 27), (.t 29)]) (.o 5 31 (.un .not (.t 30)) .done))))))) (.cond (.t 31) (.seq (.reg false (.o 0 4 (.mov (.v (.bool false))) .done)) .ret) .skip)) (.seq (.seq (.reg false (.o 0 32 (.fad (.t 2) 5) (.o 1 33 (.load none (.t 32)) (.o 2 34 (.fad (.t 3) 5) (.o 3 35 (.load none (.t 34)) (.o 4 36 (.call 36 243 [(.t 33), (.t 35)]) (.o 5 37 (.un .not (.t 36)) .done))))))) (.cond (.t 37) (.seq (.reg false (.o 0 4 (.mov (.v (.bool false))) .done)) .ret) .skip)) (.seq (.seq (.reg false (.o 0 38 (.fad (.t 2) 6) (.o 1 39 (.load none (.t 38)) (.o 2 40 (.fad (.t 3) 6) (.o 3 41 (.load none (.t 40)) (.o 4 42 (.call 42 128 [(.t 39), (.t 41)]) (.o 5 43 (.un .not (.t 42)) .done))))))) (.cond (.t 43) (.seq (.reg false (.o 0 4 (.mov (.v (.bool false))) .done)) .ret) .skip)) (.seq (.reg false (.o 0 4 (.mov (.v (.bool true))) .done)) .ret)))))))))
theorem dg_laws_eqRr : Tryz.f157.body.bind (digC Tryz.prog Tryz.f157.ntmps []) = some c_laws_eqRr := by kernel_rfl
theorem rs_laws_eqRr : resSlots Tryz.prog Tryz.f157 = some [.s 4] := by kernel_rfl
theorem ok_laws_eqRr (a b : Rr) (hs : SmallR a) :
    FnOK Tryz.prog 157 [.agg (a.cells.map .d), .agg (b.cells.map .d)] (fun ra _ => ra = [.one (.d (.sc (.bool (decide (a = b)))))]) := by
  refine FnOK.ofK Tryz.func157 (by kernel_rfl) dg_laws_eqRr rs_laws_eqRr rfl rfl ?_
  delta c_laws_eqRr T.o X.i
  have n1 := hs.n.len
  have n2 := hs.n.mem
  have t1 := hs.t.len
  have t2 := hs.t.mem
  have x1 := hs.x
  have m1 := hs.m
  refine kSeq (kReg (kBox rfl rfl rfl rfl rfl (kBox rfl rfl rfl rfl rfl (kMovC rfl (kDone (kSeq (kSeq (kReg (kFadP rfl rfl (kLoadP rfl rfl rfl (kFadP rfl rfl (kLoadP rfl rfl rfl (kCallD (ok_laws_eqName _ _ pr pr) ⟨⟨⟨rfl, trivial⟩, leb⟩, ⟨⟨rfl, trivial⟩, leb⟩, trivial⟩ rfl rfl rfl rfl rfl (kUn rfl rfl (kDone (kCondN rfl (fun g0 => kSeq (kReg (kMovC rfl (kDone (kRet (endRetA (ra := [.one (.d _)]) rfl ?_)))))) (fun g0 => kSkip (kSeq (kSeq (kReg (kFadP rfl rfl (kLoadP rfl rfl rfl (kFadP rfl rfl (kLoadP rfl rfl rfl (kBin rfl rfl rfl (kDone (kCondIN rfl (fun g1 => kSeq (kReg (kMovC rfl (kDone (kRet (endRetA (ra := [.one (.d _)]) rfl ?_)))))) (fun g1 => kSkip (kSeq (kSeq (kReg (kFadP rfl rfl (kLoadP rfl rfl rfl (kFadP rfl rfl (kLoadP rfl rfl rfl (kBin rfl rfl rfl (kDone (kCondIN rfl (fun g2 => kSeq (kReg (kMovC rfl (kDone (kRet (endRetA (ra := [.one (.d _)]) rfl ?_)))))) (fun g2 => kSkip (kSeq (kSeq (kReg (kFadP rfl rfl (kLoadP rfl rfl rfl (kFadP rfl rfl (kLoadP rfl rfl rfl (kBin rfl rfl rfl (kDone (kCondIN rfl (fun g3 => kSeq (kReg (kMovC rfl (kDone (kRet (endRetA (ra := [.one (.d _)]) rfl ?_)))))) (fun g3 => kSkip (kSeq (kSeq (kReg (kFadP rfl rfl (kLoadP rfl rfl rfl (kFadP rfl rfl (kLoadP rfl rfl rfl (kCallD (ok_laws_eqName _ _ pr pr) ⟨⟨⟨rfl, trivial⟩, leb⟩, ⟨⟨rfl, trivial⟩, leb⟩, trivial⟩ rfl rfl rfl rfl rfl (kUn rfl rfl (kDone (kCondN rfl (fun g4 => kSeq (kReg (kMovC rfl (kDone (kRet (endRetA (ra := [.one (.d _)]) rfl ?_)))))) (fun g4 => kSkip (kSeq (kSeq (kReg (kFadP rfl rfl (kLoadP rfl rfl rfl (kFadP rfl rfl (kLoadP rfl rfl rfl (kCallD (ok_laws_eqByteS _ _ pr) ⟨rfl, rfl, trivial⟩ rfl rfl rfl rfl rfl (kUn rfl rfl (kDone (kCondN rfl (fun g5 => kSeq (kReg (kMovC rfl (kDone (kRet (endRetA (ra := [.one (.d _)]) rfl ?_)))))) (fun g5 => kSkip (kSeq (kSeq (kReg (kFadP rfl rfl (kLoadP rfl rfl rfl (kFadP rfl rfl (kLoadP rfl rfl rfl (kCallD (ok_laws_eqIntS _ _ pr) ⟨rfl, rfl, trivial⟩ rfl rfl rfl rfl rfl (kUn rfl rfl (kDone (kCondN rfl (fun g6 => kSeq (kReg (kMovC rfl (kDone (kRet (endRetA (ra := [.one (.d _)]) rfl ?_)))))) (fun g6 => kSkip (kSeq (kReg (kMovC rfl (kDone (kRet (endRetA (ra := [.one (.d _)]) rfl ?_))))))))))))))))))))))))))))))))))))))))))))))))))))))))))))))))))))))))))))))))))))))))))))
  all_goals (refine congrArg (fun z : Bool => [RA.one (RV.d (DV.sc (Value.bool z)))]) ?_; clear n1 n2 t1 t2 x1 m1 hs; cases a; cases b; simp_all)

def c_laws_eqRrS : C := (.seq (.reg false (.o 0 4 (.mov (.v (.bool false))) .done)) (.seq (.seq (.reg false (.o 0 6 (.mov (.t 0)) (.o 1 7 (.len (.t 6)) (.o 2 8 (.mov (.t 1)) (.o 3 9 (.len (.t 8)) (.o 4 10 (.bin .neq (.t 7) (.t 9)) .done)))))) (.cond (.t 10) (.seq (.reg false (.o 0 4 (.mov (.v (.bool false))) .done)) .ret) .skip)) (.seq (.seq (.reg false (.o 0 5 (.mov (.i 0)) .done)) (.block 0 (.loop (.seq (.seq (.reg false (.o 0 11 (.mov (.t 5)) (.o 1 12 (.mov (.t 0)) (.o 2 13 (.len (.t 12)) (.o 3 14 (.bin .lss (.t 11) (.t 13)) .done))))) (.cond (.t 14) .skip (.exit 0))) (.seq (.block 1 (.seq (.reg true (.op 0 [] (some 17) none true (.mov (.t 0)) (.op 1 [] (some 18) none true (.mov (.t 5)) (.op 2 [] (some 19) none true (.iad 7 (.t 17) (.t 18)) (.op 3 [] (some 20) none true (.load (some 7) (.t 19)) (.op 4 [] (some 21) none true (.mov (.t 1)) (.op 5 [] (some 22) none true (.mov (.t 5)) (.op 6 [] (some 23) none true (.iad 7 (.t 21) (.t 22)) (.op 7 [] (some 24) none true (.load (some 7) (.t 23)) (.op 8 [3, 7] (some 25) none false (.call 25 157 [(.t 20), (.t 24)]) (.op 9 [] (some 26) none true (.un .not (.t 25)) .done))))))))))) (.cond (.t 26) (.seq (.reg false (.o 0 4 (.mov (.v (.bool false))) .done)) .ret) .skip))) (.reg false (.o 0 15 (.mov (.t 5)) (.o 1 16 (.bin .add (.t 15) (.i 1)) (.o 2 5 (.mov (.t 16)) .done))))))))) (.seq (.reg false (.o 0 4 (.mov (.v (.bool true))) .done)) .ret))))
theorem dg_laws_eqRrS : Tryz.f59.body.bind (digC Tryz.prog Tryz.f59.ntmps []) = some c_laws_eqRrS := by kernel_rfl
theorem rs_laws_eqRrS : resSlots Tryz.prog Tryz.f59 = some [.s 4] := by kernel_rfl
theorem ok_laws_eqRrS (a b : List Rr) (hs : SmallRs a) :
    FnOK Tryz.prog 59 [.one (.d (encR a)), .one (.d (encR b))] (fun ra _ => ra = [.one (.d (.sc (.bool (decide (a = b)))))]) := by
  refine FnOK.ofK Tryz.func59 (by kernel_rfl) dg_laws_eqRrS rs_laws_eqRrS rfl rfl ?_
  delta c_laws_eqRrS T.o X.i
  have ha := hs.len
  refine kSeq (kReg (kMovC rfl (kDone (kSeq (kSeq (kReg (kMovC rfl (kLenR rfl rfl (kMovC rfl (kLenR rfl rfl (kBin rfl rfl rfl (kDone (kCondIN rfl (fun g0 => kSeq (kReg (kMovC rfl (kDone (kRet (endRetA (ra := [.one (.d _)]) rfl ?_)))))) (fun g0 => kSkip (kSeq (kSeq (kReg (kMovC rfl (kDone (kBlock ?_))))))))))))))))))))
  · rw [decide_eq_false (by rintro rfl; simp_all)]
  have hab : a.length = b.length := by omega
  refine kLoop (α := { i : Nat // i ≤ a.length ∧ a.take i = b.take i })
    (fun y => ⟨tabSl [(0, .dv (encR a)), (1, .dv (encR b)), (5, .i y.1)], obTab 1 [], []⟩) (fun y => a.length - y.1) ⟨0, by simp⟩
    .normA ?_
  rintro ⟨i, hi, he⟩
  simp only
  rcases Nat.lt_or_ge i a.length with hlt | hge
  · have hbi := hs.mem _ (List.getElem_mem hlt)
    refine kSeq (kSeq (kReg (kMovC rfl (kMovC rfl (kLenR rfl rfl (kBin rfl rfl rfl (kDone (kCondP rfl (fun g0 => kSkip (kSeq (kBlock (kSeq (kRegD (kMovC rfl (kMovC rfl (kIadR rfl rfl rfl (by omega) (kLoadD rfl rfl (kMovC rfl (kMovC rfl (kIadR rfl rfl rfl (by omega) (kLoadD rfl rfl (kRelF rfl rfl (kCallD (ok_laws_eqRr _ _ pr) ⟨⟨⟨rfl, rfl, rfl, rfl, rfl, rfl, rfl, trivial⟩, leb⟩, ⟨⟨rfl, rfl, rfl, rfl, rfl, rfl, rfl, trivial⟩, leb⟩, trivial⟩ rfl rfl rfl rfl rfl (kUn rfl rfl (kDone (kH (kCondN rfl (fun g1 => kSeq (kReg (kMovC rfl (kDone (kRet (endRetA (ra := [.one (.d _)]) rfl ?_)))))) (fun g1 => kSkip (kBk (kReg (kMovC rfl (kAdd rfl rfl (by omega) (kMovC rfl (kDone ?_)))))))))))))))))))))))))) (fun g0 => (by omega))))))))))
    · rw [decide_eq_false]
      rintro rfl
      simp_all
    · refine kInv ⟨⟨i + 1, by omega, ?_⟩, by simp only; omega, .normA⟩
      rw [← List.take_append_getElem (by omega), ← List.take_append_getElem (by omega), he]
      simp_all
  · refine kSeq (kSeq (kReg (kMovC rfl (kMovC rfl (kLenR rfl rfl (kBin rfl rfl rfl (kDone (kCondP rfl (fun g0 => (by omega)) (fun g0 => kExit (kExC (kExI (kExB (kSeq (kReg (kMovC rfl (kDone (kRet (endRetA (ra := [.one (.d _)]) rfl ?_))))))))))))))))))
    have hge : i = a.length := by omega
    rw [hge, List.take_length, hab, List.take_length] at he
    rw [he, decide_eq_true rfl]

def c_laws_eqZone : C := (.seq (.reg false (.o 0 2 (.box 2 (.t 0)) (.o 1 3 (.box 3 (.t 1)) (.o 2 4 (.mov (.v (.bool false))) .done)))) (.seq (.seq (.reg false (.o 0 5 (.fad (.t 2) 0) (.o 1 6 (.load (some 1) (.t 5)) (.o 2 7 (.fad (.t 3) 0) (.o 3 8 (.load (some 1) (.t 7)) (.o 4 9 (.call 9 60 [(.t 6), (.t 8)]) (.o 5 10 (.un .not (.t 9)) .done))))))) (.cond (.t 10) (.seq (.reg false (.o 0 4 (.mov (.v (.bool false))) .done)) .ret) .skip)) (.seq (.seq (.reg false (.o 0 11 (.fad (.t 2) 1) (.o 1 12 (.load none (.t 11)) (.o 2 13 (.fad (.t 3) 1) (.o 3 14 (.load none (.t 13)) (.o 4 15 (.call 15 59 [(.t 12), (.t 14)]) (.o 5 16 (.un .not (.t 15)) .done))))))) (.cond (.t 16) (.seq (.reg false (.o 0 4 (.mov (.v (.bool false))) .done)) .ret) .skip)) (.seq (.reg false (.o 0 4 (.mov (.v (.bool true))) .done)) .ret))))
theorem dg_laws_eqZone : Tryz.f139.body.bind (digC Tryz.prog Tryz.f139.ntmps []) = some c_laws_eqZone := by kernel_rfl
theorem rs_laws_eqZone : resSlots Tryz.prog Tryz.f139 = some [.s 4] := by kernel_rfl
theorem ok_laws_eqZone (a b : Zone) (hs : SmallZ a) :
    FnOK Tryz.prog 139 [.agg (a.cells.map .d), .agg (b.cells.map .d)] (fun ra _ => ra = [.one (.d (.sc (.bool (decide (a = b)))))]) := by
  refine FnOK.ofK Tryz.func139 (by kernel_rfl) dg_laws_eqZone rs_laws_eqZone rfl rfl ?_
  delta c_laws_eqZone T.o X.i
  have o1 := hs.o.len
  have o2 := hs.o.mem
  have h1 := hs.r
  refine kSeq (kReg (kBox rfl rfl rfl rfl rfl (kBox rfl rfl rfl rfl rfl (kMovC rfl (kDone (kSeq (kSeq (kReg (kFadP rfl rfl (kLoadP rfl rfl rfl (kFadP rfl rfl (kLoadP rfl rfl rfl (kCallD (ok_laws_eqName _ _ pr pr) ⟨⟨⟨rfl, trivial⟩, leb⟩, ⟨⟨rfl, trivial⟩, leb⟩, trivial⟩ rfl rfl rfl rfl rfl (kUn rfl rfl (kDone (kCondN rfl (fun g0 => kSeq (kReg (kMovC rfl (kDone (kRet (endRetA (ra := [.one (.d _)]) rfl ?_)))))) (fun g0 => kSkip (kSeq (kSeq (kReg (kFadP rfl rfl (kLoadP rfl rfl rfl (kFadP rfl rfl (kLoadP rfl rfl rfl (kCallD (ok_laws_eqRrS _ _ pr) ⟨rfl, rfl, trivial⟩ rfl rfl rfl rfl rfl (kUn rfl rfl (kDone (kCondN rfl (fun g1 => kSeq (kReg (kMovC rfl (kDone (kRet (endRetA (ra := [.one (.d _)]) rfl ?_)))))) (fun g1 => kSkip (kSeq (kReg (kMovC rfl (kDone (kRet (endRetA (ra := [.one (.d _)]) rfl ?_)))))))))))))))))))))))))))))))))))
  all_goals (refine congrArg (fun z : Bool => [RA.one (RV.d (DV.sc (Value.bool z)))]) ?_; clear o1 o2 h1 hs; cases a; cases b; simp_all)

def c_laws_eqLeaseS : C := (.seq (.reg false (.o 0 4 (.mov (.v (.bool false))) .done)) (.seq (.seq (.reg false (.o 0 6 (.mov (.t 0)) (.o 1 7 (.len (.t 6)) (.o 2 8 (.mov (.t 1)) (.o 3 9 (.len (.t 8)) (.o 4 10 (.bin .neq (.t 7) (.t 9)) .done)))))) (.cond (.t 10) (.seq (.reg false (.o 0 4 (.mov (.v (.bool false))) .done)) .ret) .skip)) (.seq (.seq (.reg false (.o 0 5 (.mov (.i 0)) .done)) (.block 0 (.loop (.seq (.seq (.reg false (.o 0 11 (.mov (.t 5)) (.o 1 12 (.mov (.t 0)) (.o 2 13 (.len (.t 12)) (.o 3 14 (.bin .lss (.t 11) (.t 13)) .done))))) (.cond (.t 14) .skip (.exit 0))) (.seq (.block 1 (.seq (.reg true (.op 0 [] (some 17) none true (.mov (.t 0)) (.op 1 [] (some 18) none true (.mov (.t 5)) (.op 2 [] (some 19) none true (.iad 5 (.t 17) (.t 18)) (.op 3 [] (some 20) none true (.load (some 5) (.t 19)) (.op 4 [] (some 21) none true (.mov (.t 1)) (.op 5 [] (some 22) none true (.mov (.t 5)) (.op 6 [] (some 23) none true (.iad 5 (.t 21) (.t 22)) (.op 7 [] (some 24) none true (.load (some 5) (.t 23)) (.op 8 [3, 7] (some 25) none false (.call 25 237 [(.t 20), (.t 24)]) (.op 9 [] (some 26) none true (.un .not (.t 25)) .done))))))))))) (.cond (.t 26) (.seq (.reg false (.o 0 4 (.mov (.v (.bool false))) .done)) .ret) .skip))) (.reg false (.o 0 15 (.mov (.t 5)) (.o 1 16 (.bin .add (.t 15) (.i 1)) (.o 2 5 (.mov (.t 16)) .done))))))))) (.seq (.reg false (.o 0 4 (.mov (.v (.bool true))) .done)) .ret))))
theorem dg_laws_eqLeaseS : Tryz.f140.body.bind (digC Tryz.prog Tryz.f140.ntmps []) = some c_laws_eqLeaseS := by kernel_rfl
theorem rs_laws_eqLeaseS : resSlots Tryz.prog Tryz.f140 = some [.s 4] := by kernel_rfl
theorem ok_laws_eqLeaseS :
    FnOK Tryz.prog 140 [.one (.d (encE [])), .one (.d (encE []))] (fun ra _ => ra = [.one (.d (.sc (.bool true)))]) := by
  refine FnOK.ofK Tryz.func140 (by kernel_rfl) dg_laws_eqLeaseS rs_laws_eqLeaseS rfl rfl ?_
  delta c_laws_eqLeaseS T.o X.i
  refine kSeq (kReg (kMovC rfl (kDone (kSeq (kSeq (kReg (kMovC rfl (kLen0 rfl (kMovC rfl (kLen0 rfl (kBin rfl rfl rfl (kDone (kCondF rfl (kSkip (kSeq (kSeq (kReg (kMovC rfl (kDone (kBlock ?_))))))))))))))))))))
  refine kLoop (α := Unit) (fun _ => ⟨tabSl [(0, .dv (encE [])), (1, .dv (encE [])), (5, .i 0)], obTab 1 [], []⟩) (fun _ => 0) () .normA ?_
  rintro ⟨⟩
  refine kSeq (kSeq (kReg (kMovC rfl (kMovC rfl (kLen0 rfl (kBin rfl rfl rfl (kDone (kCondF rfl (kExit (kExC (kExI (kExB (kSeq (kReg (kMovC rfl (kDone (kRet (endRetA (ra := [.one (.d _)]) rfl rfl))))))))))))))))))

def c_laws_eqHouse : C := (.seq (.reg false (.o 0 2 (.box 2 (.t 0)) (.o 1 3 (.box 3 (.t 1)) (.o 2 4 (.mov (.v (.bool false))) .done)))) (.seq (.seq (.reg false (.o 0 5 (.fad (.t 2) 0) (.o 1 6 (.load none (.t 5)) (.o 2 7 (.fad (.t 3) 0) (.o 3 8 (.load none (.t 7)) (.o 4 9 (.bin .neq (.t 6) (.t 8)) .done)))))) (.cond (.t 9) (.seq (.reg false (.o 0 4 (.mov (.v (.bool false))) .done)) .ret) .skip)) (.seq (.seq (.reg false (.o 0 10 (.fad (.t 2) 1) (.o 1 11 (.load (some 2) (.t 10)) (.o 2 12 (.fad (.t 3) 1) (.o 3 13 (.load (some 2) (.t 12)) (.o 4 14 (.call 14 139 [(.t 11), (.t 13)]) (.o 5 15 (.un .not (.t 14)) .done))))))) (.cond (.t 15) (.seq (.reg false (.o 0 4 (.mov (.v (.bool false))) .done)) .ret) .skip)) (.seq (.seq (.reg false (.o 0 16 (.fad (.t 2) 3) (.o 1 17 (.load (some 2) (.t 16)) (.o 2 18 (.fad (.t 3) 3) (.o 3 19 (.load (some 2) (.t 18)) (.o 4 20 (.call 20 139 [(.t 17), (.t 19)]) (.o 5 21 (.un .not (.t 20)) .done))))))) (.cond (.t 21) (.seq (.reg false (.o 0 4 (.mov (.v (.bool false))) .done)) .ret) .skip)) (.seq (.seq (.reg false (.o 0 22 (.fad (.t 2) 5) (.o 1 23 (.load none (.t 22)) (.o 2 24 (.fad (.t 3) 5) (.o 3 25 (.load none (.t 24)) (.o 4 26 (.call 26 140 [(.t 23), (.t 25)]) (.o 5 27 (.un .not (.t 26)) .done))))))) (.cond (.t 27) (.seq (.reg false (.o 0 4 (.mov (.v (.bool false))) .done)) .ret) .skip)) (.seq (.reg false (.o 0 4 (.mov (.v (.bool true))) .done)) .ret))))))
theorem dg_laws_eqHouse : Tryz.f49.body.bind (digC Tryz.prog Tryz.f49.ntmps []) = some c_laws_eqHouse := by kernel_rfl
theorem rs_laws_eqHouse : resSlots Tryz.prog Tryz.f49 = some [.s 4] := by kernel_rfl
theorem ok_laws_eqHouse (z r y t : Zone) (hz : SmallZ z) (hr : SmallZ r) :
    FnOK Tryz.prog 49 [.agg ((houseC z r).map .d), .agg ((houseC y t).map .d)] (fun ra _ => ra = [.one (.d (.sc (.bool (decide (z = y ∧ r = t)))))]) := by
  refine FnOK.ofK Tryz.func49 (by kernel_rfl) dg_laws_eqHouse rs_laws_eqHouse rfl rfl ?_
  delta c_laws_eqHouse T.o X.i
  have o1 := hz.o.len
  have o2 := hz.o.mem
  have h1 := hz.r
  have o3 := hr.o.len
  have o4 := hr.o.mem
  have h2 := hr.r
  refine kSeq (kReg (kBox rfl rfl rfl rfl rfl (kBox rfl rfl rfl rfl rfl (kMovC rfl (kDone (kSeq (kSeq (kReg (kFadP rfl rfl (kLoadP rfl rfl rfl (kFadP rfl rfl (kLoadP rfl rfl rfl (kBin rfl rfl rfl (kDone (kCondF rfl (kSkip (kSeq (kSeq (kReg (kMem [(12288, ⟨1, 0, .box [.d _, .d _, .d _, .d _, .d _, .d _]⟩), (16384, ⟨1, 0, .box [.d _, .d _, .d _, .d _, .d _, .d _]⟩)] [(2, .c (.ptr 12288 1 0)), (10, .c (.un)), (3, .c (.ptr 16384 1 0)), (12, .c (.un)), (11, .c (.un)), (13, .c (.un)), (14, .c (.un))] [] ⟨rfl, rfl, trivial⟩ ⟨rfl, rfl, rfl, rfl, rfl, rfl, rfl, trivial⟩ rfl (kFadP rfl rfl (kLoadP rfl rfl rfl (kFadP rfl rfl (kLoadP rfl rfl rfl (kCallD (ok_laws_eqZone _ _ (by first | assumption | omega | solve_by_elim [List.getElem_mem] | (simp only [szOut] at *; omega) | exact rfl | exact leb | exact rrOk_small (by assumption) | exact zoneOk_small (by assumption) | exact SmallBB.ok (by assumption) | exact (SmallBB.ok (by assumption)).len | exact (SmallBB.ok (by assumption)).mem | exact SmallBB.bent (by assumption))) ⟨⟨⟨rfl, rfl, trivial⟩, leb⟩, ⟨⟨rfl, rfl, trivial⟩, leb⟩, trivial⟩ rfl rfl rfl rfl rfl (kUn rfl rfl (kDone (kCondN rfl (fun g0 => kSeq (kReg (kMovC rfl (kDone (kRet (endRetA (ra := [.one (.d _)]) rfl ?_)))))) (fun g0 => kSkip (kSeq (kSeq (kReg (kFadP rfl rfl (kLoadP rfl rfl rfl (kFadP rfl rfl (kMem [(16384, ⟨1, 0, .box [.d _, .d _, .d _, .d _, .d _, .d _]⟩)] [(18, .c (.ptr 16384 1 3)), (17, .g [.d _, .d _]), (19, .c (.un)), (20, .c (.un))] [] ⟨rfl, trivial⟩ ⟨rfl, rfl, rfl, rfl, trivial⟩ rfl (kLoadP rfl rfl rfl (kCallD (ok_laws_eqZone _ _ (by first | assumption | omega | solve_by_elim [List.getElem_mem] | (simp only [szOut] at *; omega) | exact rfl | exact leb | exact rrOk_small (by assumption) | exact zoneOk_small (by assumption) | exact SmallBB.ok (by assumption) | exact (SmallBB.ok (by assumption)).len | exact (SmallBB.ok (by assumption)).mem | exact SmallBB.bent (by assumption))) ⟨⟨⟨rfl, rfl, trivial⟩, leb⟩, ⟨⟨rfl, rfl, trivial⟩, leb⟩, trivial⟩ rfl rfl rfl rfl rfl (kUn rfl rfl (kDone (kCondN rfl (fun g1 => kSeq (kReg (kMovC rfl (kDone (kRet (endRetA (ra := [.one (.d _)]) rfl ?_)))))) (fun g1 => kSkip (kSeq (kSeq (kReg (kFadP rfl rfl (kLoadP rfl rfl rfl (kFadP rfl rfl (kLoadP rfl rfl rfl (kCallD (ok_laws_eqLeaseS) ⟨rfl, rfl, trivial⟩ rfl rfl rfl rfl rfl (kUn rfl rfl (kDone (kCondF rfl (kSkip (kSeq (kReg (kMovC rfl (kDone (kRet (endRetA (ra := [.one (.d _)]) rfl ?_))))))))))))))))))))))))))))))))))))))))))))))))))))))))))))
  all_goals (refine congrArg (fun z : Bool => [RA.one (RV.d (DV.sc (Value.bool z)))]) ?_; simp only [decide_eq_true_eq, decide_eq_false_iff_not] at *; simp_all)

def c_laws_markByteS : C := (.seq (.reg false (.o 0 4 (.mov (.i 0)) .done)) (.seq (.seq (.reg false (.o 0 5 (.mov (.i 0)) .done)) (.block 0 (.loop (.seq (.seq (.reg false (.o 0 6 (.mov (.t 5)) (.o 1 7 (.mov (.t 0)) (.o 2 8 (.len (.t 7)) (.o 3 9 (.bin .lss (.t 6) (.t 8)) .done))))) (.cond (.t 9) .skip (.exit 0))) (.seq (.block 1 (.seq (.reg false (.o 0 12 (.mov (.t 0)) (.o 1 13 (.mov (.t 5)) (.o 2 14 (.mov (.t 1)) (.o 3 15 (.conv .u8 (.t 14)) (.o 4 16 (.iad 1 (.t 12) (.t 13)) (.op 5 [] none none false (.store none (.t 16) (.t 15)) .done))))))) (.reg false (.o 0 17 (.mov (.t 1)) (.o 1 18 (.bin .add (.t 17) (.i 1)) (.o 2 1 (.mov (.t 18)) .done)))))) (.reg false (.o 0 10 (.mov (.t 5)) (.o 1 11 (.bin .add (.t 10) (.i 1)) (.o 2 5 (.mov (.t 11)) .done))))))))) (.seq (.reg false (.o 0 19 (.mov (.t 1)) (.o 1 4 (.mov (.t 19)) .done))) .ret)))
theorem dg_laws_markByteS : Tryz.f159.body.bind (digC Tryz.prog Tryz.f159.ntmps []) = some c_laws_markByteS := by kernel_rfl
theorem rs_laws_markByteS : resSlots Tryz.prog Tryz.f159 = some [.s 4] := by kernel_rfl
theorem ok_laws_markByteS (a : List UInt8) (k : Int) (h0 : 0 ≤ k) (hk : k + a.length ≤ 9223372036854775807) :
    FnOK Tryz.prog 159 [.one (.arr false true (encB a)), .one (.d (.sc (.int .i64 k)))] (fun ra os => ra = [.one (.d (.sc (.int .i64 (k + a.length))))] ∧ os.a 0 = encB (marks a.length k)) := by
  refine FnOK.ofK Tryz.func159 (by kernel_rfl) dg_laws_markByteS rs_laws_markByteS rfl rfl ?_
  delta c_laws_markByteS T.o X.i
  generalize hgas : [GA.one (.arr false true (encB a)), GA.one (.d (.sc (.int .i64 k)))] = gas
  have hob : (St.init gas).ob 0 = ⟨0, 0, .arr true (encB a)⟩ := by rw [← hgas]; rfl
  have s0 : (St.init gas).sl 0 = .c (.arr 0 0) := by rw [← hgas]; rfl
  have s1 : (St.init gas).sl 1 = .i k := by rw [← hgas]; rfl
  refine kSub (t := ⟨tabSl [(0, .c (.arr 0 0)), (1, .i k)], (St.init gas).ob, []⟩) (.tab rfl ⟨s0 ▸ .refl _, s1 ▸ .refl _, trivial⟩) ?_
  refine kSeq (kReg (kMovC rfl (kDone ?_)))
  refine kSeq (kSeq (kReg (kMovC rfl (kDone (kBlock ?_)))))
  refine kLoop (α := { i : Nat // i ≤ a.length })
    (fun y => ⟨tabSl [(0, .c (.arr 0 0)), (1, .i (k + (y.1 : Int))), (5, .i y.1)], upd (St.init gas).ob 0 ⟨0, y.1, .arr true (encB (marks y.1 k ++ a.drop y.1))⟩, []⟩) (fun y => a.length - y.1) ⟨0, by simp⟩
    (.tab (upd_self (by rw [hob]; rfl)) ⟨.refl _, by simpa using .refl _, .refl _, trivial⟩) ?_
  rintro ⟨i, hi⟩
  simp only
  have hlen : (marks i k ++ a.drop i).length = a.length := by simp [marks_len]; omega
  refine kSeq (kSeq (kReg ?_))
  refine kMovC rfl (kMovC rfl (kLen rfl rfl rfl (kBin rfl rfl rfl (kDone ?_))))
  rw [len_encB, hlen]
  refine kCond rfl (fun h1 => ?_) (fun h1 => ?_)
  · have hlt : i < a.length := by simp at h1; omega
    refine kSkip (kSeq (kBlock (kSeq (kReg ?_))))
    refine kMovC rfl (kMovC rfl (kMovC rfl (kConv rfl (kIadA rfl rfl rfl rfl ?_ ?_))))
    · rw [len_encB, hlen]; omega
    refine kStoreE1 rfl rfl rfl rfl (by simp [encB, DV.esz]) (kDone ?_)
    rw [show (Int.toNat (i : Int)) = i from rfl, setRow_encB _ _ _ (by omega)]
    refine kReg (kMovC rfl (kAdd rfl rfl ?_ (kMovC rfl (kDone (kBk ?_)))))
    · omega
    refine kReg (kMovC rfl (kAdd rfl rfl ?_ (kMovC rfl (kDone (kInv ?_)))))
    · omega
    refine ⟨⟨i + 1, hlt⟩, by simp only; omega, .tab ?_ ⟨.refl _, ?_, .refl _, trivial⟩⟩
    · show _ = upd (upd (St.init gas).ob 0 _) 0 _
      rw [upd_upd, take_set_succ _ _ _ _ hlt (marks_len i k), marks_succ]
      rfl
    · show WkV (.i (k + i + 1)) (.i (k + ((i + 1 : Nat) : Int)))
      rw [show k + ((i + 1 : Nat) : Int) = k + i + 1 by omega]
      exact .refl _
  · refine kExit (kExC (kExI (kExB ?_)))
    have hge : i = a.length := by simp at h1; omega
    subst hge
    refine kSeq (kReg (kMovC rfl (kMovC rfl (kDone (kRet ?_)))))
    rw [← hgas]
    refine endRet (ra := [.one (.d _)]) rfl ⟨⟨⟨rfl, .inl rfl⟩, trivial⟩, .nil, ⟨rfl, fun _ => rfl, rfl⟩, trivial, trivial⟩ ?_
    refine ⟨rfl, ?_⟩
    show encB (marks a.length k ++ a.drop a.length) = _
    simp

def c_laws_markByteSS : C := (.seq (.reg false (.o 0 4 (.mov (.i 0)) .done)) (.seq (.seq (.reg false (.o 0 5 (.mov (.i 0)) .done)) (.block 0 (.loop (.seq (.seq (.reg false (.o 0 6 (.mov (.t 5)) (.o 1 7 (.mov (.t 0)) (.o 2 8 (.len (.t 7)) (.o 3 9 (.bin .lss (.t 6) (.t 8)) .done))))) (.cond (.t 9) .skip (.exit 0))) (.seq (.block 1 (.reg false (.o 0 12 (.mov (.t 0)) (.o 1 13 (.mov (.t 5)) (.o 2 14 (.iad 1 (.t 12) (.t 13)) (.o 3 15 (.load none (.t 14)) (.o 4 16 (.mov (.t 1)) (.o 5 17 (.call 17 159 [(.t 15), (.t 16)]) (.o 6 1 (.mov (.t 17)) .done))))))))) (.reg false (.o 0 10 (.mov (.t 5)) (.o 1 11 (.bin .add (.t 10) (.i 1)) (.o 2 5 (.mov (.t 11)) .done))))))))) (.seq (.reg false (.o 0 18 (.mov (.t 1)) (.o 1 4 (.mov (.t 18)) .done))) .ret)))
theorem dg_laws_markByteSS : Tryz.f113.body.bind (digC Tryz.prog Tryz.f113.ntmps []) = some c_laws_markByteSS := by kernel_rfl
theorem rs_laws_markByteSS : resSlots Tryz.prog Tryz.f113 = some [.s 4] := by kernel_rfl
theorem ok_laws_markByteSS (a : List (List UInt8)) (k : Int) (h0 : 0 ≤ k) (hk : k + a.flatten.length ≤ 9223372036854775807) (hl : a.length ≤ 4194304) :
    FnOK Tryz.prog 113 [.one (.arr false true (encBB a)), .one (.d (.sc (.int .i64 k)))] (fun ra os => ra = [.one (.d (.sc (.int .i64 (k + a.flatten.length))))] ∧ os.a 0 = encBB (markss a k)) := by
  refine FnOK.ofK Tryz.func113 (by kernel_rfl) dg_laws_markByteSS rs_laws_markByteSS rfl rfl ?_
  delta c_laws_markByteSS T.o X.i
  refine kSeq (kReg (kMovC rfl (kDone ?_)))
  refine kSeq (kSeq (kReg (kMovC rfl (kDone (kBlock ?_)))))
  refine kLoop (α := { i : Nat // i ≤ a.length })
    (fun y => ⟨tabSl [(0, .c (.arr 0 0)), (1, .i (k + (a.take y.1).flatten.length)), (5, .i y.1)], upd (St.init [.one (.arr false true (encBB a)), .one (.d (.sc (.int .i64 k)))]).ob 0 ⟨0, y.1, .arr true (encBB (markss (a.take y.1) k ++ a.drop y.1))⟩, []⟩) (fun y => a.length - y.1) ⟨0, by simp⟩
    (.tab (upd_self rfl) ⟨.refl _, by simpa using .refl _, .refl _, trivial⟩) ?_
  rintro ⟨i, hi⟩
  simp only
  have hlen : (markss (a.take i) k).length = i := by rw [markss_len]; simp; omega
  have hlen' : (markss (a.take i) k ++ a.drop i).length = a.length := by simp [hlen]; omega
  refine kSeq (kSeq (kReg ?_))
  refine kMovC rfl (kMovC rfl (kLen rfl rfl rfl (kBin rfl rfl rfl (kDone ?_))))
  rw [len_encBB, hlen']
  refine kCond rfl (fun h1 => ?_) (fun h1 => ?_)
  · have hlt : i < a.length := by simp at h1; omega
    have hget : (markss (a.take i) k ++ a.drop i)[i]'(by omega) = a[i] := by
      rw [List.getElem_append_right (by omega)]; simp [hlen]
    have hat : (encBB (markss (a.take i) k ++ a.drop i)).at i 0 = encB a[i] := by rw [at_encBB _ _ (by omega), hget]
    have hfl : (a.take (i + 1)).flatten.length = (a.take i).flatten.length + a[i].length := by
      rw [← List.take_append_getElem hlt, List.flatten_append, List.length_append]; simp only [List.flatten_cons, List.flatten_nil, List.append_nil]
    have htot : (a.take (i + 1)).flatten.length ≤ a.flatten.length := by
      have := congrArg (fun l => (List.flatten l).length) (List.take_append_drop (i + 1) a)
      simp only [List.flatten_append, List.length_append] at this
      omega
    refine kSkip (kSeq (kBlock (kReg ?_)))
    refine kMovC rfl (kMovC rfl (kIadA rfl rfl rfl rfl ?_ ?_))
    · rw [len_encBB, hlen']; omega
    refine kLoadE rfl rfl (v := .c (.sub 0 0 i i 0)) ?_ (kMovC rfl ?_)
    · show pickCells none (AC.ofCells 0 0 i i 0 (((encBB (markss (a.take i) k ++ a.drop i)).row i).drop 0)) = _
      rw [row_encBB _ _ (by omega)]
      rfl
    refine kCallS (ok_laws_markByteS a[i] (k + (a.take i).flatten.length) (by omega) (by omega)) rfl ⟨⟨rfl, rfl, rfl, rfl, rfl, rfl, hat.symm, rfl⟩, rfl, trivial⟩ ?_ rfl ?_
    · simp [encBB, DV.rows, hlen]; omega
    rintro ra os ⟨rfl, ho⟩
    refine ⟨_, rfl, ?_⟩
    refine kMovC rfl (kDone (kBk ?_))
    refine kReg (kMovC rfl (kAdd rfl rfl ?_ (kMovC rfl (kDone (kInv ?_)))))
    · omega
    refine ⟨⟨i + 1, hlt⟩, by simp only; omega, .tab ?_ ⟨.refl _, ?_, .refl _, trivial⟩⟩
    · refine Eq.trans ?_ (upd_upd _ _ _ _).symm
      refine congrArg (upd _ _) ?_
      show _ = Ob.mk _ _ (OK.arr _ ((encBB (markss (a.take i) k ++ a.drop i)).setCell i 0 (os.a 0)))
      rw [ho, setCell_encBB _ _ _ (by omega), take_set_succ _ _ _ _ hlt hlen, ← List.take_append_getElem hlt, markss_append]
    · show WkV (.i (k + ((a.take i).flatten.length : Int) + a[i].length)) (.i (k + ((a.take (i + 1)).flatten.length : Int)))
      rw [hfl, show k + (((a.take i).flatten.length + a[i].length : Nat) : Int) = k + ((a.take i).flatten.length : Int) + a[i].length by omega]
      exact .refl _
  · refine kExit (kExC (kExI (kExB ?_)))
    have hge : i = a.length := by simp at h1; omega
    subst hge
    refine kSeq (kReg (kMovC rfl (kMovC rfl (kDone (kRet ?_)))))
    refine endRet (ra := [.one (.d _)]) rfl ⟨⟨⟨rfl, .inl rfl⟩, trivial⟩, .nil, ⟨rfl, fun _ => rfl, rfl⟩, trivial, trivial⟩ ?_
    refine ⟨by simp, ?_⟩
    show encBB (markss (a.take a.length) k ++ a.drop a.length) = _
    simp

def c_laws_markName : C := (.seq (.reg false (.o 0 2 (.box 2 (.t 0)) (.o 1 4 (.mov (.i 0)) .done))) (.seq (.reg false (.o 0 5 (.fad (.t 2) 0) (.o 1 6 (.load none (.t 5)) (.o 2 7 (.mov (.t 1)) (.o 3 8 (.call 8 113 [(.t 6), (.t 7)]) (.o 4 1 (.mov (.t 8)) .done)))))) (.seq (.reg false (.o 0 9 (.mov (.t 1)) (.o 1 4 (.mov (.t 9)) .done))) .ret)))
theorem dg_laws_markName : Tryz.f61.body.bind (digC Tryz.prog Tryz.f61.ntmps []) = some c_laws_markName := by kernel_rfl
theorem rs_laws_markName : resSlots Tryz.prog Tryz.f61 = some [.s 4] := by kernel_rfl
theorem ok_laws_markName (a : List (List UInt8)) (k : Int) (h0 : 0 ≤ k) (hk : k + a.flatten.length ≤ 9223372036854775807) (hl : a.length ≤ 4194304) :
    FnOK Tryz.prog 61 [.agg [.arr false true (encBB a)], .one (.d (.sc (.int .i64 k)))] (fun ra os => ra = [.one (.d (.sc (.int .i64 (k + a.flatten.length))))] ∧ os.a 0 = encBB (markss a k)) := by
  refine FnOK.ofK Tryz.func61 (by kernel_rfl) dg_laws_markName rs_laws_markName rfl rfl ?_
  delta c_laws_markName T.o X.i
  refine kSeq (kReg (kBox rfl rfl rfl rfl rfl (kMovC rfl (kDone (kSeq (kReg (kFadP rfl rfl (kLoadP rfl rfl rfl (kMovC rfl ?_)))))))))
  refine kCall false (ok_laws_markByteSS a k h0 hk hl) ⟨⟨_, rfl, .inl rfl⟩, rfl, trivial⟩ rfl nofun (by rintro ra os ⟨rfl, _⟩; exact leb) ?_
  rintro ra os ⟨rfl, ho⟩
  refine kMovC rfl (kDone (kSeq (kReg (kMovC rfl (kMovC rfl (kDone ?_))))))
  refine kRet (endRet (ra := [.one (.d _)]) rfl ?_ ⟨rfl, ho⟩)
  (repeat' first | exact trivial | exact rfl | exact .inl rfl | exact nodupB_sound rfl | exact .inl (Nat.zero_lt_succ _) | exact fun _ => rfl | exact leb | exact ⟨_, rfl, fun _ => rfl⟩ | refine ⟨?_, ?_⟩ | fail)
  rw [show os.a (aid 0 0) = _ from ho]
  rfl

def c_laws_markIntS : C := (.seq (.reg false (.o 0 4 (.mov (.i 0)) .done)) (.seq (.seq (.reg false (.o 0 5 (.mov (.i 0)) .done)) (.block 0 (.loop (.seq (.seq (.reg false (.o 0 6 (.mov (.t 5)) (.o 1 7 (.mov (.t 0)) (.o 2 8 (.len (.t 7)) (.o 3 9 (.bin .lss (.t 6) (.t 8)) .done))))) (.cond (.t 9) .skip (.exit 0))) (.seq (.block 1 (.seq (.reg false (.o 0 12 (.mov (.t 0)) (.o 1 13 (.mov (.t 5)) (.o 2 14 (.mov (.t 1)) (.o 3 15 (.iad 1 (.t 12) (.t 13)) (.op 4 [] none none false (.store none (.t 15) (.t 14)) .done)))))) (.reg false (.o 0 16 (.mov (.t 1)) (.o 1 17 (.bin .add (.t 16) (.i 1)) (.o 2 1 (.mov (.t 17)) .done)))))) (.reg false (.o 0 10 (.mov (.t 5)) (.o 1 11 (.bin .add (.t 10) (.i 1)) (.o 2 5 (.mov (.t 11)) .done))))))))) (.seq (.reg false (.o 0 18 (.mov (.t 1)) (.o 1 4 (.mov (.t 18)) .done))) .ret)))
theorem dg_laws_markIntS : Tryz.f130.body.bind (digC Tryz.prog Tryz.f130.ntmps []) = some c_laws_markIntS := by kernel_rfl
theorem rs_laws_markIntS : resSlots Tryz.prog Tryz.f130 = some [.s 4] := by kernel_rfl
theorem ok_laws_markIntS (a : List Int) (k : Int) (h0 : 0 ≤ k) (hk : k + a.length ≤ 9223372036854775807) :
    FnOK Tryz.prog 130 [.one (.arr false true (encI a)), .one (.d (.sc (.int .i64 k)))] (fun ra os => ra = [.one (.d (.sc (.int .i64 (k + a.length))))] ∧ os.a 0 = encI (marksI a.length k)) := by
  refine FnOK.ofK Tryz.func130 (by kernel_rfl) dg_laws_markIntS rs_laws_markIntS rfl rfl ?_
  delta c_laws_markIntS T.o X.i
  refine kSeq (kReg (kMovC rfl (kDone (kSeq (kSeq (kReg (kMovC rfl (kDone (kBlock ?_)))))))))
  refine kLoop (α := { i : Nat // i ≤ a.length })
    (fun y => ⟨tabSl [(0, .c (.arr 0 0)), (1, .i (k + (y.1 : Int))), (5, .i y.1)], upd (St.init [.one (.arr false true (encI a)), .one (.d (.sc (.int .i64 k)))]).ob 0 ⟨0, y.1, .arr true (encI (marksI y.1 k ++ a.drop y.1))⟩, []⟩) (fun y => a.length - y.1) ⟨0, by simp⟩
    (.tab (upd_self rfl) ⟨.refl _, by simpa using .refl _, .refl _, trivial⟩) ?_
  rintro ⟨i, hi⟩
  simp only
  have hlen : (marksI i k ++ a.drop i).length = a.length := by simp [marksI_len]; omega
  rcases Nat.lt_or_ge i a.length with hlt | hge
  · refine kSeq (kSeq (kReg (kMovC rfl (kMovC rfl (kLenR rfl rfl (kBin rfl rfl rfl (kDone (kCondP rfl (fun g0 => kSkip (kSeq (kBlock (kSeq (kReg (kMovC rfl (kMovC rfl (kMovC rfl (kIadAR rfl rfl rfl rfl (by omega) (kStoreER rfl rfl rfl rfl rfl rfl rfl (by omega) rfl (kDone (kReg (kMovC rfl (kAdd rfl rfl (by omega) (kMovC rfl (kDone (kBk (kReg (kMovC rfl (kAdd rfl rfl (by omega) (kMovC rfl (kDone ?_)))))))))))))))))))))) (fun g0 => (by omega))))))))))
    refine kInv ⟨⟨i + 1, hlt⟩, by simp only; omega, .tab ?_ ⟨.refl _, ?_, .refl _, trivial⟩⟩
    · show _ = upd (upd _ 0 _) 0 _
      rw [upd_upd]
      refine congrArg (upd _ _) ?_
      rw [marksI_succ]
      exact congrArg (fun z => Ob.mk 0 (i + 1) (OK.arr true (encI z))) (take_set_succ _ _ _ _ hlt (marksI_len i k)).symm
    · show WkV (.i (k + i + 1)) (.i (k + ((i + 1 : Nat) : Int)))
      rw [show k + ((i + 1 : Nat) : Int) = k + i + 1 by omega]
      exact .refl _
  · refine kSeq (kSeq (kReg (kMovC rfl (kMovC rfl (kLenR rfl rfl (kBin rfl rfl rfl (kDone (kCondP rfl (fun g0 => (by omega)) (fun g0 => kExit (kExC (kExI (kExB (kSeq (kReg (kMovC rfl (kMovC rfl (kDone (kRet (endRetA (ra := [.one (.d _)]) rfl ?_)))))))))))))))))))
    obtain rfl : i = a.length := by omega
    refine ⟨rfl, ?_⟩
    show encI (marksI a.length k ++ a.drop a.length) = _
    simp

def c_laws_markRrS : C := (.seq (.reg false (.o 0 4 (.mov (.i 0)) .done)) (.seq (.seq (.reg false (.o 0 5 (.mov (.i 0)) .done)) (.block 0 (.loop (.seq (.seq (.reg false (.o 0 6 (.mov (.t 5)) (.o 1 7 (.mov (.t 0)) (.o 2 8 (.len (.t 7)) (.o 3 9 (.bin .lss (.t 6) (.t 8)) .done))))) (.cond (.t 9) .skip (.exit 0))) (.seq (.block 1 (.seq (.reg false (.o 0 12 (.mov (.t 0)) (.o 1 13 (.mov (.t 5)) (.o 2 14 (.iad 7 (.t 12) (.t 13)) (.o 3 15 (.fad (.t 14) 0) (.o 4 16 (.fad (.t 15) 0) (.o 5 17 (.load none (.t 16)) (.o 6 18 (.mov (.t 1)) (.o 7 19 (.call 19 113 [(.t 17), (.t 18)]) (.o 8 1 (.mov (.t 19)) .done)))))))))) (.seq (.reg false (.o 0 20 (.mov (.t 0)) (.o 1 21 (.mov (.t 5)) (.o 2 22 (.mov (.t 1)) (.o 3 23 (.iad 7 (.t 20) (.t 21)) (.o 4 24 (.fad (.t 23) 1) (.op 5 [] none none false (.store none (.t 24) (.t 22)) .done))))))) (.seq (.reg false (.o 0 25 (.mov (.t 1)) (.o 1 26 (.bin .add (.t 25) (.i 1)) (.o 2 1 (.mov (.t 26)) .done)))) (.seq (.reg false (.o 0 27 (.mov (.t 0)) (.o 1 28 (.mov (.t 5)) (.o 2 29 (.mov (.t 1)) (.o 3 30 (.iad 7 (.t 27) (.t 28)) (.o 4 31 (.fad (.t 30) 2) (.op 5 [] none none false (.store none (.t 31) (.t 29)) .done))))))) (.seq (.reg false (.o 0 32 (.mov (.t 1)) (.o 1 33 (.bin .add (.t 32) (.i 1)) (.o 2 1 (.mov (.t 33)) .done)))) (.seq (.reg false (.o 0 34 (.mov (.t 0)) (.o 1 35 (.mov (.t 5)) (.o 2 36 (.mov (.t 1)) (.o 3 37 (.iad 7 (.t 34) (.t 35)) (.o 4 38 (.fad (.t 37) 3) (.op 5 [] none none false (.store none (.t 38) (.t 36)) .done))))))) (.seq (.reg false (.o 0 39 (.mov (.t 1)) (.o 1 40 (.bin .add (.t 39) (.i 1)) (.o 2 1 (.mov (.t 40)) .done)))) (.seq (.reg false (.o 0 41 (.mov (.t 0)) (.o 1 42 (.mov (.t 5)) (.o 2 43 (.iad 7 (.t 41) (.t 42)) (.o 3 44 (.fad (.t 43) 4) (.o 4 45 (.fad (.t 44) 0) (.o 5 46 (.load none (.t 45)) (.o 6 47 (.mov (.t 1)) (.o 7 48 (.call 48 113 [(.t 46), (.t 47)]) (.o 8 1 (.mov (.t 48)) .done)))))))))) (.seq (.reg false (.o 0 49 (.mov (.t 0)) (.o 1 50 (.mov (.t 5)) (.o 2 51 (.iad 7 (.t 49) (.t 50)) (.o 3 52 (.fad (.t 51) 5) (.o 4 53 (.load none (.t 52)) (.o 5 54 (.mov (.t 1)) (.o 6 55 (.call 55 159 [(.t 53), (.t 54)]) (.o 7 1 (.mov (.t 55)) .done))))))))) (.reg false (.o 0 56 (.mov (.t 0)) (.o 1 57 (.mov (.t 5)) (.o 2 58 (.iad 7 (.t 56) (.t 57)) (.o 3 59 (.fad (.t 58) 6) (.o 4 60 (.load none (.t 59)) (.o 5 61 (.mov (.t 1)) (.o 6 62 (.call 62 130 [(.t 60), (.t 61)]) (.o 7 1 (.mov (.t 62)) .done))))))))))))))))))) (.reg false (.o 0 10 (.mov (.t 5)) (.o 1 11 (.bin .add (.t 10) (.i 1)) (.o 2 5 (.mov (.t 11)) .done))))))))) (.seq (.reg false (.o 0 63 (.mov (.t 1)) (.o 1 4 (.mov (.t 63)) .done))) .ret)))
theorem dg_laws_markRrS : Tryz.f62.body.bind (digC Tryz.prog Tryz.f62.ntmps []) = some c_laws_markRrS := by kernel_rfl
theorem rs_laws_markRrS : resSlots Tryz.prog Tryz.f62 = some [.s 4] := by kernel_rfl
theorem ok_laws_markRrS (l : List Rr) (k : Int) (h0 : 0 ≤ k) (hk : k + cntRs l ≤ 9223372036854775807) (hs : SmallRs l) :
    FnOK Tryz.prog 62 [.one (.arr false true (encR l)), .one (.d (.sc (.int .i64 k)))] (fun ra os => ra = [.one (.d (.sc (.int .i64 (k + cntRs l))))] ∧ os.a 0 = encR (markRs l k)) := by
  refine FnOK.ofK Tryz.func62 (by kernel_rfl) dg_laws_markRrS rs_laws_markRrS rfl rfl ?_
  delta c_laws_markRrS T.o X.i
  have h1 := hs.len
  refine kSeq (kReg (kMovC rfl (kDone (kSeq (kSeq (kReg (kMovC rfl (kDone (kBlock ?_)))))))))
  generalize hF : (St.init [.one (.arr false true (encR l)), .one (.d (.sc (.int .i64 k)))]).ob = F
  refine kLoop (α := { i : Nat // i ≤ l.length })
    (fun y => ⟨tabSl [(0, .c (.arr 0 0)), (1, .i (k + (cntRs (l.take y.1) : Int))), (5, .i y.1)], upd F 0 ⟨0, 7 * y.1, .arr true (encR (markRs (l.take y.1) k ++ l.drop y.1))⟩, []⟩) (fun y => l.length - y.1) ⟨0, by simp⟩
    (.tab (by subst hF; exact upd_self rfl) ⟨.refl _, by simpa using .refl _, .refl _, trivial⟩) ?_
  rintro ⟨i, hi⟩
  simp only
  have hlen : (markRs (l.take i) k).length = i := by rw [markRs_len]; simp; omega
  have hlen' : (markRs (l.take i) k ++ l.drop i).length = l.length := by simp [hlen]; omega
  have hle := cntRs_le l i
  have hle2 := cntRs_le l (i + 1)
  rcases Nat.lt_or_ge i l.length with hlt | hge
  · have hbi := hs.mem _ (List.getElem_mem hlt)
    have hsuc := cntRs_take l i hlt
    have hget : (markRs (l.take i) k ++ l.drop i)[i]'(by omega) = l[i] := by
      rw [List.getElem_append_right (by omega)]; simp [hlen]
    have hset := set_self (markRs (l.take i) k ++ l.drop i) i (by omega)
    rw [hget] at hset
    have hfin : ∀ R : Rr, R = markR l[i] (k + cntRs (l.take i)) → (markRs (l.take i) k ++ l.drop i).set i R = markRs (l.take (i + 1)) k ++ l.drop (i + 1) := by
      rintro R rfl
      rw [take_set_succ _ _ _ _ hlt hlen, ← List.take_append_getElem hlt, markRs_append]
    have hc : cntR l[i] = l[i].name.flatten.length + 3 + l[i].to.flatten.length + l[i].text.length + l[i].nums.length := rfl
    clear hget
    revert hset hfin hlen'
    generalize markRs (l.take i) k ++ l.drop i = L
    generalize hr : l[i] = r at hc hbi hsuc
    generalize hK : k + (cntRs (l.take i) : Int) = K
    intro hlen' hset hfin
    have n1 := hbi.n.len
    have t1 := hbi.t.len
    have x1 := hbi.x
    have m1 := hbi.m
    have hiL : i < L.length := by omega
    have hKn : 0 ≤ K := by omega
    have hKm : K + cntR r ≤ 9223372036854775807 := by omega
    refine kSub (t := ⟨tabSl [(0, .c (.arr 0 0)), (1, .i (K)), (5, .i i)], upd F 0 ⟨0, 7 * i, .arr true (encR (L.set i r))⟩, []⟩) (.tab (by rw [hset]) ⟨.refl _, .refl _, .refl _, trivial⟩) ?_
    refine kSeq (kSeq (kReg (kMovC rfl (kMovC rfl (kLen rfl rfl rfl (kBin rfl rfl rfl (kDone ?_)))))))
    rw [len_encR, List.length_set]
    refine kCond rfl (fun h1 => ?_) (fun h1 => by exfalso; simp at h1; omega)
    refine kSkip (kSeq (kBlock ?_))
    refine kSeq (kReg ?_)
    refine kMovC rfl (kMovC rfl (kIadA rfl rfl rfl rfl ?_ ?_))
    · rw [len_encR, List.length_set]; omega
    refine kFadE rfl rfl (kFadE rfl rfl (?_))
    refine kLoadE rfl rfl (v := .c (.sub 0 0 (7 * i) i 0)) ?_ (kMovC rfl ?_)
    · show pickCells none (AC.ofCells 0 0 (7 * i) i 0 (((encR (L.set i ⟨r.name, r.ty, r.ttl, r.addr, r.to, r.text, r.nums⟩)).row i).drop 0)) = _
      rw [row_encRS _ _ _ hiL]
      rfl
    refine kCallS (ok_laws_markByteSS r.name K (by omega) (by omega) n1) rfl ⟨⟨rfl, rfl, rfl, rfl, rfl, rfl, (at_encRS L i 0 ⟨r.name, r.ty, r.ttl, r.addr, r.to, r.text, r.nums⟩ hiL).symm, rfl⟩, rfl, trivial⟩ ?_ rfl ?_
    · simp [encR, DV.rows]; omega
    rintro ra os ⟨rfl, ho⟩
    refine ⟨_, rfl, ?_⟩
    refine kMovC rfl (kDone ?_)
    refine kSub (t := ⟨tabSl [(0, .c (.arr 0 0)), (1, .i (K + (r.name.flatten.length : Int))), (5, .i i)], upd F 0 ⟨0, (7 * i + 1), .arr true (encR (L.set i ⟨markss r.name (K), r.ty, r.ttl, r.addr, r.to, r.text, r.nums⟩))⟩, []⟩) (.tab ?_ ⟨.refl _, .refl _, .refl _, trivial⟩) ?_
    · refine Eq.trans ?_ (upd_upd _ _ _ _).symm
      refine congrArg (upd _ _) ?_
      show _ = Ob.mk _ _ (OK.arr _ ((encR (L.set i ⟨r.name, r.ty, r.ttl, r.addr, r.to, r.text, r.nums⟩)).setCell i 0 (os.a 0)))
      rw [ho, setCell_encRS L i 0 ⟨r.name, r.ty, r.ttl, r.addr, r.to, r.text, r.nums⟩ ⟨markss r.name (K), r.ty, r.ttl, r.addr, r.to, r.text, r.nums⟩ _ hiL rfl]
      try rfl
    refine kSeq (kReg ?_)
    refine kMovC rfl (kMovC rfl (kMovC rfl (kIadA rfl rfl rfl rfl ?_ (kFadE rfl rfl ?_))))
    · rw [len_encR, List.length_set]; omega
    refine kStoreE1 rfl rfl rfl rfl (by simp [encR, DV.esz]) (kDone ?_)
    refine kSub (t := ⟨tabSl [(0, .c (.arr 0 0)), (1, .i (K + (r.name.flatten.length : Int))), (5, .i i)], upd F 0 ⟨0, (7 * i + 2), .arr true (encR (L.set i ⟨markss r.name (K), (K + (r.name.flatten.length : Int)), r.ttl, r.addr, r.to, r.text, r.nums⟩))⟩, []⟩) (.tab ?_ ⟨.refl _, .refl _, .refl _, trivial⟩) ?_
    · refine Eq.trans ?_ (upd_upd _ _ _ _).symm
      refine congrArg (upd _ _) ?_
      show _ = Ob.mk _ _ (OK.arr _ (setRow (encR (L.set i ⟨markss r.name (K), r.ty, r.ttl, r.addr, r.to, r.text, r.nums⟩)) i 1 _))
      rw [setRow_encRS L i 1 ⟨markss r.name (K), r.ty, r.ttl, r.addr, r.to, r.text, r.nums⟩ ⟨markss r.name (K), (K + (r.name.flatten.length : Int)), r.ttl, r.addr, r.to, r.text, r.nums⟩ _ hiL rfl]
      try rfl
    refine kSeq (kReg (kMovC rfl (kAdd rfl rfl (by omega) (kMovC rfl (kDone ?_)))))
    refine kSeq (kReg ?_)
    refine kMovC rfl (kMovC rfl (kMovC rfl (kIadA rfl rfl rfl rfl ?_ (kFadE rfl rfl ?_))))
    · rw [len_encR, List.length_set]; omega
    refine kStoreE1 rfl rfl rfl rfl (by simp [encR, DV.esz]) (kDone ?_)
    refine kSub (t := ⟨tabSl [(0, .c (.arr 0 0)), (1, .i (K + (r.name.flatten.length : Int) + 1)), (5, .i i)], upd F 0 ⟨0, (7 * i + 3), .arr true (encR (L.set i ⟨markss r.name (K), (K + (r.name.flatten.length : Int)), (K + (r.name.flatten.length : Int) + 1), r.addr, r.to, r.text, r.nums⟩))⟩, []⟩) (.tab ?_ ⟨.refl _, .refl _, .refl _, trivial⟩) ?_
    · refine Eq.trans ?_ (upd_upd _ _ _ _).symm
      refine congrArg (upd _ _) ?_
      show _ = Ob.mk _ _ (OK.arr _ (setRow (encR (L.set i ⟨markss r.name (K), (K + (r.name.flatten.length : Int)), r.ttl, r.addr, r.to, r.text, r.nums⟩)) i 2 _))
      rw [setRow_encRS L i 2 ⟨markss r.name (K), (K + (r.name.flatten.length : Int)), r.ttl, r.addr, r.to, r.text, r.nums⟩ ⟨markss r.name (K), (K + (r.name.flatten.length : Int)), (K + (r.name.flatten.length : Int) + 1), r.addr, r.to, r.text, r.nums⟩ _ hiL rfl]
      try rfl
    refine kSeq (kReg (kMovC rfl (kAdd rfl rfl (by omega) (kMovC rfl (kDone ?_)))))
    refine kSeq (kReg ?_)
    refine kMovC rfl (kMovC rfl (kMovC rfl (kIadA rfl rfl rfl rfl ?_ (kFadE rfl rfl ?_))))
    · rw [len_encR, List.length_set]; omega
    refine kStoreE1 rfl rfl rfl rfl (by simp [encR, DV.esz]) (kDone ?_)
    refine kSub (t := ⟨tabSl [(0, .c (.arr 0 0)), (1, .i (K + (r.name.flatten.length : Int) + 1 + 1)), (5, .i i)], upd F 0 ⟨0, (7 * i + 4), .arr true (encR (L.set i ⟨markss r.name (K), (K + (r.name.flatten.length : Int)), (K + (r.name.flatten.length : Int) + 1), (K + (r.name.flatten.length : Int) + 1 + 1), r.to, r.text, r.nums⟩))⟩, []⟩) (.tab ?_ ⟨.refl _, .refl _, .refl _, trivial⟩) ?_
    · refine Eq.trans ?_ (upd_upd _ _ _ _).symm
      refine congrArg (upd _ _) ?_
      show _ = Ob.mk _ _ (OK.arr _ (setRow (encR (L.set i ⟨markss r.name (K), (K + (r.name.flatten.length : Int)), (K + (r.name.flatten.length : Int) + 1), r.addr, r.to, r.text, r.nums⟩)) i 3 _))
      rw [setRow_encRS L i 3 ⟨markss r.name (K), (K + (r.name.flatten.length : Int)), (K + (r.name.flatten.length : Int) + 1), r.addr, r.to, r.text, r.nums⟩ ⟨markss r.name (K), (K + (r.name.flatten.length : Int)), (K + (r.name.flatten.length : Int) + 1), (K + (r.name.flatten.length : Int) + 1 + 1), r.to, r.text, r.nums⟩ _ hiL rfl]
      try rfl
    refine kSeq (kReg (kMovC rfl (kAdd rfl rfl (by omega) (kMovC rfl (kDone ?_)))))
    refine kSeq (kReg ?_)
    refine kMovC rfl (kMovC rfl (kIadA rfl rfl rfl rfl ?_ ?_))
    · rw [len_encR, List.length_set]; omega
    refine kFadE rfl rfl (kFadE rfl rfl (?_))
    refine kLoadE rfl rfl (v := .c (.sub 0 0 (7 * i + 4) i 4)) ?_ (kMovC rfl ?_)
    · show pickCells none (AC.ofCells 0 0 (7 * i + 4) i 4 (((encR (L.set i ⟨markss r.name (K), (K + (r.name.flatten.length : Int)), (K + (r.name.flatten.length : Int) + 1), (K + (r.name.flatten.length : Int) + 1 + 1), r.to, r.text, r.nums⟩)).row i).drop 4)) = _
      rw [row_encRS _ _ _ hiL]
      rfl
    refine kCallS (ok_laws_markByteSS r.to _ (by omega) (by omega) t1) rfl ⟨⟨rfl, rfl, rfl, rfl, rfl, rfl, (at_encRS L i 4 ⟨markss r.name (K), (K + (r.name.flatten.length : Int)), (K + (r.name.flatten.length : Int) + 1), (K + (r.name.flatten.length : Int) + 1 + 1), r.to, r.text, r.nums⟩ hiL).symm, rfl⟩, rfl, trivial⟩ ?_ rfl ?_
    · simp [encR, DV.rows]; omega
    rintro ra os ⟨rfl, ho⟩
    refine ⟨_, rfl, ?_⟩
    refine kMovC rfl (kDone ?_)
    refine kSub (t := ⟨tabSl [(0, .c (.arr 0 0)), (1, .i (K + (r.name.flatten.length : Int) + 1 + 1 + 1 + (r.to.flatten.length : Int))), (5, .i i)], upd F 0 ⟨0, (7 * i + 5), .arr true (encR (L.set i ⟨markss r.name (K), (K + (r.name.flatten.length : Int)), (K + (r.name.flatten.length : Int) + 1), (K + (r.name.flatten.length : Int) + 1 + 1), markss r.to (K + (r.name.flatten.length : Int) + 1 + 1 + 1), r.text, r.nums⟩))⟩, []⟩) (.tab ?_ ⟨.refl _, .refl _, .refl _, trivial⟩) ?_
    · refine Eq.trans ?_ (upd_upd _ _ _ _).symm
      refine congrArg (upd _ _) ?_
      show _ = Ob.mk _ _ (OK.arr _ ((encR (L.set i ⟨markss r.name (K), (K + (r.name.flatten.length : Int)), (K + (r.name.flatten.length : Int) + 1), (K + (r.name.flatten.length : Int) + 1 + 1), r.to, r.text, r.nums⟩)).setCell i 4 (os.a 0)))
      rw [ho, setCell_encRS L i 4 ⟨markss r.name (K), (K + (r.name.flatten.length : Int)), (K + (r.name.flatten.length : Int) + 1), (K + (r.name.flatten.length : Int) + 1 + 1), r.to, r.text, r.nums⟩ ⟨markss r.name (K), (K + (r.name.flatten.length : Int)), (K + (r.name.flatten.length : Int) + 1), (K + (r.name.flatten.length : Int) + 1 + 1), markss r.to (K + (r.name.flatten.length : Int) + 1 + 1 + 1), r.text, r.nums⟩ _ hiL rfl]
      try rfl
    refine kSeq (kReg ?_)
    refine kMovC rfl (kMovC rfl (kIadA rfl rfl rfl rfl ?_ ?_))
    · rw [len_encR, List.length_set]; omega
    refine kFadE rfl rfl (?_)
    refine kLoadE rfl rfl (v := .c (.sub 0 0 (7 * i + 5) i 5)) ?_ (kMovC rfl ?_)
    · show pickCells none (AC.ofCells 0 0 (7 * i + 5) i 5 (((encR (L.set i ⟨markss r.name (K), (K + (r.name.flatten.length : Int)), (K + (r.name.flatten.length : Int) + 1), (K + (r.name.flatten.length : Int) + 1 + 1), markss r.to (K + (r.name.flatten.length : Int) + 1 + 1 + 1), r.text, r.nums⟩)).row i).drop 5)) = _
      rw [row_encRS _ _ _ hiL]
      rfl
    refine kCallS (ok_laws_markByteS r.text _ (by omega) (by omega)) rfl ⟨⟨rfl, rfl, rfl, rfl, rfl, rfl, (at_encRS L i 5 ⟨markss r.name (K), (K + (r.name.flatten.length : Int)), (K + (r.name.flatten.length : Int) + 1), (K + (r.name.flatten.length : Int) + 1 + 1), markss r.to (K + (r.name.flatten.length : Int) + 1 + 1 + 1), r.text, r.nums⟩ hiL).symm, rfl⟩, rfl, trivial⟩ ?_ rfl ?_
    · simp [encR, DV.rows]; omega
    rintro ra os ⟨rfl, ho⟩
    refine ⟨_, rfl, ?_⟩
    refine kMovC rfl (kDone ?_)
    refine kSub (t := ⟨tabSl [(0, .c (.arr 0 0)), (1, .i (K + (r.name.flatten.length : Int) + 1 + 1 + 1 + (r.to.flatten.length : Int) + (r.text.length : Int))), (5, .i i)], upd F 0 ⟨0, (7 * i + 6), .arr true (encR (L.set i ⟨markss r.name (K), (K + (r.name.flatten.length : Int)), (K + (r.name.flatten.length : Int) + 1), (K + (r.name.flatten.length : Int) + 1 + 1), markss r.to (K + (r.name.flatten.length : Int) + 1 + 1 + 1), marks r.text.length (K + (r.name.flatten.length : Int) + 1 + 1 + 1 + (r.to.flatten.length : Int)), r.nums⟩))⟩, []⟩) (.tab ?_ ⟨.refl _, .refl _, .refl _, trivial⟩) ?_
    · refine Eq.trans ?_ (upd_upd _ _ _ _).symm
      refine congrArg (upd _ _) ?_
      show _ = Ob.mk _ _ (OK.arr _ ((encR (L.set i ⟨markss r.name (K), (K + (r.name.flatten.length : Int)), (K + (r.name.flatten.length : Int) + 1), (K + (r.name.flatten.length : Int) + 1 + 1), markss r.to (K + (r.name.flatten.length : Int) + 1 + 1 + 1), r.text, r.nums⟩)).setCell i 5 (os.a 0)))
      rw [ho, setCell_encRS L i 5 ⟨markss r.name (K), (K + (r.name.flatten.length : Int)), (K + (r.name.flatten.length : Int) + 1), (K + (r.name.flatten.length : Int) + 1 + 1), markss r.to (K + (r.name.flatten.length : Int) + 1 + 1 + 1), r.text, r.nums⟩ ⟨markss r.name (K), (K + (r.name.flatten.length : Int)), (K + (r.name.flatten.length : Int) + 1), (K + (r.name.flatten.length : Int) + 1 + 1), markss r.to (K + (r.name.flatten.length : Int) + 1 + 1 + 1), marks r.text.length (K + (r.name.flatten.length : Int) + 1 + 1 + 1 + (r.to.flatten.length : Int)), r.nums⟩ _ hiL rfl]
      try rfl
    refine kReg ?_
    refine kMovC rfl (kMovC rfl (kIadA rfl rfl rfl rfl ?_ ?_))
    · rw [len_encR, List.length_set]; omega
    refine kFadE rfl rfl (?_)
    refine kLoadE rfl rfl (v := .c (.sub 0 0 (7 * i + 6) i 6)) ?_ (kMovC rfl ?_)
    · show pickCells none (AC.ofCells 0 0 (7 * i + 6) i 6 (((encR (L.set i ⟨markss r.name (K), (K + (r.name.flatten.length : Int)), (K + (r.name.flatten.length : Int) + 1), (K + (r.name.flatten.length : Int) + 1 + 1), markss r.to (K + (r.name.flatten.length : Int) + 1 + 1 + 1), marks r.text.length (K + (r.name.flatten.length : Int) + 1 + 1 + 1 + (r.to.flatten.length : Int)), r.nums⟩)).row i).drop 6)) = _
      rw [row_encRS _ _ _ hiL]
      rfl
    refine kCallS (ok_laws_markIntS r.nums _ (by omega) (by omega)) rfl ⟨⟨rfl, rfl, rfl, rfl, rfl, rfl, (at_encRS L i 6 ⟨markss r.name (K), (K + (r.name.flatten.length : Int)), (K + (r.name.flatten.length : Int) + 1), (K + (r.name.flatten.length : Int) + 1 + 1), markss r.to (K + (r.name.flatten.length : Int) + 1 + 1 + 1), marks r.text.length (K + (r.name.flatten.length : Int) + 1 + 1 + 1 + (r.to.flatten.length : Int)), r.nums⟩ hiL).symm, rfl⟩, rfl, trivial⟩ ?_ rfl ?_
    · simp [encR, DV.rows]; omega
    rintro ra os ⟨rfl, ho⟩
    refine ⟨_, rfl, ?_⟩
    refine kMovC rfl (kDone (kBk ?_))
    refine kSub (t := ⟨tabSl [(0, .c (.arr 0 0)), (1, .i (K + (r.name.flatten.length : Int) + 1 + 1 + 1 + (r.to.flatten.length : Int) + (r.text.length : Int) + (r.nums.length : Int))), (5, .i i)], upd F 0 ⟨0, (7 * i + 7), .arr true (encR (L.set i ⟨markss r.name (K), (K + (r.name.flatten.length : Int)), (K + (r.name.flatten.length : Int) + 1), (K + (r.name.flatten.length : Int) + 1 + 1), markss r.to (K + (r.name.flatten.length : Int) + 1 + 1 + 1), marks r.text.length (K + (r.name.flatten.length : Int) + 1 + 1 + 1 + (r.to.flatten.length : Int)), marksI r.nums.length (K + (r.name.flatten.length : Int) + 1 + 1 + 1 + (r.to.flatten.length : Int) + (r.text.length : Int))⟩))⟩, []⟩) (.tab ?_ ⟨.refl _, .refl _, .refl _, trivial⟩) ?_
    · refine Eq.trans ?_ (upd_upd _ _ _ _).symm
      refine congrArg (upd _ _) ?_
      show _ = Ob.mk _ _ (OK.arr _ ((encR (L.set i ⟨markss r.name (K), (K + (r.name.flatten.length : Int)), (K + (r.name.flatten.length : Int) + 1), (K + (r.name.flatten.length : Int) + 1 + 1), markss r.to (K + (r.name.flatten.length : Int) + 1 + 1 + 1), marks r.text.length (K + (r.name.flatten.length : Int) + 1 + 1 + 1 + (r.to.flatten.length : Int)), r.nums⟩)).setCell i 6 (os.a 0)))
      rw [ho, setCell_encRS L i 6 ⟨markss r.name (K), (K + (r.name.flatten.length : Int)), (K + (r.name.flatten.length : Int) + 1), (K + (r.name.flatten.length : Int) + 1 + 1), markss r.to (K + (r.name.flatten.length : Int) + 1 + 1 + 1), marks r.text.length (K + (r.name.flatten.length : Int) + 1 + 1 + 1 + (r.to.flatten.length : Int)), r.nums⟩ ⟨markss r.name (K), (K + (r.name.flatten.length : Int)), (K + (r.name.flatten.length : Int) + 1), (K + (r.name.flatten.length : Int) + 1 + 1), markss r.to (K + (r.name.flatten.length : Int) + 1 + 1 + 1), marks r.text.length (K + (r.name.flatten.length : Int) + 1 + 1 + 1 + (r.to.flatten.length : Int)), marksI r.nums.length (K + (r.name.flatten.length : Int) + 1 + 1 + 1 + (r.to.flatten.length : Int) + (r.text.length : Int))⟩ _ hiL rfl]
      try rfl
    rw [hfin _ (by rw [← hr, ← hK]; rfl)]
    refine kReg (kMovC rfl (kAdd rfl rfl (by omega) (kMovC rfl (kDone (kInv ?_)))))
    refine ⟨⟨i + 1, hlt⟩, by simp only; omega, .tab rfl ⟨.refl _, ?_, .refl _, trivial⟩⟩
    refine Eq.mp (congrArg (fun z => WkV _ (.i z)) ?_) (.refl _)
    show _ = k + ((cntRs (l.take (i + 1)) : Nat) : Int)
    omega
  · refine kSeq (kSeq (kReg (kMovC rfl (kMovC rfl (kLen rfl rfl rfl (kBin rfl rfl rfl (kDone ?_)))))))
    rw [len_encR, hlen']
    refine kCond rfl (fun h1 => by exfalso; simp at h1; omega) (fun h1 => ?_)
    refine kExit (kExC (kExI (kExB ?_)))
    obtain rfl : i = l.length := by omega
    refine kSeq (kReg (kMovC rfl (kMovC rfl (kDone (kRet ?_)))))
    subst hF
    refine endRet (ra := [.one (.d _)]) rfl ⟨⟨⟨rfl, .inl rfl⟩, trivial⟩, .nil, ⟨rfl, fun _ => rfl, rfl⟩, trivial, trivial⟩ ?_
    refine ⟨by simp, ?_⟩
    show encR (markRs (l.take l.length) k ++ l.drop l.length) = _
    simp


def c_laws_markZone : C := (.seq (.reg false (.o 0 2 (.box 2 (.t 0)) (.o 1 4 (.mov (.i 0)) .done))) (.seq (.reg false (.o 0 5 (.fad (.t 2) 0) (.o 1 6 (.load (some 1) (.t 5)) (.o 2 7 (.mov (.t 1)) (.o 3 8 (.call 8 61 [(.t 6), (.t 7)]) (.o 4 1 (.mov (.t 8)) .done)))))) (.seq (.reg false (.o 0 9 (.fad (.t 2) 1) (.o 1 10 (.load none (.t 9)) (.o 2 11 (.mov (.t 1)) (.o 3 12 (.call 12 62 [(.t 10), (.t 11)]) (.o 4 1 (.mov (.t 12)) .done)))))) (.seq (.reg false (.o 0 13 (.mov (.t 1)) (.o 1 4 (.mov (.t 13)) .done))) .ret))))
theorem dg_laws_markZone : Tryz.f141.body.bind (digC Tryz.prog Tryz.f141.ntmps []) = some c_laws_markZone := by kernel_rfl
theorem rs_laws_markZone : resSlots Tryz.prog Tryz.f141 = some [.s 4] := by kernel_rfl
theorem ok_laws_markZone (z : Zone) (k : Int) (h0 : 0 ≤ k) (hk : k + cntZ z ≤ 9223372036854775807) (hs : SmallZ z) :
    FnOK Tryz.prog 141 [.agg [.arr false true (encBB z.origin), .arr false true (encR z.rrs)], .one (.d (.sc (.int .i64 k)))] (fun ra os => ra = [.one (.d (.sc (.int .i64 (k + cntZ z))))] ∧ outsAre [(0, encBB (markZ z k).origin), (1, encR (markZ z k).rrs)] os) := by
  refine FnOK.ofK Tryz.func141 (by kernel_rfl) dg_laws_markZone rs_laws_markZone rfl rfl ?_
  delta c_laws_markZone T.o X.i
  have o1 := hs.o.len
  have o2 := hs.o.mem
  have h1 := hs.r
  have hc : k + (cntZ z : Int) = k + (z.origin.flatten.length : Int) + (cntRs z.rrs : Int) := by unfold cntZ cntBB; omega
  refine kSeq (kReg (kBox rfl rfl rfl rfl rfl (kMovC rfl (kDone (kSeq (kReg (kFadP rfl rfl (kLoadP rfl rfl rfl (kMovC rfl (kCallA (ok_laws_markName _ _ pr pr pr) ⟨⟨⟨⟨_, rfl, .inl rfl⟩, trivial⟩, leb⟩, rfl, trivial⟩ rfl rfl rfl rfl (kMovC rfl (kDone (kSeq (kReg (kFadP rfl rfl (kLoadP rfl rfl rfl (kMovC rfl (kCallA (ok_laws_markRrS _ _ pr pr pr) ⟨⟨_, rfl, .inl rfl⟩, rfl, trivial⟩ rfl rfl rfl rfl (kMovC rfl (kDone (kSeq (kReg (kMovC rfl (kMovC rfl (kDone (kRet (endRetA (ra := [.one (.d _)]) rfl ?_)))))))))))))))))))))))))))
  refine ⟨?_, rfl, rfl, trivial⟩
  rw [hc]

def c_laws_markLeaseS : C := (.seq (.reg false (.o 0 4 (.mov (.i 0)) .done)) (.seq (.seq (.reg false (.o 0 5 (.mov (.i 0)) .done)) (.block 0 (.loop (.seq (.seq (.reg false (.o 0 6 (.mov (.t 5)) (.o 1 7 (.mov (.t 0)) (.o 2 8 (.len (.t 7)) (.o 3 9 (.bin .lss (.t 6) (.t 8)) .done))))) (.cond (.t 9) .skip (.exit 0))) (.seq (.block 1 (.seq (.reg false (.o 0 12 (.mov (.t 0)) (.o 1 13 (.mov (.t 5)) (.o 2 14 (.mov (.t 1)) (.o 3 15 (.iad 5 (.t 12) (.t 13)) (.o 4 16 (.fad (.t 15) 0) (.op 5 [] none none false (.store none (.t 16) (.t 14)) .done))))))) (.seq (.reg false (.o 0 17 (.mov (.t 1)) (.o 1 18 (.bin .add (.t 17) (.i 1)) (.o 2 1 (.mov (.t 18)) .done)))) (.seq (.reg false (.o 0 19 (.mov (.t 0)) (.o 1 20 (.mov (.t 5)) (.o 2 21 (.iad 5 (.t 19) (.t 20)) (.o 3 22 (.fad (.t 21) 1) (.o 4 23 (.load none (.t 22)) (.o 5 24 (.mov (.t 1)) (.o 6 25 (.call 25 159 [(.t 23), (.t 24)]) (.o 7 1 (.mov (.t 25)) .done))))))))) (.seq (.reg false (.o 0 26 (.mov (.t 0)) (.o 1 27 (.mov (.t 5)) (.o 2 28 (.iad 5 (.t 26) (.t 27)) (.o 3 29 (.fad (.t 28) 2) (.o 4 30 (.load none (.t 29)) (.o 5 31 (.mov (.t 1)) (.o 6 32 (.call 32 159 [(.t 30), (.t 31)]) (.o 7 1 (.mov (.t 32)) .done))))))))) (.seq (.reg false (.o 0 33 (.mov (.t 0)) (.o 1 34 (.mov (.t 5)) (.o 2 35 (.mov (.t 1)) (.o 3 36 (.iad 5 (.t 33) (.t 34)) (.o 4 37 (.fad (.t 36) 3) (.op 5 [] none none false (.store none (.t 37) (.t 35)) .done))))))) (.seq (.reg false (.o 0 38 (.mov (.t 1)) (.o 1 39 (.bin .add (.t 38) (.i 1)) (.o 2 1 (.mov (.t 39)) .done)))) (.seq (.reg false (.o 0 40 (.mov (.t 0)) (.o 1 41 (.mov (.t 5)) (.o 2 42 (.mov (.t 1)) (.o 3 43 (.bin .rem (.t 42) (.i 3)) (.o 4 44 (.bin .eql (.t 43) (.i 0)) (.o 5 45 (.iad 5 (.t 40) (.t 41)) (.o 6 46 (.fad (.t 45) 4) (.op 7 [] none none false (.store none (.t 46) (.t 44)) .done))))))))) (.reg false (.o 0 47 (.mov (.t 1)) (.o 1 48 (.bin .add (.t 47) (.i 1)) (.o 2 1 (.mov (.t 48)) .done)))))))))))) (.reg false (.o 0 10 (.mov (.t 5)) (.o 1 11 (.bin .add (.t 10) (.i 1)) (.o 2 5 (.mov (.t 11)) .done))))))))) (.seq (.reg false (.o 0 49 (.mov (.t 1)) (.o 1 4 (.mov (.t 49)) .done))) .ret)))
theorem dg_laws_markLeaseS : Tryz.f142.body.bind (digC Tryz.prog Tryz.f142.ntmps []) = some c_laws_markLeaseS := by kernel_rfl
theorem rs_laws_markLeaseS : resSlots Tryz.prog Tryz.f142 = some [.s 4] := by kernel_rfl
theorem ok_laws_markLeaseS (k : Int) :
    FnOK Tryz.prog 142 [.one (.d (encE [])), .one (.d (.sc (.int .i64 k)))] (fun ra _ => ra = [.one (.d (.sc (.int .i64 k)))]) := by
  refine FnOK.ofK Tryz.func142 (by kernel_rfl) dg_laws_markLeaseS rs_laws_markLeaseS rfl rfl ?_
  delta c_laws_markLeaseS T.o X.i
  refine kSeq (kReg (kMovC rfl (kDone (kSeq (kSeq (kReg (kMovC rfl (kDone (kBlock ?_)))))))))
  refine kLoop (α := Unit) (fun _ => ⟨tabSl [(0, .dv (encE [])), (1, .i k), (5, .i 0)], obTab 1 [], []⟩) (fun _ => 0) () .normA ?_
  rintro ⟨⟩
  refine kSeq (kSeq (kReg (kMovC rfl (kMovC rfl (kLen0 rfl (kBin rfl rfl rfl (kDone (kCondF rfl (kExit (kExC (kExI (kExB (kSeq (kReg (kMovC rfl (kMovC rfl (kDone (kRet (endRetA (ra := [.one (.d _)]) rfl rfl)))))))))))))))))))

def c_laws_markHouse : C := (.seq (.reg false (.o 0 2 (.box 2 (.t 0)) (.o 1 4 (.mov (.i 0)) .done))) (.seq (.reg false (.o 0 5 (.fad (.t 2) 1) (.o 1 6 (.load (some 2) (.t 5)) (.o 2 7 (.mov (.t 1)) (.o 3 8 (.call 8 141 [(.t 6), (.t 7)]) (.o 4 1 (.mov (.t 8)) .done)))))) (.seq (.reg false (.o 0 9 (.fad (.t 2) 3) (.o 1 10 (.load (some 2) (.t 9)) (.o 2 11 (.mov (.t 1)) (.o 3 12 (.call 12 141 [(.t 10), (.t 11)]) (.o 4 1 (.mov (.t 12)) .done)))))) (.seq (.reg false (.o 0 13 (.fad (.t 2) 5) (.o 1 14 (.load none (.t 13)) (.o 2 15 (.mov (.t 1)) (.o 3 16 (.call 16 142 [(.t 14), (.t 15)]) (.o 4 1 (.mov (.t 16)) .done)))))) (.seq (.reg false (.o 0 17 (.mov (.t 1)) (.o 1 4 (.mov (.t 17)) .done))) .ret)))))
theorem dg_laws_markHouse : Tryz.f50.body.bind (digC Tryz.prog Tryz.f50.ntmps []) = some c_laws_markHouse := by kernel_rfl
theorem rs_laws_markHouse : resSlots Tryz.prog Tryz.f50 = some [.s 4] := by kernel_rfl
theorem ok_laws_markHouse (z r : Zone) (k : Int) (h0 : 0 ≤ k) (hk : k + cntZ z + cntZ r ≤ 9223372036854775807) (hz : SmallZ z) (hr : SmallZ r) :
    FnOK Tryz.prog 50 [.agg [.d (.sc (.int .i64 0)), .arr false true (encBB z.origin), .arr false true (encR z.rrs), .arr false true (encBB r.origin), .arr false true (encR r.rrs), .arr false true (encE [])], .one (.d (.sc (.int .i64 k)))]
      (fun ra os => ra = [.one (.d (.sc (.int .i64 (k + cntZ z + cntZ r))))] ∧ outsAre [(1, encBB (markZ z k).origin), (2, encR (markZ z k).rrs), (3, encBB (markZ r (k + cntZ z)).origin), (4, encR (markZ r (k + cntZ z)).rrs), (5, encE [])] os) := by
  refine FnOK.ofK Tryz.func50 (by kernel_rfl) dg_laws_markHouse rs_laws_markHouse rfl rfl ?_
  delta c_laws_markHouse T.o X.i
  have o1 := hz.o.len
  have o2 := hz.o.mem
  have h1 := hz.r
  have o3 := hr.o.len
  have o4 := hr.o.mem
  have h2 := hr.r
  refine kSeq (kReg (kBox rfl rfl rfl rfl rfl (kMovC rfl (kDone (kSeq (kReg (kFadP rfl rfl (kLoadP rfl rfl rfl (kMovC rfl (kCallM (ok_laws_markZone _ _ (by first | assumption | omega | solve_by_elim [List.getElem_mem] | (simp only [szOut] at *; omega) | exact rfl | exact leb | exact rrOk_small (by assumption) | exact zoneOk_small (by assumption) | exact SmallBB.ok (by assumption) | exact (SmallBB.ok (by assumption)).len | exact (SmallBB.ok (by assumption)).mem | exact SmallBB.bent (by assumption)) (by first | assumption | omega | solve_by_elim [List.getElem_mem] | (simp only [szOut] at *; omega) | exact rfl | exact leb | exact rrOk_small (by assumption) | exact zoneOk_small (by assumption) | exact SmallBB.ok (by assumption) | exact (SmallBB.ok (by assumption)).len | exact (SmallBB.ok (by assumption)).mem | exact SmallBB.bent (by assumption)) (by first | assumption | omega | solve_by_elim [List.getElem_mem] | (simp only [szOut] at *; omega) | exact rfl | exact leb | exact rrOk_small (by assumption) | exact zoneOk_small (by assumption) | exact SmallBB.ok (by assumption) | exact (SmallBB.ok (by assumption)).len | exact (SmallBB.ok (by assumption)).mem | exact SmallBB.bent (by assumption))) ⟨⟨⟨⟨_, rfl, .inl rfl⟩, ⟨_, rfl, .inl rfl⟩, trivial⟩, leb⟩, rfl, trivial⟩ rfl rfl rfl (kMovC rfl (kDone (kSeq (kReg (kFadP rfl rfl (kLoadP rfl rfl rfl (kMem [(3, ⟨0, 0, .arr true _⟩), (4, ⟨0, 0, .arr true _⟩)] [(1, .c (.d _)), (10, .g [.arr 3 0, .arr 4 0]), (11, .c (.un)), (12, .c (.un))] [] ⟨rfl, rfl, trivial⟩ ⟨rfl, rfl, rfl, rfl, trivial⟩ rfl (kMovC rfl (kCallM (ok_laws_markZone _ _ (by first | assumption | omega | solve_by_elim [List.getElem_mem] | (simp only [szOut] at *; omega) | exact rfl | exact leb | exact rrOk_small (by assumption) | exact zoneOk_small (by assumption) | exact SmallBB.ok (by assumption) | exact (SmallBB.ok (by assumption)).len | exact (SmallBB.ok (by assumption)).mem | exact SmallBB.bent (by assumption)) (by first | assumption | omega | solve_by_elim [List.getElem_mem] | (simp only [szOut] at *; omega) | exact rfl | exact leb | exact rrOk_small (by assumption) | exact zoneOk_small (by assumption) | exact SmallBB.ok (by assumption) | exact (SmallBB.ok (by assumption)).len | exact (SmallBB.ok (by assumption)).mem | exact SmallBB.bent (by assumption)) (by first | assumption | omega | solve_by_elim [List.getElem_mem] | (simp only [szOut] at *; omega) | exact rfl | exact leb | exact rrOk_small (by assumption) | exact zoneOk_small (by assumption) | exact SmallBB.ok (by assumption) | exact (SmallBB.ok (by assumption)).len | exact (SmallBB.ok (by assumption)).mem | exact SmallBB.bent (by assumption))) ⟨⟨⟨⟨_, rfl, .inl rfl⟩, ⟨_, rfl, .inl rfl⟩, trivial⟩, leb⟩, rfl, trivial⟩ rfl rfl rfl (kMovC rfl (kDone (kSeq (kReg (kFadP rfl rfl (kLoadP rfl rfl rfl (kMovC rfl (kCallD (ok_laws_markLeaseS _) ⟨rfl, rfl, trivial⟩ rfl rfl rfl rfl rfl (kMovC rfl (kDone (kSeq (kReg (kMovC rfl (kMovC rfl (kDone (kRet (endRetA (ra := [.one (.d _)]) rfl ?_))))))))))))))))))))))))))))))))))))
  exact ⟨rfl, rfl, rfl, rfl, rfl, rfl, trivial⟩

def c_laws_heldByteS : C := (.seq (.reg false (.o 0 4 (.mov (.i 0)) .done)) (.seq (.seq (.reg false (.o 0 5 (.mov (.i 0)) .done)) (.block 0 (.loop (.seq (.seq (.reg false (.o 0 6 (.mov (.t 5)) (.o 1 7 (.mov (.t 0)) (.o 2 8 (.len (.t 7)) (.o 3 9 (.bin .lss (.t 6) (.t 8)) .done))))) (.cond (.t 9) .skip (.exit 0))) (.seq (.block 1 (.seq (.seq (.reg false (.o 0 12 (.mov (.t 0)) (.o 1 13 (.mov (.t 5)) (.o 2 14 (.iad 1 (.t 12) (.t 13)) (.o 3 15 (.load none (.t 14)) (.o 4 16 (.mov (.t 1)) (.o 5 17 (.conv .u8 (.t 16)) (.o 6 18 (.bin .neq (.t 15) (.t 17)) .done)))))))) (.cond (.t 18) (.seq (.reg false (.o 0 4 (.mov (.i (-1))) .done)) .ret) .skip)) (.reg false (.o 0 19 (.mov (.t 1)) (.o 1 20 (.bin .add (.t 19) (.i 1)) (.o 2 1 (.mov (.t 20)) .done)))))) (.reg false (.o 0 10 (.mov (.t 5)) (.o 1 11 (.bin .add (.t 10) (.i 1)) (.o 2 5 (.mov (.t 11)) .done))))))))) (.seq (.reg false (.o 0 21 (.mov (.t 1)) (.o 1 4 (.mov (.t 21)) .done))) .ret)))
theorem dg_laws_heldByteS : Tryz.f160.body.bind (digC Tryz.prog Tryz.f160.ntmps []) = some c_laws_heldByteS := by kernel_rfl
theorem rs_laws_heldByteS : resSlots Tryz.prog Tryz.f160 = some [.s 4] := by kernel_rfl
theorem ok_laws_heldByteS (n : Nat) (k : Int) (h0 : 0 ≤ k) (hk : k + n ≤ 9223372036854775807) :
    FnOK Tryz.prog 160 [.one (.d (encB (marks n k))), .one (.d (.sc (.int .i64 k)))] (fun ra _ => ra = [.one (.d (.sc (.int .i64 (k + n))))]) := by
  refine FnOK.ofK Tryz.func160 (by kernel_rfl) dg_laws_heldByteS rs_laws_heldByteS rfl rfl ?_
  delta c_laws_heldByteS T.o X.i
  have hm := marks_len n k
  refine kSeq (kReg (kMovC rfl (kDone (kSeq (kSeq (kReg (kMovC rfl (kDone (kBlock ?_)))))))))
  refine kLoop (α := { i : Nat // i ≤ n })
    (fun y => ⟨tabSl [(0, .dv (encB (marks n k))), (1, .i (k + y.1)), (5, .i y.1)], obTab 1 [], []⟩) (fun y => n - y.1) ⟨0, by simp⟩
    .normA ?_
  rintro ⟨i, hi⟩
  simp only
  refine kSeq (kSeq (kReg (kMovC rfl (kMovC rfl (kLenR rfl rfl (kBin rfl rfl rfl (kDone (kCondP rfl (fun g0 => kSkip (kSeq (kBlock (kSeq (kSeq (kReg (kMovC rfl (kMovC rfl (kIadR rfl rfl rfl (by omega) (kLoadD rfl rfl (kMovC rfl (kConv rfl (kBin rfl rfl rfl (kDone (kCondN rfl (fun g1 => kSeq (kReg (kMovC rfl (kDone (kRet (endRetA (ra := [.one (.d _)]) rfl ?_)))))) (fun g1 => kSkip (kReg (kMovC rfl (kAdd rfl rfl (by omega) (kMovC rfl (kDone (kBk (kReg (kMovC rfl (kAdd rfl rfl (by omega) (kMovC rfl (kDone ?_))))))))))))))))))))))))))) (fun g0 => kExit (kExC (kExI (kExB (kSeq (kReg (kMovC rfl (kMovC rfl (kDone (kRet (endRetA (ra := [.one (.d _)]) rfl ?_)))))))))))))))))))
  · rw [marks_get, beq_self_eq_true] at g1; cases g1
  · exact kInv ⟨⟨i + 1, by omega⟩, by simp only; omega, .normA⟩
  · rw [show i = n by omega]

def c_laws_heldByteSS : C := (.seq (.reg false (.o 0 4 (.mov (.i 0)) .done)) (.seq (.seq (.reg false (.o 0 5 (.mov (.i 0)) .done)) (.block 0 (.loop (.seq (.seq (.reg false (.o 0 6 (.mov (.t 5)) (.o 1 7 (.mov (.t 0)) (.o 2 8 (.len (.t 7)) (.o 3 9 (.bin .lss (.t 6) (.t 8)) .done))))) (.cond (.t 9) .skip (.exit 0))) (.seq (.block 1 (.seq (.reg false (.o 0 12 (.mov (.t 0)) (.o 1 13 (.mov (.t 5)) (.o 2 14 (.iad 1 (.t 12) (.t 13)) (.o 3 15 (.load none (.t 14)) (.o 4 16 (.mov (.t 1)) (.o 5 17 (.call 17 160 [(.t 15), (.t 16)]) (.o 6 1 (.mov (.t 17)) .done)))))))) (.seq (.reg false (.o 0 18 (.mov (.t 1)) (.o 1 19 (.bin .lss (.t 18) (.i 0)) .done))) (.cond (.t 19) (.seq (.reg false (.o 0 4 (.mov (.i (-1))) .done)) .ret) .skip)))) (.reg false (.o 0 10 (.mov (.t 5)) (.o 1 11 (.bin .add (.t 10) (.i 1)) (.o 2 5 (.mov (.t 11)) .done))))))))) (.seq (.reg false (.o 0 20 (.mov (.t 1)) (.o 1 4 (.mov (.t 20)) .done))) .ret)))
theorem dg_laws_heldByteSS : Tryz.f114.body.bind (digC Tryz.prog Tryz.f114.ntmps []) = some c_laws_heldByteSS := by kernel_rfl
theorem rs_laws_heldByteSS : resSlots Tryz.prog Tryz.f114 = some [.s 4] := by kernel_rfl
theorem ok_laws_heldByteSS (a : List (List UInt8)) (k : Int) (h0 : 0 ≤ k) (hk : k + a.flatten.length ≤ 9223372036854775807) (hl : a.length ≤ 4194304) :
    FnOK Tryz.prog 114 [.one (.d (encBB (markss a k))), .one (.d (.sc (.int .i64 k)))] (fun ra _ => ra = [.one (.d (.sc (.int .i64 (k + a.flatten.length))))]) := by
  refine FnOK.ofK Tryz.func114 (by kernel_rfl) dg_laws_heldByteSS rs_laws_heldByteSS rfl rfl ?_
  delta c_laws_heldByteSS T.o X.i
  have hm := markss_len a k
  refine kSeq (kReg (kMovC rfl (kDone (kSeq (kSeq (kReg (kMovC rfl (kDone (kBlock ?_)))))))))
  refine kLoop (α := { i : Nat // i ≤ a.length })
    (fun y => ⟨tabSl [(0, .dv (encBB (markss a k))), (1, .i (k + (a.take y.1).flatten.length)), (5, .i y.1)], obTab 1 [], []⟩) (fun y => a.length - y.1) ⟨0, by simp⟩
    .normA ?_
  rintro ⟨i, hi⟩
  simp only
  have hsuc : ∀ h : i < a.length, (a.take (i + 1)).flatten.length = (a.take i).flatten.length + a[i].length := take_flat a i
  have hle := flat_le a i
  have hle2 := flat_le a (i + 1)
  refine kSeq (kSeq (kReg (kMovC rfl (kMovC rfl (kLenR rfl rfl (kBin rfl rfl rfl (kDone (kCondP rfl (fun g0 => kSkip (kSeq (kBlock (kSeq (kReg (kMovC rfl (kMovC rfl (kIadR rfl rfl rfl (by omega) (kLoadD rfl rfl (kMovC rfl ?_)))))))))) (fun g0 => kExit (kExC (kExI (kExB (kSeq (kReg (kMovC rfl (kMovC rfl (kDone (kRet (endRetA (ra := [.one (.d _)]) rfl ?_)))))))))))))))))))
  · have hlt : i < a.length := by omega
    have := hsuc hlt
    rw [markss_get a k i (by omega) hlt]
    refine kCall1 true (ok_laws_heldByteS a[i].length (k + (a.take i).flatten.length) (by omega) (by omega)) ⟨rfl, rfl, trivial⟩ rfl rfl rfl (fun _ => ?_)
    refine kMovC rfl (kDone (kSeq (kReg (kMovC rfl (kBin rfl rfl rfl (kDone (kCondP rfl (fun g0 => kSeq (kReg (kMovC rfl (kDone (kRet (endRetA (ra := [.one (.d _)]) rfl ?_)))))) (fun g0 => kSkip (kBk (kReg (kMovC rfl (kAdd rfl rfl (by omega) (kMovC rfl (kDone ?_))))))))))))))
    · omega
    · exact kInv ⟨⟨i + 1, by omega⟩, by simp only; omega, .normA⟩
  · rw [show i = a.length by omega, List.take_length]

def c_laws_heldName : C := (.seq (.reg false (.o 0 2 (.box 2 (.t 0)) (.o 1 4 (.mov (.i 0)) .done))) (.seq (.reg false (.o 0 5 (.fad (.t 2) 0) (.o 1 6 (.load none (.t 5)) (.o 2 7 (.mov (.t 1)) (.o 3 8 (.call 8 114 [(.t 6), (.t 7)]) (.o 4 1 (.mov (.t 8)) .done)))))) (.seq (.seq (.reg false (.o 0 9 (.mov (.t 1)) (.o 1 10 (.bin .lss (.t 9) (.i 0)) .done))) (.cond (.t 10) (.seq (.reg false (.o 0 4 (.mov (.i (-1))) .done)) .ret) .skip)) (.seq (.reg false (.o 0 11 (.mov (.t 1)) (.o 1 4 (.mov (.t 11)) .done))) .ret))))
theorem dg_laws_heldName : Tryz.f132.body.bind (digC Tryz.prog Tryz.f132.ntmps []) = some c_laws_heldName := by kernel_rfl
theorem rs_laws_heldName : resSlots Tryz.prog Tryz.f132 = some [.s 4] := by kernel_rfl
theorem ok_laws_heldName (a : List (List UInt8)) (k : Int) (h0 : 0 ≤ k) (hk : k + a.flatten.length ≤ 9223372036854775807) (hl : a.length ≤ 4194304) :
    FnOK Tryz.prog 132 [.agg [.d (encBB (markss a k))], .one (.d (.sc (.int .i64 k)))] (fun ra _ => ra = [.one (.d (.sc (.int .i64 (k + a.flatten.length))))]) := by
  refine FnOK.ofK Tryz.func132 (by kernel_rfl) dg_laws_heldName rs_laws_heldName rfl rfl ?_
  delta c_laws_heldName T.o X.i
  refine kSeq (kReg (kBox rfl rfl rfl rfl rfl (kMovC rfl (kDone (kSeq (kReg (kFadP rfl rfl (kLoadP rfl rfl rfl (kMovC rfl (kCall1 true (ok_laws_heldByteSS _ _ (by first | assumption | omega | solve_by_elim [List.getElem_mem]) (by first | assumption | omega | solve_by_elim [List.getElem_mem]) (by first | assumption | omega | solve_by_elim [List.getElem_mem])) ⟨rfl, rfl, trivial⟩ rfl rfl rfl (fun _ => (kMovC rfl (kDone (kSeq (kSeq (kReg (kMovC rfl (kBin rfl rfl rfl (kDone (kCondP rfl (fun g0 => (by omega)) (fun g0 => kSkip (kSeq (kReg (kMovC rfl (kMovC rfl (kDone (kRet (endRetA (ra := [.one (.d _)]) rfl rfl))))))))))))))))))))))))))))

def c_laws_heldIntS : C := (.seq (.reg false (.o 0 4 (.mov (.i 0)) .done)) (.seq (.seq (.reg false (.o 0 5 (.mov (.i 0)) .done)) (.block 0 (.loop (.seq (.seq (.reg false (.o 0 6 (.mov (.t 5)) (.o 1 7 (.mov (.t 0)) (.o 2 8 (.len (.t 7)) (.o 3 9 (.bin .lss (.t 6) (.t 8)) .done))))) (.cond (.t 9) .skip (.exit 0))) (.seq (.block 1 (.seq (.seq (.reg false (.o 0 12 (.mov (.t 0)) (.o 1 13 (.mov (.t 5)) (.o 2 14 (.iad 1 (.t 12) (.t 13)) (.o 3 15 (.load none (.t 14)) (.o 4 16 (.mov (.t 1)) (.o 5 17 (.bin .neq (.t 15) (.t 16)) .done))))))) (.cond (.t 17) (.seq (.reg false (.o 0 4 (.mov (.i (-1))) .done)) .ret) .skip)) (.reg false (.o 0 18 (.mov (.t 1)) (.o 1 19 (.bin .add (.t 18) (.i 1)) (.o 2 1 (.mov (.t 19)) .done)))))) (.reg false (.o 0 10 (.mov (.t 5)) (.o 1 11 (.bin .add (.t 10) (.i 1)) (.o 2 5 (.mov (.t 11)) .done))))))))) (.seq (.reg false (.o 0 20 (.mov (.t 1)) (.o 1 4 (.mov (.t 20)) .done))) .ret)))
theorem dg_laws_heldIntS : Tryz.f133.body.bind (digC Tryz.prog Tryz.f133.ntmps []) = some c_laws_heldIntS := by kernel_rfl
theorem rs_laws_heldIntS : resSlots Tryz.prog Tryz.f133 = some [.s 4] := by kernel_rfl
theorem ok_laws_heldIntS (n : Nat) (k : Int) (h0 : 0 ≤ k) (hk : k + n ≤ 9223372036854775807) :
    FnOK Tryz.prog 133 [.one (.d (encI (marksI n k))), .one (.d (.sc (.int .i64 k)))] (fun ra _ => ra = [.one (.d (.sc (.int .i64 (k + n))))]) := by
  refine FnOK.ofK Tryz.func133 (by kernel_rfl) dg_laws_heldIntS rs_laws_heldIntS rfl rfl ?_
  delta c_laws_heldIntS T.o X.i
  have hm := marksI_len n k
  refine kSeq (kReg (kMovC rfl (kDone (kSeq (kSeq (kReg (kMovC rfl (kDone (kBlock ?_)))))))))
  refine kLoop (α := { i : Nat // i ≤ n })
    (fun y => ⟨tabSl [(0, .dv (encI (marksI n k))), (1, .i (k + y.1)), (5, .i y.1)], obTab 1 [], []⟩) (fun y => n - y.1) ⟨0, by simp⟩
    .normA ?_
  rintro ⟨i, hi⟩
  simp only
  rcases Nat.lt_or_ge i n with hlt | hge
  · have hg := marksI_get n k i (by omega)
    refine kSeq (kSeq (kReg (kMovC rfl (kMovC rfl (kLenR rfl rfl (kBin rfl rfl rfl (kDone (kCondP rfl (fun g0 => kSkip (kSeq (kBlock (kSeq (kSeq (kReg (kMovC rfl (kMovC rfl (kIadR rfl rfl rfl (by omega) (kLoadD rfl rfl (kMovC rfl (kBin rfl rfl rfl (kDone (kCondIN rfl (fun g1 => (by omega)) (fun g1 => kSkip (kReg (kMovC rfl (kAdd rfl rfl (by omega) (kMovC rfl (kDone (kBk (kReg (kMovC rfl (kAdd rfl rfl (by omega) (kMovC rfl (kDone ?_)))))))))))))))))))))))))) (fun g0 => (by omega))))))))))
    exact kInv ⟨⟨i + 1, by omega⟩, by simp only; omega, .normA⟩
  · refine kSeq (kSeq (kReg (kMovC rfl (kMovC rfl (kLenR rfl rfl (kBin rfl rfl rfl (kDone (kCondP rfl (fun g0 => (by omega)) (fun g0 => kExit (kExC (kExI (kExB (kSeq (kReg (kMovC rfl (kMovC rfl (kDone (kRet (endRetA (ra := [.one (.d _)]) rfl ?_)))))))))))))))))))
    rw [show i = n by omega]

def c_laws_heldRrS : C := (.seq (.reg false (.o 0 4 (.mov (.i 0)) .done)) (.seq (.seq (.reg false (.o 0 5 (.mov (.i 0)) .done)) (.block 0 (.loop (.seq (.seq (.reg false (.o 0 6 (.mov (.t 5)) (.o 1 7 (.mov (.t 0)) (.o 2 8 (.len (.t 7)) (.o 3 9 (.bin .lss (.t 6) (.t 8)) .done))))) (.cond (.t 9) .skip (.exit 0))) (.seq (.block 1 (.seq (.reg false (.o 0 12 (.mov (.t 0)) (.o 1 13 (.mov (.t 5)) (.o 2 14 (.iad 7 (.t 12) (.t 13)) (.o 3 15 (.fad (.t 14) 0) (.o 4 16 (.fad (.t 15) 0) (.o 5 17 (.load none (.t 16)) (.o 6 18 (.mov (.t 1)) (.o 7 19 (.call 19 114 [(.t 17), (.t 18)]) (.o 8 1 (.mov (.t 19)) .done)))))))))) (.seq (.seq (.reg false (.o 0 20 (.mov (.t 1)) (.o 1 21 (.bin .lss (.t 20) (.i 0)) .done))) (.cond (.t 21) (.seq (.reg false (.o 0 4 (.mov (.i (-1))) .done)) .ret) .skip)) (.seq (.seq (.reg false (.o 0 22 (.mov (.t 0)) (.o 1 23 (.mov (.t 5)) (.o 2 24 (.iad 7 (.t 22) (.t 23)) (.o 3 25 (.fad (.t 24) 1) (.o 4 26 (.load none (.t 25)) (.o 5 27 (.mov (.t 1)) (.o 6 28 (.bin .neq (.t 26) (.t 27)) .done)))))))) (.cond (.t 28) (.seq (.reg false (.o 0 4 (.mov (.i (-1))) .done)) .ret) .skip)) (.seq (.reg false (.o 0 29 (.mov (.t 1)) (.o 1 30 (.bin .add (.t 29) (.i 1)) (.o 2 1 (.mov (.t 30)) .done)))) (.seq (.seq (.reg false (.o 0 31 (.mov (.t 0)) (.o 1 32 (.mov (.t 5)) (.o 2 33 (.iad 7 (.t 31) (.t 32)) (.o 3 34 (.fad (.t 33) 2) (.o 4 35 (.load none (.t 34)) (.o 5 36 (.mov (.t 1)) (.o 6 37 (.bin .neq (.t 35) (.t 36)) .done)))))))) (.cond (.t 37) (.seq (.reg false (.o 0 4 (.mov (.i (-1))) .done)) .ret) .skip)) (.seq (.reg false (.o 0 38 (.mov (.t 1)) (.o 1 39 (.bin .add (.t 38) (.i 1)) (.o 2 1 (.mov (.t 39)) .done)))) (.seq (.seq (.reg false (.o 0 40 (.mov (.t 0)) (.o 1 41 (.mov (.t 5)) (.o 2 42 (.iad 7 (.t 40) (.t 41)) (.o 3 43 (.fad (.t 42) 3) (.o 4 44 (.load none (.t 43)) (.o 5 45 (.mov (.t 1)) (.o 6 46 (.bin .neq (.t 44) (.t 45)) .done)))))))) (.cond (.t 46) (.seq (.reg false (.o 0 4 (.mov (.i (-1))) .done)) .ret) .skip)) (.seq (.reg false (.o 0 47 (.mov (.t 1)) (.o 1 48 (.bin .add (.t 47) (.i 1)) (.o 2 1 (.mov (.t 48)) .done)))) (.seq (.reg false (.o 0 49 (.mov (.t 0)) (.o 1 50 (.mov (.t 5)) (.o 2 51 (.iad 7 (.t 49) (.t 50)) (.o 3 52 (.fad (.t 51) 4) (.o 4 53 (.fad (.t 52) 0) (.o 5 54 (.load none (.t 53)) (.o 6 55 (.mov (.t 1)) (.o 7 56 (.call 56 114 [(.t 54), (.t 55)]) (.o 8 1 (.mov (.t 56)) .done)))))))))) (.seq (.seq (.reg false (.o 0 57 (.mov (.t 1)) (.o 1 58 (.bin .lss (.t 57) (.i 0)) .done))) (.cond (.t 58) (.seq (.reg false (.o 0 4 (.mov (.i (-1))) .done)) .ret) .skip)) (.seq (.reg false (.o 0 59 (.mov (.t 0)) (.o 1 60 (.mov (.t 5)) (.o 2 61 (.iad 7 (.t 59) (.t 60)) (.o 3 62 (.fad (.t 61) 5) (.o 4 63 (.load none (.t 62)) (.o 5 64 (.mov (.t 1)) (.o 6 65 (.call 65 160 [(.t 63), (.t 64)]) (.o 7 1 (.mov (.t 65)) .done))))))))) (.seq (.seq (.reg false (.o 0 66 (.mov (.t 1)) (.o 1 67 (.bin .lss (.t 66) (.i 0)) .done))) (.cond (.t 67) (.seq (.reg false (.o 0 4 (.mov (.i (-1))) .done)) .ret) .skip)) (.seq (.reg false (.o 0 68 (.mov (.t 0)) (.o 1 69 (.mov (.t 5)) (.o 2 70 (.iad 7 (.t 68) (.t 69)) (.o 3 71 (.fad (.t 70) 6) (.o 4 72 (.load none (.t 71)) (.o 5 73 (.mov (.t 1)) (.o 6 74 (.call 74 133 [(.t 72), (.t 73)]) (.o 7 1 (.mov (.t 74)) .done))))))))) (.seq (.reg false (.o 0 75 (.mov (.t 1)) (.o 1 76 (.bin .lss (.t 75) (.i 0)) .done))) (.cond (.t 76) (.seq (.reg false (.o 0 4 (.mov (.i (-1))) .done)) .ret) .skip)))))))))))))))) (.reg false (.o 0 10 (.mov (.t 5)) (.o 1 11 (.bin .add (.t 10) (.i 1)) (.o 2 5 (.mov (.t 11)) .done))))))))) (.seq (.reg false (.o 0 77 (.mov (.t 1)) (.o 1 4 (.mov (.t 77)) .done))) .ret)))
theorem dg_laws_heldRrS : Tryz.f63.body.bind (digC Tryz.prog Tryz.f63.ntmps []) = some c_laws_heldRrS := by kernel_rfl
theorem rs_laws_heldRrS : resSlots Tryz.prog Tryz.f63 = some [.s 4] := by kernel_rfl
theorem ok_laws_heldRrS (l : List Rr) (k : Int) (h0 : 0 ≤ k) (hk : k + cntRs l ≤ 9223372036854775807) (hs : SmallRs l) :
    FnOK Tryz.prog 63 [.one (.d (encR (markRs l k))), .one (.d (.sc (.int .i64 k)))] (fun ra _ => ra = [.one (.d (.sc (.int .i64 (k + cntRs l))))]) := by
  refine FnOK.ofK Tryz.func63 (by kernel_rfl) dg_laws_heldRrS rs_laws_heldRrS rfl rfl ?_
  delta c_laws_heldRrS T.o X.i
  have hm := markRs_len l k
  have h1 := hs.len
  refine kSeq (kReg (kMovC rfl (kDone (kSeq (kSeq (kReg (kMovC rfl (kDone (kBlock ?_)))))))))
  refine kLoop (α := { i : Nat // i ≤ l.length }) (fun y => ⟨tabSl [(0, .dv (encR (markRs l k))), (1, .i (k + cntRs (l.take y.1))), (5, .i y.1)], obTab 1 [], []⟩) (fun y => l.length - y.1) ⟨0, by simp⟩ .normA ?_
  rintro ⟨i, hi⟩
  simp only
  have hle := cntRs_le l i
  have hle2 := cntRs_le l (i + 1)
  rcases Nat.lt_or_ge i l.length with hlt | hge
  · have hbi := hs.mem _ (List.getElem_mem hlt)
    have n1 := hbi.n.len
    have t1 := hbi.t.len
    have hsuc := cntRs_take l i hlt
    have hrow := markRs_get l k i (by omega) hlt
    have hc : cntR l[i] = cntBB l[i].name + 3 + cntBB l[i].to + l[i].text.length + l[i].nums.length := rfl
    have hcb : cntBB l[i].name = l[i].name.flatten.length := rfl
    have hct : cntBB l[i].to = l[i].to.flatten.length := rfl
    have e1 : (markR l[i] (k + ↑(cntRs (List.take i l)))).ty = k + (cntRs (l.take i) : Int) + (l[i].name.flatten.length : Int) := rfl
    have e2 : (markR l[i] (k + ↑(cntRs (List.take i l)))).ttl = k + (cntRs (l.take i) : Int) + (l[i].name.flatten.length : Int) + 1 := rfl
    have e3 : (markR l[i] (k + ↑(cntRs (List.take i l)))).addr = k + (cntRs (l.take i) : Int) + (l[i].name.flatten.length : Int) + 1 + 1 := rfl
    refine kSeq (kSeq (kReg (kMovC rfl (kMovC rfl (kLenR rfl rfl (kBin rfl rfl rfl (kDone (kCondP rfl (fun g0 => kSkip (kSeq (kBlock (kSeq (kReg (kMovC rfl (kMovC rfl (kIadRW rfl rfl rfl (by omega) hrow (kFadD rfl (kFadD rfl (kLoadD rfl rfl (kMovC rfl (kCallD (ok_laws_heldByteSS _ _ pr pr pr) ⟨rfl, rfl, trivial⟩ rfl rfl rfl rfl rfl (kMovC rfl (kDone (kSeq (kSeq (kReg (kMovC rfl (kBin rfl rfl rfl (kDone (kCondP rfl (fun g1 => (by omega)) (fun g1 => kSkip (kSeq (kSeq (kReg (kMovC rfl (kMovC rfl (kIadRW rfl rfl rfl (by omega) hrow (kFadD rfl (kLoadD rfl rfl (kMovC rfl (kBin rfl rfl rfl (kDone (kCondIN rfl (fun g2 => (by omega)) (fun g2 => kSkip (kSeq (kReg (kMovC rfl (kAdd rfl rfl (by omega) (kMovC rfl (kDone (kSeq (kSeq (kReg (kMovC rfl (kMovC rfl (kIadRW rfl rfl rfl (by omega) hrow (kFadD rfl (kLoadD rfl rfl (kMovC rfl (kBin rfl rfl rfl (kDone (kCondIN rfl (fun g3 => (by omega)) (fun g3 => kSkip (kSeq (kReg (kMovC rfl (kAdd rfl rfl (by omega) (kMovC rfl (kDone (kSeq (kSeq (kReg (kMovC rfl (kMovC rfl (kIadRW rfl rfl rfl (by omega) hrow (kFadD rfl (kLoadD rfl rfl (kMovC rfl (kBin rfl rfl rfl (kDone (kCondIN rfl (fun g4 => (by omega)) (fun g4 => kSkip (kSeq (kReg (kMovC rfl (kAdd rfl rfl (by omega) (kMovC rfl (kDone (kSeq (kReg (kMovC rfl (kMovC rfl (kIadRW rfl rfl rfl (by omega) hrow (kFadD rfl (kFadD rfl (kLoadD rfl rfl (kMovC rfl (kCallD (ok_laws_heldByteSS _ _ pr pr pr) ⟨rfl, rfl, trivial⟩ rfl rfl rfl rfl rfl (kMovC rfl (kDone (kSeq (kSeq (kReg (kMovC rfl (kBin rfl rfl rfl (kDone (kCondP rfl (fun g5 => (by omega)) (fun g5 => kSkip (kSeq (kReg (kMovC rfl (kMovC rfl (kIadRW rfl rfl rfl (by omega) hrow (kFadD rfl (kLoadD rfl rfl (kMovC rfl (kCallD (ok_laws_heldByteS _ _ pr pr) ⟨rfl, rfl, trivial⟩ rfl rfl rfl rfl rfl (kMovC rfl (kDone (kSeq (kSeq (kReg (kMovC rfl (kBin rfl rfl rfl (kDone (kCondP rfl (fun g6 => (by omega)) (fun g6 => kSkip (kSeq (kReg (kMovC rfl (kMovC rfl (kIadRW rfl rfl rfl (by omega) hrow (kFadD rfl (kLoadD rfl rfl (kMovC rfl (kCallD (ok_laws_heldIntS _ _ pr pr) ⟨rfl, rfl, trivial⟩ rfl rfl rfl rfl rfl (kMovC rfl (kDone (kSeq (kReg (kMovC rfl (kBin rfl rfl rfl (kDone (kCondP rfl (fun g7 => (by omega)) (fun g7 => kSkip (kBk (kReg (kMovC rfl (kAdd rfl rfl (by omega) (kMovC rfl (kDone ?_))))))))))))))))))))))))))))))))))))))))))))))))))))))))))))))))))))))))))))))))))))))))))))))))))))))))))))))))))))))))))))))))))))))))))))))) (fun g0 => (by omega))))))))))
    exact kInv ⟨⟨i + 1, by omega⟩, by simp only; omega, .normA⟩
  · refine kSeq (kSeq (kReg (kMovC rfl (kMovC rfl (kLenR rfl rfl (kBin rfl rfl rfl (kDone (kCondP rfl (fun g0 => (by omega)) (fun g0 => kExit (kExC (kExI (kExB (kSeq (kReg (kMovC rfl (kMovC rfl (kDone (kRet (endRetA (ra := [.one (.d _)]) rfl ?_)))))))))))))))))))
    rw [show i = l.length by omega, List.take_length]

theorem ok_laws_heldRrS_nil (k : Int) (h0 : 0 ≤ k) (hk : k ≤ 9223372036854775807) :
    FnOK Tryz.prog 63 [.one (.d (encR [])), .one (.d (.sc (.int .i64 k)))] (fun ra _ => ra = [.one (.d (.sc (.int .i64 k)))]) := by
  have := ok_laws_heldRrS [] k h0 (by simpa using hk) ⟨Nat.zero_le _, nofun⟩
  rw [show k + ((cntRs [] : Nat) : Int) = k by simp] at this
  exact this

def c_laws_heldZone : C := (.seq (.reg false (.o 0 2 (.box 2 (.t 0)) (.o 1 4 (.mov (.i 0)) .done))) (.seq (.reg false (.o 0 5 (.fad (.t 2) 0) (.o 1 6 (.load (some 1) (.t 5)) (.o 2 7 (.mov (.t 1)) (.o 3 8 (.call 8 132 [(.t 6), (.t 7)]) (.o 4 1 (.mov (.t 8)) .done)))))) (.seq (.seq (.reg false (.o 0 9 (.mov (.t 1)) (.o 1 10 (.bin .lss (.t 9) (.i 0)) .done))) (.cond (.t 10) (.seq (.reg false (.o 0 4 (.mov (.i (-1))) .done)) .ret) .skip)) (.seq (.reg false (.o 0 11 (.fad (.t 2) 1) (.o 1 12 (.load none (.t 11)) (.o 2 13 (.mov (.t 1)) (.o 3 14 (.call 14 63 [(.t 12), (.t 13)]) (.o 4 1 (.mov (.t 14)) .done)))))) (.seq (.seq (.reg false (.o 0 15 (.mov (.t 1)) (.o 1 16 (.bin .lss (.t 15) (.i 0)) .done))) (.cond (.t 16) (.seq (.reg false (.o 0 4 (.mov (.i (-1))) .done)) .ret) .skip)) (.seq (.reg false (.o 0 17 (.mov (.t 1)) (.o 1 4 (.mov (.t 17)) .done))) .ret))))))
theorem dg_laws_heldZone : Tryz.f143.body.bind (digC Tryz.prog Tryz.f143.ntmps []) = some c_laws_heldZone := by kernel_rfl
theorem rs_laws_heldZone : resSlots Tryz.prog Tryz.f143 = some [.s 4] := by kernel_rfl
theorem ok_laws_heldZone (z : Zone) (k : Int) (h0 : 0 ≤ k) (hk : k + cntZ z ≤ 9223372036854775807) (hs : SmallZ z) :
    FnOK Tryz.prog 143 [.agg ((markZ z k).cells.map .d), .one (.d (.sc (.int .i64 k)))] (fun ra _ => ra = [.one (.d (.sc (.int .i64 (k + cntZ z))))]) := by
  refine FnOK.ofK Tryz.func143 (by kernel_rfl) dg_laws_heldZone rs_laws_heldZone rfl rfl ?_
  delta c_laws_heldZone T.o X.i
  have o1 := hs.o.len
  have o2 := hs.o.mem
  have h1 := hs.r
  have hc : k + (cntZ z : Int) = k + (z.origin.flatten.length : Int) + (cntRs z.rrs : Int) := by unfold cntZ cntBB; omega
  refine kSeq (kReg (kBox rfl rfl rfl rfl rfl (kMovC rfl (kDone (kSeq (kReg (kFadP rfl rfl (kLoadP rfl rfl rfl (kMovC rfl (kCallD (ok_laws_heldName _ _ pr pr pr) ⟨⟨⟨rfl, trivial⟩, leb⟩, rfl, trivial⟩ rfl rfl rfl rfl rfl (kMovC rfl (kDone (kSeq (kSeq (kReg (kMovC rfl (kBin rfl rfl rfl (kDone (kCondP rfl (fun g0 => (by omega)) (fun g0 => kSkip (kSeq (kReg (kFadP rfl rfl (kLoadP rfl rfl rfl (kMovC rfl (kCallD (ok_laws_heldRrS _ _ pr pr pr) ⟨rfl, rfl, trivial⟩ rfl rfl rfl rfl rfl (kMovC rfl (kDone (kSeq (kSeq (kReg (kMovC rfl (kBin rfl rfl rfl (kDone (kCondP rfl (fun g1 => (by omega)) (fun g1 => kSkip (kSeq (kReg (kMovC rfl (kMovC rfl (kDone (kRet (endRetA (ra := [.one (.d _)]) rfl ?_)))))))))))))))))))))))))))))))))))))))))))
  rw [hc]

def c_laws_heldLeaseS : C := (.seq (.reg false (.o 0 4 (.mov (.i 0)) .done)) (.seq (.seq (.reg false (.o 0 5 (.mov (.i 0)) .done)) (.block 0 (.loop (.seq (.seq (.reg false (.o 0 6 (.mov (.t 5)) (.o 1 7 (.mov (.t 0)) (.o 2 8 (.len (.t 7)) (.o 3 9 (.bin .lss (.t 6) (.t 8)) .done))))) (.cond (.t 9) .skip (.exit 0))) (.seq (.block 1 (.seq (.seq (.reg false (.o 0 12 (.mov (.t 0)) (.o 1 13 (.mov (.t 5)) (.o 2 14 (.iad 5 (.t 12) (.t 13)) (.o 3 15 (.fad (.t 14) 0) (.o 4 16 (.load none (.t 15)) (.o 5 17 (.mov (.t 1)) (.o 6 18 (.bin .neq (.t 16) (.t 17)) .done)))))))) (.cond (.t 18) (.seq (.reg false (.o 0 4 (.mov (.i (-1))) .done)) .ret) .skip)) (.seq (.reg false (.o 0 19 (.mov (.t 1)) (.o 1 20 (.bin .add (.t 19) (.i 1)) (.o 2 1 (.mov (.t 20)) .done)))) (.seq (.reg false (.o 0 21 (.mov (.t 0)) (.o 1 22 (.mov (.t 5)) (.o 2 23 (.iad 5 (.t 21) (.t 22)) (.o 3 24 (.fad (.t 23) 1) (.o 4 25 (.load none (.t 24)) (.o 5 26 (.mov (.t 1)) (.o 6 27 (.call 27 160 [(.t 25), (.t 26)]) (.o 7 1 (.mov (.t 27)) .done))))))))) (.seq (.seq (.reg false (.o 0 28 (.mov (.t 1)) (.o 1 29 (.bin .lss (.t 28) (.i 0)) .done))) (.cond (.t 29) (.seq (.reg false (.o 0 4 (.mov (.i (-1))) .done)) .ret) .skip)) (.seq (.reg false (.o 0 30 (.mov (.t 0)) (.o 1 31 (.mov (.t 5)) (.o 2 32 (.iad 5 (.t 30) (.t 31)) (.o 3 33 (.fad (.t 32) 2) (.o 4 34 (.load none (.t 33)) (.o 5 35 (.mov (.t 1)) (.o 6 36 (.call 36 160 [(.t 34), (.t 35)]) (.o 7 1 (.mov (.t 36)) .done))))))))) (.seq (.seq (.reg false (.o 0 37 (.mov (.t 1)) (.o 1 38 (.bin .lss (.t 37) (.i 0)) .done))) (.cond (.t 38) (.seq (.reg false (.o 0 4 (.mov (.i (-1))) .done)) .ret) .skip)) (.seq (.seq (.reg false (.o 0 39 (.mov (.t 0)) (.o 1 40 (.mov (.t 5)) (.o 2 41 (.iad 5 (.t 39) (.t 40)) (.o 3 42 (.fad (.t 41) 3) (.o 4 43 (.load none (.t 42)) (.o 5 44 (.mov (.t 1)) (.o 6 45 (.bin .neq (.t 43) (.t 44)) .done)))))))) (.cond (.t 45) (.seq (.reg false (.o 0 4 (.mov (.i (-1))) .done)) .ret) .skip)) (.seq (.reg false (.o 0 46 (.mov (.t 1)) (.o 1 47 (.bin .add (.t 46) (.i 1)) (.o 2 1 (.mov (.t 47)) .done)))) (.seq (.seq (.reg false (.o 0 48 (.mov (.t 0)) (.o 1 49 (.mov (.t 5)) (.o 2 50 (.iad 5 (.t 48) (.t 49)) (.o 3 51 (.fad (.t 50) 4) (.o 4 52 (.load none (.t 51)) (.o 5 53 (.mov (.t 1)) (.o 6 54 (.bin .rem (.t 53) (.i 3)) (.o 7 55 (.bin .eql (.t 54) (.i 0)) (.o 8 56 (.beq true (.t 52) (.t 55)) .done)))))))))) (.cond (.t 56) (.seq (.reg false (.o 0 4 (.mov (.i (-1))) .done)) .ret) .skip)) (.reg false (.o 0 57 (.mov (.t 1)) (.o 1 58 (.bin .add (.t 57) (.i 1)) (.o 2 1 (.mov (.t 58)) .done)))))))))))))) (.reg false (.o 0 10 (.mov (.t 5)) (.o 1 11 (.bin .add (.t 10) (.i 1)) (.o 2 5 (.mov (.t 11)) .done))))))))) (.seq (.reg false (.o 0 59 (.mov (.t 1)) (.o 1 4 (.mov (.t 59)) .done))) .ret)))
theorem dg_laws_heldLeaseS : Tryz.f144.body.bind (digC Tryz.prog Tryz.f144.ntmps []) = some c_laws_heldLeaseS := by kernel_rfl
theorem rs_laws_heldLeaseS : resSlots Tryz.prog Tryz.f144 = some [.s 4] := by kernel_rfl
theorem ok_laws_heldLeaseS (k : Int) :
    FnOK Tryz.prog 144 [.one (.d (encE [])), .one (.d (.sc (.int .i64 k)))] (fun ra _ => ra = [.one (.d (.sc (.int .i64 k)))]) := by
  refine FnOK.ofK Tryz.func144 (by kernel_rfl) dg_laws_heldLeaseS rs_laws_heldLeaseS rfl rfl ?_
  delta c_laws_heldLeaseS T.o X.i
  refine kSeq (kReg (kMovC rfl (kDone (kSeq (kSeq (kReg (kMovC rfl (kDone (kBlock ?_)))))))))
  refine kLoop (α := Unit) (fun _ => ⟨tabSl [(0, .dv (encE [])), (1, .i k), (5, .i 0)], obTab 1 [], []⟩) (fun _ => 0) () .normA ?_
  rintro ⟨⟩
  refine kSeq (kSeq (kReg (kMovC rfl (kMovC rfl (kLen0 rfl (kBin rfl rfl rfl (kDone (kCondF rfl (kExit (kExC (kExI (kExB (kSeq (kReg (kMovC rfl (kMovC rfl (kDone (kRet (endRetA (ra := [.one (.d _)]) rfl rfl)))))))))))))))))))

def c_laws_heldHouse : C := (.seq (.reg false (.o 0 2 (.box 2 (.t 0)) (.o 1 4 (.mov (.i 0)) .done))) (.seq (.reg false (.o 0 5 (.fad (.t 2) 1) (.o 1 6 (.load (some 2) (.t 5)) (.o 2 7 (.mov (.t 1)) (.o 3 8 (.call 8 143 [(.t 6), (.t 7)]) (.o 4 1 (.mov (.t 8)) .done)))))) (.seq (.seq (.reg false (.o 0 9 (.mov (.t 1)) (.o 1 10 (.bin .lss (.t 9) (.i 0)) .done))) (.cond (.t 10) (.seq (.reg false (.o 0 4 (.mov (.i (-1))) .done)) .ret) .skip)) (.seq (.reg false (.o 0 11 (.fad (.t 2) 3) (.o 1 12 (.load (some 2) (.t 11)) (.o 2 13 (.mov (.t 1)) (.o 3 14 (.call 14 143 [(.t 12), (.t 13)]) (.o 4 1 (.mov (.t 14)) .done)))))) (.seq (.seq (.reg false (.o 0 15 (.mov (.t 1)) (.o 1 16 (.bin .lss (.t 15) (.i 0)) .done))) (.cond (.t 16) (.seq (.reg false (.o 0 4 (.mov (.i (-1))) .done)) .ret) .skip)) (.seq (.reg false (.o 0 17 (.fad (.t 2) 5) (.o 1 18 (.load none (.t 17)) (.o 2 19 (.mov (.t 1)) (.o 3 20 (.call 20 144 [(.t 18), (.t 19)]) (.o 4 1 (.mov (.t 20)) .done)))))) (.seq (.seq (.reg false (.o 0 21 (.mov (.t 1)) (.o 1 22 (.bin .lss (.t 21) (.i 0)) .done))) (.cond (.t 22) (.seq (.reg false (.o 0 4 (.mov (.i (-1))) .done)) .ret) .skip)) (.seq (.reg false (.o 0 23 (.mov (.t 1)) (.o 1 4 (.mov (.t 23)) .done))) .ret))))))))
theorem dg_laws_heldHouse : Tryz.f51.body.bind (digC Tryz.prog Tryz.f51.ntmps []) = some c_laws_heldHouse := by kernel_rfl
theorem rs_laws_heldHouse : resSlots Tryz.prog Tryz.f51 = some [.s 4] := by kernel_rfl
theorem ok_laws_heldHouse (z r : Zone) (k : Int) (h0 : 0 ≤ k) (hk : k + cntZ z + cntZ r ≤ 9223372036854775807) (hz : SmallZ z) (hr : SmallZ r) :
    FnOK Tryz.prog 51 [.agg ((houseC (markZ z k) (markZ r (k + cntZ z))).map .d), .one (.d (.sc (.int .i64 k)))] (fun ra _ => ra = [.one (.d (.sc (.int .i64 (k + cntZ z + cntZ r))))]) := by
  refine FnOK.ofK Tryz.func51 (by kernel_rfl) dg_laws_heldHouse rs_laws_heldHouse rfl rfl ?_
  delta c_laws_heldHouse T.o X.i
  refine kSeq (kReg (kBox rfl rfl rfl rfl rfl (kMovC rfl (kDone (kSeq (kReg (kFadP rfl rfl (kLoadP rfl rfl rfl (kMovC rfl (kCallD (ok_laws_heldZone _ _ (by first | assumption | omega | solve_by_elim [List.getElem_mem] | (simp only [szOut] at *; omega) | exact rfl | exact leb | exact rrOk_small (by assumption) | exact zoneOk_small (by assumption) | exact SmallBB.ok (by assumption) | exact (SmallBB.ok (by assumption)).len | exact (SmallBB.ok (by assumption)).mem | exact SmallBB.bent (by assumption)) (by first | assumption | omega | solve_by_elim [List.getElem_mem] | (simp only [szOut] at *; omega) | exact rfl | exact leb | exact rrOk_small (by assumption) | exact zoneOk_small (by assumption) | exact SmallBB.ok (by assumption) | exact (SmallBB.ok (by assumption)).len | exact (SmallBB.ok (by assumption)).mem | exact SmallBB.bent (by assumption)) (by first | assumption | omega | solve_by_elim [List.getElem_mem] | (simp only [szOut] at *; omega) | exact rfl | exact leb | exact rrOk_small (by assumption) | exact zoneOk_small (by assumption) | exact SmallBB.ok (by assumption) | exact (SmallBB.ok (by assumption)).len | exact (SmallBB.ok (by assumption)).mem | exact SmallBB.bent (by assumption))) ⟨⟨⟨rfl, rfl, trivial⟩, leb⟩, rfl, trivial⟩ rfl rfl rfl rfl rfl (kMovC rfl (kDone (kSeq (kSeq (kReg (kMovC rfl (kBin rfl rfl rfl (kDone (kCondP rfl (fun g0 => (by omega)) (fun g0 => kSkip (kSeq (kReg (kFadP rfl rfl (kMem [(12288, ⟨1, 0, .box [.d _, .d _, .d _, .d _, .d _, .d _]⟩)] [(11, .c (.ptr 12288 1 3)), (1, .c (.d _)), (12, .c (.un)), (13, .c (.un)), (14, .c (.un))] [] ⟨rfl, trivial⟩ ⟨rfl, rfl, rfl, rfl, rfl, trivial⟩ rfl (kLoadP rfl rfl rfl (kMovC rfl (kCallD (ok_laws_heldZone _ _ (by first | assumption | omega | solve_by_elim [List.getElem_mem] | (simp only [szOut] at *; omega) | exact rfl | exact leb | exact rrOk_small (by assumption) | exact zoneOk_small (by assumption) | exact SmallBB.ok (by assumption) | exact (SmallBB.ok (by assumption)).len | exact (SmallBB.ok (by assumption)).mem | exact SmallBB.bent (by assumption)) (by first | assumption | omega | solve_by_elim [List.getElem_mem] | (simp only [szOut] at *; omega) | exact rfl | exact leb | exact rrOk_small (by assumption) | exact zoneOk_small (by assumption) | exact SmallBB.ok (by assumption) | exact (SmallBB.ok (by assumption)).len | exact (SmallBB.ok (by assumption)).mem | exact SmallBB.bent (by assumption)) (by first | assumption | omega | solve_by_elim [List.getElem_mem] | (simp only [szOut] at *; omega) | exact rfl | exact leb | exact rrOk_small (by assumption) | exact zoneOk_small (by assumption) | exact SmallBB.ok (by assumption) | exact (SmallBB.ok (by assumption)).len | exact (SmallBB.ok (by assumption)).mem | exact SmallBB.bent (by assumption))) ⟨⟨⟨rfl, rfl, trivial⟩, leb⟩, rfl, trivial⟩ rfl rfl rfl rfl rfl (kMovC rfl (kDone (kSeq (kSeq (kReg (kMovC rfl (kBin rfl rfl rfl (kDone (kCondP rfl (fun g1 => (by omega)) (fun g1 => kSkip (kSeq (kReg (kFadP rfl rfl (kLoadP rfl rfl rfl (kMovC rfl (kCallD (ok_laws_heldLeaseS _) ⟨rfl, rfl, trivial⟩ rfl rfl rfl rfl rfl (kMovC rfl (kDone (kSeq (kSeq (kReg (kMovC rfl (kBin rfl rfl rfl (kDone (kCondP rfl (fun g2 => (by omega)) (fun g2 => kSkip (kSeq (kReg (kMovC rfl (kMovC rfl (kDone (kRet (endRetA (ra := [.one (.d _)]) rfl rfl))))))))))))))))))))))))))))))))))))))))))))))))))))))))))))

def c_laws_FnExactHouseNew : C := (.seq (.reg false (.o 0 2 (.mov (.v (.bool false))) .done)) (.seq (.reg false (.o 0 12 (.mov (.t 0)) (.o 1 13 (.call 13 47 [(.t 12)]) (.o 2 11 (.mov (.t 13)) (.o 3 14 (.ext (.t 11) 0) (.o 4 15 (.ext (.t 11) 1) (.o 5 3 (.alloc 3 [(.i 0), (.n 1), (.n 7), (.n 1), (.n 7), (.n 5)]) (.op 6 [] none none false (.store (some 6) (.t 3) (.t 14)) (.o 7 4 (.mov (.t 15)) .done))))))))) (.seq (.reg false (.o 0 17 (.mov (.t 0)) (.o 1 18 (.call 18 48 [(.t 17)]) (.o 2 16 (.mov (.t 18)) (.o 3 19 (.ext (.t 16) 0) (.o 4 20 (.ext (.t 16) 1) (.o 5 5 (.alloc 5 [(.i 0), (.n 1), (.n 7), (.n 1), (.n 7), (.n 5)]) (.op 6 [] none none false (.store (some 6) (.t 5) (.t 19)) (.o 7 6 (.mov (.t 20)) .done))))))))) (.seq (.seq (.reg false (.o 0 21 (.load (some 6) (.t 5)) (.o 1 22 (.load (some 6) (.t 3)) (.o 2 23 (.call 23 49 [(.t 21), (.t 22)]) (.o 3 24 (.un .not (.t 23)) (.o 4 25 (.mov (.t 24)) (.op 5 [] (some 26) (some (25, false)) false (.mov (.t 6)) (.op 6 [] (some 27) (some (25, false)) false (.mov (.t 4)) (.op 7 [] (some 28) (some (25, false)) false (.beq true (.t 26) (.t 27)) (.o 8 29 (.pick (.t 25) (.v (.bool true)) (.t 28)) .done)))))))))) (.cond (.t 29) (.seq (.reg false (.o 0 2 (.mov (.v (.bool false))) .done)) .ret) .skip)) (.seq (.reg false (.o 0 7 (.mov (.i 1)) .done)) (.seq (.reg false (.o 0 30 (.load (some 6) (.t 5)) (.o 1 31 (.mov (.t 7)) (.o 2 32 (.call 32 50 [(.t 30), (.t 31)]) (.o 3 7 (.mov (.t 32)) .done))))) (.seq (.reg false (.o 0 8 (.mov (.i 1)) .done)) (.seq (.reg false (.o 0 33 (.load (some 6) (.t 5)) (.o 1 34 (.mov (.t 8)) (.o 2 35 (.call 35 51 [(.t 33), (.t 34)]) (.o 3 8 (.mov (.t 35)) .done))))) (.seq (.seq (.reg false (.o 0 36 (.mov (.t 8)) (.o 1 37 (.bin .lss (.t 36) (.i 0)) .done))) (.cond (.t 37) (.seq (.reg false (.o 0 2 (.mov (.v (.bool false))) .done)) .ret) .skip)) (.seq (.seq (.reg false (.o 0 38 (.mov (.t 8)) (.o 1 39 (.mov (.t 7)) (.o 2 40 (.bin .neq (.t 38) (.t 39)) .done)))) (.cond (.t 40) (.seq (.reg false (.o 0 2 (.mov (.v (.bool false))) .done)) .ret) .skip)) (.seq (.reg false (.o 0 42 (.mov (.t 0)) (.o 1 43 (.call 43 48 [(.t 42)]) (.o 2 41 (.mov (.t 43)) (.o 3 44 (.ext (.t 41) 0) (.o 4 45 (.ext (.t 41) 1) (.o 5 9 (.alloc 9 [(.i 0), (.n 1), (.n 7), (.n 1), (.n 7), (.n 5)]) (.op 6 [] none none false (.store (some 6) (.t 9) (.t 44)) (.o 7 10 (.mov (.t 45)) .done))))))))) (.seq (.seq (.reg false (.o 0 46 (.load (some 6) (.t 9)) (.o 1 47 (.load (some 6) (.t 3)) (.o 2 48 (.call 48 49 [(.t 46), (.t 47)]) (.o 3 49 (.un .not (.t 48)) (.o 4 50 (.mov (.t 49)) (.op 5 [] (some 51) (some (50, false)) false (.mov (.t 10)) (.op 6 [] (some 52) (some (50, false)) false (.mov (.t 4)) (.op 7 [] (some 53) (some (50, false)) false (.beq true (.t 51) (.t 52)) (.o 8 54 (.pick (.t 50) (.v (.bool true)) (.t 53)) .done)))))))))) (.cond (.t 54) (.seq (.reg false (.o 0 2 (.mov (.v (.bool false))) .done)) .ret) .skip)) (.seq (.reg false (.o 0 8 (.mov (.i 1)) .done)) (.seq (.reg false (.o 0 55 (.load (some 6) (.t 5)) (.o 1 56 (.mov (.t 8)) (.o 2 57 (.call 57 51 [(.t 55), (.t 56)]) (.o 3 8 (.mov (.t 57)) .done))))) (.seq (.seq (.reg false (.o 0 58 (.mov (.t 8)) (.o 1 59 (.bin .lss (.t 58) (.i 0)) .done))) (.cond (.t 59) (.seq (.reg false (.o 0 2 (.mov (.v (.bool false))) .done)) .ret) .skip)) (.seq (.seq (.reg false (.o 0 60 (.mov (.t 8)) (.o 1 61 (.mov (.t 7)) (.o 2 62 (.bin .neq (.t 60) (.t 61)) .done)))) (.cond (.t 62) (.seq (.reg false (.o 0 2 (.mov (.v (.bool false))) .done)) .ret) .skip)) (.seq (.reg false (.o 0 2 (.mov (.v (.bool true))) .done)) .ret)))))))))))))))))
theorem dg_laws_FnExactHouseNew : Tryz.f8.body.bind (digC Tryz.prog Tryz.f8.ntmps []) = some c_laws_FnExactHouseNew := by kernel_rfl
theorem rs_laws_FnExactHouseNew : resSlots Tryz.prog Tryz.f8 = some [.s 2] := by kernel_rfl
theorem ok_laws_FnExactHouseNew (s : Int) :
    FnOK Tryz.prog 8 [.one (.d (.sc (.int .i64 s)))] (fun ra _ => ra = [.one (.d (.sc (.bool true)))]) := by
  refine FnOK.ofK Tryz.func8 (by kernel_rfl) dg_laws_FnExactHouseNew rs_laws_FnExactHouseNew rfl rfl ?_
  delta c_laws_FnExactHouseNew T.o X.i
  have hn : ∀ o, SmallBB o → SmallZ (hZone o s) := by
    intro o ho
    unfold hZone
    split
    · exact .top s ho
    · exact .zero
  have z1 := hn homeN small_homeN
  have z2 := hn revN small_revN
  have kz : ∀ o, o.flatten.length ≤ 100 → cntZ (hZone o s) ≤ 1000000 := by
    intro o ho
    unfold hZone
    split
    · simp only [newZ, cntZ, cntBB, cntRs, cntR, topR, List.length_cons, List.length_nil]; omega
    · exact Nat.zero_le _
  have k1 := kz homeN (by decide)
  have k2 := kz revN (by decide)
  refine kSeq (kReg (kMovC rfl (kDone (kSeq (kReg (kMovC rfl (kCall1 true (ok_spec_HouseNew _) ⟨rfl, trivial⟩ rfl rfl rfl (fun _ => (kMovT rfl (kExtC rfl rfl (kExtC rfl rfl (kAlloc rfl rfl (kMem [(16384, ⟨1, 0, .box [.d _, .nil 1, .nil 7, .nil 1, .nil 7, .nil 5]⟩), (57345, ⟨1, 0, .arr true _⟩), (57346, ⟨1, 0, .arr true _⟩), (57347, ⟨1, 0, .arr true _⟩), (57348, ⟨1, 0, .arr true _⟩), (57349, ⟨1, 0, .arr true _⟩)] [(3, .c (.ptr 16384 1 0)), (14, .g [.d _, .arr 57345 1, .arr 57346 1, .arr 57347 1, .arr 57348 1, .arr 57349 1]), (15, .c (.d _))] [] ⟨rfl, rfl, rfl, rfl, rfl, rfl, trivial⟩ ⟨rfl, rfl, rfl, trivial⟩ rfl (kStoreP rfl rfl rfl rfl (kMovC rfl (kDone (kSeq (kReg (kMovC rfl (kCall1 true (ok_impl_HouseNew _) ⟨rfl, trivial⟩ rfl rfl rfl (fun _ => (kMovT rfl (kExtC rfl rfl (kExtC rfl rfl (kAlloc rfl rfl (kMem [(24576, ⟨1, 0, .box [.d _, .nil 1, .nil 7, .nil 1, .nil 7, .nil 5]⟩), (77825, ⟨1, 0, .arr true _⟩), (77826, ⟨1, 0, .arr true _⟩), (77827, ⟨1, 0, .arr true _⟩), (77828, ⟨1, 0, .arr true _⟩), (77829, ⟨1, 0, .arr true _⟩)] [(5, .c (.ptr 24576 1 0)), (19, .g [.d _, .arr 77825 1, .arr 77826 1, .arr 77827 1, .arr 77828 1, .arr 77829 1]), (20, .c (.d _))] [] ⟨rfl, rfl, rfl, rfl, rfl, rfl, trivial⟩ ⟨rfl, rfl, rfl, trivial⟩ rfl (kStoreP rfl rfl rfl rfl (kMovC rfl (kDone (kSeq (kSeq (kReg (kLoadP rfl rfl rfl (kLoadP rfl rfl rfl (kCallD (ok_laws_eqHouse _ _ _ _ (by first | assumption | omega | solve_by_elim [List.getElem_mem] | (simp only [szOut] at *; omega) | exact rfl | exact leb | exact rrOk_small (by assumption) | exact zoneOk_small (by assumption) | exact SmallBB.ok (by assumption) | exact (SmallBB.ok (by assumption)).len | exact (SmallBB.ok (by assumption)).mem | exact SmallBB.bent (by assumption)) (by first | assumption | omega | solve_by_elim [List.getElem_mem] | (simp only [szOut] at *; omega) | exact rfl | exact leb | exact rrOk_small (by assumption) | exact zoneOk_small (by assumption) | exact SmallBB.ok (by assumption) | exact (SmallBB.ok (by assumption)).len | exact (SmallBB.ok (by assumption)).mem | exact SmallBB.bent (by assumption))) ⟨⟨⟨rfl, rfl, rfl, rfl, rfl, rfl, trivial⟩, leb⟩, ⟨⟨rfl, rfl, rfl, rfl, rfl, rfl, trivial⟩, leb⟩, trivial⟩ rfl rfl rfl rfl rfl (kUn rfl rfl (kMovC rfl (kGN rfl (fun g0 => (by (simp at g0))) (fun g0 => kGT rfl (kMovC rfl (kGT rfl (kMovC rfl (kGT rfl (kBeq rfl rfl (kPickF rfl (kMovC rfl (kDone (kCondN rfl (fun g1 => (by (simp at g1))) (fun g1 => kSkip (kSeq (kReg (kMovC rfl (kDone (kSeq (kReg (kMem [(24576, ⟨1, 0, .box [.d _, .arr 77825 1, .arr 77826 1, .arr 77827 1, .arr 77828 1, .arr 77829 1]⟩), (77825, ⟨1, 0, .arr true _⟩), (77826, ⟨1, 0, .arr true _⟩), (77827, ⟨1, 0, .arr true _⟩), (77828, ⟨1, 0, .arr true _⟩), (77829, ⟨1, 0, .arr true _⟩)] [(5, .c (.ptr 24576 1 0)), (7, .c (.d _)), (30, .c (.un)), (31, .c (.un)), (32, .c (.un))] [] ⟨rfl, rfl, rfl, rfl, rfl, rfl, trivial⟩ ⟨rfl, rfl, rfl, rfl, rfl, trivial⟩ rfl (kLoadP rfl rfl rfl (kMovC rfl (kCallM (ok_laws_markHouse _ _ _ (by first | assumption | omega | solve_by_elim [List.getElem_mem] | (simp only [szOut] at *; omega) | exact rfl | exact leb | exact rrOk_small (by assumption) | exact zoneOk_small (by assumption) | exact SmallBB.ok (by assumption) | exact (SmallBB.ok (by assumption)).len | exact (SmallBB.ok (by assumption)).mem | exact SmallBB.bent (by assumption)) (by first | assumption | omega | solve_by_elim [List.getElem_mem] | (simp only [szOut] at *; omega) | exact rfl | exact leb | exact rrOk_small (by assumption) | exact zoneOk_small (by assumption) | exact SmallBB.ok (by assumption) | exact (SmallBB.ok (by assumption)).len | exact (SmallBB.ok (by assumption)).mem | exact SmallBB.bent (by assumption)) (by first | assumption | omega | solve_by_elim [List.getElem_mem] | (simp only [szOut] at *; omega) | exact rfl | exact leb | exact rrOk_small (by assumption) | exact zoneOk_small (by assumption) | exact SmallBB.ok (by assumption) | exact (SmallBB.ok (by assumption)).len | exact (SmallBB.ok (by assumption)).mem | exact SmallBB.bent (by assumption)) (by first | assumption | omega | solve_by_elim [List.getElem_mem] | (simp only [szOut] at *; omega) | exact rfl | exact leb | exact rrOk_small (by assumption) | exact zoneOk_small (by assumption) | exact SmallBB.ok (by assumption) | exact (SmallBB.ok (by assumption)).len | exact (SmallBB.ok (by assumption)).mem | exact SmallBB.bent (by assumption))) ⟨⟨⟨rfl, ⟨_, rfl, .inl rfl⟩, ⟨_, rfl, .inl rfl⟩, ⟨_, rfl, .inl rfl⟩, ⟨_, rfl, .inl rfl⟩, ⟨_, rfl, .inl rfl⟩, trivial⟩, leb⟩, rfl, trivial⟩ rfl rfl rfl (kMovC rfl (kDone (kSeq (kReg (kMovC rfl (kDone (kSeq (kReg (kLoadP rfl rfl rfl (kMovC rfl (kCallD (ok_laws_heldHouse _ _ _ (by first | assumption | omega | solve_by_elim [List.getElem_mem] | (simp only [szOut] at *; omega) | exact rfl | exact leb | exact rrOk_small (by assumption) | exact zoneOk_small (by assumption) | exact SmallBB.ok (by assumption) | exact (SmallBB.ok (by assumption)).len | exact (SmallBB.ok (by assumption)).mem | exact SmallBB.bent (by assumption)) (by first | assumption | omega | solve_by_elim [List.getElem_mem] | (simp only [szOut] at *; omega) | exact rfl | exact leb | exact rrOk_small (by assumption) | exact zoneOk_small (by assumption) | exact SmallBB.ok (by assumption) | exact (SmallBB.ok (by assumption)).len | exact (SmallBB.ok (by assumption)).mem | exact SmallBB.bent (by assumption)) (by first | assumption | omega | solve_by_elim [List.getElem_mem] | (simp only [szOut] at *; omega) | exact rfl | exact leb | exact rrOk_small (by assumption) | exact zoneOk_small (by assumption) | exact SmallBB.ok (by assumption) | exact (SmallBB.ok (by assumption)).len | exact (SmallBB.ok (by assumption)).mem | exact SmallBB.bent (by assumption)) (by first | assumption | omega | solve_by_elim [List.getElem_mem] | (simp only [szOut] at *; omega) | exact rfl | exact leb | exact rrOk_small (by assumption) | exact zoneOk_small (by assumption) | exact SmallBB.ok (by assumption) | exact (SmallBB.ok (by assumption)).len | exact (SmallBB.ok (by assumption)).mem | exact SmallBB.bent (by assumption))) ⟨⟨⟨rfl, rfl, rfl, rfl, rfl, rfl, trivial⟩, leb⟩, rfl, trivial⟩ rfl rfl rfl rfl rfl (kMovC rfl (kDone (kSeq (kSeq (kReg (kMovC rfl (kBin rfl rfl rfl (kDone (kCondF rfl (kSkip (kSeq (kSeq (kReg (kMovC rfl (kMovC rfl (kBin rfl rfl rfl (kDone (kCondIN rfl (fun g2 => (by omega)) (fun g2 => kSkip (kSeq (kReg (kMovC rfl (kCall1 true (ok_impl_HouseNew _) ⟨rfl, trivial⟩ rfl rfl rfl (fun _ => (kMovT rfl (kExtC rfl rfl (kMem [(180225, ⟨1, 0, .arr true _⟩), (180226, ⟨1, 0, .arr true _⟩), (180227, ⟨1, 0, .arr true _⟩), (180228, ⟨1, 0, .arr true _⟩), (180229, ⟨1, 0, .arr true _⟩)] [(9, .c (.un)), (44, .g [.d _, .arr 180225 1, .arr 180226 1, .arr 180227 1, .arr 180228 1, .arr 180229 1]), (45, .c (.un))] [] ⟨rfl, rfl, rfl, rfl, rfl, trivial⟩ ⟨rfl, rfl, rfl, trivial⟩ rfl (kExtC rfl rfl (kAlloc rfl rfl (kMem [(40960, ⟨1, 0, .box [.d _, .nil 1, .nil 7, .nil 1, .nil 7, .nil 5]⟩), (180225, ⟨1, 0, .arr true _⟩), (180226, ⟨1, 0, .arr true _⟩), (180227, ⟨1, 0, .arr true _⟩), (180228, ⟨1, 0, .arr true _⟩), (180229, ⟨1, 0, .arr true _⟩)] [(9, .c (.ptr 40960 1 0)), (44, .g [.d _, .arr 180225 1, .arr 180226 1, .arr 180227 1, .arr 180228 1, .arr 180229 1]), (45, .c (.d _))] [] ⟨rfl, rfl, rfl, rfl, rfl, rfl, trivial⟩ ⟨rfl, rfl, rfl, trivial⟩ rfl (kStoreP rfl rfl rfl rfl (kMovC rfl (kDone (kSeq (kSeq (kReg (kLoadP rfl rfl rfl (kLoadP rfl rfl rfl (kCallD (ok_laws_eqHouse _ _ _ _ (by first | assumption | omega | solve_by_elim [List.getElem_mem] | (simp only [szOut] at *; omega) | exact rfl | exact leb | exact rrOk_small (by assumption) | exact zoneOk_small (by assumption) | exact SmallBB.ok (by assumption) | exact (SmallBB.ok (by assumption)).len | exact (SmallBB.ok (by assumption)).mem | exact SmallBB.bent (by assumption)) (by first | assumption | omega | solve_by_elim [List.getElem_mem] | (simp only [szOut] at *; omega) | exact rfl | exact leb | exact rrOk_small (by assumption) | exact zoneOk_small (by assumption) | exact SmallBB.ok (by assumption) | exact (SmallBB.ok (by assumption)).len | exact (SmallBB.ok (by assumption)).mem | exact SmallBB.bent (by assumption))) ⟨⟨⟨rfl, rfl, rfl, rfl, rfl, rfl, trivial⟩, leb⟩, ⟨⟨rfl, rfl, rfl, rfl, rfl, rfl, trivial⟩, leb⟩, trivial⟩ rfl rfl rfl rfl rfl (kUn rfl rfl (kMovC rfl (kGN rfl (fun g3 => (by (simp at g3))) (fun g3 => kGT rfl (kMovC rfl (kGT rfl (kMovC rfl (kGT rfl (kBeq rfl rfl (kPickF rfl (kMovC rfl (kDone (kCondN rfl (fun g4 => (by (simp at g4))) (fun g4 => kSkip (kSeq (kReg (kMovC rfl (kDone (kSeq (kReg (kMem [(24576, ⟨1, 0, .box [.d _, .arr 77825 1, .arr 77826 1, .arr 77827 1, .arr 77828 1, .arr 77829 1]⟩), (77825, ⟨1, 1, .arr true _⟩), (77826, ⟨1, 1, .arr true _⟩), (77827, ⟨1, 1, .arr true _⟩), (77828, ⟨1, 1, .arr true _⟩), (77829, ⟨1, 1, .arr true _⟩)] [(5, .c (.ptr 24576 1 0)), (8, .c (.d _)), (55, .c (.un)), (56, .c (.un)), (57, .c (.un))] [] ⟨rfl, rfl, rfl, rfl, rfl, rfl, trivial⟩ ⟨rfl, rfl, rfl, rfl, rfl, trivial⟩ rfl (kLoadP rfl rfl rfl (kMovC rfl (kCallD (ok_laws_heldHouse _ _ _ (by first | assumption | omega | solve_by_elim [List.getElem_mem] | (simp only [szOut] at *; omega) | exact rfl | exact leb | exact rrOk_small (by assumption) | exact zoneOk_small (by assumption) | exact SmallBB.ok (by assumption) | exact (SmallBB.ok (by assumption)).len | exact (SmallBB.ok (by assumption)).mem | exact SmallBB.bent (by assumption)) (by first | assumption | omega | solve_by_elim [List.getElem_mem] | (simp only [szOut] at *; omega) | exact rfl | exact leb | exact rrOk_small (by assumption) | exact zoneOk_small (by assumption) | exact SmallBB.ok (by assumption) | exact (SmallBB.ok (by assumption)).len | exact (SmallBB.ok (by assumption)).mem | exact SmallBB.bent (by assumption)) (by first | assumption | omega | solve_by_elim [List.getElem_mem] | (simp only [szOut] at *; omega) | exact rfl | exact leb | exact rrOk_small (by assumption) | exact zoneOk_small (by assumption) | exact SmallBB.ok (by assumption) | exact (SmallBB.ok (by assumption)).len | exact (SmallBB.ok (by assumption)).mem | exact SmallBB.bent (by assumption)) (by first | assumption | omega | solve_by_elim [List.getElem_mem] | (simp only [szOut] at *; omega) | exact rfl | exact leb | exact rrOk_small (by assumption) | exact zoneOk_small (by assumption) | exact SmallBB.ok (by assumption) | exact (SmallBB.ok (by assumption)).len | exact (SmallBB.ok (by assumption)).mem | exact SmallBB.bent (by assumption))) ⟨⟨⟨rfl, rfl, rfl, rfl, rfl, rfl, trivial⟩, leb⟩, rfl, trivial⟩ rfl rfl rfl rfl rfl (kMovC rfl (kDone (kSeq (kSeq (kReg (kMovC rfl (kBin rfl rfl rfl (kDone (kCondF rfl (kSkip (kSeq (kSeq (kReg (kMovC rfl (kMovC rfl (kBin rfl rfl rfl (kDone (kCondIN rfl (fun g5 => (by omega)) (fun g5 => kSkip (kSeq (kReg (kMovC rfl (kDone (kRet (endRetA (ra := [.one (.d _)]) rfl rfl))))))))))))))))))))))))))))))))))))))))))))))))))))))))))))))))))))))))))))))))))))))))))))))))))))))))))))))))))))))))))))))))))))))))))))))))))))))))))))))

end Go.Proofs.YtbmagbgdpmgbmaaGreat.FnExactHouseNewFn
