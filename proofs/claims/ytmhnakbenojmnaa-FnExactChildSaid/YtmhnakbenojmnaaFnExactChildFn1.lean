/- What the functions that FnExactChild reaches compute, one contract each; each with the bounds that it states. -/
import Derived.Test.YtmhnakbenojmnaaHearth3
import Derived.Test.YtmhnakbenojmnaaProg
import Derived.KernelRfl
set_option maxRecDepth 100000
set_option maxHeartbeats 1000000
set_option linter.unusedVariables false
set_option linter.unusedSimpArgs false
namespace Go.Proofs.Ytmhnakbenojmnaa.FnExactChildFn
open Go Hearth Go.Proofs

def c_laws_szByteS : C := (.seq (.reg false (.op 0 [] (some 4) none false (.mov (.v (.int .i64 0)))
  .done))
 (.seq (.reg false (.op 0 [] (some 5) none false (.mov (.t 1))
  (.op 1 [] (some 6) none false (.mov (.t 0))
  (.op 2 [] (some 7) none false (.len (.t 6))
  (.op 3 [] (some 8) none false (.bin .sub (.t 5) (.t 7))
  (.op 4 [] (some 1) none false (.mov (.t 8))
  .done))))))
 (.seq (.seq (.reg false (.op 0 [] (some 9) none false (.mov (.t 1))
  (.op 1 [] (some 10) none false (.bin .lss (.t 9) (.v (.int .i64 0)))
  .done)))
 (.cond (.t 10)
 (.seq (.reg false (.op 0 [] (some 4) none false (.mov (.v (.int .i64 (-1))))
  .done))
 .ret)
 .skip))
 (.seq (.reg false (.op 0 [] (some 11) none false (.mov (.t 1))
  (.op 1 [] (some 4) none false (.mov (.t 11))
  .done)))
 .ret))))
theorem dg_laws_szByteS : Try.f28.body.bind (digC Try.prog Try.f28.ntmps []) = some c_laws_szByteS := by kernel_rfl
theorem rs_laws_szByteS : resSlots Try.prog Try.f28 = some [.s 4] := by kernel_rfl
theorem ok_laws_szByteS (b : List UInt8) (n : Int) (hb : (b.length : Int) ≤ 9223372036854775807) (h0 : 0 ≤ n) (h1 : n ≤ 4194304) :
    FnOK Try.prog 28 [.one (.d (encB b)), .one (.d (.sc (.int .i64 n)))] (fun ra _ => ra = [.one (.d (.sc (.int .i64 (szOut n b.length))))]) := by
  refine FnOK.ofK Try.func28 (by kernel_rfl) dg_laws_szByteS rs_laws_szByteS rfl rfl ?_
  unfold c_laws_szByteS
  refine kSeq (kReg (kMovC rfl (kDone ?_)))
  refine kSeq (kReg ?_)
  refine kMovC rfl (kMovC rfl (kLen rfl rfl rfl ?_))
  refine kDif rfl rfl ?_ ?_
  · simp [encB, DV.len] at *; omega
  refine kMovC rfl (kDone ?_)
  refine kSeq (kSeq (kReg (kMovC rfl (kBin rfl rfl rfl (kDone ?_)))))
  refine kCond rfl (fun h => ?_) (fun h => ?_)
  · refine kSeq (kReg (kMovC rfl (kDone (kRet ⟨nofun, ?_⟩))))
    refine ⟨[.one (.d _)], _, ?_, rfl, ⟨⟨⟨rfl, .inl rfl⟩, trivial⟩, .nil, trivial, trivial, trivial⟩⟩
    unfold szOut
    simp [encB, DV.len] at h ⊢
    omega
  · refine kSkip (kSeq (kReg (kMovC rfl (kMovC rfl (kDone (kRet ⟨nofun, ?_⟩))))))
    refine ⟨[.one (.d _)], _, ?_, rfl, ⟨⟨⟨rfl, .inl rfl⟩, trivial⟩, .nil, trivial, trivial, trivial⟩⟩
    unfold szOut
    simp [encB, DV.len] at h ⊢
    omega

def c_laws_szByteSS : C := (.seq (.reg false (.op 0 [] (some 4) none false (.mov (.v (.int .i64 0)))
  .done))
 (.seq (.reg false (.op 0 [] (some 6) none false (.mov (.t 1))
  (.op 1 [] (some 7) none false (.mov (.t 0))
  (.op 2 [] (some 8) none false (.len (.t 7))
  (.op 3 [] (some 9) none false (.bin .sub (.t 6) (.t 8))
  (.op 4 [] (some 1) none false (.mov (.t 9))
  .done))))))
 (.seq (.seq (.reg false (.op 0 [] (some 10) none false (.mov (.t 1))
  (.op 1 [] (some 11) none false (.bin .lss (.t 10) (.v (.int .i64 0)))
  .done)))
 (.cond (.t 11)
 (.seq (.reg false (.op 0 [] (some 4) none false (.mov (.v (.int .i64 (-1))))
  .done))
 .ret)
 .skip))
 (.seq (.seq (.reg false (.op 0 [] (some 5) none false (.mov (.v (.int .i64 0)))
  .done))
 (.block 0 (.loop (.seq (.seq (.reg false (.op 0 [] (some 12) none false (.mov (.t 5))
  (.op 1 [] (some 13) none false (.mov (.t 0))
  (.op 2 [] (some 14) none false (.len (.t 13))
  (.op 3 [] (some 15) none false (.bin .lss (.t 12) (.t 14))
  .done)))))
 (.cond (.t 15)
 .skip
 (.exit 0)))
 (.seq (.block 1 (.seq (.reg false (.op 0 [] (some 18) none false (.mov (.t 0))
  (.op 1 [] (some 19) none false (.mov (.t 5))
  (.op 2 [] (some 20) none false (.iad 1 (.t 18) (.t 19))
  (.op 3 [] (some 21) none false (.load none (.t 20))
  (.op 4 [] (some 22) none false (.mov (.t 1))
  (.op 5 [] (some 23) none false (.call 23 28 [(.t 21), (.t 22)])
  (.op 6 [] (some 1) none false (.mov (.t 23))
  .done))))))))
 (.seq (.reg false (.op 0 [] (some 24) none false (.mov (.t 1))
  (.op 1 [] (some 25) none false (.bin .lss (.t 24) (.v (.int .i64 0)))
  .done)))
 (.cond (.t 25)
 (.seq (.reg false (.op 0 [] (some 4) none false (.mov (.v (.int .i64 (-1))))
  .done))
 .ret)
 .skip))))
 (.reg false (.op 0 [] (some 16) none false (.mov (.t 5))
  (.op 1 [] (some 17) none false (.bin .add (.t 16) (.v (.int .i64 1)))
  (.op 2 [] (some 5) none false (.mov (.t 17))
  .done)))))))))
 (.seq (.reg false (.op 0 [] (some 26) none false (.mov (.t 1))
  (.op 1 [] (some 4) none false (.mov (.t 26))
  .done)))
 .ret)))))
theorem dg_laws_szByteSS : Try.f17.body.bind (digC Try.prog Try.f17.ntmps []) = some c_laws_szByteSS := by kernel_rfl
theorem rs_laws_szByteSS : resSlots Try.prog Try.f17 = some [.s 4] := by kernel_rfl
theorem ok_laws_szByteSS (a : List (List UInt8)) (n : Int) (ha : (a.length : Int) ≤ 9223372036854775807) (hb : ∀ b ∈ a, (b.length : Int) ≤ 9223372036854775807) (h0 : 0 ≤ n) (h1 : n ≤ 4194304) :
    FnOK Try.prog 17 [.one (.d (encBB a)), .one (.d (.sc (.int .i64 n)))] (fun ra _ => ra = [.one (.d (.sc (.int .i64 (szOut n (a.length + a.flatten.length)))))]) := by
  refine FnOK.ofK Try.func17 (by kernel_rfl) dg_laws_szByteSS rs_laws_szByteSS rfl rfl ?_
  unfold c_laws_szByteSS
  refine kSeq (kReg (kMovC rfl (kDone ?_)))
  refine kSeq (kReg (kMovC rfl (kMovC rfl (kLen rfl rfl rfl ?_))))
  rw [len_encBB]
  refine kDif rfl rfl (by omega) (kMovC rfl (kDone ?_))
  refine kSeq (kSeq (kReg (kMovC rfl (kBin rfl rfl rfl (kDone ?_)))))
  refine kCond rfl (fun h => ?_) (fun h => ?_)
  · refine kSeq (kReg (kMovC rfl (kDone (kRet ?_))))
    refine endRet (ra := [.one (.d _)]) rfl ⟨⟨⟨rfl, .inl rfl⟩, trivial⟩, .nil, trivial, trivial, trivial⟩ ?_
    simp only [decide_eq_true_eq] at h
    rw [szOut, if_pos (by omega)]
  have hn : 0 ≤ n - a.length := by simp only [decide_eq_false_iff_not] at h; omega
  refine kSkip (kSeq (kSeq (kReg (kMovC rfl (kDone (kBlock ?_))))))
  refine kLoop (α := { i : Nat // i ≤ a.length ∧ 0 ≤ n - a.length - (a.take i).flatten.length })
    (fun y => ⟨tabSl [(0, .dv (encBB a)), (1, .i (n - a.length - (a.take y.1).flatten.length)), (5, .i y.1)], (St.init [.one (.d (encBB a)), .one (.d (.sc (.int .i64 n)))]).ob, []⟩) (fun y => a.length - y.1) ⟨0, by simpa using hn⟩
    (.tab rfl ⟨.refl _, by simpa using .refl _, .refl _, trivial⟩) ?_
  rintro ⟨i, hi, hs⟩
  simp only
  refine kSeq (kSeq (kReg ?_))
  refine kMovC rfl (kMovC rfl (kLen rfl rfl rfl (kBin rfl rfl rfl (kDone ?_))))
  rw [len_encBB]
  refine kCond rfl (fun h1 => ?_) (fun h1 => ?_)
  · have hlt : i < a.length := by simp at h1; omega
    have hfl := take_flat a i hlt
    have hle := flat_le a (i + 1)
    have hbi := hb _ (List.getElem_mem hlt)
    refine kSkip (kSeq (kBlock (kSeq (kReg (kMovC rfl (kMovC rfl (kIadD rfl rfl rfl rfl ?_ ?_)))))))
    · rw [len_encBB]; omega
    rw [show (encBB a).row (i : Int).toNat = [encB a[i]] from row_encBB a i hlt]
    refine kLoadD rfl rfl (kMovC rfl ?_)
    refine kCall1 true (ok_laws_szByteS a[i] (n - a.length - (a.take i).flatten.length) hbi hs (by omega)) ⟨rfl, rfl, trivial⟩ rfl rfl rfl fun os => ?_
    refine kMovC rfl (kDone (kSeq (kReg (kMovC rfl (kBin rfl rfl rfl (kDone ?_))))))
    refine kCond rfl (fun h2 => ?_) (fun h2 => ?_)
    · refine kSeq (kReg (kMovC rfl (kDone (kRet ?_))))
      refine endRet (ra := [.one (.d _)]) rfl ⟨⟨⟨rfl, .inl rfl⟩, trivial⟩, .nil, trivial, trivial, trivial⟩ ?_
      replace h2 := of_decide_eq_true h2
      unfold szOut at h2
      rw [szOut, if_pos (by split at h2 <;> omega)]
    · replace h2 := of_decide_eq_false h2
      unfold szOut at h2
      have hs' : 0 ≤ n - a.length - (a.take (i + 1)).flatten.length := by split at h2 <;> omega
      refine kSkip (kBk (kReg (kMovC rfl (kAdd rfl rfl (by omega) (kMovC rfl (kDone (kInv ?_)))))))
      refine ⟨⟨i + 1, hlt, hs'⟩, by simp only; omega, .tab rfl ⟨.refl _, ?_, .refl _, trivial⟩⟩
      show WkV (.i (szOut _ _)) (.i (n - a.length - ((a.take (i + 1)).flatten.length : Int)))
      rw [szOut, if_neg (by omega), show n - (a.length : Int) - ((a.take (i + 1)).flatten.length : Int) = n - a.length - (a.take i).flatten.length - a[i].length by omega]
      exact .refl _
  · refine kExit (kExC (kExI (kExB ?_)))
    have hge : i = a.length := by simp at h1; omega
    subst hge
    rw [List.take_length] at hs
    refine kSeq (kReg (kMovC rfl (kMovC rfl (kDone (kRet ?_)))))
    refine endRet (ra := [.one (.d _)]) rfl ⟨⟨⟨rfl, .inl rfl⟩, trivial⟩, .nil, trivial, trivial, trivial⟩ ?_
    rw [szOut, if_neg (by omega), List.take_length, show n - (a.length : Int) - (a.flatten.length : Int) = n - ((a.length + a.flatten.length : Nat) : Int) by omega]

def c_laws_szName : C := (.seq (.reg false (.op 0 [] (some 2) none false (.box 2 (.t 0))
  (.op 1 [] (some 4) none false (.mov (.v (.int .i64 0)))
  .done)))
 (.seq (.reg false (.op 0 [] (some 5) none false (.fad (.t 2) 0)
  (.op 1 [] (some 6) none false (.load none (.t 5))
  (.op 2 [] (some 7) none false (.mov (.t 1))
  (.op 3 [] (some 8) none false (.call 8 17 [(.t 6), (.t 7)])
  (.op 4 [] (some 1) none false (.mov (.t 8))
  .done))))))
 (.seq (.seq (.reg false (.op 0 [] (some 9) none false (.mov (.t 1))
  (.op 1 [] (some 10) none false (.bin .lss (.t 9) (.v (.int .i64 0)))
  .done)))
 (.cond (.t 10)
 (.seq (.reg false (.op 0 [] (some 4) none false (.mov (.v (.int .i64 (-1))))
  .done))
 .ret)
 .skip))
 (.seq (.reg false (.op 0 [] (some 11) none false (.mov (.t 1))
  (.op 1 [] (some 4) none false (.mov (.t 11))
  .done)))
 .ret))))
theorem dg_laws_szName : Try.f5.body.bind (digC Try.prog Try.f5.ntmps []) = some c_laws_szName := by kernel_rfl
theorem rs_laws_szName : resSlots Try.prog Try.f5 = some [.s 4] := by kernel_rfl
theorem ok_laws_szName (a : List (List UInt8)) (n : Int) (ha : (a.length : Int) ≤ 9223372036854775807) (hb : ∀ b ∈ a, (b.length : Int) ≤ 9223372036854775807) (h0 : 0 ≤ n) (h1 : n ≤ 4194304) :
    FnOK Try.prog 5 [.agg [.d (encBB a)], .one (.d (.sc (.int .i64 n)))] (fun ra _ => ra = [.one (.d (.sc (.int .i64 (szOut n (a.length + a.flatten.length)))))]) := by
  refine FnOK.ofK Try.func5 (by kernel_rfl) dg_laws_szName rs_laws_szName rfl rfl ?_
  unfold c_laws_szName
  refine kSeq (kReg (kBox rfl rfl rfl rfl rfl (kMovC rfl (kDone ?_))))
  refine kSeq (kReg (kFadP rfl rfl (kLoadP rfl rfl rfl (kMovC rfl ?_))))
  refine kCall1 true (ok_laws_szByteSS a n ha hb h0 h1) ⟨rfl, rfl, trivial⟩ rfl rfl rfl fun os => ?_
  refine kMovC rfl (kDone (kSeq (kSeq (kReg (kMovC rfl (kBin rfl rfl rfl (kDone ?_)))))))
  refine kCond rfl (fun h => ?_) (fun h => ?_)
  · refine kSeq (kReg (kMovC rfl (kDone (kRet ?_))))
    refine endRet (ra := [.one (.d _)]) rfl ⟨⟨⟨rfl, .inl rfl⟩, trivial⟩, .nil, ⟨trivial, trivial⟩, trivial, trivial⟩ ?_
    replace h := of_decide_eq_true h
    unfold szOut at h
    rw [szOut, if_pos (by split at h <;> omega)]
  · refine kSkip (kSeq (kReg (kMovC rfl (kMovC rfl (kDone (kRet ?_))))))
    exact endRet (ra := [.one (.d _)]) rfl ⟨⟨⟨rfl, .inl rfl⟩, trivial⟩, .nil, ⟨trivial, trivial⟩, trivial, trivial⟩ rfl

def c_spec_l2child : C := (.seq (.reg false (.op 0 [] (some 2) none false (.box 2 (.t 0))
  (.op 1 [] (some 4) none false (.alloc 4 [(.n 1)])
  .done)))
 (.seq (.reg false (.op 0 [] (some 5) none false (.mov (.t 1))
  (.op 1 [] (some 6) none false (.lit 6 1 [(.n 1)] 1 [(0, 1, (.t 5))])
  (.op 2 [] (some 7) none false (.fad (.t 2) 0)
  (.op 3 [] (some 8) none false (.load none (.t 7))
  (.op 4 [] (some 9) none false (.app 9 1 24 (.t 6) (.t 8))
  (.op 5 [] (some 10) none false (.build [(.n 1)] [(0, 1, (.t 9))])
  (.op 6 [] none none false (.store (some 1) (.t 4) (.t 10))
  .done))))))))
 .ret))
theorem dg_spec_l2child : Try.f26.body.bind (digC Try.prog Try.f26.ntmps []) = some c_spec_l2child := by kernel_rfl
theorem rs_spec_l2child : resSlots Try.prog Try.f26 = some [.m 4 (some 1)] := by kernel_rfl
theorem ok_spec_l2child (a : List (List UInt8)) (l : List UInt8) (ha : a.length ≤ 4194304) :
    FnOK Try.prog 26 [.agg [.d (encBB a)], .one (.d (encB l))] (fun ra _ => ra = [.agg [.d (encBB (l :: a))]]) := by
  refine FnOK.ofK Try.func26 (by kernel_rfl) dg_spec_l2child rs_spec_l2child rfl rfl ?_
  unfold c_spec_l2child
  refine kSeq (kReg (kBox rfl rfl rfl rfl rfl (kAlloc rfl rfl (kDone (kSeq (kReg (kMovC rfl (kLit rfl rfl rfl rfl (kFadP rfl rfl (kLoadP rfl rfl rfl (kApp1R rfl rfl rfl rfl rfl rfl rfl rfl (by omega) (kBuild rfl (kStoreP rfl rfl rfl rfl (kDone (kRet (endRet (ra := [.agg [(.d _)]]) rfl (by (repeat' first | exact trivial | exact rfl | exact .inl rfl | exact nodupB_sound rfl | exact .inl (Nat.zero_lt_succ _) | exact .inr ⟨Nat.zero_lt_succ _, nmB rfl⟩ | exact fun _ => rfl | exact Nat.le_of_ble_eq_true rfl | exact ⟨_, rfl, fun _ => rfl⟩ | refine ⟨?_, ?_⟩ | fail); first | done | fail) rfl))))))))))))))))

def c_spec_LabelOk : C := (.seq (.reg false (.op 0 [] (some 2) none false (.mov (.v (.bool false)))
  .done))
 (.seq (.seq (.reg false (.op 0 [] (some 4) none false (.mov (.t 0))
  (.op 1 [] (some 5) none false (.len (.t 4))
  (.op 2 [] (some 6) none false (.bin .lss (.t 5) (.v (.int .i64 1)))
  (.op 3 [] (some 7) none false (.mov (.t 6))
  (.op 4 [] (some 8) (some (7, false)) false (.mov (.t 0))
  (.op 5 [] (some 9) (some (7, false)) false (.len (.t 8))
  (.op 6 [] (some 10) (some (7, false)) false (.bin .gtr (.t 9) (.v (.int .i64 15)))
  (.op 7 [] (some 11) none false (.pick (.t 7) (.v (.bool true)) (.t 10))
  .done)))))))))
 (.cond (.t 11)
 (.seq (.reg false (.op 0 [] (some 2) none false (.mov (.v (.bool false)))
  .done))
 .ret)
 .skip))
 (.seq (.seq (.reg false (.op 0 [] (some 3) none false (.mov (.v (.int .i64 0)))
  .done))
 (.block 0 (.loop (.seq (.seq (.reg false (.op 0 [] (some 12) none false (.mov (.t 3))
  (.op 1 [] (some 13) none false (.mov (.t 0))
  (.op 2 [] (some 14) none false (.len (.t 13))
  (.op 3 [] (some 15) none false (.bin .lss (.t 12) (.t 14))
  .done)))))
 (.cond (.t 15)
 .skip
 (.exit 0)))
 (.seq (.block 1 (.seq (.reg false (.op 0 [] (some 18) none false (.mov (.t 0))
  (.op 1 [] (some 19) none false (.mov (.t 3))
  (.op 2 [] (some 20) none false (.iad 1 (.t 18) (.t 19))
  (.op 3 [] (some 21) none false (.load none (.t 20))
  (.op 4 [] (some 22) none false (.bin .geq (.t 21) (.v (.int .u8 97)))
  (.op 5 [] (some 23) none false (.mov (.t 22))
  (.op 6 [] (some 24) (some (23, true)) false (.mov (.t 0))
  (.op 7 [] (some 25) (some (23, true)) false (.mov (.t 3))
  (.op 8 [] (some 26) (some (23, true)) false (.iad 1 (.t 24) (.t 25))
  (.op 9 [] (some 27) (some (23, true)) false (.load none (.t 26))
  (.op 10 [] (some 28) (some (23, true)) false (.bin .leq (.t 27) (.v (.int .u8 122)))
  (.op 11 [] (some 29) none false (.pick (.t 23) (.t 28) (.v (.bool false)))
  (.op 12 [] (some 30) none false (.un .not (.t 29))
  (.op 13 [] (some 31) none false (.mov (.t 30))
  (.op 14 [] (some 32) (some (31, true)) false (.mov (.t 0))
  (.op 15 [] (some 33) (some (31, true)) false (.mov (.t 3))
  (.op 16 [] (some 34) (some (31, true)) false (.iad 1 (.t 32) (.t 33))
  (.op 17 [] (some 35) (some (31, true)) false (.load none (.t 34))
  (.op 18 [] (some 36) (some (31, true)) false (.bin .geq (.t 35) (.v (.int .u8 48)))
  (.op 19 [] (some 37) (some (31, true)) false (.mov (.t 36))
  (.op 20 [] (some 38) (some (37, true)) false (.mov (.t 0))
  (.op 21 [] (some 39) (some (37, true)) false (.mov (.t 3))
  (.op 22 [] (some 40) (some (37, true)) false (.iad 1 (.t 38) (.t 39))
  (.op 23 [] (some 41) (some (37, true)) false (.load none (.t 40))
  (.op 24 [] (some 42) (some (37, true)) false (.bin .leq (.t 41) (.v (.int .u8 57)))
  (.op 25 [] (some 43) (some (31, true)) false (.pick (.t 37) (.t 42) (.v (.bool false)))
  (.op 26 [] (some 44) (some (31, true)) false (.un .not (.t 43))
  (.op 27 [] (some 45) none false (.pick (.t 31) (.t 44) (.v (.bool false)))
  (.op 28 [] (some 46) none false (.mov (.t 45))
  (.op 29 [] (some 47) (some (46, true)) false (.mov (.t 0))
  (.op 30 [] (some 48) (some (46, true)) false (.mov (.t 3))
  (.op 31 [] (some 49) (some (46, true)) false (.iad 1 (.t 47) (.t 48))
  (.op 32 [] (some 50) (some (46, true)) false (.load none (.t 49))
  (.op 33 [] (some 51) (some (46, true)) false (.bin .neq (.t 50) (.v (.int .u8 45)))
  (.op 34 [] (some 52) none false (.pick (.t 46) (.t 51) (.v (.bool false)))
  .done))))))))))))))))))))))))))))))))))))
 (.cond (.t 52)
 (.seq (.reg false (.op 0 [] (some 2) none false (.mov (.v (.bool false)))
  .done))
 .ret)
 .skip)))
 (.reg false (.op 0 [] (some 16) none false (.mov (.t 3))
  (.op 1 [] (some 17) none false (.bin .add (.t 16) (.v (.int .i64 1)))
  (.op 2 [] (some 3) none false (.mov (.t 17))
  .done)))))))))
 (.seq (.reg false (.op 0 [] (some 2) none false (.mov (.v (.bool true)))
  .done))
 .ret))))
theorem dg_spec_LabelOk : Try.f29.body.bind (digC Try.prog Try.f29.ntmps []) = some c_spec_LabelOk := by kernel_rfl
theorem rs_spec_LabelOk : resSlots Try.prog Try.f29 = some [.s 2] := by kernel_rfl
theorem ok_spec_LabelOk (b : List UInt8) (hb : b.length ≤ 4194304) :
    FnOK Try.prog 29 [.one (.d (encB b))] (fun ra _ => ra = [.one (.d (.sc (.bool (labelOk b))))]) := by
  refine FnOK.ofK Try.func29 (by kernel_rfl) dg_spec_LabelOk rs_spec_LabelOk rfl rfl ?_
  unfold c_spec_LabelOk
  refine kSeq (kReg (kMovC rfl (kDone (kSeq (kSeq (kReg (kMovC rfl (kLenR rfl rfl (kBin rfl rfl rfl (kMovC rfl (kGP rfl (fun g0 => kGF rfl (kGF rfl (kGF rfl (kPickT rfl (kMovC rfl (kDone (kCondT rfl (kSeq (kReg (kMovC rfl (kDone (kRet (endRet (ra := [.one (.d _)]) rfl (by (repeat' first | exact trivial | exact rfl | exact .inl rfl | exact nodupB_sound rfl | exact .inl (Nat.zero_lt_succ _) | exact .inr ⟨Nat.zero_lt_succ _, nmB rfl⟩ | exact fun _ => rfl | exact Nat.le_of_ble_eq_true rfl | exact ⟨_, rfl, fun _ => rfl⟩ | refine ⟨?_, ?_⟩ | fail); first | done | fail) ?_))))))))))))) (fun g0 => kGT rfl (kMovC rfl (kGT rfl (kLenR rfl rfl (kGT rfl (kBin rfl rfl rfl (kPickF rfl (kMovC rfl (kDone (kCondP rfl (fun g1 => kSeq (kReg (kMovC rfl (kDone (kRet (endRet (ra := [.one (.d _)]) rfl (by (repeat' first | exact trivial | exact rfl | exact .inl rfl | exact nodupB_sound rfl | exact .inl (Nat.zero_lt_succ _) | exact .inr ⟨Nat.zero_lt_succ _, nmB rfl⟩ | exact fun _ => rfl | exact Nat.le_of_ble_eq_true rfl | exact ⟨_, rfl, fun _ => rfl⟩ | refine ⟨?_, ?_⟩ | fail); first | done | fail) ?_)))))) (fun g1 => kSkip (kSeq (kSeq (kReg (kMovC rfl (kDone (kBlock ?_))))))))))))))))))))))))))))
  · rw [show labelOk b = false by simp only [labelOk]; rw [decide_eq_false (by omega)]; rfl]
  · rw [show labelOk b = false by simp only [labelOk]; rw [decide_eq_false (p := b.length ≤ 15) (by omega)]; simp]
  refine kLoop (α := { i : Nat // i ≤ b.length ∧ (b.take i).all okLetter = true })
    (fun y => ⟨tabSl [(0, .dv (encB b)), (3, .i y.1)], (St.init [.one (.d (encB b))]).ob, []⟩) (fun y => b.length - y.1) ⟨0, by simp⟩
    (.tab rfl ⟨.refl _, .refl _, trivial⟩) ?_
  rintro ⟨i, hi, hl⟩
  simp only
  refine kSeq (kSeq (kReg (kMovC rfl (kMovC rfl (kLenR rfl rfl (kBin rfl rfl rfl (kDone (kCondP rfl (fun g0 => kSkip (kSeq (kBlock (kSeq (kReg (kMovC rfl (kMovC rfl (kIadR rfl rfl rfl (by omega) (kLoadD rfl rfl (kBin rfl rfl rfl (kMovC rfl (kGP rfl (fun g1 => kGT rfl (kMovC rfl (kGT rfl (kMovC rfl (kGT rfl (kIadR rfl rfl rfl (by omega) (kGT rfl (kLoadD rfl rfl (kGT rfl (kBin rfl rfl rfl (kPickT rfl (kMovC rfl (kUn rfl rfl (kMovC rfl (kGN rfl (fun g2 => kGT rfl (kMovC rfl (kGT rfl (kMovC rfl (kGT rfl (kIadR rfl rfl rfl (by omega) (kGT rfl (kLoadD rfl rfl (kGT rfl (kBin rfl rfl rfl (kGT rfl (kMovC rfl (kGP rfl (fun g3 => kGT rfl (kMovC rfl (kGT rfl (kMovC rfl (kGT rfl (kIadR rfl rfl rfl (by omega) (kGT rfl (kLoadD rfl rfl (kGT rfl (kBin rfl rfl rfl (kGT rfl (kPickT rfl (kMovC rfl (kGT rfl (kUn rfl rfl (kPickT rfl (kMovC rfl (kMovC rfl (kGN rfl (fun g4 => kGT rfl (kMovC rfl (kGT rfl (kMovC rfl (kGT rfl (kIadR rfl rfl rfl (by omega) (kGT rfl (kLoadD rfl rfl (kGT rfl (kBin rfl rfl rfl (kPickT rfl (kMovC rfl (kDone (kCondN rfl (fun g5 => kSeq (kReg (kMovC rfl (kDone (kRet (endRet (ra := [.one (.d _)]) rfl (by (repeat' first | exact trivial | exact rfl | exact .inl rfl | exact nodupB_sound rfl | exact .inl (Nat.zero_lt_succ _) | exact .inr ⟨Nat.zero_lt_succ _, nmB rfl⟩ | exact fun _ => rfl | exact Nat.le_of_ble_eq_true rfl | exact ⟨_, rfl, fun _ => rfl⟩ | refine ⟨?_, ?_⟩ | fail); first | done | fail) ?_)))))) (fun g5 => kSkip (kBk (kReg (kMovC rfl (kAdd rfl rfl (by omega) (kMovC rfl (kDone ?_))))))))))))))))))))) (fun g4 => kGF rfl (kGF rfl (kGF rfl (kGF rfl (kGF rfl (kPickF rfl (kMovC rfl (kDone (kCondF rfl (kSkip (kBk (kReg (kMovC rfl (kAdd rfl rfl (by omega) (kMovC rfl (kDone ?_))))))))))))))))))))))))))))))))))) (fun g3 => (by omega))))))))))))))) (fun g2 => kGF rfl (kGF rfl (kGF rfl (kGF rfl (kGF rfl (kGF rfl (kGU rfl (kGU rfl (kGU rfl (kGU rfl (kGU rfl (kGF rfl (kGF rfl (kPickF rfl (kMovC rfl (kMovC rfl (kGF rfl (kGF rfl (kGF rfl (kGF rfl (kGF rfl (kPickF rfl (kMovC rfl (kDone (kCondF rfl (kSkip (kBk (kReg (kMovC rfl (kAdd rfl rfl (by omega) (kMovC rfl (kDone ?_))))))))))))))))))))))))))))))))))))))))))))))) (fun g1 => kGF rfl (kGF rfl (kGF rfl (kGF rfl (kGF rfl (kPickF rfl (kMovC rfl (kUn rfl rfl (kMovC rfl (kGT rfl (kMovC rfl (kGT rfl (kMovC rfl (kGT rfl (kIadR rfl rfl rfl (by omega) (kGT rfl (kLoadD rfl rfl (kGT rfl (kBin rfl rfl rfl (kGT rfl (kMovC rfl (kGP rfl (fun g6 => kGT rfl (kMovC rfl (kGT rfl (kMovC rfl (kGT rfl (kIadR rfl rfl rfl (by omega) (kGT rfl (kLoadD rfl rfl (kGT rfl (kBin rfl rfl rfl (kGT rfl (kPickT rfl (kMovC rfl (kGT rfl (kUn rfl rfl (kPickT rfl (kMovC rfl (kMovC rfl (kGN rfl (fun g7 => kGT rfl (kMovC rfl (kGT rfl (kMovC rfl (kGT rfl (kIadR rfl rfl rfl (by omega) (kGT rfl (kLoadD rfl rfl (kGT rfl (kBin rfl rfl rfl (kPickT rfl (kMovC rfl (kDone (kCondN rfl (fun g8 => kSeq (kReg (kMovC rfl (kDone (kRet (endRet (ra := [.one (.d _)]) rfl (by (repeat' first | exact trivial | exact rfl | exact .inl rfl | exact nodupB_sound rfl | exact .inl (Nat.zero_lt_succ _) | exact .inr ⟨Nat.zero_lt_succ _, nmB rfl⟩ | exact fun _ => rfl | exact Nat.le_of_ble_eq_true rfl | exact ⟨_, rfl, fun _ => rfl⟩ | refine ⟨?_, ?_⟩ | fail); first | done | fail) ?_)))))) (fun g8 => kSkip (kBk (kReg (kMovC rfl (kAdd rfl rfl (by omega) (kMovC rfl (kDone ?_))))))))))))))))))))) (fun g7 => kGF rfl (kGF rfl (kGF rfl (kGF rfl (kGF rfl (kPickF rfl (kMovC rfl (kDone (kCondF rfl (kSkip (kBk (kReg (kMovC rfl (kAdd rfl rfl (by omega) (kMovC rfl (kDone ?_))))))))))))))))))))))))))))))))))) (fun g6 => kGF rfl (kGF rfl (kGF rfl (kGF rfl (kGF rfl (kGT rfl (kPickF rfl (kMovC rfl (kGT rfl (kUn rfl rfl (kPickT rfl (kMovC rfl (kMovC rfl (kGT rfl (kMovC rfl (kGT rfl (kMovC rfl (kGT rfl (kIadR rfl rfl rfl (by omega) (kGT rfl (kLoadD rfl rfl (kGT rfl (kBin rfl rfl rfl (kPickT rfl (kMovC rfl (kDone (kCondN rfl (fun g9 => kSeq (kReg (kMovC rfl (kDone (kRet (endRet (ra := [.one (.d _)]) rfl (by (repeat' first | exact trivial | exact rfl | exact .inl rfl | exact nodupB_sound rfl | exact .inl (Nat.zero_lt_succ _) | exact .inr ⟨Nat.zero_lt_succ _, nmB rfl⟩ | exact fun _ => rfl | exact Nat.le_of_ble_eq_true rfl | exact ⟨_, rfl, fun _ => rfl⟩ | refine ⟨?_, ?_⟩ | fail); first | done | fail) ?_)))))) (fun g9 => kSkip (kBk (kReg (kMovC rfl (kAdd rfl rfl (by omega) (kMovC rfl (kDone ?_)))))))))))))))))))))))))))))))))))))))))))))))))))))))))))))))))))) (fun g0 => kExit (kExC (kExI (kExB (kSeq (kReg (kMovC rfl (kDone (kRet (endRet (ra := [.one (.d _)]) rfl (by (repeat' first | exact trivial | exact rfl | exact .inl rfl | exact nodupB_sound rfl | exact .inl (Nat.zero_lt_succ _) | exact .inr ⟨Nat.zero_lt_succ _, nmB rfl⟩ | exact fun _ => rfl | exact Nat.le_of_ble_eq_true rfl | exact ⟨_, rfl, fun _ => rfl⟩ | refine ⟨?_, ?_⟩ | fail); first | done | fail) ?_))))))))))))))))))
  all_goals try simp only [decide_eq_true_eq, decide_eq_false_iff_not, beq_iff_eq, beq_eq_false_iff_ne] at *
  all_goals first
    | exact kInv ⟨⟨i + 1, by omega, labelOk_step (by omega) hl (by rw [okLetter_iff]; omega)⟩, by simp only; omega, .tab rfl ⟨.refl _, .refl _, trivial⟩⟩
    | rw [labelOk_no (b := b) (i := i) (by omega) (by rw [okLetter_iff]; omega)]
    | skip
  have hge : i = b.length := by omega
  subst hge
  rw [List.take_length] at hl
  rw [show labelOk b = true by simp only [labelOk]; rw [decide_eq_true (by omega), decide_eq_true (by omega), hl]; rfl]

def c_spec_NameOk : C := (.seq (.reg false (.op 0 [] (some 1) none false (.box 1 (.t 0))
  (.op 1 [] (some 2) none false (.mov (.v (.bool false)))
  .done)))
 (.seq (.seq (.reg false (.op 0 [] (some 4) none false (.fad (.t 1) 0)
  (.op 1 [] (some 5) none false (.load none (.t 4))
  (.op 2 [] (some 6) none false (.len (.t 5))
  (.op 3 [] (some 7) none false (.bin .gtr (.t 6) (.v (.int .i64 6)))
  .done)))))
 (.cond (.t 7)
 (.seq (.reg false (.op 0 [] (some 2) none false (.mov (.v (.bool false)))
  .done))
 .ret)
 .skip))
 (.seq (.seq (.reg false (.op 0 [] (some 3) none false (.mov (.v (.int .i64 0)))
  .done))
 (.block 0 (.loop (.seq (.seq (.reg false (.op 0 [] (some 8) none false (.mov (.t 3))
  (.op 1 [] (some 9) none false (.fad (.t 1) 0)
  (.op 2 [] (some 10) none false (.load none (.t 9))
  (.op 3 [] (some 11) none false (.len (.t 10))
  (.op 4 [] (some 12) none false (.bin .lss (.t 8) (.t 11))
  .done))))))
 (.cond (.t 12)
 .skip
 (.exit 0)))
 (.seq (.block 1 (.seq (.reg false (.op 0 [] (some 15) none false (.fad (.t 1) 0)
  (.op 1 [] (some 16) none false (.load none (.t 15))
  (.op 2 [] (some 17) none false (.mov (.t 3))
  (.op 3 [] (some 18) none false (.iad 1 (.t 16) (.t 17))
  (.op 4 [] (some 19) none false (.load none (.t 18))
  (.op 5 [] (some 20) none false (.call 20 29 [(.t 19)])
  (.op 6 [] (some 21) none false (.un .not (.t 20))
  .done))))))))
 (.cond (.t 21)
 (.seq (.reg false (.op 0 [] (some 2) none false (.mov (.v (.bool false)))
  .done))
 .ret)
 .skip)))
 (.reg false (.op 0 [] (some 13) none false (.mov (.t 3))
  (.op 1 [] (some 14) none false (.bin .add (.t 13) (.v (.int .i64 1)))
  (.op 2 [] (some 3) none false (.mov (.t 14))
  .done)))))))))
 (.seq (.reg false (.op 0 [] (some 2) none false (.mov (.v (.bool true)))
  .done))
 .ret))))
theorem dg_spec_NameOk : Try.f18.body.bind (digC Try.prog Try.f18.ntmps []) = some c_spec_NameOk := by kernel_rfl
theorem rs_spec_NameOk : resSlots Try.prog Try.f18 = some [.s 2] := by kernel_rfl
theorem ok_spec_NameOk (a : List (List UInt8)) (ha : a.length ≤ 4194304) (hb : ∀ b ∈ a, b.length ≤ 4194304) :
    FnOK Try.prog 18 [.agg [.d (encBB a)]] (fun ra _ => ra = [.one (.d (.sc (.bool (nameOk a))))]) := by
  refine FnOK.ofK Try.func18 (by kernel_rfl) dg_spec_NameOk rs_spec_NameOk rfl rfl ?_
  unfold c_spec_NameOk
  refine kSeq (kReg (kBox rfl rfl rfl rfl rfl (kMovC rfl (kDone (kSeq (kSeq (kReg (kFadP rfl rfl (kLoadP rfl rfl rfl (kLenR rfl rfl (kBin rfl rfl rfl (kDone (kCondP rfl (fun g0 => kSeq (kReg (kMovC rfl (kDone (kRet (endRet (ra := [.one (.d _)]) rfl (by (repeat' first | exact trivial | exact rfl | exact .inl rfl | exact nodupB_sound rfl | exact .inl (Nat.zero_lt_succ _) | exact .inr ⟨Nat.zero_lt_succ _, nmB rfl⟩ | exact fun _ => rfl | exact Nat.le_of_ble_eq_true rfl | exact ⟨_, rfl, fun _ => rfl⟩ | refine ⟨?_, ?_⟩ | fail); first | done | fail) ?_)))))) (fun g0 => kSkip (kSeq (kSeq (kReg (kMovC rfl (kDone (kBlock ?_))))))))))))))))))))
  · rw [show nameOk a = false by simp only [nameOk]; rw [decide_eq_false (by omega)]; rfl]
  refine kLoop (α := { i : Nat // i ≤ a.length ∧ (a.take i).all labelOk = true })
    (fun y => ⟨tabSl [(1, .c (.ptr (rid 1 0) 1 0)), (3, .i y.1)], obTab 1 [(rid 1 0, ⟨1, 0, .box [.d (encBB a)]⟩)], []⟩) (fun y => a.length - y.1) ⟨0, by simp⟩
    (.norm (by repeat' first | exact trivial | exact rfl | exact .inl rfl | refine ⟨_, rfl, ?_⟩ | refine ⟨?_, ?_⟩ | fail) (by repeat' first | exact trivial | exact rfl | exact .inl rfl | refine ⟨_, rfl, ?_⟩ | refine ⟨?_, ?_⟩ | fail)) ?_
  rintro ⟨i, hi, hl⟩
  simp only
  refine kSeq (kSeq (kReg (kMovC rfl (kFadP rfl rfl (kLoadP rfl rfl rfl (kLenR rfl rfl (kBin rfl rfl rfl (kDone (kCondP rfl (fun g0 => kSkip (kSeq (kBlock (kSeq (kReg (kFadP rfl rfl (kLoadP rfl rfl rfl (kMovC rfl (kIadR rfl rfl rfl (by omega) (kLoadD rfl rfl (kCallD (ok_spec_LabelOk _ (by first | assumption | omega | solve_by_elim [List.getElem_mem])) ⟨rfl, trivial⟩ rfl rfl rfl rfl rfl (kUn rfl rfl (kDone (kCondN rfl (fun g1 => kSeq (kReg (kMovC rfl (kDone (kRet (endRet (ra := [.one (.d _)]) rfl (by (repeat' first | exact trivial | exact rfl | exact .inl rfl | exact nodupB_sound rfl | exact .inl (Nat.zero_lt_succ _) | exact .inr ⟨Nat.zero_lt_succ _, nmB rfl⟩ | exact fun _ => rfl | exact Nat.le_of_ble_eq_true rfl | exact ⟨_, rfl, fun _ => rfl⟩ | refine ⟨?_, ?_⟩ | fail); first | done | fail) ?_)))))) (fun g1 => kSkip (kBk (kReg (kMovC rfl (kAdd rfl rfl (by omega) (kMovC rfl (kDone ?_))))))))))))))))))))) (fun g0 => kExit (kExC (kExI (kExB (kSeq (kReg (kMovC rfl (kDone (kRet (endRet (ra := [.one (.d _)]) rfl (by (repeat' first | exact trivial | exact rfl | exact .inl rfl | exact nodupB_sound rfl | exact .inl (Nat.zero_lt_succ _) | exact .inr ⟨Nat.zero_lt_succ _, nmB rfl⟩ | exact fun _ => rfl | exact Nat.le_of_ble_eq_true rfl | exact ⟨_, rfl, fun _ => rfl⟩ | refine ⟨?_, ?_⟩ | fail); first | done | fail) ?_)))))))))))))))))))
  · rename_i h
    rw [show nameOk a = false by simp only [nameOk]; rw [all_no (i := i) (by omega) (by assumption), Bool.and_false]]
  · exact kInv ⟨⟨i + 1, by omega, all_step (by omega) hl (by assumption)⟩, by simp only; omega, (.norm (by repeat' first | exact trivial | exact rfl | exact .inl rfl | refine ⟨_, rfl, ?_⟩ | refine ⟨?_, ?_⟩ | fail) (by repeat' first | exact trivial | exact rfl | exact .inl rfl | refine ⟨_, rfl, ?_⟩ | refine ⟨?_, ?_⟩ | fail))⟩
  · have hge : i = a.length := by omega
    subst hge
    rw [List.take_length] at hl
    rw [show nameOk a = true by simp only [nameOk]; rw [decide_eq_true (by omega), hl]; rfl]

def c_spec_l2own : C := (.seq (.reg false (.op 0 [] (some 1) none false (.box 1 (.t 0))
  (.op 1 [] (some 2) none false (.alloc 2 [(.n 1)])
  .done)))
 (.seq (.reg false (.op 0 [] (some 3) none false (.alloc 3 [(.n 1)])
  .done))
 (.seq (.seq (.reg false (.op 0 [] (some 4) none false (.mov (.v (.int .i64 0)))
  .done))
 (.block 0 (.loop (.seq (.seq (.reg false (.op 0 [] (some 5) none false (.mov (.t 4))
  (.op 1 [] (some 6) none false (.fad (.t 1) 0)
  (.op 2 [] (some 7) none false (.load none (.t 6))
  (.op 3 [] (some 8) none false (.len (.t 7))
  (.op 4 [] (some 9) none false (.bin .lss (.t 5) (.t 8))
  .done))))))
 (.cond (.t 9)
 .skip
 (.exit 0)))
 (.seq (.block 1 (.reg true (.op 0 [] (some 12) none true (.fad (.t 3) 0)
  (.op 1 [] (some 13) none true (.load none (.t 12))
  (.op 3 [] (some 15) none true (.fad (.t 1) 0)
  (.op 4 [] (some 16) none true (.load none (.t 15))
  (.op 5 [] (some 17) none true (.mov (.t 4))
  (.op 6 [] (some 18) none true (.iad 1 (.t 16) (.t 17))
  (.op 7 [] (some 19) none true (.load none (.t 18))
  (.op 2 [] (some 14) none false (.lit 14 1 [(.v (.int .u8 0))] 0 [])
  (.op 8 [7, 4] (some 20) none false (.app 20 1 1 (.t 14) (.t 19))
  (.op 9 [7, 4] (some 21) none false (.lit 21 1 [(.n 1)] 1 [(0, 1, (.t 20))])
  (.op 10 [1, 7, 4] (some 22) none false (.app 22 1 24 (.t 13) (.t 21))
  (.op 11 [] (some 23) none true (.fad (.t 3) 0)
  (.op 12 [1, 4, 7] none none false (.store none (.t 23) (.t 22))
  .done)))))))))))))))
 (.reg false (.op 0 [] (some 10) none false (.mov (.t 4))
  (.op 1 [] (some 11) none false (.bin .add (.t 10) (.v (.int .i64 1)))
  (.op 2 [] (some 4) none false (.mov (.t 11))
  .done)))))))))
 (.seq (.reg false (.op 0 [] (some 24) none false (.load (some 1) (.t 3))
  (.op 1 [] none none false (.store (some 1) (.t 2) (.t 24))
  .done)))
 .ret))))
theorem dg_spec_l2own : Try.f19.body.bind (digC Try.prog Try.f19.ntmps []) = some c_spec_l2own := by kernel_rfl
theorem rs_spec_l2own : resSlots Try.prog Try.f19 = some [.m 2 (some 1)] := by kernel_rfl
theorem ok_spec_l2own (a : List (List UInt8)) (ha : a.length ≤ 4194304) (hb : ∀ b ∈ a, b.length ≤ 4194304) :
    FnOK Try.prog 19 [.agg [.d (encBB a)]] (fun ra _ => ra = [.agg [.own true (encBB a)]]) := by
  refine FnOK.ofK Try.func19 (by kernel_rfl) dg_spec_l2own rs_spec_l2own rfl rfl ?_
  unfold c_spec_l2own
  refine kSeq (kReg (kBox rfl rfl rfl rfl rfl (kAlloc rfl rfl (kDone (kSeq (kReg (kAlloc rfl rfl (kDone (kSeq (kSeq (kReg (kMovC rfl (kDone (kBlock ?_))))))))))))))
  refine kSub (Sub.nilBox (id := rid 3 0) (id2 := rid 5000 0) (j := 0) rfl rfl rfl (by decide) (by decide)) ?_
  refine kLoop (α := { i : Nat // i ≤ a.length })
    (fun y => ⟨tabSl [(1, .c (.ptr (rid 1 0) 1 0)), (2, .c (.ptr (rid 2 0) 1 0)), (3, .c (.ptr (rid 3 0) 1 0)), (4, .i y.1)],
      obTab 1 [(rid 1 0, ⟨1, 0, .box [.d (encBB a)]⟩), (rid 2 0, ⟨1, 0, .box [.nil 1]⟩), (rid 3 0, ⟨1, 0, .box [.arr (rid 5000 0) 1]⟩), (rid 5000 0, ⟨1, 0, .arr true (encBB (a.take y.1))⟩)], []⟩) (fun y => a.length - y.1) ⟨0, by simp⟩
    (.norm (by repeat' first | exact trivial | exact rfl | exact .inl rfl | exact .inl (congrArg (fun z : Int => AC.d (.sc (.int .i64 z))) (by first | omega | (simp only; omega) | (simp; try omega))) | refine ⟨_, rfl, ?_⟩ | refine ⟨?_, ?_⟩ | fail) (by repeat' first | exact trivial | exact rfl | exact .inl rfl | exact .inl (congrArg (fun z : Int => AC.d (.sc (.int .i64 z))) (by first | omega | (simp only; omega) | (simp; try omega))) | refine ⟨_, rfl, ?_⟩ | refine ⟨?_, ?_⟩ | fail)) ?_
  rintro ⟨i, hi⟩
  simp only
  have hlen : (a.take i).length = i := by simp; omega
  rcases Nat.lt_or_ge i a.length with hlt | hge
  · have hbi := hb _ (List.getElem_mem hlt)
    refine kSeq (kSeq (kReg (kMovC rfl (kFadP rfl rfl (kLoadP rfl rfl rfl (kLenR rfl rfl (kBin rfl rfl rfl (kDone (kCondP rfl (fun g0 => kSkip (kSeq (kBlock (kRegD (kFadP rfl rfl (kLoadP rfl rfl rfl (kFadP rfl rfl (kLoadP rfl rfl rfl (kMovC rfl (kIadR rfl rfl rfl (by omega) (kLoadD rfl rfl (kLit rfl rfl rfl rfl (kRelK rfl rfl (kAppN rfl rfl rfl (src_encB _ _) rfl rfl rfl rfl (by omega) (kRelK rfl rfl (kLit rfl rfl rfl rfl (kRelF rfl rfl (kAppR1 rfl rfl rfl rfl rfl rfl rfl rfl (by omega) (kFadP rfl rfl (kRelF rfl rfl (kStoreP rfl rfl rfl rfl (kDone (kH (kBk (kReg (kMovC rfl (kAdd rfl rfl (by omega) (kMovC rfl (kDone ?_))))))))))))))))))))))))))))) (fun g0 => (by omega)))))))))))
    exact kInv ⟨⟨i + 1, by omega⟩, by simp only; omega, (.norm (by repeat' first | exact trivial | exact rfl | exact .inl rfl | exact .inl (congrArg (fun z : Int => AC.d (.sc (.int .i64 z))) (by first | omega | (simp only; omega) | (simp; try omega))) | (rw [← List.take_append_getElem (by assumption)]; rfl) | refine ⟨_, rfl, ?_⟩ | refine ⟨?_, ?_⟩ | fail) (by repeat' first | exact trivial | exact rfl | exact .inl rfl | exact .inl (congrArg (fun z : Int => AC.d (.sc (.int .i64 z))) (by first | omega | (simp only; omega) | (simp; try omega))) | (rw [← List.take_append_getElem (by assumption)]; rfl) | refine ⟨_, rfl, ?_⟩ | refine ⟨?_, ?_⟩ | fail))⟩
  · refine kSeq (kSeq (kReg (kMovC rfl (kFadP rfl rfl (kLoadP rfl rfl rfl (kLenR rfl rfl (kBin rfl rfl rfl (kDone (kCondP rfl (fun g0 => (by omega)) (fun g0 => kExit (kExC (kExI (kExB (kSeq (kReg (kLoadP rfl rfl rfl (kStoreP rfl rfl rfl rfl (kDone (kRet (endRet (ra := [.agg [(.own true _)]]) rfl (by (repeat' first | exact trivial | exact rfl | exact .inl rfl | exact nodupB_sound rfl | exact .inl (Nat.zero_lt_succ _) | exact .inr ⟨Nat.zero_lt_succ _, nmB rfl⟩ | exact fun _ => rfl | exact Nat.le_of_ble_eq_true rfl | exact ⟨_, rfl, fun _ => rfl⟩ | refine ⟨?_, ?_⟩ | fail); first | done | fail) ?_))))))))))))))))))))
    rw [show i = a.length by omega, List.take_length]

def c_spec_Child : C := (.seq (.reg false (.op 0 [] (some 2) none false (.box 2 (.t 0))
  (.op 1 [] (some 4) none false (.alloc 4 [(.n 1)])
  (.op 2 [] (some 5) none false (.mov (.v (.bool false)))
  .done))))
 (.seq (.reg false (.op 0 [] (some 7) none false (.load (some 1) (.t 2))
  (.op 1 [] (some 8) none false (.mov (.t 1))
  (.op 2 [] (some 9) none false (.call 9 26 [(.t 7), (.t 8)])
  (.op 3 [] (some 6) none false (.alloc 6 [(.n 1)])
  (.op 4 [] none none false (.store (some 1) (.t 6) (.t 9))
  .done))))))
 (.seq (.seq (.reg false (.op 0 [] (some 10) none false (.load (some 1) (.t 2))
  (.op 1 [] (some 11) none false (.call 11 18 [(.t 10)])
  (.op 2 [] (some 12) none false (.un .not (.t 11))
  (.op 3 [] (some 13) none false (.mov (.t 12))
  (.op 4 [] (some 14) (some (13, false)) false (.load (some 1) (.t 6))
  (.op 5 [] (some 15) (some (13, false)) false (.call 15 18 [(.t 14)])
  (.op 6 [] (some 16) (some (13, false)) false (.un .not (.t 15))
  (.op 7 [] (some 17) none false (.pick (.t 13) (.v (.bool true)) (.t 16))
  .done)))))))))
 (.cond (.t 17)
 (.seq (.reg false (.op 0 [] (some 18) none false (.build [(.n 1)] [])
  (.op 1 [] none none false (.store (some 1) (.t 4) (.t 18))
  (.op 2 [] (some 5) none false (.mov (.v (.bool false)))
  .done))))
 .ret)
 .skip))
 (.seq (.reg false (.op 0 [] (some 19) none false (.load (some 1) (.t 6))
  (.op 1 [] (some 20) none false (.call 20 19 [(.t 19)])
  (.op 2 [] none none false (.store (some 1) (.t 4) (.t 20))
  (.op 3 [] (some 5) none false (.mov (.v (.bool true)))
  .done)))))
 .ret))))
theorem dg_spec_Child : Try.f12.body.bind (digC Try.prog Try.f12.ntmps []) = some c_spec_Child := by kernel_rfl
theorem rs_spec_Child : resSlots Try.prog Try.f12 = some [.m 4 (some 1), .s 5] := by kernel_rfl
theorem ok_spec_Child (a : List (List UInt8)) (l : List UInt8) (ha : (l :: a).length ≤ 4194304) (hb : ∀ b ∈ l :: a, b.length ≤ 4194304) :
    FnOK Try.prog 12 [.agg [.d (encBB a)], .one (.d (encB l))] (fun ra _ => ra = [.agg [.own true (encBB (childN a l))], .one (.d (.sc (.bool (childOk a l))))]) := by
  refine FnOK.ofK Try.func12 (by kernel_rfl) dg_spec_Child rs_spec_Child rfl rfl ?_
  unfold c_spec_Child
  have ha' : a.length + 1 ≤ 4194304 := ha
  have hb' : ∀ b ∈ a, b.length ≤ 4194304 := fun b h => hb b (List.mem_cons_of_mem _ h)
  refine kSeq (kReg (kBox rfl rfl rfl rfl rfl (kAlloc rfl rfl (kMovC rfl (kDone (kSeq (kReg (kLoadP rfl rfl rfl (kMovC rfl (kCallD2 (ok_spec_l2child _ _ (by first | assumption | omega | solve_by_elim [List.getElem_mem])) ⟨⟨⟨rfl, trivial⟩, Nat.le_of_ble_eq_true rfl⟩, rfl, trivial⟩ rfl rfl rfl rfl (kAlloc rfl rfl (kStoreP rfl rfl rfl rfl (kDone (kSeq (kSeq (kReg (kLoadP rfl rfl rfl (kCallD (ok_spec_NameOk _ (by first | assumption | omega | solve_by_elim [List.getElem_mem]) (by first | assumption | omega | solve_by_elim [List.getElem_mem])) ⟨⟨⟨rfl, trivial⟩, Nat.le_of_ble_eq_true rfl⟩, trivial⟩ rfl rfl rfl rfl rfl (kUn rfl rfl (kMovC rfl (kGN rfl (fun g0 => kGF rfl (kGF rfl (kGF rfl (kPickT rfl (kMovC rfl (kDone (kCondT rfl (kSeq (kReg (kBuild rfl (kStoreP rfl rfl rfl rfl (kMovC rfl (kDone (kRet (endRet (ra := [.agg [(.own true _)], .one (.d _)]) rfl (by (repeat' first | exact trivial | exact rfl | exact .inl rfl | exact nodupB_sound rfl | exact .inl (Nat.zero_lt_succ _) | exact .inr ⟨Nat.zero_lt_succ _, nmB rfl⟩ | exact fun _ => rfl | exact Nat.le_of_ble_eq_true rfl | exact ⟨_, rfl, fun _ => rfl⟩ | refine ⟨?_, ?_⟩ | fail); first | done | fail) ?_))))))))))))))) (fun g0 => kGT rfl (kLoadP rfl rfl rfl (kGT rfl (kCallD (ok_spec_NameOk _ (by first | assumption | omega | solve_by_elim [List.getElem_mem]) (by first | assumption | omega | solve_by_elim [List.getElem_mem])) ⟨⟨⟨rfl, trivial⟩, Nat.le_of_ble_eq_true rfl⟩, trivial⟩ rfl rfl rfl rfl rfl (kGT rfl (kUn rfl rfl (kPickF rfl (kMovC rfl (kDone (kCondN rfl (fun g1 => kSeq (kReg (kBuild rfl (kStoreP rfl rfl rfl rfl (kMovC rfl (kDone (kRet (endRet (ra := [.agg [(.own true _)], .one (.d _)]) rfl (by (repeat' first | exact trivial | exact rfl | exact .inl rfl | exact nodupB_sound rfl | exact .inl (Nat.zero_lt_succ _) | exact .inr ⟨Nat.zero_lt_succ _, nmB rfl⟩ | exact fun _ => rfl | exact Nat.le_of_ble_eq_true rfl | exact ⟨_, rfl, fun _ => rfl⟩ | refine ⟨?_, ?_⟩ | fail); first | done | fail) ?_)))))))) (fun g1 => kSkip (kSeq (kReg (kLoadP rfl rfl rfl (kCall1 true (ok_spec_l2own _ (by first | assumption | omega | solve_by_elim [List.getElem_mem]) (by first | assumption | omega | solve_by_elim [List.getElem_mem])) ⟨⟨⟨rfl, trivial⟩, Nat.le_of_ble_eq_true rfl⟩, trivial⟩ rfl rfl rfl (fun _ => (kStoreP rfl rfl rfl rfl (kMovC rfl (kDone (kRet (endRet (ra := [.agg [(.own true _)], .one (.d _)]) rfl (by (repeat' first | exact trivial | exact rfl | exact .inl rfl | exact nodupB_sound rfl | exact .inl (Nat.zero_lt_succ _) | exact .inr ⟨Nat.zero_lt_succ _, nmB rfl⟩ | exact fun _ => rfl | exact Nat.le_of_ble_eq_true rfl | exact ⟨_, rfl, fun _ => rfl⟩ | refine ⟨?_, ?_⟩ | fail); first | done | fail) ?_))))))))))))))))))))))))))))))))))))))))))
  · simp [childN, childOk, g0, encBB]
  · simp [childN, childOk, g0, g1, encBB]
  · simp [childN, childOk, g0, g1]

def c_laws_toByteS : C := (.seq (.reg false (.op 0 [] (some 2) none false (.mov (.n 1))
  .done))
 (.seq (.reg false (.op 0 [] (some 5) none false (.mov (.t 0))
  (.op 1 [] (some 6) none false (.len (.t 5))
  (.op 2 [] (some 7) none false (.mk 7 1 [(.v (.int .u8 0))] 1 (.t 6))
  (.op 3 [] (some 3) none false (.mov (.t 7))
  .done)))))
 (.seq (.seq (.reg false (.op 0 [] (some 4) none false (.mov (.v (.int .i64 0)))
  .done))
 (.block 0 (.loop (.seq (.seq (.reg false (.op 0 [] (some 8) none false (.mov (.t 4))
  (.op 1 [] (some 9) none false (.mov (.t 0))
  (.op 2 [] (some 10) none false (.len (.t 9))
  (.op 3 [] (some 11) none false (.bin .lss (.t 8) (.t 10))
  .done)))))
 (.cond (.t 11)
 .skip
 (.exit 0)))
 (.seq (.block 1 (.reg false (.op 0 [] (some 14) none false (.mov (.t 3))
  (.op 1 [] (some 15) none false (.mov (.t 4))
  (.op 2 [] (some 16) none false (.mov (.t 0))
  (.op 3 [] (some 17) none false (.mov (.t 4))
  (.op 4 [] (some 18) none false (.iad 1 (.t 16) (.t 17))
  (.op 5 [] (some 19) none false (.load none (.t 18))
  (.op 6 [] (some 20) none false (.iad 1 (.t 14) (.t 15))
  (.op 7 [] none none false (.store none (.t 20) (.t 19))
  .done))))))))))
 (.reg false (.op 0 [] (some 12) none false (.mov (.t 4))
  (.op 1 [] (some 13) none false (.bin .add (.t 12) (.v (.int .i64 1)))
  (.op 2 [] (some 4) none false (.mov (.t 13))
  .done)))))))))
 (.seq (.reg false (.op 0 [] (some 21) none false (.mov (.t 3))
  (.op 1 [] (some 2) none false (.mov (.t 21))
  .done)))
 .ret))))
theorem dg_laws_toByteS : Try.f13.body.bind (digC Try.prog Try.f13.ntmps []) = some c_laws_toByteS := by kernel_rfl
theorem rs_laws_toByteS : resSlots Try.prog Try.f13 = some [.s 2] := by kernel_rfl
theorem ok_laws_toByteS (a : List UInt8) (ha : a.length ≤ 4194304) :
    FnOK Try.prog 13 [.one (.d (encB a))] (fun ra _ => ra = [.one (.own true (encB a))]) := by
  refine FnOK.ofK Try.func13 (by kernel_rfl) dg_laws_toByteS rs_laws_toByteS rfl rfl ?_
  unfold c_laws_toByteS
  refine kSeq (kReg (kMovC rfl (kDone ?_)))
  refine kSeq (kReg (kMovC rfl (kLen rfl rfl rfl ?_)))
  rw [len_encB]
  refine kMk rfl (by omega) rfl rfl rfl rfl rfl (kMovC rfl (kDone ?_))
  rw [show (Int.toNat (a.length : Int)) = a.length from rfl, encB_zeros]
  refine kSeq (kSeq (kReg (kMovC rfl (kDone (kBlock ?_)))))
  refine kLoop (α := { i : Nat // i ≤ a.length })
    (fun y => ⟨tabSl [(0, .dv (encB a)), (3, .c (.arr (rid 7 0) 1)), (4, .i y.1)], upd (St.init [.one (.d (encB a))]).ob (rid 7 0) ⟨1, y.1, .arr true (encB (a.take y.1 ++ (List.replicate a.length 0).drop y.1))⟩, []⟩) (fun y => a.length - y.1) ⟨0, by simp⟩
    (.tab rfl ⟨.refl _, .refl _, .refl _, trivial⟩) ?_
  rintro ⟨i, hi⟩
  simp only
  refine kSeq (kSeq (kReg ?_))
  refine kMovC rfl (kMovC rfl (kLen rfl rfl rfl (kBin rfl rfl rfl (kDone ?_))))
  rw [len_encB]
  have hl1 : (a.take i).length = i := by simp; omega
  refine kCond rfl (fun h1 => ?_) (fun h1 => ?_)
  · have hlt : i < a.length := by simp at h1; omega
    refine kSkip (kSeq (kBlock (kReg ?_)))
    refine kMovC rfl (kMovC rfl (kMovC rfl (kMovC rfl (kIadD rfl rfl rfl rfl ?_ ?_))))
    · rw [len_encB]; omega
    rw [row_encB' a i hlt]
    refine kLoadD rfl rfl (kIadA rfl rfl rfl rfl ?_ ?_)
    · rw [len_encB]; simp; omega
    refine kStoreE1 rfl rfl rfl rfl (by simp [encB, DV.esz]) (kDone (kBk ?_))
    rw [setRow_encB' _ _ _ (by simp; omega)]
    refine kReg (kMovC rfl (kAdd rfl rfl ?_ (kMovC rfl (kDone (kInv ?_)))))
    · omega
    refine ⟨⟨i + 1, hlt⟩, by simp only; omega, .tab ?_ ⟨.refl _, .refl _, .refl _, trivial⟩⟩
    refine Eq.trans ?_ (upd_upd _ _ _ _).symm
    refine congrArg (upd _ _) ?_
    show _ = Ob.mk _ _ (OK.arr _ (encB ((a.take i ++ (List.replicate a.length 0).drop i).set i a[i])))
    rw [take_set_succ _ _ _ _ (by simpa using hlt) hl1, List.take_append_getElem]
    rfl
  · refine kExit (kExC (kExI (kExB ?_)))
    have hge : i = a.length := by simp at h1; omega
    subst hge
    refine kSeq (kReg (kMovC rfl (kMovC rfl (kDone (kRet ?_)))))
    refine endRet (ra := [.one (.own true _)]) rfl ⟨⟨⟨⟨_, rfl, fun _ => rfl⟩, .inl Nat.zero_lt_one⟩, trivial⟩, nodupB_sound rfl, trivial, trivial⟩ ?_
    simp

def c_laws_toByteSS : C := (.seq (.reg false (.op 0 [] (some 2) none false (.mov (.n 1))
  .done))
 (.seq (.reg false (.op 0 [] (some 5) none false (.mov (.t 0))
  (.op 1 [] (some 6) none false (.len (.t 5))
  (.op 2 [] (some 7) none false (.mk 7 1 [(.n 1)] 24 (.t 6))
  (.op 3 [] (some 3) none false (.mov (.t 7))
  .done)))))
 (.seq (.seq (.reg false (.op 0 [] (some 4) none false (.mov (.v (.int .i64 0)))
  .done))
 (.block 0 (.loop (.seq (.seq (.reg false (.op 0 [] (some 8) none false (.mov (.t 4))
  (.op 1 [] (some 9) none false (.mov (.t 0))
  (.op 2 [] (some 10) none false (.len (.t 9))
  (.op 3 [] (some 11) none false (.bin .lss (.t 8) (.t 10))
  .done)))))
 (.cond (.t 11)
 .skip
 (.exit 0)))
 (.seq (.block 1 (.reg false (.op 0 [] (some 14) none false (.mov (.t 3))
  (.op 1 [] (some 15) none false (.mov (.t 4))
  (.op 2 [] (some 16) none false (.mov (.t 0))
  (.op 3 [] (some 17) none false (.mov (.t 4))
  (.op 4 [] (some 18) none false (.iad 1 (.t 16) (.t 17))
  (.op 5 [] (some 19) none false (.load none (.t 18))
  (.op 6 [] (some 20) none false (.call 20 13 [(.t 19)])
  (.op 7 [] (some 21) none false (.iad 1 (.t 14) (.t 15))
  (.op 8 [] none none false (.store none (.t 21) (.t 20))
  .done)))))))))))
 (.reg false (.op 0 [] (some 12) none false (.mov (.t 4))
  (.op 1 [] (some 13) none false (.bin .add (.t 12) (.v (.int .i64 1)))
  (.op 2 [] (some 4) none false (.mov (.t 13))
  .done)))))))))
 (.seq (.reg false (.op 0 [] (some 22) none false (.mov (.t 3))
  (.op 1 [] (some 2) none false (.mov (.t 22))
  .done)))
 .ret))))
theorem dg_laws_toByteSS : Try.f20.body.bind (digC Try.prog Try.f20.ntmps []) = some c_laws_toByteSS := by kernel_rfl
theorem rs_laws_toByteSS : resSlots Try.prog Try.f20 = some [.s 2] := by kernel_rfl
theorem ok_laws_toByteSS (a : List (List UInt8)) (ha : a.length ≤ 4194304) (hb : ∀ b ∈ a, b.length ≤ 4194304) :
    FnOK Try.prog 20 [.one (.d (encBB a))] (fun ra _ => ra = [.one (.own true (encBB a))]) := by
  refine FnOK.ofK Try.func20 (by kernel_rfl) dg_laws_toByteSS rs_laws_toByteSS rfl rfl ?_
  unfold c_laws_toByteSS
  refine kSeq (kReg (kMovC rfl (kDone ?_)))
  refine kSeq (kReg (kMovC rfl (kLen rfl rfl rfl ?_)))
  rw [len_encBB]
  refine kMk rfl (by omega) rfl rfl rfl rfl rfl (kMovC rfl (kDone ?_))
  rw [show (Int.toNat (a.length : Int)) = a.length from rfl, encBB_zeros]
  refine kSeq (kSeq (kReg (kMovC rfl (kDone (kBlock ?_)))))
  refine kLoop (α := { p : Nat × Nat // p.1 ≤ a.length ∧ 1 ≤ p.2 })
    (fun y => ⟨tabSl [(0, .dv (encBB a)), (3, .c (.arr (rid 7 0) 1)), (4, .i y.1.1)], obTab y.1.2 [(rid 7 0, ⟨1, y.1.1, .arr true (encBB (a.take y.1.1 ++ (List.replicate a.length []).drop y.1.1))⟩)], []⟩) (fun y => a.length - y.1.1) ⟨(0, 2), by simp⟩
    (.canon (V := 1) (.set (VB.mono (.init _) (by omega)) (by simp)) (by simp) rfl ⟨.refl _, .refl _, .refl _, trivial⟩ ⟨rfl, trivial⟩) ?_
  rintro ⟨⟨i, V⟩, hi, hV⟩
  simp only at hi hV ⊢
  refine kSeq (kSeq (kReg ?_))
  refine kMovC rfl (kMovC rfl (kLen rfl rfl rfl (kBin rfl rfl rfl (kDone ?_))))
  rw [len_encBB]
  have hl1 : (a.take i).length = i := by simp; omega
  refine kCond rfl (fun h1 => ?_) (fun h1 => ?_)
  · have hlt : i < a.length := by simp at h1; omega
    refine kSkip (kSeq (kBlock (kReg ?_)))
    refine kMovC rfl (kMovC rfl (kMovC rfl (kMovC rfl (kIadD rfl rfl rfl rfl ?_ ?_))))
    · rw [len_encBB]; omega
    rw [show (encBB a).row (i : Int).toNat = [encB a[i]] from row_encBB a i hlt]
    refine kLoadD rfl rfl ?_
    refine kCall1 false (ok_laws_toByteS a[i] (hb _ (List.getElem_mem hlt))) ⟨rfl, trivial⟩ rfl rfl rfl fun os => ?_
    refine kIadA rfl rfl rfl rfl ?_ ?_
    · rw [len_encBB]; simp; omega
    refine kStoreEA rfl rfl rfl rfl rfl Nat.zero_lt_one (by simp [encBB, DV.esz]) (kDone (kBk ?_))
    rw [setRow_encBB _ _ _ (by simp; omega)]
    refine kReg (kMovC rfl (kAdd rfl rfl (by omega) (kMovC rfl (kDone (kInv ?_)))))
    refine ⟨⟨(i + 1, V + 3), hlt, by simp only; omega⟩, by simp only; omega, .canon (V := V + 2) (.set (.kill (.after (.tab ?_))) ?_) (by simp) rfl ⟨.refl _, .refl _, .refl _, trivial⟩ ⟨?_, trivial⟩⟩
    · simpa using hV
    · simp only; omega
    · show Ob.mk _ _ (OK.arr _ (encBB ((a.take i ++ (List.replicate a.length []).drop i).set i a[i]))) = _
      rw [take_set_succ _ _ _ _ (by simpa using hlt) hl1, List.take_append_getElem]
      rfl
  · refine kExit (kExC (kExI (kExB ?_)))
    have hge : i = a.length := by simp at h1; omega
    subst hge
    refine kSeq (kReg (kMovC rfl (kMovC rfl (kDone (kRet ?_)))))
    refine endRet (ra := [.one (.own true _)]) rfl ⟨⟨⟨⟨_, rfl, fun _ => rfl⟩, .inl Nat.zero_lt_one⟩, trivial⟩, nodupB_sound rfl, trivial, trivial⟩ ?_
    simp

def c_laws_toName : C := (.seq (.reg false (.op 0 [] (some 1) none false (.box 1 (.t 0))
  (.op 1 [] (some 2) none false (.alloc 2 [(.n 1)])
  .done)))
 (.seq (.reg false (.op 0 [] (some 3) none false (.alloc 3 [(.n 1)])
  .done))
 (.seq (.reg false (.op 0 [] (some 4) none false (.fad (.t 1) 0)
  (.op 1 [] (some 5) none false (.load none (.t 4))
  (.op 2 [] (some 6) none false (.call 6 20 [(.t 5)])
  (.op 3 [] (some 7) none false (.fad (.t 3) 0)
  (.op 4 [] none none false (.store none (.t 7) (.t 6))
  .done))))))
 (.seq (.reg false (.op 0 [] (some 8) none false (.load (some 1) (.t 3))
  (.op 1 [] none none false (.store (some 1) (.t 2) (.t 8))
  .done)))
 .ret))))
theorem dg_laws_toName : Try.f7.body.bind (digC Try.prog Try.f7.ntmps []) = some c_laws_toName := by kernel_rfl
theorem rs_laws_toName : resSlots Try.prog Try.f7 = some [.m 2 (some 1)] := by kernel_rfl
theorem ok_laws_toName (a : List (List UInt8)) (ha : a.length ≤ 4194304) (hb : ∀ b ∈ a, b.length ≤ 4194304) :
    FnOK Try.prog 7 [.agg [.d (encBB a)]] (fun ra _ => ra = [.agg [.own true (encBB a)]]) := by
  refine FnOK.ofK Try.func7 (by kernel_rfl) dg_laws_toName rs_laws_toName rfl rfl ?_
  unfold c_laws_toName
  refine kSeq (kReg (kBox rfl rfl rfl rfl rfl (kAlloc rfl rfl (kDone ?_))))
  refine kSeq (kReg (kAlloc rfl rfl (kDone ?_)))
  refine kSeq (kReg (kFadP rfl rfl (kLoadP rfl rfl rfl ?_)))
  refine kCall1 false (ok_laws_toByteSS a ha hb) ⟨rfl, trivial⟩ rfl rfl rfl fun os => ?_
  refine kFadP rfl rfl (kStoreP rfl rfl rfl rfl (kDone ?_))
  refine kSeq (kReg (kLoadP rfl rfl rfl (kStoreP rfl rfl rfl rfl (kDone (kRet ?_)))))
  refine endRet (ra := [.agg [.own true _]]) rfl ⟨⟨⟨⟨⟨⟨_, rfl, fun _ => rfl⟩, .inl Nat.zero_lt_one⟩, trivial⟩, Nat.le_of_ble_eq_true rfl⟩, trivial⟩, nodupB_sound rfl, ⟨trivial, trivial⟩, trivial⟩ rfl

def c_impl_within : C := (.seq (.reg false (.op 0 [] (some 6) none false (.mov (.v (.bool false)))
  .done))
 (.seq (.reg false (.op 0 [] (some 7) none false (.mov (.t 1))
  (.op 1 [] (some 8) none false (.mov (.t 0))
  (.op 2 [] (some 9) none false (.bin .leq (.t 7) (.t 8))
  (.op 3 [] (some 10) none false (.mov (.t 9))
  (.op 4 [] (some 11) (some (10, true)) false (.mov (.t 0))
  (.op 5 [] (some 12) (some (10, true)) false (.mov (.t 2))
  (.op 6 [] (some 13) (some (10, true)) false (.bin .leq (.t 11) (.t 12))
  (.op 7 [] (some 14) none false (.pick (.t 10) (.t 13) (.v (.bool false)))
  (.op 8 [] (some 6) none false (.mov (.t 14))
  .done))))))))))
 .ret))
theorem dg_impl_within : Try.f36.body.bind (digC Try.prog Try.f36.ntmps []) = some c_impl_within := by kernel_rfl
theorem rs_impl_within : resSlots Try.prog Try.f36 = some [.s 6] := by kernel_rfl
theorem ok_impl_within (n lo hi : Int) : FnOK Try.prog 36 [.one (.d (.sc (.int .i64 n))), .one (.d (.sc (.int .i64 lo))), .one (.d (.sc (.int .i64 hi)))] (fun ra _ => ra = [.one (.d (.sc (.bool (decide (lo ≤ n ∧ n ≤ hi)))))]) := by
  refine FnOK.ofK Try.func36 (by kernel_rfl) dg_impl_within rs_impl_within rfl rfl ?_
  unfold c_impl_within
  repeat' first
    | refine kSeq ?_ | refine kReg ?_ | refine kDone ?_ | refine kMovC rfl ?_ | refine kBin rfl rfl rfl ?_
    | refine kGT rfl ?_ | refine kGF rfl ?_ | refine kGU rfl ?_ | refine kG rfl (fun h => ?_) (fun h => ?_)
    | refine kPickT rfl ?_ | refine kPickF rfl ?_ | refine kPick rfl (fun h => ?_) (fun h => ?_) | refine kRet ?_
  all_goals refine endRet (ra := [.one (.d _)]) rfl ⟨⟨⟨rfl, .inl rfl⟩, trivial⟩, .nil, trivial, trivial, trivial, trivial⟩ ?_
  all_goals simp_all
  all_goals omega

def c_impl_all_byte_1 : C := (.seq (.reg false (.op 0 [] (some 3) none false (.mov (.v (.bool false)))
  .done))
 (.seq (.reg false (.op 0 [] (some 4) none false (.load none (.t 1))
  (.op 1 [] (some 5) none false (.mov (.t 0))
  (.op 2 [] (some 6) none false (.callv 6 (.t 4) [(.t 5)])
  (.op 3 [] (some 7) none false (.un .not (.t 6))
  (.op 4 [] (some 3) none false (.mov (.t 7))
  .done))))))
 .ret))
theorem dg_impl_all_byte_1 : Try.f41.body.bind (digC Try.prog Try.f41.ntmps []) = some c_impl_all_byte_1 := by kernel_rfl
theorem rs_impl_all_byte_1 : resSlots Try.prog Try.f41 = some [.s 3] := by kernel_rfl
theorem ok_impl_all_byte_1 (x : DV) (D : DV → Prop) (g : DV → Bool) (hx : D x) :
    FnOK Try.prog 41 [.one (.d x), .one (.ptr [.fv false (fcPred D g)])] (fun ra _ => ra = [.one (.d (.sc (.bool (!g x))))]) := by
  refine FnOK.ofK Try.func41 (by kernel_rfl) dg_impl_all_byte_1 rs_impl_all_byte_1 rfl rfl ?_
  unfold c_impl_all_byte_1
  refine kSeq (kReg (kMovC rfl (kDone ?_)))
  refine kSeq (kReg (kLoadC rfl rfl (kMovC rfl (kCallv rfl ⟨x, hx, rfl, rfl⟩ ⟨rfl, trivial⟩ (.inr ?_) rfl ?_ rfl ?_))))
  · rintro _ rfl; rfl
  · rintro _ rfl; exact Nat.le_of_ble_eq_true rfl
  rintro _ rfl
  refine kUn rfl rfl (kMovC rfl (kDone (kRet ?_)))
  exact endRet (ra := [.one (.d _)]) rfl ⟨⟨⟨rfl, .inl rfl⟩, trivial⟩, .nil, trivial, trivial, trivial⟩ rfl

def c_slices_IndexFunc_Lbyte_byte : C := (.seq (.reg false (.op 0 [] (some 4) none false (.mov (.v (.int .i64 0)))
  .done))
 (.seq (.seq (.reg false (.op 0 [] (some 6) none false (.mov (.t 0))
  (.op 1 [] (some 7) none false (.len (.t 6))
  (.op 2 [] (some 8) none false (.mov (.v (.int .i64 0)))
  .done))))
 (.block 0 (.loop (.seq (.reg false (.op 0 [] (some 9) none false (.bin .lss (.t 8) (.t 7))
  .done))
 (.seq (.cond (.t 9)
 .skip
 (.exit 0))
 (.seq (.block 1 (.seq (.reg false (.op 0 [] (some 10) none false (.mov (.t 8))
  (.op 1 [] (some 5) none false (.mov (.t 10))
  .done)))
 (.seq (.reg false (.op 0 [] (some 11) none false (.mov (.t 1))
  (.op 1 [] (some 12) none false (.mov (.t 0))
  (.op 2 [] (some 13) none false (.mov (.t 5))
  (.op 3 [] (some 14) none false (.iad 1 (.t 12) (.t 13))
  (.op 4 [] (some 15) none false (.load none (.t 14))
  (.op 5 [] (some 16) none false (.callv 16 (.t 11) [(.t 15)])
  .done)))))))
 (.cond (.t 16)
 (.seq (.reg false (.op 0 [] (some 17) none false (.mov (.t 5))
  (.op 1 [] (some 4) none false (.mov (.t 17))
  .done)))
 .ret)
 .skip))))
 (.reg false (.op 0 [] (some 18) none false (.bin .add (.t 8) (.v (.int .i64 1)))
  (.op 1 [] (some 8) none false (.mov (.t 18))
  .done)))))))))
 (.seq (.reg false (.op 0 [] (some 4) none false (.mov (.v (.int .i64 (-1))))
  .done))
 .ret)))
theorem dg_slices_IndexFunc_Lbyte_byte : Try.f42.body.bind (digC Try.prog Try.f42.ntmps []) = some c_slices_IndexFunc_Lbyte_byte := by kernel_rfl
theorem rs_slices_IndexFunc_Lbyte_byte : resSlots Try.prog Try.f42 = some [.s 4] := by kernel_rfl
theorem ok_slices_IndexFunc_Lbyte_byte (l : List DV) (D : DV → Prop) (g : DV → Bool) (hl : (l.length : Int) ≤ 9223372036854775807) (hD : ∀ x ∈ l, D x) :
    FnOK Try.prog 42 [.one (.d (lst l)), .one (.fv false (fcPred D g))] (fun ra _ => ra = [.one (.d (.sc (.int .i64 (idxF g l))))]) := by
  refine FnOK.ofK Try.func42 (by kernel_rfl) dg_slices_IndexFunc_Lbyte_byte rs_slices_IndexFunc_Lbyte_byte rfl rfl ?_
  unfold c_slices_IndexFunc_Lbyte_byte
  refine kSeq (kReg (kMovC rfl (kDone ?_)))
  refine kSeq (kSeq (kReg (kMovC rfl (kLen rfl rfl rfl (kMovC rfl (kDone (kBlock ?_)))))))
  rw [len_lst]
  refine kLoop (α := { i : Nat // i ≤ l.length ∧ ∀ x ∈ l.take i, g x = false })
    (fun y => ⟨tabSl [(0, .dv (lst l)), (1, .c (.fv false (fcPred D g))), (7, .i l.length), (8, .i y.1)], (St.init [.one (.d (lst l)), .one (.fv false (fcPred D g))]).ob, []⟩) (fun y => l.length - y.1) ⟨0, by simp⟩
    (.tab rfl ⟨.refl _, .refl _, .refl _, .refl _, trivial⟩) ?_
  rintro ⟨i, hi, hg⟩
  simp only
  refine kSeq (kReg (kBin rfl rfl rfl (kDone ?_)))
  refine kSeq (kCond rfl (fun h1 => ?_) (fun h1 => ?_))
  · have hlt : i < l.length := by simp at h1; omega
    refine kSkip (kSeq (kBlock (kSeq (kReg (kMovC rfl (kMovC rfl (kDone ?_)))))))
    refine kSeq (kReg (kMovC rfl (kMovC rfl (kMovC rfl (kIadD rfl rfl rfl rfl ?_ ?_)))))
    · rw [len_lst]; omega
    rw [show (lst l).row (i : Int).toNat = [l[i]] from row_lst l i hlt]
    refine kLoadD rfl rfl (kCallv rfl ⟨l[i], hD _ (List.getElem_mem hlt), rfl, rfl⟩ ⟨rfl, trivial⟩ (.inr ?_) rfl ?_ rfl ?_)
    · rintro _ rfl; rfl
    · rintro _ rfl; exact Nat.le_of_ble_eq_true rfl
    rintro _ rfl
    refine kDone (kCond rfl (fun h2 => ?_) (fun h2 => ?_))
    · refine kSeq (kReg (kMovC rfl (kMovC rfl (kDone (kRet ?_)))))
      refine endRet (ra := [.one (.d _)]) rfl ⟨⟨⟨rfl, .inl rfl⟩, trivial⟩, .nil, trivial, trivial, trivial⟩ ?_
      have : l.findIdx? g = some i := by
        rw [List.findIdx?_eq_some_iff_getElem]
        refine ⟨hlt, h2, fun j hj => ?_⟩
        simpa using hg _ (by rw [List.mem_take_iff_getElem]; exact ⟨j, by omega, rfl⟩)
      simp [idxF, this]
    · refine kSkip (kBk (kReg (kAdd rfl rfl ?_ (kMovC rfl (kDone (kInv ?_))))))
      · omega
      refine ⟨⟨i + 1, hlt, ?_⟩, by simp only; omega, .tab rfl ⟨.refl _, .refl _, .refl _, .refl _, trivial⟩⟩
      intro x hx
      rw [← List.take_append_getElem hlt, List.mem_append] at hx
      rcases hx with hx | hx
      · exact hg x hx
      · simp at hx; rw [hx]; exact h2
  · refine kExit (kExC (kExI (kExB ?_)))
    have hge : i = l.length := by simp at h1; omega
    refine kSeq (kReg (kMovC rfl (kDone (kRet ?_))))
    refine endRet (ra := [.one (.d _)]) rfl ⟨⟨⟨rfl, .inl rfl⟩, trivial⟩, .nil, trivial, trivial, trivial⟩ ?_
    have : l.findIdx? g = none := by
      rw [List.findIdx?_eq_none_iff]
      intro x hx
      rw [hge, List.take_length] at hg
      exact hg x hx
    simp [idxF, this]

def c_slices_ContainsFunc_Lbyte_byte : C := (.seq (.reg false (.op 0 [] (some 4) none false (.mov (.v (.bool false)))
  .done))
 (.seq (.reg false (.op 0 [] (some 5) none false (.mov (.t 0))
  (.op 1 [] (some 6) none false (.mov (.t 1))
  (.op 2 [] (some 7) none false (.call 7 42 [(.t 5), (.t 6)])
  (.op 3 [] (some 8) none false (.bin .geq (.t 7) (.v (.int .i64 0)))
  (.op 4 [] (some 4) none false (.mov (.t 8))
  .done))))))
 .ret))
theorem dg_slices_ContainsFunc_Lbyte_byte : Try.f40.body.bind (digC Try.prog Try.f40.ntmps []) = some c_slices_ContainsFunc_Lbyte_byte := by kernel_rfl
theorem rs_slices_ContainsFunc_Lbyte_byte : resSlots Try.prog Try.f40 = some [.s 4] := by kernel_rfl
theorem ok_slices_ContainsFunc_Lbyte_byte (l : List DV) (D : DV → Prop) (g : DV → Bool) (hl : (l.length : Int) ≤ 9223372036854775807) (hD : ∀ x ∈ l, D x) :
    FnOK Try.prog 40 [.one (.d (lst l)), .one (.fv false (fcPred D g))] (fun ra _ => ra = [.one (.d (.sc (.bool (l.any g))))]) := by
  refine FnOK.ofK Try.func40 (by kernel_rfl) dg_slices_ContainsFunc_Lbyte_byte rs_slices_ContainsFunc_Lbyte_byte rfl rfl ?_
  unfold c_slices_ContainsFunc_Lbyte_byte
  refine kSeq (kReg (kMovC rfl (kDone ?_)))
  refine kSeq (kReg (kMovC rfl (kMovC rfl ?_)))
  refine kCall1 true (ok_slices_IndexFunc_Lbyte_byte l D g hl hD) ⟨rfl, ⟨fun h => h, fun _ _ h => h⟩, trivial⟩ rfl rfl rfl fun os => ?_
  refine kBin rfl rfl rfl (kMovC rfl (kDone (kRet ?_)))
  refine endRet (ra := [.one (.d _)]) rfl ⟨⟨⟨rfl, .inl rfl⟩, trivial⟩, .nil, trivial, trivial, trivial⟩ ?_
  have : decide (idxF g l ≥ 0) = l.any g := by
    unfold idxF
    cases h : l.findIdx? g with
    | none =>
      rw [List.findIdx?_eq_none_iff] at h
      have : l.any g = false := by rw [List.any_eq_false]; intro x hx; simp [h x hx]
      rw [this]; rfl
    | some i =>
      rw [List.findIdx?_eq_some_iff_getElem] at h
      obtain ⟨h1, h2, _⟩ := h
      have : l.any g = true := by rw [List.any_eq_true]; exact ⟨_, List.getElem_mem h1, h2⟩
      rw [this]; simp
  rw [this]

def c_impl_all_byte : C := (.seq (.reg false (.op 0 [] (some 3) none false (.box 3 (.t 1))
  (.op 1 [] (some 4) none false (.mov (.v (.bool false)))
  .done)))
 (.seq (.reg false (.op 0 [] (some 5) none false (.mov (.t 0))
  (.op 1 [] (some 6) none false (.clo 41 [] [(.t 3)])
  (.op 2 [] (some 7) none false (.call 7 40 [(.t 5), (.t 6)])
  (.op 3 [] (some 8) none false (.un .not (.t 7))
  (.op 4 [] (some 4) none false (.mov (.t 8))
  .done))))))
 .ret))
theorem dg_impl_all_byte : Try.f37.body.bind (digC Try.prog Try.f37.ntmps []) = some c_impl_all_byte := by kernel_rfl
theorem rs_impl_all_byte : resSlots Try.prog Try.f37 = some [.s 4] := by kernel_rfl
theorem ok_impl_all_byte (l : List DV) (D : DV → Prop) (g : DV → Bool) (hl : (l.length : Int) ≤ 9223372036854775807) (hD : ∀ x ∈ l, D x) :
    FnOK Try.prog 37 [.one (.d (lst l)), .one (.fv false (fcPred D g))] (fun ra _ => ra = [.one (.d (.sc (.bool (l.all g))))]) := by
  refine FnOK.ofK Try.func37 (by kernel_rfl) dg_impl_all_byte rs_impl_all_byte rfl rfl ?_
  unfold c_impl_all_byte
  refine kSeq (kReg (kBox rfl rfl rfl rfl rfl (kMovC rfl (kDone ?_))))
  refine kSeq (kReg (kMovC rfl (kClo rfl rfl ?_)))
  refine kCall1 true (ok_slices_ContainsFunc_Lbyte_byte l D (fun x => !g x) hl hD) ⟨rfl, ⟨rfl, ⟨_, Try.func41, rfl, by kernel_rfl⟩, _, rfl, ?_⟩, trivial⟩ rfl rfl rfl fun os => ?_
  · rintro l R ⟨x, hx, rfl, rfl⟩
    exact ⟨by rintro _ rfl; rfl, ok_impl_all_byte_1 x D g hx⟩
  refine kUn rfl rfl (kMovC rfl (kDone (kRet ?_)))
  refine endRet (ra := [.one (.d _)]) rfl ⟨⟨⟨rfl, .inl rfl⟩, trivial⟩, .nil, trivial, trivial, trivial⟩ ?_
  simp [List.all_eq_not_any_not]

def c_impl_LabelOk_1 : C := (.seq (.reg false (.op 0 [] (some 2) none false (.mov (.v (.bool false)))
  .done))
 (.seq (.reg false (.op 0 [] (some 3) none false (.mov (.t 0))
  (.op 1 [] (some 4) none false (.bin .geq (.t 3) (.v (.int .u8 97)))
  (.op 2 [] (some 5) none false (.mov (.t 4))
  (.op 3 [] (some 6) (some (5, true)) false (.mov (.t 0))
  (.op 4 [] (some 7) (some (5, true)) false (.bin .leq (.t 6) (.v (.int .u8 122)))
  (.op 5 [] (some 8) none false (.pick (.t 5) (.t 7) (.v (.bool false)))
  (.op 6 [] (some 9) none false (.mov (.t 8))
  (.op 7 [] (some 10) (some (9, false)) false (.mov (.t 0))
  (.op 8 [] (some 11) (some (9, false)) false (.bin .geq (.t 10) (.v (.int .u8 48)))
  (.op 9 [] (some 12) (some (9, false)) false (.mov (.t 11))
  (.op 10 [] (some 13) (some (12, true)) false (.mov (.t 0))
  (.op 11 [] (some 14) (some (12, true)) false (.bin .leq (.t 13) (.v (.int .u8 57)))
  (.op 12 [] (some 15) (some (9, false)) false (.pick (.t 12) (.t 14) (.v (.bool false)))
  (.op 13 [] (some 16) none false (.pick (.t 9) (.v (.bool true)) (.t 15))
  (.op 14 [] (some 17) none false (.mov (.t 16))
  (.op 15 [] (some 18) (some (17, false)) false (.mov (.t 0))
  (.op 16 [] (some 19) (some (17, false)) false (.bin .eql (.t 18) (.v (.int .u8 45)))
  (.op 17 [] (some 20) none false (.pick (.t 17) (.v (.bool true)) (.t 19))
  (.op 18 [] (some 2) none false (.mov (.t 20))
  .done))))))))))))))))))))
 .ret))
theorem dg_impl_LabelOk_1 : Try.f38.body.bind (digC Try.prog Try.f38.ntmps []) = some c_impl_LabelOk_1 := by kernel_rfl
theorem rs_impl_LabelOk_1 : resSlots Try.prog Try.f38 = some [.s 2] := by kernel_rfl
theorem ok_impl_LabelOk_1 (b : UInt8) : FnOK Try.prog 38 [.one (.d (.sc (.int .u8 b.toNat)))] (fun ra _ => ra = [.one (.d (.sc (.bool (okLetter b))))]) := by
  refine FnOK.ofK Try.func38 (by kernel_rfl) dg_impl_LabelOk_1 rs_impl_LabelOk_1 rfl rfl ?_
  unfold c_impl_LabelOk_1
  repeat' first
    | refine kSeq ?_ | refine kReg ?_ | refine kDone ?_ | refine kMovC rfl ?_ | refine kBin rfl rfl rfl ?_
    | refine kGT rfl ?_ | refine kGF rfl ?_ | refine kGU rfl ?_ | refine kG rfl (fun h => ?_) (fun h => ?_)
    | refine kPickT rfl ?_ | refine kPickF rfl ?_ | refine kPick rfl (fun h => ?_) (fun h => ?_) | refine kRet ?_
  all_goals refine endRet (ra := [.one (.d _)]) rfl ⟨⟨⟨rfl, .inl rfl⟩, trivial⟩, .nil, trivial, trivial⟩ ?_
  all_goals simp_all [okLetter]
  all_goals first | omega | (rw [Bool.eq_iff_iff]; simp; omega)

def c_impl_LabelOk : C := (.seq (.reg false (.op 0 [] (some 2) none false (.mov (.v (.bool false)))
  .done))
 (.seq (.reg false (.op 0 [] (some 3) none false (.mov (.t 0))
  (.op 1 [] (some 4) none false (.len (.t 3))
  (.op 2 [] (some 5) none false (.call 5 36 [(.t 4), (.v (.int .i64 1)), (.v (.int .i64 15))])
  (.op 3 [] (some 6) none false (.mov (.t 5))
  (.op 4 [] (some 7) (some (6, true)) false (.mov (.t 0))
  (.op 5 [] (some 8) (some (6, true)) false (.call 8 37 [(.t 7), (.fn 38)])
  (.op 6 [] (some 9) none false (.pick (.t 6) (.t 8) (.v (.bool false)))
  (.op 7 [] (some 2) none false (.mov (.t 9))
  .done)))))))))
 .ret))
theorem dg_impl_LabelOk : Try.f31.body.bind (digC Try.prog Try.f31.ntmps []) = some c_impl_LabelOk := by kernel_rfl
theorem rs_impl_LabelOk : resSlots Try.prog Try.f31 = some [.s 2] := by kernel_rfl
theorem ok_impl_LabelOk (b : List UInt8) (hb : b.length ≤ 4194304) :
    FnOK Try.prog 31 [.one (.d (encB b))] (fun ra _ => ra = [.one (.d (.sc (.bool (labelOk b))))]) := by
  refine FnOK.ofK Try.func31 (by kernel_rfl) dg_impl_LabelOk rs_impl_LabelOk rfl rfl ?_
  unfold c_impl_LabelOk
  refine kSeq (kReg (kMovC rfl (kDone (kSeq (kReg (kMovC rfl (kLenR rfl rfl (kCallD (ok_impl_within _ _ _) ⟨rfl, rfl, rfl, trivial⟩ rfl rfl rfl rfl rfl (kMovC rfl (kGP rfl (fun g0 => kGT rfl (kMovC rfl (kGT rfl ?_))) (fun g0 => kGF rfl (kGF rfl (kPickF rfl (kMovC rfl (kMovC rfl (kDone (kRet (endRet (ra := [.one (.d _)]) rfl (by (repeat' first | exact trivial | exact rfl | exact .inl rfl | exact nodupB_sound rfl | exact .inl (Nat.zero_lt_succ _) | exact .inr ⟨Nat.zero_lt_succ _, nmB rfl⟩ | exact fun _ => rfl | exact Nat.le_of_ble_eq_true rfl | exact ⟨_, rfl, fun _ => rfl⟩ | refine ⟨?_, ?_⟩ | fail); first | done | fail) ?_))))))))))))))))))
  · refine kCall1 true (ok_impl_all_byte (b.map fun b : UInt8 => .sc (.int .u8 b.toNat)) is8 (fun x => okLetter (dec8 x)) (by simp; omega) (fun x hx => by obtain ⟨c, _, rfl⟩ := List.mem_map.1 hx; exact ⟨c, rfl⟩)) ⟨congrArg some (encB_lst b), ⟨rfl, rfl, ⟨_, Try.func38, rfl, by kernel_rfl⟩, ?_⟩, trivial⟩ rfl rfl rfl (fun _ => ?_)
    · rintro _ R ⟨x, ⟨c, rfl⟩, rfl, rfl⟩
      have := ok_impl_LabelOk_1 c
      simp only [dec8_enc]
      exact this
    refine kPickT rfl (kMovC rfl (kMovC rfl (kDone (kRet (endRet (ra := [.one (.d _)]) rfl (by (repeat' first | exact trivial | exact rfl | exact .inl rfl | exact nodupB_sound rfl | exact .inl (Nat.zero_lt_succ _) | exact .inr ⟨Nat.zero_lt_succ _, nmB rfl⟩ | exact fun _ => rfl | exact Nat.le_of_ble_eq_true rfl | exact ⟨_, rfl, fun _ => rfl⟩ | refine ⟨?_, ?_⟩ | fail); first | done | fail) ?_)))))
    rw [all_dec8, show labelOk b = b.all okLetter by simp only [labelOk]; rw [decide_eq_true (by omega), decide_eq_true (by omega)]; rfl]
  · rw [show labelOk b = false by simp only [labelOk]; rw [show (decide (1 ≤ b.length) && decide (b.length ≤ 15)) = false by simp; omega]; rfl]

def c_impl_all_Lbyte_1 : C := (.seq (.reg false (.op 0 [] (some 3) none false (.mov (.v (.bool false)))
  .done))
 (.seq (.reg false (.op 0 [] (some 4) none false (.load none (.t 1))
  (.op 1 [] (some 5) none false (.mov (.t 0))
  (.op 2 [] (some 6) none false (.callv 6 (.t 4) [(.t 5)])
  (.op 3 [] (some 7) none false (.un .not (.t 6))
  (.op 4 [] (some 3) none false (.mov (.t 7))
  .done))))))
 .ret))
theorem dg_impl_all_Lbyte_1 : Try.f35.body.bind (digC Try.prog Try.f35.ntmps []) = some c_impl_all_Lbyte_1 := by kernel_rfl
theorem rs_impl_all_Lbyte_1 : resSlots Try.prog Try.f35 = some [.s 3] := by kernel_rfl
theorem ok_impl_all_Lbyte_1 (x : DV) (D : DV → Prop) (g : DV → Bool) (hx : D x) :
    FnOK Try.prog 35 [.one (.d x), .one (.ptr [.fv false (fcPred D g)])] (fun ra _ => ra = [.one (.d (.sc (.bool (!g x))))]) := by
  refine FnOK.ofK Try.func35 (by kernel_rfl) dg_impl_all_Lbyte_1 rs_impl_all_Lbyte_1 rfl rfl ?_
  unfold c_impl_all_Lbyte_1
  refine kSeq (kReg (kMovC rfl (kDone ?_)))
  refine kSeq (kReg (kLoadC rfl rfl (kMovC rfl (kCallv rfl ⟨x, hx, rfl, rfl⟩ ⟨rfl, trivial⟩ (.inr ?_) rfl ?_ rfl ?_))))
  · rintro _ rfl; rfl
  · rintro _ rfl; exact Nat.le_of_ble_eq_true rfl
  rintro _ rfl
  refine kUn rfl rfl (kMovC rfl (kDone (kRet ?_)))
  exact endRet (ra := [.one (.d _)]) rfl ⟨⟨⟨rfl, .inl rfl⟩, trivial⟩, .nil, trivial, trivial, trivial⟩ rfl

def c_slices_IndexFunc_LLbyte_Lbyte : C := (.seq (.reg false (.op 0 [] (some 4) none false (.mov (.v (.int .i64 0)))
  .done))
 (.seq (.seq (.reg false (.op 0 [] (some 6) none false (.mov (.t 0))
  (.op 1 [] (some 7) none false (.len (.t 6))
  (.op 2 [] (some 8) none false (.mov (.v (.int .i64 0)))
  .done))))
 (.block 0 (.loop (.seq (.reg false (.op 0 [] (some 9) none false (.bin .lss (.t 8) (.t 7))
  .done))
 (.seq (.cond (.t 9)
 .skip
 (.exit 0))
 (.seq (.block 1 (.seq (.reg false (.op 0 [] (some 10) none false (.mov (.t 8))
  (.op 1 [] (some 5) none false (.mov (.t 10))
  .done)))
 (.seq (.reg false (.op 0 [] (some 11) none false (.mov (.t 1))
  (.op 1 [] (some 12) none false (.mov (.t 0))
  (.op 2 [] (some 13) none false (.mov (.t 5))
  (.op 3 [] (some 14) none false (.iad 1 (.t 12) (.t 13))
  (.op 4 [] (some 15) none false (.load none (.t 14))
  (.op 5 [] (some 16) none false (.callv 16 (.t 11) [(.t 15)])
  .done)))))))
 (.cond (.t 16)
 (.seq (.reg false (.op 0 [] (some 17) none false (.mov (.t 5))
  (.op 1 [] (some 4) none false (.mov (.t 17))
  .done)))
 .ret)
 .skip))))
 (.reg false (.op 0 [] (some 18) none false (.bin .add (.t 8) (.v (.int .i64 1)))
  (.op 1 [] (some 8) none false (.mov (.t 18))
  .done)))))))))
 (.seq (.reg false (.op 0 [] (some 4) none false (.mov (.v (.int .i64 (-1))))
  .done))
 .ret)))
theorem dg_slices_IndexFunc_LLbyte_Lbyte : Try.f39.body.bind (digC Try.prog Try.f39.ntmps []) = some c_slices_IndexFunc_LLbyte_Lbyte := by kernel_rfl
theorem rs_slices_IndexFunc_LLbyte_Lbyte : resSlots Try.prog Try.f39 = some [.s 4] := by kernel_rfl
theorem ok_slices_IndexFunc_LLbyte_Lbyte (l : List DV) (D : DV → Prop) (g : DV → Bool) (hl : (l.length : Int) ≤ 9223372036854775807) (hD : ∀ x ∈ l, D x) :
    FnOK Try.prog 39 [.one (.d (lst l)), .one (.fv false (fcPred D g))] (fun ra _ => ra = [.one (.d (.sc (.int .i64 (idxF g l))))]) := by
  refine FnOK.ofK Try.func39 (by kernel_rfl) dg_slices_IndexFunc_LLbyte_Lbyte rs_slices_IndexFunc_LLbyte_Lbyte rfl rfl ?_
  unfold c_slices_IndexFunc_LLbyte_Lbyte
  refine kSeq (kReg (kMovC rfl (kDone ?_)))
  refine kSeq (kSeq (kReg (kMovC rfl (kLen rfl rfl rfl (kMovC rfl (kDone (kBlock ?_)))))))
  rw [len_lst]
  refine kLoop (α := { i : Nat // i ≤ l.length ∧ ∀ x ∈ l.take i, g x = false })
    (fun y => ⟨tabSl [(0, .dv (lst l)), (1, .c (.fv false (fcPred D g))), (7, .i l.length), (8, .i y.1)], (St.init [.one (.d (lst l)), .one (.fv false (fcPred D g))]).ob, []⟩) (fun y => l.length - y.1) ⟨0, by simp⟩
    (.tab rfl ⟨.refl _, .refl _, .refl _, .refl _, trivial⟩) ?_
  rintro ⟨i, hi, hg⟩
  simp only
  refine kSeq (kReg (kBin rfl rfl rfl (kDone ?_)))
  refine kSeq (kCond rfl (fun h1 => ?_) (fun h1 => ?_))
  · have hlt : i < l.length := by simp at h1; omega
    refine kSkip (kSeq (kBlock (kSeq (kReg (kMovC rfl (kMovC rfl (kDone ?_)))))))
    refine kSeq (kReg (kMovC rfl (kMovC rfl (kMovC rfl (kIadD rfl rfl rfl rfl ?_ ?_)))))
    · rw [len_lst]; omega
    rw [show (lst l).row (i : Int).toNat = [l[i]] from row_lst l i hlt]
    refine kLoadD rfl rfl (kCallv rfl ⟨l[i], hD _ (List.getElem_mem hlt), rfl, rfl⟩ ⟨rfl, trivial⟩ (.inr ?_) rfl ?_ rfl ?_)
    · rintro _ rfl; rfl
    · rintro _ rfl; exact Nat.le_of_ble_eq_true rfl
    rintro _ rfl
    refine kDone (kCond rfl (fun h2 => ?_) (fun h2 => ?_))
    · refine kSeq (kReg (kMovC rfl (kMovC rfl (kDone (kRet ?_)))))
      refine endRet (ra := [.one (.d _)]) rfl ⟨⟨⟨rfl, .inl rfl⟩, trivial⟩, .nil, trivial, trivial, trivial⟩ ?_
      have : l.findIdx? g = some i := by
        rw [List.findIdx?_eq_some_iff_getElem]
        refine ⟨hlt, h2, fun j hj => ?_⟩
        simpa using hg _ (by rw [List.mem_take_iff_getElem]; exact ⟨j, by omega, rfl⟩)
      simp [idxF, this]
    · refine kSkip (kBk (kReg (kAdd rfl rfl ?_ (kMovC rfl (kDone (kInv ?_))))))
      · omega
      refine ⟨⟨i + 1, hlt, ?_⟩, by simp only; omega, .tab rfl ⟨.refl _, .refl _, .refl _, .refl _, trivial⟩⟩
      intro x hx
      rw [← List.take_append_getElem hlt, List.mem_append] at hx
      rcases hx with hx | hx
      · exact hg x hx
      · simp at hx; rw [hx]; exact h2
  · refine kExit (kExC (kExI (kExB ?_)))
    have hge : i = l.length := by simp at h1; omega
    refine kSeq (kReg (kMovC rfl (kDone (kRet ?_))))
    refine endRet (ra := [.one (.d _)]) rfl ⟨⟨⟨rfl, .inl rfl⟩, trivial⟩, .nil, trivial, trivial, trivial⟩ ?_
    have : l.findIdx? g = none := by
      rw [List.findIdx?_eq_none_iff]
      intro x hx
      rw [hge, List.take_length] at hg
      exact hg x hx
    simp [idxF, this]

def c_slices_ContainsFunc_LLbyte_Lbyte : C := (.seq (.reg false (.op 0 [] (some 4) none false (.mov (.v (.bool false)))
  .done))
 (.seq (.reg false (.op 0 [] (some 5) none false (.mov (.t 0))
  (.op 1 [] (some 6) none false (.mov (.t 1))
  (.op 2 [] (some 7) none false (.call 7 39 [(.t 5), (.t 6)])
  (.op 3 [] (some 8) none false (.bin .geq (.t 7) (.v (.int .i64 0)))
  (.op 4 [] (some 4) none false (.mov (.t 8))
  .done))))))
 .ret))
theorem dg_slices_ContainsFunc_LLbyte_Lbyte : Try.f34.body.bind (digC Try.prog Try.f34.ntmps []) = some c_slices_ContainsFunc_LLbyte_Lbyte := by kernel_rfl
theorem rs_slices_ContainsFunc_LLbyte_Lbyte : resSlots Try.prog Try.f34 = some [.s 4] := by kernel_rfl
theorem ok_slices_ContainsFunc_LLbyte_Lbyte (l : List DV) (D : DV → Prop) (g : DV → Bool) (hl : (l.length : Int) ≤ 9223372036854775807) (hD : ∀ x ∈ l, D x) :
    FnOK Try.prog 34 [.one (.d (lst l)), .one (.fv false (fcPred D g))] (fun ra _ => ra = [.one (.d (.sc (.bool (l.any g))))]) := by
  refine FnOK.ofK Try.func34 (by kernel_rfl) dg_slices_ContainsFunc_LLbyte_Lbyte rs_slices_ContainsFunc_LLbyte_Lbyte rfl rfl ?_
  unfold c_slices_ContainsFunc_LLbyte_Lbyte
  refine kSeq (kReg (kMovC rfl (kDone ?_)))
  refine kSeq (kReg (kMovC rfl (kMovC rfl ?_)))
  refine kCall1 true (ok_slices_IndexFunc_LLbyte_Lbyte l D g hl hD) ⟨rfl, ⟨fun h => h, fun _ _ h => h⟩, trivial⟩ rfl rfl rfl fun os => ?_
  refine kBin rfl rfl rfl (kMovC rfl (kDone (kRet ?_)))
  refine endRet (ra := [.one (.d _)]) rfl ⟨⟨⟨rfl, .inl rfl⟩, trivial⟩, .nil, trivial, trivial, trivial⟩ ?_
  have : decide (idxF g l ≥ 0) = l.any g := by
    unfold idxF
    cases h : l.findIdx? g with
    | none =>
      rw [List.findIdx?_eq_none_iff] at h
      have : l.any g = false := by rw [List.any_eq_false]; intro x hx; simp [h x hx]
      rw [this]; rfl
    | some i =>
      rw [List.findIdx?_eq_some_iff_getElem] at h
      obtain ⟨h1, h2, _⟩ := h
      have : l.any g = true := by rw [List.any_eq_true]; exact ⟨_, List.getElem_mem h1, h2⟩
      rw [this]; simp
  rw [this]

def c_impl_all_Lbyte : C := (.seq (.reg false (.op 0 [] (some 3) none false (.box 3 (.t 1))
  (.op 1 [] (some 4) none false (.mov (.v (.bool false)))
  .done)))
 (.seq (.reg false (.op 0 [] (some 5) none false (.mov (.t 0))
  (.op 1 [] (some 6) none false (.clo 35 [] [(.t 3)])
  (.op 2 [] (some 7) none false (.call 7 34 [(.t 5), (.t 6)])
  (.op 3 [] (some 8) none false (.un .not (.t 7))
  (.op 4 [] (some 4) none false (.mov (.t 8))
  .done))))))
 .ret))
theorem dg_impl_all_Lbyte : Try.f30.body.bind (digC Try.prog Try.f30.ntmps []) = some c_impl_all_Lbyte := by kernel_rfl
theorem rs_impl_all_Lbyte : resSlots Try.prog Try.f30 = some [.s 4] := by kernel_rfl
theorem ok_impl_all_Lbyte (l : List DV) (D : DV → Prop) (g : DV → Bool) (hl : (l.length : Int) ≤ 9223372036854775807) (hD : ∀ x ∈ l, D x) :
    FnOK Try.prog 30 [.one (.d (lst l)), .one (.fv false (fcPred D g))] (fun ra _ => ra = [.one (.d (.sc (.bool (l.all g))))]) := by
  refine FnOK.ofK Try.func30 (by kernel_rfl) dg_impl_all_Lbyte rs_impl_all_Lbyte rfl rfl ?_
  unfold c_impl_all_Lbyte
  refine kSeq (kReg (kBox rfl rfl rfl rfl rfl (kMovC rfl (kDone ?_))))
  refine kSeq (kReg (kMovC rfl (kClo rfl rfl ?_)))
  refine kCall1 true (ok_slices_ContainsFunc_LLbyte_Lbyte l D (fun x => !g x) hl hD) ⟨rfl, ⟨rfl, ⟨_, Try.func35, rfl, by kernel_rfl⟩, _, rfl, ?_⟩, trivial⟩ rfl rfl rfl fun os => ?_
  · rintro l R ⟨x, hx, rfl, rfl⟩
    exact ⟨by rintro _ rfl; rfl, ok_impl_all_Lbyte_1 x D g hx⟩
  refine kUn rfl rfl (kMovC rfl (kDone (kRet ?_)))
  refine endRet (ra := [.one (.d _)]) rfl ⟨⟨⟨rfl, .inl rfl⟩, trivial⟩, .nil, trivial, trivial, trivial⟩ ?_
  simp [List.all_eq_not_any_not]

def c_impl_NameOk : C := (.seq (.reg false (.op 0 [] (some 1) none false (.box 1 (.t 0))
  (.op 1 [] (some 2) none false (.mov (.v (.bool false)))
  .done)))
 (.seq (.reg false (.op 0 [] (some 3) none false (.fad (.t 1) 0)
  (.op 1 [] (some 4) none false (.load none (.t 3))
  (.op 2 [] (some 5) none false (.len (.t 4))
  (.op 3 [] (some 6) none false (.bin .leq (.t 5) (.v (.int .i64 6)))
  (.op 4 [] (some 7) none false (.mov (.t 6))
  (.op 5 [] (some 8) (some (7, true)) false (.fad (.t 1) 0)
  (.op 6 [] (some 9) (some (7, true)) false (.load none (.t 8))
  (.op 7 [] (some 10) (some (7, true)) false (.call 10 30 [(.t 9), (.fn 31)])
  (.op 8 [] (some 11) none false (.pick (.t 7) (.t 10) (.v (.bool false)))
  (.op 9 [] (some 2) none false (.mov (.t 11))
  .done)))))))))))
 .ret))
theorem dg_impl_NameOk : Try.f21.body.bind (digC Try.prog Try.f21.ntmps []) = some c_impl_NameOk := by kernel_rfl
theorem rs_impl_NameOk : resSlots Try.prog Try.f21 = some [.s 2] := by kernel_rfl
theorem ok_impl_NameOk (a : List (List UInt8)) (ha : a.length ≤ 4194304) (hb : ∀ b ∈ a, b.length ≤ 4194304) :
    FnOK Try.prog 21 [.agg [.d (encBB a)]] (fun ra _ => ra = [.one (.d (.sc (.bool (nameOk a))))]) := by
  refine FnOK.ofK Try.func21 (by kernel_rfl) dg_impl_NameOk rs_impl_NameOk rfl rfl ?_
  unfold c_impl_NameOk
  refine kSeq (kReg (kBox rfl rfl rfl rfl rfl (kMovC rfl (kDone (kSeq (kReg (kFadP rfl rfl (kLoadP rfl rfl rfl (kLenR rfl rfl (kBin rfl rfl rfl (kMovC rfl (kGP rfl (fun g0 => kGT rfl (kFadP rfl rfl (kGT rfl (kLoadP rfl rfl rfl (kGT rfl ?_))))) (fun g0 => kGF rfl (kGF rfl (kGF rfl (kPickF rfl (kMovC rfl (kMovC rfl (kDone (kRet (endRet (ra := [.one (.d _)]) rfl (by (repeat' first | exact trivial | exact rfl | exact .inl rfl | exact nodupB_sound rfl | exact .inl (Nat.zero_lt_succ _) | exact .inr ⟨Nat.zero_lt_succ _, nmB rfl⟩ | exact fun _ => rfl | exact Nat.le_of_ble_eq_true rfl | exact ⟨_, rfl, fun _ => rfl⟩ | refine ⟨?_, ?_⟩ | fail); first | done | fail) ?_)))))))))))))))))))))
  · refine kCall1 true (ok_impl_all_Lbyte (a.map encB) (fun x => ∃ b : List UInt8, x = encB b ∧ b.length ≤ 4194304) (fun x => labelOk (decB x)) (by simp; omega) (fun x hx => by obtain ⟨c, h, rfl⟩ := List.mem_map.1 hx; exact ⟨c, rfl, hb c h⟩)) ⟨congrArg some (encBB_lst a), ⟨rfl, rfl, ⟨_, Try.func31, rfl, by kernel_rfl⟩, ?_⟩, trivial⟩ rfl rfl rfl (fun _ => ?_)
    · rintro _ R ⟨x, ⟨c, rfl, h⟩, rfl, rfl⟩
      have := ok_impl_LabelOk c h
      simp only [decB_enc]
      exact this
    refine kPickT rfl (kMovC rfl (kMovC rfl (kDone (kRet (endRet (ra := [.one (.d _)]) rfl (by (repeat' first | exact trivial | exact rfl | exact .inl rfl | exact nodupB_sound rfl | exact .inl (Nat.zero_lt_succ _) | exact .inr ⟨Nat.zero_lt_succ _, nmB rfl⟩ | exact fun _ => rfl | exact Nat.le_of_ble_eq_true rfl | exact ⟨_, rfl, fun _ => rfl⟩ | refine ⟨?_, ?_⟩ | fail); first | done | fail) ?_)))))
    rw [all_decB, show nameOk a = a.all labelOk by simp only [nameOk]; rw [decide_eq_true (by omega)]; rfl]
  · rw [show nameOk a = false by simp only [nameOk]; rw [decide_eq_false (by omega)]; rfl]

def c_bytes_Clone : C := (.seq (.reg false (.op 0 [] (some 2) none false (.mov (.n 1))
  .done))
 (.seq (.seq (.reg false (.op 0 [] (some 3) none false (.mov (.t 0))
  (.op 1 [] (some 4) none false (.eqn false (.t 3))
  .done)))
 (.cond (.t 4)
 (.seq (.reg false (.op 0 [] (some 2) none false (.mov (.n 1))
  .done))
 .ret)
 .skip))
 (.seq (.reg false (.op 0 [] (some 5) none false (.lit 5 1 [(.v (.int .u8 0))] 0 [])
  (.op 1 [] (some 6) none false (.mov (.t 0))
  (.op 2 [] (some 7) none false (.app 7 1 1 (.t 5) (.t 6))
  (.op 3 [] (some 2) none false (.mov (.t 7))
  .done)))))
 .ret)))
theorem dg_bytes_Clone : Try.f32.body.bind (digC Try.prog Try.f32.ntmps []) = some c_bytes_Clone := by kernel_rfl
theorem rs_bytes_Clone : resSlots Try.prog Try.f32 = some [.s 2] := by kernel_rfl
theorem ok_bytes_Clone (b : List UInt8) (hb : b.length ≤ 140737488355328) :
    FnOK Try.prog 32 [.one (.d (encB b))] (fun ra _ => ra = [.one (.own true (encB b))]) := by
  refine FnOK.ofK Try.func32 (by kernel_rfl) dg_bytes_Clone rs_bytes_Clone rfl rfl ?_
  unfold c_bytes_Clone
  refine kSeq (kReg (kMovC rfl (kDone ?_)))
  refine kSeq (kSeq (kReg (kMovC rfl (kEqn rfl rfl rfl fun n hn => kDone ?_))))
  refine kCond rfl (fun h => ?_) (fun h => ?_)
  · refine kSeq (kReg (kMovC rfl (kDone (kRet ?_))))
    refine endRet (ra := [.one (.own true (.sl 1 []))]) rfl ⟨⟨rfl, trivial⟩, nodupB_sound rfl, trivial, trivial⟩ ?_
    have : b = [] := by
      rw [len_encB] at hn
      cases b with
      | nil => rfl
      | cons x l => have := hn (by simp); simp [this] at h
    rw [this]; rfl
  · refine kSkip (kSeq (kReg ?_))
    refine kLit rfl rfl rfl rfl (kMovC rfl ?_)
    refine kApp (cy := .d (encB b)) rfl rfl rfl (src_encB _ b) rfl rfl ⟨rfl, rfl, Nat.zero_lt_one⟩ rfl ?_ (kMovC rfl (kDone (kRet ?_)))
    · show ((DV.sl 1 (chunk 1 0 [])).len + (encB b).len) * 1 ≤ _ ∧ _
      rw [len_encB]; simp [DV.len, chunk]; omega
    refine endRet (ra := [.one (.own true _)]) rfl ⟨⟨⟨⟨_, rfl, fun _ => rfl⟩, .inl (Nat.zero_lt_succ _)⟩, trivial⟩, nodupB_sound rfl, trivial, trivial⟩ ?_
    exact congrArg (fun x => [RA.one (RV.own true x)]) (app_nil_encB b)

def c_impl_Name_copied : C := (.seq (.reg false (.op 0 [] (some 1) none false (.box 1 (.t 0))
  (.op 1 [] (some 2) none false (.alloc 2 [(.n 1)])
  .done)))
 (.seq (.reg false (.op 0 [] (some 6) none false (.build [(.n 1)] [])
  (.op 1 [] (some 3) none false (.alloc 3 [(.n 1)])
  (.op 2 [] none none false (.store (some 1) (.t 3) (.t 6))
  .done))))
 (.seq (.seq (.reg false (.op 0 [] (some 7) none false (.fad (.t 1) 0)
  (.op 1 [] (some 8) none false (.load none (.t 7))
  (.op 2 [] (some 9) none false (.len (.t 8))
  (.op 3 [] (some 10) none false (.mov (.v (.int .i64 0)))
  .done)))))
 (.block 0 (.loop (.seq (.reg false (.op 0 [] (some 11) none false (.bin .lss (.t 10) (.t 9))
  .done))
 (.seq (.cond (.t 11)
 .skip
 (.exit 0))
 (.seq (.block 1 (.seq (.reg false (.op 0 [] (some 12) none false (.iad 1 (.t 8) (.t 10))
  (.op 1 [] (some 13) none false (.load none (.t 12))
  (.op 2 [] (some 5) none false (.mov (.t 13))
  .done))))
 (.reg true (.op 0 [] (some 14) none true (.fad (.t 3) 0)
  (.op 1 [] (some 15) none true (.load none (.t 14))
  (.op 2 [] (some 16) none true (.mov (.t 5))
  (.op 3 [] (some 17) none false (.call 17 32 [(.t 16)])
  (.op 4 [] (some 18) none false (.lit 18 1 [(.n 1)] 1 [(0, 1, (.t 17))])
  (.op 5 [1] (some 19) none false (.app 19 1 24 (.t 15) (.t 18))
  (.op 6 [] (some 20) none true (.fad (.t 3) 0)
  (.op 7 [1] none none false (.store none (.t 20) (.t 19))
  .done)))))))))))
 (.reg false (.op 0 [] (some 21) none false (.bin .add (.t 10) (.v (.int .i64 1)))
  (.op 1 [] (some 10) none false (.mov (.t 21))
  .done)))))))))
 (.seq (.reg false (.op 0 [] (some 22) none false (.load (some 1) (.t 3))
  (.op 1 [] none none false (.store (some 1) (.t 2) (.t 22))
  .done)))
 .ret))))
theorem dg_impl_Name_copied : Try.f22.body.bind (digC Try.prog Try.f22.ntmps []) = some c_impl_Name_copied := by kernel_rfl
theorem rs_impl_Name_copied : resSlots Try.prog Try.f22 = some [.m 2 (some 1)] := by kernel_rfl
theorem ok_impl_Name_copied (a : List (List UInt8)) (ha : a.length ≤ 4194304) (hb : ∀ b ∈ a, b.length ≤ 4194304) :
    FnOK Try.prog 22 [.agg [.d (encBB a)]] (fun ra _ => ra = [.agg [.own true (encBB a)]]) := by
  refine FnOK.ofK Try.func22 (by kernel_rfl) dg_impl_Name_copied rs_impl_Name_copied rfl rfl ?_
  unfold c_impl_Name_copied
  refine kSeq (kReg (kBox rfl rfl rfl rfl rfl (kAlloc rfl rfl (kDone ?_))))
  refine kSeq (kReg (kBuild rfl (kAlloc rfl rfl (kStoreP rfl rfl rfl rfl (kDone ?_)))))
  refine kSeq (kSeq (kReg (kFadP rfl rfl (kLoadP rfl rfl rfl (kLen rfl rfl rfl (kMovC rfl (kDone (kBlock ?_))))))))
  rw [len_encBB]
  refine kSub (Sub.nilBox (id := rid 3 0) (id2 := rid 5000 0) (j := 0) rfl rfl rfl (by decide) (by decide)) ?_
  refine kLoop (α := { i : Nat // i ≤ a.length })
    (fun y => ⟨tabSl [(1, .c (.ptr (rid 1 0) 1 0)), (2, .c (.ptr (rid 2 0) 1 0)), (3, .c (.ptr (rid 3 0) 1 0)), (8, .dv (encBB a)), (9, .i a.length), (10, .i y.1)],
      obTab 1 [(rid 1 0, ⟨1, 0, .box [.d (encBB a)]⟩), (rid 2 0, ⟨1, 0, .box [.nil 1]⟩), (rid 3 0, ⟨1, 0, .box [.arr (rid 5000 0) 1]⟩), (rid 5000 0, ⟨1, 0, .arr true (encBB (a.take y.1))⟩)], []⟩) (fun y => a.length - y.1) ⟨0, by simp⟩
    (.norm ?_ ?_) ?_
  · repeat' first | exact trivial | exact rfl | exact .inl rfl | refine ⟨_, rfl, ?_⟩ | refine ⟨?_, ?_⟩ | fail
  · repeat' first | exact trivial | exact rfl | exact .inl rfl | refine ⟨_, rfl, ?_⟩ | refine ⟨?_, ?_⟩ | fail
  rintro ⟨i, hi⟩
  simp only at hi ⊢
  refine kSeq (kReg (kBin rfl rfl rfl (kDone (kSeq ?_))))
  refine kCond rfl (fun h1 => ?_) (fun h1 => ?_)
  · have hlt : i < a.length := by simp at h1; omega
    refine kSkip (kSeq (kBlock (kSeq (kReg ?_))))
    refine kIadD rfl rfl rfl rfl ?_ ?_
    · rw [len_encBB]; omega
    rw [show (encBB a).row (i : Int).toNat = [encB a[i]] from row_encBB a i hlt]
    refine kLoadD rfl rfl (kMovC rfl (kDone (kRegD (kFadP rfl rfl (kLoadP rfl rfl rfl (kMovC rfl ?_))))))
    refine kCall1 false (ok_bytes_Clone a[i] (Nat.le_trans (hb _ (List.getElem_mem hlt)) (by omega))) ⟨rfl, trivial⟩ rfl rfl rfl fun os => ?_
    refine kLit rfl rfl rfl rfl (kRelF rfl rfl ?_)
    refine kApp rfl rfl rfl rfl rfl rfl ⟨rfl, rfl, Nat.zero_lt_one⟩ rfl ?_ ?_
    · show ((encBB (a.take i)).len + (DV.sl 1 [[encB a[i]]]).len) * 24 ≤ _ ∧ (encBB (a.take i)).len + (DV.sl 1 [[encB a[i]]]).len ≤ _
      rw [len_encBB, List.length_take]; simp [DV.len, DV.rows]; omega
    refine kFadP rfl rfl (kRelF rfl rfl (kStoreP rfl rfl rfl rfl (kDone (kH (kBk (kReg (kAdd rfl rfl (by omega) (kMovC rfl (kDone ?_)))))))))
    refine kInv ⟨⟨i + 1, hlt⟩, by simp only; omega, .norm ?_ ?_⟩
    · repeat' first | exact trivial | exact rfl | exact .inl rfl | refine ⟨_, rfl, ?_⟩ | refine ⟨?_, ?_⟩ | fail
    · repeat' first | exact trivial | exact rfl | exact .inl rfl | refine ⟨_, rfl, ?_⟩ | refine ⟨?_, ?_⟩ | fail
      rw [← List.take_append_getElem hlt, ← app_encBB]
      rfl
  · refine kExit (kExC (kExI (kExB (kSeq (kReg (kLoadP rfl rfl rfl (kStoreP rfl rfl rfl rfl (kDone ?_))))))))
    have hge : i = a.length := by simp at h1; omega
    subst hge
    refine kRet (endRet (ra := [.agg [.own true _]]) rfl ⟨⟨⟨⟨⟨⟨_, rfl, fun _ => rfl⟩, .inl Nat.zero_lt_one⟩, trivial⟩, Nat.le_of_ble_eq_true rfl⟩, trivial⟩, nodupB_sound rfl, ⟨trivial, trivial⟩, trivial⟩ ?_)
    rw [List.take_length]

def c_impl_Name_child : C := (.seq (.reg false (.op 0 [] (some 2) none false (.box 2 (.t 0))
  (.op 1 [] (some 4) none false (.alloc 4 [(.n 1)])
  .done)))
 (.seq (.reg false (.op 0 [] (some 5) none false (.mov (.t 1))
  (.op 1 [] (some 6) none false (.lit 6 1 [(.n 1)] 1 [(0, 1, (.t 5))])
  (.op 2 [] (some 7) none false (.fad (.t 2) 0)
  (.op 3 [] (some 8) none false (.load none (.t 7))
  (.op 4 [] (some 9) none false (.app 9 1 24 (.t 6) (.t 8))
  (.op 5 [] (some 10) none false (.build [(.n 1)] [(0, 1, (.t 9))])
  (.op 6 [] (some 11) none false (.call 11 22 [(.t 10)])
  (.op 7 [] none none false (.store (some 1) (.t 4) (.t 11))
  .done)))))))))
 .ret))
theorem dg_impl_Name_child : Try.f27.body.bind (digC Try.prog Try.f27.ntmps []) = some c_impl_Name_child := by kernel_rfl
theorem rs_impl_Name_child : resSlots Try.prog Try.f27 = some [.m 4 (some 1)] := by kernel_rfl
theorem ok_impl_Name_child (a : List (List UInt8)) (l : List UInt8) (ha : (l :: a).length ≤ 4194304) (hb : ∀ b ∈ l :: a, b.length ≤ 4194304) :
    FnOK Try.prog 27 [.agg [.d (encBB a)], .one (.d (encB l))] (fun ra _ => ra = [.agg [.own true (encBB (l :: a))]]) := by
  refine FnOK.ofK Try.func27 (by kernel_rfl) dg_impl_Name_child rs_impl_Name_child rfl rfl ?_
  unfold c_impl_Name_child
  have ha' : a.length + 1 ≤ 4194304 := ha
  refine kSeq (kReg (kBox rfl rfl rfl rfl rfl (kAlloc rfl rfl (kDone (kSeq (kReg (kMovC rfl (kLit rfl rfl rfl rfl (kFadP rfl rfl (kLoadP rfl rfl rfl (kApp1R rfl rfl rfl rfl rfl rfl rfl rfl (by omega) (kBuild rfl (kCall1 true (ok_impl_Name_copied _ (by first | assumption | omega | solve_by_elim [List.getElem_mem]) (by first | assumption | omega | solve_by_elim [List.getElem_mem])) ⟨⟨⟨rfl, trivial⟩, Nat.le_of_ble_eq_true rfl⟩, trivial⟩ rfl rfl rfl (fun _ => (kStoreP rfl rfl rfl rfl (kDone (kRet (endRet (ra := [.agg [(.own true _)]]) rfl (by (repeat' first | exact trivial | exact rfl | exact .inl rfl | exact nodupB_sound rfl | exact .inl (Nat.zero_lt_succ _) | exact .inr ⟨Nat.zero_lt_succ _, nmB rfl⟩ | exact fun _ => rfl | exact Nat.le_of_ble_eq_true rfl | exact ⟨_, rfl, fun _ => rfl⟩ | refine ⟨?_, ?_⟩ | fail); first | done | fail) rfl))))))))))))))))))

def c_impl_Child : C := (.seq (.reg false (.op 0 [] (some 2) none false (.box 2 (.t 0))
  (.op 1 [] (some 4) none false (.alloc 4 [(.n 1)])
  (.op 2 [] (some 5) none false (.mov (.v (.bool false)))
  .done))))
 (.seq (.seq (.reg false (.op 0 [] (some 6) none false (.load (some 1) (.t 2))
  (.op 1 [] (some 7) none false (.call 7 21 [(.t 6)])
  (.op 2 [] (some 8) none false (.un .not (.t 7))
  (.op 3 [] (some 9) none false (.mov (.t 8))
  (.op 4 [] (some 10) (some (9, false)) false (.load (some 1) (.t 2))
  (.op 5 [] (some 11) (some (9, false)) false (.mov (.t 1))
  (.op 6 [] (some 12) (some (9, false)) false (.call 12 27 [(.t 10), (.t 11)])
  (.op 7 [] (some 13) (some (9, false)) false (.call 13 21 [(.t 12)])
  (.op 8 [] (some 14) (some (9, false)) false (.un .not (.t 13))
  (.op 9 [] (some 15) none false (.pick (.t 9) (.v (.bool true)) (.t 14))
  .done)))))))))))
 (.cond (.t 15)
 (.seq (.reg false (.op 0 [] (some 16) none false (.build [(.n 1)] [])
  (.op 1 [] none none false (.store (some 1) (.t 4) (.t 16))
  (.op 2 [] (some 5) none false (.mov (.v (.bool false)))
  .done))))
 .ret)
 .skip))
 (.seq (.reg false (.op 0 [] (some 17) none false (.load (some 1) (.t 2))
  (.op 1 [] (some 18) none false (.mov (.t 1))
  (.op 2 [] (some 19) none false (.call 19 27 [(.t 17), (.t 18)])
  (.op 3 [] none none false (.store (some 1) (.t 4) (.t 19))
  (.op 4 [] (some 5) none false (.mov (.v (.bool true)))
  .done))))))
 .ret)))
theorem dg_impl_Child : Try.f14.body.bind (digC Try.prog Try.f14.ntmps []) = some c_impl_Child := by kernel_rfl
theorem rs_impl_Child : resSlots Try.prog Try.f14 = some [.m 4 (some 1), .s 5] := by kernel_rfl
theorem ok_impl_Child (a : List (List UInt8)) (l : List UInt8) (ha : (l :: a).length ≤ 4194304) (hb : ∀ b ∈ l :: a, b.length ≤ 4194304) :
    FnOK Try.prog 14 [.agg [.d (encBB a)], .one (.d (encB l))] (fun ra _ => ra = [.agg [.own true (encBB (childN a l))], .one (.d (.sc (.bool (childOk a l))))]) := by
  refine FnOK.ofK Try.func14 (by kernel_rfl) dg_impl_Child rs_impl_Child rfl rfl ?_
  unfold c_impl_Child
  have ha' : a.length + 1 ≤ 4194304 := ha
  have hb' : ∀ b ∈ a, b.length ≤ 4194304 := fun b h => hb b (List.mem_cons_of_mem _ h)
  refine kSeq (kReg (kBox rfl rfl rfl rfl rfl (kAlloc rfl rfl (kMovC rfl (kDone (kSeq (kSeq (kReg (kLoadP rfl rfl rfl (kCallD (ok_impl_NameOk _ (by first | assumption | omega | solve_by_elim [List.getElem_mem]) (by first | assumption | omega | solve_by_elim [List.getElem_mem])) ⟨⟨⟨rfl, trivial⟩, Nat.le_of_ble_eq_true rfl⟩, trivial⟩ rfl rfl rfl rfl rfl (kUn rfl rfl (kMovC rfl (kGN rfl (fun g0 => kGF rfl (kGF rfl (kGF rfl (kGF rfl (kGF rfl (kPickT rfl (kMovC rfl (kDone (kCondT rfl (kSeq (kReg (kBuild rfl (kStoreP rfl rfl rfl rfl (kMovC rfl (kDone (kRet (endRet (ra := [.agg [(.own true _)], .one (.d _)]) rfl (by (repeat' first | exact trivial | exact rfl | exact .inl rfl | exact nodupB_sound rfl | exact .inl (Nat.zero_lt_succ _) | exact .inr ⟨Nat.zero_lt_succ _, nmB rfl⟩ | exact fun _ => rfl | exact Nat.le_of_ble_eq_true rfl | exact ⟨_, rfl, fun _ => rfl⟩ | refine ⟨?_, ?_⟩ | fail); first | done | fail) ?_))))))))))))))))) (fun g0 => kGT rfl (kLoadP rfl rfl rfl (kGT rfl (kMovC rfl (kGT rfl (kCall1 true (ok_impl_Name_child _ _ (by first | assumption | omega | solve_by_elim [List.getElem_mem]) (by first | assumption | omega | solve_by_elim [List.getElem_mem])) ⟨⟨⟨rfl, trivial⟩, Nat.le_of_ble_eq_true rfl⟩, rfl, trivial⟩ rfl rfl rfl (fun _ => (kGT rfl (kCallD (ok_impl_NameOk _ (by first | assumption | omega | solve_by_elim [List.getElem_mem]) (by first | assumption | omega | solve_by_elim [List.getElem_mem])) ⟨⟨⟨rfl, trivial⟩, Nat.le_of_ble_eq_true rfl⟩, trivial⟩ rfl rfl rfl rfl rfl (kGT rfl (kUn rfl rfl (kPickF rfl (kMovC rfl (kDone (kCondN rfl (fun g1 => kSeq (kReg (kBuild rfl (kStoreP rfl rfl rfl rfl (kMovC rfl (kDone (kRet (endRet (ra := [.agg [(.own true _)], .one (.d _)]) rfl (by (repeat' first | exact trivial | exact rfl | exact .inl rfl | exact nodupB_sound rfl | exact .inl (Nat.zero_lt_succ _) | exact .inr ⟨Nat.zero_lt_succ _, nmB rfl⟩ | exact fun _ => rfl | exact Nat.le_of_ble_eq_true rfl | exact ⟨_, rfl, fun _ => rfl⟩ | refine ⟨?_, ?_⟩ | fail); first | done | fail) ?_)))))))) (fun g1 => kSkip (kSeq (kReg (kLoadP rfl rfl rfl (kMovC rfl (kCall1 true (ok_impl_Name_child _ _ (by first | assumption | omega | solve_by_elim [List.getElem_mem]) (by first | assumption | omega | solve_by_elim [List.getElem_mem])) ⟨⟨⟨rfl, trivial⟩, Nat.le_of_ble_eq_true rfl⟩, rfl, trivial⟩ rfl rfl rfl (fun _ => (kStoreP rfl rfl rfl rfl (kMovC rfl (kDone (kRet (endRet (ra := [.agg [(.own true _)], .one (.d _)]) rfl (by (repeat' first | exact trivial | exact rfl | exact .inl rfl | exact nodupB_sound rfl | exact .inl (Nat.zero_lt_succ _) | exact .inr ⟨Nat.zero_lt_succ _, nmB rfl⟩ | exact fun _ => rfl | exact Nat.le_of_ble_eq_true rfl | exact ⟨_, rfl, fun _ => rfl⟩ | refine ⟨?_, ?_⟩ | fail); first | done | fail) ?_))))))))))))))))))))))))))))))))))))))))
  · simp [childN, childOk, g0, encBB]
  · simp [childN, childOk, g0, g1, encBB]
  · simp [childN, childOk, g0, g1]

def c_laws_eqByteS : C := (.seq (.reg false (.op 0 [] (some 4) none false (.mov (.v (.bool false)))
  .done))
 (.seq (.seq (.reg false (.op 0 [] (some 6) none false (.mov (.t 0))
  (.op 1 [] (some 7) none false (.len (.t 6))
  (.op 2 [] (some 8) none false (.mov (.t 1))
  (.op 3 [] (some 9) none false (.len (.t 8))
  (.op 4 [] (some 10) none false (.bin .neq (.t 7) (.t 9))
  .done))))))
 (.cond (.t 10)
 (.seq (.reg false (.op 0 [] (some 4) none false (.mov (.v (.bool false)))
  .done))
 .ret)
 .skip))
 (.seq (.seq (.reg false (.op 0 [] (some 5) none false (.mov (.v (.int .i64 0)))
  .done))
 (.block 0 (.loop (.seq (.seq (.reg false (.op 0 [] (some 11) none false (.mov (.t 5))
  (.op 1 [] (some 12) none false (.mov (.t 0))
  (.op 2 [] (some 13) none false (.len (.t 12))
  (.op 3 [] (some 14) none false (.bin .lss (.t 11) (.t 13))
  .done)))))
 (.cond (.t 14)
 .skip
 (.exit 0)))
 (.seq (.block 1 (.seq (.reg true (.op 0 [] (some 17) none true (.mov (.t 0))
  (.op 1 [] (some 18) none true (.mov (.t 5))
  (.op 2 [] (some 19) none true (.iad 1 (.t 17) (.t 18))
  (.op 3 [] (some 20) none true (.load none (.t 19))
  (.op 4 [] (some 21) none true (.mov (.t 1))
  (.op 5 [] (some 22) none true (.mov (.t 5))
  (.op 6 [] (some 23) none true (.iad 1 (.t 21) (.t 22))
  (.op 7 [] (some 24) none true (.load none (.t 23))
  (.op 8 [] (some 25) none true (.bin .neq (.t 20) (.t 24))
  .done))))))))))
 (.cond (.t 25)
 (.seq (.reg false (.op 0 [] (some 4) none false (.mov (.v (.bool false)))
  .done))
 .ret)
 .skip)))
 (.reg false (.op 0 [] (some 15) none false (.mov (.t 5))
  (.op 1 [] (some 16) none false (.bin .add (.t 15) (.v (.int .i64 1)))
  (.op 2 [] (some 5) none false (.mov (.t 16))
  .done)))))))))
 (.seq (.reg false (.op 0 [] (some 4) none false (.mov (.v (.bool true)))
  .done))
 .ret))))
theorem dg_laws_eqByteS : Try.f15.body.bind (digC Try.prog Try.f15.ntmps []) = some c_laws_eqByteS := by kernel_rfl
theorem rs_laws_eqByteS : resSlots Try.prog Try.f15 = some [.s 4] := by kernel_rfl
theorem ok_laws_eqByteS (a b : List UInt8) (ha : a.length ≤ 4194304) :
    FnOK Try.prog 15 [.one (.d (encB a)), .one (.d (encB b))] (fun ra _ => ra = [.one (.d (.sc (.bool (decide (a = b)))))]) := by
  refine FnOK.ofK Try.func15 (by kernel_rfl) dg_laws_eqByteS rs_laws_eqByteS rfl rfl ?_
  unfold c_laws_eqByteS
  refine kSeq (kReg (kMovC rfl (kDone ?_)))
  refine kSeq (kSeq (kReg ?_))
  refine kMovC rfl (kLen rfl rfl rfl (kMovC rfl (kLen rfl rfl rfl (kBin rfl rfl rfl (kDone ?_)))))
  refine kCond rfl (fun h => ?_) (fun h => ?_)
  · refine kSeq (kReg (kMovC rfl (kDone (kRet ?_))))
    refine endRet (ra := [.one (.d _)]) rfl ⟨⟨⟨rfl, .inl rfl⟩, trivial⟩, .nil, trivial, trivial, trivial⟩ ?_
    have : a ≠ b := by rintro rfl; simp at h
    simp [this]
  refine kSkip (kSeq (kSeq (kReg (kMovC rfl (kDone ?_)))))
  have hl : a.length = b.length := by simp [len_encB] at h; omega
  refine kBlock ?_
  refine kLoop (α := { i : Nat // i ≤ a.length ∧ a.take i = b.take i })
    (fun y => ⟨tabSl [(0, .dv (encB a)), (1, .dv (encB b)), (5, .i y.1)], (St.init [.one (.d (encB a)), .one (.d (encB b))]).ob, []⟩) (fun y => a.length - y.1) ⟨0, by simp⟩ (.tab rfl ⟨.refl _, .refl _, .refl _, trivial⟩) ?_
  rintro ⟨i, hi, he⟩
  refine kSeq (kSeq (kReg ?_))
  refine kMovC rfl (kMovC rfl (kLen rfl rfl rfl (kBin rfl rfl rfl (kDone ?_))))
  refine kCond rfl (fun h1 => ?_) (fun h1 => ?_)
  · have hlt : i < a.length := by simp [len_encB] at h1; omega
    refine kSkip (kSeq (kBlock (kSeq (kRegD ?_))))
    refine kMovC rfl (kMovC rfl (kIadD rfl rfl rfl rfl ?_ ?_))
    · simp [len_encB]; omega
    rw [show (encB a).row (i : Int).toNat = _ from row_encB a i hlt]
    refine kLoadD rfl rfl ?_
    refine kMovC rfl (kMovC rfl (kIadD rfl rfl rfl rfl ?_ ?_))
    · simp [len_encB]; omega
    rw [show (encB b).row (i : Int).toNat = _ from row_encB b i (by omega)]
    refine kLoadD rfl rfl ?_
    refine kBin rfl rfl rfl (kDone (kH ?_))
    refine kCond rfl (fun h2 => ?_) (fun h2 => ?_)
    · refine kSeq (kReg (kMovC rfl (kDone (kRet ?_))))
      refine endRet (ra := [.one (.d _)]) rfl ⟨⟨⟨rfl, .inl rfl⟩, trivial⟩, .nil, trivial, trivial, trivial⟩ ?_
      have : a ≠ b := by rintro rfl; simp at h2
      simp [this]
    · refine kSkip (kBk (kReg (kMovC rfl (kAdd rfl rfl ?_ (kMovC rfl (kDone (kInv ?_)))))))
      · simp only; omega
      · have h3 : a[i] = b[i] := by
          simp at h2
          exact UInt8.toNat_inj.1 (by omega)
        refine ⟨⟨i + 1, hlt, ?_⟩, ?_, .tab rfl ⟨.refl _, .refl _, .refl _, trivial⟩⟩
        · rw [List.take_add_one, List.take_add_one, he, List.getElem?_eq_getElem hlt, List.getElem?_eq_getElem (by omega), h3]
        · simp only; omega
  · refine kExit (kExC (kExI (kExB ?_)))
    have hge : i = a.length := by simp [len_encB] at h1; omega
    refine kSeq (kReg (kMovC rfl (kDone (kRet ?_))))
    refine endRet (ra := [.one (.d _)]) rfl ⟨⟨⟨rfl, .inl rfl⟩, trivial⟩, .nil, trivial, trivial, trivial⟩ ?_
    have : a = b := by
      rw [hge, List.take_length] at he
      rw [he, hl, List.take_length]
    simp [this]

def c_laws_eqByteSS : C := (.seq (.reg false (.op 0 [] (some 4) none false (.mov (.v (.bool false)))
  .done))
 (.seq (.seq (.reg false (.op 0 [] (some 6) none false (.mov (.t 0))
  (.op 1 [] (some 7) none false (.len (.t 6))
  (.op 2 [] (some 8) none false (.mov (.t 1))
  (.op 3 [] (some 9) none false (.len (.t 8))
  (.op 4 [] (some 10) none false (.bin .neq (.t 7) (.t 9))
  .done))))))
 (.cond (.t 10)
 (.seq (.reg false (.op 0 [] (some 4) none false (.mov (.v (.bool false)))
  .done))
 .ret)
 .skip))
 (.seq (.seq (.reg false (.op 0 [] (some 5) none false (.mov (.v (.int .i64 0)))
  .done))
 (.block 0 (.loop (.seq (.seq (.reg false (.op 0 [] (some 11) none false (.mov (.t 5))
  (.op 1 [] (some 12) none false (.mov (.t 0))
  (.op 2 [] (some 13) none false (.len (.t 12))
  (.op 3 [] (some 14) none false (.bin .lss (.t 11) (.t 13))
  .done)))))
 (.cond (.t 14)
 .skip
 (.exit 0)))
 (.seq (.block 1 (.seq (.reg true (.op 0 [] (some 17) none true (.mov (.t 0))
  (.op 1 [] (some 18) none true (.mov (.t 5))
  (.op 2 [] (some 19) none true (.iad 1 (.t 17) (.t 18))
  (.op 3 [] (some 20) none true (.load none (.t 19))
  (.op 4 [] (some 21) none true (.mov (.t 1))
  (.op 5 [] (some 22) none true (.mov (.t 5))
  (.op 6 [] (some 23) none true (.iad 1 (.t 21) (.t 22))
  (.op 7 [] (some 24) none true (.load none (.t 23))
  (.op 8 [3, 7] (some 25) none false (.call 25 15 [(.t 20), (.t 24)])
  (.op 9 [] (some 26) none true (.un .not (.t 25))
  .done)))))))))))
 (.cond (.t 26)
 (.seq (.reg false (.op 0 [] (some 4) none false (.mov (.v (.bool false)))
  .done))
 .ret)
 .skip)))
 (.reg false (.op 0 [] (some 15) none false (.mov (.t 5))
  (.op 1 [] (some 16) none false (.bin .add (.t 15) (.v (.int .i64 1)))
  (.op 2 [] (some 5) none false (.mov (.t 16))
  .done)))))))))
 (.seq (.reg false (.op 0 [] (some 4) none false (.mov (.v (.bool true)))
  .done))
 .ret))))
theorem dg_laws_eqByteSS : Try.f23.body.bind (digC Try.prog Try.f23.ntmps []) = some c_laws_eqByteSS := by kernel_rfl
theorem rs_laws_eqByteSS : resSlots Try.prog Try.f23 = some [.s 4] := by kernel_rfl
theorem ok_laws_eqByteSS (a b : List (List UInt8)) (ha : a.length ≤ 4194304) (ha2 : ∀ x ∈ a, x.length ≤ 4194304) :
    FnOK Try.prog 23 [.one (.d (encBB a)), .one (.d (encBB b))] (fun ra _ => ra = [.one (.d (.sc (.bool (decide (a = b)))))]) := by
  refine FnOK.ofK Try.func23 (by kernel_rfl) dg_laws_eqByteSS rs_laws_eqByteSS rfl rfl ?_
  unfold c_laws_eqByteSS
  refine kSeq (kReg (kMovC rfl (kDone (kSeq (kSeq (kReg (kMovC rfl (kLenR rfl rfl (kMovC rfl (kLenR rfl rfl (kBin rfl rfl rfl (kDone (kCondN rfl (fun g0 => kSeq (kReg (kMovC rfl (kDone (kRet (endRet (ra := [.one (.d _)]) rfl (by (repeat' first | exact trivial | exact rfl | exact .inl rfl | exact nodupB_sound rfl | exact .inl (Nat.zero_lt_succ _) | exact .inr ⟨Nat.zero_lt_succ _, nmB rfl⟩ | exact fun _ => rfl | exact Nat.le_of_ble_eq_true rfl | exact ⟨_, rfl, fun _ => rfl⟩ | refine ⟨?_, ?_⟩ | fail); first | done | fail) ?_)))))) (fun g0 => kSkip (kSeq (kSeq (kReg (kMovC rfl (kDone (kBlock ?_))))))))))))))))))))
  · rw [decide_eq_false (by rintro rfl; simp_all)]
  have hab : a.length = b.length := by simp at *; omega
  refine kLoop (α := { i : Nat // i ≤ a.length ∧ a.take i = b.take i })
    (fun y => ⟨tabSl [(0, .dv (encBB a)), (1, .dv (encBB b)), (5, .i y.1)], obTab 1 [], []⟩) (fun y => a.length - y.1) ⟨0, by simp⟩
    (.norm (by repeat' first | exact trivial | exact rfl | exact .inl rfl | exact .inl (congrArg (fun z : Int => AC.d (.sc (.int .i64 z))) (by first | omega | (simp only; omega) | (simp; try omega))) | refine ⟨_, rfl, ?_⟩ | refine ⟨?_, ?_⟩ | fail) (by repeat' first | exact trivial | exact rfl | exact .inl rfl | exact .inl (congrArg (fun z : Int => AC.d (.sc (.int .i64 z))) (by first | omega | (simp only; omega) | (simp; try omega))) | refine ⟨_, rfl, ?_⟩ | refine ⟨?_, ?_⟩ | fail)) ?_
  rintro ⟨i, hi, he⟩
  simp only
  refine kSeq (kSeq (kReg (kMovC rfl (kMovC rfl (kLenR rfl rfl (kBin rfl rfl rfl (kDone (kCondP rfl (fun g0 => kSkip (kSeq (kBlock (kSeq (kRegD (kMovC rfl (kMovC rfl (kIadR rfl rfl rfl (by omega) (kLoadD rfl rfl (kMovC rfl (kMovC rfl (kIadR rfl rfl rfl (by omega) (kLoadD rfl rfl (kRelF rfl rfl (kCallD (ok_laws_eqByteS _ _ (by first | assumption | omega | solve_by_elim [List.getElem_mem])) ⟨rfl, rfl, trivial⟩ rfl rfl rfl rfl rfl (kUn rfl rfl (kDone (kH (kCondN rfl (fun g1 => kSeq (kReg (kMovC rfl (kDone (kRet (endRet (ra := [.one (.d _)]) rfl (by (repeat' first | exact trivial | exact rfl | exact .inl rfl | exact nodupB_sound rfl | exact .inl (Nat.zero_lt_succ _) | exact .inr ⟨Nat.zero_lt_succ _, nmB rfl⟩ | exact fun _ => rfl | exact Nat.le_of_ble_eq_true rfl | exact ⟨_, rfl, fun _ => rfl⟩ | refine ⟨?_, ?_⟩ | fail); first | done | fail) ?_)))))) (fun g1 => kSkip (kBk (kReg (kMovC rfl (kAdd rfl rfl (by omega) (kMovC rfl (kDone ?_)))))))))))))))))))))))))) (fun g0 => kExit (kExC (kExI (kExB (kSeq (kReg (kMovC rfl (kDone (kRet (endRet (ra := [.one (.d _)]) rfl (by (repeat' first | exact trivial | exact rfl | exact .inl rfl | exact nodupB_sound rfl | exact .inl (Nat.zero_lt_succ _) | exact .inr ⟨Nat.zero_lt_succ _, nmB rfl⟩ | exact fun _ => rfl | exact Nat.le_of_ble_eq_true rfl | exact ⟨_, rfl, fun _ => rfl⟩ | refine ⟨?_, ?_⟩ | fail); first | done | fail) ?_))))))))))))))))))
  · rw [decide_eq_false]
    rintro rfl
    simp_all
  · refine kInv ⟨⟨i + 1, by omega, ?_⟩, by simp only; omega, (.norm (by repeat' first | exact trivial | exact rfl | exact .inl rfl | exact .inl (congrArg (fun z : Int => AC.d (.sc (.int .i64 z))) (by first | omega | (simp only; omega) | (simp; try omega))) | refine ⟨_, rfl, ?_⟩ | refine ⟨?_, ?_⟩ | fail) (by repeat' first | exact trivial | exact rfl | exact .inl rfl | exact .inl (congrArg (fun z : Int => AC.d (.sc (.int .i64 z))) (by first | omega | (simp only; omega) | (simp; try omega))) | refine ⟨_, rfl, ?_⟩ | refine ⟨?_, ?_⟩ | fail))⟩
    rw [← List.take_append_getElem (by omega), ← List.take_append_getElem (by omega), he]
    simp_all
  · have hge : i = a.length := by omega
    rw [hge, List.take_length, hab, List.take_length] at he
    rw [he, decide_eq_true rfl]

def c_laws_eqName : C := (.seq (.reg false (.op 0 [] (some 2) none false (.box 2 (.t 0))
  (.op 1 [] (some 3) none false (.box 3 (.t 1))
  (.op 2 [] (some 4) none false (.mov (.v (.bool false)))
  .done))))
 (.seq (.seq (.reg false (.op 0 [] (some 5) none false (.fad (.t 2) 0)
  (.op 1 [] (some 6) none false (.load none (.t 5))
  (.op 2 [] (some 7) none false (.fad (.t 3) 0)
  (.op 3 [] (some 8) none false (.load none (.t 7))
  (.op 4 [] (some 9) none false (.call 9 23 [(.t 6), (.t 8)])
  (.op 5 [] (some 10) none false (.un .not (.t 9))
  .done)))))))
 (.cond (.t 10)
 (.seq (.reg false (.op 0 [] (some 4) none false (.mov (.v (.bool false)))
  .done))
 .ret)
 .skip))
 (.seq (.reg false (.op 0 [] (some 4) none false (.mov (.v (.bool true)))
  .done))
 .ret)))
theorem dg_laws_eqName : Try.f9.body.bind (digC Try.prog Try.f9.ntmps []) = some c_laws_eqName := by kernel_rfl
theorem rs_laws_eqName : resSlots Try.prog Try.f9 = some [.s 4] := by kernel_rfl
theorem ok_laws_eqName (a b : List (List UInt8)) (ha : a.length ≤ 4194304) (ha2 : ∀ x ∈ a, x.length ≤ 4194304) :
    FnOK Try.prog 9 [.agg [.d (encBB a)], .agg [.d (encBB b)]] (fun ra _ => ra = [.one (.d (.sc (.bool (decide (a = b)))))]) := by
  refine FnOK.ofK Try.func9 (by kernel_rfl) dg_laws_eqName rs_laws_eqName rfl rfl ?_
  unfold c_laws_eqName
  refine kSeq (kReg (kBox rfl rfl rfl rfl rfl (kBox rfl rfl rfl rfl rfl (kMovC rfl (kDone (kSeq (kSeq (kReg (kFadP rfl rfl (kLoadP rfl rfl rfl (kFadP rfl rfl (kLoadP rfl rfl rfl (kCallD (ok_laws_eqByteSS _ _ (by first | assumption | omega | solve_by_elim [List.getElem_mem]) (by first | assumption | omega | solve_by_elim [List.getElem_mem])) ⟨rfl, rfl, trivial⟩ rfl rfl rfl rfl rfl (kUn rfl rfl (kDone (kCondN rfl (fun g0 => kSeq (kReg (kMovC rfl (kDone (kRet (endRet (ra := [.one (.d _)]) rfl (by (repeat' first | exact trivial | exact rfl | exact .inl rfl | exact nodupB_sound rfl | exact .inl (Nat.zero_lt_succ _) | exact .inr ⟨Nat.zero_lt_succ _, nmB rfl⟩ | exact fun _ => rfl | exact Nat.le_of_ble_eq_true rfl | exact ⟨_, rfl, fun _ => rfl⟩ | refine ⟨?_, ?_⟩ | fail); first | done | fail) ?_)))))) (fun g0 => kSkip (kSeq (kReg (kMovC rfl (kDone (kRet (endRet (ra := [.one (.d _)]) rfl (by (repeat' first | exact trivial | exact rfl | exact .inl rfl | exact nodupB_sound rfl | exact .inl (Nat.zero_lt_succ _) | exact .inr ⟨Nat.zero_lt_succ _, nmB rfl⟩ | exact fun _ => rfl | exact Nat.le_of_ble_eq_true rfl | exact ⟨_, rfl, fun _ => rfl⟩ | refine ⟨?_, ?_⟩ | fail); first | done | fail) ?_)))))))))))))))))))))))
  all_goals simp_all

def c_laws_markByteS : C := (.seq (.reg false (.op 0 [] (some 4) none false (.mov (.v (.int .i64 0)))
  .done))
 (.seq (.seq (.reg false (.op 0 [] (some 5) none false (.mov (.v (.int .i64 0)))
  .done))
 (.block 0 (.loop (.seq (.seq (.reg false (.op 0 [] (some 6) none false (.mov (.t 5))
  (.op 1 [] (some 7) none false (.mov (.t 0))
  (.op 2 [] (some 8) none false (.len (.t 7))
  (.op 3 [] (some 9) none false (.bin .lss (.t 6) (.t 8))
  .done)))))
 (.cond (.t 9)
 .skip
 (.exit 0)))
 (.seq (.block 1 (.seq (.reg false (.op 0 [] (some 12) none false (.mov (.t 0))
  (.op 1 [] (some 13) none false (.mov (.t 5))
  (.op 2 [] (some 14) none false (.mov (.t 1))
  (.op 3 [] (some 15) none false (.conv .u8 (.t 14))
  (.op 4 [] (some 16) none false (.iad 1 (.t 12) (.t 13))
  (.op 5 [] none none false (.store none (.t 16) (.t 15))
  .done)))))))
 (.reg false (.op 0 [] (some 17) none false (.mov (.t 1))
  (.op 1 [] (some 18) none false (.bin .add (.t 17) (.v (.int .i64 1)))
  (.op 2 [] (some 1) none false (.mov (.t 18))
  .done))))))
 (.reg false (.op 0 [] (some 10) none false (.mov (.t 5))
  (.op 1 [] (some 11) none false (.bin .add (.t 10) (.v (.int .i64 1)))
  (.op 2 [] (some 5) none false (.mov (.t 11))
  .done)))))))))
 (.seq (.reg false (.op 0 [] (some 19) none false (.mov (.t 1))
  (.op 1 [] (some 4) none false (.mov (.t 19))
  .done)))
 .ret)))
theorem dg_laws_markByteS : Try.f16.body.bind (digC Try.prog Try.f16.ntmps []) = some c_laws_markByteS := by kernel_rfl
theorem rs_laws_markByteS : resSlots Try.prog Try.f16 = some [.s 4] := by kernel_rfl
theorem ok_laws_markByteS (a : List UInt8) (k : Int) (h0 : 0 ≤ k) (hk : k + a.length ≤ 9223372036854775807) :
    FnOK Try.prog 16 [.one (.arr false true (encB a)), .one (.d (.sc (.int .i64 k)))] (fun ra os => ra = [.one (.d (.sc (.int .i64 (k + a.length))))] ∧ os.a 0 = encB (marks a.length k)) := by
  refine FnOK.ofK Try.func16 (by kernel_rfl) dg_laws_markByteS rs_laws_markByteS rfl rfl ?_
  unfold c_laws_markByteS
  generalize hgas : [GA.one (.arr false true (encB a)), GA.one (.d (.sc (.int .i64 k)))] = gas
  have hob : (St.init gas).ob 0 = ⟨0, 0, .arr true (encB a)⟩ := by rw [← hgas]; rfl
  have s0 : (St.init gas).sl 0 = .c (.arr 0 0) := by rw [← hgas]; rfl
  have s1 : (St.init gas).sl 1 = .i k := by rw [← hgas]; rfl
  refine kSub (t := ⟨tabSl [(0, .c (.arr 0 0)), (1, .i k)], (St.init gas).ob, []⟩) (.tab rfl ⟨s0 ▸ .refl _, s1 ▸ .refl _, trivial⟩) ?_
  refine kSeq (kReg (kMovC rfl (kDone ?_)))
  refine kSeq (kSeq (kReg (kMovC rfl (kDone (kBlock ?_)))))
  refine kLoop (α := { i : Nat // i ≤ a.length })
    (fun y => ⟨tabSl [(0, .c (.arr 0 0)), (1, .i (k + (y.1 : Int))), (5, .i y.1)], upd (St.init gas).ob 0 ⟨0, y.1, .arr true (encB (marks y.1 k ++ a.drop y.1))⟩, []⟩) (fun y => a.length - y.1) ⟨0, by simp⟩
    (.tab (upd_self (by rw [hob]; rfl)) ⟨.refl _, by simpa using .refl _, .refl _, trivial⟩) ?_
  rintro ⟨i, hi⟩
  simp only
  have hlen : (marks i k ++ a.drop i).length = a.length := by simp [marks_len]; omega
  refine kSeq (kSeq (kReg ?_))
  refine kMovC rfl (kMovC rfl (kLen rfl rfl rfl (kBin rfl rfl rfl (kDone ?_))))
  rw [len_encB, hlen]
  refine kCond rfl (fun h1 => ?_) (fun h1 => ?_)
  · have hlt : i < a.length := by simp at h1; omega
    refine kSkip (kSeq (kBlock (kSeq (kReg ?_))))
    refine kMovC rfl (kMovC rfl (kMovC rfl (kConv rfl (kIadA rfl rfl rfl rfl ?_ ?_))))
    · rw [len_encB, hlen]; omega
    refine kStoreE1 rfl rfl rfl rfl (by simp [encB, DV.esz]) (kDone ?_)
    rw [show (Int.toNat (i : Int)) = i from rfl, setRow_encB _ _ _ (by omega)]
    refine kReg (kMovC rfl (kAdd rfl rfl ?_ (kMovC rfl (kDone (kBk ?_)))))
    · omega
    refine kReg (kMovC rfl (kAdd rfl rfl ?_ (kMovC rfl (kDone (kInv ?_)))))
    · omega
    refine ⟨⟨i + 1, hlt⟩, by simp only; omega, .tab ?_ ⟨.refl _, ?_, .refl _, trivial⟩⟩
    · show _ = upd (upd (St.init gas).ob 0 _) 0 _
      rw [upd_upd, take_set_succ _ _ _ _ hlt (marks_len i k), marks_succ]
      rfl
    · show WkV (.i (k + i + 1)) (.i (k + ((i + 1 : Nat) : Int)))
      rw [show k + ((i + 1 : Nat) : Int) = k + i + 1 by omega]
      exact .refl _
  · refine kExit (kExC (kExI (kExB ?_)))
    have hge : i = a.length := by simp at h1; omega
    subst hge
    refine kSeq (kReg (kMovC rfl (kMovC rfl (kDone (kRet ?_)))))
    rw [← hgas]
    refine endRet (ra := [.one (.d _)]) rfl ⟨⟨⟨rfl, .inl rfl⟩, trivial⟩, .nil, ⟨rfl, fun _ => rfl, rfl⟩, trivial, trivial⟩ ?_
    refine ⟨rfl, ?_⟩
    show encB (marks a.length k ++ a.drop a.length) = _
    simp

def c_laws_markByteSS : C := (.seq (.reg false (.op 0 [] (some 4) none false (.mov (.v (.int .i64 0)))
  .done))
 (.seq (.seq (.reg false (.op 0 [] (some 5) none false (.mov (.v (.int .i64 0)))
  .done))
 (.block 0 (.loop (.seq (.seq (.reg false (.op 0 [] (some 6) none false (.mov (.t 5))
  (.op 1 [] (some 7) none false (.mov (.t 0))
  (.op 2 [] (some 8) none false (.len (.t 7))
  (.op 3 [] (some 9) none false (.bin .lss (.t 6) (.t 8))
  .done)))))
 (.cond (.t 9)
 .skip
 (.exit 0)))
 (.seq (.block 1 (.reg false (.op 0 [] (some 12) none false (.mov (.t 0))
  (.op 1 [] (some 13) none false (.mov (.t 5))
  (.op 2 [] (some 14) none false (.iad 1 (.t 12) (.t 13))
  (.op 3 [] (some 15) none false (.load none (.t 14))
  (.op 4 [] (some 16) none false (.mov (.t 1))
  (.op 5 [] (some 17) none false (.call 17 16 [(.t 15), (.t 16)])
  (.op 6 [] (some 1) none false (.mov (.t 17))
  .done)))))))))
 (.reg false (.op 0 [] (some 10) none false (.mov (.t 5))
  (.op 1 [] (some 11) none false (.bin .add (.t 10) (.v (.int .i64 1)))
  (.op 2 [] (some 5) none false (.mov (.t 11))
  .done)))))))))
 (.seq (.reg false (.op 0 [] (some 18) none false (.mov (.t 1))
  (.op 1 [] (some 4) none false (.mov (.t 18))
  .done)))
 .ret)))
theorem dg_laws_markByteSS : Try.f24.body.bind (digC Try.prog Try.f24.ntmps []) = some c_laws_markByteSS := by kernel_rfl
theorem rs_laws_markByteSS : resSlots Try.prog Try.f24 = some [.s 4] := by kernel_rfl
theorem ok_laws_markByteSS (a : List (List UInt8)) (k : Int) (h0 : 0 ≤ k) (hk : k + a.flatten.length ≤ 9223372036854775807) (hl : a.length ≤ 4194304) :
    FnOK Try.prog 24 [.one (.arr false true (encBB a)), .one (.d (.sc (.int .i64 k)))] (fun ra os => ra = [.one (.d (.sc (.int .i64 (k + a.flatten.length))))] ∧ os.a 0 = encBB (markss a k)) := by
  refine FnOK.ofK Try.func24 (by kernel_rfl) dg_laws_markByteSS rs_laws_markByteSS rfl rfl ?_
  unfold c_laws_markByteSS
  refine kSeq (kReg (kMovC rfl (kDone ?_)))
  refine kSeq (kSeq (kReg (kMovC rfl (kDone (kBlock ?_)))))
  refine kLoop (α := { i : Nat // i ≤ a.length })
    (fun y => ⟨tabSl [(0, .c (.arr 0 0)), (1, .i (k + (a.take y.1).flatten.length)), (5, .i y.1)], upd (St.init [.one (.arr false true (encBB a)), .one (.d (.sc (.int .i64 k)))]).ob 0 ⟨0, y.1, .arr true (encBB (markss (a.take y.1) k ++ a.drop y.1))⟩, []⟩) (fun y => a.length - y.1) ⟨0, by simp⟩
    (.tab (upd_self rfl) ⟨.refl _, by simpa using .refl _, .refl _, trivial⟩) ?_
  rintro ⟨i, hi⟩
  simp only
  have hlen : (markss (a.take i) k).length = i := by rw [markss_len]; simp; omega
  have hlen' : (markss (a.take i) k ++ a.drop i).length = a.length := by simp [hlen]; omega
  refine kSeq (kSeq (kReg ?_))
  refine kMovC rfl (kMovC rfl (kLen rfl rfl rfl (kBin rfl rfl rfl (kDone ?_))))
  rw [len_encBB, hlen']
  refine kCond rfl (fun h1 => ?_) (fun h1 => ?_)
  · have hlt : i < a.length := by simp at h1; omega
    have hget : (markss (a.take i) k ++ a.drop i)[i]'(by omega) = a[i] := by
      rw [List.getElem_append_right (by omega)]; simp [hlen]
    have hat : (encBB (markss (a.take i) k ++ a.drop i)).at i 0 = encB a[i] := by rw [at_encBB _ _ (by omega), hget]
    have hfl : (a.take (i + 1)).flatten.length = (a.take i).flatten.length + a[i].length := by
      rw [← List.take_append_getElem hlt, List.flatten_append, List.length_append]; simp only [List.flatten_cons, List.flatten_nil, List.append_nil]
    have htot : (a.take (i + 1)).flatten.length ≤ a.flatten.length := by
      have := congrArg (fun l => (List.flatten l).length) (List.take_append_drop (i + 1) a)
      simp only [List.flatten_append, List.length_append] at this
      omega
    refine kSkip (kSeq (kBlock (kReg ?_)))
    refine kMovC rfl (kMovC rfl (kIadA rfl rfl rfl rfl ?_ ?_))
    · rw [len_encBB, hlen']; omega
    refine kLoadE rfl rfl (v := .c (.sub 0 0 i i 0)) ?_ (kMovC rfl ?_)
    · show pickCells none (AC.ofCells 0 0 i i 0 (((encBB (markss (a.take i) k ++ a.drop i)).row i).drop 0)) = _
      rw [row_encBB _ _ (by omega)]
      rfl
    refine kCallS (ok_laws_markByteS a[i] (k + (a.take i).flatten.length) (by omega) (by omega)) rfl ⟨⟨rfl, rfl, rfl, rfl, rfl, rfl, hat.symm, rfl⟩, rfl, trivial⟩ ?_ rfl ?_
    · simp [encBB, DV.rows, hlen]; omega
    rintro ra os ⟨rfl, ho⟩
    refine ⟨_, rfl, ?_⟩
    refine kMovC rfl (kDone (kBk ?_))
    refine kReg (kMovC rfl (kAdd rfl rfl ?_ (kMovC rfl (kDone (kInv ?_)))))
    · omega
    refine ⟨⟨i + 1, hlt⟩, by simp only; omega, .tab ?_ ⟨.refl _, ?_, .refl _, trivial⟩⟩
    · refine Eq.trans ?_ (upd_upd _ _ _ _).symm
      refine congrArg (upd _ _) ?_
      show _ = Ob.mk _ _ (OK.arr _ ((encBB (markss (a.take i) k ++ a.drop i)).setCell i 0 (os.a 0)))
      rw [ho, setCell_encBB _ _ _ (by omega), take_set_succ _ _ _ _ hlt hlen, ← List.take_append_getElem hlt, markss_append]
    · show WkV (.i (k + ((a.take i).flatten.length : Int) + a[i].length)) (.i (k + ((a.take (i + 1)).flatten.length : Int)))
      rw [hfl, show k + (((a.take i).flatten.length + a[i].length : Nat) : Int) = k + ((a.take i).flatten.length : Int) + a[i].length by omega]
      exact .refl _
  · refine kExit (kExC (kExI (kExB ?_)))
    have hge : i = a.length := by simp at h1; omega
    subst hge
    refine kSeq (kReg (kMovC rfl (kMovC rfl (kDone (kRet ?_)))))
    refine endRet (ra := [.one (.d _)]) rfl ⟨⟨⟨rfl, .inl rfl⟩, trivial⟩, .nil, ⟨rfl, fun _ => rfl, rfl⟩, trivial, trivial⟩ ?_
    refine ⟨by simp, ?_⟩
    show encBB (markss (a.take a.length) k ++ a.drop a.length) = _
    simp

def c_laws_markName : C := (.seq (.reg false (.op 0 [] (some 2) none false (.box 2 (.t 0))
  (.op 1 [] (some 4) none false (.mov (.v (.int .i64 0)))
  .done)))
 (.seq (.reg false (.op 0 [] (some 5) none false (.fad (.t 2) 0)
  (.op 1 [] (some 6) none false (.load none (.t 5))
  (.op 2 [] (some 7) none false (.mov (.t 1))
  (.op 3 [] (some 8) none false (.call 8 24 [(.t 6), (.t 7)])
  (.op 4 [] (some 1) none false (.mov (.t 8))
  .done))))))
 (.seq (.reg false (.op 0 [] (some 9) none false (.mov (.t 1))
  (.op 1 [] (some 4) none false (.mov (.t 9))
  .done)))
 .ret)))
theorem dg_laws_markName : Try.f10.body.bind (digC Try.prog Try.f10.ntmps []) = some c_laws_markName := by kernel_rfl
theorem rs_laws_markName : resSlots Try.prog Try.f10 = some [.s 4] := by kernel_rfl
theorem ok_laws_markName (a : List (List UInt8)) (k : Int) (h0 : 0 ≤ k) (hk : k + a.flatten.length ≤ 9223372036854775807) (hl : a.length ≤ 4194304) :
    FnOK Try.prog 10 [.agg [.arr false true (encBB a)], .one (.d (.sc (.int .i64 k)))] (fun ra os => ra = [.one (.d (.sc (.int .i64 (k + a.flatten.length))))] ∧ os.a 0 = encBB (markss a k)) := by
  refine FnOK.ofK Try.func10 (by kernel_rfl) dg_laws_markName rs_laws_markName rfl rfl ?_
  unfold c_laws_markName
  refine kSeq (kReg (kBox rfl rfl rfl rfl rfl (kMovC rfl (kDone (kSeq (kReg (kFadP rfl rfl (kLoadP rfl rfl rfl (kMovC rfl ?_)))))))))
  refine kCall false (ok_laws_markByteSS a k h0 hk hl) ⟨⟨_, rfl, .inl rfl⟩, rfl, trivial⟩ rfl nofun (by rintro ra os ⟨rfl, _⟩; exact Nat.le_of_ble_eq_true rfl) ?_
  rintro ra os ⟨rfl, ho⟩
  refine kMovC rfl (kDone (kSeq (kReg (kMovC rfl (kMovC rfl (kDone ?_))))))
  refine kRet (endRet (ra := [.one (.d _)]) rfl ?_ ⟨rfl, ho⟩)
  (repeat' first | exact trivial | exact rfl | exact .inl rfl | exact nodupB_sound rfl | exact .inl (Nat.zero_lt_succ _) | exact fun _ => rfl | exact Nat.le_of_ble_eq_true rfl | exact ⟨_, rfl, fun _ => rfl⟩ | refine ⟨?_, ?_⟩ | fail)
  rw [show os.a (aid 0 0) = _ from ho]
  rfl

def c_laws_heldByteS : C := (.seq (.reg false (.op 0 [] (some 4) none false (.mov (.v (.int .i64 0)))
  .done))
 (.seq (.seq (.reg false (.op 0 [] (some 5) none false (.mov (.v (.int .i64 0)))
  .done))
 (.block 0 (.loop (.seq (.seq (.reg false (.op 0 [] (some 6) none false (.mov (.t 5))
  (.op 1 [] (some 7) none false (.mov (.t 0))
  (.op 2 [] (some 8) none false (.len (.t 7))
  (.op 3 [] (some 9) none false (.bin .lss (.t 6) (.t 8))
  .done)))))
 (.cond (.t 9)
 .skip
 (.exit 0)))
 (.seq (.block 1 (.seq (.seq (.reg false (.op 0 [] (some 12) none false (.mov (.t 0))
  (.op 1 [] (some 13) none false (.mov (.t 5))
  (.op 2 [] (some 14) none false (.iad 1 (.t 12) (.t 13))
  (.op 3 [] (some 15) none false (.load none (.t 14))
  (.op 4 [] (some 16) none false (.mov (.t 1))
  (.op 5 [] (some 17) none false (.conv .u8 (.t 16))
  (.op 6 [] (some 18) none false (.bin .neq (.t 15) (.t 17))
  .done))))))))
 (.cond (.t 18)
 (.seq (.reg false (.op 0 [] (some 4) none false (.mov (.v (.int .i64 (-1))))
  .done))
 .ret)
 .skip))
 (.reg false (.op 0 [] (some 19) none false (.mov (.t 1))
  (.op 1 [] (some 20) none false (.bin .add (.t 19) (.v (.int .i64 1)))
  (.op 2 [] (some 1) none false (.mov (.t 20))
  .done))))))
 (.reg false (.op 0 [] (some 10) none false (.mov (.t 5))
  (.op 1 [] (some 11) none false (.bin .add (.t 10) (.v (.int .i64 1)))
  (.op 2 [] (some 5) none false (.mov (.t 11))
  .done)))))))))
 (.seq (.reg false (.op 0 [] (some 21) none false (.mov (.t 1))
  (.op 1 [] (some 4) none false (.mov (.t 21))
  .done)))
 .ret)))
theorem dg_laws_heldByteS : Try.f33.body.bind (digC Try.prog Try.f33.ntmps []) = some c_laws_heldByteS := by kernel_rfl
theorem rs_laws_heldByteS : resSlots Try.prog Try.f33 = some [.s 4] := by kernel_rfl
theorem ok_laws_heldByteS (n : Nat) (k : Int) (h0 : 0 ≤ k) (hk : k + n ≤ 9223372036854775807) :
    FnOK Try.prog 33 [.one (.d (encB (marks n k))), .one (.d (.sc (.int .i64 k)))] (fun ra _ => ra = [.one (.d (.sc (.int .i64 (k + n))))]) := by
  refine FnOK.ofK Try.func33 (by kernel_rfl) dg_laws_heldByteS rs_laws_heldByteS rfl rfl ?_
  unfold c_laws_heldByteS
  have hm := marks_len n k
  refine kSeq (kReg (kMovC rfl (kDone (kSeq (kSeq (kReg (kMovC rfl (kDone (kBlock ?_)))))))))
  refine kLoop (α := { i : Nat // i ≤ n })
    (fun y => ⟨tabSl [(0, .dv (encB (marks n k))), (1, .i (k + y.1)), (5, .i y.1)], obTab 1 [], []⟩) (fun y => n - y.1) ⟨0, by simp⟩
    (.norm (by repeat' first | exact trivial | exact rfl | exact .inl rfl | exact .inl (congrArg (fun z : Int => AC.d (.sc (.int .i64 z))) (by first | omega | (simp only; omega) | (simp; try omega))) | refine ⟨_, rfl, ?_⟩ | refine ⟨?_, ?_⟩ | fail) (by repeat' first | exact trivial | exact rfl | exact .inl rfl | exact .inl (congrArg (fun z : Int => AC.d (.sc (.int .i64 z))) (by first | omega | (simp only; omega) | (simp; try omega))) | refine ⟨_, rfl, ?_⟩ | refine ⟨?_, ?_⟩ | fail)) ?_
  rintro ⟨i, hi⟩
  simp only
  refine kSeq (kSeq (kReg (kMovC rfl (kMovC rfl (kLenR rfl rfl (kBin rfl rfl rfl (kDone (kCondP rfl (fun g0 => kSkip (kSeq (kBlock (kSeq (kSeq (kReg (kMovC rfl (kMovC rfl (kIadR rfl rfl rfl (by omega) (kLoadD rfl rfl (kMovC rfl (kConv rfl (kBin rfl rfl rfl (kDone (kCondN rfl (fun g1 => kSeq (kReg (kMovC rfl (kDone (kRet (endRet (ra := [.one (.d _)]) rfl (by (repeat' first | exact trivial | exact rfl | exact .inl rfl | exact nodupB_sound rfl | exact .inl (Nat.zero_lt_succ _) | exact fun _ => rfl | exact Nat.le_of_ble_eq_true rfl | exact ⟨_, rfl, fun _ => rfl⟩ | refine ⟨?_, ?_⟩ | fail); first | done | fail) ?_)))))) (fun g1 => kSkip (kReg (kMovC rfl (kAdd rfl rfl (by omega) (kMovC rfl (kDone (kBk (kReg (kMovC rfl (kAdd rfl rfl (by omega) (kMovC rfl (kDone ?_))))))))))))))))))))))))))) (fun g0 => kExit (kExC (kExI (kExB (kSeq (kReg (kMovC rfl (kMovC rfl (kDone (kRet (endRet (ra := [.one (.d _)]) rfl (by (repeat' first | exact trivial | exact rfl | exact .inl rfl | exact nodupB_sound rfl | exact .inl (Nat.zero_lt_succ _) | exact fun _ => rfl | exact Nat.le_of_ble_eq_true rfl | exact ⟨_, rfl, fun _ => rfl⟩ | refine ⟨?_, ?_⟩ | fail); first | done | fail) ?_)))))))))))))))))))
  · rw [marks_get, beq_self_eq_true] at g1; cases g1
  · exact kInv ⟨⟨i + 1, by omega⟩, by simp only; omega, (.norm (by repeat' first | exact trivial | exact rfl | exact .inl rfl | exact .inl (congrArg (fun z : Int => AC.d (.sc (.int .i64 z))) (by first | omega | (simp only; omega) | (simp; try omega))) | refine ⟨_, rfl, ?_⟩ | refine ⟨?_, ?_⟩ | fail) (by repeat' first | exact trivial | exact rfl | exact .inl rfl | exact .inl (congrArg (fun z : Int => AC.d (.sc (.int .i64 z))) (by first | omega | (simp only; omega) | (simp; try omega))) | refine ⟨_, rfl, ?_⟩ | refine ⟨?_, ?_⟩ | fail))⟩
  · rw [show i = n by omega]

def c_laws_heldByteSS : C := (.seq (.reg false (.op 0 [] (some 4) none false (.mov (.v (.int .i64 0)))
  .done))
 (.seq (.seq (.reg false (.op 0 [] (some 5) none false (.mov (.v (.int .i64 0)))
  .done))
 (.block 0 (.loop (.seq (.seq (.reg false (.op 0 [] (some 6) none false (.mov (.t 5))
  (.op 1 [] (some 7) none false (.mov (.t 0))
  (.op 2 [] (some 8) none false (.len (.t 7))
  (.op 3 [] (some 9) none false (.bin .lss (.t 6) (.t 8))
  .done)))))
 (.cond (.t 9)
 .skip
 (.exit 0)))
 (.seq (.block 1 (.seq (.reg false (.op 0 [] (some 12) none false (.mov (.t 0))
  (.op 1 [] (some 13) none false (.mov (.t 5))
  (.op 2 [] (some 14) none false (.iad 1 (.t 12) (.t 13))
  (.op 3 [] (some 15) none false (.load none (.t 14))
  (.op 4 [] (some 16) none false (.mov (.t 1))
  (.op 5 [] (some 17) none false (.call 17 33 [(.t 15), (.t 16)])
  (.op 6 [] (some 1) none false (.mov (.t 17))
  .done))))))))
 (.seq (.reg false (.op 0 [] (some 18) none false (.mov (.t 1))
  (.op 1 [] (some 19) none false (.bin .lss (.t 18) (.v (.int .i64 0)))
  .done)))
 (.cond (.t 19)
 (.seq (.reg false (.op 0 [] (some 4) none false (.mov (.v (.int .i64 (-1))))
  .done))
 .ret)
 .skip))))
 (.reg false (.op 0 [] (some 10) none false (.mov (.t 5))
  (.op 1 [] (some 11) none false (.bin .add (.t 10) (.v (.int .i64 1)))
  (.op 2 [] (some 5) none false (.mov (.t 11))
  .done)))))))))
 (.seq (.reg false (.op 0 [] (some 20) none false (.mov (.t 1))
  (.op 1 [] (some 4) none false (.mov (.t 20))
  .done)))
 .ret)))
theorem dg_laws_heldByteSS : Try.f25.body.bind (digC Try.prog Try.f25.ntmps []) = some c_laws_heldByteSS := by kernel_rfl
theorem rs_laws_heldByteSS : resSlots Try.prog Try.f25 = some [.s 4] := by kernel_rfl
theorem ok_laws_heldByteSS (a : List (List UInt8)) (k : Int) (h0 : 0 ≤ k) (hk : k + a.flatten.length ≤ 9223372036854775807) (hl : a.length ≤ 4194304) :
    FnOK Try.prog 25 [.one (.d (encBB (markss a k))), .one (.d (.sc (.int .i64 k)))] (fun ra _ => ra = [.one (.d (.sc (.int .i64 (k + a.flatten.length))))]) := by
  refine FnOK.ofK Try.func25 (by kernel_rfl) dg_laws_heldByteSS rs_laws_heldByteSS rfl rfl ?_
  unfold c_laws_heldByteSS
  have hm := markss_len a k
  refine kSeq (kReg (kMovC rfl (kDone (kSeq (kSeq (kReg (kMovC rfl (kDone (kBlock ?_)))))))))
  refine kLoop (α := { i : Nat // i ≤ a.length })
    (fun y => ⟨tabSl [(0, .dv (encBB (markss a k))), (1, .i (k + (a.take y.1).flatten.length)), (5, .i y.1)], obTab 1 [], []⟩) (fun y => a.length - y.1) ⟨0, by simp⟩
    (.norm (by repeat' first | exact trivial | exact rfl | exact .inl rfl | exact .inl (congrArg (fun z : Int => AC.d (.sc (.int .i64 z))) (by first | omega | (simp only; omega) | (simp; try omega))) | refine ⟨_, rfl, ?_⟩ | refine ⟨?_, ?_⟩ | fail) (by repeat' first | exact trivial | exact rfl | exact .inl rfl | exact .inl (congrArg (fun z : Int => AC.d (.sc (.int .i64 z))) (by first | omega | (simp only; omega) | (simp; try omega))) | refine ⟨_, rfl, ?_⟩ | refine ⟨?_, ?_⟩ | fail)) ?_
  rintro ⟨i, hi⟩
  simp only
  have hsuc : ∀ h : i < a.length, (a.take (i + 1)).flatten.length = (a.take i).flatten.length + a[i].length := take_flat a i
  have hle := flat_le a i
  have hle2 := flat_le a (i + 1)
  refine kSeq (kSeq (kReg (kMovC rfl (kMovC rfl (kLenR rfl rfl (kBin rfl rfl rfl (kDone (kCondP rfl (fun g0 => kSkip (kSeq (kBlock (kSeq (kReg (kMovC rfl (kMovC rfl (kIadR rfl rfl rfl (by omega) (kLoadD rfl rfl (kMovC rfl ?_)))))))))) (fun g0 => kExit (kExC (kExI (kExB (kSeq (kReg (kMovC rfl (kMovC rfl (kDone (kRet (endRet (ra := [.one (.d _)]) rfl (by (repeat' first | exact trivial | exact rfl | exact .inl rfl | exact nodupB_sound rfl | exact .inl (Nat.zero_lt_succ _) | exact fun _ => rfl | exact Nat.le_of_ble_eq_true rfl | exact ⟨_, rfl, fun _ => rfl⟩ | refine ⟨?_, ?_⟩ | fail); first | done | fail) ?_)))))))))))))))))))
  · have hlt : i < a.length := by omega
    have := hsuc hlt
    rw [markss_get a k i (by omega) hlt]
    refine kCall1 true (ok_laws_heldByteS a[i].length (k + (a.take i).flatten.length) (by omega) (by omega)) ⟨rfl, rfl, trivial⟩ rfl rfl rfl (fun _ => ?_)
    refine kMovC rfl (kDone (kSeq (kReg (kMovC rfl (kBin rfl rfl rfl (kDone (kCondP rfl (fun g0 => kSeq (kReg (kMovC rfl (kDone (kRet (endRet (ra := [.one (.d _)]) rfl (by (repeat' first | exact trivial | exact rfl | exact .inl rfl | exact nodupB_sound rfl | exact .inl (Nat.zero_lt_succ _) | exact fun _ => rfl | exact Nat.le_of_ble_eq_true rfl | exact ⟨_, rfl, fun _ => rfl⟩ | refine ⟨?_, ?_⟩ | fail); first | done | fail) ?_)))))) (fun g0 => kSkip (kBk (kReg (kMovC rfl (kAdd rfl rfl (by omega) (kMovC rfl (kDone ?_))))))))))))))
    · omega
    · exact kInv ⟨⟨i + 1, by omega⟩, by simp only; omega, (.norm (by repeat' first | exact trivial | exact rfl | exact .inl rfl | exact .inl (congrArg (fun z : Int => AC.d (.sc (.int .i64 z))) (by first | omega | (simp only; omega) | (simp; try omega))) | refine ⟨_, rfl, ?_⟩ | refine ⟨?_, ?_⟩ | fail) (by repeat' first | exact trivial | exact rfl | exact .inl rfl | exact .inl (congrArg (fun z : Int => AC.d (.sc (.int .i64 z))) (by first | omega | (simp only; omega) | (simp; try omega))) | refine ⟨_, rfl, ?_⟩ | refine ⟨?_, ?_⟩ | fail))⟩
  · rw [show i = a.length by omega, List.take_length]

def c_laws_heldName : C := (.seq (.reg false (.op 0 [] (some 2) none false (.box 2 (.t 0))
  (.op 1 [] (some 4) none false (.mov (.v (.int .i64 0)))
  .done)))
 (.seq (.reg false (.op 0 [] (some 5) none false (.fad (.t 2) 0)
  (.op 1 [] (some 6) none false (.load none (.t 5))
  (.op 2 [] (some 7) none false (.mov (.t 1))
  (.op 3 [] (some 8) none false (.call 8 25 [(.t 6), (.t 7)])
  (.op 4 [] (some 1) none false (.mov (.t 8))
  .done))))))
 (.seq (.seq (.reg false (.op 0 [] (some 9) none false (.mov (.t 1))
  (.op 1 [] (some 10) none false (.bin .lss (.t 9) (.v (.int .i64 0)))
  .done)))
 (.cond (.t 10)
 (.seq (.reg false (.op 0 [] (some 4) none false (.mov (.v (.int .i64 (-1))))
  .done))
 .ret)
 .skip))
 (.seq (.reg false (.op 0 [] (some 11) none false (.mov (.t 1))
  (.op 1 [] (some 4) none false (.mov (.t 11))
  .done)))
 .ret))))
theorem dg_laws_heldName : Try.f11.body.bind (digC Try.prog Try.f11.ntmps []) = some c_laws_heldName := by kernel_rfl
theorem rs_laws_heldName : resSlots Try.prog Try.f11 = some [.s 4] := by kernel_rfl
theorem ok_laws_heldName (a : List (List UInt8)) (k : Int) (h0 : 0 ≤ k) (hk : k + a.flatten.length ≤ 9223372036854775807) (hl : a.length ≤ 4194304) :
    FnOK Try.prog 11 [.agg [.d (encBB (markss a k))], .one (.d (.sc (.int .i64 k)))] (fun ra _ => ra = [.one (.d (.sc (.int .i64 (k + a.flatten.length))))]) := by
  refine FnOK.ofK Try.func11 (by kernel_rfl) dg_laws_heldName rs_laws_heldName rfl rfl ?_
  unfold c_laws_heldName
  refine kSeq (kReg (kBox rfl rfl rfl rfl rfl (kMovC rfl (kDone (kSeq (kReg (kFadP rfl rfl (kLoadP rfl rfl rfl (kMovC rfl (kCall1 true (ok_laws_heldByteSS _ _ (by first | assumption | omega | solve_by_elim [List.getElem_mem]) (by first | assumption | omega | solve_by_elim [List.getElem_mem]) (by first | assumption | omega | solve_by_elim [List.getElem_mem])) ⟨rfl, rfl, trivial⟩ rfl rfl rfl (fun _ => (kMovC rfl (kDone (kSeq (kSeq (kReg (kMovC rfl (kBin rfl rfl rfl (kDone (kCondP rfl (fun g0 => (by omega)) (fun g0 => kSkip (kSeq (kReg (kMovC rfl (kMovC rfl (kDone (kRet (endRet (ra := [.one (.d _)]) rfl (by (repeat' first | exact trivial | exact rfl | exact .inl rfl | exact nodupB_sound rfl | exact .inl (Nat.zero_lt_succ _) | exact fun _ => rfl | exact Nat.le_of_ble_eq_true rfl | exact ⟨_, rfl, fun _ => rfl⟩ | refine ⟨?_, ?_⟩ | fail); first | done | fail) rfl))))))))))))))))))))))))))))

def c_laws_FnExactChild : C := (.seq (.reg false (.op 0 [] (some 2) none false (.box 2 (.t 0))
  (.op 1 [] (some 4) none false (.mov (.v (.bool false)))
  .done)))
 (.seq (.seq (.reg false (.op 0 [] (some 17) none false (.mov (.t 1))
  (.op 1 [] (some 18) none false (.len (.t 17))
  (.op 2 [] (some 19) none false (.bin .gtr (.t 18) (.v (.int .i64 1048576)))
  .done))))
 (.cond (.t 19)
 (.seq (.reg false (.op 0 [] (some 4) none false (.mov (.v (.bool true)))
  .done))
 .ret)
 .skip))
 (.seq (.reg false (.op 0 [] (some 5) none false (.mov (.v (.int .i64 1048576)))
  .done))
 (.seq (.reg false (.op 0 [] (some 20) none false (.load (some 1) (.t 2))
  (.op 1 [] (some 21) none false (.mov (.t 5))
  (.op 2 [] (some 22) none false (.call 22 5 [(.t 20), (.t 21)])
  (.op 3 [] (some 5) none false (.mov (.t 22))
  .done)))))
 (.seq (.seq (.reg false (.op 0 [] (some 23) none false (.mov (.t 5))
  (.op 1 [] (some 24) none false (.bin .lss (.t 23) (.v (.int .i64 0)))
  .done)))
 (.cond (.t 24)
 (.seq (.reg false (.op 0 [] (some 4) none false (.mov (.v (.bool true)))
  .done))
 .ret)
 .skip))
 (.seq (.reg false (.op 0 [] (some 26) none false (.load (some 1) (.t 2))
  (.op 1 [] (some 27) none false (.call 27 7 [(.t 26)])
  (.op 2 [] (some 28) none false (.mov (.t 1))
  (.op 3 [] (some 29) none false (.call 29 13 [(.t 28)])
  (.op 4 [] (some 30) none false (.call 30 12 [(.t 27), (.t 29)])
  (.op 5 [] (some 25) none false (.mov (.t 30))
  (.op 6 [] (some 31) none false (.ext (.t 25) 0)
  (.op 7 [] (some 32) none false (.ext (.t 25) 1)
  (.op 8 [] (some 6) none false (.alloc 6 [(.n 1)])
  (.op 9 [] none none false (.store (some 1) (.t 6) (.t 31))
  (.op 10 [] (some 7) none false (.mov (.t 32))
  .done))))))))))))
 (.seq (.reg false (.op 0 [] (some 33) none false (.load (some 1) (.t 2))
  (.op 1 [] (some 34) none false (.call 34 7 [(.t 33)])
  (.op 2 [] (some 8) none false (.alloc 8 [(.n 1)])
  (.op 3 [] none none false (.store (some 1) (.t 8) (.t 34))
  .done)))))
 (.seq (.reg false (.op 0 [] (some 35) none false (.mov (.t 1))
  (.op 1 [] (some 36) none false (.call 36 13 [(.t 35)])
  (.op 2 [] (some 9) none false (.mov (.t 36))
  .done))))
 (.seq (.reg false (.op 0 [] (some 38) none false (.load (some 1) (.t 8))
  (.op 1 [] (some 39) none false (.mov (.t 9))
  (.op 2 [] (some 40) none false (.call 40 14 [(.t 38), (.t 39)])
  (.op 3 [] (some 37) none false (.mov (.t 40))
  (.op 4 [] (some 41) none false (.ext (.t 37) 0)
  (.op 5 [] (some 42) none false (.ext (.t 37) 1)
  (.op 6 [] (some 10) none false (.alloc 10 [(.n 1)])
  (.op 7 [] none none false (.store (some 1) (.t 10) (.t 41))
  (.op 8 [] (some 11) none false (.mov (.t 42))
  .done))))))))))
 (.seq (.seq (.reg false (.op 0 [] (some 43) none false (.load (some 1) (.t 10))
  (.op 1 [] (some 44) none false (.load (some 1) (.t 6))
  (.op 2 [] (some 45) none false (.call 45 9 [(.t 43), (.t 44)])
  (.op 3 [] (some 46) none false (.un .not (.t 45))
  (.op 4 [] (some 47) none false (.mov (.t 46))
  (.op 5 [] (some 48) (some (47, false)) false (.mov (.t 11))
  (.op 6 [] (some 49) (some (47, false)) false (.mov (.t 7))
  (.op 7 [] (some 50) (some (47, false)) false (.beq true (.t 48) (.t 49))
  (.op 8 [] (some 51) none false (.pick (.t 47) (.v (.bool true)) (.t 50))
  .done))))))))))
 (.cond (.t 51)
 (.seq (.reg false (.op 0 [] (some 4) none false (.mov (.v (.bool false)))
  .done))
 .ret)
 .skip))
 (.seq (.seq (.reg true (.op 0 [] (some 52) none true (.load (some 1) (.t 8))
  (.op 1 [] (some 53) none true (.load (some 1) (.t 2))
  (.op 2 [1] (some 54) none false (.call 54 7 [(.t 53)])
  (.op 3 [0, 1] (some 55) none false (.call 55 9 [(.t 52), (.t 54)])
  (.op 4 [] (some 56) none true (.un .not (.t 55))
  .done))))))
 (.cond (.t 56)
 (.seq (.reg false (.op 0 [] (some 4) none false (.mov (.v (.bool false)))
  .done))
 .ret)
 .skip))
 (.seq (.seq (.reg false (.op 0 [] (some 57) none false (.mov (.t 9))
  (.op 1 [] (some 58) none false (.mov (.t 1))
  (.op 2 [] (some 59) none false (.call 59 13 [(.t 58)])
  (.op 3 [] (some 60) none false (.call 60 15 [(.t 57), (.t 59)])
  (.op 4 [] (some 61) none false (.un .not (.t 60))
  .done))))))
 (.cond (.t 61)
 (.seq (.reg false (.op 0 [] (some 4) none false (.mov (.v (.bool false)))
  .done))
 .ret)
 .skip))
 (.seq (.reg false (.op 0 [] (some 12) none false (.mov (.v (.int .i64 1)))
  .done))
 (.seq (.reg false (.op 0 [] (some 62) none false (.load (some 1) (.t 8))
  (.op 1 [] (some 63) none false (.mov (.t 12))
  (.op 2 [] (some 64) none false (.call 64 10 [(.t 62), (.t 63)])
  (.op 3 [] (some 12) none false (.mov (.t 64))
  .done)))))
 (.seq (.reg false (.op 0 [] (some 65) none false (.mov (.t 9))
  (.op 1 [] (some 66) none false (.mov (.t 12))
  (.op 2 [] (some 67) none false (.call 67 16 [(.t 65), (.t 66)])
  (.op 3 [] (some 12) none false (.mov (.t 67))
  .done)))))
 (.seq (.seq (.reg false (.op 0 [] (some 68) none false (.mov (.t 12))
  (.op 1 [] (some 69) none false (.bin .lss (.t 68) (.v (.int .i64 0)))
  (.op 2 [] (some 70) none false (.mov (.t 69))
  (.op 3 [] (some 71) (some (70, false)) false (.load (some 1) (.t 10))
  (.op 4 [] (some 72) (some (70, false)) false (.load (some 1) (.t 6))
  (.op 5 [] (some 73) (some (70, false)) false (.call 73 9 [(.t 71), (.t 72)])
  (.op 6 [] (some 74) (some (70, false)) false (.un .not (.t 73))
  (.op 7 [] (some 75) none false (.pick (.t 70) (.v (.bool true)) (.t 74))
  (.op 8 [] (some 76) none false (.mov (.t 75))
  (.op 9 [] (some 77) (some (76, false)) false (.mov (.t 11))
  (.op 10 [] (some 78) (some (76, false)) false (.mov (.t 7))
  (.op 11 [] (some 79) (some (76, false)) false (.beq true (.t 77) (.t 78))
  (.op 12 [] (some 80) none false (.pick (.t 76) (.v (.bool true)) (.t 79))
  .done))))))))))))))
 (.cond (.t 80)
 (.seq (.reg false (.op 0 [] (some 4) none false (.mov (.v (.bool false)))
  .done))
 .ret)
 .skip))
 (.seq (.reg false (.op 0 [] (some 13) none false (.mov (.v (.int .i64 1)))
  .done))
 (.seq (.reg false (.op 0 [] (some 81) none false (.load (some 1) (.t 10))
  (.op 1 [] (some 82) none false (.mov (.t 13))
  (.op 2 [] (some 83) none false (.call 83 10 [(.t 81), (.t 82)])
  (.op 3 [] (some 13) none false (.mov (.t 83))
  .done)))))
 (.seq (.reg false (.op 0 [] (some 14) none false (.mov (.v (.int .i64 1)))
  .done))
 (.seq (.reg false (.op 0 [] (some 84) none false (.load (some 1) (.t 10))
  (.op 1 [] (some 85) none false (.mov (.t 14))
  (.op 2 [] (some 86) none false (.call 86 11 [(.t 84), (.t 85)])
  (.op 3 [] (some 14) none false (.mov (.t 86))
  .done)))))
 (.seq (.seq (.reg false (.op 0 [] (some 87) none false (.mov (.t 14))
  (.op 1 [] (some 88) none false (.bin .lss (.t 87) (.v (.int .i64 0)))
  .done)))
 (.cond (.t 88)
 (.seq (.reg false (.op 0 [] (some 4) none false (.mov (.v (.bool false)))
  .done))
 .ret)
 .skip))
 (.seq (.seq (.reg false (.op 0 [] (some 89) none false (.mov (.t 14))
  (.op 1 [] (some 90) none false (.mov (.t 13))
  (.op 2 [] (some 91) none false (.bin .neq (.t 89) (.t 90))
  .done))))
 (.cond (.t 91)
 (.seq (.reg false (.op 0 [] (some 4) none false (.mov (.v (.bool false)))
  .done))
 .ret)
 .skip))
 (.seq (.reg false (.op 0 [] (some 93) none false (.load (some 1) (.t 2))
  (.op 1 [] (some 94) none false (.call 94 7 [(.t 93)])
  (.op 2 [] (some 95) none false (.mov (.t 1))
  (.op 3 [] (some 96) none false (.call 96 13 [(.t 95)])
  (.op 4 [] (some 97) none false (.call 97 14 [(.t 94), (.t 96)])
  (.op 5 [] (some 92) none false (.mov (.t 97))
  (.op 6 [] (some 98) none false (.ext (.t 92) 0)
  (.op 7 [] (some 99) none false (.ext (.t 92) 1)
  (.op 8 [] (some 15) none false (.alloc 15 [(.n 1)])
  (.op 9 [] none none false (.store (some 1) (.t 15) (.t 98))
  (.op 10 [] (some 16) none false (.mov (.t 99))
  .done))))))))))))
 (.seq (.seq (.reg false (.op 0 [] (some 100) none false (.load (some 1) (.t 15))
  (.op 1 [] (some 101) none false (.load (some 1) (.t 6))
  (.op 2 [] (some 102) none false (.call 102 9 [(.t 100), (.t 101)])
  (.op 3 [] (some 103) none false (.un .not (.t 102))
  (.op 4 [] (some 104) none false (.mov (.t 103))
  (.op 5 [] (some 105) (some (104, false)) false (.mov (.t 16))
  (.op 6 [] (some 106) (some (104, false)) false (.mov (.t 7))
  (.op 7 [] (some 107) (some (104, false)) false (.beq true (.t 105) (.t 106))
  (.op 8 [] (some 108) none false (.pick (.t 104) (.v (.bool true)) (.t 107))
  .done))))))))))
 (.cond (.t 108)
 (.seq (.reg false (.op 0 [] (some 4) none false (.mov (.v (.bool false)))
  .done))
 .ret)
 .skip))
 (.seq (.reg false (.op 0 [] (some 14) none false (.mov (.v (.int .i64 1)))
  .done))
 (.seq (.reg false (.op 0 [] (some 109) none false (.load (some 1) (.t 10))
  (.op 1 [] (some 110) none false (.mov (.t 14))
  (.op 2 [] (some 111) none false (.call 111 11 [(.t 109), (.t 110)])
  (.op 3 [] (some 14) none false (.mov (.t 111))
  .done)))))
 (.seq (.seq (.reg false (.op 0 [] (some 112) none false (.mov (.t 14))
  (.op 1 [] (some 113) none false (.bin .lss (.t 112) (.v (.int .i64 0)))
  .done)))
 (.cond (.t 113)
 (.seq (.reg false (.op 0 [] (some 4) none false (.mov (.v (.bool false)))
  .done))
 .ret)
 .skip))
 (.seq (.seq (.reg false (.op 0 [] (some 114) none false (.mov (.t 14))
  (.op 1 [] (some 115) none false (.mov (.t 13))
  (.op 2 [] (some 116) none false (.bin .neq (.t 114) (.t 115))
  .done))))
 (.cond (.t 116)
 (.seq (.reg false (.op 0 [] (some 4) none false (.mov (.v (.bool false)))
  .done))
 .ret)
 .skip))
 (.seq (.reg false (.op 0 [] (some 4) none false (.mov (.v (.bool true)))
  .done))
 .ret)))))))))))))))))))))))))))))
theorem dg_laws_FnExactChild : Try.f4.body.bind (digC Try.prog Try.f4.ntmps []) = some c_laws_FnExactChild := by kernel_rfl
theorem rs_laws_FnExactChild : resSlots Try.prog Try.f4 = some [.s 4] := by kernel_rfl
theorem ok_laws_FnExactChild (a : List (List UInt8)) (l : List UInt8) (ha : (a.length : Int) ≤ 9223372036854775807) (hb : ∀ b ∈ a, (b.length : Int) ≤ 9223372036854775807) (hl : (l.length : Int) ≤ 9223372036854775807) :
    FnOK Try.prog 4 [.agg [.d (encBB a)], .one (.d (encB l))] (fun ra _ => ra = [.one (.d (.sc (.bool true)))]) := by
  refine FnOK.ofK Try.func4 (by kernel_rfl) dg_laws_FnExactChild rs_laws_FnExactChild rfl rfl ?_
  unfold c_laws_FnExactChild
  refine kSeq (kReg (kBox rfl rfl rfl rfl rfl (kMovC rfl (kDone (kSeq (kSeq (kReg (kMovC rfl (kLenR rfl rfl (kBin rfl rfl rfl (kDone (kCondP rfl (fun g0 => kSeq (kReg (kMovC rfl (kDone (kRet (endRet (ra := [.one (.d _)]) rfl (by (repeat' first | exact trivial | exact rfl | exact .inl rfl | exact nodupB_sound rfl | exact .inl (Nat.zero_lt_succ _) | exact .inr ⟨Nat.zero_lt_succ _, nmB rfl⟩ | exact fun _ => rfl | exact Nat.le_of_ble_eq_true rfl | exact ⟨_, rfl, fun _ => rfl⟩ | refine ⟨?_, ?_⟩ | fail); first | done | fail) rfl)))))) (fun g0 => kSkip (kSeq (kReg (kMovC rfl (kDone (kSeq (kReg (kLoadP rfl rfl rfl (kMovC rfl (kCallD (ok_laws_szName _ _ (by first | assumption | omega | solve_by_elim [List.getElem_mem]) (by first | assumption | omega | solve_by_elim [List.getElem_mem]) (by first | assumption | omega | solve_by_elim [List.getElem_mem]) (by first | assumption | omega | solve_by_elim [List.getElem_mem])) ⟨⟨⟨rfl, trivial⟩, Nat.le_of_ble_eq_true rfl⟩, rfl, trivial⟩ rfl rfl rfl rfl rfl (kMovC rfl (kDone (kSeq (kSeq (kReg (kMovC rfl (kBin rfl rfl rfl (kDone (kCondP rfl (fun g1 => kSeq (kReg (kMovC rfl (kDone (kRet (endRet (ra := [.one (.d _)]) rfl (by (repeat' first | exact trivial | exact rfl | exact .inl rfl | exact nodupB_sound rfl | exact .inl (Nat.zero_lt_succ _) | exact .inr ⟨Nat.zero_lt_succ _, nmB rfl⟩ | exact fun _ => rfl | exact Nat.le_of_ble_eq_true rfl | exact ⟨_, rfl, fun _ => rfl⟩ | refine ⟨?_, ?_⟩ | fail); first | done | fail) rfl)))))) (fun g1 => kSkip (kSeq (kReg (kLoadP rfl rfl rfl ?_)))))))))))))))))))))))))))))))))))
  have h0 : a.length + a.flatten.length ≤ 1048576 := by have := szOut_ok g1; omega
  have hs := SmallBB.of (a := a) h0
  have h1 := hs.len
  have h2 := hs.mem
  have h3 := hs.flat
  have hc := SmallBB.cons (l := l) (by omega) (by omega) (by omega) hs
  have c1 := hc.len
  have c2 := hc.mem
  have hs' := hc.child
  have p1 := hs'.len
  have p2 := hs'.mem
  have p3 := hs'.flat
  refine kCall1 true (ok_laws_toName _ (by first | assumption | omega | solve_by_elim [List.getElem_mem]) (by first | assumption | omega | solve_by_elim [List.getElem_mem])) ⟨⟨⟨rfl, trivial⟩, Nat.le_of_ble_eq_true rfl⟩, trivial⟩ rfl rfl rfl (fun _ => (kMovC rfl (kCall1 true (ok_laws_toByteS _ (by first | assumption | omega | solve_by_elim [List.getElem_mem])) ⟨rfl, trivial⟩ rfl rfl rfl (fun _ => (kCall1 true (ok_spec_Child _ _ (by first | assumption | omega | solve_by_elim [List.getElem_mem]) (by first | assumption | omega | solve_by_elim [List.getElem_mem])) ⟨⟨⟨rfl, trivial⟩, Nat.le_of_ble_eq_true rfl⟩, rfl, trivial⟩ rfl rfl rfl (fun _ => (kMovT rfl (kExtC rfl rfl (kExtC rfl rfl (kAlloc rfl rfl (kStoreP rfl rfl rfl rfl (kMovC rfl (kDone (kSeq (kReg (kLoadP rfl rfl rfl (kCall1 true (ok_laws_toName _ (by first | assumption | omega | solve_by_elim [List.getElem_mem]) (by first | assumption | omega | solve_by_elim [List.getElem_mem])) ⟨⟨⟨rfl, trivial⟩, Nat.le_of_ble_eq_true rfl⟩, trivial⟩ rfl rfl rfl (fun _ => (kAlloc rfl rfl (kStoreP rfl rfl rfl rfl (kDone (kSeq (kReg (kMovC rfl (kCall1 true (ok_laws_toByteS _ (by first | assumption | omega | solve_by_elim [List.getElem_mem])) ⟨rfl, trivial⟩ rfl rfl rfl (fun _ => (kMovC rfl (kDone (kSeq (kReg (kLoadP rfl rfl rfl (kMovC rfl (kCall1 true (ok_impl_Child _ _ (by first | assumption | omega | solve_by_elim [List.getElem_mem]) (by first | assumption | omega | solve_by_elim [List.getElem_mem])) ⟨⟨⟨rfl, trivial⟩, Nat.le_of_ble_eq_true rfl⟩, rfl, trivial⟩ rfl rfl rfl (fun _ => (kMovT rfl (kExtC rfl rfl (kExtC rfl rfl (kAlloc rfl rfl (kStoreP rfl rfl rfl rfl (kMovC rfl (kDone (kSeq (kSeq (kReg (kLoadP rfl rfl rfl (kLoadP rfl rfl rfl (kCallD (ok_laws_eqName _ _ (by first | assumption | omega | solve_by_elim [List.getElem_mem]) (by first | assumption | omega | solve_by_elim [List.getElem_mem])) ⟨⟨⟨rfl, trivial⟩, Nat.le_of_ble_eq_true rfl⟩, ⟨⟨rfl, trivial⟩, Nat.le_of_ble_eq_true rfl⟩, trivial⟩ rfl rfl rfl rfl rfl (kUn rfl rfl (kMovC rfl (kGN rfl (fun g0 => (by (simp at g0))) (fun g0 => kGT rfl (kMovC rfl (kGT rfl (kMovC rfl (kGT rfl (kBeq rfl rfl (kPickF rfl (kMovC rfl (kDone (kCondN rfl (fun g1 => (by (simp at g1))) (fun g1 => kSkip (kSeq (kSeq (kRegD (kLoadP rfl rfl rfl (kLoadP rfl rfl rfl (kRelK rfl rfl (kCall1 true (ok_laws_toName _ (by first | assumption | omega | solve_by_elim [List.getElem_mem]) (by first | assumption | omega | solve_by_elim [List.getElem_mem])) ⟨⟨⟨rfl, trivial⟩, Nat.le_of_ble_eq_true rfl⟩, trivial⟩ rfl rfl rfl (fun _ => (kRelF rfl rfl (kCallD (ok_laws_eqName _ _ (by first | assumption | omega | solve_by_elim [List.getElem_mem]) (by first | assumption | omega | solve_by_elim [List.getElem_mem])) ⟨⟨⟨rfl, trivial⟩, Nat.le_of_ble_eq_true rfl⟩, ⟨⟨rfl, trivial⟩, Nat.le_of_ble_eq_true rfl⟩, trivial⟩ rfl rfl rfl rfl rfl (kUn rfl rfl (kDone (kH (kCondN rfl (fun g2 => (by (simp at g2))) (fun g2 => kSkip (kSeq (kSeq (kReg (kMovC rfl (kMovC rfl (kCall1 true (ok_laws_toByteS _ (by first | assumption | omega | solve_by_elim [List.getElem_mem])) ⟨rfl, trivial⟩ rfl rfl rfl (fun _ => (kCallD (ok_laws_eqByteS _ _ (by first | assumption | omega | solve_by_elim [List.getElem_mem])) ⟨rfl, rfl, trivial⟩ rfl rfl rfl rfl rfl (kUn rfl rfl (kDone (kCondN rfl (fun g3 => (by (simp at g3))) (fun g3 => kSkip (kSeq (kReg (kMovC rfl (kDone (kSeq (kReg (kLoadP rfl rfl rfl (kMovC rfl (kCallA (ok_laws_markName _ _ (by first | assumption | omega | solve_by_elim [List.getElem_mem]) (by first | assumption | omega | solve_by_elim [List.getElem_mem]) (by first | assumption | omega | solve_by_elim [List.getElem_mem])) ⟨⟨⟨⟨_, rfl, .inl rfl⟩, trivial⟩, Nat.le_of_ble_eq_true rfl⟩, rfl, trivial⟩ rfl rfl rfl rfl (kMovC rfl (kDone (kSeq (kReg (kMovC rfl (kMovC rfl (kCallA (ok_laws_markByteS _ _ (by first | assumption | omega | solve_by_elim [List.getElem_mem]) (by first | assumption | omega | solve_by_elim [List.getElem_mem])) ⟨⟨_, rfl, .inl rfl⟩, rfl, trivial⟩ rfl rfl rfl rfl (kMovC rfl (kDone (kSeq (kSeq (kReg (kMovC rfl (kBin rfl rfl rfl (kMovC rfl (kGT rfl (kLoadP rfl rfl rfl (kGT rfl (kLoadP rfl rfl rfl (kGT rfl (kCallD (ok_laws_eqName _ _ (by first | assumption | omega | solve_by_elim [List.getElem_mem]) (by first | assumption | omega | solve_by_elim [List.getElem_mem])) ⟨⟨⟨rfl, trivial⟩, Nat.le_of_ble_eq_true rfl⟩, ⟨⟨rfl, trivial⟩, Nat.le_of_ble_eq_true rfl⟩, trivial⟩ rfl rfl rfl rfl rfl (kGT rfl (kUn rfl rfl (kPickF rfl (kMovC rfl (kMovC rfl (kGN rfl (fun g4 => (by (simp at g4))) (fun g4 => kGT rfl (kMovC rfl (kGT rfl (kMovC rfl (kGT rfl (kBeq rfl rfl (kPickF rfl (kMovC rfl (kDone (kCondN rfl (fun g5 => (by (simp at g5))) (fun g5 => kSkip (kSeq (kReg (kMovC rfl (kDone (kSeq (kReg (kLoadP rfl rfl rfl (kMovC rfl (kCallA (ok_laws_markName _ _ (by first | assumption | omega | solve_by_elim [List.getElem_mem]) (by first | assumption | omega | solve_by_elim [List.getElem_mem]) (by first | assumption | omega | solve_by_elim [List.getElem_mem])) ⟨⟨⟨⟨_, rfl, .inl rfl⟩, trivial⟩, Nat.le_of_ble_eq_true rfl⟩, rfl, trivial⟩ rfl rfl rfl rfl (kMovC rfl (kDone (kSeq (kReg (kMovC rfl (kDone (kSeq (kReg (kLoadP rfl rfl rfl (kMovC rfl (kCallD (ok_laws_heldName _ _ (by first | assumption | omega | solve_by_elim [List.getElem_mem]) (by first | assumption | omega | solve_by_elim [List.getElem_mem]) (by first | assumption | omega | solve_by_elim [List.getElem_mem])) ⟨⟨⟨rfl, trivial⟩, Nat.le_of_ble_eq_true rfl⟩, rfl, trivial⟩ rfl rfl rfl rfl rfl (kMovC rfl (kDone (kSeq (kSeq (kReg (kMovC rfl (kBin rfl rfl rfl (kDone (kCondF rfl (kSkip (kSeq (kSeq (kReg (kMovC rfl (kMovC rfl (kBin rfl rfl rfl (kDone (kCondN rfl (fun g6 => (by (simp at g6))) (fun g6 => kSkip (kSeq (kReg (kLoadP rfl rfl rfl (kCall1 true (ok_laws_toName _ (by first | assumption | omega | solve_by_elim [List.getElem_mem]) (by first | assumption | omega | solve_by_elim [List.getElem_mem])) ⟨⟨⟨rfl, trivial⟩, Nat.le_of_ble_eq_true rfl⟩, trivial⟩ rfl rfl rfl (fun _ => (kMovC rfl (kCall1 true (ok_laws_toByteS _ (by first | assumption | omega | solve_by_elim [List.getElem_mem])) ⟨rfl, trivial⟩ rfl rfl rfl (fun _ => (kCall1 true (ok_impl_Child _ _ (by first | assumption | omega | solve_by_elim [List.getElem_mem]) (by first | assumption | omega | solve_by_elim [List.getElem_mem])) ⟨⟨⟨rfl, trivial⟩, Nat.le_of_ble_eq_true rfl⟩, rfl, trivial⟩ rfl rfl rfl (fun _ => (kMovT rfl (kExtC rfl rfl (kExtC rfl rfl (kAlloc rfl rfl (kStoreP rfl rfl rfl rfl (kMovC rfl (kDone (kSeq (kSeq (kReg (kLoadP rfl rfl rfl (kLoadP rfl rfl rfl (kCallD (ok_laws_eqName _ _ (by first | assumption | omega | solve_by_elim [List.getElem_mem]) (by first | assumption | omega | solve_by_elim [List.getElem_mem])) ⟨⟨⟨rfl, trivial⟩, Nat.le_of_ble_eq_true rfl⟩, ⟨⟨rfl, trivial⟩, Nat.le_of_ble_eq_true rfl⟩, trivial⟩ rfl rfl rfl rfl rfl (kUn rfl rfl (kMovC rfl (kGN rfl (fun g7 => (by (simp at g7))) (fun g7 => kGT rfl (kMovC rfl (kGT rfl (kMovC rfl (kGT rfl (kBeq rfl rfl (kPickF rfl (kMovC rfl (kDone (kCondN rfl (fun g8 => (by (simp at g8))) (fun g8 => kSkip (kSeq (kReg (kMovC rfl (kDone (kSeq (kReg (kLoadP rfl rfl rfl (kMovC rfl (kCallD (ok_laws_heldName _ _ (by first | assumption | omega | solve_by_elim [List.getElem_mem]) (by first | assumption | omega | solve_by_elim [List.getElem_mem]) (by first | assumption | omega | solve_by_elim [List.getElem_mem])) ⟨⟨⟨rfl, trivial⟩, Nat.le_of_ble_eq_true rfl⟩, rfl, trivial⟩ rfl rfl rfl rfl rfl (kMovC rfl (kDone (kSeq (kSeq (kReg (kMovC rfl (kBin rfl rfl rfl (kDone (kCondF rfl (kSkip (kSeq (kSeq (kReg (kMovC rfl (kMovC rfl (kBin rfl rfl rfl (kDone (kCondN rfl (fun g9 => (by (simp at g9))) (fun g9 => kSkip (kSeq (kReg (kMovC rfl (kDone (kRet (endRet (ra := [.one (.d _)]) rfl (by (repeat' first | exact trivial | exact rfl | exact .inl rfl | exact nodupB_sound rfl | exact .inl (Nat.zero_lt_succ _) | exact .inr ⟨Nat.zero_lt_succ _, nmB rfl⟩ | exact fun _ => rfl | exact Nat.le_of_ble_eq_true rfl | exact ⟨_, rfl, fun _ => rfl⟩ | refine ⟨?_, ?_⟩ | fail); first | done | fail) rfl)))))))))))))))))))))))))))))))))))))))))))))))))))))))))))))))))))))))))))))))))))))))))))))))))))))))))))))))))))))))))))))))))))))))))))))))))))))))))))))))))))))))))))))))))))))))))))))))))))))))))))))))))))))))))))))))))))))))))))))))))))))

end Go.Proofs.Ytmhnakbenojmnaa.FnExactChildFn
