/- What the functions that FnExactZoneNew reaches compute, one contract each; each with the bounds that it states. -/
import Derived.Test.YtcjbflgooaddgaaFnExactZoneNewFn2
import Derived.Test.YtcjbflgooaddgaaProg
import Derived.KernelRfl
set_option maxRecDepth 100000
set_option maxHeartbeats 8000000
set_option linter.unusedVariables false
set_option linter.unusedSimpArgs false
namespace Go.Proofs.Ytcjbflgooaddgaa.FnExactZoneNewFn
open Go Hearth Go.Proofs

def c_laws_markZone : C := (.seq (.reg false (.op 0 [] (some 2) none false (.box 2 (.t 0))
  (.op 1 [] (some 4) none false (.mov (.v (.int .i64 0)))
  .done)))
 (.seq (.reg false (.op 0 [] (some 5) none false (.fad (.t 2) 0)
  (.op 1 [] (some 6) none false (.load (some 1) (.t 5))
  (.op 2 [] (some 7) none false (.mov (.t 1))
  (.op 3 [] (some 8) none false (.call 8 27 [(.t 6), (.t 7)])
  (.op 4 [] (some 1) none false (.mov (.t 8))
  .done))))))
 (.seq (.reg false (.op 0 [] (some 9) none false (.fad (.t 2) 1)
  (.op 1 [] (some 10) none false (.load none (.t 9))
  (.op 2 [] (some 11) none false (.mov (.t 1))
  (.op 3 [] (some 12) none false (.call 12 26 [(.t 10), (.t 11)])
  (.op 4 [] (some 1) none false (.mov (.t 12))
  .done))))))
 (.seq (.reg false (.op 0 [] (some 13) none false (.mov (.t 1))
  (.op 1 [] (some 4) none false (.mov (.t 13))
  .done)))
 .ret))))
theorem dg_laws_markZone : Try.f48.body.bind (digC Try.prog Try.f48.ntmps []) = some c_laws_markZone := by kernel_rfl
theorem rs_laws_markZone : resSlots Try.prog Try.f48 = some [.s 4] := by kernel_rfl
theorem ok_laws_markZone (z : Zone) (k : Int) (h0 : 0 ≤ k) (hk : k + cntZ z ≤ 9223372036854775807) (hs : SmallZ z) :
    FnOK Try.prog 48 [.agg [.arr false true (encBB z.origin), .arr false true (encR z.rrs)], .one (.d (.sc (.int .i64 k)))] (fun ra os => ra = [.one (.d (.sc (.int .i64 (k + cntZ z))))] ∧ outsAre [(0, encBB (markZ z k).origin), (1, encR (markZ z k).rrs)] os) := by
  refine FnOK.ofK Try.func48 (by kernel_rfl) dg_laws_markZone rs_laws_markZone rfl rfl ?_
  unfold c_laws_markZone
  have o1 := hs.o.len
  have o2 := hs.o.mem
  have h1 := hs.r
  have hc : k + (cntZ z : Int) = k + (z.origin.flatten.length : Int) + (cntRs z.rrs : Int) := by unfold cntZ cntBB; omega
  refine kSeq (kReg (kBox rfl rfl rfl rfl rfl (kMovC rfl (kDone (kSeq (kReg (kFadP rfl rfl (kLoadP rfl rfl rfl (kMovC rfl (kCallA (ok_laws_markName _ _ (by first | assumption | omega | solve_by_elim [List.getElem_mem] | (simp only [szOut] at *; omega)) (by first | assumption | omega | solve_by_elim [List.getElem_mem] | (simp only [szOut] at *; omega)) (by first | assumption | omega | solve_by_elim [List.getElem_mem] | (simp only [szOut] at *; omega))) ⟨⟨⟨⟨_, rfl, .inl rfl⟩, trivial⟩, Nat.le_of_ble_eq_true rfl⟩, rfl, trivial⟩ rfl rfl rfl rfl (kMovC rfl (kDone (kSeq (kReg (kFadP rfl rfl (kLoadP rfl rfl rfl (kMem [(1, ⟨0, 0, .arr true _⟩)] [(1, .c (.d _)), (10, .c (.arr 1 0)), (11, .c (.un)), (12, .c (.un))] [] ⟨rfl, trivial⟩ ⟨rfl, rfl, rfl, rfl, trivial⟩ rfl (kMovC rfl (kCallA (ok_laws_markRrS _ _ (by first | assumption | omega | solve_by_elim [List.getElem_mem] | (simp only [szOut] at *; omega)) (by first | assumption | omega | solve_by_elim [List.getElem_mem] | (simp only [szOut] at *; omega)) (by first | assumption | omega | solve_by_elim [List.getElem_mem] | (simp only [szOut] at *; omega))) ⟨⟨_, rfl, .inl rfl⟩, rfl, trivial⟩ rfl rfl rfl rfl (kMovC rfl (kDone (kSeq (kReg (kMovC rfl (kMovC rfl (kDone (kRet (endRetA (ra := [.one (.d _)]) rfl ?_))))))))))))))))))))))))))))
  refine ⟨?_, rfl, rfl, trivial⟩
  rw [hc]

def c_laws_heldByteS : C := (.seq (.reg false (.op 0 [] (some 4) none false (.mov (.v (.int .i64 0)))
  .done))
 (.seq (.seq (.reg false (.op 0 [] (some 5) none false (.mov (.v (.int .i64 0)))
  .done))
 (.block 0 (.loop (.seq (.seq (.reg false (.op 0 [] (some 6) none false (.mov (.t 5))
  (.op 1 [] (some 7) none false (.mov (.t 0))
  (.op 2 [] (some 8) none false (.len (.t 7))
  (.op 3 [] (some 9) none false (.bin .lss (.t 6) (.t 8))
  .done)))))
 (.cond (.t 9)
 .skip
 (.exit 0)))
 (.seq (.block 1 (.seq (.seq (.reg false (.op 0 [] (some 12) none false (.mov (.t 0))
  (.op 1 [] (some 13) none false (.mov (.t 5))
  (.op 2 [] (some 14) none false (.iad 1 (.t 12) (.t 13))
  (.op 3 [] (some 15) none false (.load none (.t 14))
  (.op 4 [] (some 16) none false (.mov (.t 1))
  (.op 5 [] (some 17) none false (.conv .u8 (.t 16))
  (.op 6 [] (some 18) none false (.bin .neq (.t 15) (.t 17))
  .done))))))))
 (.cond (.t 18)
 (.seq (.reg false (.op 0 [] (some 4) none false (.mov (.v (.int .i64 (-1))))
  .done))
 .ret)
 .skip))
 (.reg false (.op 0 [] (some 19) none false (.mov (.t 1))
  (.op 1 [] (some 20) none false (.bin .add (.t 19) (.v (.int .i64 1)))
  (.op 2 [] (some 1) none false (.mov (.t 20))
  .done))))))
 (.reg false (.op 0 [] (some 10) none false (.mov (.t 5))
  (.op 1 [] (some 11) none false (.bin .add (.t 10) (.v (.int .i64 1)))
  (.op 2 [] (some 5) none false (.mov (.t 11))
  .done)))))))))
 (.seq (.reg false (.op 0 [] (some 21) none false (.mov (.t 1))
  (.op 1 [] (some 4) none false (.mov (.t 21))
  .done)))
 .ret)))
theorem dg_laws_heldByteS : Try.f87.body.bind (digC Try.prog Try.f87.ntmps []) = some c_laws_heldByteS := by kernel_rfl
theorem rs_laws_heldByteS : resSlots Try.prog Try.f87 = some [.s 4] := by kernel_rfl
theorem ok_laws_heldByteS (n : Nat) (k : Int) (h0 : 0 ≤ k) (hk : k + n ≤ 9223372036854775807) :
    FnOK Try.prog 87 [.one (.d (encB (marks n k))), .one (.d (.sc (.int .i64 k)))] (fun ra _ => ra = [.one (.d (.sc (.int .i64 (k + n))))]) := by
  refine FnOK.ofK Try.func87 (by kernel_rfl) dg_laws_heldByteS rs_laws_heldByteS rfl rfl ?_
  unfold c_laws_heldByteS
  have hm := marks_len n k
  refine kSeq (kReg (kMovC rfl (kDone (kSeq (kSeq (kReg (kMovC rfl (kDone (kBlock ?_)))))))))
  refine kLoop (α := { i : Nat // i ≤ n })
    (fun y => ⟨tabSl [(0, .dv (encB (marks n k))), (1, .i (k + y.1)), (5, .i y.1)], obTab 1 [], []⟩) (fun y => n - y.1) ⟨0, by simp⟩
    .normA ?_
  rintro ⟨i, hi⟩
  simp only
  refine kSeq (kSeq (kReg (kMovC rfl (kMovC rfl (kLenR rfl rfl (kBin rfl rfl rfl (kDone (kCondP rfl (fun g0 => kSkip (kSeq (kBlock (kSeq (kSeq (kReg (kMovC rfl (kMovC rfl (kIadR rfl rfl rfl (by omega) (kLoadD rfl rfl (kMovC rfl (kConv rfl (kBin rfl rfl rfl (kDone (kCondN rfl (fun g1 => kSeq (kReg (kMovC rfl (kDone (kRet (endRetA (ra := [.one (.d _)]) rfl ?_)))))) (fun g1 => kSkip (kReg (kMovC rfl (kAdd rfl rfl (by omega) (kMovC rfl (kDone (kBk (kReg (kMovC rfl (kAdd rfl rfl (by omega) (kMovC rfl (kDone ?_))))))))))))))))))))))))))) (fun g0 => kExit (kExC (kExI (kExB (kSeq (kReg (kMovC rfl (kMovC rfl (kDone (kRet (endRetA (ra := [.one (.d _)]) rfl ?_)))))))))))))))))))
  · rw [marks_get, beq_self_eq_true] at g1; cases g1
  · exact kInv ⟨⟨i + 1, by omega⟩, by simp only; omega, .normA⟩
  · rw [show i = n by omega]

def c_laws_heldByteSS : C := (.seq (.reg false (.op 0 [] (some 4) none false (.mov (.v (.int .i64 0)))
  .done))
 (.seq (.seq (.reg false (.op 0 [] (some 5) none false (.mov (.v (.int .i64 0)))
  .done))
 (.block 0 (.loop (.seq (.seq (.reg false (.op 0 [] (some 6) none false (.mov (.t 5))
  (.op 1 [] (some 7) none false (.mov (.t 0))
  (.op 2 [] (some 8) none false (.len (.t 7))
  (.op 3 [] (some 9) none false (.bin .lss (.t 6) (.t 8))
  .done)))))
 (.cond (.t 9)
 .skip
 (.exit 0)))
 (.seq (.block 1 (.seq (.reg false (.op 0 [] (some 12) none false (.mov (.t 0))
  (.op 1 [] (some 13) none false (.mov (.t 5))
  (.op 2 [] (some 14) none false (.iad 1 (.t 12) (.t 13))
  (.op 3 [] (some 15) none false (.load none (.t 14))
  (.op 4 [] (some 16) none false (.mov (.t 1))
  (.op 5 [] (some 17) none false (.call 17 87 [(.t 15), (.t 16)])
  (.op 6 [] (some 1) none false (.mov (.t 17))
  .done))))))))
 (.seq (.reg false (.op 0 [] (some 18) none false (.mov (.t 1))
  (.op 1 [] (some 19) none false (.bin .lss (.t 18) (.v (.int .i64 0)))
  .done)))
 (.cond (.t 19)
 (.seq (.reg false (.op 0 [] (some 4) none false (.mov (.v (.int .i64 (-1))))
  .done))
 .ret)
 .skip))))
 (.reg false (.op 0 [] (some 10) none false (.mov (.t 5))
  (.op 1 [] (some 11) none false (.bin .add (.t 10) (.v (.int .i64 1)))
  (.op 2 [] (some 5) none false (.mov (.t 11))
  .done)))))))))
 (.seq (.reg false (.op 0 [] (some 20) none false (.mov (.t 1))
  (.op 1 [] (some 4) none false (.mov (.t 20))
  .done)))
 .ret)))
theorem dg_laws_heldByteSS : Try.f86.body.bind (digC Try.prog Try.f86.ntmps []) = some c_laws_heldByteSS := by kernel_rfl
theorem rs_laws_heldByteSS : resSlots Try.prog Try.f86 = some [.s 4] := by kernel_rfl
theorem ok_laws_heldByteSS (a : List (List UInt8)) (k : Int) (h0 : 0 ≤ k) (hk : k + a.flatten.length ≤ 9223372036854775807) (hl : a.length ≤ 4194304) :
    FnOK Try.prog 86 [.one (.d (encBB (markss a k))), .one (.d (.sc (.int .i64 k)))] (fun ra _ => ra = [.one (.d (.sc (.int .i64 (k + a.flatten.length))))]) := by
  refine FnOK.ofK Try.func86 (by kernel_rfl) dg_laws_heldByteSS rs_laws_heldByteSS rfl rfl ?_
  unfold c_laws_heldByteSS
  have hm := markss_len a k
  refine kSeq (kReg (kMovC rfl (kDone (kSeq (kSeq (kReg (kMovC rfl (kDone (kBlock ?_)))))))))
  refine kLoop (α := { i : Nat // i ≤ a.length })
    (fun y => ⟨tabSl [(0, .dv (encBB (markss a k))), (1, .i (k + (a.take y.1).flatten.length)), (5, .i y.1)], obTab 1 [], []⟩) (fun y => a.length - y.1) ⟨0, by simp⟩
    .normA ?_
  rintro ⟨i, hi⟩
  simp only
  have hsuc : ∀ h : i < a.length, (a.take (i + 1)).flatten.length = (a.take i).flatten.length + a[i].length := take_flat a i
  have hle := flat_le a i
  have hle2 := flat_le a (i + 1)
  refine kSeq (kSeq (kReg (kMovC rfl (kMovC rfl (kLenR rfl rfl (kBin rfl rfl rfl (kDone (kCondP rfl (fun g0 => kSkip (kSeq (kBlock (kSeq (kReg (kMovC rfl (kMovC rfl (kIadR rfl rfl rfl (by omega) (kLoadD rfl rfl (kMovC rfl ?_)))))))))) (fun g0 => kExit (kExC (kExI (kExB (kSeq (kReg (kMovC rfl (kMovC rfl (kDone (kRet (endRetA (ra := [.one (.d _)]) rfl ?_)))))))))))))))))))
  · have hlt : i < a.length := by omega
    have := hsuc hlt
    rw [markss_get a k i (by omega) hlt]
    refine kCall1 true (ok_laws_heldByteS a[i].length (k + (a.take i).flatten.length) (by omega) (by omega)) ⟨rfl, rfl, trivial⟩ rfl rfl rfl (fun _ => ?_)
    refine kMovC rfl (kDone (kSeq (kReg (kMovC rfl (kBin rfl rfl rfl (kDone (kCondP rfl (fun g0 => kSeq (kReg (kMovC rfl (kDone (kRet (endRetA (ra := [.one (.d _)]) rfl ?_)))))) (fun g0 => kSkip (kBk (kReg (kMovC rfl (kAdd rfl rfl (by omega) (kMovC rfl (kDone ?_))))))))))))))
    · omega
    · exact kInv ⟨⟨i + 1, by omega⟩, by simp only; omega, .normA⟩
  · rw [show i = a.length by omega, List.take_length]

def c_laws_heldName : C := (.seq (.reg false (.op 0 [] (some 2) none false (.box 2 (.t 0))
  (.op 1 [] (some 4) none false (.mov (.v (.int .i64 0)))
  .done)))
 (.seq (.reg false (.op 0 [] (some 5) none false (.fad (.t 2) 0)
  (.op 1 [] (some 6) none false (.load none (.t 5))
  (.op 2 [] (some 7) none false (.mov (.t 1))
  (.op 3 [] (some 8) none false (.call 8 86 [(.t 6), (.t 7)])
  (.op 4 [] (some 1) none false (.mov (.t 8))
  .done))))))
 (.seq (.seq (.reg false (.op 0 [] (some 9) none false (.mov (.t 1))
  (.op 1 [] (some 10) none false (.bin .lss (.t 9) (.v (.int .i64 0)))
  .done)))
 (.cond (.t 10)
 (.seq (.reg false (.op 0 [] (some 4) none false (.mov (.v (.int .i64 (-1))))
  .done))
 .ret)
 .skip))
 (.seq (.reg false (.op 0 [] (some 11) none false (.mov (.t 1))
  (.op 1 [] (some 4) none false (.mov (.t 11))
  .done)))
 .ret))))
theorem dg_laws_heldName : Try.f102.body.bind (digC Try.prog Try.f102.ntmps []) = some c_laws_heldName := by kernel_rfl
theorem rs_laws_heldName : resSlots Try.prog Try.f102 = some [.s 4] := by kernel_rfl
theorem ok_laws_heldName (a : List (List UInt8)) (k : Int) (h0 : 0 ≤ k) (hk : k + a.flatten.length ≤ 9223372036854775807) (hl : a.length ≤ 4194304) :
    FnOK Try.prog 102 [.agg [.d (encBB (markss a k))], .one (.d (.sc (.int .i64 k)))] (fun ra _ => ra = [.one (.d (.sc (.int .i64 (k + a.flatten.length))))]) := by
  refine FnOK.ofK Try.func102 (by kernel_rfl) dg_laws_heldName rs_laws_heldName rfl rfl ?_
  unfold c_laws_heldName
  refine kSeq (kReg (kBox rfl rfl rfl rfl rfl (kMovC rfl (kDone (kSeq (kReg (kFadP rfl rfl (kLoadP rfl rfl rfl (kMovC rfl (kCall1 true (ok_laws_heldByteSS _ _ (by first | assumption | omega | solve_by_elim [List.getElem_mem]) (by first | assumption | omega | solve_by_elim [List.getElem_mem]) (by first | assumption | omega | solve_by_elim [List.getElem_mem])) ⟨rfl, rfl, trivial⟩ rfl rfl rfl (fun _ => (kMovC rfl (kDone (kSeq (kSeq (kReg (kMovC rfl (kBin rfl rfl rfl (kDone (kCondP rfl (fun g0 => (by omega)) (fun g0 => kSkip (kSeq (kReg (kMovC rfl (kMovC rfl (kDone (kRet (endRetA (ra := [.one (.d _)]) rfl rfl))))))))))))))))))))))))))))

def c_laws_heldIntS : C := (.seq (.reg false (.op 0 [] (some 4) none false (.mov (.v (.int .i64 0)))
  .done))
 (.seq (.seq (.reg false (.op 0 [] (some 5) none false (.mov (.v (.int .i64 0)))
  .done))
 (.block 0 (.loop (.seq (.seq (.reg false (.op 0 [] (some 6) none false (.mov (.t 5))
  (.op 1 [] (some 7) none false (.mov (.t 0))
  (.op 2 [] (some 8) none false (.len (.t 7))
  (.op 3 [] (some 9) none false (.bin .lss (.t 6) (.t 8))
  .done)))))
 (.cond (.t 9)
 .skip
 (.exit 0)))
 (.seq (.block 1 (.seq (.seq (.reg false (.op 0 [] (some 12) none false (.mov (.t 0))
  (.op 1 [] (some 13) none false (.mov (.t 5))
  (.op 2 [] (some 14) none false (.iad 1 (.t 12) (.t 13))
  (.op 3 [] (some 15) none false (.load none (.t 14))
  (.op 4 [] (some 16) none false (.mov (.t 1))
  (.op 5 [] (some 17) none false (.bin .neq (.t 15) (.t 16))
  .done)))))))
 (.cond (.t 17)
 (.seq (.reg false (.op 0 [] (some 4) none false (.mov (.v (.int .i64 (-1))))
  .done))
 .ret)
 .skip))
 (.reg false (.op 0 [] (some 18) none false (.mov (.t 1))
  (.op 1 [] (some 19) none false (.bin .add (.t 18) (.v (.int .i64 1)))
  (.op 2 [] (some 1) none false (.mov (.t 19))
  .done))))))
 (.reg false (.op 0 [] (some 10) none false (.mov (.t 5))
  (.op 1 [] (some 11) none false (.bin .add (.t 10) (.v (.int .i64 1)))
  (.op 2 [] (some 5) none false (.mov (.t 11))
  .done)))))))))
 (.seq (.reg false (.op 0 [] (some 20) none false (.mov (.t 1))
  (.op 1 [] (some 4) none false (.mov (.t 20))
  .done)))
 .ret)))
theorem dg_laws_heldIntS : Try.f88.body.bind (digC Try.prog Try.f88.ntmps []) = some c_laws_heldIntS := by kernel_rfl
theorem rs_laws_heldIntS : resSlots Try.prog Try.f88 = some [.s 4] := by kernel_rfl
theorem ok_laws_heldIntS (n : Nat) (k : Int) (h0 : 0 ≤ k) (hk : k + n ≤ 9223372036854775807) :
    FnOK Try.prog 88 [.one (.d (encI (marksI n k))), .one (.d (.sc (.int .i64 k)))] (fun ra _ => ra = [.one (.d (.sc (.int .i64 (k + n))))]) := by
  refine FnOK.ofK Try.func88 (by kernel_rfl) dg_laws_heldIntS rs_laws_heldIntS rfl rfl ?_
  unfold c_laws_heldIntS
  have hm := marksI_len n k
  refine kSeq (kReg (kMovC rfl (kDone (kSeq (kSeq (kReg (kMovC rfl (kDone (kBlock ?_)))))))))
  refine kLoop (α := { i : Nat // i ≤ n })
    (fun y => ⟨tabSl [(0, .dv (encI (marksI n k))), (1, .i (k + y.1)), (5, .i y.1)], obTab 1 [], []⟩) (fun y => n - y.1) ⟨0, by simp⟩
    .normA ?_
  rintro ⟨i, hi⟩
  simp only
  rcases Nat.lt_or_ge i n with hlt | hge
  · have hg := marksI_get n k i (by omega)
    refine kSeq (kSeq (kReg (kMovC rfl (kMovC rfl (kLenR rfl rfl (kBin rfl rfl rfl (kDone (kCondP rfl (fun g0 => kSkip (kSeq (kBlock (kSeq (kSeq (kReg (kMovC rfl (kMovC rfl (kIadR rfl rfl rfl (by omega) (kLoadD rfl rfl (kMovC rfl (kBin rfl rfl rfl (kDone (kCondIN rfl (fun g1 => (by omega)) (fun g1 => kSkip (kReg (kMovC rfl (kAdd rfl rfl (by omega) (kMovC rfl (kDone (kBk (kReg (kMovC rfl (kAdd rfl rfl (by omega) (kMovC rfl (kDone ?_)))))))))))))))))))))))))) (fun g0 => (by omega))))))))))
    exact kInv ⟨⟨i + 1, by omega⟩, by simp only; omega, .normA⟩
  · refine kSeq (kSeq (kReg (kMovC rfl (kMovC rfl (kLenR rfl rfl (kBin rfl rfl rfl (kDone (kCondP rfl (fun g0 => (by omega)) (fun g0 => kExit (kExC (kExI (kExB (kSeq (kReg (kMovC rfl (kMovC rfl (kDone (kRet (endRetA (ra := [.one (.d _)]) rfl ?_)))))))))))))))))))
    rw [show i = n by omega]

def c_laws_heldRrS : C := (.seq (.reg false (.op 0 [] (some 4) none false (.mov (.v (.int .i64 0)))
  .done))
 (.seq (.seq (.reg false (.op 0 [] (some 5) none false (.mov (.v (.int .i64 0)))
  .done))
 (.block 0 (.loop (.seq (.seq (.reg false (.op 0 [] (some 6) none false (.mov (.t 5))
  (.op 1 [] (some 7) none false (.mov (.t 0))
  (.op 2 [] (some 8) none false (.len (.t 7))
  (.op 3 [] (some 9) none false (.bin .lss (.t 6) (.t 8))
  .done)))))
 (.cond (.t 9)
 .skip
 (.exit 0)))
 (.seq (.block 1 (.seq (.reg false (.op 0 [] (some 12) none false (.mov (.t 0))
  (.op 1 [] (some 13) none false (.mov (.t 5))
  (.op 2 [] (some 14) none false (.iad 7 (.t 12) (.t 13))
  (.op 3 [] (some 15) none false (.fad (.t 14) 0)
  (.op 4 [] (some 16) none false (.fad (.t 15) 0)
  (.op 5 [] (some 17) none false (.load none (.t 16))
  (.op 6 [] (some 18) none false (.mov (.t 1))
  (.op 7 [] (some 19) none false (.call 19 86 [(.t 17), (.t 18)])
  (.op 8 [] (some 1) none false (.mov (.t 19))
  .done))))))))))
 (.seq (.seq (.reg false (.op 0 [] (some 20) none false (.mov (.t 1))
  (.op 1 [] (some 21) none false (.bin .lss (.t 20) (.v (.int .i64 0)))
  .done)))
 (.cond (.t 21)
 (.seq (.reg false (.op 0 [] (some 4) none false (.mov (.v (.int .i64 (-1))))
  .done))
 .ret)
 .skip))
 (.seq (.seq (.reg false (.op 0 [] (some 22) none false (.mov (.t 0))
  (.op 1 [] (some 23) none false (.mov (.t 5))
  (.op 2 [] (some 24) none false (.iad 7 (.t 22) (.t 23))
  (.op 3 [] (some 25) none false (.fad (.t 24) 1)
  (.op 4 [] (some 26) none false (.load none (.t 25))
  (.op 5 [] (some 27) none false (.mov (.t 1))
  (.op 6 [] (some 28) none false (.bin .neq (.t 26) (.t 27))
  .done))))))))
 (.cond (.t 28)
 (.seq (.reg false (.op 0 [] (some 4) none false (.mov (.v (.int .i64 (-1))))
  .done))
 .ret)
 .skip))
 (.seq (.reg false (.op 0 [] (some 29) none false (.mov (.t 1))
  (.op 1 [] (some 30) none false (.bin .add (.t 29) (.v (.int .i64 1)))
  (.op 2 [] (some 1) none false (.mov (.t 30))
  .done))))
 (.seq (.seq (.reg false (.op 0 [] (some 31) none false (.mov (.t 0))
  (.op 1 [] (some 32) none false (.mov (.t 5))
  (.op 2 [] (some 33) none false (.iad 7 (.t 31) (.t 32))
  (.op 3 [] (some 34) none false (.fad (.t 33) 2)
  (.op 4 [] (some 35) none false (.load none (.t 34))
  (.op 5 [] (some 36) none false (.mov (.t 1))
  (.op 6 [] (some 37) none false (.bin .neq (.t 35) (.t 36))
  .done))))))))
 (.cond (.t 37)
 (.seq (.reg false (.op 0 [] (some 4) none false (.mov (.v (.int .i64 (-1))))
  .done))
 .ret)
 .skip))
 (.seq (.reg false (.op 0 [] (some 38) none false (.mov (.t 1))
  (.op 1 [] (some 39) none false (.bin .add (.t 38) (.v (.int .i64 1)))
  (.op 2 [] (some 1) none false (.mov (.t 39))
  .done))))
 (.seq (.seq (.reg false (.op 0 [] (some 40) none false (.mov (.t 0))
  (.op 1 [] (some 41) none false (.mov (.t 5))
  (.op 2 [] (some 42) none false (.iad 7 (.t 40) (.t 41))
  (.op 3 [] (some 43) none false (.fad (.t 42) 3)
  (.op 4 [] (some 44) none false (.load none (.t 43))
  (.op 5 [] (some 45) none false (.mov (.t 1))
  (.op 6 [] (some 46) none false (.bin .neq (.t 44) (.t 45))
  .done))))))))
 (.cond (.t 46)
 (.seq (.reg false (.op 0 [] (some 4) none false (.mov (.v (.int .i64 (-1))))
  .done))
 .ret)
 .skip))
 (.seq (.reg false (.op 0 [] (some 47) none false (.mov (.t 1))
  (.op 1 [] (some 48) none false (.bin .add (.t 47) (.v (.int .i64 1)))
  (.op 2 [] (some 1) none false (.mov (.t 48))
  .done))))
 (.seq (.reg false (.op 0 [] (some 49) none false (.mov (.t 0))
  (.op 1 [] (some 50) none false (.mov (.t 5))
  (.op 2 [] (some 51) none false (.iad 7 (.t 49) (.t 50))
  (.op 3 [] (some 52) none false (.fad (.t 51) 4)
  (.op 4 [] (some 53) none false (.fad (.t 52) 0)
  (.op 5 [] (some 54) none false (.load none (.t 53))
  (.op 6 [] (some 55) none false (.mov (.t 1))
  (.op 7 [] (some 56) none false (.call 56 86 [(.t 54), (.t 55)])
  (.op 8 [] (some 1) none false (.mov (.t 56))
  .done))))))))))
 (.seq (.seq (.reg false (.op 0 [] (some 57) none false (.mov (.t 1))
  (.op 1 [] (some 58) none false (.bin .lss (.t 57) (.v (.int .i64 0)))
  .done)))
 (.cond (.t 58)
 (.seq (.reg false (.op 0 [] (some 4) none false (.mov (.v (.int .i64 (-1))))
  .done))
 .ret)
 .skip))
 (.seq (.reg false (.op 0 [] (some 59) none false (.mov (.t 0))
  (.op 1 [] (some 60) none false (.mov (.t 5))
  (.op 2 [] (some 61) none false (.iad 7 (.t 59) (.t 60))
  (.op 3 [] (some 62) none false (.fad (.t 61) 5)
  (.op 4 [] (some 63) none false (.load none (.t 62))
  (.op 5 [] (some 64) none false (.mov (.t 1))
  (.op 6 [] (some 65) none false (.call 65 87 [(.t 63), (.t 64)])
  (.op 7 [] (some 1) none false (.mov (.t 65))
  .done)))))))))
 (.seq (.seq (.reg false (.op 0 [] (some 66) none false (.mov (.t 1))
  (.op 1 [] (some 67) none false (.bin .lss (.t 66) (.v (.int .i64 0)))
  .done)))
 (.cond (.t 67)
 (.seq (.reg false (.op 0 [] (some 4) none false (.mov (.v (.int .i64 (-1))))
  .done))
 .ret)
 .skip))
 (.seq (.reg false (.op 0 [] (some 68) none false (.mov (.t 0))
  (.op 1 [] (some 69) none false (.mov (.t 5))
  (.op 2 [] (some 70) none false (.iad 7 (.t 68) (.t 69))
  (.op 3 [] (some 71) none false (.fad (.t 70) 6)
  (.op 4 [] (some 72) none false (.load none (.t 71))
  (.op 5 [] (some 73) none false (.mov (.t 1))
  (.op 6 [] (some 74) none false (.call 74 88 [(.t 72), (.t 73)])
  (.op 7 [] (some 1) none false (.mov (.t 74))
  .done)))))))))
 (.seq (.reg false (.op 0 [] (some 75) none false (.mov (.t 1))
  (.op 1 [] (some 76) none false (.bin .lss (.t 75) (.v (.int .i64 0)))
  .done)))
 (.cond (.t 76)
 (.seq (.reg false (.op 0 [] (some 4) none false (.mov (.v (.int .i64 (-1))))
  .done))
 .ret)
 .skip))))))))))))))))
 (.reg false (.op 0 [] (some 10) none false (.mov (.t 5))
  (.op 1 [] (some 11) none false (.bin .add (.t 10) (.v (.int .i64 1)))
  (.op 2 [] (some 5) none false (.mov (.t 11))
  .done)))))))))
 (.seq (.reg false (.op 0 [] (some 77) none false (.mov (.t 1))
  (.op 1 [] (some 4) none false (.mov (.t 77))
  .done)))
 .ret)))
theorem dg_laws_heldRrS : Try.f28.body.bind (digC Try.prog Try.f28.ntmps []) = some c_laws_heldRrS := by kernel_rfl
theorem rs_laws_heldRrS : resSlots Try.prog Try.f28 = some [.s 4] := by kernel_rfl
theorem ok_laws_heldRrS (l : List Rr) (k : Int) (h0 : 0 ≤ k) (hk : k + cntRs l ≤ 9223372036854775807) (hs : SmallRs l) :
    FnOK Try.prog 28 [.one (.d (encR (markRs l k))), .one (.d (.sc (.int .i64 k)))] (fun ra _ => ra = [.one (.d (.sc (.int .i64 (k + cntRs l))))]) := by
  refine FnOK.ofK Try.func28 (by kernel_rfl) dg_laws_heldRrS rs_laws_heldRrS rfl rfl ?_
  unfold c_laws_heldRrS
  have hm := markRs_len l k
  have h1 := hs.len
  refine kSeq (kReg (kMovC rfl (kDone (kSeq (kSeq (kReg (kMovC rfl (kDone (kBlock ?_)))))))))
  refine kLoop (α := { i : Nat // i ≤ l.length }) (fun y => ⟨tabSl [(0, .dv (encR (markRs l k))), (1, .i (k + cntRs (l.take y.1))), (5, .i y.1)], obTab 1 [], []⟩) (fun y => l.length - y.1) ⟨0, by simp⟩ .normA ?_
  rintro ⟨i, hi⟩
  simp only
  have hle := cntRs_le l i
  have hle2 := cntRs_le l (i + 1)
  rcases Nat.lt_or_ge i l.length with hlt | hge
  · have hbi := hs.mem _ (List.getElem_mem hlt)
    have n1 := hbi.n.len
    have t1 := hbi.t.len
    have hsuc := cntRs_take l i hlt
    have hrow := markRs_get l k i (by omega) hlt
    have hc : cntR l[i] = cntBB l[i].name + 3 + cntBB l[i].to + l[i].text.length + l[i].nums.length := rfl
    have hcb : cntBB l[i].name = l[i].name.flatten.length := rfl
    have hct : cntBB l[i].to = l[i].to.flatten.length := rfl
    have e1 : (markR l[i] (k + ↑(cntRs (List.take i l)))).ty = k + (cntRs (l.take i) : Int) + (l[i].name.flatten.length : Int) := rfl
    have e2 : (markR l[i] (k + ↑(cntRs (List.take i l)))).ttl = k + (cntRs (l.take i) : Int) + (l[i].name.flatten.length : Int) + 1 := rfl
    have e3 : (markR l[i] (k + ↑(cntRs (List.take i l)))).addr = k + (cntRs (l.take i) : Int) + (l[i].name.flatten.length : Int) + 1 + 1 := rfl
    refine kSeq (kSeq (kReg (kMovC rfl (kMovC rfl (kLenR rfl rfl (kBin rfl rfl rfl (kDone (kCondP rfl (fun g0 => kSkip (kSeq (kBlock (kSeq (kReg (kMovC rfl (kMovC rfl (kIadRW rfl rfl rfl (by omega) hrow (kFadD rfl (kFadD rfl (kLoadD rfl rfl (kMovC rfl (kCallD (ok_laws_heldByteSS _ _ (by first | assumption | omega | solve_by_elim [List.getElem_mem] | (simp only [szOut] at *; omega)) (by first | assumption | omega | solve_by_elim [List.getElem_mem] | (simp only [szOut] at *; omega)) (by first | assumption | omega | solve_by_elim [List.getElem_mem] | (simp only [szOut] at *; omega))) ⟨rfl, rfl, trivial⟩ rfl rfl rfl rfl rfl (kMovC rfl (kDone (kSeq (kSeq (kReg (kMovC rfl (kBin rfl rfl rfl (kDone (kCondP rfl (fun g1 => (by omega)) (fun g1 => kSkip (kSeq (kSeq (kReg (kMovC rfl (kMovC rfl (kIadRW rfl rfl rfl (by omega) hrow (kFadD rfl (kLoadD rfl rfl (kMovC rfl (kBin rfl rfl rfl (kDone (kCondIN rfl (fun g2 => (by omega)) (fun g2 => kSkip (kSeq (kReg (kMovC rfl (kAdd rfl rfl (by omega) (kMovC rfl (kDone (kSeq (kSeq (kReg (kMovC rfl (kMovC rfl (kIadRW rfl rfl rfl (by omega) hrow (kFadD rfl (kLoadD rfl rfl (kMovC rfl (kBin rfl rfl rfl (kDone (kCondIN rfl (fun g3 => (by omega)) (fun g3 => kSkip (kSeq (kReg (kMovC rfl (kAdd rfl rfl (by omega) (kMovC rfl (kDone (kSeq (kSeq (kReg (kMovC rfl (kMovC rfl (kIadRW rfl rfl rfl (by omega) hrow (kFadD rfl (kLoadD rfl rfl (kMovC rfl (kBin rfl rfl rfl (kDone (kCondIN rfl (fun g4 => (by omega)) (fun g4 => kSkip (kSeq (kReg (kMovC rfl (kAdd rfl rfl (by omega) (kMovC rfl (kDone (kSeq (kReg (kMovC rfl (kMovC rfl (kIadRW rfl rfl rfl (by omega) hrow (kFadD rfl (kFadD rfl (kLoadD rfl rfl (kMovC rfl (kCallD (ok_laws_heldByteSS _ _ (by first | assumption | omega | solve_by_elim [List.getElem_mem] | (simp only [szOut] at *; omega)) (by first | assumption | omega | solve_by_elim [List.getElem_mem] | (simp only [szOut] at *; omega)) (by first | assumption | omega | solve_by_elim [List.getElem_mem] | (simp only [szOut] at *; omega))) ⟨rfl, rfl, trivial⟩ rfl rfl rfl rfl rfl (kMovC rfl (kDone (kSeq (kSeq (kReg (kMovC rfl (kBin rfl rfl rfl (kDone (kCondP rfl (fun g5 => (by omega)) (fun g5 => kSkip (kSeq (kReg (kMovC rfl (kMovC rfl (kIadRW rfl rfl rfl (by omega) hrow (kFadD rfl (kLoadD rfl rfl (kMovC rfl (kCallD (ok_laws_heldByteS _ _ (by first | assumption | omega | solve_by_elim [List.getElem_mem] | (simp only [szOut] at *; omega)) (by first | assumption | omega | solve_by_elim [List.getElem_mem] | (simp only [szOut] at *; omega))) ⟨rfl, rfl, trivial⟩ rfl rfl rfl rfl rfl (kMovC rfl (kDone (kSeq (kSeq (kReg (kMovC rfl (kBin rfl rfl rfl (kDone (kCondP rfl (fun g6 => (by omega)) (fun g6 => kSkip (kSeq (kReg (kMovC rfl (kMovC rfl (kIadRW rfl rfl rfl (by omega) hrow (kFadD rfl (kLoadD rfl rfl (kMovC rfl (kCallD (ok_laws_heldIntS _ _ (by first | assumption | omega | solve_by_elim [List.getElem_mem] | (simp only [szOut] at *; omega)) (by first | assumption | omega | solve_by_elim [List.getElem_mem] | (simp only [szOut] at *; omega))) ⟨rfl, rfl, trivial⟩ rfl rfl rfl rfl rfl (kMovC rfl (kDone (kSeq (kReg (kMovC rfl (kBin rfl rfl rfl (kDone (kCondP rfl (fun g7 => (by omega)) (fun g7 => kSkip (kBk (kReg (kMovC rfl (kAdd rfl rfl (by omega) (kMovC rfl (kDone ?_))))))))))))))))))))))))))))))))))))))))))))))))))))))))))))))))))))))))))))))))))))))))))))))))))))))))))))))))))))))))))))))))))))))))))))))) (fun g0 => (by omega))))))))))
    exact kInv ⟨⟨i + 1, by omega⟩, by simp only; omega, .normA⟩
  · refine kSeq (kSeq (kReg (kMovC rfl (kMovC rfl (kLenR rfl rfl (kBin rfl rfl rfl (kDone (kCondP rfl (fun g0 => (by omega)) (fun g0 => kExit (kExC (kExI (kExB (kSeq (kReg (kMovC rfl (kMovC rfl (kDone (kRet (endRetA (ra := [.one (.d _)]) rfl ?_)))))))))))))))))))
    rw [show i = l.length by omega, List.take_length]

def c_laws_heldZone : C := (.seq (.reg false (.op 0 [] (some 2) none false (.box 2 (.t 0))
  (.op 1 [] (some 4) none false (.mov (.v (.int .i64 0)))
  .done)))
 (.seq (.reg false (.op 0 [] (some 5) none false (.fad (.t 2) 0)
  (.op 1 [] (some 6) none false (.load (some 1) (.t 5))
  (.op 2 [] (some 7) none false (.mov (.t 1))
  (.op 3 [] (some 8) none false (.call 8 102 [(.t 6), (.t 7)])
  (.op 4 [] (some 1) none false (.mov (.t 8))
  .done))))))
 (.seq (.seq (.reg false (.op 0 [] (some 9) none false (.mov (.t 1))
  (.op 1 [] (some 10) none false (.bin .lss (.t 9) (.v (.int .i64 0)))
  .done)))
 (.cond (.t 10)
 (.seq (.reg false (.op 0 [] (some 4) none false (.mov (.v (.int .i64 (-1))))
  .done))
 .ret)
 .skip))
 (.seq (.reg false (.op 0 [] (some 11) none false (.fad (.t 2) 1)
  (.op 1 [] (some 12) none false (.load none (.t 11))
  (.op 2 [] (some 13) none false (.mov (.t 1))
  (.op 3 [] (some 14) none false (.call 14 28 [(.t 12), (.t 13)])
  (.op 4 [] (some 1) none false (.mov (.t 14))
  .done))))))
 (.seq (.seq (.reg false (.op 0 [] (some 15) none false (.mov (.t 1))
  (.op 1 [] (some 16) none false (.bin .lss (.t 15) (.v (.int .i64 0)))
  .done)))
 (.cond (.t 16)
 (.seq (.reg false (.op 0 [] (some 4) none false (.mov (.v (.int .i64 (-1))))
  .done))
 .ret)
 .skip))
 (.seq (.reg false (.op 0 [] (some 17) none false (.mov (.t 1))
  (.op 1 [] (some 4) none false (.mov (.t 17))
  .done)))
 .ret))))))
theorem dg_laws_heldZone : Try.f49.body.bind (digC Try.prog Try.f49.ntmps []) = some c_laws_heldZone := by kernel_rfl
theorem rs_laws_heldZone : resSlots Try.prog Try.f49 = some [.s 4] := by kernel_rfl
theorem ok_laws_heldZone (z : Zone) (k : Int) (h0 : 0 ≤ k) (hk : k + cntZ z ≤ 9223372036854775807) (hs : SmallZ z) :
    FnOK Try.prog 49 [.agg ((markZ z k).cells.map .d), .one (.d (.sc (.int .i64 k)))] (fun ra _ => ra = [.one (.d (.sc (.int .i64 (k + cntZ z))))]) := by
  refine FnOK.ofK Try.func49 (by kernel_rfl) dg_laws_heldZone rs_laws_heldZone rfl rfl ?_
  unfold c_laws_heldZone
  have o1 := hs.o.len
  have o2 := hs.o.mem
  have h1 := hs.r
  have hc : k + (cntZ z : Int) = k + (z.origin.flatten.length : Int) + (cntRs z.rrs : Int) := by unfold cntZ cntBB; omega
  refine kSeq (kReg (kBox rfl rfl rfl rfl rfl (kMovC rfl (kDone (kSeq (kReg (kFadP rfl rfl (kLoadP rfl rfl rfl (kMovC rfl (kCallD (ok_laws_heldName _ _ (by first | assumption | omega | solve_by_elim [List.getElem_mem] | (simp only [szOut] at *; omega)) (by first | assumption | omega | solve_by_elim [List.getElem_mem] | (simp only [szOut] at *; omega)) (by first | assumption | omega | solve_by_elim [List.getElem_mem] | (simp only [szOut] at *; omega))) ⟨⟨⟨rfl, trivial⟩, Nat.le_of_ble_eq_true rfl⟩, rfl, trivial⟩ rfl rfl rfl rfl rfl (kMovC rfl (kDone (kSeq (kSeq (kReg (kMovC rfl (kBin rfl rfl rfl (kDone (kCondP rfl (fun g0 => (by omega)) (fun g0 => kSkip (kSeq (kReg (kFadP rfl rfl (kMem [(12288, ⟨1, 0, .box [.d _, .d _]⟩)] [(11, .c (.ptr 12288 1 1)), (1, .c (.d _)), (12, .c (.un)), (13, .c (.un)), (14, .c (.un))] [] ⟨rfl, trivial⟩ ⟨rfl, rfl, rfl, rfl, rfl, trivial⟩ rfl (kLoadP rfl rfl rfl (kMovC rfl (kCallD (ok_laws_heldRrS _ _ (by first | assumption | omega | solve_by_elim [List.getElem_mem] | (simp only [szOut] at *; omega)) (by first | assumption | omega | solve_by_elim [List.getElem_mem] | (simp only [szOut] at *; omega)) (by first | assumption | omega | solve_by_elim [List.getElem_mem] | (simp only [szOut] at *; omega))) ⟨rfl, rfl, trivial⟩ rfl rfl rfl rfl rfl (kMovC rfl (kDone (kSeq (kSeq (kReg (kMovC rfl (kBin rfl rfl rfl (kDone (kCondP rfl (fun g1 => (by omega)) (fun g1 => kSkip (kSeq (kReg (kMovC rfl (kMovC rfl (kDone (kRet (endRetA (ra := [.one (.d _)]) rfl ?_))))))))))))))))))))))))))))))))))))))))))))
  rw [hc]

def c_laws_FnExactZoneNew : C := (.seq (.reg false (.op 0 [] (some 2) none false (.box 2 (.t 0))
  (.op 1 [] (some 4) none false (.mov (.v (.bool false)))
  .done)))
 (.seq (.reg false (.op 0 [] (some 5) none false (.mov (.v (.int .i64 1048576)))
  .done))
 (.seq (.reg false (.op 0 [] (some 16) none false (.load (some 1) (.t 2))
  (.op 1 [] (some 17) none false (.mov (.t 5))
  (.op 2 [] (some 18) none false (.call 18 20 [(.t 16), (.t 17)])
  (.op 3 [] (some 5) none false (.mov (.t 18))
  .done)))))
 (.seq (.seq (.reg false (.op 0 [] (some 19) none false (.mov (.t 5))
  (.op 1 [] (some 20) none false (.bin .lss (.t 19) (.v (.int .i64 0)))
  .done)))
 (.cond (.t 20)
 (.seq (.reg false (.op 0 [] (some 4) none false (.mov (.v (.bool true)))
  .done))
 .ret)
 .skip))
 (.seq (.reg false (.op 0 [] (some 22) none false (.load (some 1) (.t 2))
  (.op 1 [] (some 23) none false (.call 23 23 [(.t 22)])
  (.op 2 [] (some 24) none false (.mov (.t 1))
  (.op 3 [] (some 25) none false (.call 25 45 [(.t 23), (.t 24)])
  (.op 4 [] (some 21) none false (.mov (.t 25))
  (.op 5 [] (some 26) none false (.ext (.t 21) 0)
  (.op 6 [] (some 27) none false (.ext (.t 21) 1)
  (.op 7 [] (some 6) none false (.alloc 6 [(.n 1), (.n 7)])
  (.op 8 [] none none false (.store (some 2) (.t 6) (.t 26))
  (.op 9 [] (some 7) none false (.mov (.t 27))
  .done)))))))))))
 (.seq (.reg false (.op 0 [] (some 28) none false (.load (some 1) (.t 2))
  (.op 1 [] (some 29) none false (.call 29 23 [(.t 28)])
  (.op 2 [] (some 8) none false (.alloc 8 [(.n 1)])
  (.op 3 [] none none false (.store (some 1) (.t 8) (.t 29))
  .done)))))
 (.seq (.reg false (.op 0 [] (some 31) none false (.load (some 1) (.t 8))
  (.op 1 [] (some 32) none false (.mov (.t 1))
  (.op 2 [] (some 33) none false (.call 33 46 [(.t 31), (.t 32)])
  (.op 3 [] (some 30) none false (.mov (.t 33))
  (.op 4 [] (some 34) none false (.ext (.t 30) 0)
  (.op 5 [] (some 35) none false (.ext (.t 30) 1)
  (.op 6 [] (some 9) none false (.alloc 9 [(.n 1), (.n 7)])
  (.op 7 [] none none false (.store (some 2) (.t 9) (.t 34))
  (.op 8 [] (some 10) none false (.mov (.t 35))
  .done))))))))))
 (.seq (.seq (.reg false (.op 0 [] (some 36) none false (.load (some 2) (.t 9))
  (.op 1 [] (some 37) none false (.load (some 2) (.t 6))
  (.op 2 [] (some 38) none false (.call 38 47 [(.t 36), (.t 37)])
  (.op 3 [] (some 39) none false (.un .not (.t 38))
  (.op 4 [] (some 40) none false (.mov (.t 39))
  (.op 5 [] (some 41) (some (40, false)) false (.mov (.t 10))
  (.op 6 [] (some 42) (some (40, false)) false (.mov (.t 7))
  (.op 7 [] (some 43) (some (40, false)) false (.beq true (.t 41) (.t 42))
  (.op 8 [] (some 44) none false (.pick (.t 40) (.v (.bool true)) (.t 43))
  .done))))))))))
 (.cond (.t 44)
 (.seq (.reg false (.op 0 [] (some 4) none false (.mov (.v (.bool false)))
  .done))
 .ret)
 .skip))
 (.seq (.seq (.reg true (.op 0 [] (some 45) none true (.load (some 1) (.t 8))
  (.op 1 [] (some 46) none true (.load (some 1) (.t 2))
  (.op 2 [1] (some 47) none false (.call 47 23 [(.t 46)])
  (.op 3 [0, 1] (some 48) none false (.call 48 25 [(.t 45), (.t 47)])
  (.op 4 [] (some 49) none true (.un .not (.t 48))
  .done))))))
 (.cond (.t 49)
 (.seq (.reg false (.op 0 [] (some 4) none false (.mov (.v (.bool false)))
  .done))
 .ret)
 .skip))
 (.seq (.reg false (.op 0 [] (some 11) none false (.mov (.v (.int .i64 1)))
  .done))
 (.seq (.reg false (.op 0 [] (some 50) none false (.load (some 1) (.t 8))
  (.op 1 [] (some 51) none false (.mov (.t 11))
  (.op 2 [] (some 52) none false (.call 52 27 [(.t 50), (.t 51)])
  (.op 3 [] (some 11) none false (.mov (.t 52))
  .done)))))
 (.seq (.seq (.reg false (.op 0 [] (some 53) none false (.mov (.t 11))
  (.op 1 [] (some 54) none false (.bin .lss (.t 53) (.v (.int .i64 0)))
  (.op 2 [] (some 55) none false (.mov (.t 54))
  (.op 3 [] (some 56) (some (55, false)) false (.load (some 2) (.t 9))
  (.op 4 [] (some 57) (some (55, false)) false (.load (some 2) (.t 6))
  (.op 5 [] (some 58) (some (55, false)) false (.call 58 47 [(.t 56), (.t 57)])
  (.op 6 [] (some 59) (some (55, false)) false (.un .not (.t 58))
  (.op 7 [] (some 60) none false (.pick (.t 55) (.v (.bool true)) (.t 59))
  (.op 8 [] (some 61) none false (.mov (.t 60))
  (.op 9 [] (some 62) (some (61, false)) false (.mov (.t 10))
  (.op 10 [] (some 63) (some (61, false)) false (.mov (.t 7))
  (.op 11 [] (some 64) (some (61, false)) false (.beq true (.t 62) (.t 63))
  (.op 12 [] (some 65) none false (.pick (.t 61) (.v (.bool true)) (.t 64))
  .done))))))))))))))
 (.cond (.t 65)
 (.seq (.reg false (.op 0 [] (some 4) none false (.mov (.v (.bool false)))
  .done))
 .ret)
 .skip))
 (.seq (.reg false (.op 0 [] (some 12) none false (.mov (.v (.int .i64 1)))
  .done))
 (.seq (.reg false (.op 0 [] (some 66) none false (.load (some 2) (.t 9))
  (.op 1 [] (some 67) none false (.mov (.t 12))
  (.op 2 [] (some 68) none false (.call 68 48 [(.t 66), (.t 67)])
  (.op 3 [] (some 12) none false (.mov (.t 68))
  .done)))))
 (.seq (.reg false (.op 0 [] (some 13) none false (.mov (.v (.int .i64 1)))
  .done))
 (.seq (.reg false (.op 0 [] (some 69) none false (.load (some 2) (.t 9))
  (.op 1 [] (some 70) none false (.mov (.t 13))
  (.op 2 [] (some 71) none false (.call 71 49 [(.t 69), (.t 70)])
  (.op 3 [] (some 13) none false (.mov (.t 71))
  .done)))))
 (.seq (.seq (.reg false (.op 0 [] (some 72) none false (.mov (.t 13))
  (.op 1 [] (some 73) none false (.bin .lss (.t 72) (.v (.int .i64 0)))
  .done)))
 (.cond (.t 73)
 (.seq (.reg false (.op 0 [] (some 4) none false (.mov (.v (.bool false)))
  .done))
 .ret)
 .skip))
 (.seq (.seq (.reg false (.op 0 [] (some 74) none false (.mov (.t 13))
  (.op 1 [] (some 75) none false (.mov (.t 12))
  (.op 2 [] (some 76) none false (.bin .neq (.t 74) (.t 75))
  .done))))
 (.cond (.t 76)
 (.seq (.reg false (.op 0 [] (some 4) none false (.mov (.v (.bool false)))
  .done))
 .ret)
 .skip))
 (.seq (.reg false (.op 0 [] (some 78) none false (.load (some 1) (.t 2))
  (.op 1 [] (some 79) none false (.call 79 23 [(.t 78)])
  (.op 2 [] (some 80) none false (.mov (.t 1))
  (.op 3 [] (some 81) none false (.call 81 46 [(.t 79), (.t 80)])
  (.op 4 [] (some 77) none false (.mov (.t 81))
  (.op 5 [] (some 82) none false (.ext (.t 77) 0)
  (.op 6 [] (some 83) none false (.ext (.t 77) 1)
  (.op 7 [] (some 14) none false (.alloc 14 [(.n 1), (.n 7)])
  (.op 8 [] none none false (.store (some 2) (.t 14) (.t 82))
  (.op 9 [] (some 15) none false (.mov (.t 83))
  .done)))))))))))
 (.seq (.seq (.reg false (.op 0 [] (some 84) none false (.load (some 2) (.t 14))
  (.op 1 [] (some 85) none false (.load (some 2) (.t 6))
  (.op 2 [] (some 86) none false (.call 86 47 [(.t 84), (.t 85)])
  (.op 3 [] (some 87) none false (.un .not (.t 86))
  (.op 4 [] (some 88) none false (.mov (.t 87))
  (.op 5 [] (some 89) (some (88, false)) false (.mov (.t 15))
  (.op 6 [] (some 90) (some (88, false)) false (.mov (.t 7))
  (.op 7 [] (some 91) (some (88, false)) false (.beq true (.t 89) (.t 90))
  (.op 8 [] (some 92) none false (.pick (.t 88) (.v (.bool true)) (.t 91))
  .done))))))))))
 (.cond (.t 92)
 (.seq (.reg false (.op 0 [] (some 4) none false (.mov (.v (.bool false)))
  .done))
 .ret)
 .skip))
 (.seq (.reg false (.op 0 [] (some 13) none false (.mov (.v (.int .i64 1)))
  .done))
 (.seq (.reg false (.op 0 [] (some 93) none false (.load (some 2) (.t 9))
  (.op 1 [] (some 94) none false (.mov (.t 13))
  (.op 2 [] (some 95) none false (.call 95 49 [(.t 93), (.t 94)])
  (.op 3 [] (some 13) none false (.mov (.t 95))
  .done)))))
 (.seq (.seq (.reg false (.op 0 [] (some 96) none false (.mov (.t 13))
  (.op 1 [] (some 97) none false (.bin .lss (.t 96) (.v (.int .i64 0)))
  .done)))
 (.cond (.t 97)
 (.seq (.reg false (.op 0 [] (some 4) none false (.mov (.v (.bool false)))
  .done))
 .ret)
 .skip))
 (.seq (.seq (.reg false (.op 0 [] (some 98) none false (.mov (.t 13))
  (.op 1 [] (some 99) none false (.mov (.t 12))
  (.op 2 [] (some 100) none false (.bin .neq (.t 98) (.t 99))
  .done))))
 (.cond (.t 100)
 (.seq (.reg false (.op 0 [] (some 4) none false (.mov (.v (.bool false)))
  .done))
 .ret)
 .skip))
 (.seq (.reg false (.op 0 [] (some 4) none false (.mov (.v (.bool true)))
  .done))
 .ret)))))))))))))))))))))))))
theorem dg_laws_FnExactZoneNew : Try.f8.body.bind (digC Try.prog Try.f8.ntmps []) = some c_laws_FnExactZoneNew := by kernel_rfl
theorem rs_laws_FnExactZoneNew : resSlots Try.prog Try.f8 = some [.s 4] := by kernel_rfl
theorem ok_laws_FnExactZoneNew (o : List (List UInt8)) (s : Int) (ho : BigBB o) :
    FnOK Try.prog 8 [.agg [.d (encBB o)], .one (.d (.sc (.int .i64 s)))] (fun ra _ => ra = [.one (.d (.sc (.bool true)))]) := by
  refine FnOK.ofK Try.func8 (by kernel_rfl) dg_laws_FnExactZoneNew rs_laws_FnExactZoneNew rfl rfl ?_
  unfold c_laws_FnExactZoneNew
  have b3 := ho.len
  have b4 := ho.mem
  refine kSeq (kReg (kBox rfl rfl rfl rfl rfl (kMovC rfl (kDone (kSeq (kReg (kMovC rfl (kDone (kSeq (kReg (kLoadP rfl rfl rfl (kMovC rfl (kCallD (ok_laws_szName _ _ (by first | assumption | omega | solve_by_elim [List.getElem_mem] | (simp only [szOut] at *; omega)) (by first | assumption | omega | solve_by_elim [List.getElem_mem] | (simp only [szOut] at *; omega)) (by first | assumption | omega | solve_by_elim [List.getElem_mem] | (simp only [szOut] at *; omega)) (by first | assumption | omega | solve_by_elim [List.getElem_mem] | (simp only [szOut] at *; omega))) ⟨⟨⟨rfl, trivial⟩, Nat.le_of_ble_eq_true rfl⟩, rfl, trivial⟩ rfl rfl rfl rfl rfl (kMovC rfl (kDone (kSeq (kSeq (kReg (kMovC rfl (kBin rfl rfl rfl (kDone (kCondP rfl (fun g0 => kSeq (kReg (kMovC rfl (kDone (kRet (endRetA (ra := [.one (.d _)]) rfl rfl)))))) (fun g0 => kSkip (kSeq (kReg (kLoadP rfl rfl rfl ?_))))))))))))))))))))))))))
  have c2 := szOut_ok g0
  have hs : SmallBB o := .of (by omega)
  have z1 := hs.len
  have z2 := hs.mem
  have z3 := hs.flat
  have hn : SmallZ (zoneNewN o s) := by
    unfold zoneNewN
    split
    · exact .top s hs
    · exact .zero
  have k2 : cntZ (zoneNewN o s) ≤ 100000000 := by
    unfold zoneNewN
    split
    · simp only [newZ, cntZ, cntBB, cntRs, cntR, topR, List.length_cons, List.length_nil]; omega
    · exact Nat.zero_le _
  refine kCall1 true (ok_laws_toName _ (by first | assumption | omega | solve_by_elim [List.getElem_mem] | (simp only [szOut] at *; omega)) (by first | assumption | omega | solve_by_elim [List.getElem_mem] | (simp only [szOut] at *; omega))) ⟨⟨⟨rfl, trivial⟩, Nat.le_of_ble_eq_true rfl⟩, trivial⟩ rfl rfl rfl (fun _ => (kMem [(98304, ⟨1, 0, .arr true _⟩)] [(1, .c (.d _)), (23, .g [.arr 98304 1]), (24, .c (.un)), (25, .c (.un)), (21, .c (.un)), (6, .c (.un)), (26, .c (.un)), (27, .c (.un))] [] ⟨rfl, trivial⟩ ⟨rfl, rfl, rfl, rfl, rfl, rfl, rfl, rfl, trivial⟩ rfl (kMovC rfl (kCall1 true (ok_spec_ZoneNew _ _ (by first | assumption | omega | solve_by_elim [List.getElem_mem] | (simp only [szOut] at *; omega))) ⟨⟨⟨rfl, trivial⟩, Nat.le_of_ble_eq_true rfl⟩, rfl, trivial⟩ rfl rfl rfl (fun _ => (kMovT rfl (kExtC rfl rfl (kExtC rfl rfl (kAlloc rfl rfl (kMem [(28672, ⟨1, 0, .box [.nil 1, .nil 7]⟩), (106496, ⟨1, 0, .arr true _⟩), (106497, ⟨1, 0, .arr true _⟩)] [(6, .c (.ptr 28672 1 0)), (26, .g [.arr 106496 1, .arr 106497 1]), (27, .c (.d _))] [] ⟨rfl, rfl, rfl, trivial⟩ ⟨rfl, rfl, rfl, trivial⟩ rfl (kStoreP rfl rfl rfl rfl (kMovC rfl (kDone (kSeq (kReg (kLoadP rfl rfl rfl (kCall1 true (ok_laws_toName _ (by first | assumption | omega | solve_by_elim [List.getElem_mem] | (simp only [szOut] at *; omega)) (by first | assumption | omega | solve_by_elim [List.getElem_mem] | (simp only [szOut] at *; omega))) ⟨⟨⟨rfl, trivial⟩, Nat.le_of_ble_eq_true rfl⟩, trivial⟩ rfl rfl rfl (fun _ => (kAlloc rfl rfl (kStoreP rfl rfl rfl rfl (kDone (kSeq (kReg (kLoadP rfl rfl rfl (kMem [(122880, ⟨1, 0, .arr true _⟩)] [(1, .c (.d _)), (31, .g [.arr 122880 1]), (32, .c (.un)), (33, .c (.un)), (30, .c (.un)), (9, .c (.un)), (34, .c (.un)), (35, .c (.un))] [] ⟨rfl, trivial⟩ ⟨rfl, rfl, rfl, rfl, rfl, rfl, rfl, rfl, trivial⟩ rfl (kMovC rfl (kCall1 true (ok_impl_ZoneNew _ _ (by first | assumption | omega | solve_by_elim [List.getElem_mem] | (simp only [szOut] at *; omega))) ⟨⟨⟨rfl, trivial⟩, Nat.le_of_ble_eq_true rfl⟩, rfl, trivial⟩ rfl rfl rfl (fun _ => (kMovT rfl (kExtC rfl rfl (kExtC rfl rfl (kAlloc rfl rfl (kMem [(40960, ⟨1, 0, .box [.nil 1, .nil 7]⟩), (139264, ⟨1, 0, .arr true _⟩), (139265, ⟨1, 0, .arr true _⟩)] [(9, .c (.ptr 40960 1 0)), (34, .g [.arr 139264 1, .arr 139265 1]), (35, .c (.d _))] [] ⟨rfl, rfl, rfl, trivial⟩ ⟨rfl, rfl, rfl, trivial⟩ rfl (kStoreP rfl rfl rfl rfl (kMovC rfl (kDone (kSeq (kSeq (kReg (kLoadP rfl rfl rfl (kLoadP rfl rfl rfl (kCallD (ok_laws_eqZone _ _ (by first | assumption | omega | solve_by_elim [List.getElem_mem] | (simp only [szOut] at *; omega))) ⟨⟨⟨rfl, rfl, trivial⟩, Nat.le_of_ble_eq_true rfl⟩, ⟨⟨rfl, rfl, trivial⟩, Nat.le_of_ble_eq_true rfl⟩, trivial⟩ rfl rfl rfl rfl rfl (kUn rfl rfl (kMovC rfl (kGN rfl (fun g0 => (by (simp at g0))) (fun g0 => kGT rfl (kMovC rfl (kGT rfl (kMovC rfl (kGT rfl (kBeq rfl rfl (kPickF rfl (kMovC rfl (kDone (kCondN rfl (fun g1 => (by (simp at g1))) (fun g1 => kSkip (kSeq (kSeq (kRegD (kMem [(36864, ⟨1, 0, .box [.arr 122880 1]⟩), (12288, ⟨1, 0, .box [.d _]⟩), (122880, ⟨1, 0, .arr true _⟩)] [(8, .c (.ptr 36864 1 0)), (2, .c (.ptr 12288 1 0)), (46, .c (.un)), (45, .c (.un)), (47, .c (.un)), (48, .c (.un))] [] ⟨rfl, rfl, rfl, trivial⟩ ⟨rfl, rfl, rfl, rfl, rfl, rfl, trivial⟩ rfl (kLoadP rfl rfl rfl (kLoadP rfl rfl rfl (kRelK rfl rfl (kCall1 true (ok_laws_toName _ (by first | assumption | omega | solve_by_elim [List.getElem_mem] | (simp only [szOut] at *; omega)) (by first | assumption | omega | solve_by_elim [List.getElem_mem] | (simp only [szOut] at *; omega))) ⟨⟨⟨rfl, trivial⟩, Nat.le_of_ble_eq_true rfl⟩, trivial⟩ rfl rfl rfl (fun _ => (kRelF rfl rfl (kCallD (ok_laws_eqName _ _ (by first | assumption | omega | solve_by_elim [List.getElem_mem] | (simp only [szOut] at *; omega)) (by first | assumption | omega | solve_by_elim [List.getElem_mem] | (simp only [szOut] at *; omega))) ⟨⟨⟨rfl, trivial⟩, Nat.le_of_ble_eq_true rfl⟩, ⟨⟨rfl, trivial⟩, Nat.le_of_ble_eq_true rfl⟩, trivial⟩ rfl rfl rfl rfl rfl (kUn rfl rfl (kDone (kH (kCondN rfl (fun g2 => (by (simp at g2))) (fun g2 => kSkip (kSeq (kReg (kMovC rfl (kDone (kSeq (kReg (kLoadP rfl rfl rfl (kMovC rfl (kCallA (ok_laws_markName _ _ (by first | assumption | omega | solve_by_elim [List.getElem_mem] | (simp only [szOut] at *; omega)) (by first | assumption | omega | solve_by_elim [List.getElem_mem] | (simp only [szOut] at *; omega)) (by first | assumption | omega | solve_by_elim [List.getElem_mem] | (simp only [szOut] at *; omega))) ⟨⟨⟨⟨_, rfl, .inl rfl⟩, trivial⟩, Nat.le_of_ble_eq_true rfl⟩, rfl, trivial⟩ rfl rfl rfl rfl (kMovC rfl (kDone (kSeq (kSeq (kReg (kMovC rfl (kBin rfl rfl rfl (kMovC rfl (kGT rfl (kLoadP rfl rfl rfl (kMem [(28672, ⟨1, 0, .box [.arr 106496 1, .arr 106497 1]⟩), (139264, ⟨1, 0, .arr true _⟩), (139265, ⟨1, 0, .arr true _⟩), (106496, ⟨1, 0, .arr true _⟩), (106497, ⟨1, 0, .arr true _⟩)] [(6, .c (.ptr 28672 1 0)), (56, .g [.arr 139264 1, .arr 139265 1]), (57, .c (.un)), (58, .c (.un)), (55, .c (.d _)), (59, .c (.un)), (60, .c (.un)), (10, .c (.d _)), (7, .c (.d _)), (62, .c (.un)), (63, .c (.un)), (61, .c (.un)), (64, .c (.un))] [] ⟨rfl, rfl, rfl, rfl, rfl, trivial⟩ ⟨rfl, rfl, rfl, rfl, rfl, rfl, rfl, rfl, rfl, rfl, rfl, rfl, rfl, trivial⟩ rfl (kGT rfl (kLoadP rfl rfl rfl (kGT rfl (kCallD (ok_laws_eqZone _ _ (by first | assumption | omega | solve_by_elim [List.getElem_mem] | (simp only [szOut] at *; omega))) ⟨⟨⟨rfl, rfl, trivial⟩, Nat.le_of_ble_eq_true rfl⟩, ⟨⟨rfl, rfl, trivial⟩, Nat.le_of_ble_eq_true rfl⟩, trivial⟩ rfl rfl rfl rfl rfl (kGT rfl (kUn rfl rfl (kPickF rfl (kMovC rfl (kMovC rfl (kGN rfl (fun g3 => (by (simp at g3))) (fun g3 => kGT rfl (kMovC rfl (kGT rfl (kMovC rfl (kGT rfl (kBeq rfl rfl (kPickF rfl (kMovC rfl (kDone (kCondN rfl (fun g4 => (by (simp at g4))) (fun g4 => kSkip (kSeq (kReg (kMovC rfl (kDone (kSeq (kReg (kMem [(40960, ⟨1, 0, .box [.arr 139264 1, .arr 139265 1]⟩), (139264, ⟨1, 0, .arr true _⟩), (139265, ⟨1, 0, .arr true _⟩)] [(9, .c (.ptr 40960 1 0)), (12, .c (.d _)), (66, .c (.un)), (67, .c (.un)), (68, .c (.un))] [] ⟨rfl, rfl, rfl, trivial⟩ ⟨rfl, rfl, rfl, rfl, rfl, trivial⟩ rfl (kLoadP rfl rfl rfl (kMovC rfl (kCallM (ok_laws_markZone _ _ (by first | assumption | omega | solve_by_elim [List.getElem_mem] | (simp only [szOut] at *; omega)) (by first | assumption | omega | solve_by_elim [List.getElem_mem] | (simp only [szOut] at *; omega)) (by first | assumption | omega | solve_by_elim [List.getElem_mem] | (simp only [szOut] at *; omega))) ⟨⟨⟨⟨_, rfl, .inl rfl⟩, ⟨_, rfl, .inl rfl⟩, trivial⟩, Nat.le_of_ble_eq_true rfl⟩, rfl, trivial⟩ rfl rfl rfl (kMovC rfl (kDone (kSeq (kReg (kMovC rfl (kDone (kSeq (kReg (kLoadP rfl rfl rfl (kMovC rfl (kCallD (ok_laws_heldZone _ _ (by first | assumption | omega | solve_by_elim [List.getElem_mem] | (simp only [szOut] at *; omega)) (by first | assumption | omega | solve_by_elim [List.getElem_mem] | (simp only [szOut] at *; omega)) (by first | assumption | omega | solve_by_elim [List.getElem_mem] | (simp only [szOut] at *; omega))) ⟨⟨⟨rfl, rfl, trivial⟩, Nat.le_of_ble_eq_true rfl⟩, rfl, trivial⟩ rfl rfl rfl rfl rfl (kMovC rfl (kDone (kSeq (kSeq (kReg (kMovC rfl (kBin rfl rfl rfl (kDone (kCondF rfl (kSkip (kSeq (kSeq (kReg (kMovC rfl (kMovC rfl (kBin rfl rfl rfl (kDone (kCondIN rfl (fun g5 => (by omega)) (fun g5 => kSkip (kSeq (kReg (kMem [(12288, ⟨1, 0, .box [.d _]⟩)] [(2, .c (.ptr 12288 1 0)), (78, .c (.un)), (1, .c (.d _)), (79, .c (.un)), (80, .c (.un)), (81, .c (.un)), (77, .c (.un)), (14, .c (.un)), (82, .c (.un)), (83, .c (.un))] [] ⟨rfl, trivial⟩ ⟨rfl, rfl, rfl, rfl, rfl, rfl, rfl, rfl, rfl, rfl, trivial⟩ rfl (kLoadP rfl rfl rfl (kCall1 true (ok_laws_toName _ (by first | assumption | omega | solve_by_elim [List.getElem_mem] | (simp only [szOut] at *; omega)) (by first | assumption | omega | solve_by_elim [List.getElem_mem] | (simp only [szOut] at *; omega))) ⟨⟨⟨rfl, trivial⟩, Nat.le_of_ble_eq_true rfl⟩, trivial⟩ rfl rfl rfl (fun _ => (kMovC rfl (kCall1 true (ok_impl_ZoneNew _ _ (by first | assumption | omega | solve_by_elim [List.getElem_mem] | (simp only [szOut] at *; omega))) ⟨⟨⟨rfl, trivial⟩, Nat.le_of_ble_eq_true rfl⟩, rfl, trivial⟩ rfl rfl rfl (fun _ => (kMovT rfl (kExtC rfl rfl (kExtC rfl rfl (kAlloc rfl rfl (kMem [(61440, ⟨1, 0, .box [.nil 1, .nil 7]⟩), (335872, ⟨1, 0, .arr true _⟩), (335873, ⟨1, 0, .arr true _⟩)] [(14, .c (.ptr 61440 1 0)), (82, .g [.arr 335872 1, .arr 335873 1]), (83, .c (.d _))] [] ⟨rfl, rfl, rfl, trivial⟩ ⟨rfl, rfl, rfl, trivial⟩ rfl (kStoreP rfl rfl rfl rfl (kMovC rfl (kDone (kSeq (kSeq (kReg (kLoadP rfl rfl rfl (kLoadP rfl rfl rfl (kCallD (ok_laws_eqZone _ _ (by first | assumption | omega | solve_by_elim [List.getElem_mem] | (simp only [szOut] at *; omega))) ⟨⟨⟨rfl, rfl, trivial⟩, Nat.le_of_ble_eq_true rfl⟩, ⟨⟨rfl, rfl, trivial⟩, Nat.le_of_ble_eq_true rfl⟩, trivial⟩ rfl rfl rfl rfl rfl (kUn rfl rfl (kMovC rfl (kGN rfl (fun g6 => (by (simp at g6))) (fun g6 => kGT rfl (kMovC rfl (kGT rfl (kMovC rfl (kGT rfl (kBeq rfl rfl (kPickF rfl (kMovC rfl (kDone (kCondN rfl (fun g7 => (by (simp at g7))) (fun g7 => kSkip (kSeq (kReg (kMovC rfl (kDone (kSeq (kReg (kMem [(40960, ⟨1, 0, .box [.arr 139264 1, .arr 139265 1]⟩), (139264, ⟨1, 1, .arr true _⟩), (139265, ⟨1, 1, .arr true _⟩)] [(9, .c (.ptr 40960 1 0)), (13, .c (.d _)), (93, .c (.un)), (94, .c (.un)), (95, .c (.un))] [] ⟨rfl, rfl, rfl, trivial⟩ ⟨rfl, rfl, rfl, rfl, rfl, trivial⟩ rfl (kLoadP rfl rfl rfl (kMovC rfl (kCallD (ok_laws_heldZone _ _ (by first | assumption | omega | solve_by_elim [List.getElem_mem] | (simp only [szOut] at *; omega)) (by first | assumption | omega | solve_by_elim [List.getElem_mem] | (simp only [szOut] at *; omega)) (by first | assumption | omega | solve_by_elim [List.getElem_mem] | (simp only [szOut] at *; omega))) ⟨⟨⟨rfl, rfl, trivial⟩, Nat.le_of_ble_eq_true rfl⟩, rfl, trivial⟩ rfl rfl rfl rfl rfl (kMovC rfl (kDone (kSeq (kSeq (kReg (kMovC rfl (kBin rfl rfl rfl (kDone (kCondF rfl (kSkip (kSeq (kSeq (kReg (kMovC rfl (kMovC rfl (kBin rfl rfl rfl (kDone (kCondIN rfl (fun g8 => (by omega)) (fun g8 => kSkip (kSeq (kReg (kMovC rfl (kDone (kRet (endRetA (ra := [.one (.d _)]) rfl rfl)))))))))))))))))))))))))))))))))))))))))))))))))))))))))))))))))))))))))))))))))))))))))))))))))))))))))))))))))))))))))))))))))))))))))))))))))))))))))))))))))))))))))))))))))))))))))))))))))))))))))))))))))))))))))))))))))


end Go.Proofs.Ytcjbflgooaddgaa.FnExactZoneNewFn
