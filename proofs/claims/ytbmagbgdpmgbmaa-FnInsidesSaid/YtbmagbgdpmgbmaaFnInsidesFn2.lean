/- What the functions that FnInsides reaches compute, one contract each; each with the bounds that it states. -/
import Derived.Test.YtbmagbgdpmgbmaaFnInsidesFn1
import Derived.Test.YtbmagbgdpmgbmaaProg
import Derived.KernelRfl
set_option maxRecDepth 100000
set_option maxHeartbeats 8000000
set_option linter.unusedVariables false
set_option linter.unusedSimpArgs false
namespace Go.Proofs.Ytbmagbgdpmgbmaa.FnInsidesFn
open Go Hearth Go.Proofs

def c_impl_Rr_copied : C := (.seq (.reg false (.op 0 [] (some 1) none false (.box 1 (.t 0))
  (.op 1 [] (some 2) none false (.alloc 2 [(.n 1), (.v (.int .i64 0)), (.v (.int .i64 0)), (.v (.int .i64 0)), (.n 1), (.n 1), (.n 1)])
  .done)))
 (.seq (.reg true (.op 0 [] (some 3) none true (.fad (.t 1) 0)
  (.op 1 [] (some 4) none true (.load (some 1) (.t 3))
  (.op 3 [] (some 6) none true (.fad (.t 1) 4)
  (.op 4 [] (some 7) none true (.load (some 1) (.t 6))
  (.op 6 [] (some 9) none true (.fad (.t 1) 5)
  (.op 7 [] (some 10) none true (.load none (.t 9))
  (.op 9 [] (some 12) none true (.fad (.t 1) 6)
  (.op 10 [] (some 13) none true (.load none (.t 12))
  (.op 2 [1] (some 5) none false (.call 5 63 [(.t 4)])
  (.op 12 [] (some 15) none true (.fad (.t 1) 0)
  (.op 5 [4, 1] (some 8) none false (.call 8 63 [(.t 7)])
  (.op 8 [7, 4, 1] (some 11) none false (.call 11 64 [(.t 10)])
  (.op 11 [10, 7, 4, 1] (some 14) none false (.call 14 65 [(.t 13)])
  (.op 13 [1, 4, 7, 10] none none false (.store (some 1) (.t 15) (.t 5))
  (.op 14 [] (some 16) none true (.fad (.t 1) 4)
  (.op 15 [1, 4, 7, 10] none none false (.store (some 1) (.t 16) (.t 8))
  (.op 16 [] (some 17) none true (.fad (.t 1) 5)
  (.op 17 [1, 4, 7, 10] none none false (.store none (.t 17) (.t 11))
  (.op 18 [] (some 18) none true (.fad (.t 1) 6)
  (.op 19 [1, 4, 7, 10] none none false (.store none (.t 18) (.t 14))
  .done)))))))))))))))))))))
 (.seq (.reg false (.op 0 [] (some 19) none false (.load (some 7) (.t 1))
  (.op 1 [] none none false (.store (some 7) (.t 2) (.t 19))
  .done)))
 .ret)))
theorem dg_impl_Rr_copied : Try.f35.body.bind (digC Try.prog Try.f35.ntmps []) = some c_impl_Rr_copied := by kernel_rfl
theorem rs_impl_Rr_copied : resSlots Try.prog Try.f35 = some [.m 2 (some 7)] := by kernel_rfl
theorem ok_impl_Rr_copied (r : Rr) (hs : SmallR r) :
    FnOK Try.prog 35 [.agg (r.cells.map .d)] (fun ra _ => ra = [.agg [.own true (encBB r.name), .d (.sc (.int .i64 r.ty)), .d (.sc (.int .i64 r.ttl)), .d (.sc (.int .i64 r.addr)), .own true (encBB r.to), .own true (encB r.text), .own true (encI r.nums)]]) := by
  refine FnOK.ofK Try.func35 (by kernel_rfl) dg_impl_Rr_copied rs_impl_Rr_copied rfl rfl ?_
  unfold c_impl_Rr_copied
  have n1 := hs.n.len
  have n2 := hs.n.mem
  have t1 := hs.t.len
  have t2 := hs.t.mem
  have x1 := hs.x
  have m1 := hs.m
  refine kSeq (kCut ⟨tabSl [(1, .c (.ptr (rid 1 0) 1 0)), (2, .c (.ptr (rid 2 0) 1 0))], obTab 1 [(rid 1 0, ⟨1, 0, .box (r.cells.map .d)⟩), (rid 2 0, ⟨1, 0, .box [.nil 1, .d (.sc (.int .i64 0)), .d (.sc (.int .i64 0)), .d (.sc (.int .i64 0)), .nil 1, .nil 1, .nil 1]⟩)], []⟩ ?_ (fun x hc => ?_))
  case refine_2 => refine kReg (kBox rfl rfl rfl rfl rfl (kAlloc rfl rfl (kDone (kMem [(8192, ⟨1, 0, .box [.d _, .d _, .d _, .d _, .d _, .d _, .d _]⟩), (12288, ⟨1, 0, .box [.nil 1, .d _, .d _, .d _, .nil 1, .nil 1, .nil 1]⟩)] [(1, .c (.ptr 8192 1 0)), (2, .c (.ptr 12288 1 0))] [] ⟨rfl, rfl, trivial⟩ ⟨rfl, rfl, trivial⟩ rfl (hc _ .normA)))))
  refine kSeq (kCut ⟨tabSl [(1, .c (.ptr (rid 1 0) 1 0)), (2, .c (.ptr (rid 2 0) 1 0))], obTab 1 [(rid 1 0, ⟨1, 0, .box [.arr (rid 5 0) 1, .d (.sc (.int .i64 r.ty)), .d (.sc (.int .i64 r.ttl)), .d (.sc (.int .i64 r.addr)), .arr (rid 8 0) 1, .arr (rid 11 0) 1, .arr (rid 14 0) 1]⟩), (rid 2 0, ⟨1, 0, .box [.nil 1, .d (.sc (.int .i64 0)), .d (.sc (.int .i64 0)), .d (.sc (.int .i64 0)), .nil 1, .nil 1, .nil 1]⟩), (rid 5 0, ⟨1, 0, .arr true (encBB r.name)⟩), (rid 8 0, ⟨1, 0, .arr true (encBB r.to)⟩), (rid 11 0, ⟨1, 0, .arr true (encB r.text)⟩), (rid 14 0, ⟨1, 0, .arr true (encI r.nums)⟩)], []⟩ ?_ (fun x hc => ?_))
  case refine_2 => refine kRegD (kFadP rfl rfl (kLoadP rfl rfl rfl (kFadP rfl rfl (kLoadP rfl rfl rfl (kFadP rfl rfl (kLoadP rfl rfl rfl (kFadP rfl rfl (kLoadP rfl rfl rfl (kMem [(8192, ⟨1, 0, .box [.d _, .d _, .d _, .d _, .d _, .d _, .d _]⟩)] [(4, .g [.d _]), (1, .c (.ptr 8192 1 0)), (7, .g [.d _]), (10, .c (.d _)), (13, .c (.d _))] [8192, 8192, 8192, 8192] ⟨rfl, trivial⟩ ⟨rfl, rfl, rfl, rfl, rfl, trivial⟩ rfl (kRelK rfl rfl (kCall1 true (ok_impl_Name_copied _ (by first | assumption | omega | solve_by_elim [List.getElem_mem] | (simp only [szOut] at *; omega)) (by first | assumption | omega | solve_by_elim [List.getElem_mem] | (simp only [szOut] at *; omega))) ⟨⟨⟨rfl, trivial⟩, Nat.le_of_ble_eq_true rfl⟩, trivial⟩ rfl rfl rfl (fun _ => (kFadP rfl rfl (kRelK rfl rfl (kCall1 true (ok_impl_Name_copied _ (by first | assumption | omega | solve_by_elim [List.getElem_mem] | (simp only [szOut] at *; omega)) (by first | assumption | omega | solve_by_elim [List.getElem_mem] | (simp only [szOut] at *; omega))) ⟨⟨⟨rfl, trivial⟩, Nat.le_of_ble_eq_true rfl⟩, trivial⟩ rfl rfl rfl (fun _ => (kRelK rfl rfl (kCall1 true (ok_bytes_Clone _ (by first | assumption | omega | solve_by_elim [List.getElem_mem] | (simp only [szOut] at *; omega))) ⟨rfl, trivial⟩ rfl rfl rfl (fun _ => (kRelF rfl rfl (kCall1 true (ok_slices_Clone_Lint_int _ (by first | assumption | omega | solve_by_elim [List.getElem_mem] | (simp only [szOut] at *; omega))) ⟨rfl, trivial⟩ rfl rfl rfl (fun _ => (kRelF rfl rfl (kStoreP rfl rfl rfl rfl (kFadP rfl rfl (kRelF rfl rfl (kStoreP rfl rfl rfl rfl (kFadP rfl rfl (kRelF rfl rfl (kStoreP rfl rfl rfl rfl (kFadP rfl rfl (kRelF rfl rfl (kStoreP rfl rfl rfl rfl (kDone (kH (kMem [(8192, ⟨1, 0, .box [.arr 24576 2, .d _, .d _, .d _, .arr 36864 2, .arr 49152 2, .arr 61440 2]⟩), (12288, ⟨1, 0, .box [.nil 1, .d _, .d _, .d _, .nil 1, .nil 1, .nil 1]⟩), (24576, ⟨2, 0, .arr true _⟩), (36864, ⟨2, 0, .arr true _⟩), (49152, ⟨2, 0, .arr true _⟩), (61440, ⟨2, 0, .arr true _⟩)] [(1, .c (.ptr 8192 1 0)), (2, .c (.ptr 12288 1 0))] [] ⟨rfl, rfl, rfl, rfl, rfl, rfl, trivial⟩ ⟨rfl, rfl, trivial⟩ rfl (hc _ .normA)))))))))))))))))))))))))))))))))))))
  refine kSeq (kCut ⟨tabSl [(2, .c (.ptr (rid 2 0) 1 0))], obTab 1 [(rid 2 0, ⟨1, 0, .box [.arr (rid 5 0) 1, .d (.sc (.int .i64 r.ty)), .d (.sc (.int .i64 r.ttl)), .d (.sc (.int .i64 r.addr)), .arr (rid 8 0) 1, .arr (rid 11 0) 1, .arr (rid 14 0) 1]⟩), (rid 5 0, ⟨1, 0, .arr true (encBB r.name)⟩), (rid 8 0, ⟨1, 0, .arr true (encBB r.to)⟩), (rid 11 0, ⟨1, 0, .arr true (encB r.text)⟩), (rid 14 0, ⟨1, 0, .arr true (encI r.nums)⟩)], []⟩ ?_ (fun x hc => ?_))
  case refine_2 => refine kReg (kLoadP rfl rfl rfl (kMem [(12288, ⟨1, 0, .box [.nil 1, .d _, .d _, .d _, .nil 1, .nil 1, .nil 1]⟩), (24576, ⟨1, 0, .arr true _⟩), (36864, ⟨1, 0, .arr true _⟩), (49152, ⟨1, 0, .arr true _⟩), (61440, ⟨1, 0, .arr true _⟩)] [(2, .c (.ptr 12288 1 0)), (19, .g [.arr 24576 1, .d _, .d _, .d _, .arr 36864 1, .arr 49152 1, .arr 61440 1])] [] ⟨rfl, rfl, rfl, rfl, rfl, trivial⟩ ⟨rfl, rfl, trivial⟩ rfl (kStoreP rfl rfl rfl rfl (kDone (kMem [(12288, ⟨1, 0, .box [.arr 24576 1, .d _, .d _, .d _, .arr 36864 1, .arr 49152 1, .arr 61440 1]⟩), (24576, ⟨1, 0, .arr true _⟩), (36864, ⟨1, 0, .arr true _⟩), (49152, ⟨1, 0, .arr true _⟩), (61440, ⟨1, 0, .arr true _⟩)] [(2, .c (.ptr 12288 1 0))] [] ⟨rfl, rfl, rfl, rfl, rfl, trivial⟩ ⟨rfl, trivial⟩ rfl (hc _ .normA))))))
  refine kMem [(12288, ⟨1, 0, .box [.arr 24576 1, .d _, .d _, .d _, .arr 36864 1, .arr 49152 1, .arr 61440 1]⟩), (24576, ⟨1, 0, .arr true _⟩), (36864, ⟨1, 0, .arr true _⟩), (49152, ⟨1, 0, .arr true _⟩), (61440, ⟨1, 0, .arr true _⟩)] [(2, .c (.ptr 12288 1 0))] [] ⟨rfl, rfl, rfl, rfl, rfl, trivial⟩ ⟨rfl, trivial⟩ rfl (kRet (endRetA (ra := [.agg [(.own true _), (.d _), (.d _), (.d _), (.own true _), (.own true _), (.own true _)]]) rfl rfl))

def c_impl_copyRrs : C := (.seq (.reg false (.op 0 [] (some 2) none false (.mov (.n 7))
  .done))
 (.seq (.reg false (.op 0 [] (some 6) none false (.lit 6 7 [(.n 1), (.v (.int .i64 0)), (.v (.int .i64 0)), (.v (.int .i64 0)), (.n 1), (.n 1), (.n 1)] 0 [])
  (.op 1 [] (some 3) none false (.mov (.t 6))
  .done)))
 (.seq (.seq (.reg false (.op 0 [] (some 7) none false (.mov (.t 0))
  (.op 1 [] (some 8) none false (.len (.t 7))
  (.op 2 [] (some 9) none false (.mov (.v (.int .i64 0)))
  .done))))
 (.block 0 (.loop (.seq (.reg false (.op 0 [] (some 10) none false (.bin .lss (.t 9) (.t 8))
  .done))
 (.seq (.cond (.t 10)
 .skip
 (.exit 0))
 (.seq (.block 1 (.seq (.reg false (.op 0 [] (some 11) none false (.iad 7 (.t 7) (.t 9))
  (.op 1 [] (some 12) none false (.load (some 7) (.t 11))
  (.op 2 [] (some 5) none false (.alloc 5 [(.n 1), (.v (.int .i64 0)), (.v (.int .i64 0)), (.v (.int .i64 0)), (.n 1), (.n 1), (.n 1)])
  (.op 3 [] none none false (.store (some 7) (.t 5) (.t 12))
  .done)))))
 (.reg false (.op 0 [] (some 13) none false (.mov (.t 3))
  (.op 1 [] (some 14) none false (.load (some 7) (.t 5))
  (.op 2 [] (some 15) none false (.call 15 35 [(.t 14)])
  (.op 3 [] (some 16) none false (.lit 16 7 [(.n 1), (.v (.int .i64 0)), (.v (.int .i64 0)), (.v (.int .i64 0)), (.n 1), (.n 1), (.n 1)] 1 [(0, 7, (.t 15))])
  (.op 4 [] (some 17) none false (.app 17 7 120 (.t 13) (.t 16))
  (.op 5 [] (some 3) none false (.mov (.t 17))
  .done)))))))))
 (.reg false (.op 0 [] (some 18) none false (.bin .add (.t 9) (.v (.int .i64 1)))
  (.op 1 [] (some 9) none false (.mov (.t 18))
  .done)))))))))
 (.seq (.reg false (.op 0 [] (some 19) none false (.mov (.t 3))
  (.op 1 [] (some 2) none false (.mov (.t 19))
  .done)))
 .ret))))
theorem dg_impl_copyRrs : Try.f17.body.bind (digC Try.prog Try.f17.ntmps []) = some c_impl_copyRrs := by kernel_rfl
theorem rs_impl_copyRrs : resSlots Try.prog Try.f17 = some [.s 2] := by kernel_rfl
theorem ok_impl_copyRrs (l : List Rr) (hs : SmallRs l) :
    FnOK Try.prog 17 [.one (.d (encR l))] (fun ra _ => ra = [.one (.own true (encR l))]) := by
  refine FnOK.ofK Try.func17 (by kernel_rfl) dg_impl_copyRrs rs_impl_copyRrs rfl rfl ?_
  unfold c_impl_copyRrs
  have h1 := hs.len
  refine kSeq (kReg (kMovC rfl (kDone (kSeq (kReg (kLit rfl rfl rfl rfl (kMovC rfl (kDone (kSeq (kSeq (kReg (kMovC rfl (kLenR rfl rfl (kMovC rfl (kDone (kBlock ?_))))))))))))))))
  refine kLoop (α := { i : Nat // i ≤ l.length }) (fun y => ⟨tabSl [(3, .c (.arr (rid 6 0) 1)), (7, .dv (encR l)), (8, .i l.length), (9, .i y.1)], obTab 1 [(rid 6 0, ⟨1, 0, .arr true (encR (l.take y.1))⟩)], []⟩) (fun y => l.length - y.1) ⟨0, by simp⟩ .normA ?_
  rintro ⟨i, hi⟩
  simp only
  have hlen : (l.take i).length = i := by simp; omega
  rcases Nat.lt_or_ge i l.length with hlt | hge
  · have hbi := hs.mem _ (List.getElem_mem hlt)
    refine kSeq (kReg (kBin rfl rfl rfl (kDone (kSeq (kCondP rfl (fun g0 => kSkip (kSeq (kBlock (kSeq (kReg (kIadR rfl rfl rfl (by omega) (kLoadD rfl rfl (kAlloc rfl rfl (kMem [(24576, ⟨2, 0, .box [.nil 1, .d _, .d _, .d _, .nil 1, .nil 1, .nil 1]⟩)] [(5, .c (.ptr 24576 2 0)), (12, .g [.d _, .d _, .d _, .d _, .d _, .d _, .d _])] [] ⟨rfl, trivial⟩ ⟨rfl, rfl, trivial⟩ rfl (kStoreP rfl rfl rfl rfl (kDone (kReg (kMovC rfl (kLoadP rfl rfl rfl (kCall1 true (ok_impl_Rr_copied _ (by first | assumption | omega | solve_by_elim [List.getElem_mem] | (simp only [szOut] at *; omega))) ⟨⟨⟨rfl, rfl, rfl, rfl, rfl, rfl, rfl, trivial⟩, Nat.le_of_ble_eq_true rfl⟩, trivial⟩ rfl rfl rfl (fun _ => (kLit rfl rfl rfl rfl (kAppRec rfl rfl rfl rfl rfl rfl rfl (by omega) (kMem [(28672, ⟨2, 0, .arr true _⟩)] [(17, .c (.arr 28672 2))] [] ⟨rfl, trivial⟩ ⟨rfl, trivial⟩ rfl (kMovC rfl (kDone (kBk (kReg (kAdd rfl rfl (by omega) (kMovC rfl (kDone ?_)))))))))))))))))))))))))) (fun g0 => (by omega)))))))
    exact kInv ⟨⟨i + 1, by omega⟩, by simp only; omega, .normA⟩
  · refine kSeq (kReg (kBin rfl rfl rfl (kDone (kSeq (kCondP rfl (fun g0 => (by omega)) (fun g0 => kExit (kExC (kExI (kExB (kSeq (kReg (kMovC rfl (kMovC rfl (kDone (kMem [(28672, ⟨1, 0, .arr true _⟩)] [(2, .c (.arr 28672 1))] [] ⟨rfl, trivial⟩ ⟨rfl, trivial⟩ rfl (kRet (endRetA (ra := [.one (.own true _)]) rfl ?_)))))))))))))))))
    rw [show i = l.length by omega, List.take_length]

def c_impl_Inside : C := (.seq (.reg false (.op 0 [] (some 3) none false (.box 3 (.t 1))
  (.op 1 [] (some 4) none false (.mov (.n 7))
  .done)))
 (.seq (.seq (.reg false (.op 0 [] (some 5) none false (.mov (.t 0))
  (.op 1 [] (some 6) none false (.call 6 15 [(.t 5)])
  (.op 2 [] (some 7) none false (.un .not (.t 6))
  (.op 3 [] (some 8) none false (.mov (.t 7))
  (.op 4 [] (some 9) (some (8, false)) false (.load (some 1) (.t 3))
  (.op 5 [] (some 10) (some (8, false)) false (.call 10 16 [(.t 9)])
  (.op 6 [] (some 11) (some (8, false)) false (.un .not (.t 10))
  (.op 7 [] (some 12) none false (.pick (.t 8) (.v (.bool true)) (.t 11))
  .done)))))))))
 (.cond (.t 12)
 (.seq (.reg false (.op 0 [] (some 4) none false (.mov (.n 7))
  .done))
 .ret)
 .skip))
 (.seq (.reg false (.op 0 [] (some 13) none false (.mov (.t 0))
  (.op 1 [] (some 14) none false (.load (some 1) (.t 3))
  (.op 2 [] (some 15) none false (.call 15 18 [(.t 13), (.t 14)])
  (.op 3 [] (some 16) none false (.call 16 17 [(.t 15)])
  (.op 4 [] (some 4) none false (.mov (.t 16))
  .done))))))
 .ret)))
theorem dg_impl_Inside : Try.f5.body.bind (digC Try.prog Try.f5.ntmps []) = some c_impl_Inside := by kernel_rfl
theorem rs_impl_Inside : resSlots Try.prog Try.f5 = some [.s 4] := by kernel_rfl
theorem ok_impl_Inside (l : List Rr) (z : List (List UInt8)) (hs : SmallRs l) (hz : z.length ≤ 4194304) (hz' : ∀ b ∈ z, b.length ≤ 4194304) :
    FnOK Try.prog 5 [.one (.d (encR l)), .agg [.d (encBB z)]] (fun ra _ => ra = [.one (.own true (encR (insideN l z)))]) := by
  refine FnOK.ofK Try.func5 (by kernel_rfl) dg_impl_Inside rs_impl_Inside rfl rfl ?_
  unfold c_impl_Inside
  have hs' : SmallRs (insideR l z) := ⟨Nat.le_trans (List.length_filter_le _ _) hs.len, fun r hr => hs.mem r ((List.mem_filter.1 hr).1)⟩
  have h1 := hs.len
  cases h : rrsOk l && nameOk z
  · rw [show insideN l z = [] by unfold insideN; rw [h]; rfl]
    refine kSeq (kReg (kBox rfl rfl rfl rfl rfl (kMovC rfl (kDone (kSeq (kSeq (kReg (kMovC rfl (kCallD (ok_impl_areRrs _ (by first | assumption | omega | solve_by_elim [List.getElem_mem] | (simp only [szOut] at *; omega))) ⟨rfl, trivial⟩ rfl rfl rfl rfl rfl (kUn rfl rfl (kMovC rfl (kGN rfl (fun g0 => kGF rfl (kGF rfl (kGF rfl (kPickT rfl (kMovC rfl (kDone (kCondT rfl (kSeq (kReg (kMovC rfl (kDone (kRet (endRetA (ra := [.one (.own true _)]) rfl rfl))))))))))))) (fun g0 => kGT rfl (kLoadP rfl rfl rfl (kGT rfl (kCallD (ok_impl_NameOk _ (by first | assumption | omega | solve_by_elim [List.getElem_mem] | (simp only [szOut] at *; omega)) (by first | assumption | omega | solve_by_elim [List.getElem_mem] | (simp only [szOut] at *; omega))) ⟨⟨⟨rfl, trivial⟩, Nat.le_of_ble_eq_true rfl⟩, trivial⟩ rfl rfl rfl rfl rfl (kGT rfl (kUn rfl rfl (kPickF rfl (kMovC rfl (kDone (kCondN rfl (fun g1 => kSeq (kReg (kMovC rfl (kDone (kRet (endRetA (ra := [.one (.own true _)]) rfl rfl)))))) (fun g1 => kSkip (kSeq (kReg (kMem [(16384, ⟨1, 0, .box [.d _]⟩)] [(0, .c (.d _)), (3, .c (.ptr 16384 1 0)), (13, .c (.un)), (14, .c (.un)), (15, .c (.un)), (16, .c (.un))] [] ⟨rfl, trivial⟩ ⟨rfl, rfl, rfl, rfl, rfl, rfl, trivial⟩ rfl (kMovC rfl (kLoadP rfl rfl rfl (kCallD2 (ok_impl_inside _ _ (by first | assumption | omega | solve_by_elim [List.getElem_mem] | (simp only [szOut] at *; omega)) (by first | assumption | omega | solve_by_elim [List.getElem_mem] | (simp only [szOut] at *; omega)) (by first | assumption | omega | solve_by_elim [List.getElem_mem] | (simp only [szOut] at *; omega))) ⟨rfl, ⟨⟨rfl, trivial⟩, Nat.le_of_ble_eq_true rfl⟩, trivial⟩ rfl rfl rfl rfl (kCall1 true (ok_impl_copyRrs _ (by first | assumption | omega | solve_by_elim [List.getElem_mem] | (simp only [szOut] at *; omega))) ⟨rfl, trivial⟩ rfl rfl rfl (fun _ => (kMovC rfl (kDone (kMem [(69632, ⟨1, 0, .arr true _⟩)] [(4, .c (.arr 69632 1))] [] ⟨rfl, trivial⟩ ⟨rfl, trivial⟩ rfl (kRet (endRetA (ra := [.one (.own true _)]) rfl ?_))))))))))))))))))))))))))))))))))))
    all_goals simp_all
  · rw [show insideN l z = insideR l z by unfold insideN; rw [h]; rfl]
    refine kSeq (kReg (kBox rfl rfl rfl rfl rfl (kMovC rfl (kDone (kSeq (kSeq (kReg (kMovC rfl (kCallD (ok_impl_areRrs _ (by first | assumption | omega | solve_by_elim [List.getElem_mem] | (simp only [szOut] at *; omega))) ⟨rfl, trivial⟩ rfl rfl rfl rfl rfl (kUn rfl rfl (kMovC rfl (kGN rfl (fun g0 => kGF rfl (kGF rfl (kGF rfl (kPickT rfl (kMovC rfl (kDone (kCondT rfl (kSeq (kReg (kMovC rfl (kDone (kRet (endRetA (ra := [.one (.own true _)]) rfl ?_))))))))))))) (fun g0 => kGT rfl (kLoadP rfl rfl rfl (kGT rfl (kCallD (ok_impl_NameOk _ (by first | assumption | omega | solve_by_elim [List.getElem_mem] | (simp only [szOut] at *; omega)) (by first | assumption | omega | solve_by_elim [List.getElem_mem] | (simp only [szOut] at *; omega))) ⟨⟨⟨rfl, trivial⟩, Nat.le_of_ble_eq_true rfl⟩, trivial⟩ rfl rfl rfl rfl rfl (kGT rfl (kUn rfl rfl (kPickF rfl (kMovC rfl (kDone (kCondN rfl (fun g1 => kSeq (kReg (kMovC rfl (kDone (kRet (endRetA (ra := [.one (.own true _)]) rfl ?_)))))) (fun g1 => kSkip (kSeq (kReg (kMem [(16384, ⟨1, 0, .box [.d _]⟩)] [(0, .c (.d _)), (3, .c (.ptr 16384 1 0)), (13, .c (.un)), (14, .c (.un)), (15, .c (.un)), (16, .c (.un))] [] ⟨rfl, trivial⟩ ⟨rfl, rfl, rfl, rfl, rfl, rfl, trivial⟩ rfl (kMovC rfl (kLoadP rfl rfl rfl (kCallD2 (ok_impl_inside _ _ (by first | assumption | omega | solve_by_elim [List.getElem_mem] | (simp only [szOut] at *; omega)) (by first | assumption | omega | solve_by_elim [List.getElem_mem] | (simp only [szOut] at *; omega)) (by first | assumption | omega | solve_by_elim [List.getElem_mem] | (simp only [szOut] at *; omega))) ⟨rfl, ⟨⟨rfl, trivial⟩, Nat.le_of_ble_eq_true rfl⟩, trivial⟩ rfl rfl rfl rfl (kCall1 true (ok_impl_copyRrs _ (by first | assumption | omega | solve_by_elim [List.getElem_mem] | (simp only [szOut] at *; omega))) ⟨rfl, trivial⟩ rfl rfl rfl (fun _ => (kMovC rfl (kDone (kMem [(69632, ⟨1, 0, .arr true _⟩)] [(4, .c (.arr 69632 1))] [] ⟨rfl, trivial⟩ ⟨rfl, trivial⟩ rfl (kRet (endRetA (ra := [.one (.own true _)]) rfl rfl))))))))))))))))))))))))))))))))))))
    all_goals simp_all

def c_laws_name : C := (.seq (.reg false (.op 0 [] (some 2) none false (.alloc 2 [(.n 1)])
  .done))
 (.seq (.reg false (.op 0 [] (some 6) none false (.mov (.t 0))
  (.op 1 [] (some 7) none false (.s2b (.t 6))
  (.op 2 [] (some 8) none false (.call 8 38 [(.t 7)])
  (.op 3 [] (some 5) none false (.mov (.t 8))
  (.op 4 [] (some 9) none false (.ext (.t 5) 0)
  (.op 5 [] (some 10) none false (.ext (.t 5) 1)
  (.op 6 [] (some 3) none false (.alloc 3 [(.n 1)])
  (.op 7 [] none none false (.store (some 1) (.t 3) (.t 9))
  (.op 8 [] (some 4) none false (.mov (.t 10))
  .done))))))))))
 (.seq (.reg false (.op 0 [] (some 11) none false (.load (some 1) (.t 3))
  (.op 1 [] none none false (.store (some 1) (.t 2) (.t 11))
  .done)))
 .ret)))
theorem dg_laws_name : Try.f20.body.bind (digC Try.prog Try.f20.ntmps []) = some c_laws_name := by kernel_rfl
theorem rs_laws_name : resSlots Try.prog Try.f20 = some [.m 2 (some 1)] := by kernel_rfl
theorem ok_laws_name (b : ByteArray) (hb : b.size ≤ 4194303) :
    FnOK Try.prog 20 [.one (.d (.sc (.string b)))] (fun ra _ => ra = [.agg [.own true (encBB (readN b.toList))]]) := by
  refine FnOK.ofK Try.func20 (by kernel_rfl) dg_laws_name rs_laws_name rfl rfl ?_
  unfold c_laws_name
  have h : b.toList.length ≤ 4194303 := by rw [bt_len]; exact hb
  refine kSeq (kReg (kAlloc rfl rfl (kDone (kSeq (kReg (kMovC rfl (kS2b rfl (by omega) (kCall1 true (ok_spec_NameRead _ (by first | assumption | omega | solve_by_elim [List.getElem_mem] | (simp only [szOut] at *; omega) | exact rfl | exact Nat.le_of_ble_eq_true rfl)) ⟨rfl, trivial⟩ rfl rfl rfl (fun _ => (kMovT rfl (kExtC rfl rfl (kExtC rfl rfl (kAlloc rfl rfl (kStoreP rfl rfl rfl rfl (kMovC rfl (kDone (kSeq (kReg (kMem [(16384, ⟨1, 0, .box [.arr 36864 1]⟩), (12288, ⟨1, 0, .box [.nil 1]⟩), (36864, ⟨1, 0, .arr true _⟩)] [(3, .c (.ptr 16384 1 0)), (2, .c (.ptr 12288 1 0)), (11, .c (.un))] [] ⟨rfl, rfl, rfl, trivial⟩ ⟨rfl, rfl, rfl, trivial⟩ rfl (kLoadP rfl rfl rfl (kStoreP rfl rfl rfl rfl (kDone (kMem [(12288, ⟨1, 0, .box [.arr 36864 1]⟩), (36864, ⟨1, 0, .arr true _⟩)] [(2, .c (.ptr 12288 1 0))] [] ⟨rfl, rfl, trivial⟩ ⟨rfl, trivial⟩ rfl (kRet (endRetA (ra := [.agg [(.own true _)]]) rfl rfl)))))))))))))))))))))))))

def c_impl_Under : C := (.seq (.reg false (.op 0 [] (some 2) none false (.box 2 (.t 0))
  (.op 1 [] (some 3) none false (.box 3 (.t 1))
  (.op 2 [] (some 4) none false (.mov (.v (.bool false)))
  .done))))
 (.seq (.reg false (.op 0 [] (some 5) none false (.load (some 1) (.t 2))
  (.op 1 [] (some 6) none false (.call 6 16 [(.t 5)])
  (.op 2 [] (some 7) none false (.mov (.t 6))
  (.op 3 [] (some 8) (some (7, true)) false (.load (some 1) (.t 3))
  (.op 4 [] (some 9) (some (7, true)) false (.call 9 16 [(.t 8)])
  (.op 5 [] (some 10) none false (.pick (.t 7) (.t 9) (.v (.bool false)))
  (.op 6 [] (some 11) none false (.mov (.t 10))
  (.op 7 [] (some 12) (some (11, true)) false (.load (some 1) (.t 2))
  (.op 8 [] (some 13) (some (11, true)) false (.load (some 1) (.t 3))
  (.op 9 [] (some 14) (some (11, true)) false (.call 14 23 [(.t 12), (.t 13)])
  (.op 10 [] (some 15) none false (.pick (.t 11) (.t 14) (.v (.bool false)))
  (.op 11 [] (some 4) none false (.mov (.t 15))
  .done)))))))))))))
 .ret))
theorem dg_impl_Under : Try.f7.body.bind (digC Try.prog Try.f7.ntmps []) = some c_impl_Under := by kernel_rfl
theorem rs_impl_Under : resSlots Try.prog Try.f7 = some [.s 4] := by kernel_rfl
theorem ok_impl_Under (n z : List (List UInt8)) (hn : n.length ≤ 4194304) (hz : z.length ≤ 4194304) (hn' : ∀ b ∈ n, b.length ≤ 4194304) (hz' : ∀ b ∈ z, b.length ≤ 4194304) :
    FnOK Try.prog 7 [.agg [.d (encBB n)], .agg [.d (encBB z)]] (fun ra _ => ra = [.one (.d (.sc (.bool (nameOk n && nameOk z && underN n z))))]) := by
  refine FnOK.ofK Try.func7 (by kernel_rfl) dg_impl_Under rs_impl_Under rfl rfl ?_
  unfold c_impl_Under
  refine kSeq (kReg (kBox rfl rfl rfl rfl rfl (kBox rfl rfl rfl rfl rfl (kMovC rfl (kDone (kSeq (kReg (kLoadP rfl rfl rfl (kCallD (ok_impl_NameOk _ (by first | assumption | omega | solve_by_elim [List.getElem_mem] | (simp only [szOut] at *; omega)) (by first | assumption | omega | solve_by_elim [List.getElem_mem] | (simp only [szOut] at *; omega))) ⟨⟨⟨rfl, trivial⟩, Nat.le_of_ble_eq_true rfl⟩, trivial⟩ rfl rfl rfl rfl rfl (kMovC rfl (kGS rfl (fun g0 => kGT rfl (kLoadP rfl rfl rfl (kGT rfl (kCallD (ok_impl_NameOk _ (by first | assumption | omega | solve_by_elim [List.getElem_mem] | (simp only [szOut] at *; omega)) (by first | assumption | omega | solve_by_elim [List.getElem_mem] | (simp only [szOut] at *; omega))) ⟨⟨⟨rfl, trivial⟩, Nat.le_of_ble_eq_true rfl⟩, trivial⟩ rfl rfl rfl rfl rfl (kPickT rfl (kMovC rfl (kMovC rfl (kGS rfl (fun g1 => kGT rfl (kLoadP rfl rfl rfl (kGT rfl (kLoadP rfl rfl rfl (kGT rfl (kCallD (ok_impl_Name_under _ _ (by first | assumption | omega | solve_by_elim [List.getElem_mem] | (simp only [szOut] at *; omega)) (by first | assumption | omega | solve_by_elim [List.getElem_mem] | (simp only [szOut] at *; omega))) ⟨⟨⟨rfl, trivial⟩, Nat.le_of_ble_eq_true rfl⟩, ⟨⟨rfl, trivial⟩, Nat.le_of_ble_eq_true rfl⟩, trivial⟩ rfl rfl rfl rfl rfl (kPickT rfl (kMovC rfl (kMovC rfl (kDone (kRet (endRetA (ra := [.one (.d _)]) rfl ?_)))))))))))) (fun g1 => kGF rfl (kGF rfl (kGF rfl (kPickF rfl (kMovC rfl (kMovC rfl (kDone (kRet (endRetA (ra := [.one (.d _)]) rfl ?_))))))))))))))))) (fun g0 => kGF rfl (kGF rfl (kPickF rfl (kMovC rfl (kMovC rfl (kGF rfl (kGF rfl (kGF rfl (kPickF rfl (kMovC rfl (kMovC rfl (kDone (kRet (endRetA (ra := [.one (.d _)]) rfl ?_)))))))))))))))))))))))))
  all_goals simp_all

def c_impl_all_int_1 : C := (.seq (.reg false (.op 0 [] (some 3) none false (.mov (.v (.bool false)))
  .done))
 (.seq (.reg false (.op 0 [] (some 4) none false (.load none (.t 1))
  (.op 1 [] (some 5) none false (.mov (.t 0))
  (.op 2 [] (some 6) none false (.callv 6 (.t 4) [(.t 5)])
  (.op 3 [] (some 7) none false (.un .not (.t 6))
  (.op 4 [] (some 3) none false (.mov (.t 7))
  .done))))))
 .ret))
theorem dg_impl_all_int_1 : Try.f82.body.bind (digC Try.prog Try.f82.ntmps []) = some c_impl_all_int_1 := by kernel_rfl
theorem rs_impl_all_int_1 : resSlots Try.prog Try.f82 = some [.s 3] := by kernel_rfl
theorem ok_impl_all_int_1 (x : DV) (D : DV → Prop) (g : DV → Bool) (hx : D x) :
    FnOK Try.prog 82 [.one (.d x), .one (.ptr [.fv false (fcPred D g)])] (fun ra _ => ra = [.one (.d (.sc (.bool (!g x))))]) := by
  refine FnOK.ofK Try.func82 (by kernel_rfl) dg_impl_all_int_1 rs_impl_all_int_1 rfl rfl ?_
  unfold c_impl_all_int_1
  refine kSeq (kReg (kMovC rfl (kDone ?_)))
  refine kSeq (kReg (kLoadC rfl rfl (kMovC rfl (kCallv rfl ⟨x, hx, rfl, rfl⟩ ⟨rfl, trivial⟩ (.inr ?_) rfl ?_ rfl ?_))))
  · rintro _ rfl; rfl
  · rintro _ rfl; exact Nat.le_of_ble_eq_true rfl
  rintro _ rfl
  refine kUn rfl rfl (kMovC rfl (kDone (kRet ?_)))
  exact endRet (ra := [.one (.d _)]) rfl ⟨⟨⟨rfl, .inl rfl⟩, trivial⟩, .nil, trivial, trivial, trivial⟩ rfl

def c_slices_IndexFunc_Lint_int : C := (.seq (.reg false (.op 0 [] (some 4) none false (.mov (.v (.int .i64 0)))
  .done))
 (.seq (.seq (.reg false (.op 0 [] (some 6) none false (.mov (.t 0))
  (.op 1 [] (some 7) none false (.len (.t 6))
  (.op 2 [] (some 8) none false (.mov (.v (.int .i64 0)))
  .done))))
 (.block 0 (.loop (.seq (.reg false (.op 0 [] (some 9) none false (.bin .lss (.t 8) (.t 7))
  .done))
 (.seq (.cond (.t 9)
 .skip
 (.exit 0))
 (.seq (.block 1 (.seq (.reg false (.op 0 [] (some 10) none false (.mov (.t 8))
  (.op 1 [] (some 5) none false (.mov (.t 10))
  .done)))
 (.seq (.reg false (.op 0 [] (some 11) none false (.mov (.t 1))
  (.op 1 [] (some 12) none false (.mov (.t 0))
  (.op 2 [] (some 13) none false (.mov (.t 5))
  (.op 3 [] (some 14) none false (.iad 1 (.t 12) (.t 13))
  (.op 4 [] (some 15) none false (.load none (.t 14))
  (.op 5 [] (some 16) none false (.callv 16 (.t 11) [(.t 15)])
  .done)))))))
 (.cond (.t 16)
 (.seq (.reg false (.op 0 [] (some 17) none false (.mov (.t 5))
  (.op 1 [] (some 4) none false (.mov (.t 17))
  .done)))
 .ret)
 .skip))))
 (.reg false (.op 0 [] (some 18) none false (.bin .add (.t 8) (.v (.int .i64 1)))
  (.op 1 [] (some 8) none false (.mov (.t 18))
  .done)))))))))
 (.seq (.reg false (.op 0 [] (some 4) none false (.mov (.v (.int .i64 (-1))))
  .done))
 .ret)))
theorem dg_slices_IndexFunc_Lint_int : Try.f83.body.bind (digC Try.prog Try.f83.ntmps []) = some c_slices_IndexFunc_Lint_int := by kernel_rfl
theorem rs_slices_IndexFunc_Lint_int : resSlots Try.prog Try.f83 = some [.s 4] := by kernel_rfl
theorem ok_slices_IndexFunc_Lint_int (l : List DV) (D : DV → Prop) (g : DV → Bool) (hl : (l.length : Int) ≤ 9223372036854775807) (hD : ∀ x ∈ l, D x) :
    FnOK Try.prog 83 [.one (.d (lst l)), .one (.fv false (fcPred D g))] (fun ra _ => ra = [.one (.d (.sc (.int .i64 (idxF g l))))]) := by
  refine FnOK.ofK Try.func83 (by kernel_rfl) dg_slices_IndexFunc_Lint_int rs_slices_IndexFunc_Lint_int rfl rfl ?_
  unfold c_slices_IndexFunc_Lint_int
  refine kSeq (kReg (kMovC rfl (kDone ?_)))
  refine kSeq (kSeq (kReg (kMovC rfl (kLen rfl rfl rfl (kMovC rfl (kDone (kBlock ?_)))))))
  rw [len_lst]
  refine kLoop (α := { i : Nat // i ≤ l.length ∧ ∀ x ∈ l.take i, g x = false })
    (fun y => ⟨tabSl [(0, .dv (lst l)), (1, .c (.fv false (fcPred D g))), (7, .i l.length), (8, .i y.1)], (St.init [.one (.d (lst l)), .one (.fv false (fcPred D g))]).ob, []⟩) (fun y => l.length - y.1) ⟨0, by simp⟩
    (.tab rfl ⟨.refl _, .refl _, .refl _, .refl _, trivial⟩) ?_
  rintro ⟨i, hi, hg⟩
  simp only
  refine kSeq (kReg (kBin rfl rfl rfl (kDone ?_)))
  refine kSeq (kCond rfl (fun h1 => ?_) (fun h1 => ?_))
  · have hlt : i < l.length := by simp at h1; omega
    refine kSkip (kSeq (kBlock (kSeq (kReg (kMovC rfl (kMovC rfl (kDone ?_)))))))
    refine kSeq (kReg (kMovC rfl (kMovC rfl (kMovC rfl (kIadD rfl rfl rfl rfl ?_ ?_)))))
    · rw [len_lst]; omega
    rw [show (lst l).row (i : Int).toNat = [l[i]] from row_lst l i hlt]
    refine kLoadD rfl rfl (kCallv rfl ⟨l[i], hD _ (List.getElem_mem hlt), rfl, rfl⟩ ⟨rfl, trivial⟩ (.inr ?_) rfl ?_ rfl ?_)
    · rintro _ rfl; rfl
    · rintro _ rfl; exact Nat.le_of_ble_eq_true rfl
    rintro _ rfl
    refine kDone (kCond rfl (fun h2 => ?_) (fun h2 => ?_))
    · refine kSeq (kReg (kMovC rfl (kMovC rfl (kDone (kRet ?_)))))
      refine endRet (ra := [.one (.d _)]) rfl ⟨⟨⟨rfl, .inl rfl⟩, trivial⟩, .nil, trivial, trivial, trivial⟩ ?_
      have : l.findIdx? g = some i := by
        rw [List.findIdx?_eq_some_iff_getElem]
        refine ⟨hlt, h2, fun j hj => ?_⟩
        simpa using hg _ (by rw [List.mem_take_iff_getElem]; exact ⟨j, by omega, rfl⟩)
      simp [idxF, this]
    · refine kSkip (kBk (kReg (kAdd rfl rfl ?_ (kMovC rfl (kDone (kInv ?_))))))
      · omega
      refine ⟨⟨i + 1, hlt, ?_⟩, by simp only; omega, .tab rfl ⟨.refl _, .refl _, .refl _, .refl _, trivial⟩⟩
      intro x hx
      rw [← List.take_append_getElem hlt, List.mem_append] at hx
      rcases hx with hx | hx
      · exact hg x hx
      · simp at hx; rw [hx]; exact h2
  · refine kExit (kExC (kExI (kExB ?_)))
    have hge : i = l.length := by simp at h1; omega
    refine kSeq (kReg (kMovC rfl (kDone (kRet ?_))))
    refine endRet (ra := [.one (.d _)]) rfl ⟨⟨⟨rfl, .inl rfl⟩, trivial⟩, .nil, trivial, trivial, trivial⟩ ?_
    have : l.findIdx? g = none := by
      rw [List.findIdx?_eq_none_iff]
      intro x hx
      rw [hge, List.take_length] at hg
      exact hg x hx
    simp [idxF, this]

def c_slices_ContainsFunc_Lint_int : C := (.seq (.reg false (.op 0 [] (some 4) none false (.mov (.v (.bool false)))
  .done))
 (.seq (.reg false (.op 0 [] (some 5) none false (.mov (.t 0))
  (.op 1 [] (some 6) none false (.mov (.t 1))
  (.op 2 [] (some 7) none false (.call 7 83 [(.t 5), (.t 6)])
  (.op 3 [] (some 8) none false (.bin .geq (.t 7) (.v (.int .i64 0)))
  (.op 4 [] (some 4) none false (.mov (.t 8))
  .done))))))
 .ret))
theorem dg_slices_ContainsFunc_Lint_int : Try.f81.body.bind (digC Try.prog Try.f81.ntmps []) = some c_slices_ContainsFunc_Lint_int := by kernel_rfl
theorem rs_slices_ContainsFunc_Lint_int : resSlots Try.prog Try.f81 = some [.s 4] := by kernel_rfl
theorem ok_slices_ContainsFunc_Lint_int (l : List DV) (D : DV → Prop) (g : DV → Bool) (hl : (l.length : Int) ≤ 9223372036854775807) (hD : ∀ x ∈ l, D x) :
    FnOK Try.prog 81 [.one (.d (lst l)), .one (.fv false (fcPred D g))] (fun ra _ => ra = [.one (.d (.sc (.bool (l.any g))))]) := by
  refine FnOK.ofK Try.func81 (by kernel_rfl) dg_slices_ContainsFunc_Lint_int rs_slices_ContainsFunc_Lint_int rfl rfl ?_
  unfold c_slices_ContainsFunc_Lint_int
  refine kSeq (kReg (kMovC rfl (kDone ?_)))
  refine kSeq (kReg (kMovC rfl (kMovC rfl ?_)))
  refine kCall1 true (ok_slices_IndexFunc_Lint_int l D g hl hD) ⟨rfl, ⟨fun h => h, fun _ _ h => h⟩, trivial⟩ rfl rfl rfl fun os => ?_
  refine kBin rfl rfl rfl (kMovC rfl (kDone (kRet ?_)))
  refine endRet (ra := [.one (.d _)]) rfl ⟨⟨⟨rfl, .inl rfl⟩, trivial⟩, .nil, trivial, trivial, trivial⟩ ?_
  have : decide (idxF g l ≥ 0) = l.any g := by
    unfold idxF
    cases h : l.findIdx? g with
    | none =>
      rw [List.findIdx?_eq_none_iff] at h
      have : l.any g = false := by rw [List.any_eq_false]; intro x hx; simp [h x hx]
      rw [this]; rfl
    | some i =>
      rw [List.findIdx?_eq_some_iff_getElem] at h
      obtain ⟨h1, h2, _⟩ := h
      have : l.any g = true := by rw [List.any_eq_true]; exact ⟨_, List.getElem_mem h1, h2⟩
      rw [this]; simp
  rw [this]

def c_impl_all_int : C := (.seq (.reg false (.op 0 [] (some 3) none false (.box 3 (.t 1))
  (.op 1 [] (some 4) none false (.mov (.v (.bool false)))
  .done)))
 (.seq (.reg false (.op 0 [] (some 5) none false (.mov (.t 0))
  (.op 1 [] (some 6) none false (.clo 82 [] [(.t 3)])
  (.op 2 [] (some 7) none false (.call 7 81 [(.t 5), (.t 6)])
  (.op 3 [] (some 8) none false (.un .not (.t 7))
  (.op 4 [] (some 4) none false (.mov (.t 8))
  .done))))))
 .ret))
theorem dg_impl_all_int : Try.f79.body.bind (digC Try.prog Try.f79.ntmps []) = some c_impl_all_int := by kernel_rfl
theorem rs_impl_all_int : resSlots Try.prog Try.f79 = some [.s 4] := by kernel_rfl
theorem ok_impl_all_int (l : List DV) (D : DV → Prop) (g : DV → Bool) (hl : (l.length : Int) ≤ 9223372036854775807) (hD : ∀ x ∈ l, D x) :
    FnOK Try.prog 79 [.one (.d (lst l)), .one (.fv false (fcPred D g))] (fun ra _ => ra = [.one (.d (.sc (.bool (l.all g))))]) := by
  refine FnOK.ofK Try.func79 (by kernel_rfl) dg_impl_all_int rs_impl_all_int rfl rfl ?_
  unfold c_impl_all_int
  refine kSeq (kReg (kBox rfl rfl rfl rfl rfl (kMovC rfl (kDone ?_))))
  refine kSeq (kReg (kMovC rfl (kClo rfl rfl ?_)))
  refine kCall1 true (ok_slices_ContainsFunc_Lint_int l D (fun x => !g x) hl hD) ⟨rfl, ⟨rfl, ⟨_, Try.func82, rfl, by kernel_rfl⟩, _, rfl, ?_⟩, trivial⟩ rfl rfl rfl fun os => ?_
  · rintro l R ⟨x, hx, rfl, rfl⟩
    exact ⟨by rintro _ rfl; rfl, ok_impl_all_int_1 x D g hx⟩
  refine kUn rfl rfl (kMovC rfl (kDone (kRet ?_)))
  refine endRet (ra := [.one (.d _)]) rfl ⟨⟨⟨rfl, .inl rfl⟩, trivial⟩, .nil, trivial, trivial, trivial⟩ ?_
  simp [List.all_eq_not_any_not]

def c_impl_areServers : C := (.seq (.reg false (.op 0 [] (some 2) none false (.mov (.v (.bool false)))
  .done))
 (.seq (.reg false (.op 0 [] (some 3) none false (.mov (.t 0))
  (.op 1 [] (some 4) none false (.len (.t 3))
  (.op 2 [] (some 5) none false (.call 5 55 [(.t 4), (.v (.int .i64 1)), (.v (.int .i64 4))])
  (.op 3 [] (some 6) none false (.mov (.t 5))
  (.op 4 [] (some 7) (some (6, true)) false (.mov (.t 0))
  (.op 5 [] (some 8) (some (6, true)) false (.call 8 79 [(.t 7), (.fn 56)])
  (.op 6 [] (some 9) none false (.pick (.t 6) (.t 8) (.v (.bool false)))
  (.op 7 [] (some 2) none false (.mov (.t 9))
  .done)))))))))
 .ret))
theorem dg_impl_areServers : Try.f66.body.bind (digC Try.prog Try.f66.ntmps []) = some c_impl_areServers := by kernel_rfl
theorem rs_impl_areServers : resSlots Try.prog Try.f66 = some [.s 2] := by kernel_rfl
theorem ok_impl_areServers (l : List Int) (h : l.length ≤ 4194304) :
    FnOK Try.prog 66 [.one (.d (encI l))] (fun ra _ => ra = [.one (.d (.sc (.bool (ipsOk l))))]) := by
  refine FnOK.ofK Try.func66 (by kernel_rfl) dg_impl_areServers rs_impl_areServers rfl rfl ?_
  unfold c_impl_areServers
  refine kSeq (kReg (kMovC rfl (kDone (kSeq (kReg (kMovC rfl (kLenR rfl rfl (kCallD (ok_impl_within _ _ _) ⟨rfl, rfl, rfl, trivial⟩ rfl rfl rfl rfl rfl (kMovC rfl (kGP rfl (fun g0 => kGT rfl (kMovC rfl (kGT rfl ?_))) (fun g0 => kGF rfl (kGF rfl (kPickF rfl (kMovC rfl (kMovC rfl (kDone (kRet (endRetA (ra := [.one (.d _)]) rfl ?_))))))))))))))))))
  · refine kCallD (ok_impl_all_int (l.map fun n => .sc (.int .i64 n)) isI (fun x => isW (decI x)) (by simp; omega) (fun x hx => by obtain ⟨c, _, rfl⟩ := List.mem_map.1 hx; exact ⟨c, rfl⟩)) ⟨congrArg some (encI_lst l), ⟨rfl, rfl, ⟨_, Try.func56, rfl, by kernel_rfl⟩, ?_⟩, trivial⟩ rfl rfl rfl rfl rfl ?_
    · rintro _ R ⟨x, ⟨c, rfl⟩, rfl, rfl⟩
      exact ok_impl_isWord c
    refine kPickT rfl (kMovC rfl (kMovC rfl (kDone (kRet (endRetA (ra := [.one (.d _)]) rfl ?_)))))
    rw [all_decI, show ipsOk l = l.all isW by simp only [ipsOk]; rw [decide_eq_true (by omega)]; rfl]
  · rw [show ipsOk l = false by simp only [ipsOk]; rw [decide_eq_false (by omega)]; rfl]

def c_impl_isCode : C := (.seq (.reg false (.op 0 [] (some 2) none false (.mov (.v (.bool false)))
  .done))
 (.seq (.reg false (.op 0 [] (some 3) none false (.mov (.t 0))
  (.op 1 [] (some 4) none false (.call 4 55 [(.t 3), (.v (.int .i64 0)), (.v (.int .i64 10))])
  (.op 2 [] (some 2) none false (.mov (.t 4))
  .done))))
 .ret))
theorem dg_impl_isCode : Try.f67.body.bind (digC Try.prog Try.f67.ntmps []) = some c_impl_isCode := by kernel_rfl
theorem rs_impl_isCode : resSlots Try.prog Try.f67 = some [.s 2] := by kernel_rfl
theorem ok_impl_isCode (n : Int) : FnOK Try.prog 67 [.one (.d (.sc (.int .i64 n)))] (fun ra _ => ra = [.one (.d (.sc (.bool (decide (0 ≤ n) && decide (n ≤ 10)))))]) := by
  refine FnOK.ofK Try.func67 (by kernel_rfl) dg_impl_isCode rs_impl_isCode rfl rfl ?_
  unfold c_impl_isCode
  refine kSeq (kReg (kMovC rfl (kDone (kSeq (kReg (kMovC rfl (kCallD (ok_impl_within _ _ _) ⟨rfl, rfl, rfl, trivial⟩ rfl rfl rfl rfl rfl (kMovC rfl (kDone (kRet (endRetA (ra := [.one (.d _)]) rfl ?_)))))))))))
  rw [Bool.decide_and]

def c_impl_TaskOk : C := (.seq (.reg false (.op 0 [] (some 1) none false (.box 1 (.t 0))
  (.op 1 [] (some 2) none false (.mov (.v (.bool false)))
  .done)))
 (.seq (.seq (.reg false (.op 0 [] (some 3) none false (.fad (.t 1) 0)
  (.op 1 [] (some 4) none false (.load none (.t 3))
  (.op 2 [] (some 5) none false (.call 5 55 [(.t 4), (.v (.int .i64 0)), (.v (.int .i64 1))])
  (.op 3 [] (some 6) none false (.un .not (.t 5))
  (.op 4 [] (some 7) none false (.mov (.t 6))
  (.op 5 [] (some 8) (some (7, false)) false (.fad (.t 1) 1)
  (.op 6 [] (some 9) (some (7, false)) false (.load none (.t 8))
  (.op 7 [] (some 10) (some (7, false)) false (.call 10 55 [(.t 9), (.v (.int .i64 0)), (.v (.int .i64 65535))])
  (.op 8 [] (some 11) (some (7, false)) false (.un .not (.t 10))
  (.op 9 [] (some 12) none false (.pick (.t 7) (.v (.bool true)) (.t 11))
  (.op 10 [] (some 13) none false (.mov (.t 12))
  (.op 11 [] (some 14) (some (13, false)) false (.fad (.t 1) 2)
  (.op 12 [] (some 15) (some (13, false)) false (.fad (.t 14) 0)
  (.op 13 [] (some 16) (some (13, false)) false (.load (some 1) (.t 15))
  (.op 14 [] (some 17) (some (13, false)) false (.call 17 16 [(.t 16)])
  (.op 15 [] (some 18) (some (13, false)) false (.un .not (.t 17))
  (.op 16 [] (some 19) none false (.pick (.t 13) (.v (.bool true)) (.t 18))
  (.op 17 [] (some 20) none false (.mov (.t 19))
  (.op 18 [] (some 21) (some (20, false)) false (.fad (.t 1) 2)
  (.op 19 [] (some 22) (some (20, false)) false (.fad (.t 21) 1)
  (.op 20 [] (some 23) (some (20, false)) false (.load none (.t 22))
  (.op 21 [] (some 24) (some (20, false)) false (.call 24 54 [(.t 23)])
  (.op 22 [] (some 25) (some (20, false)) false (.un .not (.t 24))
  (.op 23 [] (some 26) none false (.pick (.t 20) (.v (.bool true)) (.t 25))
  (.op 24 [] (some 27) none false (.mov (.t 26))
  (.op 25 [] (some 28) (some (27, false)) false (.fad (.t 1) 4)
  (.op 26 [] (some 29) (some (27, false)) false (.load (some 1) (.t 28))
  (.op 27 [] (some 30) (some (27, false)) false (.fad (.t 1) 5)
  (.op 28 [] (some 31) (some (27, false)) false (.load (some 1) (.t 30))
  (.op 29 [] (some 32) (some (27, false)) false (.call 32 7 [(.t 29), (.t 31)])
  (.op 30 [] (some 33) (some (27, false)) false (.un .not (.t 32))
  (.op 31 [] (some 34) none false (.pick (.t 27) (.v (.bool true)) (.t 33))
  (.op 32 [] (some 35) none false (.mov (.t 34))
  (.op 33 [] (some 36) (some (35, false)) false (.fad (.t 1) 6)
  (.op 34 [] (some 37) (some (35, false)) false (.load none (.t 36))
  (.op 35 [] (some 38) (some (35, false)) false (.call 38 66 [(.t 37)])
  (.op 36 [] (some 39) (some (35, false)) false (.un .not (.t 38))
  (.op 37 [] (some 40) none false (.pick (.t 35) (.v (.bool true)) (.t 39))
  (.op 38 [] (some 41) none false (.mov (.t 40))
  (.op 39 [] (some 42) (some (41, false)) false (.fad (.t 1) 7)
  (.op 40 [] (some 43) (some (41, false)) false (.load none (.t 42))
  (.op 41 [] (some 44) (some (41, false)) false (.call 44 66 [(.t 43)])
  (.op 42 [] (some 45) (some (41, false)) false (.un .not (.t 44))
  (.op 43 [] (some 46) none false (.pick (.t 41) (.v (.bool true)) (.t 45))
  .done)))))))))))))))))))))))))))))))))))))))))))))
 (.cond (.t 46)
 (.seq (.reg false (.op 0 [] (some 2) none false (.mov (.v (.bool false)))
  .done))
 .ret)
 .skip))
 (.seq (.seq (.reg false (.op 0 [] (some 47) none false (.fad (.t 1) 8)
  (.op 1 [] (some 48) none false (.load none (.t 47))
  (.op 2 [] (some 49) none false (.fad (.t 1) 7)
  (.op 3 [] (some 50) none false (.load none (.t 49))
  (.op 4 [] (some 51) none false (.len (.t 50))
  (.op 5 [] (some 52) none false (.bin .sub (.t 51) (.v (.int .i64 1)))
  (.op 6 [] (some 53) none false (.call 53 55 [(.t 48), (.v (.int .i64 0)), (.t 52)])
  (.op 7 [] (some 54) none false (.un .not (.t 53))
  (.op 8 [] (some 55) none false (.mov (.t 54))
  (.op 9 [] (some 56) (some (55, false)) false (.fad (.t 1) 9)
  (.op 10 [] (some 57) (some (55, false)) false (.load none (.t 56))
  (.op 11 [] (some 58) (some (55, false)) false (.call 58 55 [(.t 57), (.v (.int .i64 0)), (.v (.int .i64 12))])
  (.op 12 [] (some 59) (some (55, false)) false (.un .not (.t 58))
  (.op 13 [] (some 60) none false (.pick (.t 55) (.v (.bool true)) (.t 59))
  (.op 14 [] (some 61) none false (.mov (.t 60))
  (.op 15 [] (some 62) (some (61, false)) false (.fad (.t 1) 10)
  (.op 16 [] (some 63) (some (61, false)) false (.load none (.t 62))
  (.op 17 [] (some 64) (some (61, false)) false (.call 64 55 [(.t 63), (.v (.int .i64 0)), (.v (.int .i64 6))])
  (.op 18 [] (some 65) (some (61, false)) false (.un .not (.t 64))
  (.op 19 [] (some 66) none false (.pick (.t 61) (.v (.bool true)) (.t 65))
  (.op 20 [] (some 67) none false (.mov (.t 66))
  (.op 21 [] (some 68) (some (67, false)) false (.fad (.t 1) 11)
  (.op 22 [] (some 69) (some (67, false)) false (.load none (.t 68))
  (.op 23 [] (some 70) (some (67, false)) false (.call 70 67 [(.t 69)])
  (.op 24 [] (some 71) (some (67, false)) false (.un .not (.t 70))
  (.op 25 [] (some 72) none false (.pick (.t 67) (.v (.bool true)) (.t 71))
  (.op 26 [] (some 73) none false (.mov (.t 72))
  (.op 27 [] (some 74) (some (73, false)) false (.fad (.t 1) 12)
  (.op 28 [] (some 75) (some (73, false)) false (.load none (.t 74))
  (.op 29 [] (some 76) (some (73, false)) false (.call 76 15 [(.t 75)])
  (.op 30 [] (some 77) (some (73, false)) false (.un .not (.t 76))
  (.op 31 [] (some 78) none false (.pick (.t 73) (.v (.bool true)) (.t 77))
  .done)))))))))))))))))))))))))))))))))
 (.cond (.t 78)
 (.seq (.reg false (.op 0 [] (some 2) none false (.mov (.v (.bool false)))
  .done))
 .ret)
 .skip))
 (.seq (.reg false (.op 0 [] (some 79) none false (.fad (.t 1) 0)
  (.op 1 [] (some 80) none false (.load none (.t 79))
  (.op 2 [] (some 81) none false (.bin .eql (.t 80) (.v (.int .i64 1)))
  (.op 3 [] (some 82) none false (.mov (.t 81))
  (.op 4 [] (some 83) (some (82, false)) false (.fad (.t 1) 11)
  (.op 5 [] (some 84) (some (82, false)) false (.load none (.t 83))
  (.op 6 [] (some 85) (some (82, false)) false (.bin .eql (.t 84) (.v (.int .i64 0)))
  (.op 7 [] (some 86) (some (82, false)) false (.mov (.t 85))
  (.op 8 [] (some 87) (some (86, true)) false (.fad (.t 1) 9)
  (.op 9 [] (some 88) (some (86, true)) false (.load none (.t 87))
  (.op 10 [] (some 89) (some (86, true)) false (.bin .lss (.t 88) (.v (.int .i64 12)))
  (.op 11 [] (some 90) (some (82, false)) false (.pick (.t 86) (.t 89) (.v (.bool false)))
  (.op 12 [] (some 91) (some (82, false)) false (.mov (.t 90))
  (.op 13 [] (some 92) (some (91, true)) false (.fad (.t 1) 10)
  (.op 14 [] (some 93) (some (91, true)) false (.load none (.t 92))
  (.op 15 [] (some 94) (some (91, true)) false (.bin .lss (.t 93) (.v (.int .i64 6)))
  (.op 16 [] (some 95) (some (82, false)) false (.pick (.t 91) (.t 94) (.v (.bool false)))
  (.op 17 [] (some 96) none false (.pick (.t 82) (.v (.bool true)) (.t 95))
  (.op 18 [] (some 2) none false (.mov (.t 96))
  .done))))))))))))))))))))
 .ret))))
theorem dg_impl_TaskOk : Try.f36.body.bind (digC Try.prog Try.f36.ntmps []) = some c_impl_TaskOk := by kernel_rfl
theorem rs_impl_TaskOk : resSlots Try.prog Try.f36 = some [.s 2] := by kernel_rfl
theorem ok_impl_TaskOk (t : Task) (hs : SmallT t) :
    FnOK Try.prog 36 [.agg (t.cells.map .d)] (fun ra _ => ra = [.one (.d (.sc (.bool (taskOk t))))]) := by
  refine FnOK.ofK Try.func36 (by kernel_rfl) dg_impl_TaskOk rs_impl_TaskOk rfl rfl ?_
  unfold c_impl_TaskOk
  have n1 := hs.n.len
  have n2 := hs.n.mem
  have f1 := hs.f.len
  have f2 := hs.f.mem
  have z1 := hs.z.len
  have z2 := hs.z.mem
  have h1 := hs.h
  have s1 := hs.s
  have a1 := hs.a
  refine kSeq (kReg (kBox rfl rfl rfl rfl rfl (kMovC rfl (kDone (kSeq (kSeq (kReg (kFadP rfl rfl (kLoadP rfl rfl rfl (kCallD (ok_impl_within _ _ _) ⟨rfl, rfl, rfl, trivial⟩ rfl rfl rfl rfl rfl (kUn rfl rfl (kMovC rfl (kGN rfl (fun g0 => kGF rfl (kGF rfl (kGF rfl (kGF rfl (kPickT rfl (kMovC rfl (kMovC rfl (kGF rfl (kGF rfl (kGF rfl (kGF rfl (kGF rfl (kPickT rfl (kMovC rfl (kMovC rfl (kGF rfl (kGF rfl (kGF rfl (kGF rfl (kGF rfl (kPickT rfl (kMovC rfl (kMovC rfl (kGF rfl (kGF rfl (kGF rfl (kGF rfl (kGF rfl (kGF rfl (kPickT rfl (kMovC rfl (kMovC rfl (kGF rfl (kGF rfl (kGF rfl (kGF rfl (kPickT rfl (kMovC rfl (kMovC rfl (kGF rfl (kGF rfl (kGF rfl (kGF rfl (kPickT rfl (kMovC rfl (kDone (kCondT rfl (kSeq (kReg (kMovC rfl (kDone (kRet (endRetA (ra := [.one (.d _)]) rfl ?_))))))))))))))))))))))))))))))))))))))))))))))))))))) (fun g0 => kGT rfl (kFadP rfl rfl (kGT rfl (kLoadP rfl rfl rfl (kGT rfl (kCallD (ok_impl_within _ _ _) ⟨rfl, rfl, rfl, trivial⟩ rfl rfl rfl rfl rfl (kGT rfl (kUn rfl rfl (kPickF rfl (kMovC rfl (kMovC rfl (kGN rfl (fun g1 => kGF rfl (kGF rfl (kGF rfl (kGF rfl (kGF rfl (kPickT rfl (kMovC rfl (kMovC rfl (kGF rfl (kGF rfl (kGF rfl (kGF rfl (kGF rfl (kPickT rfl (kMovC rfl (kMovC rfl (kGF rfl (kGF rfl (kGF rfl (kGF rfl (kGF rfl (kGF rfl (kPickT rfl (kMovC rfl (kMovC rfl (kGF rfl (kGF rfl (kGF rfl (kGF rfl (kPickT rfl (kMovC rfl (kMovC rfl (kGF rfl (kGF rfl (kGF rfl (kGF rfl (kPickT rfl (kMovC rfl (kDone (kCondT rfl (kSeq (kReg (kMovC rfl (kDone (kRet (endRetA (ra := [.one (.d _)]) rfl ?_)))))))))))))))))))))))))))))))))))))))))))))) (fun g1 => kGT rfl (kFadP rfl rfl (kGT rfl (kFadP rfl rfl (kGT rfl (kLoadP rfl rfl rfl (kGT rfl (kCallD (ok_impl_NameOk _ (by first | assumption | omega | solve_by_elim [List.getElem_mem] | (simp only [szOut] at *; omega)) (by first | assumption | omega | solve_by_elim [List.getElem_mem] | (simp only [szOut] at *; omega))) ⟨⟨⟨rfl, trivial⟩, Nat.le_of_ble_eq_true rfl⟩, trivial⟩ rfl rfl rfl rfl rfl (kGT rfl (kUn rfl rfl (kPickF rfl (kMovC rfl (kMovC rfl (kGN rfl (fun g2 => kGF rfl (kGF rfl (kGF rfl (kGF rfl (kGF rfl (kPickT rfl (kMovC rfl (kMovC rfl (kGF rfl (kGF rfl (kGF rfl (kGF rfl (kGF rfl (kGF rfl (kPickT rfl (kMovC rfl (kMovC rfl (kGF rfl (kGF rfl (kGF rfl (kGF rfl (kPickT rfl (kMovC rfl (kMovC rfl (kGF rfl (kGF rfl (kGF rfl (kGF rfl (kPickT rfl (kMovC rfl (kDone (kCondT rfl (kSeq (kReg (kMovC rfl (kDone (kRet (endRetA (ra := [.one (.d _)]) rfl ?_)))))))))))))))))))))))))))))))))))))) (fun g2 => kGT rfl (kFadP rfl rfl (kGT rfl (kFadP rfl rfl (kGT rfl (kLoadP rfl rfl rfl (kGT rfl (kCallD (ok_impl_TypeOk _) ⟨rfl, trivial⟩ rfl rfl rfl rfl rfl (kGT rfl (kUn rfl rfl (kPickF rfl (kMovC rfl (kMovC rfl (kGN rfl (fun g3 => kGF rfl (kGF rfl (kGF rfl (kGF rfl (kGF rfl (kGF rfl (kPickT rfl (kMovC rfl (kMovC rfl (kGF rfl (kGF rfl (kGF rfl (kGF rfl (kPickT rfl (kMovC rfl (kMovC rfl (kGF rfl (kGF rfl (kGF rfl (kGF rfl (kPickT rfl (kMovC rfl (kDone (kCondT rfl (kSeq (kReg (kMovC rfl (kDone (kRet (endRetA (ra := [.one (.d _)]) rfl ?_)))))))))))))))))))))))))))))) (fun g3 => kGT rfl (kFadP rfl rfl (kGT rfl (kLoadP rfl rfl rfl (kGT rfl (kFadP rfl rfl (kGT rfl (kLoadP rfl rfl rfl (kGT rfl (kCallD (ok_impl_Under _ _ (by first | assumption | omega | solve_by_elim [List.getElem_mem] | (simp only [szOut] at *; omega)) (by first | assumption | omega | solve_by_elim [List.getElem_mem] | (simp only [szOut] at *; omega)) (by first | assumption | omega | solve_by_elim [List.getElem_mem] | (simp only [szOut] at *; omega)) (by first | assumption | omega | solve_by_elim [List.getElem_mem] | (simp only [szOut] at *; omega))) ⟨⟨⟨rfl, trivial⟩, Nat.le_of_ble_eq_true rfl⟩, ⟨⟨rfl, trivial⟩, Nat.le_of_ble_eq_true rfl⟩, trivial⟩ rfl rfl rfl rfl rfl (kGT rfl (kUn rfl rfl (kPickF rfl (kMovC rfl (kMovC rfl (kGN rfl (fun g4 => kGF rfl (kGF rfl (kGF rfl (kGF rfl (kPickT rfl (kMovC rfl (kMovC rfl (kGF rfl (kGF rfl (kGF rfl (kGF rfl (kPickT rfl (kMovC rfl (kDone (kCondT rfl (kSeq (kReg (kMovC rfl (kDone (kRet (endRetA (ra := [.one (.d _)]) rfl ?_))))))))))))))))))))) (fun g4 => kGT rfl (kFadP rfl rfl (kGT rfl (kLoadP rfl rfl rfl (kGT rfl (kCallD (ok_impl_areServers _ (by first | assumption | omega | solve_by_elim [List.getElem_mem] | (simp only [szOut] at *; omega))) ⟨rfl, trivial⟩ rfl rfl rfl rfl rfl (kGT rfl (kUn rfl rfl (kPickF rfl (kMovC rfl (kMovC rfl (kGN rfl (fun g5 => kGF rfl (kGF rfl (kGF rfl (kGF rfl (kPickT rfl (kMovC rfl (kDone (kCondT rfl (kSeq (kReg (kMovC rfl (kDone (kRet (endRetA (ra := [.one (.d _)]) rfl ?_)))))))))))))) (fun g5 => kGT rfl (kFadP rfl rfl (kGT rfl (kLoadP rfl rfl rfl (kGT rfl (kCallD (ok_impl_areServers _ (by first | assumption | omega | solve_by_elim [List.getElem_mem] | (simp only [szOut] at *; omega))) ⟨rfl, trivial⟩ rfl rfl rfl rfl rfl (kGT rfl (kUn rfl rfl (kPickF rfl (kMovC rfl (kDone (kCondN rfl (fun g6 => kSeq (kReg (kMovC rfl (kDone (kRet (endRetA (ra := [.one (.d _)]) rfl ?_)))))) (fun g6 => kSkip (kSeq (kSeq (kReg (kFadP rfl rfl (kLoadP rfl rfl rfl (kFadP rfl rfl (kLoadP rfl rfl rfl (kLenR rfl rfl (kDif rfl rfl (by omega) (kCallD (ok_impl_within _ _ _) ⟨rfl, rfl, rfl, trivial⟩ rfl rfl rfl rfl rfl (kUn rfl rfl (kMovC rfl (kGN rfl (fun g7 => kGF rfl (kGF rfl (kGF rfl (kGF rfl (kPickT rfl (kMovC rfl (kMovC rfl (kGF rfl (kGF rfl (kGF rfl (kGF rfl (kPickT rfl (kMovC rfl (kMovC rfl (kGF rfl (kGF rfl (kGF rfl (kGF rfl (kPickT rfl (kMovC rfl (kMovC rfl (kGF rfl (kGF rfl (kGF rfl (kGF rfl (kPickT rfl (kMovC rfl (kDone (kCondT rfl (kSeq (kReg (kMovC rfl (kDone (kRet (endRetA (ra := [.one (.d _)]) rfl ?_))))))))))))))))))))))))))))))))))) (fun g7 => kGT rfl (kFadP rfl rfl (kGT rfl (kLoadP rfl rfl rfl (kGT rfl (kCallD (ok_impl_within _ _ _) ⟨rfl, rfl, rfl, trivial⟩ rfl rfl rfl rfl rfl (kGT rfl (kUn rfl rfl (kPickF rfl (kMovC rfl (kMovC rfl (kGN rfl (fun g8 => kGF rfl (kGF rfl (kGF rfl (kGF rfl (kPickT rfl (kMovC rfl (kMovC rfl (kGF rfl (kGF rfl (kGF rfl (kGF rfl (kPickT rfl (kMovC rfl (kMovC rfl (kGF rfl (kGF rfl (kGF rfl (kGF rfl (kPickT rfl (kMovC rfl (kDone (kCondT rfl (kSeq (kReg (kMovC rfl (kDone (kRet (endRetA (ra := [.one (.d _)]) rfl ?_)))))))))))))))))))))))))))) (fun g8 => kGT rfl (kFadP rfl rfl (kGT rfl (kLoadP rfl rfl rfl (kGT rfl (kCallD (ok_impl_within _ _ _) ⟨rfl, rfl, rfl, trivial⟩ rfl rfl rfl rfl rfl (kGT rfl (kUn rfl rfl (kPickF rfl (kMovC rfl (kMovC rfl (kGN rfl (fun g9 => kGF rfl (kGF rfl (kGF rfl (kGF rfl (kPickT rfl (kMovC rfl (kMovC rfl (kGF rfl (kGF rfl (kGF rfl (kGF rfl (kPickT rfl (kMovC rfl (kDone (kCondT rfl (kSeq (kReg (kMovC rfl (kDone (kRet (endRetA (ra := [.one (.d _)]) rfl ?_))))))))))))))))))))) (fun g9 => kGT rfl (kFadP rfl rfl (kGT rfl (kLoadP rfl rfl rfl (kGT rfl (kCallD (ok_impl_isCode _) ⟨rfl, trivial⟩ rfl rfl rfl rfl rfl (kGT rfl (kUn rfl rfl (kPickF rfl (kMovC rfl (kMovC rfl (kGN rfl (fun g10 => kGF rfl (kGF rfl (kGF rfl (kGF rfl (kPickT rfl (kMovC rfl (kDone (kCondT rfl (kSeq (kReg (kMovC rfl (kDone (kRet (endRetA (ra := [.one (.d _)]) rfl ?_)))))))))))))) (fun g10 => kGT rfl (kFadP rfl rfl (kGT rfl (kLoadP rfl rfl rfl (kGT rfl (kCallD (ok_impl_areRrs _ (by first | assumption | omega | solve_by_elim [List.getElem_mem] | (simp only [szOut] at *; omega))) ⟨rfl, trivial⟩ rfl rfl rfl rfl rfl (kGT rfl (kUn rfl rfl (kPickF rfl (kMovC rfl (kDone (kCondN rfl (fun g11 => kSeq (kReg (kMovC rfl (kDone (kRet (endRetA (ra := [.one (.d _)]) rfl ?_)))))) (fun g11 => kSkip (kSeq (kReg (kFadP rfl rfl (kLoadP rfl rfl rfl (kBin rfl rfl rfl (kMovC rfl (kGP rfl (fun g12 => kGF rfl (kGF rfl (kGF rfl (kGF rfl (kGU rfl (kGU rfl (kGU rfl (kGF rfl (kGF rfl (kGU rfl (kGU rfl (kGU rfl (kGF rfl (kPickT rfl (kMovC rfl (kMovC rfl (kDone (kRet (endRetA (ra := [.one (.d _)]) rfl ?_))))))))))))))))))) (fun g12 => kGT rfl (kFadP rfl rfl (kGT rfl (kLoadP rfl rfl rfl (kGT rfl (kBin rfl rfl rfl (kGT rfl (kMovC rfl (kGP rfl (fun g13 => kGT rfl (kFadP rfl rfl (kGT rfl (kLoadP rfl rfl rfl (kGT rfl (kBin rfl rfl rfl (kGT rfl (kPickT rfl (kMovC rfl (kGT rfl (kMovC rfl (kGP rfl (fun g14 => kGT rfl (kFadP rfl rfl (kGT rfl (kLoadP rfl rfl rfl (kGT rfl (kBin rfl rfl rfl (kGT rfl (kPickT rfl (kMovC rfl (kPickF rfl (kMovC rfl (kMovC rfl (kDone (kRet (endRetA (ra := [.one (.d _)]) rfl ?_))))))))))))))) (fun g14 => kGF rfl (kGF rfl (kGF rfl (kGT rfl (kPickF rfl (kMovC rfl (kPickF rfl (kMovC rfl (kMovC rfl (kDone (kRet (endRetA (ra := [.one (.d _)]) rfl ?_)))))))))))))))))))))))) (fun g13 => kGF rfl (kGF rfl (kGF rfl (kGT rfl (kPickF rfl (kMovC rfl (kGT rfl (kMovC rfl (kGF rfl (kGF rfl (kGF rfl (kGT rfl (kPickF rfl (kMovC rfl (kPickF rfl (kMovC rfl (kMovC rfl (kDone (kRet (endRetA (ra := [.one (.d _)]) rfl ?_))))))))))))))))))))))))))))))))))))))))))))))))))))))))))))))))))))))))))))))))))))))))))))))))))))))))))))))))))))))))))))))))))))))))))))))))))))))))))))))))))))))))))))))))))))))))))))))))
  all_goals (clear n1 n2 f1 f2 z1 z2 h1 s1 a1 hs; refine congrArg (fun z : Bool => [RA.one (RV.d (DV.sc (Value.bool z)))]) ?_)
  all_goals first
    | (simp [taskOk, *]; done)
    | (simp [taskOk, *]; omega)
    | (rw [Bool.eq_iff_iff]; simp [taskOk, *]; done)
    | (rw [Bool.eq_iff_iff]; simp [taskOk, *]; omega)
    | (simp_all [taskOk]; done)
    | (simp_all [taskOk]; omega)

def c_impl_Task_copied : C := (.seq (.reg false (.op 0 [] (some 1) none false (.box 1 (.t 0))
  (.op 1 [] (some 2) none false (.alloc 2 [(.v (.int .i64 0)), (.v (.int .i64 0)), (.n 1), (.v (.int .i64 0)), (.n 1), (.n 1), (.n 1), (.n 1), (.v (.int .i64 0)), (.v (.int .i64 0)), (.v (.int .i64 0)), (.v (.int .i64 0)), (.n 7)])
  .done)))
 (.seq (.reg true (.op 0 [] (some 3) none true (.fad (.t 1) 2)
  (.op 1 [] (some 4) none true (.fad (.t 3) 0)
  (.op 2 [] (some 5) none true (.load (some 1) (.t 4))
  (.op 4 [] (some 7) none true (.fad (.t 1) 4)
  (.op 5 [] (some 8) none true (.load (some 1) (.t 7))
  (.op 7 [] (some 10) none true (.fad (.t 1) 5)
  (.op 8 [] (some 11) none true (.load (some 1) (.t 10))
  (.op 3 [2] (some 6) none false (.call 6 63 [(.t 5)])
  (.op 10 [] (some 13) none true (.fad (.t 1) 2)
  (.op 11 [] (some 14) none true (.fad (.t 13) 0)
  (.op 6 [5, 2] (some 9) none false (.call 9 63 [(.t 8)])
  (.op 9 [8, 5, 2] (some 12) none false (.call 12 63 [(.t 11)])
  (.op 12 [2, 5, 8] none none false (.store (some 1) (.t 14) (.t 6))
  (.op 13 [] (some 15) none true (.fad (.t 1) 4)
  (.op 14 [2, 5, 8] none none false (.store (some 1) (.t 15) (.t 9))
  (.op 15 [] (some 16) none true (.fad (.t 1) 5)
  (.op 16 [2, 5, 8] none none false (.store (some 1) (.t 16) (.t 12))
  .done))))))))))))))))))
 (.seq (.reg true (.op 0 [] (some 17) none true (.fad (.t 1) 6)
  (.op 1 [] (some 18) none true (.load none (.t 17))
  (.op 3 [] (some 20) none true (.fad (.t 1) 7)
  (.op 4 [] (some 21) none true (.load none (.t 20))
  (.op 6 [] (some 23) none true (.fad (.t 1) 12)
  (.op 7 [] (some 24) none true (.load none (.t 23))
  (.op 2 [1] (some 19) none false (.call 19 65 [(.t 18)])
  (.op 9 [] (some 26) none true (.fad (.t 1) 6)
  (.op 5 [4, 1] (some 22) none false (.call 22 65 [(.t 21)])
  (.op 8 [7, 4, 1] (some 25) none false (.call 25 17 [(.t 24)])
  (.op 10 [1, 4, 7] none none false (.store none (.t 26) (.t 19))
  (.op 11 [] (some 27) none true (.fad (.t 1) 7)
  (.op 12 [1, 4, 7] none none false (.store none (.t 27) (.t 22))
  (.op 13 [] (some 28) none true (.fad (.t 1) 12)
  (.op 14 [1, 4, 7] none none false (.store none (.t 28) (.t 25))
  .done))))))))))))))))
 (.seq (.reg false (.op 0 [] (some 29) none false (.load (some 13) (.t 1))
  (.op 1 [] none none false (.store (some 13) (.t 2) (.t 29))
  .done)))
 .ret))))
theorem dg_impl_Task_copied : Try.f37.body.bind (digC Try.prog Try.f37.ntmps []) = some c_impl_Task_copied := by kernel_rfl
theorem rs_impl_Task_copied : resSlots Try.prog Try.f37 = some [.m 2 (some 13)] := by kernel_rfl
theorem ok_impl_Task_copied (t : Task) (hs : SmallT t) :
    FnOK Try.prog 37 [.agg (t.cells.map .d)] (fun ra _ => ra = [.agg [.d (.sc (.int .i64 t.state)), .d (.sc (.int .i64 t.id)), .own true (encBB t.fname), .d (.sc (.int .i64 t.ftype)), .own true (encBB t.name), .own true (encBB t.zone), .own true (encI t.hints), .own true (encI t.servers), .d (.sc (.int .i64 t.turn)), .d (.sc (.int .i64 t.sends)), .d (.sc (.int .i64 t.steps)), .d (.sc (.int .i64 t.code)), .own true (encR t.answers)]]) := by
  refine FnOK.ofK Try.func37 (by kernel_rfl) dg_impl_Task_copied rs_impl_Task_copied rfl rfl ?_
  unfold c_impl_Task_copied
  have n1 := hs.n.len
  have n2 := hs.n.mem
  have f1 := hs.f.len
  have f2 := hs.f.mem
  have z1 := hs.z.len
  have z2 := hs.z.mem
  have h1 := hs.h
  have s1 := hs.s
  have a1 := hs.a
  refine kSeq (kCut ⟨tabSl [(1, .c (.ptr (rid 1 0) 1 0)), (2, .c (.ptr (rid 2 0) 1 0))], obTab 1 [(rid 1 0, ⟨1, 0, .box [.d (.sc (.int .i64 t.state)), .d (.sc (.int .i64 t.id)), .d (encBB t.fname), .d (.sc (.int .i64 t.ftype)), .d (encBB t.name), .d (encBB t.zone), .d (encI t.hints), .d (encI t.servers), .d (.sc (.int .i64 t.turn)), .d (.sc (.int .i64 t.sends)), .d (.sc (.int .i64 t.steps)), .d (.sc (.int .i64 t.code)), .d (encR t.answers)]⟩), (rid 2 0, ⟨1, 0, .box [.d (.sc (.int .i64 0)), .d (.sc (.int .i64 0)), .nil 1, .d (.sc (.int .i64 0)), .nil 1, .nil 1, .nil 1, .nil 1, .d (.sc (.int .i64 0)), .d (.sc (.int .i64 0)), .d (.sc (.int .i64 0)), .d (.sc (.int .i64 0)), .nil 7]⟩)], []⟩ ?_ (fun x hc => ?_))
  case refine_2 => refine kReg (kBox rfl rfl rfl rfl rfl (kAlloc rfl rfl (kDone (kMem [(8192, ⟨1, 0, .box [.d _, .d _, .d _, .d _, .d _, .d _, .d _, .d _, .d _, .d _, .d _, .d _, .d _]⟩), (12288, ⟨1, 0, .box [.d _, .d _, .nil 1, .d _, .nil 1, .nil 1, .nil 1, .nil 1, .d _, .d _, .d _, .d _, .nil 7]⟩)] [(1, .c (.ptr 8192 1 0)), (2, .c (.ptr 12288 1 0))] [] ⟨rfl, rfl, trivial⟩ ⟨rfl, rfl, trivial⟩ rfl (hc _ .normA)))))
  refine kSeq (kCut ⟨tabSl [(1, .c (.ptr (rid 1 0) 1 0)), (2, .c (.ptr (rid 2 0) 1 0))], obTab 1 [(rid 1 0, ⟨1, 0, .box [.d (.sc (.int .i64 t.state)), .d (.sc (.int .i64 t.id)), .arr (rid 6 0) 1, .d (.sc (.int .i64 t.ftype)), .arr (rid 9 0) 1, .arr (rid 12 0) 1, .d (encI t.hints), .d (encI t.servers), .d (.sc (.int .i64 t.turn)), .d (.sc (.int .i64 t.sends)), .d (.sc (.int .i64 t.steps)), .d (.sc (.int .i64 t.code)), .d (encR t.answers)]⟩), (rid 2 0, ⟨1, 0, .box [.d (.sc (.int .i64 0)), .d (.sc (.int .i64 0)), .nil 1, .d (.sc (.int .i64 0)), .nil 1, .nil 1, .nil 1, .nil 1, .d (.sc (.int .i64 0)), .d (.sc (.int .i64 0)), .d (.sc (.int .i64 0)), .d (.sc (.int .i64 0)), .nil 7]⟩), (rid 6 0, ⟨1, 0, .arr true (encBB t.fname)⟩), (rid 9 0, ⟨1, 0, .arr true (encBB t.name)⟩), (rid 12 0, ⟨1, 0, .arr true (encBB t.zone)⟩)], []⟩ ?_ (fun x hc => ?_))
  case refine_2 => refine kRegD (kFadP rfl rfl (kFadP rfl rfl (kLoadP rfl rfl rfl (kFadP rfl rfl (kLoadP rfl rfl rfl (kFadP rfl rfl (kLoadP rfl rfl rfl (kRelK rfl rfl (kCall1 true (ok_impl_Name_copied _ (by first | assumption | omega | solve_by_elim [List.getElem_mem] | (simp only [szOut] at *; omega)) (by first | assumption | omega | solve_by_elim [List.getElem_mem] | (simp only [szOut] at *; omega))) ⟨⟨⟨rfl, trivial⟩, Nat.le_of_ble_eq_true rfl⟩, trivial⟩ rfl rfl rfl (fun _ => (kMem [(8192, ⟨1, 0, .box [.d _, .d _, .d _, .d _, .d _, .d _, .d _, .d _, .d _, .d _, .d _, .d _, .d _]⟩), (28672, ⟨2, 0, .arr true _⟩)] [(1, .c (.ptr 8192 1 0)), (8, .g [.d _]), (11, .g [.d _]), (6, .g [.arr 28672 2])] [8192, 8192, 8192] ⟨rfl, rfl, trivial⟩ ⟨rfl, rfl, rfl, rfl, trivial⟩ rfl (kFadP rfl rfl (kFadP rfl rfl (kRelK rfl rfl (kCall1 true (ok_impl_Name_copied _ (by first | assumption | omega | solve_by_elim [List.getElem_mem] | (simp only [szOut] at *; omega)) (by first | assumption | omega | solve_by_elim [List.getElem_mem] | (simp only [szOut] at *; omega))) ⟨⟨⟨rfl, trivial⟩, Nat.le_of_ble_eq_true rfl⟩, trivial⟩ rfl rfl rfl (fun _ => (kRelF rfl rfl (kCall1 true (ok_impl_Name_copied _ (by first | assumption | omega | solve_by_elim [List.getElem_mem] | (simp only [szOut] at *; omega)) (by first | assumption | omega | solve_by_elim [List.getElem_mem] | (simp only [szOut] at *; omega))) ⟨⟨⟨rfl, trivial⟩, Nat.le_of_ble_eq_true rfl⟩, trivial⟩ rfl rfl rfl (fun _ => (kRelF rfl rfl (kStoreP rfl rfl rfl rfl (kFadP rfl rfl (kRelF rfl rfl (kStoreP rfl rfl rfl rfl (kFadP rfl rfl (kRelF rfl rfl (kStoreP rfl rfl rfl rfl (kDone (kH (kMem [(8192, ⟨1, 0, .box [.d _, .d _, .arr 28672 2, .d _, .arr 40960 2, .arr 53248 2, .d _, .d _, .d _, .d _, .d _, .d _, .d _]⟩), (12288, ⟨1, 0, .box [.d _, .d _, .nil 1, .d _, .nil 1, .nil 1, .nil 1, .nil 1, .d _, .d _, .d _, .d _, .nil 7]⟩), (28672, ⟨2, 0, .arr true _⟩), (40960, ⟨2, 0, .arr true _⟩), (53248, ⟨2, 0, .arr true _⟩)] [(1, .c (.ptr 8192 1 0)), (2, .c (.ptr 12288 1 0))] [] ⟨rfl, rfl, rfl, rfl, rfl, trivial⟩ ⟨rfl, rfl, trivial⟩ rfl (hc _ .normA)))))))))))))))))))))))))))))))
  refine kSeq (kCut ⟨tabSl [(1, .c (.ptr (rid 1 0) 1 0)), (2, .c (.ptr (rid 2 0) 1 0))], obTab 1 [(rid 1 0, ⟨1, 0, .box [.d (.sc (.int .i64 t.state)), .d (.sc (.int .i64 t.id)), .arr (rid 6 0) 1, .d (.sc (.int .i64 t.ftype)), .arr (rid 9 0) 1, .arr (rid 12 0) 1, .arr (rid 19 0) 1, .arr (rid 22 0) 1, .d (.sc (.int .i64 t.turn)), .d (.sc (.int .i64 t.sends)), .d (.sc (.int .i64 t.steps)), .d (.sc (.int .i64 t.code)), .arr (rid 25 0) 1]⟩), (rid 2 0, ⟨1, 0, .box [.d (.sc (.int .i64 0)), .d (.sc (.int .i64 0)), .nil 1, .d (.sc (.int .i64 0)), .nil 1, .nil 1, .nil 1, .nil 1, .d (.sc (.int .i64 0)), .d (.sc (.int .i64 0)), .d (.sc (.int .i64 0)), .d (.sc (.int .i64 0)), .nil 7]⟩), (rid 6 0, ⟨1, 0, .arr true (encBB t.fname)⟩), (rid 9 0, ⟨1, 0, .arr true (encBB t.name)⟩), (rid 12 0, ⟨1, 0, .arr true (encBB t.zone)⟩), (rid 19 0, ⟨1, 0, .arr true (encI t.hints)⟩), (rid 22 0, ⟨1, 0, .arr true (encI t.servers)⟩), (rid 25 0, ⟨1, 0, .arr true (encR t.answers)⟩)], []⟩ ?_ (fun x hc => ?_))
  case refine_2 => refine kRegD (kFadP rfl rfl (kLoadP rfl rfl rfl (kFadP rfl rfl (kLoadP rfl rfl rfl (kFadP rfl rfl (kLoadP rfl rfl rfl (kRelK rfl rfl (kCall1 true (ok_slices_Clone_Lint_int _ (by first | assumption | omega | solve_by_elim [List.getElem_mem] | (simp only [szOut] at *; omega))) ⟨rfl, trivial⟩ rfl rfl rfl (fun _ => (kFadP rfl rfl (kMem [(8192, ⟨1, 0, .box [.d _, .d _, .arr 28672 1, .d _, .arr 40960 1, .arr 53248 1, .d _, .d _, .d _, .d _, .d _, .d _, .d _]⟩), (81920, ⟨2, 0, .arr true _⟩), (28672, ⟨1, 0, .arr true _⟩), (40960, ⟨1, 0, .arr true _⟩), (53248, ⟨1, 0, .arr true _⟩)] [(21, .c (.d _)), (24, .c (.d _)), (26, .c (.ptr 8192 1 6)), (19, .c (.arr 81920 2)), (1, .c (.ptr 8192 1 0))] [8192, 8192, 8192] ⟨rfl, rfl, rfl, rfl, rfl, trivial⟩ ⟨rfl, rfl, rfl, rfl, rfl, trivial⟩ rfl (kRelK rfl rfl (kCall1 true (ok_slices_Clone_Lint_int _ (by first | assumption | omega | solve_by_elim [List.getElem_mem] | (simp only [szOut] at *; omega))) ⟨rfl, trivial⟩ rfl rfl rfl (fun _ => (kRelF rfl rfl (kCall1 true (ok_impl_copyRrs _ (by first | assumption | omega | solve_by_elim [List.getElem_mem] | (simp only [szOut] at *; omega))) ⟨rfl, trivial⟩ rfl rfl rfl (fun _ => (kRelF rfl rfl (kStoreP rfl rfl rfl rfl (kFadP rfl rfl (kRelF rfl rfl (kStoreP rfl rfl rfl rfl (kFadP rfl rfl (kRelF rfl rfl (kStoreP rfl rfl rfl rfl (kDone (kH (kMem [(8192, ⟨1, 0, .box [.d _, .d _, .arr 28672 1, .d _, .arr 40960 1, .arr 53248 1, .arr 81920 2, .arr 94208 2, .d _, .d _, .d _, .d _, .arr 106496 2]⟩), (12288, ⟨1, 0, .box [.d _, .d _, .nil 1, .d _, .nil 1, .nil 1, .nil 1, .nil 1, .d _, .d _, .d _, .d _, .nil 7]⟩), (28672, ⟨1, 0, .arr true _⟩), (40960, ⟨1, 0, .arr true _⟩), (53248, ⟨1, 0, .arr true _⟩), (81920, ⟨2, 0, .arr true _⟩), (94208, ⟨2, 0, .arr true _⟩), (106496, ⟨2, 0, .arr true _⟩)] [(1, .c (.ptr 8192 1 0)), (2, .c (.ptr 12288 1 0))] [] ⟨rfl, rfl, rfl, rfl, rfl, rfl, rfl, rfl, trivial⟩ ⟨rfl, rfl, trivial⟩ rfl (hc _ .normA)))))))))))))))))))))))))))))
  refine kSeq (kCut ⟨tabSl [(2, .c (.ptr (rid 2 0) 1 0))], obTab 1 [(rid 2 0, ⟨1, 0, .box [.d (.sc (.int .i64 t.state)), .d (.sc (.int .i64 t.id)), .arr (rid 6 0) 1, .d (.sc (.int .i64 t.ftype)), .arr (rid 9 0) 1, .arr (rid 12 0) 1, .arr (rid 19 0) 1, .arr (rid 22 0) 1, .d (.sc (.int .i64 t.turn)), .d (.sc (.int .i64 t.sends)), .d (.sc (.int .i64 t.steps)), .d (.sc (.int .i64 t.code)), .arr (rid 25 0) 1]⟩), (rid 6 0, ⟨1, 0, .arr true (encBB t.fname)⟩), (rid 9 0, ⟨1, 0, .arr true (encBB t.name)⟩), (rid 12 0, ⟨1, 0, .arr true (encBB t.zone)⟩), (rid 19 0, ⟨1, 0, .arr true (encI t.hints)⟩), (rid 22 0, ⟨1, 0, .arr true (encI t.servers)⟩), (rid 25 0, ⟨1, 0, .arr true (encR t.answers)⟩)], []⟩ ?_ (fun x hc => ?_))
  case refine_2 => refine kReg (kLoadP rfl rfl rfl (kMem [(12288, ⟨1, 0, .box [.d _, .d _, .nil 1, .d _, .nil 1, .nil 1, .nil 1, .nil 1, .d _, .d _, .d _, .d _, .nil 7]⟩), (28672, ⟨1, 0, .arr true _⟩), (40960, ⟨1, 0, .arr true _⟩), (53248, ⟨1, 0, .arr true _⟩), (81920, ⟨1, 0, .arr true _⟩), (94208, ⟨1, 0, .arr true _⟩), (106496, ⟨1, 0, .arr true _⟩)] [(2, .c (.ptr 12288 1 0)), (29, .g [.d _, .d _, .arr 28672 1, .d _, .arr 40960 1, .arr 53248 1, .arr 81920 1, .arr 94208 1, .d _, .d _, .d _, .d _, .arr 106496 1])] [] ⟨rfl, rfl, rfl, rfl, rfl, rfl, rfl, trivial⟩ ⟨rfl, rfl, trivial⟩ rfl (kStoreP rfl rfl rfl rfl (kDone (kMem [(12288, ⟨1, 0, .box [.d _, .d _, .arr 28672 1, .d _, .arr 40960 1, .arr 53248 1, .arr 81920 1, .arr 94208 1, .d _, .d _, .d _, .d _, .arr 106496 1]⟩), (28672, ⟨1, 0, .arr true _⟩), (40960, ⟨1, 0, .arr true _⟩), (53248, ⟨1, 0, .arr true _⟩), (81920, ⟨1, 0, .arr true _⟩), (94208, ⟨1, 0, .arr true _⟩), (106496, ⟨1, 0, .arr true _⟩)] [(2, .c (.ptr 12288 1 0))] [] ⟨rfl, rfl, rfl, rfl, rfl, rfl, rfl, trivial⟩ ⟨rfl, trivial⟩ rfl (hc _ .normA))))))
  refine kMem [(12288, ⟨1, 0, .box [.d _, .d _, .arr 28672 1, .d _, .arr 40960 1, .arr 53248 1, .arr 81920 1, .arr 94208 1, .d _, .d _, .d _, .d _, .arr 106496 1]⟩), (28672, ⟨1, 0, .arr true _⟩), (40960, ⟨1, 0, .arr true _⟩), (53248, ⟨1, 0, .arr true _⟩), (81920, ⟨1, 0, .arr true _⟩), (94208, ⟨1, 0, .arr true _⟩), (106496, ⟨1, 0, .arr true _⟩)] [(2, .c (.ptr 12288 1 0))] [] ⟨rfl, rfl, rfl, rfl, rfl, rfl, rfl, trivial⟩ ⟨rfl, trivial⟩ rfl (kRet (endRetA (ra := [.agg [(.d _), (.d _), (.own true _), (.d _), (.own true _), (.own true _), (.own true _), (.own true _), (.d _), (.d _), (.d _), (.d _), (.own true _)]]) rfl rfl))

def c_impl_Begin : C := (.seq (.reg false (.op 0 [] (some 3) none false (.box 3 (.t 0))
  (.op 1 [] (some 6) none false (.alloc 6 [(.v (.int .i64 0)), (.v (.int .i64 0)), (.n 1), (.v (.int .i64 0)), (.n 1), (.n 1), (.n 1), (.n 1), (.v (.int .i64 0)), (.v (.int .i64 0)), (.v (.int .i64 0)), (.v (.int .i64 0)), (.n 7)])
  (.op 2 [] (some 7) none false (.mov (.v (.bool false)))
  .done))))
 (.seq (.reg false (.op 0 [] (some 9) none false (.mov (.t 2))
  (.op 1 [] (some 10) none false (.load (some 2) (.t 3))
  (.op 2 [] (some 11) none false (.fad (.t 3) 0)
  (.op 3 [] (some 12) none false (.load (some 1) (.t 11))
  (.op 4 [] (some 13) none false (.mov (.t 1))
  (.op 5 [] (some 14) none false (.mov (.t 1))
  (.op 6 [] (some 15) none false (.build [(.v (.int .i64 0)), (.v (.int .i64 0)), (.n 1), (.v (.int .i64 0)), (.n 1), (.n 1), (.n 1), (.n 1), (.v (.int .i64 0)), (.v (.int .i64 0)), (.v (.int .i64 0)), (.v (.int .i64 0)), (.n 7)] [(1, 1, (.t 9)), (2, 2, (.t 10)), (4, 1, (.t 12)), (6, 1, (.t 13)), (7, 1, (.t 14))])
  (.op 7 [] (some 8) none false (.alloc 8 [(.v (.int .i64 0)), (.v (.int .i64 0)), (.n 1), (.v (.int .i64 0)), (.n 1), (.n 1), (.n 1), (.n 1), (.v (.int .i64 0)), (.v (.int .i64 0)), (.v (.int .i64 0)), (.v (.int .i64 0)), (.n 7)])
  (.op 8 [] none none false (.store (some 13) (.t 8) (.t 15))
  .done))))))))))
 (.seq (.seq (.reg false (.op 0 [] (some 16) none false (.load (some 13) (.t 8))
  (.op 1 [] (some 17) none false (.call 17 36 [(.t 16)])
  (.op 2 [] (some 18) none false (.un .not (.t 17))
  .done))))
 (.cond (.t 18)
 (.seq (.reg false (.op 0 [] (some 19) none false (.build [(.v (.int .i64 0)), (.v (.int .i64 0)), (.n 1), (.v (.int .i64 0)), (.n 1), (.n 1), (.n 1), (.n 1), (.v (.int .i64 0)), (.v (.int .i64 0)), (.v (.int .i64 0)), (.v (.int .i64 0)), (.n 7)] [])
  (.op 1 [] none none false (.store (some 13) (.t 6) (.t 19))
  (.op 2 [] (some 7) none false (.mov (.v (.bool false)))
  .done))))
 .ret)
 .skip))
 (.seq (.reg false (.op 0 [] (some 20) none false (.load (some 13) (.t 8))
  (.op 1 [] (some 21) none false (.call 21 37 [(.t 20)])
  (.op 2 [] none none false (.store (some 13) (.t 6) (.t 21))
  (.op 3 [] (some 7) none false (.mov (.v (.bool true)))
  .done)))))
 .ret))))
theorem dg_impl_Begin : Try.f19.body.bind (digC Try.prog Try.f19.ntmps []) = some c_impl_Begin := by kernel_rfl
theorem rs_impl_Begin : resSlots Try.prog Try.f19 = some [.m 6 (some 13), .s 7] := by kernel_rfl
theorem ok_impl_Begin (q : List (List UInt8)) (ty : Int) (h : List Int) (id : Int) (hq : SmallBB q) (hh : h.length ≤ 4194304) :
    FnOK Try.prog 19 [.agg [.d (encBB q), .d (.sc (.int .i64 ty))], .one (.d (encI h)), .one (.d (.sc (.int .i64 id)))] (fun ra _ => ra = [.agg [.d (.sc (.int .i64 (beginN q ty h id).state)), .d (.sc (.int .i64 (beginN q ty h id).id)), .own true (encBB (beginN q ty h id).fname), .d (.sc (.int .i64 (beginN q ty h id).ftype)), .own true (encBB (beginN q ty h id).name), .own true (encBB (beginN q ty h id).zone), .own true (encI (beginN q ty h id).hints), .own true (encI (beginN q ty h id).servers), .d (.sc (.int .i64 (beginN q ty h id).turn)), .d (.sc (.int .i64 (beginN q ty h id).sends)), .d (.sc (.int .i64 (beginN q ty h id).steps)), .d (.sc (.int .i64 (beginN q ty h id).code)), .own true (encR (beginN q ty h id).answers)], .one (.d (.sc (.bool (taskOk (askT q ty h id)))))]) := by
  refine FnOK.ofK Try.func19 (by kernel_rfl) dg_impl_Begin rs_impl_Begin rfl rfl ?_
  unfold c_impl_Begin
  have hs : SmallT (askT q ty h id) := ⟨hq, hq, .nil, hh, hh, ⟨Nat.zero_le _, nofun⟩⟩
  refine kSeq (kCut ⟨tabSl [(1, .dv (encI h)), (2, .i id), (3, .c (.ptr (rid 3 0) 1 0)), (6, .c (.ptr (rid 6 0) 1 0)), (7, .b false)], obTab 1 [(rid 3 0, ⟨1, 0, .box [.d (encBB q), .d (.sc (.int .i64 ty))]⟩), (rid 6 0, ⟨1, 0, .box [.d (.sc (.int .i64 0)), .d (.sc (.int .i64 0)), .nil 1, .d (.sc (.int .i64 0)), .nil 1, .nil 1, .nil 1, .nil 1, .d (.sc (.int .i64 0)), .d (.sc (.int .i64 0)), .d (.sc (.int .i64 0)), .d (.sc (.int .i64 0)), .nil 7]⟩)], []⟩ ?_ (fun x hc => ?_))
  case refine_2 => refine kReg (kBox rfl rfl rfl rfl rfl (kAlloc rfl rfl (kMovC rfl (kDone (kMem [(16384, ⟨1, 0, .box [.d _, .d _]⟩), (28672, ⟨1, 0, .box [.d _, .d _, .nil 1, .d _, .nil 1, .nil 1, .nil 1, .nil 1, .d _, .d _, .d _, .d _, .nil 7]⟩)] [(1, .c (.d _)), (2, .c (.d _)), (3, .c (.ptr 16384 1 0)), (6, .c (.ptr 28672 1 0)), (7, .c (.d _))] [] ⟨rfl, rfl, trivial⟩ ⟨rfl, rfl, rfl, rfl, rfl, trivial⟩ rfl (hc _ .normA))))))
  refine kSeq (kCut ⟨tabSl [(6, .c (.ptr (rid 6 0) 1 0)), (7, .b false), (8, .c (.ptr (rid 8 0) 1 0))], obTab 1 [(rid 6 0, ⟨1, 0, .box [.d (.sc (.int .i64 0)), .d (.sc (.int .i64 0)), .nil 1, .d (.sc (.int .i64 0)), .nil 1, .nil 1, .nil 1, .nil 1, .d (.sc (.int .i64 0)), .d (.sc (.int .i64 0)), .d (.sc (.int .i64 0)), .d (.sc (.int .i64 0)), .nil 7]⟩), (rid 8 0, ⟨1, 0, .box ((askT q ty h id).cells.map .d)⟩)], []⟩ ?_ (fun x hc => ?_))
  case refine_2 => refine kReg (kMovC rfl (kLoadP rfl rfl rfl (kFadP rfl rfl (kLoadP rfl rfl rfl (kMovC rfl (kMovC rfl (kBuildG rfl (kAlloc rfl rfl (kMem [(36864, ⟨2, 0, .box [.d _, .d _, .nil 1, .d _, .nil 1, .nil 1, .nil 1, .nil 1, .d _, .d _, .d _, .d _, .nil 7]⟩)] [(8, .c (.ptr 36864 2 0)), (15, .g [.d _, .d _, .d _, .d _, .d _, .nil 1, .d _, .d _, .d _, .d _, .d _, .d _, .nil 7])] [] ⟨rfl, trivial⟩ ⟨rfl, rfl, trivial⟩ rfl (kStoreP rfl rfl rfl rfl (kDone (kMem [(28672, ⟨1, 0, .box [.d _, .d _, .nil 1, .d _, .nil 1, .nil 1, .nil 1, .nil 1, .d _, .d _, .d _, .d _, .nil 7]⟩), (36864, ⟨2, 0, .box [.d _, .d _, .d _, .d _, .d _, .nil 1, .d _, .d _, .d _, .d _, .d _, .d _, .nil 7]⟩)] [(6, .c (.ptr 28672 1 0)), (7, .c (.d _)), (8, .c (.ptr 36864 2 0))] [] ⟨rfl, rfl, trivial⟩ ⟨rfl, rfl, rfl, trivial⟩ rfl (hc _ .normA)))))))))))))
  cases hok : taskOk (askT q ty h id)
  · rw [show beginN q ty h id = zeroT by unfold beginN; rw [hok]; rfl]
    refine kSeq (kSeq (kReg (kLoadP rfl rfl rfl (kCallD (ok_impl_TaskOk _ (by first | assumption | omega | solve_by_elim [List.getElem_mem] | (simp only [szOut] at *; omega))) ⟨⟨⟨rfl, rfl, rfl, rfl, rfl, rfl, rfl, rfl, rfl, rfl, rfl, rfl, rfl, trivial⟩, Nat.le_of_ble_eq_true rfl⟩, trivial⟩ rfl rfl rfl rfl rfl (kUn rfl rfl (kDone (kCondN rfl (fun g0 => kSeq (kReg (kMem [(28672, ⟨1, 0, .box [.d _, .d _, .nil 1, .d _, .nil 1, .nil 1, .nil 1, .nil 1, .d _, .d _, .d _, .d _, .nil 7]⟩)] [(6, .c (.ptr 28672 1 0))] [] ⟨rfl, trivial⟩ ⟨rfl, trivial⟩ rfl (kBuildG rfl (kMem [(28672, ⟨1, 0, .box [.d _, .d _, .nil 1, .d _, .nil 1, .nil 1, .nil 1, .nil 1, .d _, .d _, .d _, .d _, .nil 7]⟩)] [(6, .c (.ptr 28672 1 0)), (19, .g [.d _, .d _, .nil 1, .d _, .nil 1, .nil 1, .nil 1, .nil 1, .d _, .d _, .d _, .d _, .nil 7])] [] ⟨rfl, trivial⟩ ⟨rfl, rfl, trivial⟩ rfl (kStoreP rfl rfl rfl rfl (kMovC rfl (kDone (kMem [(28672, ⟨1, 0, .box [.d _, .d _, .nil 1, .d _, .nil 1, .nil 1, .nil 1, .nil 1, .d _, .d _, .d _, .d _, .nil 7]⟩)] [(6, .c (.ptr 28672 1 0)), (7, .c (.d _))] [] ⟨rfl, trivial⟩ ⟨rfl, rfl, trivial⟩ rfl (kRet (endRetA (ra := [.agg [(.d _), (.d _), (.own true _), (.d _), (.own true _), (.own true _), (.own true _), (.own true _), (.d _), (.d _), (.d _), (.d _), (.own true _)], .one (.d _)]) rfl rfl))))))))))) (fun g0 => (by (simp [*] at g0))))))))))
  · rw [show beginN q ty h id = askT q ty h id by unfold beginN; rw [hok]; rfl]
    refine kSeq (kSeq (kReg (kLoadP rfl rfl rfl (kCallD (ok_impl_TaskOk _ (by first | assumption | omega | solve_by_elim [List.getElem_mem] | (simp only [szOut] at *; omega))) ⟨⟨⟨rfl, rfl, rfl, rfl, rfl, rfl, rfl, rfl, rfl, rfl, rfl, rfl, rfl, trivial⟩, Nat.le_of_ble_eq_true rfl⟩, trivial⟩ rfl rfl rfl rfl rfl (kUn rfl rfl (kDone (kCondN rfl (fun g0 => (by (simp [*] at g0))) (fun g0 => kSkip (kSeq (kReg (kLoadP rfl rfl rfl (kCall1 true (ok_impl_Task_copied _ (by first | assumption | omega | solve_by_elim [List.getElem_mem] | (simp only [szOut] at *; omega))) ⟨⟨⟨rfl, rfl, rfl, rfl, rfl, rfl, rfl, rfl, rfl, rfl, rfl, rfl, rfl, trivial⟩, Nat.le_of_ble_eq_true rfl⟩, trivial⟩ rfl rfl rfl (fun _ => (kMem [(28672, ⟨1, 0, .box [.d _, .d _, .nil 1, .d _, .nil 1, .nil 1, .nil 1, .nil 1, .d _, .d _, .d _, .d _, .nil 7]⟩), (90114, ⟨2, 0, .arr true _⟩), (90116, ⟨2, 0, .arr true _⟩), (90117, ⟨2, 0, .arr true _⟩), (90118, ⟨2, 0, .arr true _⟩), (90119, ⟨2, 0, .arr true _⟩), (90124, ⟨2, 0, .arr true _⟩)] [(6, .c (.ptr 28672 1 0)), (21, .g [.d _, .d _, .arr 90114 2, .d _, .arr 90116 2, .arr 90117 2, .arr 90118 2, .arr 90119 2, .d _, .d _, .d _, .d _, .arr 90124 2])] [] ⟨rfl, rfl, rfl, rfl, rfl, rfl, rfl, trivial⟩ ⟨rfl, rfl, trivial⟩ rfl (kStoreP rfl rfl rfl rfl (kMovC rfl (kDone (kMem [(28672, ⟨1, 0, .box [.d _, .d _, .arr 90114 2, .d _, .arr 90116 2, .arr 90117 2, .arr 90118 2, .arr 90119 2, .d _, .d _, .d _, .d _, .arr 90124 2]⟩), (90114, ⟨2, 0, .arr true _⟩), (90116, ⟨2, 0, .arr true _⟩), (90117, ⟨2, 0, .arr true _⟩), (90118, ⟨2, 0, .arr true _⟩), (90119, ⟨2, 0, .arr true _⟩), (90124, ⟨2, 0, .arr true _⟩)] [(6, .c (.ptr 28672 1 0)), (7, .c (.d _))] [] ⟨rfl, rfl, rfl, rfl, rfl, rfl, rfl, trivial⟩ ⟨rfl, rfl, trivial⟩ rfl (kRet (endRetA (ra := [.agg [(.d _), (.d _), (.own true _), (.d _), (.own true _), (.own true _), (.own true _), (.own true _), (.d _), (.d _), (.d _), (.d _), (.own true _)], .one (.d _)]) rfl rfl))))))))))))))))))))

def c_impl_Task_question : C := (.seq (.reg false (.op 0 [] (some 1) none false (.box 1 (.t 0))
  (.op 1 [] (some 2) none false (.alloc 2 [(.v (.int .i64 0)), (.v (.bool false)), (.v (.int .i64 0)), (.v (.bool false)), (.v (.int .i64 0)), (.n 2), (.n 7), (.n 7), (.n 7), (.n 9), (.n 9)])
  .done)))
 (.seq (.reg true (.op 0 [] (some 3) none true (.fad (.t 1) 1)
  (.op 1 [] (some 4) none true (.load none (.t 3))
  (.op 2 [] (some 5) none true (.fad (.t 1) 4)
  (.op 3 [] (some 6) none true (.load (some 1) (.t 5))
  (.op 5 [] (some 8) none true (.fad (.t 1) 2)
  (.op 6 [] (some 9) none true (.fad (.t 8) 1)
  (.op 7 [] (some 10) none true (.load none (.t 9))
  (.op 4 [3] (some 7) none false (.call 7 63 [(.t 6)])
  (.op 8 [] (some 11) none true (.build [(.n 1), (.v (.int .i64 0))] [(0, 1, (.t 7)), (1, 1, (.t 10))])
  (.op 9 [3, 7] (some 12) none false (.lit 12 2 [(.n 1), (.v (.int .i64 0))] 1 [(0, 2, (.t 11))])
  (.op 10 [] (some 13) none true (.build [(.v (.int .i64 0)), (.v (.bool false)), (.v (.int .i64 0)), (.v (.bool false)), (.v (.int .i64 0)), (.n 2), (.n 7), (.n 7), (.n 7), (.n 9), (.n 9)] [(0, 1, (.t 4)), (5, 1, (.t 12))])
  (.op 11 [1, 3, 7] none none false (.store (some 11) (.t 2) (.t 13))
  .done)))))))))))))
 .ret))
theorem dg_impl_Task_question : Try.f39.body.bind (digC Try.prog Try.f39.ntmps []) = some c_impl_Task_question := by kernel_rfl
theorem rs_impl_Task_question : resSlots Try.prog Try.f39 = some [.m 2 (some 11)] := by kernel_rfl
theorem ok_impl_Task_question (t : Task) (hs : SmallT t) :
    FnOK Try.prog 39 [.agg (t.cells.map .d)] (fun ra _ => ra = [.agg [.d (.sc (.int .i64 t.id)), .d (.sc (.bool false)), .d (.sc (.int .i64 0)), .d (.sc (.bool false)), .d (.sc (.int .i64 0)), .own true (encQ [⟨t.name, t.ftype⟩]), .own true (encR []), .own true (encR []), .own true (encR []), .own true nilW, .own true nilW]]) := by
  refine FnOK.ofK Try.func39 (by kernel_rfl) dg_impl_Task_question rs_impl_Task_question rfl rfl ?_
  unfold c_impl_Task_question
  have n1 := hs.n.len
  have n2 := hs.n.mem
  refine kSeq (kReg (kBox rfl rfl rfl rfl rfl (kAlloc rfl rfl (kDone (kSeq (kRegD (kFadP rfl rfl (kLoadP rfl rfl rfl (kFadP rfl rfl (kLoadP rfl rfl rfl (kFadP rfl rfl (kFadP rfl rfl (kMem [(8192, ⟨1, 0, .box [.d _, .d _, .d _, .d _, .d _, .d _, .d _, .d _, .d _, .d _, .d _, .d _, .d _]⟩), (12288, ⟨1, 0, .box [.d _, .d _, .d _, .d _, .d _, .nil 2, .nil 7, .nil 7, .nil 7, .nil 9, .nil 9]⟩)] [(9, .c (.ptr 8192 1 3)), (6, .g [.d _]), (7, .c (.un)), (10, .c (.un)), (11, .c (.un)), (4, .c (.d _)), (12, .c (.un)), (2, .c (.ptr 12288 1 0)), (13, .c (.un))] [8192, 8192] ⟨rfl, rfl, trivial⟩ ⟨rfl, rfl, rfl, rfl, rfl, rfl, rfl, rfl, rfl, trivial⟩ rfl (kLoadP rfl rfl rfl (kRelK rfl rfl (kCall1 true (ok_impl_Name_copied _ (by first | assumption | omega | solve_by_elim [List.getElem_mem] | (simp only [szOut] at *; omega)) (by first | assumption | omega | solve_by_elim [List.getElem_mem] | (simp only [szOut] at *; omega))) ⟨⟨⟨rfl, trivial⟩, Nat.le_of_ble_eq_true rfl⟩, trivial⟩ rfl rfl rfl (fun _ => (kMem [(32768, ⟨1, 0, .arr true _⟩), (12288, ⟨1, 0, .box [.d _, .d _, .d _, .d _, .d _, .nil 2, .nil 7, .nil 7, .nil 7, .nil 9, .nil 9]⟩)] [(7, .g [.arr 32768 1]), (10, .c (.d _)), (11, .c (.un)), (4, .c (.d _)), (12, .c (.un)), (2, .c (.ptr 12288 1 0)), (13, .c (.un))] [8192, 8192, 8192] ⟨rfl, rfl, trivial⟩ ⟨rfl, rfl, rfl, rfl, rfl, rfl, rfl, trivial⟩ rfl (kBuildG rfl (kRelK rfl rfl (kLit rfl rfl rfl rfl (kMem [(53248, ⟨1, 0, .arr true _⟩), (12288, ⟨1, 0, .box [.d _, .d _, .d _, .d _, .d _, .nil 2, .nil 7, .nil 7, .nil 7, .nil 9, .nil 9]⟩)] [(4, .c (.d _)), (12, .c (.arr 53248 1)), (2, .c (.ptr 12288 1 0)), (13, .c (.un))] [8192, 8192, 8192] ⟨rfl, rfl, trivial⟩ ⟨rfl, rfl, rfl, rfl, trivial⟩ rfl (kBuildG rfl (kMem [(12288, ⟨1, 0, .box [.d _, .d _, .d _, .d _, .d _, .nil 2, .nil 7, .nil 7, .nil 7, .nil 9, .nil 9]⟩), (53248, ⟨1, 0, .arr true _⟩)] [(2, .c (.ptr 12288 1 0)), (13, .g [.d _, .d _, .d _, .d _, .d _, .arr 53248 1, .nil 7, .nil 7, .nil 7, .nil 9, .nil 9])] [8192, 8192, 8192] ⟨rfl, rfl, trivial⟩ ⟨rfl, rfl, trivial⟩ rfl (kRelF rfl rfl (kStoreP rfl rfl rfl rfl (kDone (kH (kMem [(12288, ⟨1, 0, .box [.d _, .d _, .d _, .d _, .d _, .arr 53248 1, .nil 7, .nil 7, .nil 7, .nil 9, .nil 9]⟩), (53248, ⟨1, 0, .arr true _⟩)] [(2, .c (.ptr 12288 1 0))] [] ⟨rfl, rfl, trivial⟩ ⟨rfl, trivial⟩ rfl (kRet (endRetA (ra := [.agg [(.d _), (.d _), (.d _), (.d _), (.d _), (.own true _), (.own true _), (.own true _), (.own true _), (.own true _), (.own true _)]]) rfl rfl)))))))))))))))))))))))))))))))

def c_impl_AskOf : C := (.seq (.reg false (.op 0 [] (some 1) none false (.box 1 (.t 0))
  (.op 1 [] (some 2) none false (.mov (.v (.int .i64 0)))
  (.op 2 [] (some 3) none false (.alloc 3 [(.v (.int .i64 0)), (.v (.bool false)), (.v (.int .i64 0)), (.v (.bool false)), (.v (.int .i64 0)), (.n 2), (.n 7), (.n 7), (.n 7), (.n 9), (.n 9)])
  (.op 3 [] (some 4) none false (.mov (.v (.bool false)))
  .done)))))
 (.seq (.seq (.reg false (.op 0 [] (some 5) none false (.load (some 13) (.t 1))
  (.op 1 [] (some 6) none false (.call 6 36 [(.t 5)])
  (.op 2 [] (some 7) none false (.un .not (.t 6))
  (.op 3 [] (some 8) none false (.mov (.t 7))
  (.op 4 [] (some 9) (some (8, false)) false (.fad (.t 1) 0)
  (.op 5 [] (some 10) (some (8, false)) false (.load none (.t 9))
  (.op 6 [] (some 11) (some (8, false)) false (.bin .eql (.t 10) (.v (.int .i64 1)))
  (.op 7 [] (some 12) none false (.pick (.t 8) (.v (.bool true)) (.t 11))
  .done)))))))))
 (.cond (.t 12)
 (.seq (.reg false (.op 0 [] (some 13) none false (.build [(.v (.int .i64 0)), (.v (.bool false)), (.v (.int .i64 0)), (.v (.bool false)), (.v (.int .i64 0)), (.n 2), (.n 7), (.n 7), (.n 7), (.n 9), (.n 9)] [])
  (.op 1 [] (some 2) none false (.mov (.v (.int .i64 0)))
  (.op 2 [] none none false (.store (some 11) (.t 3) (.t 13))
  (.op 3 [] (some 4) none false (.mov (.v (.bool false)))
  .done)))))
 .ret)
 .skip))
 (.seq (.reg true (.op 0 [] (some 14) none true (.fad (.t 1) 7)
  (.op 1 [] (some 15) none true (.load none (.t 14))
  (.op 2 [] (some 16) none true (.fad (.t 1) 8)
  (.op 3 [] (some 17) none true (.load none (.t 16))
  (.op 4 [] (some 18) none true (.iad 1 (.t 15) (.t 17))
  (.op 5 [] (some 19) none true (.load none (.t 18))
  (.op 6 [] (some 20) none true (.load (some 13) (.t 1))
  (.op 7 [6] (some 21) none false (.call 21 39 [(.t 20)])
  (.op 8 [] (some 2) none true (.mov (.t 19))
  (.op 9 [6, 5, 1, 3] none none false (.store (some 11) (.t 3) (.t 21))
  (.op 10 [] (some 4) none true (.mov (.v (.bool true)))
  .done))))))))))))
 .ret)))
theorem dg_impl_AskOf : Try.f21.body.bind (digC Try.prog Try.f21.ntmps []) = some c_impl_AskOf := by kernel_rfl
theorem rs_impl_AskOf : resSlots Try.prog Try.f21 = some [.s 2, .m 3 (some 11), .s 4] := by kernel_rfl
theorem ok_impl_AskOf (t : Task) (hs : SmallT t) :
    FnOK Try.prog 21 [.agg (t.cells.map .d)] (fun ra _ => ra = [.one (.d (.sc (.int .i64 (askIp t)))), .agg [.d (.sc (.int .i64 (askId t))), .d (.sc (.bool false)), .d (.sc (.int .i64 0)), .d (.sc (.bool false)), .d (.sc (.int .i64 0)), .own true (encQ (askQs t)), .own true (encR []), .own true (encR []), .own true (encR []), .own true nilW, .own true nilW], .one (.d (.sc (.bool (askOk t))))]) := by
  refine FnOK.ofK Try.func21 (by kernel_rfl) dg_impl_AskOf rs_impl_AskOf rfl rfl ?_
  unfold c_impl_AskOf
  have s1 := hs.s
  cases h : askOk t
  · rw [show askIp t = 0 by simp [askIp, h], show askId t = 0 by simp [askId, h], show askQs t = [] by simp [askQs, h]]
    unfold askOk at h
    refine kSeq (kReg (kBox rfl rfl rfl rfl rfl (kMovC rfl (kAlloc rfl rfl (kMovC rfl (kDone (kSeq (kSeq (kReg (kLoadP rfl rfl rfl (kCallD (ok_impl_TaskOk _ (by first | assumption | omega | solve_by_elim [List.getElem_mem] | (simp only [szOut] at *; omega))) ⟨⟨⟨rfl, rfl, rfl, rfl, rfl, rfl, rfl, rfl, rfl, rfl, rfl, rfl, rfl, trivial⟩, Nat.le_of_ble_eq_true rfl⟩, trivial⟩ rfl rfl rfl rfl rfl (kUn rfl rfl (kMovC rfl (kGN rfl (fun g0 => kMem [(8192, ⟨1, 0, .box [.d _, .d _, .d _, .d _, .d _, .d _, .d _, .d _, .d _, .d _, .d _, .d _, .d _]⟩)] [(1, .c (.ptr 8192 1 0)), (9, .c (.un)), (10, .c (.un)), (8, .c (.d _)), (11, .c (.un))] [] ⟨rfl, trivial⟩ ⟨rfl, rfl, rfl, rfl, rfl, trivial⟩ rfl (kGF rfl (kGF rfl (kGF rfl (kPickT rfl (kMovC rfl (kDone (kCondT rfl (kSeq (kReg (kMem [(16384, ⟨1, 0, .box [.d _, .d _, .d _, .d _, .d _, .nil 2, .nil 7, .nil 7, .nil 7, .nil 9, .nil 9]⟩)] [(3, .c (.ptr 16384 1 0)), (13, .c (.un))] [] ⟨rfl, trivial⟩ ⟨rfl, rfl, trivial⟩ rfl (kBuildG rfl (kMovC rfl (kMem [(16384, ⟨1, 0, .box [.d _, .d _, .d _, .d _, .d _, .nil 2, .nil 7, .nil 7, .nil 7, .nil 9, .nil 9]⟩)] [(3, .c (.ptr 16384 1 0)), (13, .g [.d _, .d _, .d _, .d _, .d _, .nil 2, .nil 7, .nil 7, .nil 7, .nil 9, .nil 9])] [] ⟨rfl, trivial⟩ ⟨rfl, rfl, trivial⟩ rfl (kStoreP rfl rfl rfl rfl (kMovC rfl (kDone (kMem [(16384, ⟨1, 0, .box [.d _, .d _, .d _, .d _, .d _, .nil 2, .nil 7, .nil 7, .nil 7, .nil 9, .nil 9]⟩)] [(2, .c (.d _)), (3, .c (.ptr 16384 1 0)), (4, .c (.d _))] [] ⟨rfl, trivial⟩ ⟨rfl, rfl, rfl, trivial⟩ rfl (kRet (endRetA (ra := [.one (.d _), .agg [(.d _), (.d _), (.d _), (.d _), (.d _), (.own true _), (.own true _), (.own true _), (.own true _), (.own true _), (.own true _)], .one (.d _)]) rfl rfl)))))))))))))))))))) (fun g0 => kMem [(8192, ⟨1, 0, .box [.d _, .d _, .d _, .d _, .d _, .d _, .d _, .d _, .d _, .d _, .d _, .d _, .d _]⟩)] [(1, .c (.ptr 8192 1 0)), (9, .c (.un)), (10, .c (.un)), (8, .c (.d _)), (11, .c (.un))] [] ⟨rfl, trivial⟩ ⟨rfl, rfl, rfl, rfl, rfl, trivial⟩ rfl (kGT rfl (kFadP rfl rfl (kGT rfl (kLoadP rfl rfl rfl (kGT rfl (kBin rfl rfl rfl (kPickF rfl (kMovC rfl (kDone (kCondP rfl (fun g1 => kSeq (kReg (kMem [(16384, ⟨1, 0, .box [.d _, .d _, .d _, .d _, .d _, .nil 2, .nil 7, .nil 7, .nil 7, .nil 9, .nil 9]⟩)] [(3, .c (.ptr 16384 1 0)), (13, .c (.un))] [] ⟨rfl, trivial⟩ ⟨rfl, rfl, trivial⟩ rfl (kBuildG rfl (kMovC rfl (kMem [(16384, ⟨1, 0, .box [.d _, .d _, .d _, .d _, .d _, .nil 2, .nil 7, .nil 7, .nil 7, .nil 9, .nil 9]⟩)] [(3, .c (.ptr 16384 1 0)), (13, .g [.d _, .d _, .d _, .d _, .d _, .nil 2, .nil 7, .nil 7, .nil 7, .nil 9, .nil 9])] [] ⟨rfl, trivial⟩ ⟨rfl, rfl, trivial⟩ rfl (kStoreP rfl rfl rfl rfl (kMovC rfl (kDone (kMem [(16384, ⟨1, 0, .box [.d _, .d _, .d _, .d _, .d _, .nil 2, .nil 7, .nil 7, .nil 7, .nil 9, .nil 9]⟩)] [(2, .c (.d _)), (3, .c (.ptr 16384 1 0)), (4, .c (.d _))] [] ⟨rfl, trivial⟩ ⟨rfl, rfl, rfl, trivial⟩ rfl (kRet (endRetA (ra := [.one (.d _), .agg [(.d _), (.d _), (.d _), (.d _), (.d _), (.own true _), (.own true _), (.own true _), (.own true _), (.own true _), (.own true _)], .one (.d _)]) rfl rfl)))))))))))) (fun g1 => kSkip (kSeq (kRegD (kFadP rfl rfl (kLoadP rfl rfl rfl (kFadP rfl rfl (kLoadP rfl rfl rfl ?_))))))))))))))))))))))))))))))))
    all_goals simp_all
  · have h' := h
    unfold askOk at h'
    simp only [Bool.and_eq_true] at h'
    obtain ⟨a1, a2⟩ := h'
    have ht := task_turn a1
    have hst : t.state ≠ 1 := by simpa using a2
    have hget : t.servers.getD t.turn.toNat 0 = t.servers[t.turn.toNat]'(by omega) := by
      rw [List.getD_eq_getElem?_getD, List.getElem?_eq_getElem (by omega)]; rfl
    rw [show askIp t = t.servers[t.turn.toNat]'(by omega) by unfold askIp; rw [h, if_pos rfl, hget], show askId t = t.id by simp [askId, h], show askQs t = [⟨t.name, t.ftype⟩] by simp [askQs, h]]
    refine kSeq (kReg (kBox rfl rfl rfl rfl rfl (kMovC rfl (kAlloc rfl rfl (kMovC rfl (kDone (kSeq (kSeq (kReg (kLoadP rfl rfl rfl (kCallD (ok_impl_TaskOk _ (by first | assumption | omega | solve_by_elim [List.getElem_mem] | (simp only [szOut] at *; omega))) ⟨⟨⟨rfl, rfl, rfl, rfl, rfl, rfl, rfl, rfl, rfl, rfl, rfl, rfl, rfl, trivial⟩, Nat.le_of_ble_eq_true rfl⟩, trivial⟩ rfl rfl rfl rfl rfl (kUn rfl rfl (kMovC rfl (kGN rfl (fun g0 => (by (simp [*] at g0))) (fun g0 => kMem [(8192, ⟨1, 0, .box [.d _, .d _, .d _, .d _, .d _, .d _, .d _, .d _, .d _, .d _, .d _, .d _, .d _]⟩)] [(1, .c (.ptr 8192 1 0)), (9, .c (.un)), (10, .c (.un)), (8, .c (.d _)), (11, .c (.un))] [] ⟨rfl, trivial⟩ ⟨rfl, rfl, rfl, rfl, rfl, trivial⟩ rfl (kGT rfl (kFadP rfl rfl (kGT rfl (kLoadP rfl rfl rfl (kGT rfl (kBin rfl rfl rfl (kPickF rfl (kMovC rfl (kDone (kCondP rfl (fun g1 => (by omega)) (fun g1 => kSkip (kSeq (kRegD (kFadP rfl rfl (kLoadP rfl rfl rfl (kFadP rfl rfl (kLoadP rfl rfl rfl (kIadT rfl rfl (by omega) (kMem [(8192, ⟨1, 0, .box [.d _, .d _, .d _, .d _, .d _, .d _, .d _, .d _, .d _, .d _, .d _, .d _, .d _]⟩), (16384, ⟨1, 0, .box [.d _, .d _, .d _, .d _, .d _, .nil 2, .nil 7, .nil 7, .nil 7, .nil 9, .nil 9]⟩)] [(1, .c (.ptr 8192 1 0)), (20, .c (.un)), (19, .c (.un)), (3, .c (.ptr 16384 1 0)), (21, .c (.un))] [8192, 8192] ⟨rfl, rfl, trivial⟩ ⟨rfl, rfl, rfl, rfl, rfl, trivial⟩ rfl (kLoadD rfl rfl (kLoadP rfl rfl rfl (kRelK rfl rfl (kCall1 true (ok_impl_Task_question _ (by first | assumption | omega | solve_by_elim [List.getElem_mem] | (simp only [szOut] at *; omega))) ⟨⟨⟨rfl, rfl, rfl, rfl, rfl, rfl, rfl, rfl, rfl, rfl, rfl, rfl, rfl, trivial⟩, Nat.le_of_ble_eq_true rfl⟩, trivial⟩ rfl rfl rfl (fun _ => (kMovC rfl (kMem [(16384, ⟨1, 0, .box [.d _, .d _, .d _, .d _, .d _, .nil 2, .nil 7, .nil 7, .nil 7, .nil 9, .nil 9]⟩), (90117, ⟨1, 0, .arr true _⟩), (90118, ⟨1, 0, .arr true _⟩), (90119, ⟨1, 0, .arr true _⟩), (90120, ⟨1, 0, .arr true _⟩), (90121, ⟨1, 0, .arr true _⟩), (90122, ⟨1, 0, .arr true _⟩)] [(3, .c (.ptr 16384 1 0)), (21, .g [.d _, .d _, .d _, .d _, .d _, .arr 90117 1, .arr 90118 1, .arr 90119 1, .arr 90120 1, .arr 90121 1, .arr 90122 1])] [8192, 8192, 8192] ⟨rfl, rfl, rfl, rfl, rfl, rfl, rfl, trivial⟩ ⟨rfl, rfl, trivial⟩ rfl (kRelF rfl rfl (kStoreP rfl rfl rfl rfl (kMovC rfl (kDone (kH (kMem [(16384, ⟨1, 0, .box [.d _, .d _, .d _, .d _, .d _, .arr 90117 1, .arr 90118 1, .arr 90119 1, .arr 90120 1, .arr 90121 1, .arr 90122 1]⟩), (90117, ⟨1, 0, .arr true _⟩), (90118, ⟨1, 0, .arr true _⟩), (90119, ⟨1, 0, .arr true _⟩), (90120, ⟨1, 0, .arr true _⟩), (90121, ⟨1, 0, .arr true _⟩), (90122, ⟨1, 0, .arr true _⟩)] [(2, .c (.d _)), (3, .c (.ptr 16384 1 0)), (4, .c (.d _))] [] ⟨rfl, rfl, rfl, rfl, rfl, rfl, rfl, trivial⟩ ⟨rfl, rfl, rfl, trivial⟩ rfl (kRet (endRetA (ra := [.one (.d _), .agg [(.d _), (.d _), (.d _), (.d _), (.d _), (.own true _), (.own true _), (.own true _), (.own true _), (.own true _), (.own true _)], .one (.d _)]) rfl rfl)))))))))))))))))))))))))))))))))))))))))))))))))

def c_spec_l2text : C := (.seq (.reg false (.op 0 [] (some 1) none false (.box 1 (.t 0))
  (.op 1 [] (some 2) none false (.mov (.n 1))
  .done)))
 (.seq (.seq (.reg false (.op 0 [] (some 5) none false (.fad (.t 1) 0)
  (.op 1 [] (some 6) none false (.load none (.t 5))
  (.op 2 [] (some 7) none false (.len (.t 6))
  (.op 3 [] (some 8) none false (.bin .eql (.t 7) (.v (.int .i64 0)))
  .done)))))
 (.cond (.t 8)
 (.seq (.reg false (.op 0 [] (some 9) none false (.lit 9 1 [(.v (.int .u8 0))] 1 [(0, 1, (.v (.int .u8 46)))])
  (.op 1 [] (some 10) none false (.s2s (.t 9))
  (.op 2 [] (some 2) none false (.mov (.t 10))
  .done))))
 .ret)
 .skip))
 (.seq (.reg false (.op 0 [] (some 3) none false (.mov (.n 1))
  .done))
 (.seq (.seq (.reg false (.op 0 [] (some 4) none false (.mov (.v (.int .i64 0)))
  .done))
 (.block 0 (.loop (.seq (.seq (.reg false (.op 0 [] (some 11) none false (.mov (.t 4))
  (.op 1 [] (some 12) none false (.fad (.t 1) 0)
  (.op 2 [] (some 13) none false (.load none (.t 12))
  (.op 3 [] (some 14) none false (.len (.t 13))
  (.op 4 [] (some 15) none false (.bin .lss (.t 11) (.t 14))
  .done))))))
 (.cond (.t 15)
 .skip
 (.exit 0)))
 (.seq (.block 1 (.reg false (.op 0 [] (some 18) none false (.mov (.t 3))
  (.op 1 [] (some 19) none false (.fad (.t 1) 0)
  (.op 2 [] (some 20) none false (.load none (.t 19))
  (.op 3 [] (some 21) none false (.mov (.t 4))
  (.op 4 [] (some 22) none false (.iad 1 (.t 20) (.t 21))
  (.op 5 [] (some 23) none false (.load none (.t 22))
  (.op 6 [] (some 24) none false (.app 24 1 1 (.t 18) (.t 23))
  (.op 7 [] (some 25) none false (.lit 25 1 [(.v (.int .u8 0))] 1 [(0, 1, (.v (.int .u8 46)))])
  (.op 8 [] (some 26) none false (.app 26 1 1 (.t 24) (.t 25))
  (.op 9 [] (some 3) none false (.mov (.t 26))
  .done))))))))))))
 (.reg false (.op 0 [] (some 16) none false (.mov (.t 4))
  (.op 1 [] (some 17) none false (.bin .add (.t 16) (.v (.int .i64 1)))
  (.op 2 [] (some 4) none false (.mov (.t 17))
  .done)))))))))
 (.seq (.reg false (.op 0 [] (some 27) none false (.mov (.t 3))
  (.op 1 [] (some 2) none false (.mov (.t 27))
  .done)))
 .ret)))))
theorem dg_spec_l2text : Try.f69.body.bind (digC Try.prog Try.f69.ntmps []) = some c_spec_l2text := by kernel_rfl
theorem rs_spec_l2text : resSlots Try.prog Try.f69 = some [.s 2] := by kernel_rfl
theorem ok_spec_l2text (a : List (List UInt8)) (ha : SmallBB a) :
    FnOK Try.prog 69 [.agg [.d (encBB a)]] (fun ra _ => ra = [.one (.d (encB (textN a)))]) := by
  refine FnOK.ofK Try.func69 (by kernel_rfl) dg_spec_l2text rs_spec_l2text rfl rfl ?_
  unfold c_spec_l2text
  have a1 := ha.len
  have a2 := ha.flat
  refine kSeq (kReg (kBox rfl rfl rfl rfl rfl (kMovC rfl (kDone (kSeq (kSeq (kReg (kFadP rfl rfl (kLoadP rfl rfl rfl (kLenR rfl rfl (kBin rfl rfl rfl (kDone (kCondP rfl (fun g0 => kSeq (kReg (kLitG rfl rfl rfl rfl (kS2sB (y := 46) (ys := []) rfl rfl rfl (kMovC rfl (kDone (kRet (endRetA (ra := [.one (.d _)]) rfl ?_)))))))) (fun g0 => kSkip (kSeq (kReg (kMovC rfl (kDone (kSeq (kSeq (kReg (kMovC rfl (kDone (kBlock ?_))))))))))))))))))))))))
  · have : a = [] := List.eq_nil_of_length_eq_zero (by omega)
    subst this; rfl
  have hne : a ≠ [] := fun h => g0 (by rw [h]; rfl)
  rw [show textN a = textL a by unfold textN; rw [if_neg hne]]
  refine kSub (Sub.nilArr (j := 3) (id := rid 5000 0) (sz := 1) rfl (by decide)) ?_
  refine kLoop (α := { i : Nat // i ≤ a.length }) (fun y => ⟨tabSl [(1, .c (.ptr (rid 1 0) 1 0)), (3, .c (.arr (rid 5000 0) 1)), (4, .i y.1)], obTab 1 [(rid 1 0, ⟨1, 0, .box [.d (encBB a)]⟩), (rid 5000 0, ⟨1, 0, .arr true (encB (textL (a.take y.1)))⟩)], []⟩) (fun y => a.length - y.1) ⟨0, by simp⟩ .normA ?_
  rintro ⟨i, hi⟩
  simp only
  have hle := textL_le a i
  rcases Nat.lt_or_ge i a.length with hlt | hge
  · have hst := textL_take a i hlt
    have hle2 := textL_le a (i + 1)
    have hle3 : (textL (a.take (i + 1))).length = (textL (a.take i)).length + a[i].length + 1 := by rw [hst]; simp only [List.length_append, List.length_cons, List.length_nil]
    refine kSeq (kSeq (kReg (kMovC rfl (kFadP rfl rfl (kLoadP rfl rfl rfl (kLenR rfl rfl (kBin rfl rfl rfl (kDone (kCondP rfl (fun g0 => kSkip (kSeq (kBlock (kReg (kMovC rfl (kFadP rfl rfl (kLoadP rfl rfl rfl (kMovC rfl (kIadR rfl rfl rfl (by omega) (kMem [(20484096, ⟨1, 0, .arr true _⟩)] [(18, .c (.arr 20484096 1))] [] ⟨rfl, trivial⟩ ⟨rfl, trivial⟩ rfl (kLoadD rfl rfl (kAppR rfl rfl rfl (src_encB _ _) rfl rfl rfl rfl (by first | omega | (simp only [List.length_append, List.length_cons, List.length_nil]; omega)) (kLitG rfl rfl rfl rfl (kAppR1 (z := (46 : UInt8)) rfl rfl rfl rfl rfl rfl rfl rfl (by first | omega | (simp only [List.length_append, List.length_cons, List.length_nil]; omega)) (kMovC rfl (kDone (kBk (kReg (kMovC rfl (kAdd rfl rfl (by omega) (kMovC rfl (kDone ?_)))))))))))))))))))))) (fun g0 => (by omega)))))))))))
    refine kInv ⟨⟨i + 1, by omega⟩, by simp only; omega, ?_⟩
    simp only [hst]
    exact .normA
  · refine kSeq (kSeq (kReg (kMovC rfl (kFadP rfl rfl (kLoadP rfl rfl rfl (kLenR rfl rfl (kBin rfl rfl rfl (kDone (kCondP rfl (fun g0 => (by omega)) (fun g0 => kExit (kExC (kExI (kExB (kSeq (kReg (kMovC rfl (kMovC rfl (kDone (kMem [(20484096, ⟨1, 0, .arr true _⟩)] [(2, .c (.arr 20484096 1))] [] ⟨rfl, trivial⟩ ⟨rfl, trivial⟩ rfl (kRet (endRetA (ra := [.one (.d _)]) rfl ?_)))))))))))))))))))))
    rw [show i = a.length by omega, List.take_length]

def c_spec_NameText : C := (.seq (.reg false (.op 0 [] (some 1) none false (.box 1 (.t 0))
  (.op 1 [] (some 2) none false (.mov (.n 1))
  .done)))
 (.seq (.seq (.reg false (.op 0 [] (some 3) none false (.load (some 1) (.t 1))
  (.op 1 [] (some 4) none false (.call 4 44 [(.t 3)])
  (.op 2 [] (some 5) none false (.un .not (.t 4))
  .done))))
 (.cond (.t 5)
 (.seq (.reg false (.op 0 [] (some 2) none false (.mov (.n 1))
  .done))
 .ret)
 .skip))
 (.seq (.reg false (.op 0 [] (some 6) none false (.load (some 1) (.t 1))
  (.op 1 [] (some 7) none false (.call 7 69 [(.t 6)])
  (.op 2 [] (some 2) none false (.mov (.t 7))
  .done))))
 .ret)))
theorem dg_spec_NameText : Try.f41.body.bind (digC Try.prog Try.f41.ntmps []) = some c_spec_NameText := by kernel_rfl
theorem rs_spec_NameText : resSlots Try.prog Try.f41 = some [.s 2] := by kernel_rfl
theorem ok_spec_NameText (a : List (List UInt8)) (ha : SmallBB a) :
    FnOK Try.prog 41 [.agg [.d (encBB a)]] (fun ra _ => ra = [.one (.d (encB (if nameOk a then textN a else [])))]) := by
  refine FnOK.ofK Try.func41 (by kernel_rfl) dg_spec_NameText rs_spec_NameText rfl rfl ?_
  unfold c_spec_NameText
  have a1 := ha.len
  have a2 := ha.mem
  cases hno : nameOk a
  · refine kSeq (kReg (kBox rfl rfl rfl rfl rfl (kMovC rfl (kDone (kSeq (kSeq (kReg (kLoadP rfl rfl rfl (kCallD (ok_spec_NameOk _ (by first | assumption | omega | solve_by_elim [List.getElem_mem] | (simp only [szOut] at *; omega) | exact rfl | exact Nat.le_of_ble_eq_true rfl) (by first | assumption | omega | solve_by_elim [List.getElem_mem] | (simp only [szOut] at *; omega) | exact rfl | exact Nat.le_of_ble_eq_true rfl)) ⟨⟨⟨rfl, trivial⟩, Nat.le_of_ble_eq_true rfl⟩, trivial⟩ rfl rfl rfl rfl rfl (kUn rfl rfl (kDone (kCondN rfl (fun g0 => kSeq (kReg (kMovC rfl (kDone (kRet (endRetA (ra := [.one (.d _)]) rfl rfl)))))) (fun g0 => (by (simp [*] at g0)))))))))))))))
    all_goals rfl
  · refine kSeq (kReg (kBox rfl rfl rfl rfl rfl (kMovC rfl (kDone (kSeq (kSeq (kReg (kLoadP rfl rfl rfl (kCallD (ok_spec_NameOk _ (by first | assumption | omega | solve_by_elim [List.getElem_mem] | (simp only [szOut] at *; omega) | exact rfl | exact Nat.le_of_ble_eq_true rfl) (by first | assumption | omega | solve_by_elim [List.getElem_mem] | (simp only [szOut] at *; omega) | exact rfl | exact Nat.le_of_ble_eq_true rfl)) ⟨⟨⟨rfl, trivial⟩, Nat.le_of_ble_eq_true rfl⟩, trivial⟩ rfl rfl rfl rfl rfl (kUn rfl rfl (kDone (kCondN rfl (fun g0 => (by (simp [*] at g0))) (fun g0 => kSkip (kSeq (kReg (kLoadP rfl rfl rfl (kCallD2 (ok_spec_l2text _ (by first | assumption | omega | solve_by_elim [List.getElem_mem] | (simp only [szOut] at *; omega) | exact rfl | exact Nat.le_of_ble_eq_true rfl)) ⟨⟨⟨rfl, trivial⟩, Nat.le_of_ble_eq_true rfl⟩, trivial⟩ rfl rfl rfl rfl (kMovC rfl (kDone (kRet (endRetA (ra := [.one (.d _)]) rfl rfl)))))))))))))))))))))
    all_goals rfl

def c_laws_same : C := (.seq (.reg false (.op 0 [] (some 4) none false (.mov (.v (.bool false)))
  .done))
 (.seq (.reg false (.op 0 [] (some 5) none false (.mov (.t 0))
  (.op 1 [] (some 6) none false (.b2s (.t 5))
  (.op 2 [] (some 7) none false (.mov (.t 1))
  (.op 3 [] (some 8) none false (.b2s (.t 7))
  (.op 4 [] (some 9) none false (.bin .eql (.t 6) (.t 8))
  (.op 5 [] (some 4) none false (.mov (.t 9))
  .done)))))))
 .ret))
theorem dg_laws_same : Try.f40.body.bind (digC Try.prog Try.f40.ntmps []) = some c_laws_same := by kernel_rfl
theorem rs_laws_same : resSlots Try.prog Try.f40 = some [.s 4] := by kernel_rfl
theorem ok_laws_same (a b : List UInt8) :
    FnOK Try.prog 40 [.one (.d (encB a)), .one (.d (encB b))] (fun ra _ => ra = [.one (.d (.sc (.bool (decide (a = b)))))]) := by
  refine FnOK.ofK Try.func40 (by kernel_rfl) dg_laws_same rs_laws_same rfl rfl ?_
  unfold c_laws_same
  refine kSeq (kReg (kMovC rfl (kDone (kSeq (kReg (kMovC rfl (kB2s rfl rfl (kMovC rfl (kB2s rfl rfl (kBin rfl rfl rfl (kMovC rfl (kDone (kRet (endRetA (ra := [.one (.d _)]) rfl ?_))))))))))))))
  refine congrArg (fun z : Bool => [RA.one (RV.d (DV.sc (Value.bool z)))]) ?_
  rw [ByteArray.toList_eq, ByteArray.toList_eq, Bool.eq_iff_iff]
  simp

def c_laws_sameName : C := (.seq (.reg false (.op 0 [] (some 2) none false (.box 2 (.t 0))
  (.op 1 [] (some 3) none false (.box 3 (.t 1))
  (.op 2 [] (some 4) none false (.mov (.v (.bool false)))
  .done))))
 (.seq (.reg true (.op 0 [] (some 5) none true (.load (some 1) (.t 2))
  (.op 2 [] (some 7) none true (.load (some 1) (.t 3))
  (.op 1 [0] (some 6) none false (.call 6 41 [(.t 5)])
  (.op 3 [2, 0] (some 8) none false (.call 8 41 [(.t 7)])
  (.op 4 [0, 2] (some 9) none false (.call 9 40 [(.t 6), (.t 8)])
  (.op 5 [] (some 4) none true (.mov (.t 9))
  .done)))))))
 .ret))
theorem dg_laws_sameName : Try.f22.body.bind (digC Try.prog Try.f22.ntmps []) = some c_laws_sameName := by kernel_rfl
theorem rs_laws_sameName : resSlots Try.prog Try.f22 = some [.s 4] := by kernel_rfl
theorem ok_laws_sameName (a b : List (List UInt8)) (ha : SmallBB a) (hb : SmallBB b) :
    FnOK Try.prog 22 [.agg [.d (encBB a)], .agg [.d (encBB b)]] (fun ra _ => ra = [.one (.d (.sc (.bool (decide ((if nameOk a then textN a else []) = (if nameOk b then textN b else []))))))]) := by
  refine FnOK.ofK Try.func22 (by kernel_rfl) dg_laws_sameName rs_laws_sameName rfl rfl ?_
  unfold c_laws_sameName
  refine kSeq (kReg (kBox rfl rfl rfl rfl rfl (kBox rfl rfl rfl rfl rfl (kMovC rfl (kDone (kSeq (kRegD (kLoadP rfl rfl rfl (kLoadP rfl rfl rfl (kRelK rfl rfl (kCallD2 (ok_spec_NameText _ (by first | assumption | omega | solve_by_elim [List.getElem_mem] | (simp only [szOut] at *; omega) | exact rfl | exact Nat.le_of_ble_eq_true rfl)) ⟨⟨⟨rfl, trivial⟩, Nat.le_of_ble_eq_true rfl⟩, trivial⟩ rfl rfl rfl rfl (kRelF rfl rfl (kCallD2 (ok_spec_NameText _ (by first | assumption | omega | solve_by_elim [List.getElem_mem] | (simp only [szOut] at *; omega) | exact rfl | exact Nat.le_of_ble_eq_true rfl)) ⟨⟨⟨rfl, trivial⟩, Nat.le_of_ble_eq_true rfl⟩, trivial⟩ rfl rfl rfl rfl (kRelF rfl rfl (kCallD (ok_laws_same _ _) ⟨rfl, rfl, trivial⟩ rfl rfl rfl rfl rfl (kMovC rfl (kDone (kH (kRet (endRetA (ra := [.one (.d _)]) rfl rfl))))))))))))))))))))

def c_laws_tasks : C := (.seq (.reg false (.op 0 [] (some 0) none false (.mov (.v (.bool false)))
  .done))
 (.seq (.reg false (.op 0 [] (some 7) none false (.call 7 20 [(.v (.string ⟨#[97, 46]⟩))])
  (.op 1 [] (some 8) none false (.build [(.n 1), (.v (.int .i64 0))] [(0, 1, (.t 7)), (1, 1, (.v (.int .i64 1)))])
  (.op 2 [] (some 9) none false (.lit 9 1 [(.v (.int .i64 0))] 1 [(0, 1, (.v (.int .i64 1)))])
  (.op 3 [] (some 10) none false (.call 10 19 [(.t 8), (.t 9), (.v (.int .i64 5))])
  (.op 4 [] (some 6) none false (.mov (.t 10))
  (.op 5 [] (some 11) none false (.ext (.t 6) 0)
  (.op 6 [] (some 12) none false (.ext (.t 6) 1)
  (.op 7 [] (some 1) none false (.alloc 1 [(.v (.int .i64 0)), (.v (.int .i64 0)), (.n 1), (.v (.int .i64 0)), (.n 1), (.n 1), (.n 1), (.n 1), (.v (.int .i64 0)), (.v (.int .i64 0)), (.v (.int .i64 0)), (.v (.int .i64 0)), (.n 7)])
  (.op 8 [] none none false (.store (some 13) (.t 1) (.t 11))
  (.op 9 [] (some 2) none false (.mov (.t 12))
  .done)))))))))))
 (.seq (.reg false (.op 0 [] (some 14) none false (.load (some 13) (.t 1))
  (.op 1 [] (some 15) none false (.call 15 21 [(.t 14)])
  (.op 2 [] (some 13) none false (.mov (.t 15))
  (.op 3 [] (some 16) none false (.ext (.t 13) 0)
  (.op 4 [] (some 17) none false (.ext (.t 13) 1)
  (.op 5 [] (some 18) none false (.ext (.t 13) 2)
  (.op 6 [] (some 4) none false (.alloc 4 [(.v (.int .i64 0)), (.v (.bool false)), (.v (.int .i64 0)), (.v (.bool false)), (.v (.int .i64 0)), (.n 2), (.n 7), (.n 7), (.n 7), (.n 9), (.n 9)])
  (.op 7 [] (some 3) none false (.mov (.t 16))
  (.op 8 [] none none false (.store (some 11) (.t 4) (.t 17))
  (.op 9 [] (some 5) none false (.mov (.t 18))
  .done)))))))))))
 (.seq (.reg true (.op 0 [] (some 19) none true (.mov (.t 2))
  (.op 1 [] (some 20) none true (.mov (.t 19))
  (.op 2 [] (some 21) (some (20, true)) true (.mov (.t 5))
  (.op 3 [] (some 22) none true (.pick (.t 20) (.t 21) (.v (.bool false)))
  (.op 4 [] (some 23) none true (.mov (.t 22))
  (.op 5 [] (some 24) (some (23, true)) true (.mov (.t 3))
  (.op 6 [] (some 25) (some (23, true)) true (.bin .eql (.t 24) (.v (.int .i64 1)))
  (.op 7 [] (some 26) none true (.pick (.t 23) (.t 25) (.v (.bool false)))
  (.op 8 [] (some 27) none true (.mov (.t 26))
  (.op 9 [] (some 28) (some (27, true)) true (.fad (.t 4) 0)
  (.op 10 [] (some 29) (some (27, true)) true (.load none (.t 28))
  (.op 11 [] (some 30) (some (27, true)) true (.bin .eql (.t 29) (.v (.int .i64 5)))
  (.op 12 [] (some 31) none true (.pick (.t 27) (.t 30) (.v (.bool false)))
  (.op 13 [] (some 32) none true (.mov (.t 31))
  (.op 14 [] (some 33) (some (32, true)) true (.fad (.t 4) 5)
  (.op 15 [] (some 34) (some (32, true)) true (.load none (.t 33))
  (.op 16 [] (some 35) (some (32, true)) true (.iad 2 (.t 34) (.v (.int .i64 0)))
  (.op 17 [] (some 36) (some (32, true)) true (.fad (.t 35) 0)
  (.op 18 [] (some 37) (some (32, true)) true (.load (some 1) (.t 36))
  (.op 19 [10] (some 38) (some (32, true)) false (.call 38 20 [(.v (.string ⟨#[97, 46]⟩))])
  (.op 20 [18, 15, 10] (some 39) (some (32, true)) false (.call 39 22 [(.t 37), (.t 38)])
  (.op 21 [] (some 40) none true (.pick (.t 32) (.t 39) (.v (.bool false)))
  (.op 22 [] (some 0) none true (.mov (.t 40))
  .done))))))))))))))))))))))))
 .ret))))
theorem dg_laws_tasks : Try.f6.body.bind (digC Try.prog Try.f6.ntmps []) = some c_laws_tasks := by kernel_rfl
theorem rs_laws_tasks : resSlots Try.prog Try.f6 = some [.s 0] := by kernel_rfl
theorem ok_laws_tasks : FnOK Try.prog 6 [] (fun ra _ => ra = [.one (.d (.sc (.bool true)))]) := by
  refine FnOK.ofK Try.func6 (by kernel_rfl) dg_laws_tasks rs_laws_tasks rfl rfl ?_
  unfold c_laws_tasks
  have e : readN (ByteArray.mk #[97, 46]).toList = [[97]] := by rw [bt_list]; decide
  have sa : SmallBB [[97]] := SmallBB.ok (by decide)
  have ok := ok_laws_name ⟨#[97, 46]⟩ (by decide)
  rw [e] at ok
  have ok2 := ok_impl_Begin [[97]] 1 [1] 5 sa (by decide)
  rw [show beginN [[97]] 1 [1] 5 = askT [[97]] 1 [1] 5 by decide, show taskOk (askT [[97]] 1 [1] 5) = true by decide] at ok2
  have ok3 := ok_impl_AskOf (askT [[97]] 1 [1] 5) ⟨sa, sa, .nil, by decide, by decide, .nil⟩
  rw [show askIp (askT [[97]] 1 [1] 5) = 1 by decide, show askId (askT [[97]] 1 [1] 5) = 5 by decide, show askQs (askT [[97]] 1 [1] 5) = [⟨[[97]], 1⟩] by decide, show askOk (askT [[97]] 1 [1] 5) = true by decide] at ok3
  have e2 : decide ((if nameOk [[97]] then textN [[97]] else []) = (if nameOk (readN (ByteArray.mk #[97, 46]).toList) then textN (readN (ByteArray.mk #[97, 46]).toList) else [])) = true := by rw [e]; rfl
  have ok4 := ok_laws_sameName [[97]] (readN (ByteArray.mk #[97, 46]).toList) sa (by rw [e]; exact sa)
  rw [e2] at ok4
  refine kSeq (kReg (kMovC rfl (kDone ?_)))
  refine kSeq (kReg (kCall1 true ok ⟨rfl, trivial⟩ rfl rfl rfl (fun _ => ?_)))
  refine kBuildG rfl (kLitD rfl rfl rfl rfl ?_)
  refine kCall1 true ok2 ⟨⟨⟨rfl, rfl, trivial⟩, Nat.le_of_ble_eq_true rfl⟩, rfl, rfl, trivial⟩ rfl rfl rfl (fun _ => ?_)
  refine kMovT rfl (kExtC rfl rfl (kExtC rfl rfl (kMem [(45058, ⟨1, 0, .arr true _⟩), (45060, ⟨1, 0, .arr true _⟩), (45061, ⟨1, 0, .arr true _⟩), (45062, ⟨1, 0, .arr true _⟩), (45063, ⟨1, 0, .arr true _⟩), (45068, ⟨1, 0, .arr true _⟩)] [(1, .c (.un)), (11, .g [.d _, .d _, .arr 45058 1, .d _, .arr 45060 1, .arr 45061 1, .arr 45062 1, .arr 45063 1, .d _, .d _, .d _, .d _, .arr 45068 1]), (12, .c (.d _))] [] ⟨rfl, rfl, rfl, rfl, rfl, rfl, trivial⟩ ⟨rfl, rfl, rfl, trivial⟩ rfl (kAlloc rfl rfl (kMem [(8192, ⟨1, 0, .box [.d _, .d _, .nil 1, .d _, .nil 1, .nil 1, .nil 1, .nil 1, .d _, .d _, .d _, .d _, .nil 7]⟩), (45058, ⟨1, 0, .arr true _⟩), (45060, ⟨1, 0, .arr true _⟩), (45061, ⟨1, 0, .arr true _⟩), (45062, ⟨1, 0, .arr true _⟩), (45063, ⟨1, 0, .arr true _⟩), (45068, ⟨1, 0, .arr true _⟩)] [(1, .c (.ptr 8192 1 0)), (11, .g [.d _, .d _, .arr 45058 1, .d _, .arr 45060 1, .arr 45061 1, .arr 45062 1, .arr 45063 1, .d _, .d _, .d _, .d _, .arr 45068 1]), (12, .c (.d _))] [] ⟨rfl, rfl, rfl, rfl, rfl, rfl, rfl, trivial⟩ ⟨rfl, rfl, rfl, trivial⟩ rfl (kStoreP rfl rfl rfl rfl (kMovC rfl (kDone (kSeq (kReg (kLoadP rfl rfl rfl ?_)))))))))))
  refine kCall1 true ok3 ⟨⟨⟨rfl, rfl, rfl, rfl, rfl, rfl, rfl, rfl, rfl, rfl, rfl, rfl, rfl, trivial⟩, Nat.le_of_ble_eq_true rfl⟩, trivial⟩ rfl rfl rfl (fun _ => ?_)
  refine kMovT rfl (kExtC rfl rfl (kExtC rfl rfl (kExtC rfl rfl (kAlloc rfl rfl (kMem [(20480, ⟨1, 0, .box [.d _, .d _, .d _, .d _, .d _, .nil 2, .nil 7, .nil 7, .nil 7, .nil 9, .nil 9]⟩), (65605, ⟨1, 0, .arr true _⟩), (65606, ⟨1, 0, .arr true _⟩), (65607, ⟨1, 0, .arr true _⟩), (65608, ⟨1, 0, .arr true _⟩), (65609, ⟨1, 0, .arr true _⟩), (65610, ⟨1, 0, .arr true _⟩)] [(16, .c (.d _)), (4, .c (.ptr 20480 1 0)), (17, .g [.d _, .d _, .d _, .d _, .d _, .arr 65605 1, .arr 65606 1, .arr 65607 1, .arr 65608 1, .arr 65609 1, .arr 65610 1]), (18, .c (.d _))] [] ⟨rfl, rfl, rfl, rfl, rfl, rfl, rfl, trivial⟩ ⟨rfl, rfl, rfl, rfl, trivial⟩ rfl (kMovC rfl (kMem [(20480, ⟨1, 0, .box [.d _, .d _, .d _, .d _, .d _, .nil 2, .nil 7, .nil 7, .nil 7, .nil 9, .nil 9]⟩), (65605, ⟨1, 0, .arr true _⟩), (65606, ⟨1, 0, .arr true _⟩), (65607, ⟨1, 0, .arr true _⟩), (65608, ⟨1, 0, .arr true _⟩), (65609, ⟨1, 0, .arr true _⟩), (65610, ⟨1, 0, .arr true _⟩)] [(4, .c (.ptr 20480 1 0)), (17, .g [.d _, .d _, .d _, .d _, .d _, .arr 65605 1, .arr 65606 1, .arr 65607 1, .arr 65608 1, .arr 65609 1, .arr 65610 1]), (18, .c (.d _))] [] ⟨rfl, rfl, rfl, rfl, rfl, rfl, rfl, trivial⟩ ⟨rfl, rfl, rfl, trivial⟩ rfl (kStoreP rfl rfl rfl rfl (kMovC rfl (kDone (kSeq (kRegD (kMovC rfl (kMovC rfl (kGT rfl (kMovC rfl (kPickT rfl (kMovC rfl (kMovC rfl (kGT rfl (kMovC rfl (kGT rfl (kBin rfl rfl rfl (kPickT rfl (kMovC rfl (kMovC rfl (kMem [(20480, ⟨1, 0, .box [.d _, .d _, .d _, .d _, .d _, .arr 65605 1, .arr 65606 1, .arr 65607 1, .arr 65608 1, .arr 65609 1, .arr 65610 1]⟩), (65605, ⟨1, 0, .arr true _⟩), (65606, ⟨1, 0, .arr true _⟩), (65607, ⟨1, 0, .arr true _⟩), (65608, ⟨1, 0, .arr true _⟩), (65609, ⟨1, 0, .arr true _⟩), (65610, ⟨1, 0, .arr true _⟩)] [(4, .c (.ptr 20480 1 0)), (28, .c (.un)), (29, .c (.un)), (27, .c (.d _)), (30, .c (.un)), (31, .c (.un)), (33, .c (.un)), (34, .c (.un)), (35, .c (.un)), (36, .c (.un)), (37, .c (.un)), (38, .c (.un)), (32, .c (.un)), (39, .c (.un)), (40, .c (.un))] [] ⟨rfl, rfl, rfl, rfl, rfl, rfl, rfl, trivial⟩ ⟨rfl, rfl, rfl, rfl, rfl, rfl, rfl, rfl, rfl, rfl, rfl, rfl, rfl, rfl, rfl, trivial⟩ rfl (kGT rfl (kFadP rfl rfl (kGT rfl (kLoadP rfl rfl rfl (kGT rfl (kBin rfl rfl rfl (kPickT rfl (kMovC rfl (kMovC rfl (kGT rfl (kFadP rfl rfl (kGT rfl (kLoadP rfl rfl rfl (kGT rfl (kIadAR (m := 0) rfl rfl rfl rfl (by first | omega | (simp only [List.length_append, List.length_cons, List.length_nil]; omega)) (kGT rfl (kFadE rfl rfl (kGT rfl (kLoadER rfl rfl (by first | omega | (simp only [List.length_append, List.length_cons, List.length_nil]; omega)) rfl (kRelK rfl rfl (kGT rfl (kCall1 true (ok_laws_name _ (by first | assumption | omega | solve_by_elim [List.getElem_mem] | (simp only [szOut] at *; omega) | exact rfl | exact Nat.le_of_ble_eq_true rfl)) ⟨rfl, trivial⟩ rfl rfl rfl (fun _ => (kMem [(159744, ⟨1, 0, .arr true _⟩)] [(38, .g [.arr 159744 1]), (32, .c (.d _)), (39, .c (.un)), (40, .c (.un))] [65605, 20480, 20480] ⟨rfl, trivial⟩ ⟨rfl, rfl, rfl, rfl, trivial⟩ rfl (kRelF rfl rfl (kGT rfl ?_)))))))))))))))))))))))))))))))))))))))))))))))))))))
  refine kCall1 true ok4 ⟨⟨⟨rfl, trivial⟩, Nat.le_of_ble_eq_true rfl⟩, ⟨⟨rfl, trivial⟩, Nat.le_of_ble_eq_true rfl⟩, trivial⟩ rfl rfl rfl (fun _ => ?_)
  refine kPickT rfl (kMovC rfl (kMovC rfl (kDone (kH (kRet (endRetA (ra := [.one (.d _)]) rfl rfl))))))

def c_spec_TypeOk : C := (.seq (.reg false (.op 0 [] (some 2) none false (.mov (.v (.bool false)))
  .done))
 (.seq (.seq (.reg false (.op 0 [] (some 3) none false (.mov (.t 0))
  .done))
 (.block 0 (.seq (.seq (.reg false (.op 0 [] (some 5) none false (.bin .eql (.t 3) (.v (.int .i64 1)))
  (.op 1 [] (some 4) none false (.mov (.t 5))
  .done)))
 (.cond (.t 4)
 .skip
 (.seq (.reg false (.op 0 [] (some 6) none false (.bin .eql (.t 3) (.v (.int .i64 2)))
  (.op 1 [] (some 4) none false (.mov (.t 6))
  .done)))
 (.cond (.t 4)
 .skip
 (.seq (.reg false (.op 0 [] (some 7) none false (.bin .eql (.t 3) (.v (.int .i64 5)))
  (.op 1 [] (some 4) none false (.mov (.t 7))
  .done)))
 (.cond (.t 4)
 .skip
 (.seq (.reg false (.op 0 [] (some 8) none false (.bin .eql (.t 3) (.v (.int .i64 6)))
  (.op 1 [] (some 4) none false (.mov (.t 8))
  .done)))
 (.cond (.t 4)
 .skip
 (.seq (.reg false (.op 0 [] (some 9) none false (.bin .eql (.t 3) (.v (.int .i64 12)))
  (.op 1 [] (some 4) none false (.mov (.t 9))
  .done)))
 (.cond (.t 4)
 .skip
 (.seq (.reg false (.op 0 [] (some 10) none false (.bin .eql (.t 3) (.v (.int .i64 16)))
  (.op 1 [] (some 4) none false (.mov (.t 10))
  .done)))
 (.cond (.t 4)
 .skip
 (.reg false (.op 0 [] (some 11) none false (.bin .eql (.t 3) (.v (.int .i64 49)))
  (.op 1 [] (some 4) none false (.mov (.t 11))
  .done)))))))))))))))
 (.cond (.t 4)
 (.seq (.reg false (.op 0 [] (some 2) none false (.mov (.v (.bool true)))
  .done))
 .ret)
 .skip))))
 (.seq (.reg false (.op 0 [] (some 2) none false (.mov (.v (.bool false)))
  .done))
 .ret)))
theorem dg_spec_TypeOk : Try.f45.body.bind (digC Try.prog Try.f45.ntmps []) = some c_spec_TypeOk := by kernel_rfl
theorem rs_spec_TypeOk : resSlots Try.prog Try.f45 = some [.s 2] := by kernel_rfl
theorem ok_spec_TypeOk (n : Int) : FnOK Try.prog 45 [.one (.d (.sc (.int .i64 n)))] (fun ra _ => ra = [.one (.d (.sc (.bool (tyOk n))))]) := by
  refine FnOK.ofK Try.func45 (by kernel_rfl) dg_spec_TypeOk rs_spec_TypeOk rfl rfl ?_
  unfold c_spec_TypeOk
  refine kSeq (kReg (kMovC rfl (kDone (kSeq (kSeq (kReg (kMovC rfl (kDone (kBlock (kSeq (kSeq (kReg (kBin rfl rfl rfl (kMovC rfl (kDone (kCondP rfl (fun g0 => kSkip (kCondP rfl (fun g1 => kSeq (kReg (kMovC rfl (kDone (kRet (endRetA (ra := [.one (.d _)]) rfl ?_)))))) (fun g1 => (by omega)))) (fun g0 => kSeq (kReg (kBin rfl rfl rfl (kMovC rfl (kDone (kCondP rfl (fun g2 => kSkip (kCondP rfl (fun g3 => kSeq (kReg (kMovC rfl (kDone (kRet (endRetA (ra := [.one (.d _)]) rfl ?_)))))) (fun g3 => (by omega)))) (fun g2 => kSeq (kReg (kBin rfl rfl rfl (kMovC rfl (kDone (kCondP rfl (fun g4 => kSkip (kCondP rfl (fun g5 => kSeq (kReg (kMovC rfl (kDone (kRet (endRetA (ra := [.one (.d _)]) rfl ?_)))))) (fun g5 => (by omega)))) (fun g4 => kSeq (kReg (kBin rfl rfl rfl (kMovC rfl (kDone (kCondP rfl (fun g6 => kSkip (kCondP rfl (fun g7 => kSeq (kReg (kMovC rfl (kDone (kRet (endRetA (ra := [.one (.d _)]) rfl ?_)))))) (fun g7 => (by omega)))) (fun g6 => kSeq (kReg (kBin rfl rfl rfl (kMovC rfl (kDone (kCondP rfl (fun g8 => kSkip (kCondP rfl (fun g9 => kSeq (kReg (kMovC rfl (kDone (kRet (endRetA (ra := [.one (.d _)]) rfl ?_)))))) (fun g9 => (by omega)))) (fun g8 => kSeq (kReg (kBin rfl rfl rfl (kMovC rfl (kDone (kCondP rfl (fun g10 => kSkip (kCondP rfl (fun g11 => kSeq (kReg (kMovC rfl (kDone (kRet (endRetA (ra := [.one (.d _)]) rfl ?_)))))) (fun g11 => (by omega)))) (fun g10 => kReg (kBin rfl rfl rfl (kMovC rfl (kDone (kCondP rfl (fun g12 => kSeq (kReg (kMovC rfl (kDone (kRet (endRetA (ra := [.one (.d _)]) rfl ?_)))))) (fun g12 => kSkip (kBk (kSeq (kReg (kMovC rfl (kDone (kRet (endRetA (ra := [.one (.d _)]) rfl ?_)))))))))))))))))))))))))))))))))))))))))))))))))))))))))))
  all_goals simp_all [tyOk]

def c_spec_l3texted : C := (.seq (.reg false (.op 0 [] (some 2) none false (.mov (.v (.bool false)))
  .done))
 (.seq (.reg false (.op 0 [] (some 3) none false (.mov (.t 0))
  (.op 1 [] (some 4) none false (.bin .eql (.t 3) (.v (.int .i64 16)))
  (.op 2 [] (some 5) none false (.mov (.t 4))
  (.op 3 [] (some 6) (some (5, false)) false (.mov (.t 0))
  (.op 4 [] (some 7) (some (5, false)) false (.bin .eql (.t 6) (.v (.int .i64 49)))
  (.op 5 [] (some 8) none false (.pick (.t 5) (.v (.bool true)) (.t 7))
  (.op 6 [] (some 2) none false (.mov (.t 8))
  .done))))))))
 .ret))
theorem dg_spec_l3texted : Try.f71.body.bind (digC Try.prog Try.f71.ntmps []) = some c_spec_l3texted := by kernel_rfl
theorem rs_spec_l3texted : resSlots Try.prog Try.f71 = some [.s 2] := by kernel_rfl
theorem ok_spec_l3texted (n : Int) : FnOK Try.prog 71 [.one (.d (.sc (.int .i64 n)))] (fun ra _ => ra = [.one (.d (.sc (.bool (hasText n))))]) := by
  refine FnOK.ofK Try.func71 (by kernel_rfl) dg_spec_l3texted rs_spec_l3texted rfl rfl ?_
  unfold c_spec_l3texted
  refine kSeq (kReg (kMovC rfl (kDone (kSeq (kReg (kMovC rfl (kBin rfl rfl rfl (kMovC rfl (kGP rfl (fun g0 => kGF rfl (kGF rfl (kPickT rfl (kMovC rfl (kMovC rfl (kDone (kRet (endRetA (ra := [.one (.d _)]) rfl ?_)))))))) (fun g0 => kGT rfl (kMovC rfl (kGT rfl (kBin rfl rfl rfl (kPickF rfl (kMovC rfl (kMovC rfl (kDone (kRet (endRetA (ra := [.one (.d _)]) rfl ?_)))))))))))))))))))
  all_goals simp_all [hasText]

def c_spec_l3data : C := (.seq (.reg false (.op 0 [] (some 1) none false (.box 1 (.t 0))
  (.op 1 [] (some 2) none false (.mov (.v (.bool false)))
  .done)))
 (.seq (.seq (.reg false (.op 0 [] (some 3) none false (.fad (.t 1) 1)
  (.op 1 [] (some 4) none false (.load none (.t 3))
  (.op 2 [] (some 5) none false (.bin .eql (.t 4) (.v (.int .i64 1)))
  .done))))
 (.cond (.t 5)
 (.seq (.reg false (.op 0 [] (some 6) none false (.fad (.t 1) 3)
  (.op 1 [] (some 7) none false (.load none (.t 6))
  (.op 2 [] (some 8) none false (.bin .lss (.t 7) (.v (.int .i64 0)))
  (.op 3 [] (some 9) none false (.mov (.t 8))
  (.op 4 [] (some 10) (some (9, false)) false (.fad (.t 1) 3)
  (.op 5 [] (some 11) (some (9, false)) false (.load none (.t 10))
  (.op 6 [] (some 12) (some (9, false)) false (.bin .geq (.t 11) (.v (.int .i64 4294967296)))
  (.op 7 [] (some 13) none false (.pick (.t 9) (.v (.bool true)) (.t 12))
  .done)))))))))
 (.cond (.t 13)
 (.seq (.reg false (.op 0 [] (some 2) none false (.mov (.v (.bool false)))
  .done))
 .ret)
 .skip))
 (.seq (.reg false (.op 0 [] (some 14) none false (.fad (.t 1) 3)
  (.op 1 [] (some 15) none false (.load none (.t 14))
  (.op 2 [] (some 16) none false (.bin .neq (.t 15) (.v (.int .i64 0)))
  .done))))
 (.cond (.t 16)
 (.seq (.reg false (.op 0 [] (some 2) none false (.mov (.v (.bool false)))
  .done))
 .ret)
 .skip))))
 (.seq (.seq (.reg false (.op 0 [] (some 17) none false (.fad (.t 1) 1)
  (.op 1 [] (some 18) none false (.load none (.t 17))
  (.op 2 [] (some 19) none false (.call 19 29 [(.t 18)])
  .done))))
 (.cond (.t 19)
 (.seq (.reg false (.op 0 [] (some 20) none false (.fad (.t 1) 4)
  (.op 1 [] (some 21) none false (.load (some 1) (.t 20))
  (.op 2 [] (some 22) none false (.call 22 44 [(.t 21)])
  (.op 3 [] (some 23) none false (.un .not (.t 22))
  .done)))))
 (.cond (.t 23)
 (.seq (.reg false (.op 0 [] (some 2) none false (.mov (.v (.bool false)))
  .done))
 .ret)
 .skip))
 (.seq (.reg false (.op 0 [] (some 24) none false (.fad (.t 1) 4)
  (.op 1 [] (some 25) none false (.fad (.t 24) 0)
  (.op 2 [] (some 26) none false (.load none (.t 25))
  (.op 3 [] (some 27) none false (.len (.t 26))
  (.op 4 [] (some 28) none false (.bin .gtr (.t 27) (.v (.int .i64 0)))
  .done))))))
 (.cond (.t 28)
 (.seq (.reg false (.op 0 [] (some 2) none false (.mov (.v (.bool false)))
  .done))
 .ret)
 .skip))))
 (.seq (.seq (.reg false (.op 0 [] (some 29) none false (.fad (.t 1) 1)
  (.op 1 [] (some 30) none false (.load none (.t 29))
  (.op 2 [] (some 31) none false (.call 31 71 [(.t 30)])
  .done))))
 (.cond (.t 31)
 (.seq (.reg false (.op 0 [] (some 32) none false (.fad (.t 1) 5)
  (.op 1 [] (some 33) none false (.load none (.t 32))
  (.op 2 [] (some 34) none false (.len (.t 33))
  (.op 3 [] (some 35) none false (.bin .gtr (.t 34) (.v (.int .i64 40)))
  .done)))))
 (.cond (.t 35)
 (.seq (.reg false (.op 0 [] (some 2) none false (.mov (.v (.bool false)))
  .done))
 .ret)
 .skip))
 (.seq (.reg false (.op 0 [] (some 36) none false (.fad (.t 1) 5)
  (.op 1 [] (some 37) none false (.load none (.t 36))
  (.op 2 [] (some 38) none false (.len (.t 37))
  (.op 3 [] (some 39) none false (.bin .gtr (.t 38) (.v (.int .i64 0)))
  .done)))))
 (.cond (.t 39)
 (.seq (.reg false (.op 0 [] (some 2) none false (.mov (.v (.bool false)))
  .done))
 .ret)
 .skip))))
 (.seq (.seq (.reg false (.op 0 [] (some 40) none false (.fad (.t 1) 1)
  (.op 1 [] (some 41) none false (.load none (.t 40))
  (.op 2 [] (some 42) none false (.bin .neq (.t 41) (.v (.int .i64 6)))
  .done))))
 (.cond (.t 42)
 (.seq (.reg false (.op 0 [] (some 43) none false (.fad (.t 1) 6)
  (.op 1 [] (some 44) none false (.load none (.t 43))
  (.op 2 [] (some 45) none false (.len (.t 44))
  (.op 3 [] (some 46) none false (.bin .eql (.t 45) (.v (.int .i64 0)))
  (.op 4 [] (some 2) none false (.mov (.t 46))
  .done))))))
 .ret)
 .skip))
 (.seq (.seq (.reg false (.op 0 [] (some 47) none false (.fad (.t 1) 6)
  (.op 1 [] (some 48) none false (.load none (.t 47))
  (.op 2 [] (some 49) none false (.len (.t 48))
  (.op 3 [] (some 50) none false (.bin .neq (.t 49) (.v (.int .i64 2)))
  (.op 4 [] (some 51) none false (.mov (.t 50))
  (.op 5 [] (some 52) (some (51, false)) false (.fad (.t 1) 6)
  (.op 6 [] (some 53) (some (51, false)) false (.load none (.t 52))
  (.op 7 [] (some 54) (some (51, false)) false (.iad 1 (.t 53) (.v (.int .i64 0)))
  (.op 8 [] (some 55) (some (51, false)) false (.load none (.t 54))
  (.op 9 [] (some 56) (some (51, false)) false (.bin .lss (.t 55) (.v (.int .i64 0)))
  (.op 10 [] (some 57) none false (.pick (.t 51) (.v (.bool true)) (.t 56))
  (.op 11 [] (some 58) none false (.mov (.t 57))
  (.op 12 [] (some 59) (some (58, false)) false (.fad (.t 1) 6)
  (.op 13 [] (some 60) (some (58, false)) false (.load none (.t 59))
  (.op 14 [] (some 61) (some (58, false)) false (.iad 1 (.t 60) (.v (.int .i64 0)))
  (.op 15 [] (some 62) (some (58, false)) false (.load none (.t 61))
  (.op 16 [] (some 63) (some (58, false)) false (.bin .geq (.t 62) (.v (.int .i64 4294967296)))
  (.op 17 [] (some 64) none false (.pick (.t 58) (.v (.bool true)) (.t 63))
  .done)))))))))))))))))))
 (.cond (.t 64)
 (.seq (.reg false (.op 0 [] (some 2) none false (.mov (.v (.bool false)))
  .done))
 .ret)
 .skip))
 (.seq (.reg false (.op 0 [] (some 65) none false (.fad (.t 1) 6)
  (.op 1 [] (some 66) none false (.load none (.t 65))
  (.op 2 [] (some 67) none false (.iad 1 (.t 66) (.v (.int .i64 1)))
  (.op 3 [] (some 68) none false (.load none (.t 67))
  (.op 4 [] (some 69) none false (.bin .geq (.t 68) (.v (.int .i64 0)))
  (.op 5 [] (some 70) none false (.mov (.t 69))
  (.op 6 [] (some 71) (some (70, true)) false (.fad (.t 1) 6)
  (.op 7 [] (some 72) (some (70, true)) false (.load none (.t 71))
  (.op 8 [] (some 73) (some (70, true)) false (.iad 1 (.t 72) (.v (.int .i64 1)))
  (.op 9 [] (some 74) (some (70, true)) false (.load none (.t 73))
  (.op 10 [] (some 75) (some (70, true)) false (.bin .leq (.t 74) (.v (.int .i64 100000)))
  (.op 11 [] (some 76) none false (.pick (.t 70) (.t 75) (.v (.bool false)))
  (.op 12 [] (some 2) none false (.mov (.t 76))
  .done))))))))))))))
 .ret)))))))
theorem dg_spec_l3data : Try.f46.body.bind (digC Try.prog Try.f46.ntmps []) = some c_spec_l3data := by kernel_rfl
theorem rs_spec_l3data : resSlots Try.prog Try.f46 = some [.s 2] := by kernel_rfl
theorem ok_spec_l3data (r : Rr) (hs : SmallR r) :
    FnOK Try.prog 46 [.agg (r.cells.map .d)] (fun ra _ => ra = [.one (.d (.sc (.bool (dataOk r))))]) := by
  refine FnOK.ofK Try.func46 (by kernel_rfl) dg_spec_l3data rs_spec_l3data rfl rfl ?_
  unfold c_spec_l3data
  have t1 := hs.t.len
  have t2 := hs.t.mem
  have x1 := hs.x
  have m1 := hs.m
  refine kSeq (kReg (kBox rfl rfl rfl rfl rfl (kMovC rfl (kDone ?_))))
  by_cases hA : (r.ty = 1 ∧ 0 ≤ r.addr ∧ r.addr < 4294967296) ∨ (r.ty ≠ 1 ∧ r.addr = 0)
  case neg =>
    have e : (if r.ty == 1 then isW r.addr else r.addr == 0) = false := by
      by_cases h : r.ty = 1
      · simp [h, isW]; omega
      · simp [h]; omega
    rw [show dataOk r = false by simp only [dataOk, e, Bool.and_false, Bool.false_and]]
    refine kSeq ?_
    refine kSeq (kReg (kFadP rfl rfl (kLoadP rfl rfl rfl (kBin rfl rfl rfl (kDone (kCondP rfl (fun g0 => kSeq (kReg (kFadP rfl rfl (kLoadP rfl rfl rfl (kBin rfl rfl rfl (kMovC rfl (kGP rfl (fun g1 => kGF rfl (kGF rfl (kGF rfl (kPickT rfl (kMovC rfl (kDone (kCondT rfl (kSeq (kReg (kMovC rfl (kDone (kRet (endRetA (ra := [.one (.d _)]) rfl rfl))))))))))))) (fun g1 => kGT rfl (kFadP rfl rfl (kGT rfl (kLoadP rfl rfl rfl (kGT rfl (kBin rfl rfl rfl (kPickF rfl (kMovC rfl (kDone (kCondP rfl (fun g2 => kSeq (kReg (kMovC rfl (kDone (kRet (endRetA (ra := [.one (.d _)]) rfl rfl)))))) (fun g2 => (by omega))))))))))))))))))) (fun g0 => kSeq (kReg (kFadP rfl rfl (kLoadP rfl rfl rfl (kBin rfl rfl rfl (kDone (kCondIN rfl (fun g3 => kSeq (kReg (kMovC rfl (kDone (kRet (endRetA (ra := [.one (.d _)]) rfl rfl)))))) (fun g3 => (by omega)))))))))))))))
  have eA : (if r.ty == 1 then isW r.addr else r.addr == 0) = true := by
    rcases hA with ⟨h, _, _⟩ | ⟨h, h'⟩
    · simp [h, isW]; omega
    · simp [h, h']
  refine kSeq (kCut ⟨tabSl [(1, .c (.ptr (rid 1 0) 1 0))], obTab 1 [(rid 1 0, ⟨1, 0, .box (r.cells.map .d)⟩)], []⟩ ?_ (fun x hc => ?_))
  case refine_2 =>
    refine kSeq (kReg (kFadP rfl rfl (kLoadP rfl rfl rfl (kBin rfl rfl rfl (kDone (kCondP rfl (fun g0 => kSeq (kReg (kFadP rfl rfl (kLoadP rfl rfl rfl (kBin rfl rfl rfl (kMovC rfl (kGP rfl (fun g1 => (by omega)) (fun g1 => kGT rfl (kFadP rfl rfl (kGT rfl (kLoadP rfl rfl rfl (kGT rfl (kBin rfl rfl rfl (kPickF rfl (kMovC rfl (kDone (kCondP rfl (fun g2 => (by omega)) (fun g2 => kSkip (hc _ .normA))))))))))))))))))) (fun g0 => kSeq (kReg (kFadP rfl rfl (kLoadP rfl rfl rfl (kBin rfl rfl rfl (kDone (kCondIN rfl (fun g3 => (by omega)) (fun g3 => kSkip (hc _ .normA)))))))))))))))
  by_cases eB : (if hasTo r.ty then nameOk r.to else ((r.to.length : Int) == 0)) = true
  case neg =>
    rw [show dataOk r = false by simp only [dataOk, Bool.eq_false_iff.2 eB, Bool.and_false, Bool.false_and]]
    refine kSeq ?_
    cases hT : hasTo r.ty
    case false =>
      have hN : ¬ (r.to.length : Int) = 0 := by simpa [hT] using eB
      have hN' : ¬ r.to.length = 0 := by omega
      refine kSeq (kReg (kFadP rfl rfl (kLoadP rfl rfl rfl (kCallD (ok_spec_l3named _) ⟨rfl, trivial⟩ rfl rfl rfl rfl rfl (kDone (kCond rfl (fun g0 => (by (simp [*] at g0))) (fun g0 => kSeq (kReg (kFadP rfl rfl (kFadP rfl rfl (kLoadP rfl rfl rfl (kLenR rfl rfl (kBin rfl rfl rfl (kDone (kCondP rfl (fun g1 => kSeq (kReg (kMovC rfl (kDone (kRet (endRetA (ra := [.one (.d _)]) rfl rfl)))))) (fun g1 => (by omega)))))))))))))))))
    case true =>
      have hN : nameOk r.to = false := by simpa [hT] using eB
      refine kSeq (kReg (kFadP rfl rfl (kLoadP rfl rfl rfl (kCallD (ok_spec_l3named _) ⟨rfl, trivial⟩ rfl rfl rfl rfl rfl (kDone (kCond rfl (fun g0 => kSeq (kReg (kFadP rfl rfl (kLoadP rfl rfl rfl (kCallD (ok_spec_NameOk _ (by first | assumption | omega | solve_by_elim [List.getElem_mem] | (simp only [szOut] at *; omega)) (by first | assumption | omega | solve_by_elim [List.getElem_mem] | (simp only [szOut] at *; omega))) ⟨⟨⟨rfl, trivial⟩, Nat.le_of_ble_eq_true rfl⟩, trivial⟩ rfl rfl rfl rfl rfl (kUn rfl rfl (kDone (kCondN rfl (fun g1 => kSeq (kReg (kMovC rfl (kDone (kRet (endRetA (ra := [.one (.d _)]) rfl rfl)))))) (fun g1 => (by (simp [*] at g1))))))))))) (fun g0 => (by (simp [*] at g0)))))))))
  refine kSeq (kCut ⟨tabSl [(1, .c (.ptr (rid 1 0) 1 0))], obTab 1 [(rid 1 0, ⟨1, 0, .box (r.cells.map .d)⟩)], []⟩ ?_ (fun x hc => ?_))
  case refine_2 =>
    cases hT : hasTo r.ty
    case false =>
      have hN : (r.to.length : Int) = 0 := by rw [hT] at eB; simpa using eB
      have hN' : r.to.length = 0 := by omega
      clear hN
      refine kSeq (kReg (kFadP rfl rfl (kLoadP rfl rfl rfl (kCallD (ok_spec_l3named _) ⟨rfl, trivial⟩ rfl rfl rfl rfl rfl (kDone (kCond rfl (fun g0 => (by (simp [*] at g0))) (fun g0 => kSeq (kReg (kFadP rfl rfl (kFadP rfl rfl (kLoadP rfl rfl rfl (kLenR rfl rfl (kBin rfl rfl rfl (kDone (kCondP rfl (fun g1 => (by omega)) (fun g1 => kSkip (hc _ .normA)))))))))))))))))
    case true =>
      have hN : nameOk r.to = true := by simpa [hT] using eB
      refine kSeq (kReg (kFadP rfl rfl (kLoadP rfl rfl rfl (kCallD (ok_spec_l3named _) ⟨rfl, trivial⟩ rfl rfl rfl rfl rfl (kDone (kCond rfl (fun g0 => kSeq (kReg (kFadP rfl rfl (kLoadP rfl rfl rfl (kCallD (ok_spec_NameOk _ (by first | assumption | omega | solve_by_elim [List.getElem_mem] | (simp only [szOut] at *; omega)) (by first | assumption | omega | solve_by_elim [List.getElem_mem] | (simp only [szOut] at *; omega))) ⟨⟨⟨rfl, trivial⟩, Nat.le_of_ble_eq_true rfl⟩, trivial⟩ rfl rfl rfl rfl rfl (kUn rfl rfl (kDone (kCondN rfl (fun g1 => (by (simp [*] at g1))) (fun g1 => kSkip (hc _ .normA)))))))))) (fun g0 => (by (simp [*] at g0)))))))))
  by_cases eC : (if hasText r.ty then decide ((r.text.length : Int) ≤ 40) else ((r.text.length : Int) == 0)) = true
  case neg =>
    rw [show dataOk r = false by simp only [dataOk, Bool.eq_false_iff.2 eC, Bool.and_false]]
    refine kSeq ?_
    cases hT : hasText r.ty
    case false =>
      have hN' : ¬ r.text.length = 0 := by rw [hT] at eC; simp at eC; simpa using eC
      refine kSeq (kReg (kFadP rfl rfl (kLoadP rfl rfl rfl (kCallD (ok_spec_l3texted _) ⟨rfl, trivial⟩ rfl rfl rfl rfl rfl (kDone (kCond rfl (fun g0 => (by (simp [*] at g0))) (fun g0 => kSeq (kReg (kFadP rfl rfl (kLoadP rfl rfl rfl (kLenR rfl rfl (kBin rfl rfl rfl (kDone (kCondP rfl (fun g1 => kSeq (kReg (kMovC rfl (kDone (kRet (endRetA (ra := [.one (.d _)]) rfl rfl)))))) (fun g1 => (by omega))))))))))))))))
    case true =>
      have hN' : ¬ r.text.length ≤ 40 := by rw [hT] at eC; simp at eC; omega
      refine kSeq (kReg (kFadP rfl rfl (kLoadP rfl rfl rfl (kCallD (ok_spec_l3texted _) ⟨rfl, trivial⟩ rfl rfl rfl rfl rfl (kDone (kCond rfl (fun g0 => kSeq (kReg (kFadP rfl rfl (kLoadP rfl rfl rfl (kLenR rfl rfl (kBin rfl rfl rfl (kDone (kCondP rfl (fun g1 => kSeq (kReg (kMovC rfl (kDone (kRet (endRetA (ra := [.one (.d _)]) rfl rfl)))))) (fun g1 => (by omega)))))))))) (fun g0 => (by (simp [*] at g0)))))))))
  refine kSeq (kCut ⟨tabSl [(1, .c (.ptr (rid 1 0) 1 0))], obTab 1 [(rid 1 0, ⟨1, 0, .box (r.cells.map .d)⟩)], []⟩ ?_ (fun x hc => ?_))
  case refine_2 =>
    cases hT : hasText r.ty
    case false =>
      have hN' : r.text.length = 0 := by rw [hT] at eC; simp at eC; rw [eC]; rfl
      refine kSeq (kReg (kFadP rfl rfl (kLoadP rfl rfl rfl (kCallD (ok_spec_l3texted _) ⟨rfl, trivial⟩ rfl rfl rfl rfl rfl (kDone (kCond rfl (fun g0 => (by (simp [*] at g0))) (fun g0 => kSeq (kReg (kFadP rfl rfl (kLoadP rfl rfl rfl (kLenR rfl rfl (kBin rfl rfl rfl (kDone (kCondP rfl (fun g1 => (by omega)) (fun g1 => kSkip (hc _ .normA))))))))))))))))
    case true =>
      have hN' : r.text.length ≤ 40 := by rw [hT] at eC; simp at eC; omega
      refine kSeq (kReg (kFadP rfl rfl (kLoadP rfl rfl rfl (kCallD (ok_spec_l3texted _) ⟨rfl, trivial⟩ rfl rfl rfl rfl rfl (kDone (kCond rfl (fun g0 => kSeq (kReg (kFadP rfl rfl (kLoadP rfl rfl rfl (kLenR rfl rfl (kBin rfl rfl rfl (kDone (kCondP rfl (fun g1 => (by omega)) (fun g1 => kSkip (hc _ .normA)))))))))) (fun g0 => (by (simp [*] at g0)))))))))
  rw [show dataOk r = (if r.ty == 6 then numsOk r.nums else ((r.nums.length : Int) == 0)) by simp only [dataOk, eA, eB, eC, Bool.and_true]]
  clear eA eB eC hA
  refine kSeq (kSeq (kReg (kFadP rfl rfl (kLoadP rfl rfl rfl (kBin rfl rfl rfl (kDone (kCondIN rfl (fun g0 => kSeq (kReg (kFadP rfl rfl (kLoadP rfl rfl rfl (kLenR rfl rfl (kBin rfl rfl rfl (kMovC rfl (kDone (kRet (endRetA (ra := [.one (.d _)]) rfl ?_)))))))))) (fun g0 => kSkip (kSeq (kSeq (kReg (kFadP rfl rfl (kLoadP rfl rfl rfl (kLenR rfl rfl (kBin rfl rfl rfl (kMovC rfl (kGIN rfl (fun g1 => kGF rfl (kGF rfl (kGF rfl (kGF rfl (kGF rfl (kPickT rfl (kMovC rfl (kMovC rfl (kGF rfl (kGF rfl (kGF rfl (kGF rfl (kGF rfl (kPickT rfl (kMovC rfl (kDone (kCondT rfl (kSeq (kReg (kMovC rfl (kDone (kRet (endRetA (ra := [.one (.d _)]) rfl ?_))))))))))))))))))))))) (fun g1 => kGT rfl (kFadP rfl rfl (kGT rfl (kLoadP rfl rfl rfl (kGT rfl (kIadR (m := 0) rfl rfl rfl (by omega) (kGT rfl (kLoadD rfl rfl (kGT rfl (kBin rfl rfl rfl (kPickF rfl (kMovC rfl (kMovC rfl (kGP rfl (fun g2 => kGF rfl (kGF rfl (kGF rfl (kGF rfl (kGF rfl (kPickT rfl (kMovC rfl (kDone (kCondT rfl (kSeq (kReg (kMovC rfl (kDone (kRet (endRetA (ra := [.one (.d _)]) rfl ?_))))))))))))))) (fun g2 => kGT rfl (kFadP rfl rfl (kGT rfl (kLoadP rfl rfl rfl (kGT rfl (kIadR (m := 0) rfl rfl rfl (by omega) (kGT rfl (kLoadD rfl rfl (kGT rfl (kBin rfl rfl rfl (kPickF rfl (kMovC rfl (kDone (kCondP rfl (fun g3 => kSeq (kReg (kMovC rfl (kDone (kRet (endRetA (ra := [.one (.d _)]) rfl ?_)))))) (fun g3 => kSkip (kSeq (kReg (kFadP rfl rfl (kLoadP rfl rfl rfl (kIadR (m := 1) rfl rfl rfl (by omega) (kLoadD rfl rfl (kBin rfl rfl rfl (kMovC rfl (kGP rfl (fun g4 => kGT rfl (kFadP rfl rfl (kGT rfl (kLoadP rfl rfl rfl (kGT rfl (kIadR (m := 1) rfl rfl rfl (by omega) (kGT rfl (kLoadD rfl rfl (kGT rfl (kBin rfl rfl rfl (kPickT rfl (kMovC rfl (kMovC rfl (kDone (kRet (endRetA (ra := [.one (.d _)]) rfl ?_)))))))))))))))) (fun g4 => kGF rfl (kGF rfl (kGF rfl (kGF rfl (kGF rfl (kPickF rfl (kMovC rfl (kMovC rfl (kDone (kRet (endRetA (ra := [.one (.d _)]) rfl ?_))))))))))))))))))))))))))))))))))))))))))))))))))))))))))))))))))
  all_goals first
    | (simp [*]; done)
    | (rw [if_pos (by simpa using (by assumption : r.ty = 6)), numsOk, dif_pos (by assumption)]
       simp only [isW]
       refine congrArg (fun b : Bool => [RA.one (RV.d (DV.sc (Value.bool b)))]) ?_
       rw [Bool.eq_iff_iff]
       simp
       omega)

def c_spec_RrOk : C := (.seq (.reg false (.op 0 [] (some 1) none false (.box 1 (.t 0))
  (.op 1 [] (some 2) none false (.mov (.v (.bool false)))
  .done)))
 (.seq (.reg false (.op 0 [] (some 3) none false (.fad (.t 1) 0)
  (.op 1 [] (some 4) none false (.load (some 1) (.t 3))
  (.op 2 [] (some 5) none false (.call 5 44 [(.t 4)])
  (.op 3 [] (some 6) none false (.mov (.t 5))
  (.op 4 [] (some 7) (some (6, true)) false (.fad (.t 1) 1)
  (.op 5 [] (some 8) (some (6, true)) false (.load none (.t 7))
  (.op 6 [] (some 9) (some (6, true)) false (.call 9 45 [(.t 8)])
  (.op 7 [] (some 10) none false (.pick (.t 6) (.t 9) (.v (.bool false)))
  (.op 8 [] (some 11) none false (.mov (.t 10))
  (.op 9 [] (some 12) (some (11, true)) false (.fad (.t 1) 2)
  (.op 10 [] (some 13) (some (11, true)) false (.load none (.t 12))
  (.op 11 [] (some 14) (some (11, true)) false (.bin .geq (.t 13) (.v (.int .i64 0)))
  (.op 12 [] (some 15) none false (.pick (.t 11) (.t 14) (.v (.bool false)))
  (.op 13 [] (some 16) none false (.mov (.t 15))
  (.op 14 [] (some 17) (some (16, true)) false (.fad (.t 1) 2)
  (.op 15 [] (some 18) (some (16, true)) false (.load none (.t 17))
  (.op 16 [] (some 19) (some (16, true)) false (.bin .leq (.t 18) (.v (.int .i64 100000)))
  (.op 17 [] (some 20) none false (.pick (.t 16) (.t 19) (.v (.bool false)))
  (.op 18 [] (some 21) none false (.mov (.t 20))
  (.op 19 [] (some 22) (some (21, true)) false (.load (some 7) (.t 1))
  (.op 20 [] (some 23) (some (21, true)) false (.call 23 46 [(.t 22)])
  (.op 21 [] (some 24) none false (.pick (.t 21) (.t 23) (.v (.bool false)))
  (.op 22 [] (some 2) none false (.mov (.t 24))
  .done))))))))))))))))))))))))
 .ret))
theorem dg_spec_RrOk : Try.f24.body.bind (digC Try.prog Try.f24.ntmps []) = some c_spec_RrOk := by kernel_rfl
theorem rs_spec_RrOk : resSlots Try.prog Try.f24 = some [.s 2] := by kernel_rfl
theorem ok_spec_RrOk (r : Rr) (hs : SmallR r) :
    FnOK Try.prog 24 [.agg (r.cells.map .d)] (fun ra _ => ra = [.one (.d (.sc (.bool (rrOk r))))]) := by
  refine FnOK.ofK Try.func24 (by kernel_rfl) dg_spec_RrOk rs_spec_RrOk rfl rfl ?_
  unfold c_spec_RrOk
  have n1 := hs.n.len
  have n2 := hs.n.mem
  refine kSeq (kReg (kBox rfl rfl rfl rfl rfl (kMovC rfl (kDone (kSeq (kReg (kFadP rfl rfl (kLoadP rfl rfl rfl (kCallD (ok_spec_NameOk _ (by first | assumption | omega | solve_by_elim [List.getElem_mem] | (simp only [szOut] at *; omega)) (by first | assumption | omega | solve_by_elim [List.getElem_mem] | (simp only [szOut] at *; omega))) ⟨⟨⟨rfl, trivial⟩, Nat.le_of_ble_eq_true rfl⟩, trivial⟩ rfl rfl rfl rfl rfl (kMovC rfl (kGS rfl (fun g0 => kGT rfl (kFadP rfl rfl (kGT rfl (kLoadP rfl rfl rfl (kGT rfl (kCallD (ok_spec_TypeOk _) ⟨rfl, trivial⟩ rfl rfl rfl rfl rfl (kPickT rfl (kMovC rfl (kMovC rfl (kGS rfl (fun g1 => kGT rfl (kFadP rfl rfl (kGT rfl (kLoadP rfl rfl rfl (kGT rfl (kBin rfl rfl rfl (kPickT rfl (kMovC rfl (kMovC rfl (kGP rfl (fun g2 => kGT rfl (kFadP rfl rfl (kGT rfl (kLoadP rfl rfl rfl (kGT rfl (kBin rfl rfl rfl (kPickT rfl (kMovC rfl (kMovC rfl (kGP rfl (fun g3 => kGT rfl (kLoadP rfl rfl rfl (kGT rfl (kCallD (ok_spec_l3data _ (by first | assumption | omega | solve_by_elim [List.getElem_mem] | (simp only [szOut] at *; omega))) ⟨⟨⟨rfl, rfl, rfl, rfl, rfl, rfl, rfl, trivial⟩, Nat.le_of_ble_eq_true rfl⟩, trivial⟩ rfl rfl rfl rfl rfl (kPickT rfl (kMovC rfl (kMovC rfl (kDone (kRet (endRetA (ra := [.one (.d _)]) rfl ?_)))))))))) (fun g3 => kGF rfl (kGF rfl (kPickF rfl (kMovC rfl (kMovC rfl (kDone (kRet (endRetA (ra := [.one (.d _)]) rfl ?_)))))))))))))))))) (fun g2 => kGF rfl (kGF rfl (kGF rfl (kPickF rfl (kMovC rfl (kMovC rfl (kGF rfl (kGF rfl (kPickF rfl (kMovC rfl (kMovC rfl (kDone (kRet (endRetA (ra := [.one (.d _)]) rfl ?_)))))))))))))))))))))))) (fun g1 => kGF rfl (kGF rfl (kGF rfl (kPickF rfl (kMovC rfl (kMovC rfl (kGF rfl (kGF rfl (kGF rfl (kPickF rfl (kMovC rfl (kMovC rfl (kGF rfl (kGF rfl (kPickF rfl (kMovC rfl (kMovC rfl (kDone (kRet (endRetA (ra := [.one (.d _)]) rfl ?_)))))))))))))))))))))))))))))) (fun g0 => kGF rfl (kGF rfl (kGF rfl (kPickF rfl (kMovC rfl (kMovC rfl (kGF rfl (kGF rfl (kGF rfl (kPickF rfl (kMovC rfl (kMovC rfl (kGF rfl (kGF rfl (kGF rfl (kPickF rfl (kMovC rfl (kMovC rfl (kGF rfl (kGF rfl (kPickF rfl (kMovC rfl (kMovC rfl (kDone (kRet (endRetA (ra := [.one (.d _)]) rfl ?_)))))))))))))))))))))))))))))))))))))
  all_goals (simp only [rrOk, *]; first | rfl | (simp; done) | (simp; omega))

def c_spec_l2bytes : C := (.seq (.reg false (.op 0 [] (some 4) none false (.mov (.v (.int .i64 0)))
  .done))
 (.seq (.seq (.reg false (.op 0 [] (some 5) none false (.mov (.t 0))
  (.op 1 [] (some 6) none false (.b2s (.t 5))
  (.op 2 [] (some 7) none false (.mov (.t 1))
  (.op 3 [] (some 8) none false (.b2s (.t 7))
  (.op 4 [] (some 9) none false (.bin .lss (.t 6) (.t 8))
  .done))))))
 (.cond (.t 9)
 (.seq (.reg false (.op 0 [] (some 4) none false (.mov (.v (.int .i64 (-1))))
  .done))
 .ret)
 .skip))
 (.seq (.seq (.reg false (.op 0 [] (some 10) none false (.mov (.t 0))
  (.op 1 [] (some 11) none false (.b2s (.t 10))
  (.op 2 [] (some 12) none false (.mov (.t 1))
  (.op 3 [] (some 13) none false (.b2s (.t 12))
  (.op 4 [] (some 14) none false (.bin .gtr (.t 11) (.t 13))
  .done))))))
 (.cond (.t 14)
 (.seq (.reg false (.op 0 [] (some 4) none false (.mov (.v (.int .i64 1)))
  .done))
 .ret)
 .skip))
 (.seq (.reg false (.op 0 [] (some 4) none false (.mov (.v (.int .i64 0)))
  .done))
 .ret))))
theorem dg_spec_l2bytes : Try.f49.body.bind (digC Try.prog Try.f49.ntmps []) = some c_spec_l2bytes := by kernel_rfl
theorem rs_spec_l2bytes : resSlots Try.prog Try.f49 = some [.s 4] := by kernel_rfl
theorem ok_spec_l2bytes (a b : List UInt8) :
    FnOK Try.prog 49 [.one (.d (encB a)), .one (.d (encB b))] (fun ra _ => ra = [.one (.d (.sc (.int .i64 (cmpB a b))))]) := by
  refine FnOK.ofK Try.func49 (by kernel_rfl) dg_spec_l2bytes rs_spec_l2bytes rfl rfl ?_
  unfold c_spec_l2bytes
  refine kSeq (kReg (kMovC rfl (kDone (kSeq (kSeq (kReg (kMovC rfl (kB2s rfl rfl (kMovC rfl (kB2s rfl rfl (kBin rfl rfl rfl (kDone (kCond rfl (fun g0 => kSeq (kReg (kMovC rfl (kDone (kRet (endRetA (ra := [.one (.d _)]) rfl ?_)))))) (fun g0 => kSkip (kSeq (kSeq (kReg (kMovC rfl (kB2s rfl rfl (kMovC rfl (kB2s rfl rfl (kBin rfl rfl rfl (kDone (kCondN rfl (fun g1 => kSeq (kReg (kMovC rfl (kDone (kRet (endRetA (ra := [.one (.d _)]) rfl ?_)))))) (fun g1 => kSkip (kSeq (kReg (kMovC rfl (kDone (kRet (endRetA (ra := [.one (.d _)]) rfl ?_)))))))))))))))))))))))))))))))
  all_goals simp_all [cmpB]

def c_spec_l2cmp : C := (.seq (.reg false (.op 0 [] (some 2) none false (.box 2 (.t 0))
  (.op 1 [] (some 3) none false (.box 3 (.t 1))
  (.op 2 [] (some 4) none false (.mov (.v (.int .i64 0)))
  .done))))
 (.seq (.seq (.reg false (.op 0 [] (some 5) none false (.mov (.v (.int .i64 1)))
  .done))
 (.block 0 (.loop (.seq (.seq (.reg false (.op 0 [] (some 7) none false (.mov (.t 5))
  (.op 1 [] (some 8) none false (.fad (.t 2) 0)
  (.op 2 [] (some 9) none false (.load none (.t 8))
  (.op 3 [] (some 10) none false (.len (.t 9))
  (.op 4 [] (some 11) none false (.bin .leq (.t 7) (.t 10))
  (.op 5 [] (some 12) none false (.mov (.t 11))
  (.op 6 [] (some 13) (some (12, true)) false (.mov (.t 5))
  (.op 7 [] (some 14) (some (12, true)) false (.fad (.t 3) 0)
  (.op 8 [] (some 15) (some (12, true)) false (.load none (.t 14))
  (.op 9 [] (some 16) (some (12, true)) false (.len (.t 15))
  (.op 10 [] (some 17) (some (12, true)) false (.bin .leq (.t 13) (.t 16))
  (.op 11 [] (some 18) none false (.pick (.t 12) (.t 17) (.v (.bool false)))
  .done)))))))))))))
 (.cond (.t 18)
 .skip
 (.exit 0)))
 (.seq (.block 1 (.seq (.reg true (.op 0 [] (some 21) none true (.fad (.t 2) 0)
  (.op 1 [] (some 22) none true (.load none (.t 21))
  (.op 2 [] (some 23) none true (.fad (.t 2) 0)
  (.op 3 [] (some 24) none true (.load none (.t 23))
  (.op 4 [] (some 25) none true (.len (.t 24))
  (.op 5 [] (some 26) none true (.mov (.t 5))
  (.op 6 [] (some 27) none true (.bin .sub (.t 25) (.t 26))
  (.op 7 [] (some 28) none true (.iad 1 (.t 22) (.t 27))
  (.op 8 [] (some 29) none true (.load none (.t 28))
  (.op 9 [] (some 30) none true (.fad (.t 3) 0)
  (.op 10 [] (some 31) none true (.load none (.t 30))
  (.op 11 [] (some 32) none true (.fad (.t 3) 0)
  (.op 12 [] (some 33) none true (.load none (.t 32))
  (.op 13 [] (some 34) none true (.len (.t 33))
  (.op 14 [] (some 35) none true (.mov (.t 5))
  (.op 15 [] (some 36) none true (.bin .sub (.t 34) (.t 35))
  (.op 16 [] (some 37) none true (.iad 1 (.t 31) (.t 36))
  (.op 17 [] (some 38) none true (.load none (.t 37))
  (.op 18 [8, 1, 3, 17, 10, 12] (some 39) none false (.call 39 49 [(.t 29), (.t 38)])
  (.op 19 [] (some 6) none true (.mov (.t 39))
  .done)))))))))))))))))))))
 (.seq (.reg false (.op 0 [] (some 40) none false (.mov (.t 6))
  (.op 1 [] (some 41) none false (.bin .neq (.t 40) (.v (.int .i64 0)))
  .done)))
 (.cond (.t 41)
 (.seq (.reg false (.op 0 [] (some 42) none false (.mov (.t 6))
  (.op 1 [] (some 4) none false (.mov (.t 42))
  .done)))
 .ret)
 .skip))))
 (.reg false (.op 0 [] (some 19) none false (.mov (.t 5))
  (.op 1 [] (some 20) none false (.bin .add (.t 19) (.v (.int .i64 1)))
  (.op 2 [] (some 5) none false (.mov (.t 20))
  .done)))))))))
 (.seq (.seq (.reg false (.op 0 [] (some 43) none false (.fad (.t 2) 0)
  (.op 1 [] (some 44) none false (.load none (.t 43))
  (.op 2 [] (some 45) none false (.len (.t 44))
  (.op 3 [] (some 46) none false (.fad (.t 3) 0)
  (.op 4 [] (some 47) none false (.load none (.t 46))
  (.op 5 [] (some 48) none false (.len (.t 47))
  (.op 6 [] (some 49) none false (.bin .neq (.t 45) (.t 48))
  .done))))))))
 (.cond (.t 49)
 (.seq (.seq (.reg false (.op 0 [] (some 50) none false (.fad (.t 2) 0)
  (.op 1 [] (some 51) none false (.load none (.t 50))
  (.op 2 [] (some 52) none false (.len (.t 51))
  (.op 3 [] (some 53) none false (.fad (.t 3) 0)
  (.op 4 [] (some 54) none false (.load none (.t 53))
  (.op 5 [] (some 55) none false (.len (.t 54))
  (.op 6 [] (some 56) none false (.bin .lss (.t 52) (.t 55))
  .done))))))))
 (.cond (.t 56)
 (.seq (.reg false (.op 0 [] (some 4) none false (.mov (.v (.int .i64 (-1))))
  .done))
 .ret)
 .skip))
 (.seq (.reg false (.op 0 [] (some 4) none false (.mov (.v (.int .i64 1)))
  .done))
 .ret))
 .skip))
 (.seq (.reg false (.op 0 [] (some 4) none false (.mov (.v (.int .i64 0)))
  .done))
 .ret))))
theorem dg_spec_l2cmp : Try.f47.body.bind (digC Try.prog Try.f47.ntmps []) = some c_spec_l2cmp := by kernel_rfl
theorem rs_spec_l2cmp : resSlots Try.prog Try.f47 = some [.s 4] := by kernel_rfl
theorem ok_spec_l2cmp (a b : List (List UInt8)) (ha : a.length ≤ 4194304) (hb : b.length ≤ 4194304) :
    FnOK Try.prog 47 [.agg [.d (encBB a)], .agg [.d (encBB b)]] (fun ra _ => ra = [.one (.d (.sc (.int .i64 (cmpN a b))))]) := by
  refine FnOK.ofK Try.func47 (by kernel_rfl) dg_spec_l2cmp rs_spec_l2cmp rfl rfl ?_
  unfold c_spec_l2cmp
  refine kSeq (kReg (kBox rfl rfl rfl rfl rfl (kBox rfl rfl rfl rfl rfl (kMovC rfl (kDone (kSeq (kSeq (kReg (kMovC rfl (kDone (kBlock ?_)))))))))))
  refine kLoop (α := { k : Nat // k ≤ a.length ∧ k ≤ b.length ∧ cmpN a b = cmpL (a.reverse.drop k) (b.reverse.drop k) })
    (fun y => ⟨tabSl [(2, .c (.ptr (rid 2 0) 1 0)), (3, .c (.ptr (rid 3 0) 1 0)), (5, .i (y.1 + 1))], obTab 1 [(rid 2 0, ⟨1, 0, .box [.d (encBB a)]⟩), (rid 3 0, ⟨1, 0, .box [.d (encBB b)]⟩)], []⟩) (fun y => a.length - y.1) ⟨0, by simp [cmpN]⟩
    .normA ?_
  rintro ⟨k, h1, h2, h3⟩
  simp only
  rcases Nat.lt_or_ge k a.length with hla | hga
  · rcases Nat.lt_or_ge k b.length with hlb | hgb
    · have hst := cmpL_step a b k hla hlb (a.length - (k + 1) : Int).toNat (b.length - (k + 1) : Int).toNat (by omega) (by omega)
      refine kSeq (kSeq (kReg (kMovC rfl (kFadP rfl rfl (kLoadP rfl rfl rfl (kLenR rfl rfl (kBin rfl rfl rfl (kMovC rfl (kGP rfl (fun g0 => kGT rfl (kMovC rfl (kGT rfl (kFadP rfl rfl (kGT rfl (kLoadP rfl rfl rfl (kGT rfl (kLenR rfl rfl (kGT rfl (kBin rfl rfl rfl (kPickT rfl (kMovC rfl (kDone (kCondP rfl (fun g1 => kSkip (kSeq (kBlock (kSeq (kRegD (kFadP rfl rfl (kLoadP rfl rfl rfl (kFadP rfl rfl (kLoadP rfl rfl rfl (kLenR rfl rfl (kMovC rfl (kDif rfl rfl (by omega) (kIadT rfl rfl (by omega) (kLoadD rfl rfl (kFadP rfl rfl (kLoadP rfl rfl rfl (kFadP rfl rfl (kLoadP rfl rfl rfl (kLenR rfl rfl (kMovC rfl (kDif rfl rfl (by omega) (kIadT rfl rfl (by omega) (kLoadD rfl rfl (kRelF rfl rfl (kCallD (ok_spec_l2bytes _ _) ⟨rfl, rfl, trivial⟩ rfl rfl rfl rfl rfl (kMovC rfl (kDone (kH (kSeq (kReg (kMovC rfl (kBin rfl rfl rfl (kDone (kCondIN rfl (fun g2 => kSeq (kReg (kMovC rfl (kMovC rfl (kDone (kRet (endRetA (ra := [.one (.d _)]) rfl ?_))))))) (fun g2 => kSkip (kBk (kReg (kMovC rfl (kAdd rfl rfl (by omega) (kMovC rfl (kDone ?_))))))))))))))))))))))))))))))))))))))))) (fun g1 => (by omega)))))))))))))))) (fun g0 => (by omega)))))))))))
      · rw [h3, hst, if_neg (by assumption)]
      · refine kInv ⟨⟨k + 1, hla, hlb, ?_⟩, by simp only; omega, .normA⟩
        rw [h3, hst, if_pos (by assumption)]
    · rw [cmpL_end a b k h1 h2 (by omega)] at h3
      refine kSeq (kSeq (kReg (kMovC rfl (kFadP rfl rfl (kLoadP rfl rfl rfl (kLenR rfl rfl (kBin rfl rfl rfl (kMovC rfl (kGP rfl (fun g0 => kGT rfl (kMovC rfl (kGT rfl (kFadP rfl rfl (kGT rfl (kLoadP rfl rfl rfl (kGT rfl (kLenR rfl rfl (kGT rfl (kBin rfl rfl rfl (kPickT rfl (kMovC rfl (kDone (kCondP rfl (fun g1 => (by omega)) (fun g1 => kExit (kExC (kExI (kExB (kSeq (kSeq (kReg (kFadP rfl rfl (kLoadP rfl rfl rfl (kLenR rfl rfl (kFadP rfl rfl (kLoadP rfl rfl rfl (kLenR rfl rfl (kBin rfl rfl rfl (kDone (kCondIN rfl (fun g2 => kSeq (kSeq (kReg (kFadP rfl rfl (kLoadP rfl rfl rfl (kLenR rfl rfl (kFadP rfl rfl (kLoadP rfl rfl rfl (kLenR rfl rfl (kBin rfl rfl rfl (kDone (kCondP rfl (fun g3 => (by omega)) (fun g3 => kSkip (kSeq (kReg (kMovC rfl (kDone (kRet (endRetA (ra := [.one (.d _)]) rfl ?_))))))))))))))))))) (fun g2 => (by omega)))))))))))))))))))))))))))))))) (fun g0 => (by omega)))))))))))
      all_goals (rw [h3]; first | (rw [if_pos (by omega)]; done) | (rw [if_neg (by omega), if_pos (by omega)]; done) | rw [if_neg (by omega), if_neg (by omega)])
  · rw [cmpL_end a b k h1 h2 (by omega)] at h3
    refine kSeq (kSeq (kReg (kMovC rfl (kFadP rfl rfl (kLoadP rfl rfl rfl (kLenR rfl rfl (kBin rfl rfl rfl (kMovC rfl (kGP rfl (fun g0 => (by omega)) (fun g0 => kGF rfl (kGF rfl (kGF rfl (kGF rfl (kGF rfl (kPickF rfl (kMovC rfl (kDone (kCondF rfl (kExit (kExC (kExI (kExB (kSeq (kSeq (kReg (kFadP rfl rfl (kLoadP rfl rfl rfl (kLenR rfl rfl (kFadP rfl rfl (kLoadP rfl rfl rfl (kLenR rfl rfl (kBin rfl rfl rfl (kDone (kCondIN rfl (fun g1 => kSeq (kSeq (kReg (kFadP rfl rfl (kLoadP rfl rfl rfl (kLenR rfl rfl (kFadP rfl rfl (kLoadP rfl rfl rfl (kLenR rfl rfl (kBin rfl rfl rfl (kDone (kCondP rfl (fun g2 => kSeq (kReg (kMovC rfl (kDone (kRet (endRetA (ra := [.one (.d _)]) rfl ?_)))))) (fun g2 => (by omega)))))))))))))) (fun g1 => kSkip (kSeq (kReg (kMovC rfl (kDone (kRet (endRetA (ra := [.one (.d _)]) rfl ?_)))))))))))))))))))))))))))))))))))))))))
    all_goals (rw [h3]; first | (rw [if_pos (by omega)]; done) | (rw [if_neg (by omega), if_pos (by omega)]; done) | rw [if_neg (by omega), if_neg (by omega)])

def c_spec_l3num : C := (.seq (.reg false (.op 0 [] (some 4) none false (.mov (.v (.int .i64 0)))
  .done))
 (.seq (.seq (.reg false (.op 0 [] (some 5) none false (.mov (.t 0))
  (.op 1 [] (some 6) none false (.mov (.t 1))
  (.op 2 [] (some 7) none false (.bin .lss (.t 5) (.t 6))
  .done))))
 (.cond (.t 7)
 (.seq (.reg false (.op 0 [] (some 4) none false (.mov (.v (.int .i64 (-1))))
  .done))
 .ret)
 .skip))
 (.seq (.seq (.reg false (.op 0 [] (some 8) none false (.mov (.t 0))
  (.op 1 [] (some 9) none false (.mov (.t 1))
  (.op 2 [] (some 10) none false (.bin .gtr (.t 8) (.t 9))
  .done))))
 (.cond (.t 10)
 (.seq (.reg false (.op 0 [] (some 4) none false (.mov (.v (.int .i64 1)))
  .done))
 .ret)
 .skip))
 (.seq (.reg false (.op 0 [] (some 4) none false (.mov (.v (.int .i64 0)))
  .done))
 .ret))))
theorem dg_spec_l3num : Try.f48.body.bind (digC Try.prog Try.f48.ntmps []) = some c_spec_l3num := by kernel_rfl
theorem rs_spec_l3num : resSlots Try.prog Try.f48 = some [.s 4] := by kernel_rfl
theorem ok_spec_l3num (a b : Int) :
    FnOK Try.prog 48 [.one (.d (.sc (.int .i64 a))), .one (.d (.sc (.int .i64 b)))] (fun ra _ => ra = [.one (.d (.sc (.int .i64 (cmpI a b))))]) := by
  refine FnOK.ofK Try.func48 (by kernel_rfl) dg_spec_l3num rs_spec_l3num rfl rfl ?_
  unfold c_spec_l3num
  refine kSeq (kReg (kMovC rfl (kDone (kSeq (kSeq (kReg (kMovC rfl (kMovC rfl (kBin rfl rfl rfl (kDone (kCondP rfl (fun g0 => kSeq (kReg (kMovC rfl (kDone (kRet (endRetA (ra := [.one (.d _)]) rfl ?_)))))) (fun g0 => kSkip (kSeq (kSeq (kReg (kMovC rfl (kMovC rfl (kBin rfl rfl rfl (kDone (kCondP rfl (fun g1 => kSeq (kReg (kMovC rfl (kDone (kRet (endRetA (ra := [.one (.d _)]) rfl ?_)))))) (fun g1 => kSkip (kSeq (kReg (kMovC rfl (kDone (kRet (endRetA (ra := [.one (.d _)]) rfl ?_)))))))))))))))))))))))))))
  all_goals (refine congrArg (fun z : Int => [RA.one (RV.d (DV.sc (Value.int IntKind.i64 z)))]) ?_; unfold cmpI; split <;> first | omega | (split <;> omega))

def c_spec_Put32 : C := (.seq (.reg false (.op 0 [] (some 4) none false (.mov (.n 1))
  .done))
 (.seq (.reg false (.op 0 [] (some 6) none false (.lit 6 1 [(.v (.int .u8 0))] 0 [])
  (.op 1 [] (some 7) none false (.mov (.t 0))
  (.op 2 [] (some 8) none false (.app 8 1 1 (.t 6) (.t 7))
  (.op 3 [] (some 5) none false (.mov (.t 8))
  .done)))))
 (.seq (.seq (.reg false (.op 0 [] (some 9) none false (.mov (.t 1))
  (.op 1 [] (some 10) none false (.bin .lss (.t 9) (.v (.int .i64 0)))
  (.op 2 [] (some 11) none false (.mov (.t 10))
  (.op 3 [] (some 12) (some (11, false)) false (.mov (.t 1))
  (.op 4 [] (some 13) (some (11, false)) false (.bin .geq (.t 12) (.v (.int .i64 4294967296)))
  (.op 5 [] (some 14) none false (.pick (.t 11) (.v (.bool true)) (.t 13))
  .done)))))))
 (.cond (.t 14)
 (.seq (.reg false (.op 0 [] (some 15) none false (.mov (.t 5))
  (.op 1 [] (some 4) none false (.mov (.t 15))
  .done)))
 .ret)
 .skip))
 (.seq (.reg false (.op 0 [] (some 16) none false (.mov (.t 5))
  (.op 1 [] (some 17) none false (.mov (.t 1))
  (.op 2 [] (some 18) none false (.bin .shr (.t 17) (.v (.int .u64 24)))
  (.op 3 [] (some 19) none false (.conv .u8 (.t 18))
  (.op 4 [] (some 20) none false (.mov (.t 1))
  (.op 5 [] (some 21) none false (.bin .shr (.t 20) (.v (.int .u64 16)))
  (.op 6 [] (some 22) none false (.conv .u8 (.t 21))
  (.op 7 [] (some 23) none false (.mov (.t 1))
  (.op 8 [] (some 24) none false (.bin .shr (.t 23) (.v (.int .u64 8)))
  (.op 9 [] (some 25) none false (.conv .u8 (.t 24))
  (.op 10 [] (some 26) none false (.mov (.t 1))
  (.op 11 [] (some 27) none false (.conv .u8 (.t 26))
  (.op 12 [] (some 28) none false (.lit 28 1 [(.v (.int .u8 0))] 4 [(0, 1, (.t 19)), (1, 1, (.t 22)), (2, 1, (.t 25)), (3, 1, (.t 27))])
  (.op 13 [] (some 29) none false (.app 29 1 1 (.t 16) (.t 28))
  (.op 14 [] (some 4) none false (.mov (.t 29))
  .done))))))))))))))))
 .ret))))
theorem dg_spec_Put32 : Try.f72.body.bind (digC Try.prog Try.f72.ntmps []) = some c_spec_Put32 := by kernel_rfl
theorem rs_spec_Put32 : resSlots Try.prog Try.f72 = some [.s 4] := by kernel_rfl
theorem ok_spec_Put32 (b : List UInt8) (n : Int) (hb : b.length ≤ 16777216) (h0 : 0 ≤ n) (h1 : n < 4294967296) :
    FnOK Try.prog 72 [.one (.d (encB b)), .one (.d (.sc (.int .i64 n)))] (fun ra _ => ra = [.one (.own true (encB (b ++ w4 n)))]) := by
  refine FnOK.ofK Try.func72 (by kernel_rfl) dg_spec_Put32 rs_spec_Put32 rfl rfl ?_
  unfold c_spec_Put32
  refine kSeq (kReg (kMovC rfl (kDone (kSeq (kReg (kLit rfl rfl rfl rfl (kMovC rfl (kAppN rfl rfl rfl (src_encB _ _) rfl rfl rfl rfl (by omega) (kMovC rfl (kDone (kSeq (kSeq (kReg (kMovC rfl (kBin rfl rfl rfl (kMovC rfl (kGP rfl (fun g0 => (by omega)) (fun g0 => kGT rfl (kMovC rfl (kGT rfl (kBin rfl rfl rfl (kPickF rfl (kMovC rfl (kDone (kCondP rfl (fun g1 => (by omega)) (fun g1 => kSkip (kSeq (kReg (kMem [(28672, ⟨2, 0, .arr true _⟩)] [(5, .c (.arr 28672 2)), (1, .c (.d _)), (17, .c (.un)), (18, .c (.un)), (20, .c (.un)), (21, .c (.un)), (23, .c (.un)), (24, .c (.un)), (26, .c (.un)), (19, .c (.un)), (22, .c (.un)), (25, .c (.un)), (27, .c (.un)), (16, .c (.un)), (28, .c (.un)), (29, .c (.un))] [] ⟨rfl, trivial⟩ ⟨rfl, rfl, rfl, rfl, rfl, rfl, rfl, rfl, rfl, rfl, rfl, rfl, rfl, rfl, rfl, rfl, trivial⟩ rfl (kMovC rfl (kMovC rfl (kShr (m := 24) rfl rfl rfl (kConvU8 rfl (kMovC rfl (kShr (m := 16) rfl rfl rfl (kConvU8 rfl (kMovC rfl (kShr (m := 8) rfl rfl rfl (kConvU8 rfl (kMovC rfl (kConvU8 rfl (kMem [(28672, ⟨2, 0, .arr true _⟩)] [(19, .c (.d _)), (22, .c (.d _)), (25, .c (.d _)), (27, .c (.d _)), (16, .c (.arr 28672 2)), (28, .c (.un)), (29, .c (.un))] [] ⟨rfl, trivial⟩ ⟨rfl, rfl, rfl, rfl, rfl, rfl, rfl, trivial⟩ rfl (kLit rfl rfl rfl rfl (kAppR4 rfl rfl rfl rfl rfl rfl rfl rfl (by omega) (kMovC rfl (kDone (kMem [(28672, ⟨3, 0, .arr true _⟩)] [(4, .c (.arr 28672 3))] [] ⟨rfl, trivial⟩ ⟨rfl, trivial⟩ rfl (kRet (endRetA (ra := [.one (.own true _)]) rfl rfl)))))))))))))))))))))))))))))))))))))))))))))))))
theorem ok_spec_Put32_nil (n : Int) (h0 : 0 ≤ n) (h1 : n < 4294967296) :
    FnOK Try.prog 72 [.one (.d (.sl 1 [])), .one (.d (.sc (.int .i64 n)))] (fun ra _ => ra = [.one (.own true (encB (w4 n)))]) := ok_spec_Put32 [] n (Nat.zero_le _) h0 h1

def c_spec_l2put : C := (.seq (.reg false (.op 0 [] (some 3) none false (.box 3 (.t 1))
  (.op 1 [] (some 4) none false (.mov (.n 1))
  .done)))
 (.seq (.seq (.reg false (.op 0 [] (some 5) none false (.mov (.v (.int .i64 0)))
  .done))
 (.block 0 (.loop (.seq (.seq (.reg false (.op 0 [] (some 6) none false (.mov (.t 5))
  (.op 1 [] (some 7) none false (.fad (.t 3) 0)
  (.op 2 [] (some 8) none false (.load none (.t 7))
  (.op 3 [] (some 9) none false (.len (.t 8))
  (.op 4 [] (some 10) none false (.bin .lss (.t 6) (.t 9))
  .done))))))
 (.cond (.t 10)
 .skip
 (.exit 0)))
 (.seq (.block 1 (.reg true (.op 0 [] (some 13) none true (.mov (.t 0))
  (.op 1 [] (some 14) none true (.fad (.t 3) 0)
  (.op 2 [] (some 15) none true (.load none (.t 14))
  (.op 3 [] (some 16) none true (.mov (.t 5))
  (.op 4 [] (some 17) none true (.iad 1 (.t 15) (.t 16))
  (.op 5 [] (some 18) none true (.load none (.t 17))
  (.op 6 [] (some 19) none true (.len (.t 18))
  (.op 7 [] (some 20) none true (.conv .u8 (.t 19))
  (.op 10 [] (some 23) none true (.fad (.t 3) 0)
  (.op 11 [] (some 24) none true (.load none (.t 23))
  (.op 12 [] (some 25) none true (.mov (.t 5))
  (.op 13 [] (some 26) none true (.iad 1 (.t 24) (.t 25))
  (.op 14 [] (some 27) none true (.load none (.t 26))
  (.op 8 [5, 2] (some 21) none false (.lit 21 1 [(.v (.int .u8 0))] 1 [(0, 1, (.t 20))])
  (.op 9 [5, 2] (some 22) none false (.app 22 1 1 (.t 13) (.t 21))
  (.op 15 [5, 14, 11] (some 28) none false (.app 28 1 1 (.t 22) (.t 27))
  (.op 16 [] (some 0) none true (.mov (.t 28))
  .done)))))))))))))))))))
 (.reg false (.op 0 [] (some 11) none false (.mov (.t 5))
  (.op 1 [] (some 12) none false (.bin .add (.t 11) (.v (.int .i64 1)))
  (.op 2 [] (some 5) none false (.mov (.t 12))
  .done)))))))))
 (.seq (.reg false (.op 0 [] (some 29) none false (.mov (.t 0))
  (.op 1 [] (some 30) none false (.lit 30 1 [(.v (.int .u8 0))] 1 [(0, 1, (.v (.int .u8 0)))])
  (.op 2 [] (some 31) none false (.app 31 1 1 (.t 29) (.t 30))
  (.op 3 [] (some 4) none false (.mov (.t 31))
  .done)))))
 .ret)))
theorem dg_spec_l2put : Try.f73.body.bind (digC Try.prog Try.f73.ntmps []) = some c_spec_l2put := by kernel_rfl
theorem rs_spec_l2put : resSlots Try.prog Try.f73 = some [.s 4] := by kernel_rfl
theorem ok_spec_l2put (b : List UInt8) (a : List (List UInt8)) (hs : SmallBB a) (hb : b.length ≤ 16777216) :
    FnOK Try.prog 73 [.one (.arr true true (encB b)), .agg [.d (encBB a)]] (fun ra _ => ra = [.one (.own true (encB (b ++ wireN a)))]) := by
  refine FnOK.ofK Try.func73 (by kernel_rfl) dg_spec_l2put rs_spec_l2put rfl rfl ?_
  unfold c_spec_l2put
  have h1 := hs.len
  have h2 := hs.flat
  refine kSeq (kReg (kBox rfl rfl rfl rfl rfl (kMovC rfl (kDone (kSeq (kSeq (kReg (kMovC rfl (kDone (kBlock ?_))))))))))
  refine kLoop (α := { i : Nat // i ≤ a.length }) (fun y => ⟨tabSl [(0, .c (.arr 0 1)), (3, .c (.ptr (rid 3 0) 1 0)), (5, .i y.1)], obTab 1 [(0, ⟨1, 0, .arr true (encB (b ++ wireL (a.take y.1)))⟩), (rid 3 0, ⟨1, 0, .box [.d (encBB a)]⟩)], []⟩) (fun y => a.length - y.1) ⟨0, by simp⟩ (by simp only [List.take_zero, wireL, List.flatMap_nil, List.append_nil]; exact .normA) ?_
  rintro ⟨i, hi⟩
  simp only
  have hl := wireL_le a i
  have hl2 : (b ++ wireL (a.take i)).length = b.length + (wireL (a.take i)).length := by simp
  rcases Nat.lt_or_ge i a.length with hlt | hge
  · have hst : b ++ wireL (a.take (i + 1)) = b ++ wireL (a.take i) ++ [u8 a[i].length] ++ a[i] := by rw [wireL_take a i hlt]; simp
    have hm := hs.mem _ (List.getElem_mem hlt)
    have hlen : (b ++ wireL (a.take i) ++ [u8 a[i].length]).length = (b ++ wireL (a.take i)).length + 1 := by simp only [List.length_append, List.length_cons, List.length_nil]
    refine kSeq (kSeq (kReg (kMovC rfl (kFadP rfl rfl (kLoadP rfl rfl rfl (kLenR rfl rfl (kBin rfl rfl rfl (kDone (kCondP rfl (fun g0 => kSkip (kSeq (kBlock (kRegD (kMovC rfl (kFadP rfl rfl (kLoadP rfl rfl rfl (kMovC rfl (kIadR rfl rfl rfl (by omega) (kMem [(16384, ⟨1, 0, .box [.d _]⟩), (0, ⟨1, 0, .arr true _⟩)] [(3, .c (.ptr 16384 1 0)), (5, .c (.d _)), (13, .c (.arr 0 1))] [16384] ⟨rfl, rfl, trivial⟩ ⟨rfl, rfl, rfl, trivial⟩ rfl (kLoadD rfl rfl (kLenR rfl rfl (kConvU8 rfl (kFadP rfl rfl (kLoadP rfl rfl rfl (kMovC rfl (kIadR rfl rfl rfl (by omega) (kLoadD rfl rfl (kRelK rfl rfl (kLit rfl rfl rfl rfl (kMem [(0, ⟨1, 0, .arr true _⟩), (90112, ⟨2, 0, .arr true _⟩)] [(13, .c (.arr 0 1)), (21, .c (.arr 90112 2)), (27, .c (.d _))] [16384, 16384] ⟨rfl, rfl, trivial⟩ ⟨rfl, rfl, rfl, trivial⟩ rfl (kRelK rfl rfl (kAppR1 rfl rfl rfl rfl rfl rfl rfl rfl (by omega) (kRelF rfl rfl (kAppR rfl rfl rfl (src_encB _ _) rfl rfl rfl rfl (by omega) (kMovC rfl (kDone (kH (kBk (kReg (kMovC rfl (kAdd rfl rfl (by omega) (kMovC rfl (kDone ?_)))))))))))))))))))))))))))))))))) (fun g0 => (by omega)))))))))))
    refine kInv ⟨⟨i + 1, by omega⟩, by simp only; omega, ?_⟩
    simp only [hst]
    exact .normA
  · have he : b ++ wireN a = b ++ wireL (a.take i) ++ [0] := by rw [show i = a.length by omega, List.take_length]; simp [wireN]
    rw [he]
    refine kSeq (kSeq (kReg (kMovC rfl (kFadP rfl rfl (kLoadP rfl rfl rfl (kLenR rfl rfl (kBin rfl rfl rfl (kDone (kCondP rfl (fun g0 => (by omega)) (fun g0 => kExit (kExC (kExI (kExB (kSeq (kReg (kMovC rfl (kLit rfl rfl rfl rfl (kAppR1 (z := (0 : UInt8)) rfl rfl rfl rfl rfl rfl rfl rfl (by omega) (kMem [(0, ⟨2, 0, .arr true _⟩)] [(31, .c (.arr 0 2))] [] ⟨rfl, trivial⟩ ⟨rfl, trivial⟩ rfl (kMovC rfl (kDone (kMem [(0, ⟨2, 0, .arr true _⟩)] [(4, .c (.arr 0 2))] [] ⟨rfl, trivial⟩ ⟨rfl, trivial⟩ rfl (kRet (endRetA (ra := [.one (.own true _)]) rfl rfl))))))))))))))))))))))))
theorem ok_spec_l2put_nil (a : List (List UInt8)) (hs : SmallBB a) :
    FnOK Try.prog 73 [.one (.arr true true (.sl 1 [])), .agg [.d (encBB a)]] (fun ra _ => ra = [.one (.own true (encB (wireN a)))]) := ok_spec_l2put [] a hs (Nat.zero_le _)

def c_spec_l3put : C := (.seq (.reg false (.op 0 [] (some 1) none false (.box 1 (.t 0))
  (.op 1 [] (some 2) none false (.mov (.n 1))
  .done)))
 (.seq (.block 0 (.seq (.reg false (.op 0 [] (some 4) none false (.fad (.t 1) 1)
  (.op 1 [] (some 5) none false (.load none (.t 4))
  (.op 2 [] (some 6) none false (.bin .eql (.t 5) (.v (.int .i64 1)))
  (.op 3 [] (some 3) none false (.mov (.t 6))
  .done)))))
 (.cond (.t 3)
 (.seq (.reg false (.op 0 [] (some 7) none false (.fad (.t 1) 3)
  (.op 1 [] (some 8) none false (.load none (.t 7))
  (.op 2 [] (some 9) none false (.call 9 72 [(.n 1), (.t 8)])
  (.op 3 [] (some 2) none false (.mov (.t 9))
  .done)))))
 .ret)
 (.seq (.reg false (.op 0 [] (some 11) none false (.fad (.t 1) 1)
  (.op 1 [] (some 12) none false (.load none (.t 11))
  (.op 2 [] (some 13) none false (.bin .eql (.t 12) (.v (.int .i64 6)))
  (.op 3 [] (some 10) none false (.mov (.t 13))
  .done)))))
 (.cond (.t 10)
 (.seq (.reg true (.op 0 [] (some 14) none true (.fad (.t 1) 4)
  (.op 1 [] (some 15) none true (.load (some 1) (.t 14))
  (.op 3 [] (some 17) none true (.fad (.t 1) 6)
  (.op 4 [] (some 18) none true (.load none (.t 17))
  (.op 5 [] (some 19) none true (.iad 1 (.t 18) (.v (.int .i64 0)))
  (.op 6 [] (some 20) none true (.load none (.t 19))
  (.op 8 [] (some 22) none true (.fad (.t 1) 6)
  (.op 9 [] (some 23) none true (.load none (.t 22))
  (.op 10 [] (some 24) none true (.iad 1 (.t 23) (.v (.int .i64 1)))
  (.op 11 [] (some 25) none true (.load none (.t 24))
  (.op 2 [1] (some 16) none false (.call 16 73 [(.n 1), (.t 15)])
  (.op 7 [1, 6, 4] (some 21) none false (.call 21 72 [(.t 16), (.t 20)])
  (.op 12 [1, 6, 4, 11, 9] (some 26) none false (.call 26 72 [(.t 21), (.t 25)])
  (.op 13 [] (some 2) none true (.mov (.t 26))
  .done)))))))))))))))
 .ret)
 (.seq (.reg false (.op 0 [] (some 28) none false (.fad (.t 1) 1)
  (.op 1 [] (some 29) none false (.load none (.t 28))
  (.op 2 [] (some 30) none false (.call 30 29 [(.t 29)])
  (.op 3 [] (some 27) none false (.mov (.t 30))
  .done)))))
 (.cond (.t 27)
 (.seq (.reg false (.op 0 [] (some 31) none false (.fad (.t 1) 4)
  (.op 1 [] (some 32) none false (.load (some 1) (.t 31))
  (.op 2 [] (some 33) none false (.call 33 73 [(.n 1), (.t 32)])
  (.op 3 [] (some 2) none false (.mov (.t 33))
  .done)))))
 .ret)
 .skip)))))))
 (.seq (.reg false (.op 0 [] (some 34) none false (.fad (.t 1) 5)
  (.op 1 [] (some 35) none false (.load none (.t 34))
  (.op 2 [] (some 36) none false (.len (.t 35))
  (.op 3 [] (some 37) none false (.conv .u8 (.t 36))
  (.op 4 [] (some 38) none false (.lit 38 1 [(.v (.int .u8 0))] 1 [(0, 1, (.t 37))])
  (.op 5 [] (some 39) none false (.fad (.t 1) 5)
  (.op 6 [] (some 40) none false (.load none (.t 39))
  (.op 7 [] (some 41) none false (.app 41 1 1 (.t 38) (.t 40))
  (.op 8 [] (some 2) none false (.mov (.t 41))
  .done))))))))))
 .ret)))
theorem dg_spec_l3put : Try.f50.body.bind (digC Try.prog Try.f50.ntmps []) = some c_spec_l3put := by kernel_rfl
theorem rs_spec_l3put : resSlots Try.prog Try.f50 = some [.s 2] := by kernel_rfl
theorem ok_spec_l3put (r : Rr) (hs : SmallR r) (hk : rrOk r = true) :
    FnOK Try.prog 50 [.agg (r.cells.map .d)] (fun ra _ => ra = [.one (.own true (encB (rdata r)))]) := by
  refine FnOK.ofK Try.func50 (by kernel_rfl) dg_spec_l3put rs_spec_l3put rfl rfl ?_
  unfold c_spec_l3put
  have ht := hs.t
  have t1 := hs.t.len
  have t2 := hs.t.flat
  have x1 := hs.x
  have m1 := hs.m
  by_cases h1 : r.ty = 1
  · rw [rdata_A h1]
    have ha := rdata_ad hk h1
    refine kSeq (kReg (kBox rfl rfl rfl rfl rfl (kMovC rfl (kDone (kSeq (kBlock (kSeq (kReg (kFadP rfl rfl (kLoadP rfl rfl rfl (kBin rfl rfl rfl (kMovC rfl (kDone (kCondP rfl (fun g0 => kSeq (kReg (kFadP rfl rfl (kLoadP rfl rfl rfl (kCall1 true (ok_spec_Put32_nil _ (by first | assumption | omega | solve_by_elim [List.getElem_mem] | (simp only [szOut] at *; omega)) (by first | assumption | omega | solve_by_elim [List.getElem_mem] | (simp only [szOut] at *; omega))) ⟨rfl, rfl, trivial⟩ rfl rfl rfl (fun _ => (kMem [(40960, ⟨1, 0, .arr true _⟩)] [(9, .c (.arr 40960 1))] [] ⟨rfl, trivial⟩ ⟨rfl, trivial⟩ rfl (kMovC rfl (kDone (kMem [(40960, ⟨1, 0, .arr true _⟩)] [(2, .c (.arr 40960 1))] [] ⟨rfl, trivial⟩ ⟨rfl, trivial⟩ rfl (kRet (endRetA (ra := [.one (.own true _)]) rfl rfl)))))))))))) (fun g0 => (by omega))))))))))))))))
  by_cases h6 : r.ty = 6
  · obtain ⟨h2, h3, h4, h5⟩ := rdata_soa hk h6
    rw [h5]
    have w1 := wireN_len r.to
    have w2 : (wireN r.to ++ w4 (r.nums[0]'(by omega))).length = (wireN r.to).length + 4 := by rw [List.length_append, w4_len]
    refine kSeq (kReg (kBox rfl rfl rfl rfl rfl (kMovC rfl (kDone (kSeq (kBlock (kSeq (kReg (kFadP rfl rfl (kLoadP rfl rfl rfl (kBin rfl rfl rfl (kMovC rfl (kDone (kCondP rfl (fun g0 => (by omega)) (fun g0 => kSeq (kReg (kFadP rfl rfl (kLoadP rfl rfl rfl (kBin rfl rfl rfl (kMovC rfl (kDone (kCondP rfl (fun g1 => kSeq (kRegD (kMem [(8192, ⟨1, 0, .box [.d _, .d _, .d _, .d _, .d _, .d _, .d _]⟩)] [(1, .c (.ptr 8192 1 0)), (14, .c (.un)), (17, .c (.un)), (18, .c (.un)), (19, .c (.un)), (22, .c (.un)), (23, .c (.un)), (24, .c (.un)), (15, .c (.un)), (16, .c (.un)), (20, .c (.un)), (21, .c (.un)), (25, .c (.un)), (26, .c (.un))] [] ⟨rfl, trivial⟩ ⟨rfl, rfl, rfl, rfl, rfl, rfl, rfl, rfl, rfl, rfl, rfl, rfl, rfl, rfl, trivial⟩ rfl (kFadP rfl rfl (kLoadP rfl rfl rfl (kFadP rfl rfl (kLoadP rfl rfl rfl (kIadR (m := 0) rfl rfl rfl (by omega) (kLoadD rfl rfl (kFadP rfl rfl (kLoadP rfl rfl rfl (kIadR (m := 1) rfl rfl rfl (by omega) (kLoadD rfl rfl (kRelK rfl rfl (kCall1 true (ok_spec_l2put_nil _ (by first | assumption | omega | solve_by_elim [List.getElem_mem] | (simp only [szOut] at *; omega))) ⟨⟨rfl, rfl⟩, ⟨⟨rfl, trivial⟩, Nat.le_of_ble_eq_true rfl⟩, trivial⟩ rfl rfl rfl (fun _ => (kMem [(69632, ⟨1, 0, .arr true _⟩)] [(16, .c (.arr 69632 1)), (20, .c (.d _)), (21, .c (.un)), (25, .c (.d _)), (26, .c (.un))] [8192, 8192, 8192] ⟨rfl, trivial⟩ ⟨rfl, rfl, rfl, rfl, rfl, trivial⟩ rfl (kRelK rfl rfl (kCall1 true (ok_spec_Put32 _ _ (by first | assumption | omega | solve_by_elim [List.getElem_mem] | (simp only [szOut] at *; omega)) (by first | assumption | omega | solve_by_elim [List.getElem_mem] | (simp only [szOut] at *; omega)) (by first | assumption | omega | solve_by_elim [List.getElem_mem] | (simp only [szOut] at *; omega))) ⟨rfl, rfl, trivial⟩ rfl rfl rfl (fun _ => (kRelF rfl rfl (kCall1 true (ok_spec_Put32 _ _ (by first | assumption | omega | solve_by_elim [List.getElem_mem] | (simp only [szOut] at *; omega)) (by first | assumption | omega | solve_by_elim [List.getElem_mem] | (simp only [szOut] at *; omega)) (by first | assumption | omega | solve_by_elim [List.getElem_mem] | (simp only [szOut] at *; omega))) ⟨rfl, rfl, trivial⟩ rfl rfl rfl (fun _ => (kMovC rfl (kDone (kH (kMem [(110592, ⟨1, 0, .arr true _⟩)] [(2, .c (.arr 110592 1))] [] ⟨rfl, trivial⟩ ⟨rfl, trivial⟩ rfl (kRet (endRetA (ra := [.one (.own true _)]) rfl rfl))))))))))))))))))))))))))))) (fun g1 => (by omega))))))))))))))))))))))))
  have hn := rdata_nm hk h6
  cases h2 : hasTo r.ty
  · rw [rdata_text h1 h2]
    refine kSeq (kReg (kBox rfl rfl rfl rfl rfl (kMovC rfl (kDone (kSeq (kBlock (kSeq (kReg (kFadP rfl rfl (kLoadP rfl rfl rfl (kBin rfl rfl rfl (kMovC rfl (kDone (kCondP rfl (fun g0 => (by omega)) (fun g0 => kSeq (kReg (kFadP rfl rfl (kLoadP rfl rfl rfl (kBin rfl rfl rfl (kMovC rfl (kDone (kCondP rfl (fun g1 => (by omega)) (fun g1 => kSeq (kReg (kMem [(8192, ⟨1, 0, .box [.d _, .d _, .d _, .d _, .d _, .d _, .d _]⟩)] [(1, .c (.ptr 8192 1 0)), (28, .c (.un)), (29, .c (.un)), (30, .c (.un))] [] ⟨rfl, trivial⟩ ⟨rfl, rfl, rfl, rfl, trivial⟩ rfl (kFadP rfl rfl (kLoadP rfl rfl rfl (kCallD (ok_spec_l3named _) ⟨rfl, trivial⟩ rfl rfl rfl rfl rfl (kMovC rfl (kDone (kCond rfl (fun g2 => (by (simp [*] at g2))) (fun g2 => kSkip (kBk (kSeq (kReg (kFadP rfl rfl (kLoadP rfl rfl rfl (kLenR rfl rfl (kConvU8 rfl (kLit rfl rfl rfl rfl (kMem [(8192, ⟨1, 0, .box [.d _, .d _, .d _, .d _, .d _, .d _, .d _]⟩), (159744, ⟨1, 0, .arr true _⟩)] [(1, .c (.ptr 8192 1 0)), (39, .c (.un)), (38, .c (.arr 159744 1)), (40, .c (.un)), (41, .c (.un))] [] ⟨rfl, rfl, trivial⟩ ⟨rfl, rfl, rfl, rfl, rfl, trivial⟩ rfl (kFadP rfl rfl (kLoadP rfl rfl rfl (kApp1R rfl rfl (src_encB _ _) rfl rfl rfl rfl rfl (by omega) (kMovC rfl (kDone (kMem [(159744, ⟨2, 0, .arr true _⟩)] [(2, .c (.arr 159744 2))] [] ⟨rfl, trivial⟩ ⟨rfl, trivial⟩ rfl (kRet (endRetA (ra := [.one (.own true _)]) rfl rfl)))))))))))))))))))))))))))))))))))))))))))))))))
  · rw [rdata_to h1 h2, hn, List.flatMap_nil, List.append_nil]
    refine kSeq (kReg (kBox rfl rfl rfl rfl rfl (kMovC rfl (kDone (kSeq (kBlock (kSeq (kReg (kFadP rfl rfl (kLoadP rfl rfl rfl (kBin rfl rfl rfl (kMovC rfl (kDone (kCondP rfl (fun g0 => (by omega)) (fun g0 => kSeq (kReg (kFadP rfl rfl (kLoadP rfl rfl rfl (kBin rfl rfl rfl (kMovC rfl (kDone (kCondP rfl (fun g1 => (by omega)) (fun g1 => kSeq (kReg (kMem [(8192, ⟨1, 0, .box [.d _, .d _, .d _, .d _, .d _, .d _, .d _]⟩)] [(1, .c (.ptr 8192 1 0)), (28, .c (.un)), (29, .c (.un)), (30, .c (.un))] [] ⟨rfl, trivial⟩ ⟨rfl, rfl, rfl, rfl, trivial⟩ rfl (kFadP rfl rfl (kLoadP rfl rfl rfl (kCallD (ok_spec_l3named _) ⟨rfl, trivial⟩ rfl rfl rfl rfl rfl (kMovC rfl (kDone (kCond rfl (fun g2 => kSeq (kReg (kFadP rfl rfl (kLoadP rfl rfl rfl (kCall1 true (ok_spec_l2put_nil _ (by first | assumption | omega | solve_by_elim [List.getElem_mem] | (simp only [szOut] at *; omega))) ⟨⟨rfl, rfl⟩, ⟨⟨rfl, trivial⟩, Nat.le_of_ble_eq_true rfl⟩, trivial⟩ rfl rfl rfl (fun _ => (kMovC rfl (kDone (kMem [(139264, ⟨1, 0, .arr true _⟩)] [(2, .c (.arr 139264 1))] [] ⟨rfl, trivial⟩ ⟨rfl, trivial⟩ rfl (kRet (endRetA (ra := [.one (.own true _)]) rfl rfl))))))))))) (fun g2 => (by (simp [*] at g2))))))))))))))))))))))))))))))))))

def c_spec_l3cmp : C := (.seq (.reg false (.op 0 [] (some 2) none false (.box 2 (.t 0))
  (.op 1 [] (some 3) none false (.box 3 (.t 1))
  (.op 2 [] (some 4) none false (.mov (.v (.int .i64 0)))
  .done))))
 (.seq (.reg false (.op 0 [] (some 6) none false (.fad (.t 2) 0)
  (.op 1 [] (some 7) none false (.load (some 1) (.t 6))
  (.op 2 [] (some 8) none false (.fad (.t 3) 0)
  (.op 3 [] (some 9) none false (.load (some 1) (.t 8))
  (.op 4 [] (some 10) none false (.call 10 47 [(.t 7), (.t 9)])
  (.op 5 [] (some 5) none false (.mov (.t 10))
  .done)))))))
 (.seq (.seq (.reg false (.op 0 [] (some 11) none false (.mov (.t 5))
  (.op 1 [] (some 12) none false (.bin .eql (.t 11) (.v (.int .i64 0)))
  .done)))
 (.cond (.t 12)
 (.reg false (.op 0 [] (some 13) none false (.fad (.t 2) 1)
  (.op 1 [] (some 14) none false (.load none (.t 13))
  (.op 2 [] (some 15) none false (.fad (.t 3) 1)
  (.op 3 [] (some 16) none false (.load none (.t 15))
  (.op 4 [] (some 17) none false (.call 17 48 [(.t 14), (.t 16)])
  (.op 5 [] (some 5) none false (.mov (.t 17))
  .done)))))))
 .skip))
 (.seq (.seq (.reg false (.op 0 [] (some 18) none false (.mov (.t 5))
  (.op 1 [] (some 19) none false (.bin .eql (.t 18) (.v (.int .i64 0)))
  .done)))
 (.cond (.t 19)
 (.reg true (.op 0 [] (some 20) none true (.load (some 7) (.t 2))
  (.op 2 [] (some 22) none true (.load (some 7) (.t 3))
  (.op 1 [0] (some 21) none false (.call 21 50 [(.t 20)])
  (.op 3 [2, 0] (some 23) none false (.call 23 50 [(.t 22)])
  (.op 4 [0, 2] (some 24) none false (.call 24 49 [(.t 21), (.t 23)])
  (.op 5 [] (some 5) none true (.mov (.t 24))
  .done)))))))
 .skip))
 (.seq (.reg false (.op 0 [] (some 25) none false (.mov (.t 5))
  (.op 1 [] (some 4) none false (.mov (.t 25))
  .done)))
 .ret)))))
theorem dg_spec_l3cmp : Try.f25.body.bind (digC Try.prog Try.f25.ntmps []) = some c_spec_l3cmp := by kernel_rfl
theorem rs_spec_l3cmp : resSlots Try.prog Try.f25 = some [.s 4] := by kernel_rfl
theorem ok_spec_l3cmp (a b : Rr) (ha : SmallR a) (hb : SmallR b) (ka : rrOk a = true) (kb : rrOk b = true) :
    FnOK Try.prog 25 [.agg (a.cells.map .d), .agg (b.cells.map .d)] (fun ra _ => ra = [.one (.d (.sc (.int .i64 (cmpR a b))))]) := by
  refine FnOK.ofK Try.func25 (by kernel_rfl) dg_spec_l3cmp rs_spec_l3cmp rfl rfl ?_
  unfold c_spec_l3cmp
  have n1 := ha.n.len
  have n2 := hb.n.len
  by_cases h1 : cmpN a.name b.name = 0
  · by_cases h2 : cmpI a.ty b.ty = 0
    · rw [show cmpR a b = cmpB (rdata a) (rdata b) by unfold cmpR; rw [if_pos h1, if_pos h2]]
      refine kSeq (kReg (kBox rfl rfl rfl rfl rfl (kBox rfl rfl rfl rfl rfl (kMovC rfl (kDone (kSeq (kReg (kFadP rfl rfl (kLoadP rfl rfl rfl (kFadP rfl rfl (kLoadP rfl rfl rfl (kCallD (ok_spec_l2cmp _ _ (by first | assumption | omega | solve_by_elim [List.getElem_mem] | (simp only [szOut] at *; omega)) (by first | assumption | omega | solve_by_elim [List.getElem_mem] | (simp only [szOut] at *; omega))) ⟨⟨⟨rfl, trivial⟩, Nat.le_of_ble_eq_true rfl⟩, ⟨⟨rfl, trivial⟩, Nat.le_of_ble_eq_true rfl⟩, trivial⟩ rfl rfl rfl rfl rfl (kMovC rfl (kDone (kSeq (kSeq (kReg (kMovC rfl (kBin rfl rfl rfl (kDone (kCondP rfl (fun g0 => kReg (kMem [(12288, ⟨1, 0, .box [.d _, .d _, .d _, .d _, .d _, .d _, .d _]⟩), (16384, ⟨1, 0, .box [.d _, .d _, .d _, .d _, .d _, .d _, .d _]⟩)] [(2, .c (.ptr 12288 1 0)), (13, .c (.un)), (3, .c (.ptr 16384 1 0)), (15, .c (.un)), (14, .c (.un)), (16, .c (.un)), (17, .c (.un))] [] ⟨rfl, rfl, trivial⟩ ⟨rfl, rfl, rfl, rfl, rfl, rfl, rfl, trivial⟩ rfl (kFadP rfl rfl (kLoadP rfl rfl rfl (kFadP rfl rfl (kLoadP rfl rfl rfl (kCallD (ok_spec_l3num _ _) ⟨rfl, rfl, trivial⟩ rfl rfl rfl rfl rfl (kMovC rfl (kDone (kSeq (kSeq (kReg (kMovC rfl (kBin rfl rfl rfl (kDone (kCondP rfl (fun g1 => kRegD (kLoadP rfl rfl rfl (kMem [(16384, ⟨1, 0, .box [.d _, .d _, .d _, .d _, .d _, .d _, .d _]⟩)] [(3, .c (.ptr 16384 1 0)), (20, .g [.d _, .d _, .d _, .d _, .d _, .d _, .d _]), (22, .c (.un)), (21, .c (.un)), (23, .c (.un)), (24, .c (.un))] [12288] ⟨rfl, trivial⟩ ⟨rfl, rfl, rfl, rfl, rfl, rfl, trivial⟩ rfl (kLoadP rfl rfl rfl (kRelK rfl rfl (kCall1 true (ok_spec_l3put _ (by first | assumption | omega | solve_by_elim [List.getElem_mem] | (simp only [szOut] at *; omega)) (by first | assumption | omega | solve_by_elim [List.getElem_mem] | (simp only [szOut] at *; omega))) ⟨⟨⟨rfl, rfl, rfl, rfl, rfl, rfl, rfl, trivial⟩, Nat.le_of_ble_eq_true rfl⟩, trivial⟩ rfl rfl rfl (fun _ => (kRelF rfl rfl (kCall1 true (ok_spec_l3put _ (by first | assumption | omega | solve_by_elim [List.getElem_mem] | (simp only [szOut] at *; omega)) (by first | assumption | omega | solve_by_elim [List.getElem_mem] | (simp only [szOut] at *; omega))) ⟨⟨⟨rfl, rfl, rfl, rfl, rfl, rfl, rfl, trivial⟩, Nat.le_of_ble_eq_true rfl⟩, trivial⟩ rfl rfl rfl (fun _ => (kRelF rfl rfl (kCallD (ok_spec_l2bytes _ _) ⟨rfl, rfl, trivial⟩ rfl rfl rfl rfl rfl (kMovC rfl (kDone (kH (kSeq (kReg (kMovC rfl (kMovC rfl (kDone (kRet (endRetA (ra := [.one (.d _)]) rfl rfl)))))))))))))))))))))) (fun g1 => (by omega)))))))))))))))))) (fun g0 => (by omega)))))))))))))))))))))))
    · rw [show cmpR a b = cmpI a.ty b.ty by unfold cmpR; rw [if_pos h1, if_neg h2]]
      refine kSeq (kReg (kBox rfl rfl rfl rfl rfl (kBox rfl rfl rfl rfl rfl (kMovC rfl (kDone (kSeq (kReg (kFadP rfl rfl (kLoadP rfl rfl rfl (kFadP rfl rfl (kLoadP rfl rfl rfl (kCallD (ok_spec_l2cmp _ _ (by first | assumption | omega | solve_by_elim [List.getElem_mem] | (simp only [szOut] at *; omega)) (by first | assumption | omega | solve_by_elim [List.getElem_mem] | (simp only [szOut] at *; omega))) ⟨⟨⟨rfl, trivial⟩, Nat.le_of_ble_eq_true rfl⟩, ⟨⟨rfl, trivial⟩, Nat.le_of_ble_eq_true rfl⟩, trivial⟩ rfl rfl rfl rfl rfl (kMovC rfl (kDone (kSeq (kSeq (kReg (kMovC rfl (kBin rfl rfl rfl (kDone (kCondP rfl (fun g0 => kReg (kMem [(12288, ⟨1, 0, .box [.d _, .d _, .d _, .d _, .d _, .d _, .d _]⟩), (16384, ⟨1, 0, .box [.d _, .d _, .d _, .d _, .d _, .d _, .d _]⟩)] [(2, .c (.ptr 12288 1 0)), (13, .c (.un)), (3, .c (.ptr 16384 1 0)), (15, .c (.un)), (14, .c (.un)), (16, .c (.un)), (17, .c (.un))] [] ⟨rfl, rfl, trivial⟩ ⟨rfl, rfl, rfl, rfl, rfl, rfl, rfl, trivial⟩ rfl (kFadP rfl rfl (kLoadP rfl rfl rfl (kFadP rfl rfl (kLoadP rfl rfl rfl (kCallD (ok_spec_l3num _ _) ⟨rfl, rfl, trivial⟩ rfl rfl rfl rfl rfl (kMovC rfl (kDone (kSeq (kSeq (kReg (kMovC rfl (kBin rfl rfl rfl (kDone (kCondP rfl (fun g1 => (by omega)) (fun g1 => kSkip (kSeq (kReg (kMovC rfl (kMovC rfl (kDone (kRet (endRetA (ra := [.one (.d _)]) rfl rfl)))))))))))))))))))))))) (fun g0 => (by omega)))))))))))))))))))))))
  · rw [show cmpR a b = cmpN a.name b.name by unfold cmpR; rw [if_neg h1]]
    refine kSeq (kReg (kBox rfl rfl rfl rfl rfl (kBox rfl rfl rfl rfl rfl (kMovC rfl (kDone (kSeq (kReg (kFadP rfl rfl (kLoadP rfl rfl rfl (kFadP rfl rfl (kLoadP rfl rfl rfl (kCallD (ok_spec_l2cmp _ _ (by first | assumption | omega | solve_by_elim [List.getElem_mem] | (simp only [szOut] at *; omega)) (by first | assumption | omega | solve_by_elim [List.getElem_mem] | (simp only [szOut] at *; omega))) ⟨⟨⟨rfl, trivial⟩, Nat.le_of_ble_eq_true rfl⟩, ⟨⟨rfl, trivial⟩, Nat.le_of_ble_eq_true rfl⟩, trivial⟩ rfl rfl rfl rfl rfl (kMovC rfl (kDone (kSeq (kSeq (kReg (kMovC rfl (kBin rfl rfl rfl (kDone (kCondP rfl (fun g0 => (by omega)) (fun g0 => kSkip (kSeq (kSeq (kReg (kMovC rfl (kBin rfl rfl rfl (kDone (kCondP rfl (fun g1 => (by omega)) (fun g1 => kSkip (kSeq (kReg (kMovC rfl (kMovC rfl (kDone (kRet (endRetA (ra := [.one (.d _)]) rfl rfl)))))))))))))))))))))))))))))))))))))

def c_spec_RrSame : C := (.seq (.reg false (.op 0 [] (some 2) none false (.box 2 (.t 0))
  (.op 1 [] (some 3) none false (.box 3 (.t 1))
  (.op 2 [] (some 4) none false (.mov (.v (.bool false)))
  .done))))
 (.seq (.reg false (.op 0 [] (some 5) none false (.load (some 7) (.t 2))
  (.op 1 [] (some 6) none false (.call 6 24 [(.t 5)])
  (.op 2 [] (some 7) none false (.mov (.t 6))
  (.op 3 [] (some 8) (some (7, true)) false (.load (some 7) (.t 3))
  (.op 4 [] (some 9) (some (7, true)) false (.call 9 24 [(.t 8)])
  (.op 5 [] (some 10) none false (.pick (.t 7) (.t 9) (.v (.bool false)))
  (.op 6 [] (some 11) none false (.mov (.t 10))
  (.op 7 [] (some 12) (some (11, true)) false (.load (some 7) (.t 2))
  (.op 8 [] (some 13) (some (11, true)) false (.load (some 7) (.t 3))
  (.op 9 [] (some 14) (some (11, true)) false (.call 14 25 [(.t 12), (.t 13)])
  (.op 10 [] (some 15) (some (11, true)) false (.bin .eql (.t 14) (.v (.int .i64 0)))
  (.op 11 [] (some 16) none false (.pick (.t 11) (.t 15) (.v (.bool false)))
  (.op 12 [] (some 4) none false (.mov (.t 16))
  .done))))))))))))))
 .ret))
theorem dg_spec_RrSame : Try.f8.body.bind (digC Try.prog Try.f8.ntmps []) = some c_spec_RrSame := by kernel_rfl
theorem rs_spec_RrSame : resSlots Try.prog Try.f8 = some [.s 4] := by kernel_rfl
theorem ok_spec_RrSame (a b : Rr) (ha : SmallR a) (hb : SmallR b) :
    FnOK Try.prog 8 [.agg (a.cells.map .d), .agg (b.cells.map .d)] (fun ra _ => ra = [.one (.d (.sc (.bool (sameR a b))))]) := by
  refine FnOK.ofK Try.func8 (by kernel_rfl) dg_spec_RrSame rs_spec_RrSame rfl rfl ?_
  unfold c_spec_RrSame
  refine kSeq (kReg (kBox rfl rfl rfl rfl rfl (kBox rfl rfl rfl rfl rfl (kMovC rfl (kDone (kSeq (kReg (kLoadP rfl rfl rfl (kCallD (ok_spec_RrOk _ (by first | assumption | omega | solve_by_elim [List.getElem_mem] | (simp only [szOut] at *; omega) | exact rfl | exact Nat.le_of_ble_eq_true rfl)) ⟨⟨⟨rfl, rfl, rfl, rfl, rfl, rfl, rfl, trivial⟩, Nat.le_of_ble_eq_true rfl⟩, trivial⟩ rfl rfl rfl rfl rfl (kMovC rfl (kGS rfl (fun g0 => kGT rfl (kLoadP rfl rfl rfl (kMem [(12288, ⟨1, 0, .box [.d _, .d _, .d _, .d _, .d _, .d _, .d _]⟩), (16384, ⟨1, 0, .box [.d _, .d _, .d _, .d _, .d _, .d _, .d _]⟩)] [(8, .g [.d _, .d _, .d _, .d _, .d _, .d _, .d _]), (7, .c (.d _)), (9, .c (.un)), (10, .c (.un)), (2, .c (.ptr 12288 1 0)), (3, .c (.ptr 16384 1 0)), (12, .c (.un)), (13, .c (.un)), (14, .c (.un)), (11, .c (.un)), (15, .c (.un)), (16, .c (.un))] [] ⟨rfl, rfl, trivial⟩ ⟨rfl, rfl, rfl, rfl, rfl, rfl, rfl, rfl, rfl, rfl, rfl, rfl, trivial⟩ rfl (kGT rfl (kCallD (ok_spec_RrOk _ (by first | assumption | omega | solve_by_elim [List.getElem_mem] | (simp only [szOut] at *; omega) | exact rfl | exact Nat.le_of_ble_eq_true rfl)) ⟨⟨⟨rfl, rfl, rfl, rfl, rfl, rfl, rfl, trivial⟩, Nat.le_of_ble_eq_true rfl⟩, trivial⟩ rfl rfl rfl rfl rfl (kPickT rfl (kMovC rfl (kMovC rfl (kGS rfl (fun g1 => kGT rfl (kLoadP rfl rfl rfl (kGT rfl (kLoadP rfl rfl rfl (kGT rfl (kCallD (ok_spec_l3cmp _ _ (by first | assumption | omega | solve_by_elim [List.getElem_mem] | (simp only [szOut] at *; omega) | exact rfl | exact Nat.le_of_ble_eq_true rfl) (by first | assumption | omega | solve_by_elim [List.getElem_mem] | (simp only [szOut] at *; omega) | exact rfl | exact Nat.le_of_ble_eq_true rfl) (by first | assumption | omega | solve_by_elim [List.getElem_mem] | (simp only [szOut] at *; omega) | exact rfl | exact Nat.le_of_ble_eq_true rfl) (by first | assumption | omega | solve_by_elim [List.getElem_mem] | (simp only [szOut] at *; omega) | exact rfl | exact Nat.le_of_ble_eq_true rfl)) ⟨⟨⟨rfl, rfl, rfl, rfl, rfl, rfl, rfl, trivial⟩, Nat.le_of_ble_eq_true rfl⟩, ⟨⟨rfl, rfl, rfl, rfl, rfl, rfl, rfl, trivial⟩, Nat.le_of_ble_eq_true rfl⟩, trivial⟩ rfl rfl rfl rfl rfl (kGT rfl (kBin rfl rfl rfl (kPickT rfl (kMovC rfl (kMovC rfl (kDone (kRet (endRetA (ra := [.one (.d _)]) rfl ?_)))))))))))))) (fun g1 => kGF rfl (kGF rfl (kGF rfl (kGF rfl (kPickF rfl (kMovC rfl (kMovC rfl (kDone (kRet (endRetA (ra := [.one (.d _)]) rfl ?_))))))))))))))))))) (fun g0 => kGF rfl (kGF rfl (kMem [(12288, ⟨1, 0, .box [.d _, .d _, .d _, .d _, .d _, .d _, .d _]⟩), (16384, ⟨1, 0, .box [.d _, .d _, .d _, .d _, .d _, .d _, .d _]⟩)] [(7, .c (.d _)), (9, .c (.un)), (10, .c (.un)), (2, .c (.ptr 12288 1 0)), (3, .c (.ptr 16384 1 0)), (12, .c (.un)), (13, .c (.un)), (14, .c (.un)), (11, .c (.un)), (15, .c (.un)), (16, .c (.un))] [] ⟨rfl, rfl, trivial⟩ ⟨rfl, rfl, rfl, rfl, rfl, rfl, rfl, rfl, rfl, rfl, rfl, trivial⟩ rfl (kPickF rfl (kMovC rfl (kMovC rfl (kGF rfl (kGF rfl (kGF rfl (kGF rfl (kPickF rfl (kMovC rfl (kMovC rfl (kDone (kRet (endRetA (ra := [.one (.d _)]) rfl ?_)))))))))))))))))))))))))))
  all_goals (refine congrArg (fun z : Bool => [RA.one (RV.d (DV.sc (Value.bool z)))]) ?_; rw [Bool.eq_iff_iff]; simp [sameR, *])

def c_laws_FnInsides : C := (.seq (.reg false (.op 0 [] (some 2) none false (.mov (.v (.bool false)))
  .done))
 (.seq (.reg false (.op 0 [] (some 9) none false (.mov (.t 0))
  (.op 1 [] (some 10) none false (.call 10 4 [(.t 9)])
  (.op 2 [] (some 8) none false (.mov (.t 10))
  (.op 3 [] (some 11) none false (.ext (.t 8) 0)
  (.op 4 [] (some 12) none false (.ext (.t 8) 1)
  (.op 5 [] (some 4) none false (.alloc 4 [(.n 1)])
  (.op 6 [] (some 3) none false (.mov (.t 11))
  (.op 7 [] none none false (.store (some 1) (.t 4) (.t 12))
  .done)))))))))
 (.seq (.reg false (.op 0 [] (some 13) none false (.mov (.t 3))
  (.op 1 [] (some 14) none false (.load (some 1) (.t 4))
  (.op 2 [] (some 15) none false (.call 15 5 [(.t 13), (.t 14)])
  (.op 3 [] (some 5) none false (.mov (.t 15))
  .done)))))
 (.seq (.seq (.reg false (.op 0 [] (some 16) none false (.mov (.t 5))
  (.op 1 [] (some 17) none false (.len (.t 16))
  (.op 2 [] (some 18) none false (.bin .eql (.t 17) (.v (.int .i64 0)))
  .done))))
 (.cond (.t 18)
 (.seq (.reg false (.op 0 [] (some 19) none false (.call 19 6 [])
  (.op 1 [] (some 2) none false (.mov (.t 19))
  .done)))
 .ret)
 .skip))
 (.seq (.reg false (.op 0 [] (some 6) none false (.mov (.v (.int .i64 0)))
  .done))
 (.seq (.seq (.reg false (.op 0 [] (some 7) none false (.mov (.v (.int .i64 0)))
  .done))
 (.block 0 (.loop (.seq (.seq (.reg false (.op 0 [] (some 20) none false (.mov (.t 7))
  (.op 1 [] (some 21) none false (.mov (.t 3))
  (.op 2 [] (some 22) none false (.len (.t 21))
  (.op 3 [] (some 23) none false (.bin .lss (.t 20) (.t 22))
  .done)))))
 (.cond (.t 23)
 .skip
 (.exit 0)))
 (.seq (.block 1 (.seq (.reg true (.op 0 [] (some 26) none true (.mov (.t 3))
  (.op 1 [] (some 27) none true (.mov (.t 7))
  (.op 2 [] (some 28) none true (.iad 7 (.t 26) (.t 27))
  (.op 3 [] (some 29) none true (.fad (.t 28) 0)
  (.op 4 [] (some 30) none true (.load (some 1) (.t 29))
  (.op 5 [] (some 31) none true (.load (some 1) (.t 4))
  (.op 6 [4, 5] (some 32) none false (.call 32 7 [(.t 30), (.t 31)])
  .done))))))))
 (.cond (.t 32)
 (.seq (.seq (.reg true (.op 0 [] (some 33) none true (.mov (.t 6))
  (.op 1 [] (some 34) none true (.mov (.t 5))
  (.op 2 [] (some 35) none true (.len (.t 34))
  (.op 3 [] (some 36) none true (.bin .geq (.t 33) (.t 35))
  (.op 4 [] (some 37) none true (.mov (.t 36))
  (.op 5 [] (some 38) (some (37, false)) true (.mov (.t 5))
  (.op 6 [] (some 39) (some (37, false)) true (.mov (.t 6))
  (.op 7 [] (some 40) (some (37, false)) true (.iad 7 (.t 38) (.t 39))
  (.op 8 [] (some 41) (some (37, false)) true (.load (some 7) (.t 40))
  (.op 9 [] (some 42) (some (37, false)) true (.mov (.t 3))
  (.op 10 [] (some 43) (some (37, false)) true (.mov (.t 7))
  (.op 11 [] (some 44) (some (37, false)) true (.iad 7 (.t 42) (.t 43))
  (.op 12 [] (some 45) (some (37, false)) true (.load (some 7) (.t 44))
  (.op 13 [8, 12] (some 46) (some (37, false)) false (.call 46 8 [(.t 41), (.t 45)])
  (.op 14 [] (some 47) (some (37, false)) true (.un .not (.t 46))
  (.op 15 [] (some 48) none true (.pick (.t 37) (.v (.bool true)) (.t 47))
  .done)))))))))))))))))
 (.cond (.t 48)
 (.seq (.reg false (.op 0 [] (some 2) none false (.mov (.v (.bool false)))
  .done))
 .ret)
 .skip))
 (.reg false (.op 0 [] (some 49) none false (.mov (.t 6))
  (.op 1 [] (some 50) none false (.bin .add (.t 49) (.v (.int .i64 1)))
  (.op 2 [] (some 6) none false (.mov (.t 50))
  .done)))))
 .skip)))
 (.reg false (.op 0 [] (some 24) none false (.mov (.t 7))
  (.op 1 [] (some 25) none false (.bin .add (.t 24) (.v (.int .i64 1)))
  (.op 2 [] (some 7) none false (.mov (.t 25))
  .done)))))))))
 (.seq (.reg false (.op 0 [] (some 51) none false (.mov (.t 6))
  (.op 1 [] (some 52) none false (.mov (.t 5))
  (.op 2 [] (some 53) none false (.len (.t 52))
  (.op 3 [] (some 54) none false (.bin .eql (.t 51) (.t 53))
  (.op 4 [] (some 55) none false (.mov (.t 54))
  (.op 5 [] (some 56) (some (55, true)) false (.call 56 6 [])
  (.op 6 [] (some 57) none false (.pick (.t 55) (.t 56) (.v (.bool false)))
  (.op 7 [] (some 2) none false (.mov (.t 57))
  .done)))))))))
 .ret)))))))
theorem dg_laws_FnInsides : Try.f3.body.bind (digC Try.prog Try.f3.ntmps []) = some c_laws_FnInsides := by kernel_rfl
theorem rs_laws_FnInsides : resSlots Try.prog Try.f3 = some [.s 2] := by kernel_rfl
theorem ok_laws_FnInsides (code : List UInt8) (hb : (code.length : Int) ≤ 9223372036854775807) :
    FnOK Try.prog 3 [.one (.d (encB code))] (fun ra _ => ra = [.one (.d (.sc (.bool true)))]) := by
  refine FnOK.ofK Try.func3 (by kernel_rfl) dg_laws_FnInsides rs_laws_FnInsides rfl rfl ?_
  unfold c_laws_FnInsides
  refine kSeq (kReg (kMovC rfl (kDone (kSeq (kReg (kMovC rfl (kCallX false (ok_spec_DrawInside _ (by first | assumption | omega | solve_by_elim [List.getElem_mem] | (simp only [szOut] at *; omega) | exact rfl | exact Nat.le_of_ble_eq_true rfl)) ⟨rfl, trivial⟩ rfl (fun _ => rfl) (fun _ => rfl) (fun x0 _ hx0 => (kMovT rfl (kExtC rfl rfl (kExtC rfl rfl (kAlloc rfl rfl (kMovC rfl (kStoreP rfl rfl rfl rfl (kDone (kSeq (kReg (kMem [(20480, ⟨1, 0, .box [.d _]⟩)] [(3, .c (.d _)), (4, .c (.ptr 20480 1 0)), (13, .c (.un)), (14, .c (.un)), (15, .c (.un))] [] ⟨rfl, trivial⟩ ⟨rfl, rfl, rfl, rfl, rfl, trivial⟩ rfl (kMovC rfl (kLoadP rfl rfl rfl ?_))))))))))))))))))))
  obtain ⟨h1, h2⟩ := hx0
  have z1 := h2.len
  have z2 := h2.mem
  obtain ⟨l, z⟩ := x0
  simp only at h1 h2 z1 z2
  refine kCall1 true (ok_impl_Inside _ _ (by first | assumption | omega | solve_by_elim [List.getElem_mem] | (simp only [szOut] at *; omega) | exact rfl | exact Nat.le_of_ble_eq_true rfl) (by first | assumption | omega | solve_by_elim [List.getElem_mem] | (simp only [szOut] at *; omega) | exact rfl | exact Nat.le_of_ble_eq_true rfl) (by first | assumption | omega | solve_by_elim [List.getElem_mem] | (simp only [szOut] at *; omega) | exact rfl | exact Nat.le_of_ble_eq_true rfl)) ⟨rfl, ⟨⟨rfl, trivial⟩, Nat.le_of_ble_eq_true rfl⟩, trivial⟩ rfl rfl rfl (fun _ => (kMovC rfl (kDone (kSeq (kSeq (kReg (kMovC rfl (kLenR rfl rfl (kBin rfl rfl rfl (kDone (kCondP rfl (fun g0 => kSeq (kReg (kCallD (ok_laws_tasks) trivial rfl rfl rfl rfl rfl (kMovC rfl (kDone (kRet (endRetA (ra := [.one (.d _)]) rfl rfl))))))) (fun g0 => kSkip (kSeq (kReg (kMovC rfl (kDone (kSeq (kSeq (kReg (kMovC rfl (kDone (kBlock ?_))))))))))))))))))))))
  have hne : insideN l z ≠ [] := fun h => g0 (by simp only [h]; rfl)
  obtain ⟨hI, hro, hzo⟩ := inside_ok hne
  have hmem := rrsOk_mem hro
  have hrs := h1.mem
  have hIl : (insideN l z).length ≤ l.length := by rw [hI]; exact List.length_filter_le _ _
  have hIm : ∀ r ∈ insideN l z, SmallR r := fun r hr => by rw [hI] at hr; exact hrs r (List.mem_filter.1 hr).1
  have hl := h1.len
  refine kSub (Sub.frz (j := 5) rfl rfl (Nat.zero_lt_succ _)) ?_
  refine kLoop (α := { i : Nat // i ≤ l.length }) (fun y => ⟨tabSl [(3, .dv (encR l)), (4, .c (.ptr (rid 4 0) 1 0)), (5, .dv (encR (insideN l z))), (6, .i (insideR (l.take y.1) z).length), (7, .i y.1)], obTab 1 [(rid 4 0, ⟨1, 0, .box [.d (encBB z)]⟩)], []⟩) (fun y => l.length - y.1) ⟨0, by simp⟩ .normA ?_
  rintro ⟨i, hi⟩
  simp only
  have hle : (insideR (l.take i) z).length ≤ l.length := filter_len (fun r : Rr => underN r.name z) l i
  rcases Nat.lt_or_ge i l.length with hlt | hge
  · have hbi := hrs _ (List.getElem_mem hlt)
    have hrk := hmem _ (List.getElem_mem hlt)
    have hnk := rrOk_name hrk
    have n1 := hbi.n.len
    have n2 := hbi.n.mem
    by_cases hu : underN l[i].name z = true
    · have hc : (nameOk l[i].name && nameOk z && underN l[i].name z) = true := by simp [hnk, hzo, hu]
      obtain ⟨f1, f2⟩ := filter_at (f := fun r : Rr => underN r.name z) hlt hu
      have f1' : (insideR (l.take i) z).length < (insideN l z).length := by rw [hI]; exact f1
      have f2' : (insideN l z)[(insideR (l.take i) z).length] = l[i] := by
        have : (insideN l z)[(insideR (l.take i) z).length]? = some l[i] := by rw [hI]; exact f2
        rw [List.getElem?_eq_getElem f1'] at this
        simpa using this
      have hs1 : SmallR (insideN l z)[(insideR (l.take i) z).length] := hIm _ (List.getElem_mem f1')
      have hsame : sameR (insideN l z)[(insideR (l.take i) z).length] l[i] = true := by rw [f2']; exact sameR_refl hrk
      have hst : (insideR (l.take (i + 1)) z).length = (insideR (l.take i) z).length + 1 := by
        unfold insideR
        rw [filter_yes hlt hu]; simp
      refine kSeq (kSeq (kReg (kMovC rfl (kMovC rfl (kLenR rfl rfl (kBin rfl rfl rfl (kDone (kCondP rfl (fun g0 => kSkip (kSeq (kBlock (kSeq (kRegD (kMovC rfl (kMovC rfl (kIadR rfl rfl rfl (by first | omega | (simp only [List.length_append, List.length_cons, List.length_nil]; omega)) (kFadD rfl (kLoadD rfl rfl (kLoadP rfl rfl rfl (kRelF rfl rfl (kCallD (ok_impl_Under _ _ (by first | assumption | omega | solve_by_elim [List.getElem_mem] | (simp only [szOut] at *; omega) | exact rfl | exact Nat.le_of_ble_eq_true rfl) (by first | assumption | omega | solve_by_elim [List.getElem_mem] | (simp only [szOut] at *; omega) | exact rfl | exact Nat.le_of_ble_eq_true rfl) (by first | assumption | omega | solve_by_elim [List.getElem_mem] | (simp only [szOut] at *; omega) | exact rfl | exact Nat.le_of_ble_eq_true rfl) (by first | assumption | omega | solve_by_elim [List.getElem_mem] | (simp only [szOut] at *; omega) | exact rfl | exact Nat.le_of_ble_eq_true rfl)) ⟨⟨⟨rfl, trivial⟩, Nat.le_of_ble_eq_true rfl⟩, ⟨⟨rfl, trivial⟩, Nat.le_of_ble_eq_true rfl⟩, trivial⟩ rfl rfl rfl rfl rfl (kDone (kH (kCond rfl (fun g1 => kSeq (kSeq (kRegD (kMovC rfl (kMovC rfl (kLenR rfl rfl (kBin rfl rfl rfl (kMovC rfl (kGP rfl (fun g2 => (by omega)) (fun g2 => kGT rfl (kMovC rfl (kGT rfl (kMovC rfl (kGT rfl (kIadR rfl rfl rfl (by first | omega | (simp only [List.length_append, List.length_cons, List.length_nil]; omega)) (kGT rfl (kLoadD rfl rfl (kGT rfl (kMovC rfl (kGT rfl (kMovC rfl (kGT rfl (kIadR rfl rfl rfl (by first | omega | (simp only [List.length_append, List.length_cons, List.length_nil]; omega)) (kGT rfl (kLoadD rfl rfl (kRelF rfl rfl (kGT rfl (kCallD (ok_spec_RrSame _ _ (by first | assumption | omega | solve_by_elim [List.getElem_mem] | (simp only [szOut] at *; omega) | exact rfl | exact Nat.le_of_ble_eq_true rfl) (by first | assumption | omega | solve_by_elim [List.getElem_mem] | (simp only [szOut] at *; omega) | exact rfl | exact Nat.le_of_ble_eq_true rfl)) ⟨⟨⟨rfl, rfl, rfl, rfl, rfl, rfl, rfl, trivial⟩, Nat.le_of_ble_eq_true rfl⟩, ⟨⟨rfl, rfl, rfl, rfl, rfl, rfl, rfl, trivial⟩, Nat.le_of_ble_eq_true rfl⟩, trivial⟩ rfl rfl rfl rfl rfl (kGT rfl (kUn rfl rfl (kPickF rfl (kMovC rfl (kDone (kH (kCondN rfl (fun g3 => kSeq (kReg (kMovC rfl (kDone (kRet (endRetA (ra := [.one (.d _)]) rfl ?_)))))) (fun g3 => kSkip (kReg (kMovC rfl (kAdd rfl rfl (by omega) (kMovC rfl (kDone (kBk (kReg (kMovC rfl (kAdd rfl rfl (by omega) (kMovC rfl (kDone ?_))))))))))))))))))))))))))))))))))))))))))))))) (fun g1 => (by (simp [*] at g1))))))))))))))))))) (fun g0 => (by omega))))))))))
      · rw [hsame] at g3; cases g3
      · refine kInv ⟨⟨i + 1, by omega⟩, by simp only; omega, ?_⟩
        simp only [hst]
        exact .normA
    · have hu' : underN l[i].name z = false := by simpa using hu
      have hc : (nameOk l[i].name && nameOk z && underN l[i].name z) = false := by simp [hu']
      have hst : (insideR (l.take (i + 1)) z) = (insideR (l.take i) z) := by
        unfold insideR
        rw [filter_no hlt hu']
      refine kSeq (kSeq (kReg (kMovC rfl (kMovC rfl (kLenR rfl rfl (kBin rfl rfl rfl (kDone (kCondP rfl (fun g0 => kSkip (kSeq (kBlock (kSeq (kRegD (kMovC rfl (kMovC rfl (kIadR rfl rfl rfl (by first | omega | (simp only [List.length_append, List.length_cons, List.length_nil]; omega)) (kFadD rfl (kLoadD rfl rfl (kLoadP rfl rfl rfl (kRelF rfl rfl (kCallD (ok_impl_Under _ _ (by first | assumption | omega | solve_by_elim [List.getElem_mem] | (simp only [szOut] at *; omega) | exact rfl | exact Nat.le_of_ble_eq_true rfl) (by first | assumption | omega | solve_by_elim [List.getElem_mem] | (simp only [szOut] at *; omega) | exact rfl | exact Nat.le_of_ble_eq_true rfl) (by first | assumption | omega | solve_by_elim [List.getElem_mem] | (simp only [szOut] at *; omega) | exact rfl | exact Nat.le_of_ble_eq_true rfl) (by first | assumption | omega | solve_by_elim [List.getElem_mem] | (simp only [szOut] at *; omega) | exact rfl | exact Nat.le_of_ble_eq_true rfl)) ⟨⟨⟨rfl, trivial⟩, Nat.le_of_ble_eq_true rfl⟩, ⟨⟨rfl, trivial⟩, Nat.le_of_ble_eq_true rfl⟩, trivial⟩ rfl rfl rfl rfl rfl (kDone (kH (kCond rfl (fun g1 => (by (simp [*] at g1))) (fun g1 => kSkip (kBk (kReg (kMovC rfl (kAdd rfl rfl (by omega) (kMovC rfl (kDone ?_))))))))))))))))))))))) (fun g0 => (by omega))))))))))
      refine kInv ⟨⟨i + 1, by omega⟩, by simp only; omega, ?_⟩
      simp only [hst]
      exact .normA
  · have hend : insideR (l.take i) z = insideN l z := by rw [hI, show i = l.length by omega, List.take_length]
    rw [hend]
    refine kSeq (kSeq (kReg (kMovC rfl (kMovC rfl (kLenR rfl rfl (kBin rfl rfl rfl (kDone (kCondP rfl (fun g0 => (by omega)) (fun g0 => kExit (kExC (kExI (kExB (kSeq (kReg (kMovC rfl (kMovC rfl (kLenR rfl rfl (kBin rfl rfl rfl (kMovC rfl (kGP rfl (fun g1 => kGT rfl (kCallD (ok_laws_tasks) trivial rfl rfl rfl rfl rfl (kPickT rfl (kMovC rfl (kMovC rfl (kDone (kRet (endRetA (ra := [.one (.d _)]) rfl rfl)))))))) (fun g1 => (by omega))))))))))))))))))))))

end Go.Proofs.Ytbmagbgdpmgbmaa.FnInsidesFn
