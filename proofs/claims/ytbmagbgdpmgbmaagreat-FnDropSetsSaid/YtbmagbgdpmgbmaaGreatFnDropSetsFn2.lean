/- What the functions that FnDropSets reaches compute, one contract each; each with the bounds that it states. -/
import Derived.Test.YtbmagbgdpmgbmaaGreatFnDropSetsFn1
import Derived.Test.YtbmagbgdpmgbmaaGreatProg
import Derived.KernelRfl
set_option maxRecDepth 100000
set_option maxHeartbeats 8000000
set_option linter.unusedVariables false
set_option linter.unusedSimpArgs false
namespace Go.Proofs.YtbmagbgdpmgbmaaGreat.FnDropSetsFn
open Go Hearth Go.Proofs

def c_spec_l2draw : C := (.seq (.reg false (.op 0 [] (some 2) none false (.alloc 2 [(.n 1)])
  .done))
 (.seq (.reg false (.op 0 [] (some 3) none false (.lit 3 1 [(.v (.string ⟨#[]⟩))] 12 [(0, 1, (.v (.string ⟨#[46]⟩))), (1, 1, (.v (.string ⟨#[104, 111, 109, 101, 46]⟩))), (2, 1, (.v (.string ⟨#[112, 99, 46, 104, 111, 109, 101, 46]⟩))), (3, 1, (.v (.string ⟨#[116, 118, 46, 104, 111, 109, 101, 46]⟩))), (4, 1, (.v (.string ⟨#[97, 46, 112, 99, 46, 104, 111, 109, 101, 46]⟩))), (5, 1, (.v (.string ⟨#[99, 111, 109, 46]⟩))), (6, 1, (.v (.string ⟨#[120, 46, 99, 111, 109, 46]⟩))), (7, 1, (.v (.string ⟨#[119, 119, 119, 46, 120, 46, 99, 111, 109, 46]⟩))), (8, 1, (.v (.string ⟨#[110, 115, 46, 99, 111, 109, 46]⟩))), (9, 1, (.v (.string ⟨#[51, 46, 48, 46, 48, 46, 49, 48, 46, 105, 110, 45, 97, 100, 100, 114, 46, 97, 114, 112, 97, 46]⟩))), (10, 1, (.v (.string ⟨#[115, 117, 98, 46, 104, 111, 109, 101, 46]⟩))), (11, 1, (.v (.string ⟨#[121, 46, 115, 117, 98, 46, 104, 111, 109, 101, 46]⟩)))])
  (.op 1 [] (some 4) none false (.mov (.t 0))
  (.op 2 [] (some 5) none false (.call 5 205 [(.t 4), (.v (.int .i64 12))])
  (.op 3 [] (some 6) none false (.iad 1 (.t 3) (.t 5))
  (.op 4 [] (some 7) none false (.load none (.t 6))
  (.op 5 [] (some 8) none false (.call 8 207 [(.t 7)])
  (.op 6 [] none none false (.store (some 1) (.t 2) (.t 8))
  .done))))))))
 .ret))
theorem dg_spec_l2draw : Tryz.f251.body.bind (digC Tryz.prog Tryz.f251.ntmps []) = some c_spec_l2draw := by kernel_rfl
theorem rs_spec_l2draw : resSlots Tryz.prog Tryz.f251 = some [.m 2 (some 1)] := by kernel_rfl
theorem ok_spec_l2draw (c : Cu) :
    FnOK Tryz.prog 251 [.one (.box c.cells)] (fun ra os => ∃ x : List (List UInt8) × Cu, (nameOk x.1 = true) ∧ ra = [.agg [.own true (encBB x.1)]] ∧ os.b 0 = x.2.cells) := by
  refine FnOK.ofK Tryz.func251 (by kernel_rfl) dg_spec_l2draw rs_spec_l2draw rfl rfl ?_
  unfold c_spec_l2draw
  refine kSeq (kReg (kAlloc rfl rfl (kDone (kSeq (kReg (kLitG rfl rfl rfl rfl (kMovC rfl (kCallE (ok_spec_l1Below _ _) ⟨⟨rfl, _, rfl, rfl⟩, rfl, trivial⟩ rfl rfl rfl (fun _ => rfl) (fun x0 hx0 => (kIadStr rfl rfl rfl rfl (by simp only [List.length_cons, List.length_nil]; omega) (kLoadStr rfl rfl rfl (by simp only [List.length_cons, List.length_nil]; omega) rfl (fun b1 hb1 => (kCall1 true (ok_spec_l2of _ (by first | assumption | omega | solve_by_elim [List.getElem_mem] | (simp only [szOut] at *; omega) | exact rfl | exact Nat.le_of_ble_eq_true rfl)) ⟨rfl, trivial⟩ rfl rfl rfl (fun _ => (kMem [(12288, ⟨1, 0, .box [.nil 1]⟩), (36864, ⟨1, 0, .arr true _⟩)] [(2, .c (.ptr 12288 1 0)), (8, .g [.arr 36864 1])] [] ⟨rfl, rfl, trivial⟩ ⟨rfl, rfl, trivial⟩ rfl (kStoreP rfl rfl rfl rfl (kDone (kMem [(12288, ⟨1, 0, .box [.arr 36864 1]⟩), (36864, ⟨1, 0, .arr true _⟩)] [(2, .c (.ptr 12288 1 0))] [] ⟨rfl, rfl, trivial⟩ ⟨rfl, trivial⟩ rfl (kRet (endRetA (ra := [.agg [(.own true _)]]) rfl ?_))))))))))))))))))))
  exact ⟨(readN b1.toList, x0.2), readN_ok _, rfl, rfl⟩

def c_spec_l1some : C := (.seq (.reg false (.op 0 [] (some 4) none false (.mov (.n 1))
  .done))
 (.seq (.reg false (.op 0 [] (some 5) none false (.mov (.n 1))
  .done))
 (.seq (.reg false (.op 0 [] (some 8) none false (.mov (.t 0))
  (.op 1 [] (some 9) none false (.mov (.t 1))
  (.op 2 [] (some 10) none false (.call 10 205 [(.t 8), (.t 9)])
  (.op 3 [] (some 6) none false (.mov (.t 10))
  .done)))))
 (.seq (.seq (.reg false (.op 0 [] (some 7) none false (.mov (.v (.int .i64 0)))
  .done))
 (.block 0 (.loop (.seq (.seq (.reg false (.op 0 [] (some 11) none false (.mov (.t 7))
  (.op 1 [] (some 12) none false (.mov (.t 6))
  (.op 2 [] (some 13) none false (.bin .lss (.t 11) (.t 12))
  .done))))
 (.cond (.t 13)
 .skip
 (.exit 0)))
 (.seq (.block 1 (.reg false (.op 0 [] (some 16) none false (.mov (.t 5))
  (.op 1 [] (some 17) none false (.mov (.t 0))
  (.op 2 [] (some 18) none false (.call 18 268 [(.t 17)])
  (.op 3 [] (some 19) none false (.conv .u8 (.t 18))
  (.op 4 [] (some 20) none false (.lit 20 1 [(.v (.int .u8 0))] 1 [(0, 1, (.t 19))])
  (.op 5 [] (some 21) none false (.app 21 1 1 (.t 16) (.t 20))
  (.op 6 [] (some 5) none false (.mov (.t 21))
  .done)))))))))
 (.reg false (.op 0 [] (some 14) none false (.mov (.t 7))
  (.op 1 [] (some 15) none false (.bin .add (.t 14) (.v (.int .i64 1)))
  (.op 2 [] (some 7) none false (.mov (.t 15))
  .done)))))))))
 (.seq (.reg false (.op 0 [] (some 22) none false (.mov (.t 5))
  (.op 1 [] (some 4) none false (.mov (.t 22))
  .done)))
 .ret)))))
theorem dg_spec_l1some : Tryz.f293.body.bind (digC Tryz.prog Tryz.f293.ntmps []) = some c_spec_l1some := by kernel_rfl
theorem rs_spec_l1some : resSlots Tryz.prog Tryz.f293 = some [.s 4] := by kernel_rfl
theorem ok_spec_l1some (c : Cu) (n : Int) (hn : n ≤ 4194304) :
    FnOK Tryz.prog 293 [.one (.box c.cells), .one (.d (.sc (.int .i64 n)))] (fun ra os => ∃ x : List UInt8 × Cu, ((x.1.length : Int) < n ∨ x.1 = []) ∧ ra = [.one (.own true (encB x.1))] ∧ os.b 0 = x.2.cells) := by
  refine FnOK.ofK Tryz.func293 (by kernel_rfl) dg_spec_l1some rs_spec_l1some rfl rfl ?_
  unfold c_spec_l1some
  refine kSeq (kReg (kMovC rfl (kDone (kSeq (kReg (kMovC rfl (kDone (kSeq (kReg (kMovC rfl (kMovC rfl (kCallE (ok_spec_l1Below _ _) ⟨⟨rfl, _, rfl, rfl⟩, rfl, trivial⟩ rfl rfl rfl (fun _ => rfl) (fun x0 hx0 => (kMovC rfl (kDone (kSeq (kSeq (kReg (kMovC rfl (kDone (kBlock ?_)))))))))))))))))))))
  refine kSub (Sub.nilArr (j := 5) (id := rid 5000 0) (sz := 1) rfl (by decide)) ?_
  refine kLoop (α := { l : List UInt8 // (l.length : Int) ≤ x0.1 } × Cu) (fun y => ⟨tabSl [(0, .c (.ptr 0 0 0)), (5, .c (.arr (rid 5000 0) 1)), (6, .i x0.1), (7, .i y.1.1.length)], obTab 1 [(0, ⟨0, 0, .box (y.2.cells.map .d)⟩), (rid 5000 0, ⟨1, 0, .arr true (encB y.1.1)⟩)], []⟩) (fun y => x0.1.toNat - y.1.1.length) (⟨[], by simp; omega⟩, x0.2) .normA ?_
  rintro ⟨⟨l, hl⟩, c'⟩
  simp only
  rcases Int.lt_or_le (l.length : Int) x0.1 with hlt | hge
  · refine kSeq (kSeq (kReg (kMovC rfl (kMovC rfl (kBin rfl rfl rfl (kDone (kCondP rfl (fun g0 => kSkip (kSeq (kBlock (kReg (kMovC rfl (kMovC rfl (kCallE (ok_spec_l1Byte _) ⟨⟨rfl, _, rfl, rfl⟩, trivial⟩ rfl rfl rfl (fun _ => rfl) (fun x1 hx1 => (kConvU8 rfl (kLit rfl rfl rfl rfl (kAppR1 rfl rfl rfl rfl rfl rfl rfl rfl (by omega) (kMem [(20484096, ⟨2, 0, .arr true _⟩)] [(21, .c (.arr 20484096 2))] [] ⟨rfl, trivial⟩ ⟨rfl, trivial⟩ rfl (kMovC rfl (kDone (kBk (kReg (kMovC rfl (kAdd rfl rfl (by omega) (kMovC rfl (kDone ?_)))))))))))))))))))) (fun g0 => (by omega)))))))))
    refine kInv ⟨(⟨l ++ [u8 x1.1], by simp; omega⟩, x1.2), by simp; omega, .norm ?_ ?_⟩
    · refine ⟨⟨_, rfl, rfl, rfl, rfl⟩, ⟨_, rfl, rfl, rfl, rfl⟩, ⟨_, rfl, .inl rfl⟩, ⟨_, rfl, .inl ?_⟩, trivial⟩
      simp
    · repeat' first | exact trivial | exact rfl | exact .inl rfl | refine ⟨_, rfl, ?_⟩ | refine ⟨?_, ?_⟩ | fail
  · refine kSeq (kSeq (kReg (kMovC rfl (kMovC rfl (kBin rfl rfl rfl (kDone (kCondP rfl (fun g0 => (by omega)) (fun g0 => kExit (kExC (kExI (kExB (kSeq (kReg (kMovC rfl (kMovC rfl (kDone (kMem [(20484096, ⟨1, 0, .arr true _⟩)] [(4, .c (.arr 20484096 1))] [] ⟨rfl, trivial⟩ ⟨rfl, trivial⟩ rfl (kRet (endRetA (ra := [.one (.own true _)]) rfl ?_)))))))))))))))))))
    exact ⟨(l, c'), by rcases hx0.2 with h | h; exact .inl (by simp only; omega); exact .inr (show l = [] from List.eq_nil_of_length_eq_zero (by omega)), rfl, rfl⟩

def c_spec_l3draw : C := (.seq (.reg false (.op 0 [] (some 2) none false (.alloc 2 [(.n 1), (.v (.int .i64 0)), (.v (.int .i64 0)), (.v (.int .i64 0)), (.n 1), (.n 1), (.n 1)])
  .done))
 (.seq (.reg false (.op 0 [] (some 4) none false (.mov (.t 0))
  (.op 1 [] (some 5) none false (.call 5 251 [(.t 4)])
  (.op 2 [] (some 6) none false (.mov (.t 0))
  (.op 3 [] (some 7) none false (.lit 7 1 [(.v (.int .i64 0))] 8 [(0, 1, (.v (.int .i64 1))), (1, 1, (.v (.int .i64 1))), (2, 1, (.v (.int .i64 2))), (3, 1, (.v (.int .i64 5))), (4, 1, (.v (.int .i64 6))), (5, 1, (.v (.int .i64 12))), (6, 1, (.v (.int .i64 16))), (7, 1, (.v (.int .i64 49)))])
  (.op 4 [] (some 8) none false (.call 8 252 [(.t 6), (.t 7)])
  (.op 5 [] (some 9) none false (.mov (.t 0))
  (.op 6 [] (some 10) none false (.lit 10 1 [(.v (.int .i64 0))] 5 [(0, 1, (.v (.int .i64 0))), (1, 1, (.v (.int .i64 5))), (2, 1, (.v (.int .i64 60))), (3, 1, (.v (.int .i64 300))), (4, 1, (.v (.int .i64 100000)))])
  (.op 7 [] (some 11) none false (.call 11 252 [(.t 9), (.t 10)])
  (.op 8 [] (some 12) none false (.build [(.n 1), (.v (.int .i64 0)), (.v (.int .i64 0)), (.v (.int .i64 0)), (.n 1), (.n 1), (.n 1)] [(0, 1, (.t 5)), (1, 1, (.t 8)), (2, 1, (.t 11))])
  (.op 9 [] (some 3) none false (.alloc 3 [(.n 1), (.v (.int .i64 0)), (.v (.int .i64 0)), (.v (.int .i64 0)), (.n 1), (.n 1), (.n 1)])
  (.op 10 [] none none false (.store (some 7) (.t 3) (.t 12))
  .done))))))))))))
 (.seq (.block 0 (.seq (.reg false (.op 0 [] (some 17) none false (.fad (.t 3) 1)
  (.op 1 [] (some 18) none false (.load none (.t 17))
  (.op 2 [] (some 19) none false (.bin .eql (.t 18) (.v (.int .i64 1)))
  (.op 3 [] (some 16) none false (.mov (.t 19))
  .done)))))
 (.cond (.t 16)
 (.reg false (.op 0 [] (some 20) none false (.mov (.t 0))
  (.op 1 [] (some 21) none false (.lit 21 1 [(.v (.int .i64 0))] 4 [(0, 1, (.v (.int .i64 1))), (1, 1, (.v (.int .i64 167772163))), (2, 1, (.v (.int .i64 167772164))), (3, 1, (.v (.int .i64 4294967295)))])
  (.op 2 [] (some 22) none false (.call 22 252 [(.t 20), (.t 21)])
  (.op 3 [] (some 23) none false (.fad (.t 3) 3)
  (.op 4 [] none none false (.store none (.t 23) (.t 22))
  .done))))))
 (.seq (.reg false (.op 0 [] (some 25) none false (.fad (.t 3) 1)
  (.op 1 [] (some 26) none false (.load none (.t 25))
  (.op 2 [] (some 27) none false (.call 27 257 [(.t 26)])
  (.op 3 [] (some 24) none false (.mov (.t 27))
  .done)))))
 (.cond (.t 24)
 (.seq (.reg false (.op 0 [] (some 28) none false (.mov (.t 0))
  (.op 1 [] (some 29) none false (.call 29 251 [(.t 28)])
  (.op 2 [] (some 30) none false (.fad (.t 3) 4)
  (.op 3 [] none none false (.store (some 1) (.t 30) (.t 29))
  .done)))))
 (.seq (.reg false (.op 0 [] (some 31) none false (.fad (.t 3) 1)
  (.op 1 [] (some 32) none false (.load none (.t 31))
  (.op 2 [] (some 33) none false (.bin .eql (.t 32) (.v (.int .i64 6)))
  .done))))
 (.cond (.t 33)
 (.reg false (.op 0 [] (some 34) none false (.mov (.t 0))
  (.op 1 [] (some 35) none false (.call 35 205 [(.t 34), (.v (.int .i64 9))])
  (.op 2 [] (some 36) none false (.mov (.t 0))
  (.op 3 [] (some 37) none false (.lit 37 1 [(.v (.int .i64 0))] 3 [(0, 1, (.v (.int .i64 0))), (1, 1, (.v (.int .i64 30))), (2, 1, (.v (.int .i64 100000)))])
  (.op 4 [] (some 38) none false (.call 38 252 [(.t 36), (.t 37)])
  (.op 5 [] (some 39) none false (.lit 39 1 [(.v (.int .i64 0))] 2 [(0, 1, (.t 35)), (1, 1, (.t 38))])
  (.op 6 [] (some 40) none false (.fad (.t 3) 6)
  (.op 7 [] none none false (.store none (.t 40) (.t 39))
  .done)))))))))
 .skip)))
 (.reg false (.op 0 [] (some 13) none false (.mov (.t 0))
  (.op 1 [] (some 14) none false (.call 14 293 [(.t 13), (.v (.int .i64 5))])
  (.op 2 [] (some 15) none false (.fad (.t 3) 5)
  (.op 3 [] none none false (.store none (.t 15) (.t 14))
  .done))))))))))
 (.seq (.reg false (.op 0 [] (some 41) none false (.load (some 7) (.t 3))
  (.op 1 [] none none false (.store (some 7) (.t 2) (.t 41))
  .done)))
 .ret))))
theorem dg_spec_l3draw : Tryz.f269.body.bind (digC Tryz.prog Tryz.f269.ntmps []) = some c_spec_l3draw := by kernel_rfl
theorem rs_spec_l3draw : resSlots Tryz.prog Tryz.f269 = some [.m 2 (some 7)] := by kernel_rfl
theorem ok_spec_l3draw (c : Cu) :
    FnOK Tryz.prog 269 [.one (.box c.cells)] (fun ra os => ∃ x : Rr × Cu, (rrOk x.1 = true) ∧ ra = [.agg [.own true (encBB x.1.name), .d (.sc (.int .i64 x.1.ty)), .d (.sc (.int .i64 x.1.ttl)), .d (.sc (.int .i64 x.1.addr)), .own true (encBB x.1.to), .own true (encB x.1.text), .own true (encI x.1.nums)]] ∧ os.b 0 = x.2.cells) := by
  refine FnOK.ofK Tryz.func269 (by kernel_rfl) dg_spec_l3draw rs_spec_l3draw rfl rfl ?_
  unfold c_spec_l3draw
  refine kSeq (kReg (kAlloc rfl rfl (kDone (kSeq (kReg (kMovC rfl (kCallE (ok_spec_l2draw _) ⟨⟨rfl, _, rfl, rfl⟩, trivial⟩ rfl rfl rfl (fun _ => rfl) (fun x0 hx0 => (kMovC rfl (kLitD rfl rfl rfl rfl (kCallE (ok_spec_l1PickInt _ _ (by first | assumption | omega | solve_by_elim [List.getElem_mem] | (simp only [szOut] at *; omega) | exact rfl | exact Nat.le_of_ble_eq_true rfl) (by first | assumption | omega | solve_by_elim [List.getElem_mem] | (simp only [szOut] at *; omega) | exact rfl | exact Nat.le_of_ble_eq_true rfl) (by first | assumption | omega | solve_by_elim [List.getElem_mem] | (simp only [szOut] at *; omega) | exact rfl | exact Nat.le_of_ble_eq_true rfl)) ⟨⟨rfl, _, rfl, rfl⟩, rfl, trivial⟩ rfl rfl rfl (fun _ => rfl) (fun x1 hx1 => (kMovC rfl (kMem [(0, ⟨0, 2, .box [.d _, .d _, .d _]⟩), (24576, ⟨1, 0, .arr true _⟩)] [(9, .c (.ptr 0 0 0)), (10, .c (.un)), (5, .g [.arr 24576 1]), (8, .c (.d _)), (11, .c (.un)), (3, .c (.un)), (12, .c (.un))] [] ⟨rfl, rfl, trivial⟩ ⟨rfl, rfl, rfl, rfl, rfl, rfl, rfl, trivial⟩ rfl (kLitD rfl rfl rfl rfl (kCallE (ok_spec_l1PickInt _ _ (by first | assumption | omega | solve_by_elim [List.getElem_mem] | (simp only [szOut] at *; omega) | exact rfl | exact Nat.le_of_ble_eq_true rfl) (by first | assumption | omega | solve_by_elim [List.getElem_mem] | (simp only [szOut] at *; omega) | exact rfl | exact Nat.le_of_ble_eq_true rfl) (by first | assumption | omega | solve_by_elim [List.getElem_mem] | (simp only [szOut] at *; omega) | exact rfl | exact Nat.le_of_ble_eq_true rfl)) ⟨⟨rfl, _, rfl, rfl⟩, rfl, trivial⟩ rfl rfl rfl (fun _ => rfl) (fun x2 hx2 => (kMem [(24576, ⟨1, 0, .arr true _⟩)] [(5, .g [.arr 24576 1]), (8, .c (.d _)), (11, .c (.d _)), (3, .c (.un)), (12, .c (.un))] [] ⟨rfl, trivial⟩ ⟨rfl, rfl, rfl, rfl, rfl, trivial⟩ rfl (kBuildG rfl (kAlloc rfl rfl (kMem [(16384, ⟨1, 0, .box [.nil 1, .d _, .d _, .d _, .nil 1, .nil 1, .nil 1]⟩), (24576, ⟨1, 0, .arr true _⟩)] [(3, .c (.ptr 16384 1 0)), (12, .g [.arr 24576 1, .d _, .d _, .d _, .nil 1, .nil 1, .nil 1])] [] ⟨rfl, rfl, trivial⟩ ⟨rfl, rfl, trivial⟩ rfl (kStoreP rfl rfl rfl rfl (kDone (kSeq (kBlock (kSeq (kReg (kFadP rfl rfl (kLoadP rfl rfl rfl (kBin rfl rfl rfl (kMovC rfl (kDone (kCondP rfl (fun g3 => kReg (kMovC rfl (kLitD rfl rfl rfl rfl (kCallE (ok_spec_l1PickInt _ _ (by first | assumption | omega | solve_by_elim [List.getElem_mem] | (simp only [szOut] at *; omega) | exact rfl | exact Nat.le_of_ble_eq_true rfl) (by first | assumption | omega | solve_by_elim [List.getElem_mem] | (simp only [szOut] at *; omega) | exact rfl | exact Nat.le_of_ble_eq_true rfl) (by first | assumption | omega | solve_by_elim [List.getElem_mem] | (simp only [szOut] at *; omega) | exact rfl | exact Nat.le_of_ble_eq_true rfl)) ⟨⟨rfl, _, rfl, rfl⟩, rfl, trivial⟩ rfl rfl rfl (fun _ => rfl) (fun x4 hx4 => (kMem [(16384, ⟨1, 0, .box [.arr 24576 1, .d _, .d _, .d _, .nil 1, .nil 1, .nil 1]⟩), (24576, ⟨1, 0, .arr true _⟩)] [(3, .c (.ptr 16384 1 0)), (23, .c (.un)), (22, .c (.d _))] [] ⟨rfl, rfl, trivial⟩ ⟨rfl, rfl, rfl, trivial⟩ rfl (kFadP rfl rfl (kStoreP rfl rfl rfl rfl (kDone (kBk (kSeq (kReg (kLoadP rfl rfl rfl (kMem [(12288, ⟨1, 0, .box [.nil 1, .d _, .d _, .d _, .nil 1, .nil 1, .nil 1]⟩), (24576, ⟨1, 0, .arr true _⟩)] [(2, .c (.ptr 12288 1 0)), (41, .g [.arr 24576 1, .d _, .d _, .d _, .nil 1, .nil 1, .nil 1])] [] ⟨rfl, rfl, trivial⟩ ⟨rfl, rfl, trivial⟩ rfl (kStoreP rfl rfl rfl rfl (kDone (kMem [(12288, ⟨1, 0, .box [.arr 24576 1, .d _, .d _, .d _, .nil 1, .nil 1, .nil 1]⟩), (24576, ⟨1, 0, .arr true _⟩)] [(2, .c (.ptr 12288 1 0))] [] ⟨rfl, rfl, trivial⟩ ⟨rfl, trivial⟩ rfl (kRet (endRetA (ra := [.agg [(.own true _), (.d _), (.d _), (.d _), (.own true _), (.own true _), (.own true _)]]) rfl ?_))))))))))))))))))) (fun g3 => kSeq (kReg (kFadP rfl rfl (kLoadP rfl rfl rfl (kCallD (ok_spec_l3named _) ⟨rfl, trivial⟩ rfl rfl rfl rfl rfl (kMovC rfl (kDone (kCond rfl (fun g5 => kSeq (kReg (kMem [(0, ⟨0, 3, .box [.d _, .d _, .d _]⟩), (16384, ⟨1, 0, .box [.arr 24576 1, .d _, .d _, .d _, .nil 1, .nil 1, .nil 1]⟩), (24576, ⟨1, 0, .arr true _⟩)] [(0, .c (.ptr 0 0 0)), (28, .c (.un)), (3, .c (.ptr 16384 1 0)), (30, .c (.un)), (29, .c (.un))] [] ⟨rfl, rfl, rfl, trivial⟩ ⟨rfl, rfl, rfl, rfl, rfl, trivial⟩ rfl (kMovC rfl (kCallE (ok_spec_l2draw _) ⟨⟨rfl, _, rfl, rfl⟩, trivial⟩ rfl rfl rfl (fun _ => rfl) (fun x6 hx6 => (kFadP rfl rfl (kStoreP rfl rfl rfl rfl (kDone (kSeq (kReg (kFadP rfl rfl (kLoadP rfl rfl rfl (kBin rfl rfl rfl (kDone (kCondP rfl (fun g7 => kReg (kMovC rfl (kCallE (ok_spec_l1Below _ _) ⟨⟨rfl, _, rfl, rfl⟩, rfl, trivial⟩ rfl rfl rfl (fun _ => rfl) (fun x8 hx8 => (kMem [(0, ⟨0, 5, .box [.d _, .d _, .d _]⟩), (16384, ⟨1, 0, .box [.arr 24576 1, .d _, .d _, .d _, .arr 122880 1, .nil 1, .nil 1]⟩), (24576, ⟨1, 0, .arr true _⟩), (122880, ⟨1, 0, .arr true _⟩)] [(0, .c (.ptr 0 0 0)), (36, .c (.un)), (37, .c (.un)), (35, .c (.d _)), (38, .c (.un)), (3, .c (.ptr 16384 1 0)), (40, .c (.un)), (39, .c (.un))] [] ⟨rfl, rfl, rfl, rfl, trivial⟩ ⟨rfl, rfl, rfl, rfl, rfl, rfl, rfl, rfl, trivial⟩ rfl (kMovC rfl (kLitD rfl rfl rfl rfl (kCallE (ok_spec_l1PickInt _ _ (by first | assumption | omega | solve_by_elim [List.getElem_mem] | (simp only [szOut] at *; omega) | exact rfl | exact Nat.le_of_ble_eq_true rfl) (by first | assumption | omega | solve_by_elim [List.getElem_mem] | (simp only [szOut] at *; omega) | exact rfl | exact Nat.le_of_ble_eq_true rfl) (by first | assumption | omega | solve_by_elim [List.getElem_mem] | (simp only [szOut] at *; omega) | exact rfl | exact Nat.le_of_ble_eq_true rfl)) ⟨⟨rfl, _, rfl, rfl⟩, rfl, trivial⟩ rfl rfl rfl (fun _ => rfl) (fun x9 hx9 => (kLitG rfl rfl rfl rfl (kFadP rfl rfl (kStoreP rfl rfl rfl rfl (kDone (kBk (kSeq (kReg (kMem [(16384, ⟨1, 0, .box [.arr 24576 1, .d _, .d _, .d _, .arr 122880 1, .nil 1, .arr 163840 1]⟩), (12288, ⟨1, 0, .box [.nil 1, .d _, .d _, .d _, .nil 1, .nil 1, .nil 1]⟩), (24576, ⟨1, 0, .arr true _⟩), (122880, ⟨1, 0, .arr true _⟩), (163840, ⟨1, 0, .arr true _⟩)] [(3, .c (.ptr 16384 1 0)), (2, .c (.ptr 12288 1 0)), (41, .c (.un))] [] ⟨rfl, rfl, rfl, rfl, rfl, trivial⟩ ⟨rfl, rfl, rfl, trivial⟩ rfl (kLoadP rfl rfl rfl (kMem [(12288, ⟨1, 0, .box [.nil 1, .d _, .d _, .d _, .nil 1, .nil 1, .nil 1]⟩), (24576, ⟨1, 0, .arr true _⟩), (122880, ⟨1, 0, .arr true _⟩), (163840, ⟨1, 0, .arr true _⟩)] [(2, .c (.ptr 12288 1 0)), (41, .g [.arr 24576 1, .d _, .d _, .d _, .arr 122880 1, .nil 1, .arr 163840 1])] [] ⟨rfl, rfl, rfl, rfl, trivial⟩ ⟨rfl, rfl, trivial⟩ rfl (kStoreP rfl rfl rfl rfl (kDone (kMem [(12288, ⟨1, 0, .box [.arr 24576 1, .d _, .d _, .d _, .arr 122880 1, .nil 1, .arr 163840 1]⟩), (24576, ⟨1, 0, .arr true _⟩), (122880, ⟨1, 0, .arr true _⟩), (163840, ⟨1, 0, .arr true _⟩)] [(2, .c (.ptr 12288 1 0))] [] ⟨rfl, rfl, rfl, rfl, trivial⟩ ⟨rfl, trivial⟩ rfl (kRet (endRetA (ra := [.agg [(.own true _), (.d _), (.d _), (.d _), (.own true _), (.own true _), (.own true _)]]) rfl ?_)))))))))))))))))))))))) (fun g7 => kSkip (kBk (kSeq (kReg (kLoadP rfl rfl rfl (kMem [(12288, ⟨1, 0, .box [.nil 1, .d _, .d _, .d _, .nil 1, .nil 1, .nil 1]⟩), (24576, ⟨1, 0, .arr true _⟩), (122880, ⟨1, 0, .arr true _⟩)] [(2, .c (.ptr 12288 1 0)), (41, .g [.arr 24576 1, .d _, .d _, .d _, .arr 122880 1, .nil 1, .nil 1])] [] ⟨rfl, rfl, rfl, trivial⟩ ⟨rfl, rfl, trivial⟩ rfl (kStoreP rfl rfl rfl rfl (kDone (kMem [(12288, ⟨1, 0, .box [.arr 24576 1, .d _, .d _, .d _, .arr 122880 1, .nil 1, .nil 1]⟩), (24576, ⟨1, 0, .arr true _⟩), (122880, ⟨1, 0, .arr true _⟩)] [(2, .c (.ptr 12288 1 0))] [] ⟨rfl, rfl, rfl, trivial⟩ ⟨rfl, trivial⟩ rfl (kRet (endRetA (ra := [.agg [(.own true _), (.d _), (.d _), (.d _), (.own true _), (.own true _), (.own true _)]]) rfl ?_))))))))))))))))))))))))))) (fun g5 => kReg (kMem [(0, ⟨0, 3, .box [.d _, .d _, .d _]⟩), (16384, ⟨1, 0, .box [.arr 24576 1, .d _, .d _, .d _, .nil 1, .nil 1, .nil 1]⟩), (24576, ⟨1, 0, .arr true _⟩)] [(0, .c (.ptr 0 0 0)), (13, .c (.un)), (3, .c (.ptr 16384 1 0)), (15, .c (.un)), (14, .c (.un))] [] ⟨rfl, rfl, rfl, trivial⟩ ⟨rfl, rfl, rfl, rfl, rfl, trivial⟩ rfl (kMovC rfl (kCallE (ok_spec_l1some _ _ (by first | assumption | omega | solve_by_elim [List.getElem_mem] | (simp only [szOut] at *; omega) | exact rfl | exact Nat.le_of_ble_eq_true rfl)) ⟨⟨rfl, _, rfl, rfl⟩, rfl, trivial⟩ rfl rfl rfl (fun _ => rfl) (fun x10 hx10 => (kFadP rfl rfl (kStoreP rfl rfl rfl rfl (kDone (kBk (kSeq (kReg (kLoadP rfl rfl rfl (kMem [(12288, ⟨1, 0, .box [.nil 1, .d _, .d _, .d _, .nil 1, .nil 1, .nil 1]⟩), (24576, ⟨1, 0, .arr true _⟩), (61440, ⟨1, 0, .arr true _⟩)] [(2, .c (.ptr 12288 1 0)), (41, .g [.arr 24576 1, .d _, .d _, .d _, .nil 1, .arr 61440 1, .nil 1])] [] ⟨rfl, rfl, rfl, trivial⟩ ⟨rfl, rfl, trivial⟩ rfl (kStoreP rfl rfl rfl rfl (kDone (kMem [(12288, ⟨1, 0, .box [.arr 24576 1, .d _, .d _, .d _, .nil 1, .arr 61440 1, .nil 1]⟩), (24576, ⟨1, 0, .arr true _⟩), (61440, ⟨1, 0, .arr true _⟩)] [(2, .c (.ptr 12288 1 0))] [] ⟨rfl, rfl, rfl, trivial⟩ ⟨rfl, trivial⟩ rfl (kRet (endRetA (ra := [.agg [(.own true _), (.d _), (.d _), (.d _), (.own true _), (.own true _), (.own true _)]]) rfl ?_)))))))))))))))))))))))))))))))))))))))))))))))))))))))))))
  · refine ⟨(⟨x0.1, x1.1, x2.1, x4.1, [], [], []⟩, x4.2), ?_, rfl, rfl⟩
    show rrOk ⟨x0.1, x1.1, x2.1, x4.1, [], [], []⟩ = true
    rw [show x1.1 = 1 by assumption]
    exact drawn_A hx0 hx2 hx4
  · refine ⟨(⟨x0.1, x1.1, x2.1, 0, x6.1, [], [x8.1, x9.1]⟩, x9.2), ?_, rfl, rfl⟩
    show rrOk ⟨x0.1, x1.1, x2.1, 0, x6.1, [], [x8.1, x9.1]⟩ = true
    rw [show x1.1 = 6 by assumption]
    exact drawn_soa hx0 hx6 hx2 hx8 hx9
  · exact ⟨(⟨x0.1, x1.1, x2.1, 0, x6.1, [], []⟩, x6.2), drawn_to hx0 hx6 hx1 (by assumption) (by assumption) hx2, rfl, rfl⟩
  · exact ⟨(⟨x0.1, x1.1, x2.1, 0, [], x10.1, []⟩, x10.2), drawn_text hx0 hx1 (by assumption) (by assumption) hx2 (by rcases hx10 with h | h; omega; rw [h]; simp), rfl, rfl⟩

def c_spec_l5owned : C := (.seq (.reg false (.op 0 [] (some 2) none false (.alloc 2 [(.n 1)])
  .done))
 (.seq (.reg false (.op 0 [] (some 3) none false (.lit 3 1 [(.v (.string ⟨#[]⟩))] 7 [(0, 1, (.v (.string ⟨#[104, 111, 109, 101, 46]⟩))), (1, 1, (.v (.string ⟨#[112, 99, 46, 104, 111, 109, 101, 46]⟩))), (2, 1, (.v (.string ⟨#[116, 118, 46, 104, 111, 109, 101, 46]⟩))), (3, 1, (.v (.string ⟨#[97, 46, 112, 99, 46, 104, 111, 109, 101, 46]⟩))), (4, 1, (.v (.string ⟨#[115, 117, 98, 46, 104, 111, 109, 101, 46]⟩))), (5, 1, (.v (.string ⟨#[121, 46, 115, 117, 98, 46, 104, 111, 109, 101, 46]⟩))), (6, 1, (.v (.string ⟨#[110, 115, 46, 115, 117, 98, 46, 104, 111, 109, 101, 46]⟩)))])
  (.op 1 [] (some 4) none false (.mov (.t 0))
  (.op 2 [] (some 5) none false (.call 5 205 [(.t 4), (.v (.int .i64 7))])
  (.op 3 [] (some 6) none false (.iad 1 (.t 3) (.t 5))
  (.op 4 [] (some 7) none false (.load none (.t 6))
  (.op 5 [] (some 8) none false (.call 8 207 [(.t 7)])
  (.op 6 [] none none false (.store (some 1) (.t 2) (.t 8))
  .done))))))))
 .ret))
theorem dg_spec_l5owned : Tryz.f99.body.bind (digC Tryz.prog Tryz.f99.ntmps []) = some c_spec_l5owned := by kernel_rfl
theorem rs_spec_l5owned : resSlots Tryz.prog Tryz.f99 = some [.m 2 (some 1)] := by kernel_rfl
theorem ok_spec_l5owned (c : Cu) :
    FnOK Tryz.prog 99 [.one (.box c.cells)] (fun ra os => ∃ x : List (List UInt8) × Cu, (nameOk x.1 = true) ∧ ra = [.agg [.own true (encBB x.1)]] ∧ os.b 0 = x.2.cells) := by
  refine FnOK.ofK Tryz.func99 (by kernel_rfl) dg_spec_l5owned rs_spec_l5owned rfl rfl ?_
  unfold c_spec_l5owned
  refine kSeq (kReg (kAlloc rfl rfl (kDone (kSeq (kReg (kLitG rfl rfl rfl rfl (kMovC rfl (kCallE (ok_spec_l1Below _ _) ⟨⟨rfl, _, rfl, rfl⟩, rfl, trivial⟩ rfl rfl rfl (fun _ => rfl) (fun x0 hx0 => (kIadStr rfl rfl rfl rfl (by simp only [List.length_cons, List.length_nil]; omega) (kLoadStr rfl rfl rfl (by simp only [List.length_cons, List.length_nil]; omega) rfl (fun b1 hb1 => (kCall1 true (ok_spec_l2of _ (by first | assumption | omega | solve_by_elim [List.getElem_mem] | (simp only [szOut] at *; omega) | exact rfl | exact Nat.le_of_ble_eq_true rfl)) ⟨rfl, trivial⟩ rfl rfl rfl (fun _ => (kMem [(12288, ⟨1, 0, .box [.nil 1]⟩), (36864, ⟨1, 0, .arr true _⟩)] [(2, .c (.ptr 12288 1 0)), (8, .g [.arr 36864 1])] [] ⟨rfl, rfl, trivial⟩ ⟨rfl, rfl, trivial⟩ rfl (kStoreP rfl rfl rfl rfl (kDone (kMem [(12288, ⟨1, 0, .box [.arr 36864 1]⟩), (36864, ⟨1, 0, .arr true _⟩)] [(2, .c (.ptr 12288 1 0))] [] ⟨rfl, rfl, trivial⟩ ⟨rfl, trivial⟩ rfl (kRet (endRetA (ra := [.agg [(.own true _)]]) rfl ?_))))))))))))))))))))
  exact ⟨(readN b1.toList, x0.2), readN_ok _, rfl, rfl⟩

def c_spec_l1Once : C := (.seq (.reg false (.op 0 [] (some 4) none false (.mov (.v (.bool false)))
  .done))
 (.seq (.reg false (.op 0 [] (some 5) none false (.mov (.t 0))
  (.op 1 [] (some 6) none false (.mov (.t 1))
  (.op 2 [] (some 7) none false (.call 7 205 [(.t 5), (.t 6)])
  (.op 3 [] (some 8) none false (.bin .eql (.t 7) (.v (.int .i64 0)))
  (.op 4 [] (some 4) none false (.mov (.t 8))
  .done))))))
 .ret))
theorem dg_spec_l1Once : Tryz.f102.body.bind (digC Tryz.prog Tryz.f102.ntmps []) = some c_spec_l1Once := by kernel_rfl
theorem rs_spec_l1Once : resSlots Tryz.prog Tryz.f102 = some [.s 4] := by kernel_rfl
theorem ok_spec_l1Once (c : Cu) (n : Int) :
    FnOK Tryz.prog 102 [.one (.box c.cells), .one (.d (.sc (.int .i64 n)))] (fun ra os => ∃ x : Bool × Cu, True ∧ ra = [.one (.d (.sc (.bool x.1)))] ∧ os.b 0 = x.2.cells) := by
  refine FnOK.ofK Tryz.func102 (by kernel_rfl) dg_spec_l1Once rs_spec_l1Once rfl rfl ?_
  unfold c_spec_l1Once
  refine kSeq (kReg (kMovC rfl (kDone (kSeq (kReg (kMovC rfl (kMovC rfl (kCallE (ok_spec_l1Below _ _) ⟨⟨rfl, _, rfl, rfl⟩, rfl, trivial⟩ rfl rfl rfl (fun _ => rfl) (fun x0 hx0 => (kBin rfl rfl rfl (kMovC rfl (kDone (kRet (endRetA (ra := [.one (.d _)]) rfl ?_))))))))))))))
  exact ⟨(_, x0.2), trivial, rfl, rfl⟩

def c_spec_l5rr : C := (.seq (.reg false (.op 0 [] (some 2) none false (.alloc 2 [(.n 1), (.v (.int .i64 0)), (.v (.int .i64 0)), (.v (.int .i64 0)), (.n 1), (.n 1), (.n 1)])
  .done))
 (.seq (.reg false (.op 0 [] (some 4) none false (.mov (.t 0))
  (.op 1 [] (some 5) none false (.call 5 269 [(.t 4)])
  (.op 2 [] (some 3) none false (.alloc 3 [(.n 1), (.v (.int .i64 0)), (.v (.int .i64 0)), (.v (.int .i64 0)), (.n 1), (.n 1), (.n 1)])
  (.op 3 [] none none false (.store (some 7) (.t 3) (.t 5))
  .done)))))
 (.seq (.reg false (.op 0 [] (some 6) none false (.mov (.t 0))
  (.op 1 [] (some 7) none false (.call 7 99 [(.t 6)])
  (.op 2 [] (some 8) none false (.fad (.t 3) 0)
  (.op 3 [] none none false (.store (some 1) (.t 8) (.t 7))
  .done)))))
 (.seq (.seq (.reg false (.op 0 [] (some 9) none false (.mov (.t 0))
  (.op 1 [] (some 10) none false (.call 10 102 [(.t 9), (.v (.int .i64 3))])
  .done)))
 (.cond (.t 10)
 (.seq (.reg false (.op 0 [] (some 11) none false (.build [(.n 1)] [])
  (.op 1 [] (some 12) none false (.fad (.t 3) 4)
  (.op 2 [] none none false (.store (some 1) (.t 12) (.t 11))
  .done))))
 (.seq (.reg false (.op 0 [] (some 13) none false (.fad (.t 3) 1)
  (.op 1 [] (some 14) none false (.load none (.t 13))
  (.op 2 [] (some 15) none false (.call 15 257 [(.t 14)])
  .done))))
 (.cond (.t 15)
 (.reg false (.op 0 [] (some 16) none false (.mov (.t 0))
  (.op 1 [] (some 17) none false (.call 17 99 [(.t 16)])
  (.op 2 [] (some 18) none false (.fad (.t 3) 4)
  (.op 3 [] none none false (.store (some 1) (.t 18) (.t 17))
  .done)))))
 .skip)))
 .skip))
 (.seq (.reg false (.op 0 [] (some 19) none false (.load (some 7) (.t 3))
  (.op 1 [] none none false (.store (some 7) (.t 2) (.t 19))
  .done)))
 .ret)))))
theorem dg_spec_l5rr : Tryz.f267.body.bind (digC Tryz.prog Tryz.f267.ntmps []) = some c_spec_l5rr := by kernel_rfl
theorem rs_spec_l5rr : resSlots Tryz.prog Tryz.f267 = some [.m 2 (some 7)] := by kernel_rfl
theorem ok_spec_l5rr (c : Cu) :
    FnOK Tryz.prog 267 [.one (.box c.cells)] (fun ra os => ∃ x : Rr × Cu, (rrOk x.1 = true) ∧ ra = [.agg [.own true (encBB x.1.name), .d (.sc (.int .i64 x.1.ty)), .d (.sc (.int .i64 x.1.ttl)), .d (.sc (.int .i64 x.1.addr)), .own true (encBB x.1.to), .own true (encB x.1.text), .own true (encI x.1.nums)]] ∧ os.b 0 = x.2.cells) := by
  refine FnOK.ofK Tryz.func267 (by kernel_rfl) dg_spec_l5rr rs_spec_l5rr rfl rfl ?_
  unfold c_spec_l5rr
  refine kSeq (kReg (kAlloc rfl rfl (kDone (kSeq (kReg (kMovC rfl (kCallE (ok_spec_l3draw _) ⟨⟨rfl, _, rfl, rfl⟩, trivial⟩ rfl rfl rfl (fun _ => rfl) (fun x0 hx0 => (kAlloc rfl rfl (kMem [(16384, ⟨1, 0, .box [.nil 1, .d _, .d _, .d _, .nil 1, .nil 1, .nil 1]⟩), (24576, ⟨1, 0, .arr true _⟩), (24580, ⟨1, 0, .arr true _⟩), (24581, ⟨1, 0, .arr true _⟩), (24582, ⟨1, 0, .arr true _⟩)] [(3, .c (.ptr 16384 1 0)), (5, .g [.arr 24576 1, .d _, .d _, .d _, .arr 24580 1, .arr 24581 1, .arr 24582 1])] [] ⟨rfl, rfl, rfl, rfl, rfl, trivial⟩ ⟨rfl, rfl, trivial⟩ rfl (kStoreP rfl rfl rfl rfl (kDone (kSeq (kReg (kMovC rfl (kCallE (ok_spec_l5owned _) ⟨⟨rfl, _, rfl, rfl⟩, trivial⟩ rfl rfl rfl (fun _ => rfl) (fun x1 hx1 => (kFadP rfl rfl (kStoreP rfl rfl rfl rfl (kDone (kSeq (kSeq (kReg (kMovC rfl (kCallE (ok_spec_l1Once _ _) ⟨⟨rfl, _, rfl, rfl⟩, rfl, trivial⟩ rfl rfl rfl (fun _ => rfl) (fun x2 hx2 => (kDone (kCond rfl (fun g3 => kSeq (kReg (kMem [(16384, ⟨1, 0, .box [.arr 32768 1, .d _, .d _, .d _, .arr 24580 1, .arr 24581 1, .arr 24582 1]⟩), (32768, ⟨1, 0, .arr true _⟩), (24580, ⟨1, 0, .arr true _⟩), (24581, ⟨1, 0, .arr true _⟩), (24582, ⟨1, 0, .arr true _⟩)] [(3, .c (.ptr 16384 1 0)), (12, .c (.un)), (11, .c (.un))] [] ⟨rfl, rfl, rfl, rfl, rfl, trivial⟩ ⟨rfl, rfl, rfl, trivial⟩ rfl (kBuildG rfl (kFadP rfl rfl (kStoreP rfl rfl rfl rfl (kDone (kSeq (kReg (kFadP rfl rfl (kLoadP rfl rfl rfl (kCallD (ok_spec_l3named _) ⟨rfl, trivial⟩ rfl rfl rfl rfl rfl (kDone (kCond rfl (fun g4 => kReg (kMovC rfl (kCallE (ok_spec_l5owned _) ⟨⟨rfl, _, rfl, rfl⟩, trivial⟩ rfl rfl rfl (fun _ => rfl) (fun x5 hx5 => (kFadP rfl rfl (kMem [(16384, ⟨1, 0, .box [.arr 32768 1, .d _, .d _, .d _, .nil 1, .arr 24581 1, .arr 24582 1]⟩), (73728, ⟨1, 0, .arr true _⟩), (32768, ⟨1, 0, .arr true _⟩), (24581, ⟨1, 0, .arr true _⟩), (24582, ⟨1, 0, .arr true _⟩)] [(18, .c (.ptr 16384 1 4)), (17, .g [.arr 73728 1])] [] ⟨rfl, rfl, rfl, rfl, rfl, trivial⟩ ⟨rfl, rfl, trivial⟩ rfl (kStoreP rfl rfl rfl rfl (kDone (kSeq (kReg (kLoadP rfl rfl rfl (kMem [(12288, ⟨1, 0, .box [.nil 1, .d _, .d _, .d _, .nil 1, .nil 1, .nil 1]⟩), (32768, ⟨1, 0, .arr true _⟩), (73728, ⟨1, 0, .arr true _⟩), (24581, ⟨1, 0, .arr true _⟩), (24582, ⟨1, 0, .arr true _⟩)] [(2, .c (.ptr 12288 1 0)), (19, .g [.arr 32768 1, .d _, .d _, .d _, .arr 73728 1, .arr 24581 1, .arr 24582 1])] [] ⟨rfl, rfl, rfl, rfl, rfl, trivial⟩ ⟨rfl, rfl, trivial⟩ rfl (kStoreP rfl rfl rfl rfl (kDone (kMem [(12288, ⟨1, 0, .box [.arr 32768 1, .d _, .d _, .d _, .arr 73728 1, .arr 24581 1, .arr 24582 1]⟩), (32768, ⟨1, 0, .arr true _⟩), (73728, ⟨1, 0, .arr true _⟩), (24581, ⟨1, 0, .arr true _⟩), (24582, ⟨1, 0, .arr true _⟩)] [(2, .c (.ptr 12288 1 0))] [] ⟨rfl, rfl, rfl, rfl, rfl, trivial⟩ ⟨rfl, trivial⟩ rfl (kRet (endRetA (ra := [.agg [(.own true _), (.d _), (.d _), (.d _), (.own true _), (.own true _), (.own true _)]]) rfl ?_))))))))))))))))) (fun g4 => kSkip (kSeq (kReg (kLoadP rfl rfl rfl (kMem [(12288, ⟨1, 0, .box [.nil 1, .d _, .d _, .d _, .nil 1, .nil 1, .nil 1]⟩), (32768, ⟨1, 0, .arr true _⟩), (24581, ⟨1, 0, .arr true _⟩), (24582, ⟨1, 0, .arr true _⟩)] [(2, .c (.ptr 12288 1 0)), (19, .g [.arr 32768 1, .d _, .d _, .d _, .nil 1, .arr 24581 1, .arr 24582 1])] [] ⟨rfl, rfl, rfl, rfl, trivial⟩ ⟨rfl, rfl, trivial⟩ rfl (kStoreP rfl rfl rfl rfl (kDone (kMem [(12288, ⟨1, 0, .box [.arr 32768 1, .d _, .d _, .d _, .nil 1, .arr 24581 1, .arr 24582 1]⟩), (32768, ⟨1, 0, .arr true _⟩), (24581, ⟨1, 0, .arr true _⟩), (24582, ⟨1, 0, .arr true _⟩)] [(2, .c (.ptr 12288 1 0))] [] ⟨rfl, rfl, rfl, rfl, trivial⟩ ⟨rfl, trivial⟩ rfl (kRet (endRetA (ra := [.agg [(.own true _), (.d _), (.d _), (.d _), (.own true _), (.own true _), (.own true _)]]) rfl ?_)))))))))))))))))))))))) (fun g3 => kSkip (kSeq (kReg (kLoadP rfl rfl rfl (kMem [(12288, ⟨1, 0, .box [.nil 1, .d _, .d _, .d _, .nil 1, .nil 1, .nil 1]⟩), (32768, ⟨1, 0, .arr true _⟩), (24580, ⟨1, 0, .arr true _⟩), (24581, ⟨1, 0, .arr true _⟩), (24582, ⟨1, 0, .arr true _⟩)] [(2, .c (.ptr 12288 1 0)), (19, .g [.arr 32768 1, .d _, .d _, .d _, .arr 24580 1, .arr 24581 1, .arr 24582 1])] [] ⟨rfl, rfl, rfl, rfl, rfl, trivial⟩ ⟨rfl, rfl, trivial⟩ rfl (kStoreP rfl rfl rfl rfl (kDone (kMem [(12288, ⟨1, 0, .box [.arr 32768 1, .d _, .d _, .d _, .arr 24580 1, .arr 24581 1, .arr 24582 1]⟩), (32768, ⟨1, 0, .arr true _⟩), (24580, ⟨1, 0, .arr true _⟩), (24581, ⟨1, 0, .arr true _⟩), (24582, ⟨1, 0, .arr true _⟩)] [(2, .c (.ptr 12288 1 0))] [] ⟨rfl, rfl, rfl, rfl, rfl, trivial⟩ ⟨rfl, trivial⟩ rfl (kRet (endRetA (ra := [.agg [(.own true _), (.d _), (.d _), (.d _), (.own true _), (.own true _), (.own true _)]]) rfl ?_))))))))))))))))))))))))))))))))))))))
  · exact ⟨(⟨x1.1, x0.1.ty, x0.1.ttl, x0.1.addr, x5.1, x0.1.text, x0.1.nums⟩, x5.2), rrOk_to hx0 hx1 (by rw [if_pos (by assumption)]; exact hx5), rfl, rfl⟩
  · exact ⟨(⟨x1.1, x0.1.ty, x0.1.ttl, x0.1.addr, [], x0.1.text, x0.1.nums⟩, x2.2), rrOk_to hx0 hx1 (by rw [if_neg (by simp [*])]; rfl), rfl, rfl⟩
  · exact ⟨(⟨x1.1, x0.1.ty, x0.1.ttl, x0.1.addr, x0.1.to, x0.1.text, x0.1.nums⟩, x2.2), rrOk_name2 hx0 hx1, rfl, rfl⟩

def c_spec_l5add : C := (.seq (.reg false (.op 0 [] (some 2) none false (.box 2 (.t 0))
  (.op 1 [] (some 3) none false (.box 3 (.t 1))
  (.op 2 [] (some 4) none false (.alloc 4 [(.n 1), (.n 7)])
  .done))))
 (.seq (.reg false (.op 0 [] (some 10) none false (.fad (.t 2) 0)
  (.op 1 [] (some 11) none false (.load (some 1) (.t 10))
  (.op 2 [] (some 12) none false (.build [(.n 1), (.n 7)] [(0, 1, (.t 11))])
  (.op 3 [] (some 5) none false (.alloc 5 [(.n 1), (.n 7)])
  (.op 4 [] none none false (.store (some 2) (.t 5) (.t 12))
  .done))))))
 (.seq (.reg false (.op 0 [] (some 6) none false (.mov (.v (.bool false)))
  .done))
 (.seq (.seq (.reg false (.op 0 [] (some 7) none false (.mov (.v (.int .i64 0)))
  .done))
 (.block 0 (.loop (.seq (.seq (.reg false (.op 0 [] (some 13) none false (.mov (.t 7))
  (.op 1 [] (some 14) none false (.fad (.t 2) 1)
  (.op 2 [] (some 15) none false (.load none (.t 14))
  (.op 3 [] (some 16) none false (.len (.t 15))
  (.op 4 [] (some 17) none false (.bin .lss (.t 13) (.t 16))
  .done))))))
 (.cond (.t 17)
 .skip
 (.exit 0)))
 (.seq (.block 1 (.seq (.reg false (.op 0 [] (some 20) none false (.fad (.t 2) 1)
  (.op 1 [] (some 21) none false (.load none (.t 20))
  (.op 2 [] (some 22) none false (.mov (.t 7))
  (.op 3 [] (some 23) none false (.iad 7 (.t 21) (.t 22))
  (.op 4 [] (some 24) none false (.load (some 7) (.t 23))
  (.op 5 [] (some 8) none false (.alloc 8 [(.n 1), (.v (.int .i64 0)), (.v (.int .i64 0)), (.v (.int .i64 0)), (.n 1), (.n 1), (.n 1)])
  (.op 6 [] none none false (.store (some 7) (.t 8) (.t 24))
  .done))))))))
 (.seq (.seq (.reg false (.op 0 [] (some 25) none false (.fad (.t 8) 0)
  (.op 1 [] (some 26) none false (.load (some 1) (.t 25))
  (.op 2 [] (some 27) none false (.fad (.t 3) 0)
  (.op 3 [] (some 28) none false (.load (some 1) (.t 27))
  (.op 4 [] (some 29) none false (.call 29 80 [(.t 26), (.t 28)])
  (.op 5 [] (some 30) none false (.bin .eql (.t 29) (.v (.int .i64 0)))
  (.op 6 [] (some 31) none false (.mov (.t 30))
  (.op 7 [] (some 32) (some (31, true)) false (.fad (.t 8) 1)
  (.op 8 [] (some 33) (some (31, true)) false (.load none (.t 32))
  (.op 9 [] (some 34) (some (31, true)) false (.fad (.t 3) 1)
  (.op 10 [] (some 35) (some (31, true)) false (.load none (.t 34))
  (.op 11 [] (some 36) (some (31, true)) false (.bin .eql (.t 33) (.t 35))
  (.op 12 [] (some 37) none false (.pick (.t 31) (.t 36) (.v (.bool false)))
  .done))))))))))))))
 (.cond (.t 37)
 (.reg false (.op 0 [] (some 38) none false (.fad (.t 3) 2)
  (.op 1 [] (some 39) none false (.load none (.t 38))
  (.op 2 [] (some 40) none false (.fad (.t 8) 2)
  (.op 3 [] none none false (.store none (.t 40) (.t 39))
  .done)))))
 .skip))
 (.seq (.reg false (.op 0 [] (some 41) none false (.load (some 7) (.t 3))
  (.op 1 [] (some 42) none false (.load (some 7) (.t 8))
  (.op 2 [] (some 43) none false (.call 43 78 [(.t 41), (.t 42)])
  (.op 3 [] (some 9) none false (.mov (.t 43))
  .done)))))
 (.seq (.seq (.reg false (.op 0 [] (some 44) none false (.mov (.t 6))
  (.op 1 [] (some 45) none false (.un .not (.t 44))
  (.op 2 [] (some 46) none false (.mov (.t 45))
  (.op 3 [] (some 47) (some (46, true)) false (.mov (.t 9))
  (.op 4 [] (some 48) (some (46, true)) false (.bin .leq (.t 47) (.v (.int .i64 0)))
  (.op 5 [] (some 49) none false (.pick (.t 46) (.t 48) (.v (.bool false)))
  .done)))))))
 (.cond (.t 49)
 (.seq (.reg false (.op 0 [] (some 50) none false (.fad (.t 5) 1)
  (.op 1 [] (some 51) none false (.load none (.t 50))
  (.op 2 [] (some 52) none false (.load (some 7) (.t 3))
  (.op 3 [] (some 53) none false (.lit 53 7 [(.n 1), (.v (.int .i64 0)), (.v (.int .i64 0)), (.v (.int .i64 0)), (.n 1), (.n 1), (.n 1)] 1 [(0, 7, (.t 52))])
  (.op 4 [] (some 54) none false (.app 54 7 120 (.t 51) (.t 53))
  (.op 5 [] (some 55) none false (.fad (.t 5) 1)
  (.op 6 [] none none false (.store none (.t 55) (.t 54))
  .done))))))))
 (.reg false (.op 0 [] (some 6) none false (.mov (.v (.bool true)))
  .done)))
 .skip))
 (.seq (.reg false (.op 0 [] (some 56) none false (.mov (.t 9))
  (.op 1 [] (some 57) none false (.bin .neq (.t 56) (.v (.int .i64 0)))
  .done)))
 (.cond (.t 57)
 (.reg false (.op 0 [] (some 58) none false (.fad (.t 5) 1)
  (.op 1 [] (some 59) none false (.load none (.t 58))
  (.op 2 [] (some 60) none false (.load (some 7) (.t 8))
  (.op 3 [] (some 61) none false (.lit 61 7 [(.n 1), (.v (.int .i64 0)), (.v (.int .i64 0)), (.v (.int .i64 0)), (.n 1), (.n 1), (.n 1)] 1 [(0, 7, (.t 60))])
  (.op 4 [] (some 62) none false (.app 62 7 120 (.t 59) (.t 61))
  (.op 5 [] (some 63) none false (.fad (.t 5) 1)
  (.op 6 [] none none false (.store none (.t 63) (.t 62))
  .done))))))))
 .skip)))))))
 (.reg false (.op 0 [] (some 18) none false (.mov (.t 7))
  (.op 1 [] (some 19) none false (.bin .add (.t 18) (.v (.int .i64 1)))
  (.op 2 [] (some 7) none false (.mov (.t 19))
  .done)))))))))
 (.seq (.seq (.reg false (.op 0 [] (some 64) none false (.mov (.t 6))
  (.op 1 [] (some 65) none false (.un .not (.t 64))
  .done)))
 (.cond (.t 65)
 (.reg false (.op 0 [] (some 66) none false (.fad (.t 5) 1)
  (.op 1 [] (some 67) none false (.load none (.t 66))
  (.op 2 [] (some 68) none false (.load (some 7) (.t 3))
  (.op 3 [] (some 69) none false (.lit 69 7 [(.n 1), (.v (.int .i64 0)), (.v (.int .i64 0)), (.v (.int .i64 0)), (.n 1), (.n 1), (.n 1)] 1 [(0, 7, (.t 68))])
  (.op 4 [] (some 70) none false (.app 70 7 120 (.t 67) (.t 69))
  (.op 5 [] (some 71) none false (.fad (.t 5) 1)
  (.op 6 [] none none false (.store none (.t 71) (.t 70))
  .done))))))))
 .skip))
 (.seq (.reg false (.op 0 [] (some 72) none false (.load (some 2) (.t 5))
  (.op 1 [] none none false (.store (some 2) (.t 4) (.t 72))
  .done)))
 .ret))))))
theorem dg_spec_l5add : Tryz.f210.body.bind (digC Tryz.prog Tryz.f210.ntmps []) = some c_spec_l5add := by kernel_rfl
theorem rs_spec_l5add : resSlots Tryz.prog Tryz.f210 = some [.m 4 (some 2)] := by kernel_rfl
theorem ok_spec_l5add (z : Zone) (r : Rr) (hs : SmallZ z) (hr : SmallR r) (ho : rrOk r = true) (hm : ∀ x ∈ z.rrs, rrOk x = true) (hl : z.rrs.length ≤ 1000000) :
    FnOK Tryz.prog 210 [.agg (z.cells.map .d), .agg (r.cells.map .d)] (fun ra _ => ra = [.agg [.d (encBB z.origin), .d (encR (addL z.rrs r))]]) := by
  refine FnOK.ofK Tryz.func210 (by kernel_rfl) dg_spec_l5add rs_spec_l5add rfl rfl ?_
  unfold c_spec_l5add
  have r1 := hr.n.len
  refine kSeq (kReg (kBox rfl rfl rfl rfl rfl (kBox rfl rfl rfl rfl rfl (kAlloc rfl rfl (kDone (kSeq (kReg (kFadP rfl rfl (kLoadP rfl rfl rfl (kBuildG rfl (kAlloc rfl rfl (kMem [(24576, ⟨1, 0, .box [.nil 1, .nil 7]⟩)] [(5, .c (.ptr 24576 1 0)), (12, .g [.d _, .nil 7])] [] ⟨rfl, trivial⟩ ⟨rfl, rfl, trivial⟩ rfl (kStoreP rfl rfl rfl rfl (kDone (kSeq (kReg (kMovC rfl (kDone (kSeq (kSeq (kReg (kMovC rfl (kDone (kBlock ?_))))))))))))))))))))))))
  refine kSub (Sub.nilBox (id := rid 5 0) (id2 := rid 5000 0) (j := 1) rfl rfl rfl (by decide) (by decide)) ?_
  refine kLoop (α := { i : Nat // i ≤ z.rrs.length }) (fun y => ⟨tabSl [(2, .c (.ptr (rid 2 0) 1 0)), (3, .c (.ptr (rid 3 0) 1 0)), (4, .c (.ptr (rid 4 0) 1 0)), (5, .c (.ptr (rid 5 0) 1 0)), (6, .b (addAt (z.rrs.take y.1) r).2), (7, .i y.1)], obTab 1 [(rid 2 0, ⟨1, 0, .box (z.cells.map .d)⟩), (rid 3 0, ⟨1, 0, .box (r.cells.map .d)⟩), (rid 4 0, ⟨1, 0, .box [.nil 1, .nil 7]⟩), (rid 5 0, ⟨1, 0, .box [.d (encBB z.origin), .arr (rid 5000 0) 1]⟩), (rid 5000 0, ⟨1, 0, .arr false (encR (addAt (z.rrs.take y.1) r).1)⟩)], []⟩) (fun y => z.rrs.length - y.1) ⟨0, by simp⟩ .normA ?_
  rintro ⟨i, hi⟩
  simp only
  have hle := addAt_len z.rrs r i
  rcases Nat.lt_or_ge i z.rrs.length with hlt | hge
  · have hbi := hs.r.mem _ (List.getElem_mem hlt)
    have hok := hm _ (List.getElem_mem hlt)
    have n1 := hbi.n.len
    have hst := addAt_succ z.rrs r i hlt
    have hsm := ttlR_small (r := r) hbi
    have hok2 := ttlR_ok ho hok
    have hct := cmpR_ttl r z.rrs[i]
    revert hst hle
    generalize addAt (z.rrs.take i) r = S
    obtain ⟨L, p⟩ := S
    intro hle hst
    simp only at hle hst ⊢
    generalize hrow : z.rrs[i] = x at *
    by_cases e1 : x.name = r.name ∧ x.ty = r.ty
    · have ht : ttlR r x = (⟨x.name, x.ty, r.ttl, x.addr, x.to, x.text, x.nums⟩ : Rr) := by unfold ttlR; rw [if_pos e1]
      obtain ⟨e2, e3⟩ := e1
      have e4 : cmpN x.name r.name = 0 := (cmpN_iff _ _).2 e2
      rw [ht] at hsm hok2 hct
      have ok3 := ok_spec_l3cmp r (⟨x.name, x.ty, r.ttl, x.addr, x.to, x.text, x.nums⟩ : Rr) hr hsm ho hok2
      rw [hct] at ok3
      cases p
      · rcases Int.lt_trichotomy (cmpR r x) 0 with hc | hc | hc
        · have hs2 : addAt (z.rrs.take (i + 1)) r = (L ++ [r] ++ [(⟨x.name, x.ty, r.ttl, x.addr, x.to, x.text, x.nums⟩ : Rr)], true) := by
            rw [hst]
            have c1 : decide (cmpR r x ≤ 0) = true := by exact decide_eq_true (by omega)
            unfold addSt
            simp only [ht, c1]
            rw [if_neg (by omega), if_pos ⟨trivial, by omega⟩]
            rfl
          refine kSeq (kSeq (kReg (kMovC rfl (kFadP rfl rfl (kLoadP rfl rfl rfl (kLenR rfl rfl (kBin rfl rfl rfl (kDone (kCondP rfl (fun g0 => kSkip (kSeq (kBlock (kSeq (kReg (kFadP rfl rfl (kLoadP rfl rfl rfl (kMovC rfl (kIadRW rfl rfl rfl (by first | omega | (simp only [List.length_append, List.length_cons, List.length_nil]; omega)) hrow (kLoadD rfl rfl (kAlloc rfl rfl (kMem [(36864, ⟨2, 0, .box [.nil 1, .d _, .d _, .d _, .nil 1, .nil 1, .nil 1]⟩)] [(8, .c (.ptr 36864 2 0)), (24, .g [.d _, .d _, .d _, .d _, .d _, .d _, .d _])] [] ⟨rfl, trivial⟩ ⟨rfl, rfl, trivial⟩ rfl (kStoreP rfl rfl rfl rfl (kDone (kSeq (kSeq (kReg (kFadP rfl rfl (kLoadP rfl rfl rfl (kFadP rfl rfl (kLoadP rfl rfl rfl (kCallD (ok_spec_l2cmp _ _ (by first | assumption | omega | solve_by_elim [List.getElem_mem] | (simp only [szOut] at *; omega) | exact rfl | exact Nat.le_of_ble_eq_true rfl) (by first | assumption | omega | solve_by_elim [List.getElem_mem] | (simp only [szOut] at *; omega) | exact rfl | exact Nat.le_of_ble_eq_true rfl)) ⟨⟨⟨rfl, trivial⟩, Nat.le_of_ble_eq_true rfl⟩, ⟨⟨rfl, trivial⟩, Nat.le_of_ble_eq_true rfl⟩, trivial⟩ rfl rfl rfl rfl rfl (kBin rfl rfl rfl (kMovC rfl (kGP rfl (fun g1 => kMem [(36864, ⟨2, 0, .box [.d _, .d _, .d _, .d _, .d _, .d _, .d _]⟩), (16384, ⟨1, 0, .box [.d _, .d _, .d _, .d _, .d _, .d _, .d _]⟩)] [(8, .c (.ptr 36864 2 0)), (3, .c (.ptr 16384 1 0)), (31, .c (.d _))] [] ⟨rfl, rfl, trivial⟩ ⟨rfl, rfl, rfl, trivial⟩ rfl (kGT rfl (kFadP rfl rfl (kGT rfl (kLoadP rfl rfl rfl (kGT rfl (kFadP rfl rfl (kGT rfl (kLoadP rfl rfl rfl (kGT rfl (kBin rfl rfl rfl (kPickT rfl (kMovC rfl (kDone (kCondP rfl (fun g2 => kReg (kFadP rfl rfl (kLoadP rfl rfl rfl (kFadP rfl rfl (kMem [(36864, ⟨2, 0, .box [.d _, .d _, .d _, .d _, .d _, .d _, .d _]⟩)] [(40, .c (.ptr 36864 2 2)), (39, .c (.d _))] [] ⟨rfl, trivial⟩ ⟨rfl, rfl, trivial⟩ rfl (kStoreP rfl rfl rfl rfl (kDone (kSeq (kReg (kLoadP rfl rfl rfl (kLoadP rfl rfl rfl ?_))))))))))) (fun g2 => (by omega))))))))))))))))) (fun g1 => (by omega))))))))))))))))))))))))))) (fun g0 => (by omega)))))))))))
          refine kCallD ok3 ⟨⟨⟨rfl, rfl, rfl, rfl, rfl, rfl, rfl, trivial⟩, Nat.le_of_ble_eq_true rfl⟩, ⟨⟨rfl, rfl, rfl, rfl, rfl, rfl, rfl, trivial⟩, Nat.le_of_ble_eq_true rfl⟩, trivial⟩ rfl rfl rfl rfl rfl ?_
          refine kMovC rfl (kDone (kSeq (kSeq (kReg (kMovC rfl (kUn rfl rfl (kMovC rfl (kGT rfl (kMovC rfl (kGT rfl (kBin rfl rfl rfl (kPickT rfl (kMovC rfl (kDone (kCondP rfl (fun g0 => kSeq (kReg (kMem [(24576, ⟨1, 0, .box [.d _, .arr 20484096 1]⟩), (16384, ⟨1, 0, .box [.d _, .d _, .d _, .d _, .d _, .d _, .d _]⟩), (20484096, ⟨1, 0, .arr false _⟩)] [(5, .c (.ptr 24576 1 0)), (3, .c (.ptr 16384 1 0))] [] ⟨rfl, rfl, rfl, trivial⟩ ⟨rfl, rfl, trivial⟩ rfl (kFadP rfl rfl (kLoadP rfl rfl rfl (kLoadP rfl rfl rfl (kLitG rfl rfl rfl rfl (kAppRec rfl rfl rfl rfl rfl rfl rfl (by first | omega | (simp only [List.length_append, List.length_cons, List.length_nil]; omega)) (kFadP rfl rfl (kMem [(24576, ⟨1, 0, .box [.d _, .arr 20484096 1]⟩), (20484096, ⟨2, 0, .arr false _⟩)] [(55, .c (.ptr 24576 1 1)), (54, .c (.arr 20484096 2))] [] ⟨rfl, rfl, trivial⟩ ⟨rfl, rfl, trivial⟩ rfl (kStoreP rfl rfl rfl rfl (kDone (kReg (kMovC rfl (kDone (kSeq (kReg (kMovC rfl (kBin rfl rfl rfl (kDone (kCondIN rfl (fun g1 => kReg (kFadP rfl rfl (kLoadP rfl rfl rfl (kLoadP rfl rfl rfl (kLitG rfl rfl rfl rfl (kMem [(20484096, ⟨2, 0, .arr false _⟩), (253952, ⟨2, 0, .arr false _⟩), (24576, ⟨1, 0, .box [.d _, .arr 20484096 2]⟩)] [(59, .c (.arr 20484096 2)), (61, .c (.arr 253952 2)), (5, .c (.ptr 24576 1 0))] [] ⟨rfl, rfl, rfl, trivial⟩ ⟨rfl, rfl, rfl, trivial⟩ rfl (kAppRec rfl rfl rfl rfl rfl rfl rfl (by first | omega | (simp only [List.length_append, List.length_cons, List.length_nil]; omega)) (kFadP rfl rfl (kStoreP rfl rfl rfl rfl (kDone (kBk (kReg (kMovC rfl (kAdd rfl rfl (by omega) (kMovC rfl (kDone ?_)))))))))))))))) (fun g1 => (by omega))))))))))))))))))))))) (fun g0 => (by omega)))))))))))))))))
          refine kInv ⟨⟨i + 1, by omega⟩, by simp only; omega, ?_⟩
          simp only [hs2]
          exact .normA
        · have hs2 : addAt (z.rrs.take (i + 1)) r = (L ++ [r], true) := by
            rw [hst]
            have c1 : decide (cmpR r x ≤ 0) = true := by exact decide_eq_true (by omega)
            unfold addSt
            simp only [ht, c1]
            rw [if_pos hc, if_pos ⟨trivial, by omega⟩]
            rfl
          refine kSeq (kSeq (kReg (kMovC rfl (kFadP rfl rfl (kLoadP rfl rfl rfl (kLenR rfl rfl (kBin rfl rfl rfl (kDone (kCondP rfl (fun g0 => kSkip (kSeq (kBlock (kSeq (kReg (kFadP rfl rfl (kLoadP rfl rfl rfl (kMovC rfl (kIadRW rfl rfl rfl (by first | omega | (simp only [List.length_append, List.length_cons, List.length_nil]; omega)) hrow (kLoadD rfl rfl (kAlloc rfl rfl (kMem [(36864, ⟨2, 0, .box [.nil 1, .d _, .d _, .d _, .nil 1, .nil 1, .nil 1]⟩)] [(8, .c (.ptr 36864 2 0)), (24, .g [.d _, .d _, .d _, .d _, .d _, .d _, .d _])] [] ⟨rfl, trivial⟩ ⟨rfl, rfl, trivial⟩ rfl (kStoreP rfl rfl rfl rfl (kDone (kSeq (kSeq (kReg (kFadP rfl rfl (kLoadP rfl rfl rfl (kFadP rfl rfl (kLoadP rfl rfl rfl (kCallD (ok_spec_l2cmp _ _ (by first | assumption | omega | solve_by_elim [List.getElem_mem] | (simp only [szOut] at *; omega) | exact rfl | exact Nat.le_of_ble_eq_true rfl) (by first | assumption | omega | solve_by_elim [List.getElem_mem] | (simp only [szOut] at *; omega) | exact rfl | exact Nat.le_of_ble_eq_true rfl)) ⟨⟨⟨rfl, trivial⟩, Nat.le_of_ble_eq_true rfl⟩, ⟨⟨rfl, trivial⟩, Nat.le_of_ble_eq_true rfl⟩, trivial⟩ rfl rfl rfl rfl rfl (kBin rfl rfl rfl (kMovC rfl (kGP rfl (fun g1 => kMem [(36864, ⟨2, 0, .box [.d _, .d _, .d _, .d _, .d _, .d _, .d _]⟩), (16384, ⟨1, 0, .box [.d _, .d _, .d _, .d _, .d _, .d _, .d _]⟩)] [(8, .c (.ptr 36864 2 0)), (3, .c (.ptr 16384 1 0)), (31, .c (.d _))] [] ⟨rfl, rfl, trivial⟩ ⟨rfl, rfl, rfl, trivial⟩ rfl (kGT rfl (kFadP rfl rfl (kGT rfl (kLoadP rfl rfl rfl (kGT rfl (kFadP rfl rfl (kGT rfl (kLoadP rfl rfl rfl (kGT rfl (kBin rfl rfl rfl (kPickT rfl (kMovC rfl (kDone (kCondP rfl (fun g2 => kReg (kFadP rfl rfl (kLoadP rfl rfl rfl (kFadP rfl rfl (kMem [(36864, ⟨2, 0, .box [.d _, .d _, .d _, .d _, .d _, .d _, .d _]⟩)] [(40, .c (.ptr 36864 2 2)), (39, .c (.d _))] [] ⟨rfl, trivial⟩ ⟨rfl, rfl, trivial⟩ rfl (kStoreP rfl rfl rfl rfl (kDone (kSeq (kReg (kLoadP rfl rfl rfl (kLoadP rfl rfl rfl ?_))))))))))) (fun g2 => (by omega))))))))))))))))) (fun g1 => (by omega))))))))))))))))))))))))))) (fun g0 => (by omega)))))))))))
          refine kCallD ok3 ⟨⟨⟨rfl, rfl, rfl, rfl, rfl, rfl, rfl, trivial⟩, Nat.le_of_ble_eq_true rfl⟩, ⟨⟨rfl, rfl, rfl, rfl, rfl, rfl, rfl, trivial⟩, Nat.le_of_ble_eq_true rfl⟩, trivial⟩ rfl rfl rfl rfl rfl ?_
          refine kMovC rfl (kDone (kSeq (kSeq (kReg (kMovC rfl (kUn rfl rfl (kMovC rfl (kGT rfl (kMovC rfl (kGT rfl (kBin rfl rfl rfl (kPickT rfl (kMovC rfl (kDone (kCondP rfl (fun g0 => kSeq (kReg (kMem [(24576, ⟨1, 0, .box [.d _, .arr 20484096 1]⟩), (16384, ⟨1, 0, .box [.d _, .d _, .d _, .d _, .d _, .d _, .d _]⟩), (20484096, ⟨1, 0, .arr false _⟩)] [(5, .c (.ptr 24576 1 0)), (3, .c (.ptr 16384 1 0))] [] ⟨rfl, rfl, rfl, trivial⟩ ⟨rfl, rfl, trivial⟩ rfl (kFadP rfl rfl (kLoadP rfl rfl rfl (kLoadP rfl rfl rfl (kLitG rfl rfl rfl rfl (kAppRec rfl rfl rfl rfl rfl rfl rfl (by first | omega | (simp only [List.length_append, List.length_cons, List.length_nil]; omega)) (kFadP rfl rfl (kMem [(24576, ⟨1, 0, .box [.d _, .arr 20484096 1]⟩), (20484096, ⟨2, 0, .arr false _⟩)] [(55, .c (.ptr 24576 1 1)), (54, .c (.arr 20484096 2))] [] ⟨rfl, rfl, trivial⟩ ⟨rfl, rfl, trivial⟩ rfl (kStoreP rfl rfl rfl rfl (kDone (kReg (kMovC rfl (kDone (kSeq (kReg (kMovC rfl (kBin rfl rfl rfl (kDone (kCondIN rfl (fun g1 => (by omega)) (fun g1 => kSkip (kBk (kReg (kMovC rfl (kAdd rfl rfl (by omega) (kMovC rfl (kDone ?_)))))))))))))))))))))))))))) (fun g0 => (by omega)))))))))))))))))
          refine kInv ⟨⟨i + 1, by omega⟩, by simp only; omega, ?_⟩
          simp only [hs2]
          exact .normA
        · have hs2 : addAt (z.rrs.take (i + 1)) r = (L ++ [(⟨x.name, x.ty, r.ttl, x.addr, x.to, x.text, x.nums⟩ : Rr)], false) := by
            rw [hst]
            have c1 : decide (cmpR r x ≤ 0) = false := by exact decide_eq_false (by omega)
            unfold addSt
            simp only [ht, c1]
            rw [if_neg (by omega), if_neg (fun h => by omega)]
            rfl
          refine kSeq (kSeq (kReg (kMovC rfl (kFadP rfl rfl (kLoadP rfl rfl rfl (kLenR rfl rfl (kBin rfl rfl rfl (kDone (kCondP rfl (fun g0 => kSkip (kSeq (kBlock (kSeq (kReg (kFadP rfl rfl (kLoadP rfl rfl rfl (kMovC rfl (kIadRW rfl rfl rfl (by first | omega | (simp only [List.length_append, List.length_cons, List.length_nil]; omega)) hrow (kLoadD rfl rfl (kAlloc rfl rfl (kMem [(36864, ⟨2, 0, .box [.nil 1, .d _, .d _, .d _, .nil 1, .nil 1, .nil 1]⟩)] [(8, .c (.ptr 36864 2 0)), (24, .g [.d _, .d _, .d _, .d _, .d _, .d _, .d _])] [] ⟨rfl, trivial⟩ ⟨rfl, rfl, trivial⟩ rfl (kStoreP rfl rfl rfl rfl (kDone (kSeq (kSeq (kReg (kFadP rfl rfl (kLoadP rfl rfl rfl (kFadP rfl rfl (kLoadP rfl rfl rfl (kCallD (ok_spec_l2cmp _ _ (by first | assumption | omega | solve_by_elim [List.getElem_mem] | (simp only [szOut] at *; omega) | exact rfl | exact Nat.le_of_ble_eq_true rfl) (by first | assumption | omega | solve_by_elim [List.getElem_mem] | (simp only [szOut] at *; omega) | exact rfl | exact Nat.le_of_ble_eq_true rfl)) ⟨⟨⟨rfl, trivial⟩, Nat.le_of_ble_eq_true rfl⟩, ⟨⟨rfl, trivial⟩, Nat.le_of_ble_eq_true rfl⟩, trivial⟩ rfl rfl rfl rfl rfl (kBin rfl rfl rfl (kMovC rfl (kGP rfl (fun g1 => kMem [(36864, ⟨2, 0, .box [.d _, .d _, .d _, .d _, .d _, .d _, .d _]⟩), (16384, ⟨1, 0, .box [.d _, .d _, .d _, .d _, .d _, .d _, .d _]⟩)] [(8, .c (.ptr 36864 2 0)), (3, .c (.ptr 16384 1 0)), (31, .c (.d _))] [] ⟨rfl, rfl, trivial⟩ ⟨rfl, rfl, rfl, trivial⟩ rfl (kGT rfl (kFadP rfl rfl (kGT rfl (kLoadP rfl rfl rfl (kGT rfl (kFadP rfl rfl (kGT rfl (kLoadP rfl rfl rfl (kGT rfl (kBin rfl rfl rfl (kPickT rfl (kMovC rfl (kDone (kCondP rfl (fun g2 => kReg (kFadP rfl rfl (kLoadP rfl rfl rfl (kFadP rfl rfl (kMem [(36864, ⟨2, 0, .box [.d _, .d _, .d _, .d _, .d _, .d _, .d _]⟩)] [(40, .c (.ptr 36864 2 2)), (39, .c (.d _))] [] ⟨rfl, trivial⟩ ⟨rfl, rfl, trivial⟩ rfl (kStoreP rfl rfl rfl rfl (kDone (kSeq (kReg (kLoadP rfl rfl rfl (kLoadP rfl rfl rfl ?_))))))))))) (fun g2 => (by omega))))))))))))))))) (fun g1 => (by omega))))))))))))))))))))))))))) (fun g0 => (by omega)))))))))))
          refine kCallD ok3 ⟨⟨⟨rfl, rfl, rfl, rfl, rfl, rfl, rfl, trivial⟩, Nat.le_of_ble_eq_true rfl⟩, ⟨⟨rfl, rfl, rfl, rfl, rfl, rfl, rfl, trivial⟩, Nat.le_of_ble_eq_true rfl⟩, trivial⟩ rfl rfl rfl rfl rfl ?_
          refine kMovC rfl (kDone (kSeq (kSeq (kReg (kMovC rfl (kUn rfl rfl (kMovC rfl (kGT rfl (kMovC rfl (kGT rfl (kBin rfl rfl rfl (kPickT rfl (kMovC rfl (kDone (kCondP rfl (fun g0 => (by omega)) (fun g0 => kSkip (kSeq (kReg (kMovC rfl (kBin rfl rfl rfl (kDone (kCondIN rfl (fun g1 => kReg (kMem [(24576, ⟨1, 0, .box [.d _, .arr 20484096 1]⟩), (36864, ⟨2, 0, .box [.d _, .d _, .d _, .d _, .d _, .d _, .d _]⟩), (20484096, ⟨1, 0, .arr false _⟩)] [(5, .c (.ptr 24576 1 0)), (8, .c (.ptr 36864 2 0))] [] ⟨rfl, rfl, rfl, trivial⟩ ⟨rfl, rfl, trivial⟩ rfl (kFadP rfl rfl (kLoadP rfl rfl rfl (kLoadP rfl rfl rfl (kLitG rfl rfl rfl rfl (kAppRec rfl rfl rfl rfl rfl rfl rfl (by first | omega | (simp only [List.length_append, List.length_cons, List.length_nil]; omega)) (kFadP rfl rfl (kMem [(24576, ⟨1, 0, .box [.d _, .arr 20484096 1]⟩), (20484096, ⟨2, 0, .arr false _⟩)] [(63, .c (.ptr 24576 1 1)), (62, .c (.arr 20484096 2))] [] ⟨rfl, rfl, trivial⟩ ⟨rfl, rfl, trivial⟩ rfl (kStoreP rfl rfl rfl rfl (kDone (kBk (kReg (kMovC rfl (kAdd rfl rfl (by omega) (kMovC rfl (kDone ?_))))))))))))))))) (fun g1 => (by omega))))))))))))))))))))))))
          refine kInv ⟨⟨i + 1, by omega⟩, by simp only; omega, ?_⟩
          simp only [hs2]
          exact .normA
      · rcases Int.lt_trichotomy (cmpR r x) 0 with hc | hc | hc
        · have hs2 : addAt (z.rrs.take (i + 1)) r = (L ++ [(⟨x.name, x.ty, r.ttl, x.addr, x.to, x.text, x.nums⟩ : Rr)], true) := by
            rw [hst]
            have c1 : decide (cmpR r x ≤ 0) = true := by exact decide_eq_true (by omega)
            unfold addSt
            simp only [ht, c1]
            rw [if_neg (by omega), if_neg (fun h => by cases h.1)]
            rfl
          refine kSeq (kSeq (kReg (kMovC rfl (kFadP rfl rfl (kLoadP rfl rfl rfl (kLenR rfl rfl (kBin rfl rfl rfl (kDone (kCondP rfl (fun g0 => kSkip (kSeq (kBlock (kSeq (kReg (kFadP rfl rfl (kLoadP rfl rfl rfl (kMovC rfl (kIadRW rfl rfl rfl (by first | omega | (simp only [List.length_append, List.length_cons, List.length_nil]; omega)) hrow (kLoadD rfl rfl (kAlloc rfl rfl (kMem [(36864, ⟨2, 0, .box [.nil 1, .d _, .d _, .d _, .nil 1, .nil 1, .nil 1]⟩)] [(8, .c (.ptr 36864 2 0)), (24, .g [.d _, .d _, .d _, .d _, .d _, .d _, .d _])] [] ⟨rfl, trivial⟩ ⟨rfl, rfl, trivial⟩ rfl (kStoreP rfl rfl rfl rfl (kDone (kSeq (kSeq (kReg (kFadP rfl rfl (kLoadP rfl rfl rfl (kFadP rfl rfl (kLoadP rfl rfl rfl (kCallD (ok_spec_l2cmp _ _ (by first | assumption | omega | solve_by_elim [List.getElem_mem] | (simp only [szOut] at *; omega) | exact rfl | exact Nat.le_of_ble_eq_true rfl) (by first | assumption | omega | solve_by_elim [List.getElem_mem] | (simp only [szOut] at *; omega) | exact rfl | exact Nat.le_of_ble_eq_true rfl)) ⟨⟨⟨rfl, trivial⟩, Nat.le_of_ble_eq_true rfl⟩, ⟨⟨rfl, trivial⟩, Nat.le_of_ble_eq_true rfl⟩, trivial⟩ rfl rfl rfl rfl rfl (kBin rfl rfl rfl (kMovC rfl (kGP rfl (fun g1 => kMem [(36864, ⟨2, 0, .box [.d _, .d _, .d _, .d _, .d _, .d _, .d _]⟩), (16384, ⟨1, 0, .box [.d _, .d _, .d _, .d _, .d _, .d _, .d _]⟩)] [(8, .c (.ptr 36864 2 0)), (3, .c (.ptr 16384 1 0)), (31, .c (.d _))] [] ⟨rfl, rfl, trivial⟩ ⟨rfl, rfl, rfl, trivial⟩ rfl (kGT rfl (kFadP rfl rfl (kGT rfl (kLoadP rfl rfl rfl (kGT rfl (kFadP rfl rfl (kGT rfl (kLoadP rfl rfl rfl (kGT rfl (kBin rfl rfl rfl (kPickT rfl (kMovC rfl (kDone (kCondP rfl (fun g2 => kReg (kFadP rfl rfl (kLoadP rfl rfl rfl (kFadP rfl rfl (kMem [(36864, ⟨2, 0, .box [.d _, .d _, .d _, .d _, .d _, .d _, .d _]⟩)] [(40, .c (.ptr 36864 2 2)), (39, .c (.d _))] [] ⟨rfl, trivial⟩ ⟨rfl, rfl, trivial⟩ rfl (kStoreP rfl rfl rfl rfl (kDone (kSeq (kReg (kLoadP rfl rfl rfl (kLoadP rfl rfl rfl ?_))))))))))) (fun g2 => (by omega))))))))))))))))) (fun g1 => (by omega))))))))))))))))))))))))))) (fun g0 => (by omega)))))))))))
          refine kCallD ok3 ⟨⟨⟨rfl, rfl, rfl, rfl, rfl, rfl, rfl, trivial⟩, Nat.le_of_ble_eq_true rfl⟩, ⟨⟨rfl, rfl, rfl, rfl, rfl, rfl, rfl, trivial⟩, Nat.le_of_ble_eq_true rfl⟩, trivial⟩ rfl rfl rfl rfl rfl ?_
          refine kMovC rfl (kDone (kSeq (kSeq (kReg (kMovC rfl (kUn rfl rfl (kMovC rfl (kGF rfl (kGF rfl (kPickF rfl (kMovC rfl (kDone (kCondF rfl (kSkip (kSeq (kReg (kMovC rfl (kBin rfl rfl rfl (kDone (kCondIN rfl (fun g0 => kReg (kMem [(24576, ⟨1, 0, .box [.d _, .arr 20484096 1]⟩), (36864, ⟨2, 0, .box [.d _, .d _, .d _, .d _, .d _, .d _, .d _]⟩), (20484096, ⟨1, 0, .arr false _⟩)] [(5, .c (.ptr 24576 1 0)), (8, .c (.ptr 36864 2 0))] [] ⟨rfl, rfl, rfl, trivial⟩ ⟨rfl, rfl, trivial⟩ rfl (kFadP rfl rfl (kLoadP rfl rfl rfl (kLoadP rfl rfl rfl (kLitG rfl rfl rfl rfl (kAppRec rfl rfl rfl rfl rfl rfl rfl (by first | omega | (simp only [List.length_append, List.length_cons, List.length_nil]; omega)) (kFadP rfl rfl (kMem [(24576, ⟨1, 0, .box [.d _, .arr 20484096 1]⟩), (20484096, ⟨2, 0, .arr false _⟩)] [(63, .c (.ptr 24576 1 1)), (62, .c (.arr 20484096 2))] [] ⟨rfl, rfl, trivial⟩ ⟨rfl, rfl, trivial⟩ rfl (kStoreP rfl rfl rfl rfl (kDone (kBk (kReg (kMovC rfl (kAdd rfl rfl (by omega) (kMovC rfl (kDone ?_))))))))))))))))) (fun g0 => (by omega))))))))))))))))))))))
          refine kInv ⟨⟨i + 1, by omega⟩, by simp only; omega, ?_⟩
          simp only [hs2]
          exact .normA
        · have hs2 : addAt (z.rrs.take (i + 1)) r = (L, true) := by
            rw [hst]
            have c1 : decide (cmpR r x ≤ 0) = true := by exact decide_eq_true (by omega)
            unfold addSt
            simp only [ht, c1]
            rw [if_pos hc, if_neg (fun h => by cases h.1)]
            rfl
          refine kSeq (kSeq (kReg (kMovC rfl (kFadP rfl rfl (kLoadP rfl rfl rfl (kLenR rfl rfl (kBin rfl rfl rfl (kDone (kCondP rfl (fun g0 => kSkip (kSeq (kBlock (kSeq (kReg (kFadP rfl rfl (kLoadP rfl rfl rfl (kMovC rfl (kIadRW rfl rfl rfl (by first | omega | (simp only [List.length_append, List.length_cons, List.length_nil]; omega)) hrow (kLoadD rfl rfl (kAlloc rfl rfl (kMem [(36864, ⟨2, 0, .box [.nil 1, .d _, .d _, .d _, .nil 1, .nil 1, .nil 1]⟩)] [(8, .c (.ptr 36864 2 0)), (24, .g [.d _, .d _, .d _, .d _, .d _, .d _, .d _])] [] ⟨rfl, trivial⟩ ⟨rfl, rfl, trivial⟩ rfl (kStoreP rfl rfl rfl rfl (kDone (kSeq (kSeq (kReg (kFadP rfl rfl (kLoadP rfl rfl rfl (kFadP rfl rfl (kLoadP rfl rfl rfl (kCallD (ok_spec_l2cmp _ _ (by first | assumption | omega | solve_by_elim [List.getElem_mem] | (simp only [szOut] at *; omega) | exact rfl | exact Nat.le_of_ble_eq_true rfl) (by first | assumption | omega | solve_by_elim [List.getElem_mem] | (simp only [szOut] at *; omega) | exact rfl | exact Nat.le_of_ble_eq_true rfl)) ⟨⟨⟨rfl, trivial⟩, Nat.le_of_ble_eq_true rfl⟩, ⟨⟨rfl, trivial⟩, Nat.le_of_ble_eq_true rfl⟩, trivial⟩ rfl rfl rfl rfl rfl (kBin rfl rfl rfl (kMovC rfl (kGP rfl (fun g1 => kMem [(36864, ⟨2, 0, .box [.d _, .d _, .d _, .d _, .d _, .d _, .d _]⟩), (16384, ⟨1, 0, .box [.d _, .d _, .d _, .d _, .d _, .d _, .d _]⟩)] [(8, .c (.ptr 36864 2 0)), (3, .c (.ptr 16384 1 0)), (31, .c (.d _))] [] ⟨rfl, rfl, trivial⟩ ⟨rfl, rfl, rfl, trivial⟩ rfl (kGT rfl (kFadP rfl rfl (kGT rfl (kLoadP rfl rfl rfl (kGT rfl (kFadP rfl rfl (kGT rfl (kLoadP rfl rfl rfl (kGT rfl (kBin rfl rfl rfl (kPickT rfl (kMovC rfl (kDone (kCondP rfl (fun g2 => kReg (kFadP rfl rfl (kLoadP rfl rfl rfl (kFadP rfl rfl (kMem [(36864, ⟨2, 0, .box [.d _, .d _, .d _, .d _, .d _, .d _, .d _]⟩)] [(40, .c (.ptr 36864 2 2)), (39, .c (.d _))] [] ⟨rfl, trivial⟩ ⟨rfl, rfl, trivial⟩ rfl (kStoreP rfl rfl rfl rfl (kDone (kSeq (kReg (kLoadP rfl rfl rfl (kLoadP rfl rfl rfl ?_))))))))))) (fun g2 => (by omega))))))))))))))))) (fun g1 => (by omega))))))))))))))))))))))))))) (fun g0 => (by omega)))))))))))
          refine kCallD ok3 ⟨⟨⟨rfl, rfl, rfl, rfl, rfl, rfl, rfl, trivial⟩, Nat.le_of_ble_eq_true rfl⟩, ⟨⟨rfl, rfl, rfl, rfl, rfl, rfl, rfl, trivial⟩, Nat.le_of_ble_eq_true rfl⟩, trivial⟩ rfl rfl rfl rfl rfl ?_
          refine kMovC rfl (kDone (kSeq (kSeq (kReg (kMovC rfl (kUn rfl rfl (kMovC rfl (kGF rfl (kGF rfl (kPickF rfl (kMovC rfl (kDone (kCondF rfl (kSkip (kSeq (kReg (kMovC rfl (kBin rfl rfl rfl (kDone (kCondIN rfl (fun g0 => (by omega)) (fun g0 => kSkip (kBk (kReg (kMovC rfl (kAdd rfl rfl (by omega) (kMovC rfl (kDone ?_)))))))))))))))))))))))))))
          refine kInv ⟨⟨i + 1, by omega⟩, by simp only; omega, ?_⟩
          simp only [hs2]
          exact .normA
        · have hs2 : addAt (z.rrs.take (i + 1)) r = (L ++ [(⟨x.name, x.ty, r.ttl, x.addr, x.to, x.text, x.nums⟩ : Rr)], true) := by
            rw [hst]
            have c1 : decide (cmpR r x ≤ 0) = false := by exact decide_eq_false (by omega)
            unfold addSt
            simp only [ht, c1]
            rw [if_neg (by omega), if_neg (fun h => by omega)]
            rfl
          refine kSeq (kSeq (kReg (kMovC rfl (kFadP rfl rfl (kLoadP rfl rfl rfl (kLenR rfl rfl (kBin rfl rfl rfl (kDone (kCondP rfl (fun g0 => kSkip (kSeq (kBlock (kSeq (kReg (kFadP rfl rfl (kLoadP rfl rfl rfl (kMovC rfl (kIadRW rfl rfl rfl (by first | omega | (simp only [List.length_append, List.length_cons, List.length_nil]; omega)) hrow (kLoadD rfl rfl (kAlloc rfl rfl (kMem [(36864, ⟨2, 0, .box [.nil 1, .d _, .d _, .d _, .nil 1, .nil 1, .nil 1]⟩)] [(8, .c (.ptr 36864 2 0)), (24, .g [.d _, .d _, .d _, .d _, .d _, .d _, .d _])] [] ⟨rfl, trivial⟩ ⟨rfl, rfl, trivial⟩ rfl (kStoreP rfl rfl rfl rfl (kDone (kSeq (kSeq (kReg (kFadP rfl rfl (kLoadP rfl rfl rfl (kFadP rfl rfl (kLoadP rfl rfl rfl (kCallD (ok_spec_l2cmp _ _ (by first | assumption | omega | solve_by_elim [List.getElem_mem] | (simp only [szOut] at *; omega) | exact rfl | exact Nat.le_of_ble_eq_true rfl) (by first | assumption | omega | solve_by_elim [List.getElem_mem] | (simp only [szOut] at *; omega) | exact rfl | exact Nat.le_of_ble_eq_true rfl)) ⟨⟨⟨rfl, trivial⟩, Nat.le_of_ble_eq_true rfl⟩, ⟨⟨rfl, trivial⟩, Nat.le_of_ble_eq_true rfl⟩, trivial⟩ rfl rfl rfl rfl rfl (kBin rfl rfl rfl (kMovC rfl (kGP rfl (fun g1 => kMem [(36864, ⟨2, 0, .box [.d _, .d _, .d _, .d _, .d _, .d _, .d _]⟩), (16384, ⟨1, 0, .box [.d _, .d _, .d _, .d _, .d _, .d _, .d _]⟩)] [(8, .c (.ptr 36864 2 0)), (3, .c (.ptr 16384 1 0)), (31, .c (.d _))] [] ⟨rfl, rfl, trivial⟩ ⟨rfl, rfl, rfl, trivial⟩ rfl (kGT rfl (kFadP rfl rfl (kGT rfl (kLoadP rfl rfl rfl (kGT rfl (kFadP rfl rfl (kGT rfl (kLoadP rfl rfl rfl (kGT rfl (kBin rfl rfl rfl (kPickT rfl (kMovC rfl (kDone (kCondP rfl (fun g2 => kReg (kFadP rfl rfl (kLoadP rfl rfl rfl (kFadP rfl rfl (kMem [(36864, ⟨2, 0, .box [.d _, .d _, .d _, .d _, .d _, .d _, .d _]⟩)] [(40, .c (.ptr 36864 2 2)), (39, .c (.d _))] [] ⟨rfl, trivial⟩ ⟨rfl, rfl, trivial⟩ rfl (kStoreP rfl rfl rfl rfl (kDone (kSeq (kReg (kLoadP rfl rfl rfl (kLoadP rfl rfl rfl ?_))))))))))) (fun g2 => (by omega))))))))))))))))) (fun g1 => (by omega))))))))))))))))))))))))))) (fun g0 => (by omega)))))))))))
          refine kCallD ok3 ⟨⟨⟨rfl, rfl, rfl, rfl, rfl, rfl, rfl, trivial⟩, Nat.le_of_ble_eq_true rfl⟩, ⟨⟨rfl, rfl, rfl, rfl, rfl, rfl, rfl, trivial⟩, Nat.le_of_ble_eq_true rfl⟩, trivial⟩ rfl rfl rfl rfl rfl ?_
          refine kMovC rfl (kDone (kSeq (kSeq (kReg (kMovC rfl (kUn rfl rfl (kMovC rfl (kGF rfl (kGF rfl (kPickF rfl (kMovC rfl (kDone (kCondF rfl (kSkip (kSeq (kReg (kMovC rfl (kBin rfl rfl rfl (kDone (kCondIN rfl (fun g0 => kReg (kMem [(24576, ⟨1, 0, .box [.d _, .arr 20484096 1]⟩), (36864, ⟨2, 0, .box [.d _, .d _, .d _, .d _, .d _, .d _, .d _]⟩), (20484096, ⟨1, 0, .arr false _⟩)] [(5, .c (.ptr 24576 1 0)), (8, .c (.ptr 36864 2 0))] [] ⟨rfl, rfl, rfl, trivial⟩ ⟨rfl, rfl, trivial⟩ rfl (kFadP rfl rfl (kLoadP rfl rfl rfl (kLoadP rfl rfl rfl (kLitG rfl rfl rfl rfl (kAppRec rfl rfl rfl rfl rfl rfl rfl (by first | omega | (simp only [List.length_append, List.length_cons, List.length_nil]; omega)) (kFadP rfl rfl (kMem [(24576, ⟨1, 0, .box [.d _, .arr 20484096 1]⟩), (20484096, ⟨2, 0, .arr false _⟩)] [(63, .c (.ptr 24576 1 1)), (62, .c (.arr 20484096 2))] [] ⟨rfl, rfl, trivial⟩ ⟨rfl, rfl, trivial⟩ rfl (kStoreP rfl rfl rfl rfl (kDone (kBk (kReg (kMovC rfl (kAdd rfl rfl (by omega) (kMovC rfl (kDone ?_))))))))))))))))) (fun g0 => (by omega))))))))))))))))))))))
          refine kInv ⟨⟨i + 1, by omega⟩, by simp only; omega, ?_⟩
          simp only [hs2]
          exact .normA
    · have ht : ttlR r x = x := by unfold ttlR; rw [if_neg e1]
      have e4 : ¬ (cmpN x.name r.name = 0 ∧ x.ty = r.ty) := fun h => e1 ⟨(cmpN_iff _ _).1 h.1, h.2⟩
      cases p
      · rcases Int.lt_trichotomy (cmpR r x) 0 with hc | hc | hc
        · have hs2 : addAt (z.rrs.take (i + 1)) r = (L ++ [r] ++ [x], true) := by
            rw [hst]
            have c1 : decide (cmpR r x ≤ 0) = true := by exact decide_eq_true (by omega)
            unfold addSt
            simp only [ht, c1]
            rw [if_neg (by omega), if_pos ⟨trivial, by omega⟩]
            rfl
          refine kSeq (kSeq (kReg (kMovC rfl (kFadP rfl rfl (kLoadP rfl rfl rfl (kLenR rfl rfl (kBin rfl rfl rfl (kDone (kCondP rfl (fun g0 => kSkip (kSeq (kBlock (kSeq (kReg (kFadP rfl rfl (kLoadP rfl rfl rfl (kMovC rfl (kIadRW rfl rfl rfl (by first | omega | (simp only [List.length_append, List.length_cons, List.length_nil]; omega)) hrow (kLoadD rfl rfl (kAlloc rfl rfl (kMem [(36864, ⟨2, 0, .box [.nil 1, .d _, .d _, .d _, .nil 1, .nil 1, .nil 1]⟩)] [(8, .c (.ptr 36864 2 0)), (24, .g [.d _, .d _, .d _, .d _, .d _, .d _, .d _])] [] ⟨rfl, trivial⟩ ⟨rfl, rfl, trivial⟩ rfl (kStoreP rfl rfl rfl rfl (kDone (kSeq (kSeq (kReg (kFadP rfl rfl (kLoadP rfl rfl rfl (kFadP rfl rfl (kLoadP rfl rfl rfl (kCallD (ok_spec_l2cmp _ _ (by first | assumption | omega | solve_by_elim [List.getElem_mem] | (simp only [szOut] at *; omega) | exact rfl | exact Nat.le_of_ble_eq_true rfl) (by first | assumption | omega | solve_by_elim [List.getElem_mem] | (simp only [szOut] at *; omega) | exact rfl | exact Nat.le_of_ble_eq_true rfl)) ⟨⟨⟨rfl, trivial⟩, Nat.le_of_ble_eq_true rfl⟩, ⟨⟨rfl, trivial⟩, Nat.le_of_ble_eq_true rfl⟩, trivial⟩ rfl rfl rfl rfl rfl (kBin rfl rfl rfl (kMovC rfl (kGP rfl (fun g1 => kMem [(36864, ⟨2, 0, .box [.d _, .d _, .d _, .d _, .d _, .d _, .d _]⟩), (16384, ⟨1, 0, .box [.d _, .d _, .d _, .d _, .d _, .d _, .d _]⟩)] [(8, .c (.ptr 36864 2 0)), (3, .c (.ptr 16384 1 0)), (31, .c (.d _))] [] ⟨rfl, rfl, trivial⟩ ⟨rfl, rfl, rfl, trivial⟩ rfl (kGT rfl (kFadP rfl rfl (kGT rfl (kLoadP rfl rfl rfl (kGT rfl (kFadP rfl rfl (kGT rfl (kLoadP rfl rfl rfl (kGT rfl (kBin rfl rfl rfl (kPickT rfl (kMovC rfl (kDone (kCondP rfl (fun g2 => (by omega)) (fun g2 => kSkip (kSeq (kReg (kLoadP rfl rfl rfl (kLoadP rfl rfl rfl (kCallD (ok_spec_l3cmp _ _ (by first | assumption | omega | solve_by_elim [List.getElem_mem] | (simp only [szOut] at *; omega) | exact rfl | exact Nat.le_of_ble_eq_true rfl) (by first | assumption | omega | solve_by_elim [List.getElem_mem] | (simp only [szOut] at *; omega) | exact rfl | exact Nat.le_of_ble_eq_true rfl) (by first | assumption | omega | solve_by_elim [List.getElem_mem] | (simp only [szOut] at *; omega) | exact rfl | exact Nat.le_of_ble_eq_true rfl) (by first | assumption | omega | solve_by_elim [List.getElem_mem] | (simp only [szOut] at *; omega) | exact rfl | exact Nat.le_of_ble_eq_true rfl)) ⟨⟨⟨rfl, rfl, rfl, rfl, rfl, rfl, rfl, trivial⟩, Nat.le_of_ble_eq_true rfl⟩, ⟨⟨rfl, rfl, rfl, rfl, rfl, rfl, rfl, trivial⟩, Nat.le_of_ble_eq_true rfl⟩, trivial⟩ rfl rfl rfl rfl rfl (kMovC rfl (kDone (kSeq (kSeq (kReg (kMovC rfl (kUn rfl rfl (kMovC rfl (kGT rfl (kMovC rfl (kGT rfl (kBin rfl rfl rfl (kPickT rfl (kMovC rfl (kDone (kCondP rfl (fun g3 => kSeq (kReg (kMem [(24576, ⟨1, 0, .box [.d _, .arr 20484096 1]⟩), (16384, ⟨1, 0, .box [.d _, .d _, .d _, .d _, .d _, .d _, .d _]⟩), (20484096, ⟨1, 0, .arr false _⟩)] [(5, .c (.ptr 24576 1 0)), (3, .c (.ptr 16384 1 0))] [] ⟨rfl, rfl, rfl, trivial⟩ ⟨rfl, rfl, trivial⟩ rfl (kFadP rfl rfl (kLoadP rfl rfl rfl (kLoadP rfl rfl rfl (kLitG rfl rfl rfl rfl (kAppRec rfl rfl rfl rfl rfl rfl rfl (by first | omega | (simp only [List.length_append, List.length_cons, List.length_nil]; omega)) (kFadP rfl rfl (kMem [(24576, ⟨1, 0, .box [.d _, .arr 20484096 1]⟩), (20484096, ⟨2, 0, .arr false _⟩)] [(55, .c (.ptr 24576 1 1)), (54, .c (.arr 20484096 2))] [] ⟨rfl, rfl, trivial⟩ ⟨rfl, rfl, trivial⟩ rfl (kStoreP rfl rfl rfl rfl (kDone (kReg (kMovC rfl (kDone (kSeq (kReg (kMovC rfl (kBin rfl rfl rfl (kDone (kCondIN rfl (fun g4 => kReg (kFadP rfl rfl (kLoadP rfl rfl rfl (kLoadP rfl rfl rfl (kLitG rfl rfl rfl rfl (kMem [(20484096, ⟨2, 0, .arr false _⟩), (253952, ⟨2, 0, .arr false _⟩), (24576, ⟨1, 0, .box [.d _, .arr 20484096 2]⟩)] [(59, .c (.arr 20484096 2)), (61, .c (.arr 253952 2)), (5, .c (.ptr 24576 1 0))] [] ⟨rfl, rfl, rfl, trivial⟩ ⟨rfl, rfl, rfl, trivial⟩ rfl (kAppRec rfl rfl rfl rfl rfl rfl rfl (by first | omega | (simp only [List.length_append, List.length_cons, List.length_nil]; omega)) (kFadP rfl rfl (kStoreP rfl rfl rfl rfl (kDone (kBk (kReg (kMovC rfl (kAdd rfl rfl (by omega) (kMovC rfl (kDone ?_)))))))))))))))) (fun g4 => (by omega))))))))))))))))))))))) (fun g3 => (by omega))))))))))))))))))))))))))))))))))))))) (fun g1 => kMem [(36864, ⟨2, 0, .box [.d _, .d _, .d _, .d _, .d _, .d _, .d _]⟩), (16384, ⟨1, 0, .box [.d _, .d _, .d _, .d _, .d _, .d _, .d _]⟩)] [(8, .c (.ptr 36864 2 0)), (3, .c (.ptr 16384 1 0)), (31, .c (.d _))] [] ⟨rfl, rfl, trivial⟩ ⟨rfl, rfl, rfl, trivial⟩ rfl (kGF rfl (kGF rfl (kGF rfl (kGF rfl (kGF rfl (kPickF rfl (kMovC rfl (kDone (kCondF rfl (kSkip (kSeq (kReg (kLoadP rfl rfl rfl (kLoadP rfl rfl rfl (kCallD (ok_spec_l3cmp _ _ (by first | assumption | omega | solve_by_elim [List.getElem_mem] | (simp only [szOut] at *; omega) | exact rfl | exact Nat.le_of_ble_eq_true rfl) (by first | assumption | omega | solve_by_elim [List.getElem_mem] | (simp only [szOut] at *; omega) | exact rfl | exact Nat.le_of_ble_eq_true rfl) (by first | assumption | omega | solve_by_elim [List.getElem_mem] | (simp only [szOut] at *; omega) | exact rfl | exact Nat.le_of_ble_eq_true rfl) (by first | assumption | omega | solve_by_elim [List.getElem_mem] | (simp only [szOut] at *; omega) | exact rfl | exact Nat.le_of_ble_eq_true rfl)) ⟨⟨⟨rfl, rfl, rfl, rfl, rfl, rfl, rfl, trivial⟩, Nat.le_of_ble_eq_true rfl⟩, ⟨⟨rfl, rfl, rfl, rfl, rfl, rfl, rfl, trivial⟩, Nat.le_of_ble_eq_true rfl⟩, trivial⟩ rfl rfl rfl rfl rfl (kMovC rfl (kDone (kSeq (kSeq (kReg (kMovC rfl (kUn rfl rfl (kMovC rfl (kGT rfl (kMovC rfl (kGT rfl (kBin rfl rfl rfl (kPickT rfl (kMovC rfl (kDone (kCondP rfl (fun g5 => kSeq (kReg (kMem [(24576, ⟨1, 0, .box [.d _, .arr 20484096 1]⟩), (16384, ⟨1, 0, .box [.d _, .d _, .d _, .d _, .d _, .d _, .d _]⟩), (20484096, ⟨1, 0, .arr false _⟩)] [(5, .c (.ptr 24576 1 0)), (3, .c (.ptr 16384 1 0))] [] ⟨rfl, rfl, rfl, trivial⟩ ⟨rfl, rfl, trivial⟩ rfl (kFadP rfl rfl (kLoadP rfl rfl rfl (kLoadP rfl rfl rfl (kLitG rfl rfl rfl rfl (kAppRec rfl rfl rfl rfl rfl rfl rfl (by first | omega | (simp only [List.length_append, List.length_cons, List.length_nil]; omega)) (kFadP rfl rfl (kMem [(24576, ⟨1, 0, .box [.d _, .arr 20484096 1]⟩), (20484096, ⟨2, 0, .arr false _⟩)] [(55, .c (.ptr 24576 1 1)), (54, .c (.arr 20484096 2))] [] ⟨rfl, rfl, trivial⟩ ⟨rfl, rfl, trivial⟩ rfl (kStoreP rfl rfl rfl rfl (kDone (kReg (kMovC rfl (kDone (kSeq (kReg (kMovC rfl (kBin rfl rfl rfl (kDone (kCondIN rfl (fun g6 => kReg (kFadP rfl rfl (kLoadP rfl rfl rfl (kLoadP rfl rfl rfl (kLitG rfl rfl rfl rfl (kMem [(20484096, ⟨2, 0, .arr false _⟩), (253952, ⟨2, 0, .arr false _⟩), (24576, ⟨1, 0, .box [.d _, .arr 20484096 2]⟩)] [(59, .c (.arr 20484096 2)), (61, .c (.arr 253952 2)), (5, .c (.ptr 24576 1 0))] [] ⟨rfl, rfl, rfl, trivial⟩ ⟨rfl, rfl, rfl, trivial⟩ rfl (kAppRec rfl rfl rfl rfl rfl rfl rfl (by first | omega | (simp only [List.length_append, List.length_cons, List.length_nil]; omega)) (kFadP rfl rfl (kStoreP rfl rfl rfl rfl (kDone (kBk (kReg (kMovC rfl (kAdd rfl rfl (by omega) (kMovC rfl (kDone ?_)))))))))))))))) (fun g6 => (by omega))))))))))))))))))))))) (fun g5 => (by omega))))))))))))))))))))))))))))))))))))))))))))))))))))))))))) (fun g0 => (by omega)))))))))))
          all_goals
            refine kInv ⟨⟨i + 1, by omega⟩, by simp only; omega, ?_⟩
            simp only [hs2]
            exact .normA
        · have hs2 : addAt (z.rrs.take (i + 1)) r = (L ++ [r], true) := by
            rw [hst]
            have c1 : decide (cmpR r x ≤ 0) = true := by exact decide_eq_true (by omega)
            unfold addSt
            simp only [ht, c1]
            rw [if_pos hc, if_pos ⟨trivial, by omega⟩]
            rfl
          refine kSeq (kSeq (kReg (kMovC rfl (kFadP rfl rfl (kLoadP rfl rfl rfl (kLenR rfl rfl (kBin rfl rfl rfl (kDone (kCondP rfl (fun g0 => kSkip (kSeq (kBlock (kSeq (kReg (kFadP rfl rfl (kLoadP rfl rfl rfl (kMovC rfl (kIadRW rfl rfl rfl (by first | omega | (simp only [List.length_append, List.length_cons, List.length_nil]; omega)) hrow (kLoadD rfl rfl (kAlloc rfl rfl (kMem [(36864, ⟨2, 0, .box [.nil 1, .d _, .d _, .d _, .nil 1, .nil 1, .nil 1]⟩)] [(8, .c (.ptr 36864 2 0)), (24, .g [.d _, .d _, .d _, .d _, .d _, .d _, .d _])] [] ⟨rfl, trivial⟩ ⟨rfl, rfl, trivial⟩ rfl (kStoreP rfl rfl rfl rfl (kDone (kSeq (kSeq (kReg (kFadP rfl rfl (kLoadP rfl rfl rfl (kFadP rfl rfl (kLoadP rfl rfl rfl (kCallD (ok_spec_l2cmp _ _ (by first | assumption | omega | solve_by_elim [List.getElem_mem] | (simp only [szOut] at *; omega) | exact rfl | exact Nat.le_of_ble_eq_true rfl) (by first | assumption | omega | solve_by_elim [List.getElem_mem] | (simp only [szOut] at *; omega) | exact rfl | exact Nat.le_of_ble_eq_true rfl)) ⟨⟨⟨rfl, trivial⟩, Nat.le_of_ble_eq_true rfl⟩, ⟨⟨rfl, trivial⟩, Nat.le_of_ble_eq_true rfl⟩, trivial⟩ rfl rfl rfl rfl rfl (kBin rfl rfl rfl (kMovC rfl (kGP rfl (fun g1 => kMem [(36864, ⟨2, 0, .box [.d _, .d _, .d _, .d _, .d _, .d _, .d _]⟩), (16384, ⟨1, 0, .box [.d _, .d _, .d _, .d _, .d _, .d _, .d _]⟩)] [(8, .c (.ptr 36864 2 0)), (3, .c (.ptr 16384 1 0)), (31, .c (.d _))] [] ⟨rfl, rfl, trivial⟩ ⟨rfl, rfl, rfl, trivial⟩ rfl (kGT rfl (kFadP rfl rfl (kGT rfl (kLoadP rfl rfl rfl (kGT rfl (kFadP rfl rfl (kGT rfl (kLoadP rfl rfl rfl (kGT rfl (kBin rfl rfl rfl (kPickT rfl (kMovC rfl (kDone (kCondP rfl (fun g2 => (by omega)) (fun g2 => kSkip (kSeq (kReg (kLoadP rfl rfl rfl (kLoadP rfl rfl rfl (kCallD (ok_spec_l3cmp _ _ (by first | assumption | omega | solve_by_elim [List.getElem_mem] | (simp only [szOut] at *; omega) | exact rfl | exact Nat.le_of_ble_eq_true rfl) (by first | assumption | omega | solve_by_elim [List.getElem_mem] | (simp only [szOut] at *; omega) | exact rfl | exact Nat.le_of_ble_eq_true rfl) (by first | assumption | omega | solve_by_elim [List.getElem_mem] | (simp only [szOut] at *; omega) | exact rfl | exact Nat.le_of_ble_eq_true rfl) (by first | assumption | omega | solve_by_elim [List.getElem_mem] | (simp only [szOut] at *; omega) | exact rfl | exact Nat.le_of_ble_eq_true rfl)) ⟨⟨⟨rfl, rfl, rfl, rfl, rfl, rfl, rfl, trivial⟩, Nat.le_of_ble_eq_true rfl⟩, ⟨⟨rfl, rfl, rfl, rfl, rfl, rfl, rfl, trivial⟩, Nat.le_of_ble_eq_true rfl⟩, trivial⟩ rfl rfl rfl rfl rfl (kMovC rfl (kDone (kSeq (kSeq (kReg (kMovC rfl (kUn rfl rfl (kMovC rfl (kGT rfl (kMovC rfl (kGT rfl (kBin rfl rfl rfl (kPickT rfl (kMovC rfl (kDone (kCondP rfl (fun g3 => kSeq (kReg (kMem [(24576, ⟨1, 0, .box [.d _, .arr 20484096 1]⟩), (16384, ⟨1, 0, .box [.d _, .d _, .d _, .d _, .d _, .d _, .d _]⟩), (20484096, ⟨1, 0, .arr false _⟩)] [(5, .c (.ptr 24576 1 0)), (3, .c (.ptr 16384 1 0))] [] ⟨rfl, rfl, rfl, trivial⟩ ⟨rfl, rfl, trivial⟩ rfl (kFadP rfl rfl (kLoadP rfl rfl rfl (kLoadP rfl rfl rfl (kLitG rfl rfl rfl rfl (kAppRec rfl rfl rfl rfl rfl rfl rfl (by first | omega | (simp only [List.length_append, List.length_cons, List.length_nil]; omega)) (kFadP rfl rfl (kMem [(24576, ⟨1, 0, .box [.d _, .arr 20484096 1]⟩), (20484096, ⟨2, 0, .arr false _⟩)] [(55, .c (.ptr 24576 1 1)), (54, .c (.arr 20484096 2))] [] ⟨rfl, rfl, trivial⟩ ⟨rfl, rfl, trivial⟩ rfl (kStoreP rfl rfl rfl rfl (kDone (kReg (kMovC rfl (kDone (kSeq (kReg (kMovC rfl (kBin rfl rfl rfl (kDone (kCondIN rfl (fun g4 => (by omega)) (fun g4 => kSkip (kBk (kReg (kMovC rfl (kAdd rfl rfl (by omega) (kMovC rfl (kDone ?_)))))))))))))))))))))))))))) (fun g3 => (by omega))))))))))))))))))))))))))))))))))))))) (fun g1 => kMem [(36864, ⟨2, 0, .box [.d _, .d _, .d _, .d _, .d _, .d _, .d _]⟩), (16384, ⟨1, 0, .box [.d _, .d _, .d _, .d _, .d _, .d _, .d _]⟩)] [(8, .c (.ptr 36864 2 0)), (3, .c (.ptr 16384 1 0)), (31, .c (.d _))] [] ⟨rfl, rfl, trivial⟩ ⟨rfl, rfl, rfl, trivial⟩ rfl (kGF rfl (kGF rfl (kGF rfl (kGF rfl (kGF rfl (kPickF rfl (kMovC rfl (kDone (kCondF rfl (kSkip (kSeq (kReg (kLoadP rfl rfl rfl (kLoadP rfl rfl rfl (kCallD (ok_spec_l3cmp _ _ (by first | assumption | omega | solve_by_elim [List.getElem_mem] | (simp only [szOut] at *; omega) | exact rfl | exact Nat.le_of_ble_eq_true rfl) (by first | assumption | omega | solve_by_elim [List.getElem_mem] | (simp only [szOut] at *; omega) | exact rfl | exact Nat.le_of_ble_eq_true rfl) (by first | assumption | omega | solve_by_elim [List.getElem_mem] | (simp only [szOut] at *; omega) | exact rfl | exact Nat.le_of_ble_eq_true rfl) (by first | assumption | omega | solve_by_elim [List.getElem_mem] | (simp only [szOut] at *; omega) | exact rfl | exact Nat.le_of_ble_eq_true rfl)) ⟨⟨⟨rfl, rfl, rfl, rfl, rfl, rfl, rfl, trivial⟩, Nat.le_of_ble_eq_true rfl⟩, ⟨⟨rfl, rfl, rfl, rfl, rfl, rfl, rfl, trivial⟩, Nat.le_of_ble_eq_true rfl⟩, trivial⟩ rfl rfl rfl rfl rfl (kMovC rfl (kDone (kSeq (kSeq (kReg (kMovC rfl (kUn rfl rfl (kMovC rfl (kGT rfl (kMovC rfl (kGT rfl (kBin rfl rfl rfl (kPickT rfl (kMovC rfl (kDone (kCondP rfl (fun g5 => kSeq (kReg (kMem [(24576, ⟨1, 0, .box [.d _, .arr 20484096 1]⟩), (16384, ⟨1, 0, .box [.d _, .d _, .d _, .d _, .d _, .d _, .d _]⟩), (20484096, ⟨1, 0, .arr false _⟩)] [(5, .c (.ptr 24576 1 0)), (3, .c (.ptr 16384 1 0))] [] ⟨rfl, rfl, rfl, trivial⟩ ⟨rfl, rfl, trivial⟩ rfl (kFadP rfl rfl (kLoadP rfl rfl rfl (kLoadP rfl rfl rfl (kLitG rfl rfl rfl rfl (kAppRec rfl rfl rfl rfl rfl rfl rfl (by first | omega | (simp only [List.length_append, List.length_cons, List.length_nil]; omega)) (kFadP rfl rfl (kMem [(24576, ⟨1, 0, .box [.d _, .arr 20484096 1]⟩), (20484096, ⟨2, 0, .arr false _⟩)] [(55, .c (.ptr 24576 1 1)), (54, .c (.arr 20484096 2))] [] ⟨rfl, rfl, trivial⟩ ⟨rfl, rfl, trivial⟩ rfl (kStoreP rfl rfl rfl rfl (kDone (kReg (kMovC rfl (kDone (kSeq (kReg (kMovC rfl (kBin rfl rfl rfl (kDone (kCondIN rfl (fun g6 => (by omega)) (fun g6 => kSkip (kBk (kReg (kMovC rfl (kAdd rfl rfl (by omega) (kMovC rfl (kDone ?_)))))))))))))))))))))))))))) (fun g5 => (by omega))))))))))))))))))))))))))))))))))))))))))))))))))))))))))) (fun g0 => (by omega)))))))))))
          all_goals
            refine kInv ⟨⟨i + 1, by omega⟩, by simp only; omega, ?_⟩
            simp only [hs2]
            exact .normA
        · have hs2 : addAt (z.rrs.take (i + 1)) r = (L ++ [x], false) := by
            rw [hst]
            have c1 : decide (cmpR r x ≤ 0) = false := by exact decide_eq_false (by omega)
            unfold addSt
            simp only [ht, c1]
            rw [if_neg (by omega), if_neg (fun h => by omega)]
            rfl
          refine kSeq (kSeq (kReg (kMovC rfl (kFadP rfl rfl (kLoadP rfl rfl rfl (kLenR rfl rfl (kBin rfl rfl rfl (kDone (kCondP rfl (fun g0 => kSkip (kSeq (kBlock (kSeq (kReg (kFadP rfl rfl (kLoadP rfl rfl rfl (kMovC rfl (kIadRW rfl rfl rfl (by first | omega | (simp only [List.length_append, List.length_cons, List.length_nil]; omega)) hrow (kLoadD rfl rfl (kAlloc rfl rfl (kMem [(36864, ⟨2, 0, .box [.nil 1, .d _, .d _, .d _, .nil 1, .nil 1, .nil 1]⟩)] [(8, .c (.ptr 36864 2 0)), (24, .g [.d _, .d _, .d _, .d _, .d _, .d _, .d _])] [] ⟨rfl, trivial⟩ ⟨rfl, rfl, trivial⟩ rfl (kStoreP rfl rfl rfl rfl (kDone (kSeq (kSeq (kReg (kFadP rfl rfl (kLoadP rfl rfl rfl (kFadP rfl rfl (kLoadP rfl rfl rfl (kCallD (ok_spec_l2cmp _ _ (by first | assumption | omega | solve_by_elim [List.getElem_mem] | (simp only [szOut] at *; omega) | exact rfl | exact Nat.le_of_ble_eq_true rfl) (by first | assumption | omega | solve_by_elim [List.getElem_mem] | (simp only [szOut] at *; omega) | exact rfl | exact Nat.le_of_ble_eq_true rfl)) ⟨⟨⟨rfl, trivial⟩, Nat.le_of_ble_eq_true rfl⟩, ⟨⟨rfl, trivial⟩, Nat.le_of_ble_eq_true rfl⟩, trivial⟩ rfl rfl rfl rfl rfl (kBin rfl rfl rfl (kMovC rfl (kGP rfl (fun g1 => kMem [(36864, ⟨2, 0, .box [.d _, .d _, .d _, .d _, .d _, .d _, .d _]⟩), (16384, ⟨1, 0, .box [.d _, .d _, .d _, .d _, .d _, .d _, .d _]⟩)] [(8, .c (.ptr 36864 2 0)), (3, .c (.ptr 16384 1 0)), (31, .c (.d _))] [] ⟨rfl, rfl, trivial⟩ ⟨rfl, rfl, rfl, trivial⟩ rfl (kGT rfl (kFadP rfl rfl (kGT rfl (kLoadP rfl rfl rfl (kGT rfl (kFadP rfl rfl (kGT rfl (kLoadP rfl rfl rfl (kGT rfl (kBin rfl rfl rfl (kPickT rfl (kMovC rfl (kDone (kCondP rfl (fun g2 => (by omega)) (fun g2 => kSkip (kSeq (kReg (kLoadP rfl rfl rfl (kLoadP rfl rfl rfl (kCallD (ok_spec_l3cmp _ _ (by first | assumption | omega | solve_by_elim [List.getElem_mem] | (simp only [szOut] at *; omega) | exact rfl | exact Nat.le_of_ble_eq_true rfl) (by first | assumption | omega | solve_by_elim [List.getElem_mem] | (simp only [szOut] at *; omega) | exact rfl | exact Nat.le_of_ble_eq_true rfl) (by first | assumption | omega | solve_by_elim [List.getElem_mem] | (simp only [szOut] at *; omega) | exact rfl | exact Nat.le_of_ble_eq_true rfl) (by first | assumption | omega | solve_by_elim [List.getElem_mem] | (simp only [szOut] at *; omega) | exact rfl | exact Nat.le_of_ble_eq_true rfl)) ⟨⟨⟨rfl, rfl, rfl, rfl, rfl, rfl, rfl, trivial⟩, Nat.le_of_ble_eq_true rfl⟩, ⟨⟨rfl, rfl, rfl, rfl, rfl, rfl, rfl, trivial⟩, Nat.le_of_ble_eq_true rfl⟩, trivial⟩ rfl rfl rfl rfl rfl (kMovC rfl (kDone (kSeq (kSeq (kReg (kMovC rfl (kUn rfl rfl (kMovC rfl (kGT rfl (kMovC rfl (kGT rfl (kBin rfl rfl rfl (kPickT rfl (kMovC rfl (kDone (kCondP rfl (fun g3 => (by omega)) (fun g3 => kSkip (kSeq (kReg (kMovC rfl (kBin rfl rfl rfl (kDone (kCondIN rfl (fun g4 => kReg (kMem [(24576, ⟨1, 0, .box [.d _, .arr 20484096 1]⟩), (36864, ⟨2, 0, .box [.d _, .d _, .d _, .d _, .d _, .d _, .d _]⟩), (20484096, ⟨1, 0, .arr false _⟩)] [(5, .c (.ptr 24576 1 0)), (8, .c (.ptr 36864 2 0))] [] ⟨rfl, rfl, rfl, trivial⟩ ⟨rfl, rfl, trivial⟩ rfl (kFadP rfl rfl (kLoadP rfl rfl rfl (kLoadP rfl rfl rfl (kLitG rfl rfl rfl rfl (kAppRec rfl rfl rfl rfl rfl rfl rfl (by first | omega | (simp only [List.length_append, List.length_cons, List.length_nil]; omega)) (kFadP rfl rfl (kMem [(24576, ⟨1, 0, .box [.d _, .arr 20484096 1]⟩), (20484096, ⟨2, 0, .arr false _⟩)] [(63, .c (.ptr 24576 1 1)), (62, .c (.arr 20484096 2))] [] ⟨rfl, rfl, trivial⟩ ⟨rfl, rfl, trivial⟩ rfl (kStoreP rfl rfl rfl rfl (kDone (kBk (kReg (kMovC rfl (kAdd rfl rfl (by omega) (kMovC rfl (kDone ?_))))))))))))))))) (fun g4 => (by omega)))))))))))))))))))))))))))))))))))))))))))))) (fun g1 => kMem [(36864, ⟨2, 0, .box [.d _, .d _, .d _, .d _, .d _, .d _, .d _]⟩), (16384, ⟨1, 0, .box [.d _, .d _, .d _, .d _, .d _, .d _, .d _]⟩)] [(8, .c (.ptr 36864 2 0)), (3, .c (.ptr 16384 1 0)), (31, .c (.d _))] [] ⟨rfl, rfl, trivial⟩ ⟨rfl, rfl, rfl, trivial⟩ rfl (kGF rfl (kGF rfl (kGF rfl (kGF rfl (kGF rfl (kPickF rfl (kMovC rfl (kDone (kCondF rfl (kSkip (kSeq (kReg (kLoadP rfl rfl rfl (kLoadP rfl rfl rfl (kCallD (ok_spec_l3cmp _ _ (by first | assumption | omega | solve_by_elim [List.getElem_mem] | (simp only [szOut] at *; omega) | exact rfl | exact Nat.le_of_ble_eq_true rfl) (by first | assumption | omega | solve_by_elim [List.getElem_mem] | (simp only [szOut] at *; omega) | exact rfl | exact Nat.le_of_ble_eq_true rfl) (by first | assumption | omega | solve_by_elim [List.getElem_mem] | (simp only [szOut] at *; omega) | exact rfl | exact Nat.le_of_ble_eq_true rfl) (by first | assumption | omega | solve_by_elim [List.getElem_mem] | (simp only [szOut] at *; omega) | exact rfl | exact Nat.le_of_ble_eq_true rfl)) ⟨⟨⟨rfl, rfl, rfl, rfl, rfl, rfl, rfl, trivial⟩, Nat.le_of_ble_eq_true rfl⟩, ⟨⟨rfl, rfl, rfl, rfl, rfl, rfl, rfl, trivial⟩, Nat.le_of_ble_eq_true rfl⟩, trivial⟩ rfl rfl rfl rfl rfl (kMovC rfl (kDone (kSeq (kSeq (kReg (kMovC rfl (kUn rfl rfl (kMovC rfl (kGT rfl (kMovC rfl (kGT rfl (kBin rfl rfl rfl (kPickT rfl (kMovC rfl (kDone (kCondP rfl (fun g5 => (by omega)) (fun g5 => kSkip (kSeq (kReg (kMovC rfl (kBin rfl rfl rfl (kDone (kCondIN rfl (fun g6 => kReg (kMem [(24576, ⟨1, 0, .box [.d _, .arr 20484096 1]⟩), (36864, ⟨2, 0, .box [.d _, .d _, .d _, .d _, .d _, .d _, .d _]⟩), (20484096, ⟨1, 0, .arr false _⟩)] [(5, .c (.ptr 24576 1 0)), (8, .c (.ptr 36864 2 0))] [] ⟨rfl, rfl, rfl, trivial⟩ ⟨rfl, rfl, trivial⟩ rfl (kFadP rfl rfl (kLoadP rfl rfl rfl (kLoadP rfl rfl rfl (kLitG rfl rfl rfl rfl (kAppRec rfl rfl rfl rfl rfl rfl rfl (by first | omega | (simp only [List.length_append, List.length_cons, List.length_nil]; omega)) (kFadP rfl rfl (kMem [(24576, ⟨1, 0, .box [.d _, .arr 20484096 1]⟩), (20484096, ⟨2, 0, .arr false _⟩)] [(63, .c (.ptr 24576 1 1)), (62, .c (.arr 20484096 2))] [] ⟨rfl, rfl, trivial⟩ ⟨rfl, rfl, trivial⟩ rfl (kStoreP rfl rfl rfl rfl (kDone (kBk (kReg (kMovC rfl (kAdd rfl rfl (by omega) (kMovC rfl (kDone ?_))))))))))))))))) (fun g6 => (by omega)))))))))))))))))))))))))))))))))))))))))))))))))))))))))))))))))) (fun g0 => (by omega)))))))))))
          all_goals
            refine kInv ⟨⟨i + 1, by omega⟩, by simp only; omega, ?_⟩
            simp only [hs2]
            exact .normA
      · rcases Int.lt_trichotomy (cmpR r x) 0 with hc | hc | hc
        · have hs2 : addAt (z.rrs.take (i + 1)) r = (L ++ [x], true) := by
            rw [hst]
            have c1 : decide (cmpR r x ≤ 0) = true := by exact decide_eq_true (by omega)
            unfold addSt
            simp only [ht, c1]
            rw [if_neg (by omega), if_neg (fun h => by cases h.1)]
            rfl
          refine kSeq (kSeq (kReg (kMovC rfl (kFadP rfl rfl (kLoadP rfl rfl rfl (kLenR rfl rfl (kBin rfl rfl rfl (kDone (kCondP rfl (fun g0 => kSkip (kSeq (kBlock (kSeq (kReg (kFadP rfl rfl (kLoadP rfl rfl rfl (kMovC rfl (kIadRW rfl rfl rfl (by first | omega | (simp only [List.length_append, List.length_cons, List.length_nil]; omega)) hrow (kLoadD rfl rfl (kAlloc rfl rfl (kMem [(36864, ⟨2, 0, .box [.nil 1, .d _, .d _, .d _, .nil 1, .nil 1, .nil 1]⟩)] [(8, .c (.ptr 36864 2 0)), (24, .g [.d _, .d _, .d _, .d _, .d _, .d _, .d _])] [] ⟨rfl, trivial⟩ ⟨rfl, rfl, trivial⟩ rfl (kStoreP rfl rfl rfl rfl (kDone (kSeq (kSeq (kReg (kFadP rfl rfl (kLoadP rfl rfl rfl (kFadP rfl rfl (kLoadP rfl rfl rfl (kCallD (ok_spec_l2cmp _ _ (by first | assumption | omega | solve_by_elim [List.getElem_mem] | (simp only [szOut] at *; omega) | exact rfl | exact Nat.le_of_ble_eq_true rfl) (by first | assumption | omega | solve_by_elim [List.getElem_mem] | (simp only [szOut] at *; omega) | exact rfl | exact Nat.le_of_ble_eq_true rfl)) ⟨⟨⟨rfl, trivial⟩, Nat.le_of_ble_eq_true rfl⟩, ⟨⟨rfl, trivial⟩, Nat.le_of_ble_eq_true rfl⟩, trivial⟩ rfl rfl rfl rfl rfl (kBin rfl rfl rfl (kMovC rfl (kGP rfl (fun g1 => kMem [(36864, ⟨2, 0, .box [.d _, .d _, .d _, .d _, .d _, .d _, .d _]⟩), (16384, ⟨1, 0, .box [.d _, .d _, .d _, .d _, .d _, .d _, .d _]⟩)] [(8, .c (.ptr 36864 2 0)), (3, .c (.ptr 16384 1 0)), (31, .c (.d _))] [] ⟨rfl, rfl, trivial⟩ ⟨rfl, rfl, rfl, trivial⟩ rfl (kGT rfl (kFadP rfl rfl (kGT rfl (kLoadP rfl rfl rfl (kGT rfl (kFadP rfl rfl (kGT rfl (kLoadP rfl rfl rfl (kGT rfl (kBin rfl rfl rfl (kPickT rfl (kMovC rfl (kDone (kCondP rfl (fun g2 => (by omega)) (fun g2 => kSkip (kSeq (kReg (kLoadP rfl rfl rfl (kLoadP rfl rfl rfl (kCallD (ok_spec_l3cmp _ _ (by first | assumption | omega | solve_by_elim [List.getElem_mem] | (simp only [szOut] at *; omega) | exact rfl | exact Nat.le_of_ble_eq_true rfl) (by first | assumption | omega | solve_by_elim [List.getElem_mem] | (simp only [szOut] at *; omega) | exact rfl | exact Nat.le_of_ble_eq_true rfl) (by first | assumption | omega | solve_by_elim [List.getElem_mem] | (simp only [szOut] at *; omega) | exact rfl | exact Nat.le_of_ble_eq_true rfl) (by first | assumption | omega | solve_by_elim [List.getElem_mem] | (simp only [szOut] at *; omega) | exact rfl | exact Nat.le_of_ble_eq_true rfl)) ⟨⟨⟨rfl, rfl, rfl, rfl, rfl, rfl, rfl, trivial⟩, Nat.le_of_ble_eq_true rfl⟩, ⟨⟨rfl, rfl, rfl, rfl, rfl, rfl, rfl, trivial⟩, Nat.le_of_ble_eq_true rfl⟩, trivial⟩ rfl rfl rfl rfl rfl (kMovC rfl (kDone (kSeq (kSeq (kReg (kMovC rfl (kUn rfl rfl (kMovC rfl (kGF rfl (kGF rfl (kPickF rfl (kMovC rfl (kDone (kCondF rfl (kSkip (kSeq (kReg (kMovC rfl (kBin rfl rfl rfl (kDone (kCondIN rfl (fun g3 => kReg (kMem [(24576, ⟨1, 0, .box [.d _, .arr 20484096 1]⟩), (36864, ⟨2, 0, .box [.d _, .d _, .d _, .d _, .d _, .d _, .d _]⟩), (20484096, ⟨1, 0, .arr false _⟩)] [(5, .c (.ptr 24576 1 0)), (8, .c (.ptr 36864 2 0))] [] ⟨rfl, rfl, rfl, trivial⟩ ⟨rfl, rfl, trivial⟩ rfl (kFadP rfl rfl (kLoadP rfl rfl rfl (kLoadP rfl rfl rfl (kLitG rfl rfl rfl rfl (kAppRec rfl rfl rfl rfl rfl rfl rfl (by first | omega | (simp only [List.length_append, List.length_cons, List.length_nil]; omega)) (kFadP rfl rfl (kMem [(24576, ⟨1, 0, .box [.d _, .arr 20484096 1]⟩), (20484096, ⟨2, 0, .arr false _⟩)] [(63, .c (.ptr 24576 1 1)), (62, .c (.arr 20484096 2))] [] ⟨rfl, rfl, trivial⟩ ⟨rfl, rfl, trivial⟩ rfl (kStoreP rfl rfl rfl rfl (kDone (kBk (kReg (kMovC rfl (kAdd rfl rfl (by omega) (kMovC rfl (kDone ?_))))))))))))))))) (fun g3 => (by omega)))))))))))))))))))))))))))))))))))))))))))) (fun g1 => kMem [(36864, ⟨2, 0, .box [.d _, .d _, .d _, .d _, .d _, .d _, .d _]⟩), (16384, ⟨1, 0, .box [.d _, .d _, .d _, .d _, .d _, .d _, .d _]⟩)] [(8, .c (.ptr 36864 2 0)), (3, .c (.ptr 16384 1 0)), (31, .c (.d _))] [] ⟨rfl, rfl, trivial⟩ ⟨rfl, rfl, rfl, trivial⟩ rfl (kGF rfl (kGF rfl (kGF rfl (kGF rfl (kGF rfl (kPickF rfl (kMovC rfl (kDone (kCondF rfl (kSkip (kSeq (kReg (kLoadP rfl rfl rfl (kLoadP rfl rfl rfl (kCallD (ok_spec_l3cmp _ _ (by first | assumption | omega | solve_by_elim [List.getElem_mem] | (simp only [szOut] at *; omega) | exact rfl | exact Nat.le_of_ble_eq_true rfl) (by first | assumption | omega | solve_by_elim [List.getElem_mem] | (simp only [szOut] at *; omega) | exact rfl | exact Nat.le_of_ble_eq_true rfl) (by first | assumption | omega | solve_by_elim [List.getElem_mem] | (simp only [szOut] at *; omega) | exact rfl | exact Nat.le_of_ble_eq_true rfl) (by first | assumption | omega | solve_by_elim [List.getElem_mem] | (simp only [szOut] at *; omega) | exact rfl | exact Nat.le_of_ble_eq_true rfl)) ⟨⟨⟨rfl, rfl, rfl, rfl, rfl, rfl, rfl, trivial⟩, Nat.le_of_ble_eq_true rfl⟩, ⟨⟨rfl, rfl, rfl, rfl, rfl, rfl, rfl, trivial⟩, Nat.le_of_ble_eq_true rfl⟩, trivial⟩ rfl rfl rfl rfl rfl (kMovC rfl (kDone (kSeq (kSeq (kReg (kMovC rfl (kUn rfl rfl (kMovC rfl (kGF rfl (kGF rfl (kPickF rfl (kMovC rfl (kDone (kCondF rfl (kSkip (kSeq (kReg (kMovC rfl (kBin rfl rfl rfl (kDone (kCondIN rfl (fun g4 => kReg (kMem [(24576, ⟨1, 0, .box [.d _, .arr 20484096 1]⟩), (36864, ⟨2, 0, .box [.d _, .d _, .d _, .d _, .d _, .d _, .d _]⟩), (20484096, ⟨1, 0, .arr false _⟩)] [(5, .c (.ptr 24576 1 0)), (8, .c (.ptr 36864 2 0))] [] ⟨rfl, rfl, rfl, trivial⟩ ⟨rfl, rfl, trivial⟩ rfl (kFadP rfl rfl (kLoadP rfl rfl rfl (kLoadP rfl rfl rfl (kLitG rfl rfl rfl rfl (kAppRec rfl rfl rfl rfl rfl rfl rfl (by first | omega | (simp only [List.length_append, List.length_cons, List.length_nil]; omega)) (kFadP rfl rfl (kMem [(24576, ⟨1, 0, .box [.d _, .arr 20484096 1]⟩), (20484096, ⟨2, 0, .arr false _⟩)] [(63, .c (.ptr 24576 1 1)), (62, .c (.arr 20484096 2))] [] ⟨rfl, rfl, trivial⟩ ⟨rfl, rfl, trivial⟩ rfl (kStoreP rfl rfl rfl rfl (kDone (kBk (kReg (kMovC rfl (kAdd rfl rfl (by omega) (kMovC rfl (kDone ?_))))))))))))))))) (fun g4 => (by omega)))))))))))))))))))))))))))))))))))))))))))))))))))))))))))))))) (fun g0 => (by omega)))))))))))
          all_goals
            refine kInv ⟨⟨i + 1, by omega⟩, by simp only; omega, ?_⟩
            simp only [hs2]
            exact .normA
        · have hs2 : addAt (z.rrs.take (i + 1)) r = (L, true) := by
            rw [hst]
            have c1 : decide (cmpR r x ≤ 0) = true := by exact decide_eq_true (by omega)
            unfold addSt
            simp only [ht, c1]
            rw [if_pos hc, if_neg (fun h => by cases h.1)]
            rfl
          refine kSeq (kSeq (kReg (kMovC rfl (kFadP rfl rfl (kLoadP rfl rfl rfl (kLenR rfl rfl (kBin rfl rfl rfl (kDone (kCondP rfl (fun g0 => kSkip (kSeq (kBlock (kSeq (kReg (kFadP rfl rfl (kLoadP rfl rfl rfl (kMovC rfl (kIadRW rfl rfl rfl (by first | omega | (simp only [List.length_append, List.length_cons, List.length_nil]; omega)) hrow (kLoadD rfl rfl (kAlloc rfl rfl (kMem [(36864, ⟨2, 0, .box [.nil 1, .d _, .d _, .d _, .nil 1, .nil 1, .nil 1]⟩)] [(8, .c (.ptr 36864 2 0)), (24, .g [.d _, .d _, .d _, .d _, .d _, .d _, .d _])] [] ⟨rfl, trivial⟩ ⟨rfl, rfl, trivial⟩ rfl (kStoreP rfl rfl rfl rfl (kDone (kSeq (kSeq (kReg (kFadP rfl rfl (kLoadP rfl rfl rfl (kFadP rfl rfl (kLoadP rfl rfl rfl (kCallD (ok_spec_l2cmp _ _ (by first | assumption | omega | solve_by_elim [List.getElem_mem] | (simp only [szOut] at *; omega) | exact rfl | exact Nat.le_of_ble_eq_true rfl) (by first | assumption | omega | solve_by_elim [List.getElem_mem] | (simp only [szOut] at *; omega) | exact rfl | exact Nat.le_of_ble_eq_true rfl)) ⟨⟨⟨rfl, trivial⟩, Nat.le_of_ble_eq_true rfl⟩, ⟨⟨rfl, trivial⟩, Nat.le_of_ble_eq_true rfl⟩, trivial⟩ rfl rfl rfl rfl rfl (kBin rfl rfl rfl (kMovC rfl (kGP rfl (fun g1 => kMem [(36864, ⟨2, 0, .box [.d _, .d _, .d _, .d _, .d _, .d _, .d _]⟩), (16384, ⟨1, 0, .box [.d _, .d _, .d _, .d _, .d _, .d _, .d _]⟩)] [(8, .c (.ptr 36864 2 0)), (3, .c (.ptr 16384 1 0)), (31, .c (.d _))] [] ⟨rfl, rfl, trivial⟩ ⟨rfl, rfl, rfl, trivial⟩ rfl (kGT rfl (kFadP rfl rfl (kGT rfl (kLoadP rfl rfl rfl (kGT rfl (kFadP rfl rfl (kGT rfl (kLoadP rfl rfl rfl (kGT rfl (kBin rfl rfl rfl (kPickT rfl (kMovC rfl (kDone (kCondP rfl (fun g2 => (by omega)) (fun g2 => kSkip (kSeq (kReg (kLoadP rfl rfl rfl (kLoadP rfl rfl rfl (kCallD (ok_spec_l3cmp _ _ (by first | assumption | omega | solve_by_elim [List.getElem_mem] | (simp only [szOut] at *; omega) | exact rfl | exact Nat.le_of_ble_eq_true rfl) (by first | assumption | omega | solve_by_elim [List.getElem_mem] | (simp only [szOut] at *; omega) | exact rfl | exact Nat.le_of_ble_eq_true rfl) (by first | assumption | omega | solve_by_elim [List.getElem_mem] | (simp only [szOut] at *; omega) | exact rfl | exact Nat.le_of_ble_eq_true rfl) (by first | assumption | omega | solve_by_elim [List.getElem_mem] | (simp only [szOut] at *; omega) | exact rfl | exact Nat.le_of_ble_eq_true rfl)) ⟨⟨⟨rfl, rfl, rfl, rfl, rfl, rfl, rfl, trivial⟩, Nat.le_of_ble_eq_true rfl⟩, ⟨⟨rfl, rfl, rfl, rfl, rfl, rfl, rfl, trivial⟩, Nat.le_of_ble_eq_true rfl⟩, trivial⟩ rfl rfl rfl rfl rfl (kMovC rfl (kDone (kSeq (kSeq (kReg (kMovC rfl (kUn rfl rfl (kMovC rfl (kGF rfl (kGF rfl (kPickF rfl (kMovC rfl (kDone (kCondF rfl (kSkip (kSeq (kReg (kMovC rfl (kBin rfl rfl rfl (kDone (kCondIN rfl (fun g3 => (by omega)) (fun g3 => kSkip (kBk (kReg (kMovC rfl (kAdd rfl rfl (by omega) (kMovC rfl (kDone ?_))))))))))))))))))))))))))))))))))))))))))))))))) (fun g1 => kMem [(36864, ⟨2, 0, .box [.d _, .d _, .d _, .d _, .d _, .d _, .d _]⟩), (16384, ⟨1, 0, .box [.d _, .d _, .d _, .d _, .d _, .d _, .d _]⟩)] [(8, .c (.ptr 36864 2 0)), (3, .c (.ptr 16384 1 0)), (31, .c (.d _))] [] ⟨rfl, rfl, trivial⟩ ⟨rfl, rfl, rfl, trivial⟩ rfl (kGF rfl (kGF rfl (kGF rfl (kGF rfl (kGF rfl (kPickF rfl (kMovC rfl (kDone (kCondF rfl (kSkip (kSeq (kReg (kLoadP rfl rfl rfl (kLoadP rfl rfl rfl (kCallD (ok_spec_l3cmp _ _ (by first | assumption | omega | solve_by_elim [List.getElem_mem] | (simp only [szOut] at *; omega) | exact rfl | exact Nat.le_of_ble_eq_true rfl) (by first | assumption | omega | solve_by_elim [List.getElem_mem] | (simp only [szOut] at *; omega) | exact rfl | exact Nat.le_of_ble_eq_true rfl) (by first | assumption | omega | solve_by_elim [List.getElem_mem] | (simp only [szOut] at *; omega) | exact rfl | exact Nat.le_of_ble_eq_true rfl) (by first | assumption | omega | solve_by_elim [List.getElem_mem] | (simp only [szOut] at *; omega) | exact rfl | exact Nat.le_of_ble_eq_true rfl)) ⟨⟨⟨rfl, rfl, rfl, rfl, rfl, rfl, rfl, trivial⟩, Nat.le_of_ble_eq_true rfl⟩, ⟨⟨rfl, rfl, rfl, rfl, rfl, rfl, rfl, trivial⟩, Nat.le_of_ble_eq_true rfl⟩, trivial⟩ rfl rfl rfl rfl rfl (kMovC rfl (kDone (kSeq (kSeq (kReg (kMovC rfl (kUn rfl rfl (kMovC rfl (kGF rfl (kGF rfl (kPickF rfl (kMovC rfl (kDone (kCondF rfl (kSkip (kSeq (kReg (kMovC rfl (kBin rfl rfl rfl (kDone (kCondIN rfl (fun g4 => (by omega)) (fun g4 => kSkip (kBk (kReg (kMovC rfl (kAdd rfl rfl (by omega) (kMovC rfl (kDone ?_))))))))))))))))))))))))))))))))))))))))))))))))))))))))))))))))))))) (fun g0 => (by omega)))))))))))
          all_goals
            refine kInv ⟨⟨i + 1, by omega⟩, by simp only; omega, ?_⟩
            simp only [hs2]
            exact .normA
        · have hs2 : addAt (z.rrs.take (i + 1)) r = (L ++ [x], true) := by
            rw [hst]
            have c1 : decide (cmpR r x ≤ 0) = false := by exact decide_eq_false (by omega)
            unfold addSt
            simp only [ht, c1]
            rw [if_neg (by omega), if_neg (fun h => by omega)]
            rfl
          refine kSeq (kSeq (kReg (kMovC rfl (kFadP rfl rfl (kLoadP rfl rfl rfl (kLenR rfl rfl (kBin rfl rfl rfl (kDone (kCondP rfl (fun g0 => kSkip (kSeq (kBlock (kSeq (kReg (kFadP rfl rfl (kLoadP rfl rfl rfl (kMovC rfl (kIadRW rfl rfl rfl (by first | omega | (simp only [List.length_append, List.length_cons, List.length_nil]; omega)) hrow (kLoadD rfl rfl (kAlloc rfl rfl (kMem [(36864, ⟨2, 0, .box [.nil 1, .d _, .d _, .d _, .nil 1, .nil 1, .nil 1]⟩)] [(8, .c (.ptr 36864 2 0)), (24, .g [.d _, .d _, .d _, .d _, .d _, .d _, .d _])] [] ⟨rfl, trivial⟩ ⟨rfl, rfl, trivial⟩ rfl (kStoreP rfl rfl rfl rfl (kDone (kSeq (kSeq (kReg (kFadP rfl rfl (kLoadP rfl rfl rfl (kFadP rfl rfl (kLoadP rfl rfl rfl (kCallD (ok_spec_l2cmp _ _ (by first | assumption | omega | solve_by_elim [List.getElem_mem] | (simp only [szOut] at *; omega) | exact rfl | exact Nat.le_of_ble_eq_true rfl) (by first | assumption | omega | solve_by_elim [List.getElem_mem] | (simp only [szOut] at *; omega) | exact rfl | exact Nat.le_of_ble_eq_true rfl)) ⟨⟨⟨rfl, trivial⟩, Nat.le_of_ble_eq_true rfl⟩, ⟨⟨rfl, trivial⟩, Nat.le_of_ble_eq_true rfl⟩, trivial⟩ rfl rfl rfl rfl rfl (kBin rfl rfl rfl (kMovC rfl (kGP rfl (fun g1 => kMem [(36864, ⟨2, 0, .box [.d _, .d _, .d _, .d _, .d _, .d _, .d _]⟩), (16384, ⟨1, 0, .box [.d _, .d _, .d _, .d _, .d _, .d _, .d _]⟩)] [(8, .c (.ptr 36864 2 0)), (3, .c (.ptr 16384 1 0)), (31, .c (.d _))] [] ⟨rfl, rfl, trivial⟩ ⟨rfl, rfl, rfl, trivial⟩ rfl (kGT rfl (kFadP rfl rfl (kGT rfl (kLoadP rfl rfl rfl (kGT rfl (kFadP rfl rfl (kGT rfl (kLoadP rfl rfl rfl (kGT rfl (kBin rfl rfl rfl (kPickT rfl (kMovC rfl (kDone (kCondP rfl (fun g2 => (by omega)) (fun g2 => kSkip (kSeq (kReg (kLoadP rfl rfl rfl (kLoadP rfl rfl rfl (kCallD (ok_spec_l3cmp _ _ (by first | assumption | omega | solve_by_elim [List.getElem_mem] | (simp only [szOut] at *; omega) | exact rfl | exact Nat.le_of_ble_eq_true rfl) (by first | assumption | omega | solve_by_elim [List.getElem_mem] | (simp only [szOut] at *; omega) | exact rfl | exact Nat.le_of_ble_eq_true rfl) (by first | assumption | omega | solve_by_elim [List.getElem_mem] | (simp only [szOut] at *; omega) | exact rfl | exact Nat.le_of_ble_eq_true rfl) (by first | assumption | omega | solve_by_elim [List.getElem_mem] | (simp only [szOut] at *; omega) | exact rfl | exact Nat.le_of_ble_eq_true rfl)) ⟨⟨⟨rfl, rfl, rfl, rfl, rfl, rfl, rfl, trivial⟩, Nat.le_of_ble_eq_true rfl⟩, ⟨⟨rfl, rfl, rfl, rfl, rfl, rfl, rfl, trivial⟩, Nat.le_of_ble_eq_true rfl⟩, trivial⟩ rfl rfl rfl rfl rfl (kMovC rfl (kDone (kSeq (kSeq (kReg (kMovC rfl (kUn rfl rfl (kMovC rfl (kGF rfl (kGF rfl (kPickF rfl (kMovC rfl (kDone (kCondF rfl (kSkip (kSeq (kReg (kMovC rfl (kBin rfl rfl rfl (kDone (kCondIN rfl (fun g3 => kReg (kMem [(24576, ⟨1, 0, .box [.d _, .arr 20484096 1]⟩), (36864, ⟨2, 0, .box [.d _, .d _, .d _, .d _, .d _, .d _, .d _]⟩), (20484096, ⟨1, 0, .arr false _⟩)] [(5, .c (.ptr 24576 1 0)), (8, .c (.ptr 36864 2 0))] [] ⟨rfl, rfl, rfl, trivial⟩ ⟨rfl, rfl, trivial⟩ rfl (kFadP rfl rfl (kLoadP rfl rfl rfl (kLoadP rfl rfl rfl (kLitG rfl rfl rfl rfl (kAppRec rfl rfl rfl rfl rfl rfl rfl (by first | omega | (simp only [List.length_append, List.length_cons, List.length_nil]; omega)) (kFadP rfl rfl (kMem [(24576, ⟨1, 0, .box [.d _, .arr 20484096 1]⟩), (20484096, ⟨2, 0, .arr false _⟩)] [(63, .c (.ptr 24576 1 1)), (62, .c (.arr 20484096 2))] [] ⟨rfl, rfl, trivial⟩ ⟨rfl, rfl, trivial⟩ rfl (kStoreP rfl rfl rfl rfl (kDone (kBk (kReg (kMovC rfl (kAdd rfl rfl (by omega) (kMovC rfl (kDone ?_))))))))))))))))) (fun g3 => (by omega)))))))))))))))))))))))))))))))))))))))))))) (fun g1 => kMem [(36864, ⟨2, 0, .box [.d _, .d _, .d _, .d _, .d _, .d _, .d _]⟩), (16384, ⟨1, 0, .box [.d _, .d _, .d _, .d _, .d _, .d _, .d _]⟩)] [(8, .c (.ptr 36864 2 0)), (3, .c (.ptr 16384 1 0)), (31, .c (.d _))] [] ⟨rfl, rfl, trivial⟩ ⟨rfl, rfl, rfl, trivial⟩ rfl (kGF rfl (kGF rfl (kGF rfl (kGF rfl (kGF rfl (kPickF rfl (kMovC rfl (kDone (kCondF rfl (kSkip (kSeq (kReg (kLoadP rfl rfl rfl (kLoadP rfl rfl rfl (kCallD (ok_spec_l3cmp _ _ (by first | assumption | omega | solve_by_elim [List.getElem_mem] | (simp only [szOut] at *; omega) | exact rfl | exact Nat.le_of_ble_eq_true rfl) (by first | assumption | omega | solve_by_elim [List.getElem_mem] | (simp only [szOut] at *; omega) | exact rfl | exact Nat.le_of_ble_eq_true rfl) (by first | assumption | omega | solve_by_elim [List.getElem_mem] | (simp only [szOut] at *; omega) | exact rfl | exact Nat.le_of_ble_eq_true rfl) (by first | assumption | omega | solve_by_elim [List.getElem_mem] | (simp only [szOut] at *; omega) | exact rfl | exact Nat.le_of_ble_eq_true rfl)) ⟨⟨⟨rfl, rfl, rfl, rfl, rfl, rfl, rfl, trivial⟩, Nat.le_of_ble_eq_true rfl⟩, ⟨⟨rfl, rfl, rfl, rfl, rfl, rfl, rfl, trivial⟩, Nat.le_of_ble_eq_true rfl⟩, trivial⟩ rfl rfl rfl rfl rfl (kMovC rfl (kDone (kSeq (kSeq (kReg (kMovC rfl (kUn rfl rfl (kMovC rfl (kGF rfl (kGF rfl (kPickF rfl (kMovC rfl (kDone (kCondF rfl (kSkip (kSeq (kReg (kMovC rfl (kBin rfl rfl rfl (kDone (kCondIN rfl (fun g4 => kReg (kMem [(24576, ⟨1, 0, .box [.d _, .arr 20484096 1]⟩), (36864, ⟨2, 0, .box [.d _, .d _, .d _, .d _, .d _, .d _, .d _]⟩), (20484096, ⟨1, 0, .arr false _⟩)] [(5, .c (.ptr 24576 1 0)), (8, .c (.ptr 36864 2 0))] [] ⟨rfl, rfl, rfl, trivial⟩ ⟨rfl, rfl, trivial⟩ rfl (kFadP rfl rfl (kLoadP rfl rfl rfl (kLoadP rfl rfl rfl (kLitG rfl rfl rfl rfl (kAppRec rfl rfl rfl rfl rfl rfl rfl (by first | omega | (simp only [List.length_append, List.length_cons, List.length_nil]; omega)) (kFadP rfl rfl (kMem [(24576, ⟨1, 0, .box [.d _, .arr 20484096 1]⟩), (20484096, ⟨2, 0, .arr false _⟩)] [(63, .c (.ptr 24576 1 1)), (62, .c (.arr 20484096 2))] [] ⟨rfl, rfl, trivial⟩ ⟨rfl, rfl, trivial⟩ rfl (kStoreP rfl rfl rfl rfl (kDone (kBk (kReg (kMovC rfl (kAdd rfl rfl (by omega) (kMovC rfl (kDone ?_))))))))))))))))) (fun g4 => (by omega)))))))))))))))))))))))))))))))))))))))))))))))))))))))))))))))) (fun g0 => (by omega)))))))))))
          all_goals
            refine kInv ⟨⟨i + 1, by omega⟩, by simp only; omega, ?_⟩
            simp only [hs2]
            exact .normA
  · rw [show i = z.rrs.length by omega, List.take_length]
    have hle2 := addAt_len z.rrs r z.rrs.length
    rw [List.take_length] at hle2
    cases hp : (addAt z.rrs r).2
    · rw [show addL z.rrs r = (addAt z.rrs r).1 ++ [r] by unfold addL; rw [hp]; rfl]
      refine kSeq (kSeq (kReg (kMovC rfl (kFadP rfl rfl (kLoadP rfl rfl rfl (kLenR rfl rfl (kBin rfl rfl rfl (kDone (kCondP rfl (fun g0 => (by omega)) (fun g0 => kExit (kExC (kExI (kExB (kSeq (kSeq (kReg (kMovC rfl (kUn rfl rfl (kDone (kCondT rfl (kReg (kFadP rfl rfl (kLoadP rfl rfl rfl (kLoadP rfl rfl rfl (kMem [(20484096, ⟨1, 0, .arr false _⟩), (24576, ⟨1, 0, .box [.d _, .arr 20484096 1]⟩)] [(68, .g [.d _, .d _, .d _, .d _, .d _, .d _, .d _]), (67, .c (.arr 20484096 1)), (5, .c (.ptr 24576 1 0))] [] ⟨rfl, rfl, trivial⟩ ⟨rfl, rfl, rfl, trivial⟩ rfl (kLitG rfl rfl rfl rfl (kAppRec rfl rfl rfl rfl rfl rfl rfl (by first | omega | (simp only [List.length_append, List.length_cons, List.length_nil]; omega)) (kFadP rfl rfl (kStoreP rfl rfl rfl rfl (kDone (kSeq (kReg (kLoadP rfl rfl rfl (kMem [(20480, ⟨1, 0, .box [.nil 1, .nil 7]⟩), (20484096, ⟨2, 0, .arr false _⟩)] [(4, .c (.ptr 20480 1 0)), (72, .g [.d _, .arr 20484096 2])] [] ⟨rfl, rfl, trivial⟩ ⟨rfl, rfl, trivial⟩ rfl (kStoreP rfl rfl rfl rfl (kDone (kMem [(20480, ⟨1, 0, .box [.d _, .arr 20484096 2]⟩), (20484096, ⟨2, 0, .arr false _⟩)] [(4, .c (.ptr 20480 1 0))] [] ⟨rfl, rfl, trivial⟩ ⟨rfl, trivial⟩ rfl (kRet (endRetA (ra := [.agg [(.d _), (.d _)]]) rfl rfl)))))))))))))))))))))))))))))))))))))))
    · rw [show addL z.rrs r = (addAt z.rrs r).1 by unfold addL; rw [hp]; rfl]
      refine kSeq (kSeq (kReg (kMovC rfl (kFadP rfl rfl (kLoadP rfl rfl rfl (kLenR rfl rfl (kBin rfl rfl rfl (kDone (kCondP rfl (fun g0 => (by omega)) (fun g0 => kExit (kExC (kExI (kExB (kSeq (kSeq (kReg (kMovC rfl (kUn rfl rfl (kDone (kCondF rfl (kSkip (kSeq (kReg (kLoadP rfl rfl rfl (kMem [(20480, ⟨1, 0, .box [.nil 1, .nil 7]⟩), (20484096, ⟨1, 0, .arr false _⟩)] [(4, .c (.ptr 20480 1 0)), (72, .g [.d _, .arr 20484096 1])] [] ⟨rfl, rfl, trivial⟩ ⟨rfl, rfl, trivial⟩ rfl (kStoreP rfl rfl rfl rfl (kDone (kMem [(20480, ⟨1, 0, .box [.d _, .arr 20484096 1]⟩), (20484096, ⟨1, 0, .arr false _⟩)] [(4, .c (.ptr 20480 1 0))] [] ⟨rfl, rfl, trivial⟩ ⟨rfl, trivial⟩ rfl (kRet (endRetA (ra := [.agg [(.d _), (.d _)]]) rfl rfl))))))))))))))))))))))))))))))

def c_spec_Add : C := (.seq (.reg false (.op 0 [] (some 2) none false (.box 2 (.t 0))
  (.op 1 [] (some 3) none false (.box 3 (.t 1))
  (.op 2 [] (some 4) none false (.alloc 4 [(.n 1), (.n 7)])
  (.op 3 [] (some 5) none false (.mov (.v (.bool false)))
  .done)))))
 (.seq (.seq (.reg false (.op 0 [] (some 7) none false (.load (some 2) (.t 2))
  (.op 1 [] (some 8) none false (.call 8 14 [(.t 7)])
  (.op 2 [] (some 9) none false (.un .not (.t 8))
  (.op 3 [] (some 10) none false (.mov (.t 9))
  (.op 4 [] (some 11) (some (10, false)) false (.load (some 7) (.t 3))
  (.op 5 [] (some 12) (some (10, false)) false (.call 12 76 [(.t 11)])
  (.op 6 [] (some 13) (some (10, false)) false (.un .not (.t 12))
  (.op 7 [] (some 14) none false (.pick (.t 10) (.v (.bool true)) (.t 13))
  .done)))))))))
 (.cond (.t 14)
 (.seq (.reg false (.op 0 [] (some 15) none false (.build [(.n 1), (.n 7)] [])
  (.op 1 [] none none false (.store (some 2) (.t 4) (.t 15))
  (.op 2 [] (some 5) none false (.mov (.v (.bool false)))
  .done))))
 .ret)
 .skip))
 (.seq (.reg false (.op 0 [] (some 16) none false (.load (some 2) (.t 2))
  (.op 1 [] (some 17) none false (.load (some 7) (.t 3))
  (.op 2 [] (some 18) none false (.call 18 210 [(.t 16), (.t 17)])
  (.op 3 [] (some 6) none false (.alloc 6 [(.n 1), (.n 7)])
  (.op 4 [] none none false (.store (some 2) (.t 6) (.t 18))
  .done))))))
 (.seq (.seq (.reg false (.op 0 [] (some 19) none false (.load (some 2) (.t 6))
  (.op 1 [] (some 20) none false (.call 20 14 [(.t 19)])
  (.op 2 [] (some 21) none false (.un .not (.t 20))
  .done))))
 (.cond (.t 21)
 (.seq (.reg false (.op 0 [] (some 22) none false (.load (some 2) (.t 2))
  (.op 1 [] (some 23) none false (.call 23 211 [(.t 22)])
  (.op 2 [] none none false (.store (some 2) (.t 4) (.t 23))
  (.op 3 [] (some 5) none false (.mov (.v (.bool false)))
  .done)))))
 .ret)
 .skip))
 (.seq (.reg false (.op 0 [] (some 24) none false (.load (some 2) (.t 6))
  (.op 1 [] (some 25) none false (.call 25 211 [(.t 24)])
  (.op 2 [] none none false (.store (some 2) (.t 4) (.t 25))
  (.op 3 [] (some 5) none false (.mov (.v (.bool true)))
  .done)))))
 .ret)))))
theorem dg_spec_Add : Tryz.f103.body.bind (digC Tryz.prog Tryz.f103.ntmps []) = some c_spec_Add := by kernel_rfl
theorem rs_spec_Add : resSlots Tryz.prog Tryz.f103 = some [.m 4 (some 2), .s 5] := by kernel_rfl
theorem ok_spec_Add (z : Zone) (r : Rr) (hs : SmallZ z) (hr : SmallR r) :
    FnOK Tryz.prog 103 [.agg (z.cells.map .d), .agg (r.cells.map .d)] (fun ra _ => ra = [.agg [.own true (encBB (addN z r).origin), .own true (encR (addN z r).rrs)], .one (.d (.sc (.bool (addOk z r))))]) := by
  refine FnOK.ofK Tryz.func103 (by kernel_rfl) dg_spec_Add rs_spec_Add rfl rfl ?_
  unfold c_spec_Add
  cases a1 : zoneOk z
  · rw [show addN z r = zeroZ by unfold addN; rw [a1]; rfl, show addOk z r = false by unfold addOk; rw [a1]; rfl]
    refine kSeq (kReg (kBox rfl rfl rfl rfl rfl (kBox rfl rfl rfl rfl rfl (kAlloc rfl rfl (kMovC rfl (kDone (kSeq (kSeq (kReg (kLoadP rfl rfl rfl (kCallD (ok_spec_ZoneOk _ (by first | assumption | omega | solve_by_elim [List.getElem_mem] | (simp only [szOut] at *; omega) | exact rfl | exact Nat.le_of_ble_eq_true rfl)) ⟨⟨⟨rfl, rfl, trivial⟩, Nat.le_of_ble_eq_true rfl⟩, trivial⟩ rfl rfl rfl rfl rfl (kUn rfl rfl (kMovC rfl (kMem [(16384, ⟨1, 0, .box [.d _, .d _, .d _, .d _, .d _, .d _, .d _]⟩)] [(3, .c (.ptr 16384 1 0)), (11, .c (.un)), (12, .c (.un)), (10, .c (.d _)), (13, .c (.un))] [] ⟨rfl, trivial⟩ ⟨rfl, rfl, rfl, rfl, rfl, trivial⟩ rfl (kGN rfl (fun g0 => kGF rfl (kGF rfl (kGF rfl (kPickT rfl (kMovC rfl (kDone (kCondT rfl (kSeq (kReg (kMem [(20480, ⟨1, 0, .box [.nil 1, .nil 7]⟩)] [(4, .c (.ptr 20480 1 0)), (15, .c (.un))] [] ⟨rfl, trivial⟩ ⟨rfl, rfl, trivial⟩ rfl (kBuildG rfl (kMem [(20480, ⟨1, 0, .box [.nil 1, .nil 7]⟩)] [(4, .c (.ptr 20480 1 0)), (15, .g [.nil 1, .nil 7])] [] ⟨rfl, trivial⟩ ⟨rfl, rfl, trivial⟩ rfl (kStoreP rfl rfl rfl rfl (kMovC rfl (kDone (kMem [(20480, ⟨1, 0, .box [.nil 1, .nil 7]⟩)] [(4, .c (.ptr 20480 1 0)), (5, .c (.d _))] [] ⟨rfl, trivial⟩ ⟨rfl, rfl, trivial⟩ rfl (kRet (endRetA (ra := [.agg [(.own true _), (.own true _)], .one (.d _)]) rfl rfl)))))))))))))))))) (fun g0 => (by (simp [*] at g0))))))))))))))))))
  cases a2 : rrOk r
  · rw [show addN z r = zeroZ by unfold addN; rw [a1, a2]; rfl, show addOk z r = false by unfold addOk; rw [a1, a2]; rfl]
    refine kSeq (kReg (kBox rfl rfl rfl rfl rfl (kBox rfl rfl rfl rfl rfl (kAlloc rfl rfl (kMovC rfl (kDone (kSeq (kSeq (kReg (kLoadP rfl rfl rfl (kCallD (ok_spec_ZoneOk _ (by first | assumption | omega | solve_by_elim [List.getElem_mem] | (simp only [szOut] at *; omega) | exact rfl | exact Nat.le_of_ble_eq_true rfl)) ⟨⟨⟨rfl, rfl, trivial⟩, Nat.le_of_ble_eq_true rfl⟩, trivial⟩ rfl rfl rfl rfl rfl (kUn rfl rfl (kMovC rfl (kMem [(16384, ⟨1, 0, .box [.d _, .d _, .d _, .d _, .d _, .d _, .d _]⟩)] [(3, .c (.ptr 16384 1 0)), (11, .c (.un)), (12, .c (.un)), (10, .c (.d _)), (13, .c (.un))] [] ⟨rfl, trivial⟩ ⟨rfl, rfl, rfl, rfl, rfl, trivial⟩ rfl (kGN rfl (fun g0 => (by (simp [*] at g0))) (fun g0 => kGT rfl (kLoadP rfl rfl rfl (kGT rfl (kCallD (ok_spec_RrOk _ (by first | assumption | omega | solve_by_elim [List.getElem_mem] | (simp only [szOut] at *; omega) | exact rfl | exact Nat.le_of_ble_eq_true rfl)) ⟨⟨⟨rfl, rfl, rfl, rfl, rfl, rfl, rfl, trivial⟩, Nat.le_of_ble_eq_true rfl⟩, trivial⟩ rfl rfl rfl rfl rfl (kGT rfl (kUn rfl rfl (kPickF rfl (kMovC rfl (kDone (kCondN rfl (fun g1 => kSeq (kReg (kMem [(20480, ⟨1, 0, .box [.nil 1, .nil 7]⟩)] [(4, .c (.ptr 20480 1 0)), (15, .c (.un))] [] ⟨rfl, trivial⟩ ⟨rfl, rfl, trivial⟩ rfl (kBuildG rfl (kMem [(20480, ⟨1, 0, .box [.nil 1, .nil 7]⟩)] [(4, .c (.ptr 20480 1 0)), (15, .g [.nil 1, .nil 7])] [] ⟨rfl, trivial⟩ ⟨rfl, rfl, trivial⟩ rfl (kStoreP rfl rfl rfl rfl (kMovC rfl (kDone (kMem [(20480, ⟨1, 0, .box [.nil 1, .nil 7]⟩)] [(4, .c (.ptr 20480 1 0)), (5, .c (.d _))] [] ⟨rfl, trivial⟩ ⟨rfl, rfl, trivial⟩ rfl (kRet (endRetA (ra := [.agg [(.own true _), (.own true _)], .one (.d _)]) rfl rfl))))))))))) (fun g1 => (by (simp [*] at g1))))))))))))))))))))))))))))
  have hm := zone_rrs a1
  have hp := zoneOk_pos a1
  have hl : z.rrs.length ≤ 1000000 := by omega
  have hz2 := addZ_small a1 a2
  have ok1 := ok_spec_ZoneOk (addZ z r) hz2
  have ok2 := ok_spec_l5own (addZ z r) hz2
  refine kSeq (kReg (kBox rfl rfl rfl rfl rfl (kBox rfl rfl rfl rfl rfl (kAlloc rfl rfl (kMovC rfl (kDone (kSeq (kSeq (kReg (kLoadP rfl rfl rfl (kCallD (ok_spec_ZoneOk _ (by first | assumption | omega | solve_by_elim [List.getElem_mem] | (simp only [szOut] at *; omega) | exact rfl | exact Nat.le_of_ble_eq_true rfl)) ⟨⟨⟨rfl, rfl, trivial⟩, Nat.le_of_ble_eq_true rfl⟩, trivial⟩ rfl rfl rfl rfl rfl (kUn rfl rfl (kMovC rfl (kMem [(16384, ⟨1, 0, .box [.d _, .d _, .d _, .d _, .d _, .d _, .d _]⟩)] [(3, .c (.ptr 16384 1 0)), (11, .c (.un)), (12, .c (.un)), (10, .c (.d _)), (13, .c (.un))] [] ⟨rfl, trivial⟩ ⟨rfl, rfl, rfl, rfl, rfl, trivial⟩ rfl (kGN rfl (fun g0 => (by (simp [*] at g0))) (fun g0 => kGT rfl (kLoadP rfl rfl rfl (kGT rfl (kCallD (ok_spec_RrOk _ (by first | assumption | omega | solve_by_elim [List.getElem_mem] | (simp only [szOut] at *; omega) | exact rfl | exact Nat.le_of_ble_eq_true rfl)) ⟨⟨⟨rfl, rfl, rfl, rfl, rfl, rfl, rfl, trivial⟩, Nat.le_of_ble_eq_true rfl⟩, trivial⟩ rfl rfl rfl rfl rfl (kGT rfl (kUn rfl rfl (kPickF rfl (kMovC rfl (kDone (kCondN rfl (fun g1 => (by (simp [*] at g1))) (fun g1 => kSkip (kSeq (kReg (kLoadP rfl rfl rfl (kLoadP rfl rfl rfl (kCallD2 (ok_spec_l5add _ _ (by first | assumption | omega | solve_by_elim [List.getElem_mem] | (simp only [szOut] at *; omega) | exact rfl | exact Nat.le_of_ble_eq_true rfl) (by first | assumption | omega | solve_by_elim [List.getElem_mem] | (simp only [szOut] at *; omega) | exact rfl | exact Nat.le_of_ble_eq_true rfl) (by first | assumption | omega | solve_by_elim [List.getElem_mem] | (simp only [szOut] at *; omega) | exact rfl | exact Nat.le_of_ble_eq_true rfl) (by first | assumption | omega | solve_by_elim [List.getElem_mem] | (simp only [szOut] at *; omega) | exact rfl | exact Nat.le_of_ble_eq_true rfl) (by first | assumption | omega | solve_by_elim [List.getElem_mem] | (simp only [szOut] at *; omega) | exact rfl | exact Nat.le_of_ble_eq_true rfl)) ⟨⟨⟨rfl, rfl, trivial⟩, Nat.le_of_ble_eq_true rfl⟩, ⟨⟨rfl, rfl, rfl, rfl, rfl, rfl, rfl, trivial⟩, Nat.le_of_ble_eq_true rfl⟩, trivial⟩ rfl rfl rfl rfl (kAlloc rfl rfl (kMem [(28672, ⟨1, 0, .box [.nil 1, .nil 7]⟩)] [(6, .c (.ptr 28672 1 0)), (18, .g [.d _, .d _])] [] ⟨rfl, trivial⟩ ⟨rfl, rfl, trivial⟩ rfl (kStoreP rfl rfl rfl rfl (kDone (kSeq (kSeq (kReg (kLoadP rfl rfl rfl ?_)))))))))))))))))))))))))))))))))))))))
  refine kCallD ok1 ⟨⟨⟨rfl, rfl, trivial⟩, Nat.le_of_ble_eq_true rfl⟩, trivial⟩ rfl rfl rfl rfl rfl ?_
  cases a3 : zoneOk (addZ z r)
  · rw [show addN z r = z by unfold addN; rw [a1, a2, a3]; rfl, show addOk z r = false by unfold addOk; rw [a1, a2, a3]; rfl]
    refine kUn rfl rfl (kDone (kCondT rfl (kSeq (kReg (kLoadP rfl rfl rfl (kCall1 true (ok_spec_l5own _ (by first | assumption | omega | solve_by_elim [List.getElem_mem] | (simp only [szOut] at *; omega) | exact rfl | exact Nat.le_of_ble_eq_true rfl)) ⟨⟨⟨rfl, rfl, trivial⟩, Nat.le_of_ble_eq_true rfl⟩, trivial⟩ rfl rfl rfl (fun _ => (kMem [(20480, ⟨1, 0, .box [.nil 1, .nil 7]⟩), (98304, ⟨1, 0, .arr true _⟩), (98305, ⟨1, 0, .arr true _⟩)] [(4, .c (.ptr 20480 1 0)), (23, .g [.arr 98304 1, .arr 98305 1])] [] ⟨rfl, rfl, rfl, trivial⟩ ⟨rfl, rfl, trivial⟩ rfl (kStoreP rfl rfl rfl rfl (kMovC rfl (kDone (kMem [(20480, ⟨1, 0, .box [.arr 98304 1, .arr 98305 1]⟩), (98304, ⟨1, 0, .arr true _⟩), (98305, ⟨1, 0, .arr true _⟩)] [(4, .c (.ptr 20480 1 0)), (5, .c (.d _))] [] ⟨rfl, rfl, rfl, trivial⟩ ⟨rfl, rfl, trivial⟩ rfl (kRet (endRetA (ra := [.agg [(.own true _), (.own true _)], .one (.d _)]) rfl rfl))))))))))))))
  · rw [show addN z r = addZ z r by unfold addN; rw [a1, a2, a3]; rfl, show addOk z r = true by unfold addOk; rw [a1, a2, a3]; rfl]
    refine kUn rfl rfl (kDone (kCondF rfl (kSkip (kSeq (kReg (kLoadP rfl rfl rfl ?_))))))
    refine kCall1 true ok2 ⟨⟨⟨rfl, rfl, trivial⟩, Nat.le_of_ble_eq_true rfl⟩, trivial⟩ rfl rfl rfl (fun _ => ?_)
    refine kMem [(20480, ⟨1, 0, .box [.nil 1, .nil 7]⟩), (106496, ⟨1, 0, .arr true _⟩), (106497, ⟨1, 0, .arr true _⟩)] [(4, .c (.ptr 20480 1 0)), (25, .g [.arr 106496 1, .arr 106497 1])] [] ⟨rfl, rfl, rfl, trivial⟩ ⟨rfl, rfl, trivial⟩ rfl (kStoreP rfl rfl rfl rfl (kMovC rfl (kDone (kMem [(20480, ⟨1, 0, .box [.arr 106496 1, .arr 106497 1]⟩), (106496, ⟨1, 0, .arr true _⟩), (106497, ⟨1, 0, .arr true _⟩)] [(4, .c (.ptr 20480 1 0)), (5, .c (.d _))] [] ⟨rfl, rfl, rfl, trivial⟩ ⟨rfl, rfl, trivial⟩ rfl (kRet (endRetA (ra := [.agg [(.own true _), (.own true _)], .one (.d _)]) rfl rfl))))))

def c_spec_l5draw : C := (.seq (.reg false (.op 0 [] (some 2) none false (.alloc 2 [(.n 1), (.n 7)])
  .done))
 (.seq (.reg false (.op 0 [] (some 8) none false (.call 8 207 [(.v (.string ⟨#[104, 111, 109, 101, 46]⟩))])
  (.op 1 [] (some 9) none false (.mov (.t 0))
  (.op 2 [] (some 10) none false (.lit 10 1 [(.v (.int .i64 0))] 3 [(0, 1, (.v (.int .i64 1))), (1, 1, (.v (.int .i64 7))), (2, 1, (.v (.int .i64 4294967295)))])
  (.op 3 [] (some 11) none false (.call 11 252 [(.t 9), (.t 10)])
  (.op 4 [] (some 12) none false (.call 12 134 [(.t 8), (.t 11)])
  (.op 5 [] (some 7) none false (.mov (.t 12))
  (.op 6 [] (some 13) none false (.ext (.t 7) 0)
  (.op 7 [] (some 14) none false (.ext (.t 7) 1)
  (.op 8 [] (some 3) none false (.alloc 3 [(.n 1), (.n 7)])
  (.op 9 [] none none false (.store (some 2) (.t 3) (.t 13))
  (.op 10 [] (some 4) none false (.mov (.t 14))
  .done))))))))))))
 (.seq (.reg false (.op 0 [] (some 15) none false (.mov (.t 0))
  (.op 1 [] (some 16) none false (.call 16 205 [(.t 15), (.v (.int .i64 9))])
  (.op 2 [] (some 5) none false (.mov (.t 16))
  .done))))
 (.seq (.seq (.reg false (.op 0 [] (some 6) none false (.mov (.v (.int .i64 0)))
  .done))
 (.block 0 (.loop (.seq (.seq (.reg false (.op 0 [] (some 17) none false (.mov (.t 6))
  (.op 1 [] (some 18) none false (.mov (.t 5))
  (.op 2 [] (some 19) none false (.bin .lss (.t 17) (.t 18))
  .done))))
 (.cond (.t 19)
 .skip
 (.exit 0)))
 (.seq (.block 1 (.reg true (.op 0 [] (some 23) none true (.load (some 2) (.t 3))
  (.op 1 [] (some 24) none true (.mov (.t 0))
  (.op 2 [] (some 25) none false (.call 25 267 [(.t 24)])
  (.op 3 [0] (some 26) none false (.call 26 103 [(.t 23), (.t 25)])
  (.op 4 [] (some 22) none true (.mov (.t 26))
  (.op 5 [] (some 27) none true (.ext (.t 22) 0)
  (.op 6 [] (some 28) none true (.ext (.t 22) 1)
  (.op 7 [0] none none false (.store (some 2) (.t 3) (.t 27))
  .done))))))))))
 (.reg false (.op 0 [] (some 20) none false (.mov (.t 6))
  (.op 1 [] (some 21) none false (.bin .add (.t 20) (.v (.int .i64 1)))
  (.op 2 [] (some 6) none false (.mov (.t 21))
  .done)))))))))
 (.seq (.seq (.reg false (.op 0 [] (some 29) none false (.mov (.t 0))
  (.op 1 [] (some 30) none false (.call 30 102 [(.t 29), (.v (.int .i64 4))])
  .done)))
 (.cond (.t 30)
 (.seq (.reg true (.op 0 [] (some 32) none true (.load (some 2) (.t 3))
  (.op 1 [] (some 33) none false (.call 33 207 [(.v (.string ⟨#[115, 117, 98, 46, 104, 111, 109, 101, 46]⟩))])
  (.op 2 [] (some 34) none false (.call 34 207 [(.v (.string ⟨#[110, 115, 46, 115, 117, 98, 46, 104, 111, 109, 101, 46]⟩))])
  (.op 3 [] (some 35) none true (.build [(.n 1), (.v (.int .i64 0)), (.v (.int .i64 0)), (.v (.int .i64 0)), (.n 1), (.n 1), (.n 1)] [(0, 1, (.t 33)), (1, 1, (.v (.int .i64 2))), (2, 1, (.v (.int .i64 60))), (4, 1, (.t 34))])
  (.op 4 [0] (some 36) none false (.call 36 103 [(.t 32), (.t 35)])
  (.op 5 [] (some 31) none true (.mov (.t 36))
  (.op 6 [] (some 37) none true (.ext (.t 31) 0)
  (.op 7 [] (some 38) none true (.ext (.t 31) 1)
  (.op 8 [0] none none false (.store (some 2) (.t 3) (.t 37))
  .done))))))))))
 (.reg true (.op 0 [] (some 40) none true (.load (some 2) (.t 3))
  (.op 1 [] (some 41) none false (.call 41 207 [(.v (.string ⟨#[110, 115, 46, 115, 117, 98, 46, 104, 111, 109, 101, 46]⟩))])
  (.op 2 [] (some 42) none true (.build [(.n 1), (.v (.int .i64 0)), (.v (.int .i64 0)), (.v (.int .i64 0)), (.n 1), (.n 1), (.n 1)] [(0, 1, (.t 41)), (1, 1, (.v (.int .i64 1))), (2, 1, (.v (.int .i64 60))), (3, 1, (.v (.int .i64 167772169)))])
  (.op 3 [0] (some 43) none false (.call 43 103 [(.t 40), (.t 42)])
  (.op 4 [] (some 39) none true (.mov (.t 43))
  (.op 5 [] (some 44) none true (.ext (.t 39) 0)
  (.op 6 [] (some 45) none true (.ext (.t 39) 1)
  (.op 7 [0] none none false (.store (some 2) (.t 3) (.t 44))
  .done))))))))))
 .skip))
 (.seq (.reg false (.op 0 [] (some 46) none false (.load (some 2) (.t 3))
  (.op 1 [] none none false (.store (some 2) (.t 2) (.t 46))
  .done)))
 .ret))))))
theorem dg_spec_l5draw : Tryz.f204.body.bind (digC Tryz.prog Tryz.f204.ntmps []) = some c_spec_l5draw := by kernel_rfl
theorem rs_spec_l5draw : resSlots Tryz.prog Tryz.f204 = some [.m 2 (some 2)] := by kernel_rfl
theorem ok_spec_l5draw (c : Cu) :
    FnOK Tryz.prog 204 [.one (.box c.cells)] (fun ra os => ∃ x : Zone × Cu, (zoneOk x.1 = true) ∧ ra = [.agg [.own true (encBB x.1.origin), .own true (encR x.1.rrs)]] ∧ os.b 0 = x.2.cells) := by
  refine FnOK.ofK Tryz.func204 (by kernel_rfl) dg_spec_l5draw rs_spec_l5draw rfl rfl ?_
  unfold c_spec_l5draw
  have e : readN (ByteArray.mk #[104, 111, 109, 101, 46]).toList = [[104, 111, 109, 101]] := by rw [bt_list]; decide
  have sa : SmallBB [[104, 111, 109, 101]] := SmallBB.ok (by decide)
  have ok := ok_spec_l2of ⟨#[104, 111, 109, 101, 46]⟩ (by decide)
  rw [e] at ok
  refine kSeq (kReg (kAlloc rfl rfl (kDone ?_)))
  refine kSeq (kReg (kCall1 true ok ⟨rfl, trivial⟩ rfl rfl rfl (fun _ => ?_)))
  refine kMovC rfl (kLitD rfl rfl rfl rfl (kCallE (ok_spec_l1PickInt _ _ (by first | assumption | omega | solve_by_elim [List.getElem_mem] | (simp only [szOut] at *; omega) | exact rfl | exact Nat.le_of_ble_eq_true rfl | exact rrOk_small (by assumption) | exact zoneOk_small (by assumption) | exact SmallBB.ok (by assumption) | exact (SmallBB.ok (by assumption)).len | exact (SmallBB.ok (by assumption)).mem | exact SmallBB.bent (by assumption)) (by first | assumption | omega | solve_by_elim [List.getElem_mem] | (simp only [szOut] at *; omega) | exact rfl | exact Nat.le_of_ble_eq_true rfl | exact rrOk_small (by assumption) | exact zoneOk_small (by assumption) | exact SmallBB.ok (by assumption) | exact (SmallBB.ok (by assumption)).len | exact (SmallBB.ok (by assumption)).mem | exact SmallBB.bent (by assumption)) (by first | assumption | omega | solve_by_elim [List.getElem_mem] | (simp only [szOut] at *; omega) | exact rfl | exact Nat.le_of_ble_eq_true rfl | exact rrOk_small (by assumption) | exact zoneOk_small (by assumption) | exact SmallBB.ok (by assumption) | exact (SmallBB.ok (by assumption)).len | exact (SmallBB.ok (by assumption)).mem | exact SmallBB.bent (by assumption))) ⟨⟨rfl, _, rfl, rfl⟩, rfl, trivial⟩ rfl rfl rfl (fun _ => rfl) (fun x0 hx0 => (kCall1 true (ok_spec_ZoneNew _ _ (by first | assumption | omega | solve_by_elim [List.getElem_mem] | (simp only [szOut] at *; omega) | exact rfl | exact Nat.le_of_ble_eq_true rfl | exact rrOk_small (by assumption) | exact zoneOk_small (by assumption) | exact SmallBB.ok (by assumption) | exact (SmallBB.ok (by assumption)).len | exact (SmallBB.ok (by assumption)).mem | exact SmallBB.bent (by assumption))) ⟨⟨⟨rfl, trivial⟩, Nat.le_of_ble_eq_true rfl⟩, rfl, trivial⟩ rfl rfl rfl (fun _ => (kMovT rfl (kExtC rfl rfl (kMem [(53248, ⟨1, 0, .arr true _⟩), (53249, ⟨1, 0, .arr true _⟩)] [(3, .c (.un)), (13, .g [.arr 53248 1, .arr 53249 1]), (14, .c (.un))] [] ⟨rfl, rfl, trivial⟩ ⟨rfl, rfl, rfl, trivial⟩ rfl (kExtC rfl rfl (kAlloc rfl rfl (kMem [(16384, ⟨1, 0, .box [.nil 1, .nil 7]⟩), (53248, ⟨1, 0, .arr true _⟩), (53249, ⟨1, 0, .arr true _⟩)] [(3, .c (.ptr 16384 1 0)), (13, .g [.arr 53248 1, .arr 53249 1]), (14, .c (.d _))] [] ⟨rfl, rfl, rfl, trivial⟩ ⟨rfl, rfl, rfl, trivial⟩ rfl (kStoreP rfl rfl rfl rfl (kMovC rfl (kDone (kSeq (kReg (kMovC rfl (kCallE (ok_spec_l1Below _ _) ⟨⟨rfl, _, rfl, rfl⟩, rfl, trivial⟩ rfl rfl rfl (fun _ => rfl) (fun x1 hx1 => (kMovC rfl (kDone (kSeq (kSeq (kReg (kMovC rfl (kDone (kBlock ?_)))))))))))))))))))))))))))
  have hz0 := home_ok _ hx0
  have hzn : zoneNewN [[104, 111, 109, 101]] x0.1 = newZ [[104, 111, 109, 101]] x0.1 := by unfold zoneNewN; rw [hz0]; rfl
  refine kSub (Sub.renBox (rid 3 0) (rid 12 0) (rid 5000 0) 0 rfl rfl rfl rfl rfl rfl) ?_
  refine kSub (Sub.renBox (rid 3 0) (rid 12 1) (rid 5000 1) 1 rfl rfl rfl rfl rfl rfl) ?_
  refine kLoop (α := { z : Zone // zoneOk z = true } × Cu × { i : Nat // (i : Int) ≤ x1.1 ∧ True }) (fun y => ⟨tabSl [(0, .c (.ptr 0 0 0)), (2, .c (.ptr (rid 2 0) 1 0)), (3, .c (.ptr (rid 3 0) 1 0)), (5, .i x1.1), (6, .i y.2.2.1)], obTab 1 [(0, ⟨0, 0, .box (y.2.1.cells.map .d)⟩), (rid 2 0, ⟨1, 0, .box [.nil 1, .nil 7]⟩), (rid 3 0, ⟨1, 0, .box [.arr (rid 5000 0) 1, .arr (rid 5000 1) 1]⟩), (rid 5000 0, ⟨1, 0, .arr true (encBB y.1.1.origin)⟩), (rid 5000 1, ⟨1, 0, .arr true (encR y.1.1.rrs)⟩)], []⟩) (fun y => x1.1.toNat - y.2.2.1) (⟨newZ [[104, 111, 109, 101]] x0.1, hz0⟩, x1.2, ⟨0, by simp; omega⟩) (by rw [hzn]; exact .normA) ?_
  rintro ⟨⟨z, hz⟩, c1, ⟨i, hi, _⟩⟩
  simp only
  rcases Int.lt_or_le (i : Int) x1.1 with hlt | hge
  · refine kSeq (kSeq (kReg (kMovC rfl (kMovC rfl (kBin rfl rfl rfl (kDone (kCondP rfl (fun g2 => kSkip (kSeq (kBlock (kRegD (kLoadP rfl rfl rfl (kMovC rfl (kCallE (ok_spec_l5rr _) ⟨⟨rfl, _, rfl, rfl⟩, trivial⟩ rfl rfl rfl (fun _ => rfl) (fun x3 hx3 => (kRelF rfl rfl (kCall1 true (ok_spec_Add _ _ (by first | assumption | omega | solve_by_elim [List.getElem_mem] | (simp only [szOut] at *; omega) | exact rfl | exact Nat.le_of_ble_eq_true rfl | exact rrOk_small (by assumption) | exact zoneOk_small (by assumption) | exact SmallBB.ok (by assumption) | exact (SmallBB.ok (by assumption)).len | exact (SmallBB.ok (by assumption)).mem | exact SmallBB.bent (by assumption)) (by first | assumption | omega | solve_by_elim [List.getElem_mem] | (simp only [szOut] at *; omega) | exact rfl | exact Nat.le_of_ble_eq_true rfl | exact rrOk_small (by assumption) | exact zoneOk_small (by assumption) | exact SmallBB.ok (by assumption) | exact (SmallBB.ok (by assumption)).len | exact (SmallBB.ok (by assumption)).mem | exact SmallBB.bent (by assumption))) ⟨⟨⟨rfl, rfl, trivial⟩, Nat.le_of_ble_eq_true rfl⟩, ⟨⟨rfl, rfl, rfl, rfl, rfl, rfl, rfl, trivial⟩, Nat.le_of_ble_eq_true rfl⟩, trivial⟩ rfl rfl rfl (fun _ => (kMovT rfl (kExtC rfl rfl (kExtC rfl rfl (kMem [(16384, ⟨1, 0, .box [.arr 20484096 1, .arr 20484097 1]⟩), (110592, ⟨2, 0, .arr true _⟩), (110593, ⟨2, 0, .arr true _⟩), (20484096, ⟨1, 0, .arr true _⟩), (20484097, ⟨1, 0, .arr true _⟩)] [(3, .c (.ptr 16384 1 0)), (27, .g [.arr 110592 2, .arr 110593 2])] [] ⟨rfl, rfl, rfl, rfl, rfl, trivial⟩ ⟨rfl, rfl, trivial⟩ rfl (kRelF rfl rfl (kStoreP rfl rfl rfl rfl (kDone (kH (kBk (kReg (kMovC rfl (kAdd rfl rfl (by omega) (kMovC rfl (kDone ?_))))))))))))))))))))))))) (fun g2 => (by omega)))))))))
    exact kInv ⟨(⟨addN z x3.1, addN_ok hz hx3⟩, x3.2, ⟨i + 1, by omega, trivial⟩), by simp; omega, (Sub.renBox (rid 3 0) (rid 26 0) (rid 5000 0) 0 rfl rfl rfl rfl rfl rfl).trans ((Sub.renBox (rid 3 0) (rid 26 1) (rid 5000 1) 1 rfl rfl rfl rfl rfl rfl).trans .normA)⟩
  · have hs := zoneOk_small hz
    have e1 : readN (ByteArray.mk #[115, 117, 98, 46, 104, 111, 109, 101, 46]).toList = [[115, 117, 98], [104, 111, 109, 101]] := by rw [bt_list]; decide
    have e2 : readN (ByteArray.mk #[110, 115, 46, 115, 117, 98, 46, 104, 111, 109, 101, 46]).toList = [[110, 115], [115, 117, 98], [104, 111, 109, 101]] := by rw [bt_list]; decide
    have hr1 : rrOk ⟨readN (ByteArray.mk #[115, 117, 98, 46, 104, 111, 109, 101, 46]).toList, 2, 60, 0, readN (ByteArray.mk #[110, 115, 46, 115, 117, 98, 46, 104, 111, 109, 101, 46]).toList, [], []⟩ = true := by rw [e1, e2]; decide
    have hr2 : rrOk ⟨readN (ByteArray.mk #[110, 115, 46, 115, 117, 98, 46, 104, 111, 109, 101, 46]).toList, 1, 60, 167772169, [], [], []⟩ = true := by rw [e2]; decide
    have hz1 := addN_ok hz hr1
    have hz2 := addN_ok hz1 hr2
    refine kSeq (kSeq (kReg (kMovC rfl (kMovC rfl (kBin rfl rfl rfl (kDone (kCondP rfl (fun g2 => (by omega)) (fun g2 => kExit (kExC (kExI (kExB (kSeq (kSeq (kReg (kMovC rfl (kCallE (ok_spec_l1Once _ _) ⟨⟨rfl, _, rfl, rfl⟩, rfl, trivial⟩ rfl rfl rfl (fun _ => rfl) (fun x3 hx3 => (kDone (kCond rfl (fun g4 => kSeq (kRegD (kLoadP rfl rfl rfl (kCall1 true (ok_spec_l2of _ (by first | assumption | omega | solve_by_elim [List.getElem_mem] | (simp only [szOut] at *; omega) | exact rfl | exact Nat.le_of_ble_eq_true rfl | exact rrOk_small (by assumption) | exact zoneOk_small (by assumption) | exact SmallBB.ok (by assumption) | exact (SmallBB.ok (by assumption)).len | exact (SmallBB.ok (by assumption)).mem | exact SmallBB.bent (by assumption))) ⟨rfl, trivial⟩ rfl rfl rfl (fun _ => (kCall1 true (ok_spec_l2of _ (by first | assumption | omega | solve_by_elim [List.getElem_mem] | (simp only [szOut] at *; omega) | exact rfl | exact Nat.le_of_ble_eq_true rfl | exact rrOk_small (by assumption) | exact zoneOk_small (by assumption) | exact SmallBB.ok (by assumption) | exact (SmallBB.ok (by assumption)).len | exact (SmallBB.ok (by assumption)).mem | exact SmallBB.bent (by assumption))) ⟨rfl, trivial⟩ rfl rfl rfl (fun _ => (kMem [(139264, ⟨2, 0, .arr true _⟩), (143360, ⟨2, 0, .arr true _⟩), (20484096, ⟨1, 0, .arr true _⟩), (20484097, ⟨1, 0, .arr true _⟩), (16384, ⟨1, 0, .box [.arr 20484096 1, .arr 20484097 1]⟩)] [(33, .g [.arr 139264 2]), (34, .g [.arr 143360 2]), (32, .g [.arr 20484096 1, .arr 20484097 1]), (3, .c (.ptr 16384 1 0))] [16384] ⟨rfl, rfl, rfl, rfl, rfl, trivial⟩ ⟨rfl, rfl, rfl, rfl, trivial⟩ rfl (kBuildG rfl (kRelF rfl rfl ?_)))))))))) (fun g4 => kSkip (kSeq (kReg (kLoadP rfl rfl rfl (kMem [(12288, ⟨1, 0, .box [.nil 1, .nil 7]⟩), (20484096, ⟨1, 0, .arr true _⟩), (20484097, ⟨1, 0, .arr true _⟩)] [(2, .c (.ptr 12288 1 0)), (46, .g [.arr 20484096 1, .arr 20484097 1])] [] ⟨rfl, rfl, rfl, trivial⟩ ⟨rfl, rfl, trivial⟩ rfl (kStoreP rfl rfl rfl rfl (kDone (kMem [(12288, ⟨1, 0, .box [.arr 20484096 1, .arr 20484097 1]⟩), (20484096, ⟨1, 0, .arr true _⟩), (20484097, ⟨1, 0, .arr true _⟩)] [(2, .c (.ptr 12288 1 0))] [] ⟨rfl, rfl, rfl, trivial⟩ ⟨rfl, trivial⟩ rfl (kRet (endRetA (ra := [.agg [(.own true _), (.own true _)]]) rfl ?_)))))))))))))))))))))))))))))
    · refine kCall1 true (ok_spec_Add z ⟨readN (ByteArray.mk #[115, 117, 98, 46, 104, 111, 109, 101, 46]).toList, 2, 60, 0, readN (ByteArray.mk #[110, 115, 46, 115, 117, 98, 46, 104, 111, 109, 101, 46]).toList, [], []⟩ hs (rrOk_small hr1)) ⟨⟨⟨rfl, rfl, trivial⟩, Nat.le_of_ble_eq_true rfl⟩, ⟨⟨rfl, rfl, rfl, rfl, rfl, rfl, rfl, trivial⟩, Nat.le_of_ble_eq_true rfl⟩, trivial⟩ rfl rfl rfl (fun _ => ?_)
      refine kMovT rfl (kExtC rfl rfl (kExtC rfl rfl (kMem [(16384, ⟨1, 0, .box [.arr 20484096 1, .arr 20484097 1]⟩), (151552, ⟨2, 0, .arr true _⟩), (151553, ⟨2, 0, .arr true _⟩), (20484096, ⟨1, 0, .arr true _⟩), (20484097, ⟨1, 0, .arr true _⟩)] [(3, .c (.ptr 16384 1 0)), (37, .g [.arr 151552 2, .arr 151553 2])] [] ⟨rfl, rfl, rfl, rfl, rfl, trivial⟩ ⟨rfl, rfl, trivial⟩ rfl (kRelF rfl rfl (kStoreP rfl rfl rfl rfl (kDone (kH (kRegD (kLoadP rfl rfl rfl (kCall1 true (ok_spec_l2of _ (by first | assumption | omega | solve_by_elim [List.getElem_mem] | (simp only [szOut] at *; omega) | exact rfl | exact Nat.le_of_ble_eq_true rfl | exact rrOk_small (by assumption) | exact zoneOk_small (by assumption) | exact SmallBB.ok (by assumption) | exact (SmallBB.ok (by assumption)).len | exact (SmallBB.ok (by assumption)).mem | exact SmallBB.bent (by assumption))) ⟨rfl, trivial⟩ rfl rfl rfl (fun _ => (kMem [(172032, ⟨2, 0, .arr true _⟩), (151552, ⟨2, 0, .arr true _⟩), (151553, ⟨2, 0, .arr true _⟩), (16384, ⟨1, 0, .box [.arr 151552 2, .arr 151553 2]⟩)] [(41, .g [.arr 172032 2]), (40, .g [.arr 151552 2, .arr 151553 2]), (3, .c (.ptr 16384 1 0))] [16384] ⟨rfl, rfl, rfl, rfl, trivial⟩ ⟨rfl, rfl, rfl, trivial⟩ rfl (kBuildG rfl (kRelF rfl rfl ?_))))))))))))))
      refine kCall1 true (ok_spec_Add _ ⟨readN (ByteArray.mk #[110, 115, 46, 115, 117, 98, 46, 104, 111, 109, 101, 46]).toList, 1, 60, 167772169, [], [], []⟩ (zoneOk_small hz1) (rrOk_small hr2)) ⟨⟨⟨rfl, rfl, trivial⟩, Nat.le_of_ble_eq_true rfl⟩, ⟨⟨rfl, rfl, rfl, rfl, rfl, rfl, rfl, trivial⟩, Nat.le_of_ble_eq_true rfl⟩, trivial⟩ rfl rfl rfl (fun _ => ?_)
      refine kMovT rfl (kExtC rfl rfl (kExtC rfl rfl (kMem [(16384, ⟨1, 0, .box [.arr 151552 2, .arr 151553 2]⟩), (180224, ⟨2, 0, .arr true _⟩), (180225, ⟨2, 0, .arr true _⟩), (151552, ⟨2, 0, .arr true _⟩), (151553, ⟨2, 0, .arr true _⟩)] [(3, .c (.ptr 16384 1 0)), (44, .g [.arr 180224 2, .arr 180225 2])] [] ⟨rfl, rfl, rfl, rfl, rfl, trivial⟩ ⟨rfl, rfl, trivial⟩ rfl (kRelF rfl rfl (kStoreP rfl rfl rfl rfl (kDone (kH (kSeq (kReg (kLoadP rfl rfl rfl (kMem [(12288, ⟨1, 0, .box [.nil 1, .nil 7]⟩), (180224, ⟨2, 0, .arr true _⟩), (180225, ⟨2, 0, .arr true _⟩)] [(2, .c (.ptr 12288 1 0)), (46, .g [.arr 180224 2, .arr 180225 2])] [] ⟨rfl, rfl, rfl, trivial⟩ ⟨rfl, rfl, trivial⟩ rfl (kStoreP rfl rfl rfl rfl (kDone (kMem [(12288, ⟨1, 0, .box [.arr 180224 2, .arr 180225 2]⟩), (180224, ⟨2, 0, .arr true _⟩), (180225, ⟨2, 0, .arr true _⟩)] [(2, .c (.ptr 12288 1 0))] [] ⟨rfl, rfl, rfl, trivial⟩ ⟨rfl, trivial⟩ rfl (kRet (endRetA (ra := [.agg [(.own true _), (.own true _)]]) rfl ?_))))))))))))))))
      exact ⟨(_, x3.2), hz2, rfl, rfl⟩
    · exact ⟨(z, x3.2), hz, rfl, rfl⟩

def c_spec_l2bent : C := (.seq (.reg false (.op 0 [] (some 2) none false (.alloc 2 [(.n 1)])
  .done))
 (.seq (.reg false (.op 0 [] (some 4) none false (.mov (.t 0))
  (.op 1 [] (some 5) none false (.call 5 251 [(.t 4)])
  (.op 2 [] (some 3) none false (.alloc 3 [(.n 1)])
  (.op 3 [] none none false (.store (some 1) (.t 3) (.t 5))
  .done)))))
 (.seq (.seq (.reg false (.op 0 [] (some 6) none false (.mov (.t 0))
  (.op 1 [] (some 7) none false (.call 7 102 [(.t 6), (.v (.int .i64 9))])
  .done)))
 (.cond (.t 7)
 (.seq (.reg false (.op 0 [] (some 8) none false (.mov (.t 0))
  (.op 1 [] (some 9) none false (.call 9 205 [(.t 8), (.v (.int .i64 4))])
  .done)))
 (.block 0 (.seq (.reg false (.op 0 [] (some 22) none false (.bin .eql (.t 9) (.v (.int .i64 0)))
  (.op 1 [] (some 21) none false (.mov (.t 22))
  .done)))
 (.cond (.t 21)
 (.reg false (.op 0 [] (some 23) none false (.fad (.t 3) 0)
  (.op 1 [] (some 24) none false (.load none (.t 23))
  (.op 2 [] (some 25) none false (.lit 25 1 [(.n 1)] 1 [(0, 1, (.n 1))])
  (.op 3 [] (some 26) none false (.app 26 1 24 (.t 24) (.t 25))
  (.op 4 [] (some 27) none false (.fad (.t 3) 0)
  (.op 5 [] none none false (.store none (.t 27) (.t 26))
  .done)))))))
 (.seq (.reg false (.op 0 [] (some 29) none false (.bin .eql (.t 9) (.v (.int .i64 1)))
  (.op 1 [] (some 28) none false (.mov (.t 29))
  .done)))
 (.cond (.t 28)
 (.reg false (.op 0 [] (some 30) none false (.fad (.t 3) 0)
  (.op 1 [] (some 31) none false (.load none (.t 30))
  (.op 2 [] (some 32) none false (.lit 32 1 [(.v (.int .u8 0))] 1 [(0, 1, (.v (.int .u8 81)))])
  (.op 3 [] (some 33) none false (.s2s (.t 32))
  (.op 4 [] (some 34) none false (.lit 34 1 [(.n 1)] 1 [(0, 1, (.t 33))])
  (.op 5 [] (some 35) none false (.app 35 1 24 (.t 31) (.t 34))
  (.op 6 [] (some 36) none false (.fad (.t 3) 0)
  (.op 7 [] none none false (.store none (.t 36) (.t 35))
  .done)))))))))
 (.seq (.reg false (.op 0 [] (some 38) none false (.bin .eql (.t 9) (.v (.int .i64 2)))
  (.op 1 [] (some 37) none false (.mov (.t 38))
  .done)))
 (.cond (.t 37)
 (.reg true (.op 0 [] (some 39) none true (.fad (.t 3) 0)
  (.op 1 [] (some 40) none true (.load none (.t 39))
  (.op 3 [] (some 42) none true (.mov (.t 0))
  (.alt (.op 2 [] (some 41) none false (.lit 41 1 [(.v (.string ⟨#[]⟩))] 2 [(0, 1, (.v (.string ⟨#[97, 98, 99, 100, 101, 102, 103, 104, 105, 106, 107, 108, 109, 110, 111]⟩))), (1, 1, (.v (.string ⟨#[97, 98, 99, 100, 101, 102, 103, 104, 105, 106, 107, 108, 109, 110, 111, 112]⟩)))])
  (.op 4 [] (some 43) none false (.call 43 205 [(.t 42), (.v (.int .i64 2))])
  (.op 5 [] (some 44) none true (.iad 1 (.t 41) (.t 43))
  (.op 6 [] (some 45) none true (.load none (.t 44))
  (.op 7 [6] (some 46) none false (.s2b (.t 45))
  (.op 8 [6] (some 47) none false (.lit 47 1 [(.n 1)] 1 [(0, 1, (.t 46))])
  (.op 9 [1, 6] (some 48) none false (.app 48 1 24 (.t 40) (.t 47))
  (.op 10 [] (some 49) none true (.fad (.t 3) 0)
  (.op 11 [1, 6] none none false (.store none (.t 49) (.t 48))
  .done)))))))))
  (.op 4 [] (some 43) none false (.call 43 205 [(.t 42), (.v (.int .i64 2))])
  (.op 2 [] (some 41) none false (.lit 41 1 [(.v (.string ⟨#[]⟩))] 2 [(0, 1, (.v (.string ⟨#[97, 98, 99, 100, 101, 102, 103, 104, 105, 106, 107, 108, 109, 110, 111]⟩))), (1, 1, (.v (.string ⟨#[97, 98, 99, 100, 101, 102, 103, 104, 105, 106, 107, 108, 109, 110, 111, 112]⟩)))])
  (.op 5 [] (some 44) none true (.iad 1 (.t 41) (.t 43))
  (.op 6 [] (some 45) none true (.load none (.t 44))
  (.op 7 [6] (some 46) none false (.s2b (.t 45))
  (.op 8 [6] (some 47) none false (.lit 47 1 [(.n 1)] 1 [(0, 1, (.t 46))])
  (.op 9 [1, 6] (some 48) none false (.app 48 1 24 (.t 40) (.t 47))
  (.op 10 [] (some 49) none true (.fad (.t 3) 0)
  (.op 11 [1, 6] none none false (.store none (.t 49) (.t 48))
  .done))))))))))))))
 (.block 1 (.loop (.seq (.seq (.reg false (.op 0 [] (some 10) none false (.fad (.t 3) 0)
  (.op 1 [] (some 11) none false (.load none (.t 10))
  (.op 2 [] (some 12) none false (.len (.t 11))
  (.op 3 [] (some 13) none false (.bin .leq (.t 12) (.v (.int .i64 6)))
  .done)))))
 (.cond (.t 13)
 .skip
 (.exit 1)))
 (.block 2 (.reg false (.op 0 [] (some 14) none false (.fad (.t 3) 0)
  (.op 1 [] (some 15) none false (.load none (.t 14))
  (.op 2 [] (some 16) none false (.lit 16 1 [(.v (.int .u8 0))] 1 [(0, 1, (.v (.int .u8 122)))])
  (.op 3 [] (some 17) none false (.s2s (.t 16))
  (.op 4 [] (some 18) none false (.lit 18 1 [(.n 1)] 1 [(0, 1, (.t 17))])
  (.op 5 [] (some 19) none false (.app 19 1 24 (.t 15) (.t 18))
  (.op 6 [] (some 20) none false (.fad (.t 3) 0)
  (.op 7 [] none none false (.store none (.t 20) (.t 19))
  .done)))))))))))))))))))))
 .skip))
 (.seq (.reg false (.op 0 [] (some 50) none false (.load (some 1) (.t 3))
  (.op 1 [] none none false (.store (some 1) (.t 2) (.t 50))
  .done)))
 .ret))))
theorem dg_spec_l2bent : Tryz.f176.body.bind (digC Tryz.prog Tryz.f176.ntmps []) = some c_spec_l2bent := by kernel_rfl
theorem rs_spec_l2bent : resSlots Tryz.prog Tryz.f176 = some [.m 2 (some 1)] := by kernel_rfl
theorem ok_spec_l2bent (c : Cu) :
    FnOK Tryz.prog 176 [.one (.box c.cells)] (fun ra os => ∃ x : List (List UInt8) × Cu, (x.1.length ≤ 7 ∧ ∀ b ∈ x.1, b.length ≤ 64) ∧ ra = [.agg [.d (encBB x.1)]] ∧ os.b 0 = x.2.cells) := by
  refine FnOK.ofK Tryz.func176 (by kernel_rfl) dg_spec_l2bent rs_spec_l2bent rfl rfl ?_
  unfold c_spec_l2bent
  refine kSeq (kReg (kAlloc rfl rfl (kDone (kSeq (kReg (kMovC rfl (kCallE (ok_spec_l2draw _) ⟨⟨rfl, _, rfl, rfl⟩, trivial⟩ rfl rfl rfl (fun _ => rfl) (fun x0 hx0 => (kAlloc rfl rfl (kStoreP rfl rfl rfl rfl (kDone (kSeq (kSeq (kReg (kMovC rfl (kCallE (ok_spec_l1Once _ _) ⟨⟨rfl, _, rfl, rfl⟩, rfl, trivial⟩ rfl rfl rfl (fun _ => rfl) (fun x1 hx1 => (kDone (kCond rfl (fun g2 => kSeq (kReg (kMem [(0, ⟨0, 2, .box [.d _, .d _, .d _]⟩)] [(0, .c (.ptr 0 0 0)), (8, .c (.un))] [] ⟨rfl, trivial⟩ ⟨rfl, rfl, trivial⟩ rfl (kMovC rfl (kCallE (ok_spec_l1Below _ _) ⟨⟨rfl, _, rfl, rfl⟩, rfl, trivial⟩ rfl rfl rfl (fun _ => rfl) (fun x3 hx3 => (kDone (kBlock (kSeq (kReg (kBin rfl rfl rfl (kMovC rfl (kDone (kCondP rfl (fun g4 => kReg (kFadP rfl rfl (kLoadP rfl rfl rfl (kLitG rfl rfl rfl rfl ?_)))) (fun g4 => kSeq (kReg (kBin rfl rfl rfl (kMovC rfl (kDone (kCondP rfl (fun g5 => kReg (kFadP rfl rfl (kLoadP rfl rfl rfl (kLitG rfl rfl rfl rfl (kMem [(135168, ⟨1, 0, .arr true _⟩), (24576, ⟨1, 0, .arr true _⟩), (16384, ⟨1, 0, .box [.arr 24576 1]⟩)] [(32, .c (.arr 135168 1)), (33, .c (.un)), (31, .c (.arr 24576 1)), (34, .c (.un)), (3, .c (.ptr 16384 1 0)), (36, .c (.un)), (35, .c (.un))] [] ⟨rfl, rfl, rfl, trivial⟩ ⟨rfl, rfl, rfl, rfl, rfl, rfl, rfl, trivial⟩ rfl (kS2sB (y := 81) (ys := []) rfl rfl rfl (kLitG rfl rfl rfl rfl ?_))))))) (fun g5 => kSeq (kReg (kBin rfl rfl rfl (kMovC rfl (kDone (kCondP rfl (fun g6 => kRegD (kFadP rfl rfl (kLoadP rfl rfl rfl (kMem [(0, ⟨0, 3, .box [.d _, .d _, .d _]⟩), (24576, ⟨1, 0, .arr true _⟩), (16384, ⟨1, 0, .box [.arr 24576 1]⟩)] [(0, .c (.ptr 0 0 0)), (42, .c (.un)), (41, .c (.un)), (43, .c (.un)), (44, .c (.un)), (45, .c (.un)), (46, .c (.un)), (40, .c (.arr 24576 1)), (47, .c (.un)), (3, .c (.ptr 16384 1 0)), (49, .c (.un)), (48, .c (.un))] [16384] ⟨rfl, rfl, rfl, trivial⟩ ⟨rfl, rfl, rfl, rfl, rfl, rfl, rfl, rfl, rfl, rfl, rfl, rfl, trivial⟩ rfl (kMovC rfl (kAlt (kLitG rfl rfl rfl rfl (kCallE (ok_spec_l1Below _ _) ⟨⟨rfl, _, rfl, rfl⟩, rfl, trivial⟩ rfl rfl rfl (fun _ => rfl) (fun x8 hx8 => (kIadStr rfl rfl rfl rfl (by simp only [List.length_cons, List.length_nil]; omega) (kLoadStr rfl rfl rfl (by simp only [List.length_cons, List.length_nil]; omega) rfl (fun b9 hb9 => (kRelK rfl rfl (kS2b rfl (by omega) (kRelK rfl rfl (kLitG rfl rfl rfl rfl (kMem [(24576, ⟨1, 0, .arr true _⟩), (196608, ⟨1, 0, .arr false _⟩), (16384, ⟨1, 0, .box [.arr 24576 1]⟩)] [(40, .c (.arr 24576 1)), (47, .c (.arr 196608 1)), (3, .c (.ptr 16384 1 0)), (49, .c (.un)), (48, .c (.un))] [172032, 16384] ⟨rfl, rfl, rfl, trivial⟩ ⟨rfl, rfl, rfl, rfl, rfl, trivial⟩ rfl (kRelF rfl rfl ?_)))))))))))) (kCallE (ok_spec_l1Below _ _) ⟨⟨rfl, _, rfl, rfl⟩, rfl, trivial⟩ rfl rfl rfl (fun _ => rfl) (fun x10 hx10 => (kLitG rfl rfl rfl rfl (kIadStr rfl rfl rfl rfl (by simp only [List.length_cons, List.length_nil]; omega) (kLoadStr rfl rfl rfl (by simp only [List.length_cons, List.length_nil]; omega) rfl (fun b11 hb11 => (kRelK rfl rfl (kS2b rfl (by omega) (kRelK rfl rfl (kLitG rfl rfl rfl rfl (kMem [(24576, ⟨1, 0, .arr true _⟩), (196608, ⟨1, 0, .arr false _⟩), (16384, ⟨1, 0, .box [.arr 24576 1]⟩)] [(40, .c (.arr 24576 1)), (47, .c (.arr 196608 1)), (3, .c (.ptr 16384 1 0)), (49, .c (.un)), (48, .c (.un))] [172032, 16384] ⟨rfl, rfl, rfl, trivial⟩ ⟨rfl, rfl, rfl, rfl, rfl, trivial⟩ rfl (kRelF rfl rfl ?_)))))))))))))))))) (fun g6 => kBlock ?_))))))))))))))))))))))))))) (fun g2 => kSkip (kSeq (kReg (kMem [(16384, ⟨1, 0, .box [.arr 24576 1]⟩), (12288, ⟨1, 0, .box [.nil 1]⟩), (24576, ⟨1, 0, .arr true _⟩)] [(3, .c (.ptr 16384 1 0)), (2, .c (.ptr 12288 1 0)), (50, .c (.un))] [] ⟨rfl, rfl, rfl, trivial⟩ ⟨rfl, rfl, rfl, trivial⟩ rfl (kLoadP rfl rfl rfl (kStoreP rfl rfl rfl rfl (kDone (kMem [(12288, ⟨1, 0, .box [.arr 24576 1]⟩), (24576, ⟨1, 0, .arr true _⟩)] [(2, .c (.ptr 12288 1 0))] [] ⟨rfl, rfl, trivial⟩ ⟨rfl, trivial⟩ rfl (kRet (endRetA (ra := [.agg [(.d _)]]) rfl ?_)))))))))))))))))))))))))))))
  · have h6 := nameOk_len hx0
    refine kAppR1 (z := ([] : List UInt8)) rfl rfl rfl rfl rfl rfl rfl rfl (by omega) ?_
    refine kMem [(16384, ⟨1, 0, .box [.arr 24576 1]⟩), (24576, ⟨2, 0, .arr true _⟩)] [(3, .c (.ptr 16384 1 0)), (27, .c (.un)), (26, .c (.arr 24576 2))] [] ⟨rfl, rfl, trivial⟩ ⟨rfl, rfl, rfl, trivial⟩ rfl (kFadP rfl rfl (kStoreP rfl rfl rfl rfl (kDone (kBk (kSeq (kReg (kLoadP rfl rfl rfl (kStoreP rfl rfl rfl rfl (kDone (kMem [(12288, ⟨1, 0, .box [.arr 24576 2]⟩), (24576, ⟨2, 0, .arr true _⟩)] [(2, .c (.ptr 12288 1 0))] [] ⟨rfl, rfl, trivial⟩ ⟨rfl, trivial⟩ rfl (kRet (endRetA (ra := [.agg [(.d _)]]) rfl ?_))))))))))))
    exact ⟨(_, x3.2), bent_app hx0 (by decide), rfl, rfl⟩
  · have h6 := nameOk_len hx0
    refine kAppR1 (z := ([81] : List UInt8)) rfl rfl rfl rfl rfl rfl rfl rfl (by omega) ?_
    refine kFadP rfl rfl (kStoreP rfl rfl rfl rfl (kDone (kBk (kSeq (kReg (kLoadP rfl rfl rfl (kMem [(12288, ⟨1, 0, .box [.nil 1]⟩), (24576, ⟨2, 0, .arr false _⟩)] [(2, .c (.ptr 12288 1 0)), (50, .g [.arr 24576 2])] [] ⟨rfl, rfl, trivial⟩ ⟨rfl, rfl, trivial⟩ rfl (kStoreP rfl rfl rfl rfl (kDone (kMem [(12288, ⟨1, 0, .box [.arr 24576 2]⟩), (24576, ⟨2, 0, .arr false _⟩)] [(2, .c (.ptr 12288 1 0))] [] ⟨rfl, rfl, trivial⟩ ⟨rfl, trivial⟩ rfl (kRet (endRetA (ra := [.agg [(.d _)]]) rfl ?_))))))))))))
    exact ⟨(_, x3.2), bent_app hx0 (by decide), rfl, rfl⟩
  · have h6 := nameOk_len hx0
    refine kAppR1 (z := b9.toList) rfl rfl rfl rfl rfl rfl rfl rfl (by omega) ?_
    refine kFadP rfl rfl (kRelF rfl rfl (kStoreP rfl rfl rfl rfl (kDone (kH (kBk (kSeq (kReg (kLoadP rfl rfl rfl (kStoreP rfl rfl rfl rfl (kDone (kMem [(12288, ⟨1, 0, .box [.arr 24576 2]⟩), (24576, ⟨2, 0, .arr false _⟩)] [(2, .c (.ptr 12288 1 0))] [] ⟨rfl, rfl, trivial⟩ ⟨rfl, trivial⟩ rfl (kRet (endRetA (ra := [.agg [(.d _)]]) rfl ?_)))))))))))))
    exact ⟨(_, x8.2), bent_app hx0 (by rw [bt_len]; exact hb9), rfl, rfl⟩
  · have h6 := nameOk_len hx0
    refine kAppR1 (z := b11.toList) rfl rfl rfl rfl rfl rfl rfl rfl (by omega) ?_
    refine kFadP rfl rfl (kRelF rfl rfl (kStoreP rfl rfl rfl rfl (kDone (kH (kBk (kSeq (kReg (kLoadP rfl rfl rfl (kStoreP rfl rfl rfl rfl (kDone (kMem [(12288, ⟨1, 0, .box [.arr 24576 2]⟩), (24576, ⟨2, 0, .arr false _⟩)] [(2, .c (.ptr 12288 1 0))] [] ⟨rfl, rfl, trivial⟩ ⟨rfl, trivial⟩ rfl (kRet (endRetA (ra := [.agg [(.d _)]]) rfl ?_)))))))))))))
    exact ⟨(_, x10.2), bent_app hx0 (by rw [bt_len]; exact hb11), rfl, rfl⟩
  · refine kLoop (α := { L : List (List UInt8) // L.length ≤ 7 ∧ ∀ b ∈ L, b.length ≤ 64 }) (fun y => ⟨tabSl [(2, .c (.ptr (rid 2 0) 1 0)), (3, .c (.ptr (rid 3 0) 1 0))], obTab 1 [(0, ⟨0, 0, .box (x3.2.cells.map .d)⟩), (rid 2 0, ⟨1, 0, .box [.nil 1]⟩), (rid 3 0, ⟨1, 0, .box [.arr (rid 5 0) 1]⟩), (rid 5 0, ⟨1, 0, .arr false (encBB y.1)⟩)], []⟩) (fun y => 7 - y.1.length) ⟨x0.1, bent_ok hx0⟩ .normA ?_
    rintro ⟨L, h7, hL⟩
    simp only
    rcases Nat.lt_or_ge L.length 7 with hlt | hge
    · refine kSeq (kSeq (kReg (kFadP rfl rfl (kLoadP rfl rfl rfl (kLenR rfl rfl (kBin rfl rfl rfl (kDone (kCondP rfl (fun g0 => kSkip (kBlock (kReg (kFadP rfl rfl (kLoadP rfl rfl rfl (kLitG rfl rfl rfl rfl (kS2sB (y := 122) (ys := []) rfl rfl rfl (kMem [(24576, ⟨1, 0, .arr false _⟩), (16384, ⟨1, 0, .box [.arr 24576 1]⟩)] [(17, .c (.d _)), (15, .c (.arr 24576 1)), (3, .c (.ptr 16384 1 0))] [] ⟨rfl, rfl, trivial⟩ ⟨rfl, rfl, rfl, trivial⟩ rfl (kLitG rfl rfl rfl rfl (kAppR1 rfl rfl rfl rfl rfl rfl rfl rfl (by first | omega | (simp only [List.length_append, List.length_cons, List.length_nil]; omega)) (kFadP rfl rfl (kStoreP rfl rfl rfl rfl (kDone (kBk ?_)))))))))))))) (fun g0 => (by omega))))))))))
      refine kInv ⟨⟨L ++ [[122]], by simp; omega, fun b hb => ?_⟩, by simp; omega, .normA⟩
      rcases List.mem_append.1 hb with hb | hb
      · exact hL b hb
      · simp only [List.mem_singleton] at hb; subst hb; decide
    · refine kSeq (kSeq (kReg (kFadP rfl rfl (kLoadP rfl rfl rfl (kLenR rfl rfl (kBin rfl rfl rfl (kDone (kCondP rfl (fun g0 => (by omega)) (fun g0 => kExit (kExC (kExI (kExB (kBk (kSeq (kReg (kLoadP rfl rfl rfl (kStoreP rfl rfl rfl rfl (kDone (kMem [(12288, ⟨1, 0, .box [.arr 24576 1]⟩), (24576, ⟨1, 0, .arr false _⟩)] [(2, .c (.ptr 12288 1 0))] [] ⟨rfl, rfl, trivial⟩ ⟨rfl, trivial⟩ rfl (kRet (endRetA (ra := [.agg [(.d _)]]) rfl ?_)))))))))))))))))))))
      exact ⟨(L, x3.2), ⟨h7, hL⟩, rfl, rfl⟩
  · exact ⟨(x0.1, x1.2), bent_ok hx0, rfl, rfl⟩

def c_spec_l3bent : C := (.seq (.reg false (.op 0 [] (some 2) none false (.alloc 2 [(.n 1), (.v (.int .i64 0)), (.v (.int .i64 0)), (.v (.int .i64 0)), (.n 1), (.n 1), (.n 1)])
  .done))
 (.seq (.reg false (.op 0 [] (some 4) none false (.mov (.t 0))
  (.op 1 [] (some 5) none false (.call 5 269 [(.t 4)])
  (.op 2 [] (some 3) none false (.alloc 3 [(.n 1), (.v (.int .i64 0)), (.v (.int .i64 0)), (.v (.int .i64 0)), (.n 1), (.n 1), (.n 1)])
  (.op 3 [] none none false (.store (some 7) (.t 3) (.t 5))
  .done)))))
 (.seq (.seq (.reg false (.op 0 [] (some 6) none false (.mov (.t 0))
  (.op 1 [] (some 7) none false (.call 7 102 [(.t 6), (.v (.int .i64 7))])
  .done)))
 (.cond (.t 7)
 (.seq (.reg false (.op 0 [] (some 8) none false (.mov (.t 0))
  (.op 1 [] (some 9) none false (.call 9 205 [(.t 8), (.v (.int .i64 7))])
  .done)))
 (.block 0 (.seq (.reg false (.op 0 [] (some 18) none false (.bin .eql (.t 9) (.v (.int .i64 0)))
  (.op 1 [] (some 17) none false (.mov (.t 18))
  .done)))
 (.cond (.t 17)
 (.reg false (.op 0 [] (some 19) none false (.mov (.t 0))
  (.op 1 [] (some 20) none false (.call 20 176 [(.t 19)])
  (.op 2 [] (some 21) none false (.fad (.t 3) 0)
  (.op 3 [] none none false (.store (some 1) (.t 21) (.t 20))
  .done)))))
 (.seq (.reg false (.op 0 [] (some 23) none false (.bin .eql (.t 9) (.v (.int .i64 1)))
  (.op 1 [] (some 22) none false (.mov (.t 23))
  .done)))
 (.cond (.t 22)
 (.reg false (.op 0 [] (some 24) none false (.mov (.t 0))
  (.op 1 [] (some 25) none false (.lit 25 1 [(.v (.int .i64 0))] 7 [(0, 1, (.v (.int .i64 0))), (1, 1, (.v (.int .i64 3))), (2, 1, (.v (.int .i64 28))), (3, 1, (.v (.int .i64 255))), (4, 1, (.v (.int .i64 (-1)))), (5, 1, (.v (.int .i64 1))), (6, 1, (.v (.int .i64 5)))])
  (.op 2 [] (some 26) none false (.call 26 252 [(.t 24), (.t 25)])
  (.op 3 [] (some 27) none false (.fad (.t 3) 1)
  (.op 4 [] none none false (.store none (.t 27) (.t 26))
  .done))))))
 (.seq (.reg false (.op 0 [] (some 29) none false (.bin .eql (.t 9) (.v (.int .i64 2)))
  (.op 1 [] (some 28) none false (.mov (.t 29))
  .done)))
 (.cond (.t 28)
 (.reg false (.op 0 [] (some 30) none false (.mov (.t 0))
  (.op 1 [] (some 31) none false (.lit 31 1 [(.v (.int .i64 0))] 2 [(0, 1, (.v (.int .i64 (-1)))), (1, 1, (.v (.int .i64 100001)))])
  (.op 2 [] (some 32) none false (.call 32 252 [(.t 30), (.t 31)])
  (.op 3 [] (some 33) none false (.fad (.t 3) 2)
  (.op 4 [] none none false (.store none (.t 33) (.t 32))
  .done))))))
 (.seq (.reg false (.op 0 [] (some 35) none false (.bin .eql (.t 9) (.v (.int .i64 3)))
  (.op 1 [] (some 34) none false (.mov (.t 35))
  .done)))
 (.cond (.t 34)
 (.reg false (.op 0 [] (some 36) none false (.mov (.t 0))
  (.op 1 [] (some 37) none false (.lit 37 1 [(.v (.int .i64 0))] 3 [(0, 1, (.v (.int .i64 (-1)))), (1, 1, (.v (.int .i64 4294967296))), (2, 1, (.v (.int .i64 7)))])
  (.op 2 [] (some 38) none false (.call 38 252 [(.t 36), (.t 37)])
  (.op 3 [] (some 39) none false (.fad (.t 3) 3)
  (.op 4 [] none none false (.store none (.t 39) (.t 38))
  .done))))))
 (.seq (.reg false (.op 0 [] (some 41) none false (.bin .eql (.t 9) (.v (.int .i64 4)))
  (.op 1 [] (some 40) none false (.mov (.t 41))
  .done)))
 (.cond (.t 40)
 (.reg false (.op 0 [] (some 42) none false (.mov (.t 0))
  (.op 1 [] (some 43) none false (.call 43 176 [(.t 42)])
  (.op 2 [] (some 44) none false (.fad (.t 3) 4)
  (.op 3 [] none none false (.store (some 1) (.t 44) (.t 43))
  .done)))))
 (.seq (.reg false (.op 0 [] (some 46) none false (.bin .eql (.t 9) (.v (.int .i64 5)))
  (.op 1 [] (some 45) none false (.mov (.t 46))
  .done)))
 (.cond (.t 45)
 (.reg false (.op 0 [] (some 47) none false (.mov (.t 0))
  (.op 1 [] (some 48) none false (.call 48 205 [(.t 47), (.v (.int .i64 2))])
  (.op 2 [] (some 49) none false (.bin .add (.v (.int .i64 40)) (.t 48))
  (.op 3 [] (some 50) none false (.mk 50 1 [(.v (.int .u8 0))] 1 (.t 49))
  (.op 4 [] (some 51) none false (.fad (.t 3) 5)
  (.op 5 [] none none false (.store none (.t 51) (.t 50))
  .done)))))))
 (.reg true (.op 0 [] (some 10) none true (.fad (.t 3) 6)
  (.op 1 [] (some 11) none true (.load none (.t 10))
  (.op 2 [] (some 12) none true (.mov (.t 0))
  (.op 3 [] (some 13) none false (.call 13 205 [(.t 12), (.v (.int .i64 5))])
  (.op 4 [] (some 14) none false (.lit 14 1 [(.v (.int .i64 0))] 1 [(0, 1, (.t 13))])
  (.op 5 [1] (some 15) none false (.app 15 1 8 (.t 11) (.t 14))
  (.op 6 [] (some 16) none true (.fad (.t 3) 6)
  (.op 7 [1] none none false (.store none (.t 16) (.t 15))
  .done)))))))))))))))))))))))
 .skip))
 (.seq (.reg false (.op 0 [] (some 52) none false (.load (some 7) (.t 3))
  (.op 1 [] none none false (.store (some 7) (.t 2) (.t 52))
  .done)))
 .ret))))
theorem dg_spec_l3bent : Tryz.f206.body.bind (digC Tryz.prog Tryz.f206.ntmps []) = some c_spec_l3bent := by kernel_rfl
theorem rs_spec_l3bent : resSlots Tryz.prog Tryz.f206 = some [.m 2 (some 7)] := by kernel_rfl
theorem ok_spec_l3bent (c : Cu) :
    FnOK Tryz.prog 206 [.one (.box c.cells)] (fun ra os => ∃ x : Rr × Cu, (SmallR x.1) ∧ ra = [.agg [.d (encBB x.1.name), .d (.sc (.int .i64 x.1.ty)), .d (.sc (.int .i64 x.1.ttl)), .d (.sc (.int .i64 x.1.addr)), .d (encBB x.1.to), .d (encB x.1.text), .d (encI x.1.nums)]] ∧ os.b 0 = x.2.cells) := by
  refine FnOK.ofK Tryz.func206 (by kernel_rfl) dg_spec_l3bent rs_spec_l3bent rfl rfl ?_
  unfold c_spec_l3bent
  refine kSeq (kReg (kAlloc rfl rfl (kDone (kSeq (kReg (kMovC rfl (kCallE (ok_spec_l3draw _) ⟨⟨rfl, _, rfl, rfl⟩, trivial⟩ rfl rfl rfl (fun _ => rfl) (fun x0 hx0 => (kAlloc rfl rfl (kMem [(16384, ⟨1, 0, .box [.nil 1, .d _, .d _, .d _, .nil 1, .nil 1, .nil 1]⟩), (24576, ⟨1, 0, .arr true _⟩), (24580, ⟨1, 0, .arr true _⟩), (24581, ⟨1, 0, .arr true _⟩), (24582, ⟨1, 0, .arr true _⟩)] [(3, .c (.ptr 16384 1 0)), (5, .g [.arr 24576 1, .d _, .d _, .d _, .arr 24580 1, .arr 24581 1, .arr 24582 1])] [] ⟨rfl, rfl, rfl, rfl, rfl, trivial⟩ ⟨rfl, rfl, trivial⟩ rfl (kStoreP rfl rfl rfl rfl (kDone (kSeq (kSeq (kReg (kMovC rfl (kCallE (ok_spec_l1Once _ _) ⟨⟨rfl, _, rfl, rfl⟩, rfl, trivial⟩ rfl rfl rfl (fun _ => rfl) (fun x1 hx1 => (kDone (kCond rfl (fun g2 => kSeq (kReg (kMovC rfl (kCallE (ok_spec_l1Below _ _) ⟨⟨rfl, _, rfl, rfl⟩, rfl, trivial⟩ rfl rfl rfl (fun _ => rfl) (fun x3 hx3 => (kDone (kBlock (kSeq (kReg (kBin rfl rfl rfl (kMovC rfl (kDone (kCondP rfl (fun g4 => kReg (kMovC rfl (kCallE (ok_spec_l2bent _) ⟨⟨rfl, _, rfl, rfl⟩, trivial⟩ rfl rfl rfl (fun _ => rfl) (fun x5 hx5 => (kMem [(16384, ⟨1, 0, .box [.arr 24576 1, .d _, .d _, .d _, .arr 24580 1, .arr 24581 1, .arr 24582 1]⟩), (24576, ⟨1, 0, .arr true _⟩), (24580, ⟨1, 0, .arr true _⟩), (24581, ⟨1, 0, .arr true _⟩), (24582, ⟨1, 0, .arr true _⟩)] [(3, .c (.ptr 16384 1 0)), (21, .c (.un)), (20, .g [.d _])] [] ⟨rfl, rfl, rfl, rfl, rfl, trivial⟩ ⟨rfl, rfl, rfl, trivial⟩ rfl (kFadP rfl rfl (kStoreP rfl rfl rfl rfl (kDone (kBk (kSeq (kReg (kLoadP rfl rfl rfl (kMem [(12288, ⟨1, 0, .box [.nil 1, .d _, .d _, .d _, .nil 1, .nil 1, .nil 1]⟩), (24580, ⟨1, 0, .arr true _⟩), (24581, ⟨1, 0, .arr true _⟩), (24582, ⟨1, 0, .arr true _⟩)] [(2, .c (.ptr 12288 1 0)), (52, .g [.d _, .d _, .d _, .d _, .arr 24580 1, .arr 24581 1, .arr 24582 1])] [] ⟨rfl, rfl, rfl, rfl, trivial⟩ ⟨rfl, rfl, trivial⟩ rfl (kStoreP rfl rfl rfl rfl (kDone (kMem [(12288, ⟨1, 0, .box [.d _, .d _, .d _, .d _, .arr 24580 1, .arr 24581 1, .arr 24582 1]⟩), (24580, ⟨1, 0, .arr true _⟩), (24581, ⟨1, 0, .arr true _⟩), (24582, ⟨1, 0, .arr true _⟩)] [(2, .c (.ptr 12288 1 0))] [] ⟨rfl, rfl, rfl, rfl, trivial⟩ ⟨rfl, trivial⟩ rfl (kRet (endRetA (ra := [.agg [(.d _), (.d _), (.d _), (.d _), (.d _), (.d _), (.d _)]]) rfl ?_)))))))))))))))))) (fun g4 => kSeq (kReg (kBin rfl rfl rfl (kMovC rfl (kDone (kCondP rfl (fun g6 => kReg (kMem [(0, ⟨0, 3, .box [.d _, .d _, .d _]⟩), (16384, ⟨1, 0, .box [.arr 24576 1, .d _, .d _, .d _, .arr 24580 1, .arr 24581 1, .arr 24582 1]⟩), (24576, ⟨1, 0, .arr true _⟩), (24580, ⟨1, 0, .arr true _⟩), (24581, ⟨1, 0, .arr true _⟩), (24582, ⟨1, 0, .arr true _⟩)] [(0, .c (.ptr 0 0 0)), (24, .c (.un)), (25, .c (.un)), (3, .c (.ptr 16384 1 0)), (27, .c (.un)), (26, .c (.un))] [] ⟨rfl, rfl, rfl, rfl, rfl, rfl, trivial⟩ ⟨rfl, rfl, rfl, rfl, rfl, rfl, trivial⟩ rfl (kMovC rfl (kLitD rfl rfl rfl rfl (kCallE (ok_spec_l1PickInt _ _ (by first | assumption | omega | solve_by_elim [List.getElem_mem] | (simp only [szOut] at *; omega) | exact rfl | exact Nat.le_of_ble_eq_true rfl) (by first | assumption | omega | solve_by_elim [List.getElem_mem] | (simp only [szOut] at *; omega) | exact rfl | exact Nat.le_of_ble_eq_true rfl) (by first | assumption | omega | solve_by_elim [List.getElem_mem] | (simp only [szOut] at *; omega) | exact rfl | exact Nat.le_of_ble_eq_true rfl)) ⟨⟨rfl, _, rfl, rfl⟩, rfl, trivial⟩ rfl rfl rfl (fun _ => rfl) (fun x7 hx7 => (kFadP rfl rfl (kStoreP rfl rfl rfl rfl (kDone (kBk (kSeq (kReg (kLoadP rfl rfl rfl (kMem [(12288, ⟨1, 0, .box [.nil 1, .d _, .d _, .d _, .nil 1, .nil 1, .nil 1]⟩), (24576, ⟨1, 0, .arr true _⟩), (24580, ⟨1, 0, .arr true _⟩), (24581, ⟨1, 0, .arr true _⟩), (24582, ⟨1, 0, .arr true _⟩)] [(2, .c (.ptr 12288 1 0)), (52, .g [.arr 24576 1, .d _, .d _, .d _, .arr 24580 1, .arr 24581 1, .arr 24582 1])] [] ⟨rfl, rfl, rfl, rfl, rfl, trivial⟩ ⟨rfl, rfl, trivial⟩ rfl (kStoreP rfl rfl rfl rfl (kDone (kMem [(12288, ⟨1, 0, .box [.arr 24576 1, .d _, .d _, .d _, .arr 24580 1, .arr 24581 1, .arr 24582 1]⟩), (24576, ⟨1, 0, .arr true _⟩), (24580, ⟨1, 0, .arr true _⟩), (24581, ⟨1, 0, .arr true _⟩), (24582, ⟨1, 0, .arr true _⟩)] [(2, .c (.ptr 12288 1 0))] [] ⟨rfl, rfl, rfl, rfl, rfl, trivial⟩ ⟨rfl, trivial⟩ rfl (kRet (endRetA (ra := [.agg [(.d _), (.d _), (.d _), (.d _), (.d _), (.d _), (.d _)]]) rfl ?_))))))))))))))))))) (fun g6 => kSeq (kReg (kBin rfl rfl rfl (kMovC rfl (kDone (kCondP rfl (fun g8 => kReg (kMem [(0, ⟨0, 3, .box [.d _, .d _, .d _]⟩), (16384, ⟨1, 0, .box [.arr 24576 1, .d _, .d _, .d _, .arr 24580 1, .arr 24581 1, .arr 24582 1]⟩), (24576, ⟨1, 0, .arr true _⟩), (24580, ⟨1, 0, .arr true _⟩), (24581, ⟨1, 0, .arr true _⟩), (24582, ⟨1, 0, .arr true _⟩)] [(0, .c (.ptr 0 0 0)), (30, .c (.un)), (31, .c (.un)), (3, .c (.ptr 16384 1 0)), (33, .c (.un)), (32, .c (.un))] [] ⟨rfl, rfl, rfl, rfl, rfl, rfl, trivial⟩ ⟨rfl, rfl, rfl, rfl, rfl, rfl, trivial⟩ rfl (kMovC rfl (kLitD rfl rfl rfl rfl (kCallE (ok_spec_l1PickInt _ _ (by first | assumption | omega | solve_by_elim [List.getElem_mem] | (simp only [szOut] at *; omega) | exact rfl | exact Nat.le_of_ble_eq_true rfl) (by first | assumption | omega | solve_by_elim [List.getElem_mem] | (simp only [szOut] at *; omega) | exact rfl | exact Nat.le_of_ble_eq_true rfl) (by first | assumption | omega | solve_by_elim [List.getElem_mem] | (simp only [szOut] at *; omega) | exact rfl | exact Nat.le_of_ble_eq_true rfl)) ⟨⟨rfl, _, rfl, rfl⟩, rfl, trivial⟩ rfl rfl rfl (fun _ => rfl) (fun x9 hx9 => (kFadP rfl rfl (kStoreP rfl rfl rfl rfl (kDone (kBk (kSeq (kReg (kLoadP rfl rfl rfl (kMem [(12288, ⟨1, 0, .box [.nil 1, .d _, .d _, .d _, .nil 1, .nil 1, .nil 1]⟩), (24576, ⟨1, 0, .arr true _⟩), (24580, ⟨1, 0, .arr true _⟩), (24581, ⟨1, 0, .arr true _⟩), (24582, ⟨1, 0, .arr true _⟩)] [(2, .c (.ptr 12288 1 0)), (52, .g [.arr 24576 1, .d _, .d _, .d _, .arr 24580 1, .arr 24581 1, .arr 24582 1])] [] ⟨rfl, rfl, rfl, rfl, rfl, trivial⟩ ⟨rfl, rfl, trivial⟩ rfl (kStoreP rfl rfl rfl rfl (kDone (kMem [(12288, ⟨1, 0, .box [.arr 24576 1, .d _, .d _, .d _, .arr 24580 1, .arr 24581 1, .arr 24582 1]⟩), (24576, ⟨1, 0, .arr true _⟩), (24580, ⟨1, 0, .arr true _⟩), (24581, ⟨1, 0, .arr true _⟩), (24582, ⟨1, 0, .arr true _⟩)] [(2, .c (.ptr 12288 1 0))] [] ⟨rfl, rfl, rfl, rfl, rfl, trivial⟩ ⟨rfl, trivial⟩ rfl (kRet (endRetA (ra := [.agg [(.d _), (.d _), (.d _), (.d _), (.d _), (.d _), (.d _)]]) rfl ?_))))))))))))))))))) (fun g8 => kSeq (kReg (kBin rfl rfl rfl (kMovC rfl (kDone (kCondP rfl (fun g10 => kReg (kMem [(0, ⟨0, 3, .box [.d _, .d _, .d _]⟩), (16384, ⟨1, 0, .box [.arr 24576 1, .d _, .d _, .d _, .arr 24580 1, .arr 24581 1, .arr 24582 1]⟩), (24576, ⟨1, 0, .arr true _⟩), (24580, ⟨1, 0, .arr true _⟩), (24581, ⟨1, 0, .arr true _⟩), (24582, ⟨1, 0, .arr true _⟩)] [(0, .c (.ptr 0 0 0)), (36, .c (.un)), (37, .c (.un)), (3, .c (.ptr 16384 1 0)), (39, .c (.un)), (38, .c (.un))] [] ⟨rfl, rfl, rfl, rfl, rfl, rfl, trivial⟩ ⟨rfl, rfl, rfl, rfl, rfl, rfl, trivial⟩ rfl (kMovC rfl (kLitD rfl rfl rfl rfl (kCallE (ok_spec_l1PickInt _ _ (by first | assumption | omega | solve_by_elim [List.getElem_mem] | (simp only [szOut] at *; omega) | exact rfl | exact Nat.le_of_ble_eq_true rfl) (by first | assumption | omega | solve_by_elim [List.getElem_mem] | (simp only [szOut] at *; omega) | exact rfl | exact Nat.le_of_ble_eq_true rfl) (by first | assumption | omega | solve_by_elim [List.getElem_mem] | (simp only [szOut] at *; omega) | exact rfl | exact Nat.le_of_ble_eq_true rfl)) ⟨⟨rfl, _, rfl, rfl⟩, rfl, trivial⟩ rfl rfl rfl (fun _ => rfl) (fun x11 hx11 => (kFadP rfl rfl (kStoreP rfl rfl rfl rfl (kDone (kBk (kSeq (kReg (kLoadP rfl rfl rfl (kMem [(12288, ⟨1, 0, .box [.nil 1, .d _, .d _, .d _, .nil 1, .nil 1, .nil 1]⟩), (24576, ⟨1, 0, .arr true _⟩), (24580, ⟨1, 0, .arr true _⟩), (24581, ⟨1, 0, .arr true _⟩), (24582, ⟨1, 0, .arr true _⟩)] [(2, .c (.ptr 12288 1 0)), (52, .g [.arr 24576 1, .d _, .d _, .d _, .arr 24580 1, .arr 24581 1, .arr 24582 1])] [] ⟨rfl, rfl, rfl, rfl, rfl, trivial⟩ ⟨rfl, rfl, trivial⟩ rfl (kStoreP rfl rfl rfl rfl (kDone (kMem [(12288, ⟨1, 0, .box [.arr 24576 1, .d _, .d _, .d _, .arr 24580 1, .arr 24581 1, .arr 24582 1]⟩), (24576, ⟨1, 0, .arr true _⟩), (24580, ⟨1, 0, .arr true _⟩), (24581, ⟨1, 0, .arr true _⟩), (24582, ⟨1, 0, .arr true _⟩)] [(2, .c (.ptr 12288 1 0))] [] ⟨rfl, rfl, rfl, rfl, rfl, trivial⟩ ⟨rfl, trivial⟩ rfl (kRet (endRetA (ra := [.agg [(.d _), (.d _), (.d _), (.d _), (.d _), (.d _), (.d _)]]) rfl ?_))))))))))))))))))) (fun g10 => kSeq (kReg (kBin rfl rfl rfl (kMovC rfl (kDone (kCondP rfl (fun g12 => kReg (kMem [(0, ⟨0, 3, .box [.d _, .d _, .d _]⟩), (16384, ⟨1, 0, .box [.arr 24576 1, .d _, .d _, .d _, .arr 24580 1, .arr 24581 1, .arr 24582 1]⟩), (24576, ⟨1, 0, .arr true _⟩), (24580, ⟨1, 0, .arr true _⟩), (24581, ⟨1, 0, .arr true _⟩), (24582, ⟨1, 0, .arr true _⟩)] [(0, .c (.ptr 0 0 0)), (42, .c (.un)), (3, .c (.ptr 16384 1 0)), (44, .c (.un)), (43, .c (.un))] [] ⟨rfl, rfl, rfl, rfl, rfl, rfl, trivial⟩ ⟨rfl, rfl, rfl, rfl, rfl, trivial⟩ rfl (kMovC rfl (kCallE (ok_spec_l2bent _) ⟨⟨rfl, _, rfl, rfl⟩, trivial⟩ rfl rfl rfl (fun _ => rfl) (fun x13 hx13 => (kFadP rfl rfl (kStoreP rfl rfl rfl rfl (kDone (kBk (kSeq (kReg (kLoadP rfl rfl rfl (kMem [(12288, ⟨1, 0, .box [.nil 1, .d _, .d _, .d _, .nil 1, .nil 1, .nil 1]⟩), (24576, ⟨1, 0, .arr true _⟩), (24581, ⟨1, 0, .arr true _⟩), (24582, ⟨1, 0, .arr true _⟩)] [(2, .c (.ptr 12288 1 0)), (52, .g [.arr 24576 1, .d _, .d _, .d _, .d _, .arr 24581 1, .arr 24582 1])] [] ⟨rfl, rfl, rfl, rfl, trivial⟩ ⟨rfl, rfl, trivial⟩ rfl (kStoreP rfl rfl rfl rfl (kDone (kMem [(12288, ⟨1, 0, .box [.arr 24576 1, .d _, .d _, .d _, .d _, .arr 24581 1, .arr 24582 1]⟩), (24576, ⟨1, 0, .arr true _⟩), (24581, ⟨1, 0, .arr true _⟩), (24582, ⟨1, 0, .arr true _⟩)] [(2, .c (.ptr 12288 1 0))] [] ⟨rfl, rfl, rfl, rfl, trivial⟩ ⟨rfl, trivial⟩ rfl (kRet (endRetA (ra := [.agg [(.d _), (.d _), (.d _), (.d _), (.d _), (.d _), (.d _)]]) rfl ?_)))))))))))))))))) (fun g12 => kSeq (kReg (kBin rfl rfl rfl (kMovC rfl (kDone (kCondP rfl (fun g14 => kReg (kMem [(0, ⟨0, 3, .box [.d _, .d _, .d _]⟩), (16384, ⟨1, 0, .box [.arr 24576 1, .d _, .d _, .d _, .arr 24580 1, .arr 24581 1, .arr 24582 1]⟩), (24576, ⟨1, 0, .arr true _⟩), (24580, ⟨1, 0, .arr true _⟩), (24581, ⟨1, 0, .arr true _⟩), (24582, ⟨1, 0, .arr true _⟩)] [(0, .c (.ptr 0 0 0)), (47, .c (.un)), (48, .c (.un)), (49, .c (.un)), (3, .c (.ptr 16384 1 0)), (51, .c (.un)), (50, .c (.un))] [] ⟨rfl, rfl, rfl, rfl, rfl, rfl, trivial⟩ ⟨rfl, rfl, rfl, rfl, rfl, rfl, rfl, trivial⟩ rfl (kMovC rfl (kCallE (ok_spec_l1Below _ _) ⟨⟨rfl, _, rfl, rfl⟩, rfl, trivial⟩ rfl rfl rfl (fun _ => rfl) (fun x15 hx15 => (kAdd rfl rfl (by omega) ?_)))))) (fun g14 => kRegD (kMem [(16384, ⟨1, 0, .box [.arr 24576 1, .d _, .d _, .d _, .arr 24580 1, .arr 24581 1, .arr 24582 1]⟩), (0, ⟨0, 3, .box [.d _, .d _, .d _]⟩), (24576, ⟨1, 0, .arr true _⟩), (24580, ⟨1, 0, .arr true _⟩), (24581, ⟨1, 0, .arr true _⟩), (24582, ⟨1, 0, .arr true _⟩)] [(3, .c (.ptr 16384 1 0)), (10, .c (.un)), (0, .c (.ptr 0 0 0)), (12, .c (.un)), (13, .c (.un)), (11, .c (.un)), (14, .c (.un)), (16, .c (.un)), (15, .c (.un))] [] ⟨rfl, rfl, rfl, rfl, rfl, rfl, trivial⟩ ⟨rfl, rfl, rfl, rfl, rfl, rfl, rfl, rfl, rfl, trivial⟩ rfl (kFadP rfl rfl (kLoadP rfl rfl rfl (kMovC rfl (kCallE (ok_spec_l1Below _ _) ⟨⟨rfl, _, rfl, rfl⟩, rfl, trivial⟩ rfl rfl rfl (fun _ => rfl) (fun x16 hx16 => (kLitG rfl rfl rfl rfl (kRelF rfl rfl ?_)))))))))))))))))))))))))))))))))))))))))))))))))))) (fun g2 => kSkip (kSeq (kReg (kLoadP rfl rfl rfl (kMem [(12288, ⟨1, 0, .box [.nil 1, .d _, .d _, .d _, .nil 1, .nil 1, .nil 1]⟩), (24576, ⟨1, 0, .arr true _⟩), (24580, ⟨1, 0, .arr true _⟩), (24581, ⟨1, 0, .arr true _⟩), (24582, ⟨1, 0, .arr true _⟩)] [(2, .c (.ptr 12288 1 0)), (52, .g [.arr 24576 1, .d _, .d _, .d _, .arr 24580 1, .arr 24581 1, .arr 24582 1])] [] ⟨rfl, rfl, rfl, rfl, rfl, trivial⟩ ⟨rfl, rfl, trivial⟩ rfl (kStoreP rfl rfl rfl rfl (kDone (kMem [(12288, ⟨1, 0, .box [.arr 24576 1, .d _, .d _, .d _, .arr 24580 1, .arr 24581 1, .arr 24582 1]⟩), (24576, ⟨1, 0, .arr true _⟩), (24580, ⟨1, 0, .arr true _⟩), (24581, ⟨1, 0, .arr true _⟩), (24582, ⟨1, 0, .arr true _⟩)] [(2, .c (.ptr 12288 1 0))] [] ⟨rfl, rfl, rfl, rfl, rfl, trivial⟩ ⟨rfl, trivial⟩ rfl (kRet (endRetA (ra := [.agg [(.d _), (.d _), (.d _), (.d _), (.d _), (.d _), (.d _)]]) rfl ?_))))))))))))))))))))))))))))))
  · exact ⟨({ x0.1 with name := x5.1 }, x5.2), ⟨.bent hx5, (rrOk_small hx0).t, (rrOk_small hx0).x, (rrOk_small hx0).m⟩, rfl, rfl⟩
  · exact ⟨({ x0.1 with ty := x7.1 }, x7.2), ⟨(rrOk_small hx0).n, (rrOk_small hx0).t, (rrOk_small hx0).x, (rrOk_small hx0).m⟩, rfl, rfl⟩
  · exact ⟨({ x0.1 with ttl := x9.1 }, x9.2), ⟨(rrOk_small hx0).n, (rrOk_small hx0).t, (rrOk_small hx0).x, (rrOk_small hx0).m⟩, rfl, rfl⟩
  · exact ⟨({ x0.1 with addr := x11.1 }, x11.2), ⟨(rrOk_small hx0).n, (rrOk_small hx0).t, (rrOk_small hx0).x, (rrOk_small hx0).m⟩, rfl, rfl⟩
  · exact ⟨({ x0.1 with to := x13.1 }, x13.2), ⟨(rrOk_small hx0).n, .bent hx13, (rrOk_small hx0).x, (rrOk_small hx0).m⟩, rfl, rfl⟩
  · refine kMk rfl (by omega) rfl rfl rfl rfl rfl ?_
    rw [show DV.sl 1 (List.replicate (Int.toNat (40 + x15.1)) [.sc (.int .u8 0)]) = encB (List.replicate (Int.toNat (40 + x15.1)) 0) by simp [encB]]
    refine kFadP rfl rfl (kStoreP rfl rfl rfl rfl (kDone (kBk (kSeq (kReg (kLoadP rfl rfl rfl (kMem [(12288, ⟨1, 0, .box [.nil 1, .d _, .d _, .d _, .nil 1, .nil 1, .nil 1]⟩), (24576, ⟨1, 0, .arr true _⟩), (24580, ⟨1, 0, .arr true _⟩), (208896, ⟨1, 0, .arr true _⟩), (24582, ⟨1, 0, .arr true _⟩)] [(2, .c (.ptr 12288 1 0)), (52, .g [.arr 24576 1, .d _, .d _, .d _, .arr 24580 1, .arr 208896 1, .arr 24582 1])] [] ⟨rfl, rfl, rfl, rfl, rfl, trivial⟩ ⟨rfl, rfl, trivial⟩ rfl (kStoreP rfl rfl rfl rfl (kDone (kMem [(12288, ⟨1, 0, .box [.arr 24576 1, .d _, .d _, .d _, .arr 24580 1, .arr 208896 1, .arr 24582 1]⟩), (24576, ⟨1, 0, .arr true _⟩), (24580, ⟨1, 0, .arr true _⟩), (208896, ⟨1, 0, .arr true _⟩), (24582, ⟨1, 0, .arr true _⟩)] [(2, .c (.ptr 12288 1 0))] [] ⟨rfl, rfl, rfl, rfl, rfl, trivial⟩ ⟨rfl, trivial⟩ rfl (kRet (endRetA (ra := [.agg [(.d _), (.d _), (.d _), (.d _), (.d _), (.d _), (.d _)]]) rfl ?_))))))))))))
    exact ⟨({ x0.1 with text := List.replicate (Int.toNat (40 + x15.1)) 0 }, x15.2), ⟨(rrOk_small hx0).n, (rrOk_small hx0).t, show (List.replicate (Int.toNat (40 + x15.1)) (0 : UInt8)).length ≤ 4194304 from by rw [List.length_replicate]; omega, (rrOk_small hx0).m⟩, rfl, rfl⟩
  · have hm := (rrOk_lens hx0).1
    refine kAppR1 (z := x16.1) rfl rfl rfl rfl rfl rfl rfl rfl (by omega) ?_
    refine kFadP rfl rfl (kRelF rfl rfl (kStoreP rfl rfl rfl rfl (kDone (kH (kBk (kSeq (kReg (kLoadP rfl rfl rfl (kMem [(12288, ⟨1, 0, .box [.nil 1, .d _, .d _, .d _, .nil 1, .nil 1, .nil 1]⟩), (24576, ⟨1, 0, .arr true _⟩), (24580, ⟨1, 0, .arr true _⟩), (24581, ⟨1, 0, .arr true _⟩), (24582, ⟨2, 0, .arr true _⟩)] [(2, .c (.ptr 12288 1 0)), (52, .g [.arr 24576 1, .d _, .d _, .d _, .arr 24580 1, .arr 24581 1, .arr 24582 2])] [] ⟨rfl, rfl, rfl, rfl, rfl, trivial⟩ ⟨rfl, rfl, trivial⟩ rfl (kStoreP rfl rfl rfl rfl (kDone (kMem [(12288, ⟨1, 0, .box [.arr 24576 1, .d _, .d _, .d _, .arr 24580 1, .arr 24581 1, .arr 24582 2]⟩), (24576, ⟨1, 0, .arr true _⟩), (24580, ⟨1, 0, .arr true _⟩), (24581, ⟨1, 0, .arr true _⟩), (24582, ⟨2, 0, .arr true _⟩)] [(2, .c (.ptr 12288 1 0))] [] ⟨rfl, rfl, rfl, rfl, rfl, trivial⟩ ⟨rfl, trivial⟩ rfl (kRet (endRetA (ra := [.agg [(.d _), (.d _), (.d _), (.d _), (.d _), (.d _), (.d _)]]) rfl ?_))))))))))))))
    exact ⟨({ x0.1 with nums := x0.1.nums ++ [x16.1] }, x16.2), ⟨(rrOk_small hx0).n, (rrOk_small hx0).t, (rrOk_small hx0).x, show (x0.1.nums ++ [x16.1]).length ≤ 4194304 from by rw [List.length_append]; simp; omega⟩, rfl, rfl⟩
  · exact ⟨(x0.1, x1.2), (rrOk_small hx0), rfl, rfl⟩

def c_spec_l5bent : C := (.seq (.reg false (.op 0 [] (some 2) none false (.alloc 2 [(.n 1), (.n 7)])
  .done))
 (.seq (.reg false (.op 0 [] (some 4) none false (.mov (.t 0))
  (.op 1 [] (some 5) none false (.call 5 204 [(.t 4)])
  (.op 2 [] (some 3) none false (.alloc 3 [(.n 1), (.n 7)])
  (.op 3 [] none none false (.store (some 2) (.t 3) (.t 5))
  .done)))))
 (.seq (.seq (.reg false (.op 0 [] (some 6) none false (.mov (.t 0))
  (.op 1 [] (some 7) none false (.call 7 102 [(.t 6), (.v (.int .i64 9))])
  .done)))
 (.cond (.t 7)
 (.seq (.reg false (.op 0 [] (some 8) none false (.mov (.t 0))
  (.op 1 [] (some 9) none false (.call 9 205 [(.t 8), (.v (.int .i64 4))])
  .done)))
 (.block 0 (.seq (.reg false (.op 0 [] (some 15) none false (.bin .eql (.t 9) (.v (.int .i64 0)))
  (.op 1 [] (some 14) none false (.mov (.t 15))
  .done)))
 (.cond (.t 14)
 (.reg false (.op 0 [] (some 16) none false (.mov (.t 0))
  (.op 1 [] (some 17) none false (.call 17 176 [(.t 16)])
  (.op 2 [] (some 18) none false (.fad (.t 3) 0)
  (.op 3 [] none none false (.store (some 1) (.t 18) (.t 17))
  .done)))))
 (.seq (.reg false (.op 0 [] (some 20) none false (.bin .eql (.t 9) (.v (.int .i64 1)))
  (.op 1 [] (some 19) none false (.mov (.t 20))
  .done)))
 (.cond (.t 19)
 (.reg true (.op 0 [] (some 21) none true (.fad (.t 3) 1)
  (.op 1 [] (some 22) none true (.load none (.t 21))
  (.op 2 [] (some 23) none true (.mov (.t 0))
  (.op 3 [] (some 24) none false (.call 24 206 [(.t 23)])
  (.op 4 [] (some 25) none false (.lit 25 7 [(.n 1), (.v (.int .i64 0)), (.v (.int .i64 0)), (.v (.int .i64 0)), (.n 1), (.n 1), (.n 1)] 1 [(0, 7, (.t 24))])
  (.op 5 [1] (some 26) none false (.app 26 7 120 (.t 22) (.t 25))
  (.op 6 [] (some 27) none true (.fad (.t 3) 1)
  (.op 7 [1] none none false (.store none (.t 27) (.t 26))
  .done)))))))))
 (.seq (.reg false (.op 0 [] (some 29) none false (.bin .eql (.t 9) (.v (.int .i64 2)))
  (.op 1 [] (some 28) none false (.mov (.t 29))
  .done)))
 (.cond (.t 28)
 (.reg false (.op 0 [] (some 30) none false (.fad (.t 3) 1)
  (.op 1 [] (some 31) none false (.load none (.t 30))
  (.op 2 [] (some 32) none false (.cut 7 (.t 31) (some (.v (.int .i64 1))) none)
  (.op 3 [] (some 33) none false (.fad (.t 3) 1)
  (.op 4 [] none none false (.store none (.t 33) (.t 32))
  .done))))))
 (.reg false (.op 0 [] (some 10) none false (.fad (.t 3) 1)
  (.op 1 [] (some 11) none false (.load none (.t 10))
  (.op 2 [] (some 12) none false (.iad 7 (.t 11) (.v (.int .i64 0)))
  (.op 3 [] (some 13) none false (.fad (.t 12) 2)
  (.op 4 [] none none false (.store none (.t 13) (.v (.int .i64 (-1))))
  .done))))))))))))))
 .skip))
 (.seq (.reg false (.op 0 [] (some 34) none false (.load (some 2) (.t 3))
  (.op 1 [] none none false (.store (some 2) (.t 2) (.t 34))
  .done)))
 .ret))))
theorem dg_spec_l5bent : Tryz.f98.body.bind (digC Tryz.prog Tryz.f98.ntmps []) = some c_spec_l5bent := by kernel_rfl
theorem rs_spec_l5bent : resSlots Tryz.prog Tryz.f98 = some [.m 2 (some 2)] := by kernel_rfl
theorem ok_spec_l5bent (c : Cu) :
    FnOK Tryz.prog 98 [.one (.box c.cells)] (fun ra os => ∃ x : Zone × Cu, (SmallZ x.1) ∧ ra = [.agg [.d (encBB x.1.origin), .d (encR x.1.rrs)]] ∧ os.b 0 = x.2.cells) := by
  refine FnOK.ofK Tryz.func98 (by kernel_rfl) dg_spec_l5bent rs_spec_l5bent rfl rfl ?_
  unfold c_spec_l5bent
  refine kSeq (kReg (kAlloc rfl rfl (kDone (kSeq (kReg (kMovC rfl (kCallE (ok_spec_l5draw _) ⟨⟨rfl, _, rfl, rfl⟩, trivial⟩ rfl rfl rfl (fun _ => rfl) (fun x0 hx0 => (kAlloc rfl rfl (kMem [(16384, ⟨1, 0, .box [.nil 1, .nil 7]⟩), (24576, ⟨1, 0, .arr true _⟩), (24577, ⟨1, 0, .arr true _⟩)] [(3, .c (.ptr 16384 1 0)), (5, .g [.arr 24576 1, .arr 24577 1])] [] ⟨rfl, rfl, rfl, trivial⟩ ⟨rfl, rfl, trivial⟩ rfl (kStoreP rfl rfl rfl rfl (kDone (kSeq (kSeq (kReg (kMovC rfl (kCallE (ok_spec_l1Once _ _) ⟨⟨rfl, _, rfl, rfl⟩, rfl, trivial⟩ rfl rfl rfl (fun _ => rfl) (fun x1 hx1 => (kDone (kCond rfl (fun g2 => kSeq (kReg (kMovC rfl (kCallE (ok_spec_l1Below _ _) ⟨⟨rfl, _, rfl, rfl⟩, rfl, trivial⟩ rfl rfl rfl (fun _ => rfl) (fun x3 hx3 => (kDone (kBlock (kSeq (kReg (kBin rfl rfl rfl (kMovC rfl (kDone (kCondP rfl (fun g4 => kReg (kMovC rfl (kCallE (ok_spec_l2bent _) ⟨⟨rfl, _, rfl, rfl⟩, trivial⟩ rfl rfl rfl (fun _ => rfl) (fun x5 hx5 => (kMem [(16384, ⟨1, 0, .box [.arr 24576 1, .arr 24577 1]⟩), (24576, ⟨1, 0, .arr true _⟩), (24577, ⟨1, 0, .arr true _⟩)] [(3, .c (.ptr 16384 1 0)), (18, .c (.un)), (17, .g [.d _])] [] ⟨rfl, rfl, rfl, trivial⟩ ⟨rfl, rfl, rfl, trivial⟩ rfl (kFadP rfl rfl (kStoreP rfl rfl rfl rfl (kDone (kBk (kSeq (kReg (kLoadP rfl rfl rfl (kMem [(12288, ⟨1, 0, .box [.nil 1, .nil 7]⟩), (24577, ⟨1, 0, .arr true _⟩)] [(2, .c (.ptr 12288 1 0)), (34, .g [.d _, .arr 24577 1])] [] ⟨rfl, rfl, trivial⟩ ⟨rfl, rfl, trivial⟩ rfl (kStoreP rfl rfl rfl rfl (kDone (kMem [(12288, ⟨1, 0, .box [.d _, .arr 24577 1]⟩), (24577, ⟨1, 0, .arr true _⟩)] [(2, .c (.ptr 12288 1 0))] [] ⟨rfl, rfl, trivial⟩ ⟨rfl, trivial⟩ rfl (kRet (endRetA (ra := [.agg [(.d _), (.d _)]]) rfl ?_)))))))))))))))))) (fun g4 => kSeq (kReg (kBin rfl rfl rfl (kMovC rfl (kDone (kCondP rfl (fun g6 => kRegD (kMem [(16384, ⟨1, 0, .box [.arr 24576 1, .arr 24577 1]⟩), (0, ⟨0, 3, .box [.d _, .d _, .d _]⟩), (24576, ⟨1, 0, .arr true _⟩), (24577, ⟨1, 0, .arr true _⟩)] [(3, .c (.ptr 16384 1 0)), (21, .c (.un)), (0, .c (.ptr 0 0 0)), (23, .c (.un)), (24, .c (.un)), (22, .c (.un)), (25, .c (.un)), (27, .c (.un)), (26, .c (.un))] [] ⟨rfl, rfl, rfl, rfl, trivial⟩ ⟨rfl, rfl, rfl, rfl, rfl, rfl, rfl, rfl, rfl, trivial⟩ rfl (kFadP rfl rfl (kLoadP rfl rfl rfl (kMovC rfl (kCallE (ok_spec_l3bent _) ⟨⟨rfl, _, rfl, rfl⟩, trivial⟩ rfl rfl rfl (fun _ => rfl) (fun x7 hx7 => (kLitG rfl rfl rfl rfl (kRelF rfl rfl ?_))))))))) (fun g6 => kSeq (kReg (kBin rfl rfl rfl (kMovC rfl (kDone (kCondP rfl (fun g8 => kReg (kMem [(16384, ⟨1, 0, .box [.arr 24576 1, .arr 24577 1]⟩), (24576, ⟨1, 0, .arr true _⟩), (24577, ⟨1, 0, .arr true _⟩)] [(3, .c (.ptr 16384 1 0)), (30, .c (.un)), (31, .c (.un)), (33, .c (.un)), (32, .c (.un))] [] ⟨rfl, rfl, rfl, trivial⟩ ⟨rfl, rfl, rfl, rfl, rfl, trivial⟩ rfl (kFadP rfl rfl (kLoadP rfl rfl rfl ?_)))) (fun g8 => kReg (kMem [(16384, ⟨1, 0, .box [.arr 24576 1, .arr 24577 1]⟩), (24576, ⟨1, 0, .arr true _⟩), (24577, ⟨1, 0, .arr true _⟩)] [(3, .c (.ptr 16384 1 0)), (10, .c (.un)), (11, .c (.un)), (12, .c (.un)), (13, .c (.un))] [] ⟨rfl, rfl, rfl, trivial⟩ ⟨rfl, rfl, rfl, rfl, rfl, trivial⟩ rfl (kFadP rfl rfl (kLoadP rfl rfl rfl ?_))))))))))))))))))))))))))))) (fun g2 => kSkip (kSeq (kReg (kLoadP rfl rfl rfl (kMem [(12288, ⟨1, 0, .box [.nil 1, .nil 7]⟩), (24576, ⟨1, 0, .arr true _⟩), (24577, ⟨1, 0, .arr true _⟩)] [(2, .c (.ptr 12288 1 0)), (34, .g [.arr 24576 1, .arr 24577 1])] [] ⟨rfl, rfl, rfl, trivial⟩ ⟨rfl, rfl, trivial⟩ rfl (kStoreP rfl rfl rfl rfl (kDone (kMem [(12288, ⟨1, 0, .box [.arr 24576 1, .arr 24577 1]⟩), (24576, ⟨1, 0, .arr true _⟩), (24577, ⟨1, 0, .arr true _⟩)] [(2, .c (.ptr 12288 1 0))] [] ⟨rfl, rfl, rfl, trivial⟩ ⟨rfl, trivial⟩ rfl (kRet (endRetA (ra := [.agg [(.d _), (.d _)]]) rfl ?_))))))))))))))))))))))))))))))
  · exact ⟨(⟨x5.1, x0.1.rrs⟩, x5.2), ⟨.bent hx5, (zoneOk_small hx0).r⟩, rfl, rfl⟩
  · have hp := zoneOk_pos hx0
    have hs := zoneOk_small hx0
    refine kAppRec rfl rfl rfl rfl rfl rfl rfl (by first | omega | (simp only [List.length_append, List.length_cons, List.length_nil]; omega)) (kFadP rfl rfl (kRelF rfl rfl (kStoreP rfl rfl rfl rfl (kDone (kH (kBk (kSeq (kReg (kLoadP rfl rfl rfl (kMem [(12288, ⟨1, 0, .box [.nil 1, .nil 7]⟩), (24576, ⟨1, 0, .arr true _⟩), (24577, ⟨2, 0, .arr false _⟩)] [(2, .c (.ptr 12288 1 0)), (34, .g [.arr 24576 1, .arr 24577 2])] [] ⟨rfl, rfl, rfl, trivial⟩ ⟨rfl, rfl, trivial⟩ rfl (kStoreP rfl rfl rfl rfl (kDone (kMem [(12288, ⟨1, 0, .box [.arr 24576 1, .arr 24577 2]⟩), (24576, ⟨1, 0, .arr true _⟩), (24577, ⟨2, 0, .arr false _⟩)] [(2, .c (.ptr 12288 1 0))] [] ⟨rfl, rfl, rfl, trivial⟩ ⟨rfl, trivial⟩ rfl (kRet (endRetA (ra := [.agg [(.d _), (.d _)]]) rfl ?_)))))))))))))))
    exact ⟨(⟨x0.1.origin, x0.1.rrs ++ [x7.1]⟩, x7.2), ⟨hs.o, ⟨by simp; omega, fun r hr => by
      rcases List.mem_append.1 hr with hr | hr
      · exact hs.r.mem r hr
      · simp only [List.mem_singleton] at hr; rw [hr]; exact hx7⟩⟩, rfl, rfl⟩
  · have hp := zoneOk_pos hx0
    have hs := zoneOk_small hx0
    refine kCutAL (a := 1) rfl rfl rfl rfl rfl rfl (by omega) ?_
    refine kFadP rfl rfl (kStoreP rfl rfl rfl rfl (kDone (kBk (kSeq (kReg (kLoadP rfl rfl rfl (kMem [(12288, ⟨1, 0, .box [.nil 1, .nil 7]⟩), (24576, ⟨1, 0, .arr true _⟩)] [(2, .c (.ptr 12288 1 0)), (34, .g [.arr 24576 1, .d _])] [] ⟨rfl, rfl, trivial⟩ ⟨rfl, rfl, trivial⟩ rfl (kStoreP rfl rfl rfl rfl (kDone (kMem [(12288, ⟨1, 0, .box [.arr 24576 1, .d _]⟩), (24576, ⟨1, 0, .arr true _⟩)] [(2, .c (.ptr 12288 1 0))] [] ⟨rfl, rfl, trivial⟩ ⟨rfl, trivial⟩ rfl (kRet (endRetA (ra := [.agg [(.d _), (.d _)]]) rfl ?_))))))))))))
    exact ⟨(⟨x0.1.origin, x0.1.rrs.drop 1⟩, x3.2), ⟨hs.o, ⟨by simp; omega, fun r hr => hs.r.mem r (List.mem_of_mem_drop hr)⟩⟩, rfl, rfl⟩
  · have hp := zoneOk_pos hx0
    have hs := zoneOk_small hx0
    refine kIadAR (m := 0) rfl rfl rfl rfl (by first | omega | (simp only [List.length_append, List.length_cons, List.length_nil]; omega)) (kFadE rfl rfl ?_)
    refine kStoreER (z := ({ x0.1.rrs[0]'hp.1 with ttl := -1 } : Rr)) rfl rfl rfl rfl rfl rfl rfl hp.1 rfl ?_
    refine kDone (kBk (kSeq (kReg (kLoadP rfl rfl rfl (kMem [(12288, ⟨1, 0, .box [.nil 1, .nil 7]⟩), (24576, ⟨1, 0, .arr true _⟩), (24577, ⟨1, 1, .arr true _⟩)] [(2, .c (.ptr 12288 1 0)), (34, .g [.arr 24576 1, .arr 24577 1])] [] ⟨rfl, rfl, rfl, trivial⟩ ⟨rfl, rfl, trivial⟩ rfl (kStoreP rfl rfl rfl rfl (kDone (kMem [(12288, ⟨1, 0, .box [.arr 24576 1, .arr 24577 1]⟩), (24576, ⟨1, 0, .arr true _⟩), (24577, ⟨1, 1, .arr true _⟩)] [(2, .c (.ptr 12288 1 0))] [] ⟨rfl, rfl, rfl, trivial⟩ ⟨rfl, trivial⟩ rfl (kRet (endRetA (ra := [.agg [(.d _), (.d _)]]) rfl ?_))))))))))
    exact ⟨(⟨x0.1.origin, x0.1.rrs.set 0 { x0.1.rrs[0]'hp.1 with ttl := -1 }⟩, x3.2), ⟨hs.o, ⟨by simp; omega, fun r hr => by
      rcases List.mem_or_eq_of_mem_set hr with hr | hr
      · exact hs.r.mem r hr
      · have := hs.r.mem _ (List.getElem_mem hp.1)
        rw [hr]; exact ⟨this.n, this.t, this.x, this.m⟩⟩⟩, rfl, rfl⟩
  · exact ⟨(x0.1, x1.2), zoneOk_small hx0, rfl, rfl⟩

def c_spec_l5type : C := (.seq (.reg false (.op 0 [] (some 2) none false (.mov (.v (.int .i64 0)))
  .done))
 (.seq (.reg false (.op 0 [] (some 3) none false (.mov (.t 0))
  (.op 1 [] (some 4) none false (.lit 4 1 [(.v (.int .i64 0))] 8 [(0, 1, (.v (.int .i64 1))), (1, 1, (.v (.int .i64 1))), (2, 1, (.v (.int .i64 2))), (3, 1, (.v (.int .i64 5))), (4, 1, (.v (.int .i64 255))), (5, 1, (.v (.int .i64 6))), (6, 1, (.v (.int .i64 16))), (7, 1, (.v (.int .i64 28)))])
  (.op 2 [] (some 5) none false (.call 5 252 [(.t 3), (.t 4)])
  (.op 3 [] (some 2) none false (.mov (.t 5))
  .done)))))
 .ret))
theorem dg_spec_l5type : Tryz.f177.body.bind (digC Tryz.prog Tryz.f177.ntmps []) = some c_spec_l5type := by kernel_rfl
theorem rs_spec_l5type : resSlots Tryz.prog Tryz.f177 = some [.s 2] := by kernel_rfl
theorem ok_spec_l5type (c : Cu) :
    FnOK Tryz.prog 177 [.one (.box c.cells)] (fun ra os => ∃ x : Int × Cu, True ∧ ra = [.one (.d (.sc (.int .i64 x.1)))] ∧ os.b 0 = x.2.cells) := by
  refine FnOK.ofK Tryz.func177 (by kernel_rfl) dg_spec_l5type rs_spec_l5type rfl rfl ?_
  unfold c_spec_l5type
  refine kSeq (kReg (kMovC rfl (kDone (kSeq (kReg (kMovC rfl (kLitD rfl rfl rfl rfl (kCallE (ok_spec_l1PickInt _ _ (by first | assumption | omega | solve_by_elim [List.getElem_mem] | (simp only [szOut] at *; omega) | exact rfl | exact Nat.le_of_ble_eq_true rfl) (by first | assumption | omega | solve_by_elim [List.getElem_mem] | (simp only [szOut] at *; omega) | exact rfl | exact Nat.le_of_ble_eq_true rfl) (by first | assumption | omega | solve_by_elim [List.getElem_mem] | (simp only [szOut] at *; omega) | exact rfl | exact Nat.le_of_ble_eq_true rfl)) ⟨⟨rfl, _, rfl, rfl⟩, rfl, trivial⟩ rfl rfl rfl (fun _ => rfl) (fun x0 hx0 => (kMovC rfl (kDone (kRet (endRetA (ra := [.one (.d _)]) rfl ?_)))))))))))))
  exact ⟨(x0.1, x0.2), trivial, rfl, rfl⟩

def c_spec_DrawSetOf : C := (.seq (.reg false (.op 0 [] (some 2) none false (.alloc 2 [(.n 1), (.n 7)])
  (.op 1 [] (some 3) none false (.alloc 3 [(.n 1)])
  (.op 2 [] (some 4) none false (.mov (.v (.int .i64 0)))
  .done))))
 (.seq (.reg false (.op 0 [] (some 7) none false (.mov (.t 0))
  (.op 1 [] (some 8) none false (.call 8 97 [(.t 7)])
  (.op 2 [] (some 5) none false (.mov (.t 8))
  .done))))
 (.seq (.reg false (.op 0 [] (some 9) none false (.mov (.t 5))
  (.op 1 [] (some 10) none false (.call 10 98 [(.t 9)])
  (.op 2 [] (some 6) none false (.alloc 6 [(.n 1), (.n 7)])
  (.op 3 [] none none false (.store (some 2) (.t 6) (.t 10))
  .done)))))
 (.seq (.seq (.reg false (.op 0 [] (some 11) none false (.mov (.t 5))
  (.op 1 [] (some 12) none false (.call 12 102 [(.t 11), (.v (.int .i64 6))])
  .done)))
 (.cond (.t 12)
 (.seq (.reg true (.op 0 [] (some 13) none true (.load (some 2) (.t 6))
  (.op 1 [] (some 14) none true (.mov (.t 5))
  (.op 3 [] (some 16) none true (.mov (.t 5))
  (.op 2 [] (some 15) none false (.call 15 176 [(.t 14)])
  (.op 4 [] (some 17) none false (.call 17 177 [(.t 16)])
  (.op 5 [0] none none false (.store (some 2) (.t 2) (.t 13))
  (.op 6 [0] none none false (.store (some 1) (.t 3) (.t 15))
  (.op 7 [] (some 4) none true (.mov (.t 17))
  .done)))))))))
 .ret)
 .skip))
 (.seq (.reg true (.op 0 [] (some 18) none true (.load (some 2) (.t 6))
  (.op 1 [] (some 19) none true (.mov (.t 5))
  (.op 3 [] (some 21) none true (.mov (.t 5))
  (.op 2 [] (some 20) none false (.call 20 99 [(.t 19)])
  (.op 4 [] (some 22) none false (.call 22 177 [(.t 21)])
  (.op 5 [0] none none false (.store (some 2) (.t 2) (.t 18))
  (.op 6 [0] none none false (.store (some 1) (.t 3) (.t 20))
  (.op 7 [] (some 4) none true (.mov (.t 22))
  .done)))))))))
 .ret)))))
theorem dg_spec_DrawSetOf : Tryz.f71.body.bind (digC Tryz.prog Tryz.f71.ntmps []) = some c_spec_DrawSetOf := by kernel_rfl
theorem rs_spec_DrawSetOf : resSlots Tryz.prog Tryz.f71 = some [.m 2 (some 2), .m 3 (some 1), .s 4] := by kernel_rfl
theorem ok_spec_DrawSetOf (code : List UInt8) (hb : (code.length : Int) ≤ 9223372036854775807) :
    FnOK Tryz.prog 71 [.one (.d (encB code))] (fun ra _ => ∃ x : Zone × List (List UInt8) × Int, (SmallZ x.1 ∧ SmallBB x.2.1) ∧ ra = [.agg [.d (encBB x.1.origin), .d (encR x.1.rrs)], .agg [.d (encBB x.2.1)], .one (.d (.sc (.int .i64 x.2.2)))]) := by
  refine FnOK.ofK Tryz.func71 (by kernel_rfl) dg_spec_DrawSetOf rs_spec_DrawSetOf rfl rfl ?_
  unfold c_spec_DrawSetOf
  refine kSeq (kReg (kAlloc rfl rfl (kAlloc rfl rfl (kMovC rfl (kDone (kSeq (kReg (kMovC rfl (kCallX false (ok_spec_l1New _ (by first | assumption | omega | solve_by_elim [List.getElem_mem] | (simp only [szOut] at *; omega) | exact rfl | exact Nat.le_of_ble_eq_true rfl | exact rrOk_small (by assumption) | exact zoneOk_small (by assumption) | exact SmallBB.ok (by assumption) | exact (SmallBB.ok (by assumption)).len | exact (SmallBB.ok (by assumption)).mem | exact SmallBB.bent (by assumption))) ⟨rfl, trivial⟩ rfl (fun _ => rfl) (fun _ => rfl) (fun x0 _ hx0 => (kMovC rfl (kDone (kSeq (kReg (kMovC rfl (kCallE (ok_spec_l5bent _) ⟨⟨rfl, _, rfl, rfl⟩, trivial⟩ rfl rfl rfl (fun _ => rfl) (fun x1 hx1 => (kAlloc rfl rfl (kMem [(28672, ⟨1, 0, .box [.nil 1, .nil 7]⟩)] [(6, .c (.ptr 28672 1 0)), (10, .g [.d _, .d _])] [] ⟨rfl, trivial⟩ ⟨rfl, rfl, trivial⟩ rfl (kStoreP rfl rfl rfl rfl (kDone (kSeq (kSeq (kReg (kMovC rfl (kCallE (ok_spec_l1Once _ _) ⟨⟨rfl, _, rfl, rfl⟩, rfl, trivial⟩ rfl rfl rfl (fun _ => rfl) (fun x2 hx2 => (kDone (kCond rfl (fun g3 => kSeq (kRegD (kLoadP rfl rfl rfl (kMovC rfl (kMovC rfl (kCallE (ok_spec_l2bent _) ⟨⟨rfl, _, rfl, rfl⟩, trivial⟩ rfl rfl rfl (fun _ => rfl) (fun x4 hx4 => (kCallE (ok_spec_l5type _) ⟨⟨rfl, _, rfl, rfl⟩, trivial⟩ rfl rfl rfl (fun _ => rfl) (fun x5 hx5 => (kMem [(12288, ⟨1, 0, .box [.nil 1, .nil 7]⟩), (16384, ⟨1, 0, .box [.nil 1]⟩)] [(2, .c (.ptr 12288 1 0)), (13, .g [.d _, .d _]), (3, .c (.ptr 16384 1 0)), (15, .g [.d _]), (17, .c (.d _))] [28672] ⟨rfl, rfl, trivial⟩ ⟨rfl, rfl, rfl, rfl, rfl, trivial⟩ rfl (kRelF rfl rfl (kStoreP rfl rfl rfl rfl (kRelF rfl rfl (kStoreP rfl rfl rfl rfl (kMovC rfl (kDone (kH (kMem [(12288, ⟨1, 0, .box [.d _, .d _]⟩), (16384, ⟨1, 0, .box [.d _]⟩)] [(2, .c (.ptr 12288 1 0)), (3, .c (.ptr 16384 1 0)), (4, .c (.d _))] [] ⟨rfl, rfl, trivial⟩ ⟨rfl, rfl, rfl, trivial⟩ rfl (kRet (endRetA (ra := [.agg [(.d _), (.d _)], .agg [(.d _)], .one (.d _)]) rfl ?_)))))))))))))))))))) (fun g3 => kSkip (kSeq (kRegD (kLoadP rfl rfl rfl (kMovC rfl (kMovC rfl (kCallE (ok_spec_l5owned _) ⟨⟨rfl, _, rfl, rfl⟩, trivial⟩ rfl rfl rfl (fun _ => rfl) (fun x6 hx6 => (kCallE (ok_spec_l5type _) ⟨⟨rfl, _, rfl, rfl⟩, trivial⟩ rfl rfl rfl (fun _ => rfl) (fun x7 hx7 => (kMem [(12288, ⟨1, 0, .box [.nil 1, .nil 7]⟩), (16384, ⟨1, 0, .box [.nil 1]⟩), (86016, ⟨1, 0, .arr true _⟩)] [(2, .c (.ptr 12288 1 0)), (18, .g [.d _, .d _]), (3, .c (.ptr 16384 1 0)), (20, .g [.arr 86016 1]), (22, .c (.d _))] [28672] ⟨rfl, rfl, rfl, trivial⟩ ⟨rfl, rfl, rfl, rfl, rfl, trivial⟩ rfl (kRelF rfl rfl (kStoreP rfl rfl rfl rfl (kRelF rfl rfl (kStoreP rfl rfl rfl rfl (kMovC rfl (kDone (kH (kMem [(12288, ⟨1, 0, .box [.d _, .d _]⟩), (16384, ⟨1, 0, .box [.arr 86016 1]⟩), (86016, ⟨1, 0, .arr true _⟩)] [(2, .c (.ptr 12288 1 0)), (3, .c (.ptr 16384 1 0)), (4, .c (.d _))] [] ⟨rfl, rfl, rfl, trivial⟩ ⟨rfl, rfl, rfl, trivial⟩ rfl (kRet (endRetA (ra := [.agg [(.d _), (.d _)], .agg [(.d _)], .one (.d _)]) rfl ?_))))))))))))))))))))))))))))))))))))))))))))))))))
  · exact ⟨(x1.1, x4.1, x5.1), ⟨hx1, .bent hx4⟩, rfl⟩
  · exact ⟨(x1.1, x6.1, x7.1), ⟨hx1, .ok hx6⟩, rfl⟩

def c_spec_DrawDropSet : C := (.seq (.reg false (.op 0 [] (some 2) none false (.alloc 2 [(.n 1), (.n 7)])
  (.op 1 [] (some 3) none false (.alloc 3 [(.n 1)])
  (.op 2 [] (some 4) none false (.mov (.v (.int .i64 0)))
  .done))))
 (.seq (.reg false (.op 0 [] (some 5) none false (.mov (.t 0))
  (.op 1 [] (some 6) none false (.call 6 71 [(.t 5)])
  (.op 2 [] (some 7) none false (.ext (.t 6) 0)
  (.op 3 [] (some 8) none false (.ext (.t 6) 1)
  (.op 4 [] (some 9) none false (.ext (.t 6) 2)
  (.op 5 [] none none false (.store (some 2) (.t 2) (.t 7))
  (.op 6 [] none none false (.store (some 1) (.t 3) (.t 8))
  (.op 7 [] (some 4) none false (.mov (.t 9))
  .done)))))))))
 .ret))
theorem dg_spec_DrawDropSet : Tryz.f12.body.bind (digC Tryz.prog Tryz.f12.ntmps []) = some c_spec_DrawDropSet := by kernel_rfl
theorem rs_spec_DrawDropSet : resSlots Tryz.prog Tryz.f12 = some [.m 2 (some 2), .m 3 (some 1), .s 4] := by kernel_rfl
theorem ok_spec_DrawDropSet (code : List UInt8) (hb : (code.length : Int) ≤ 9223372036854775807) :
    FnOK Tryz.prog 12 [.one (.d (encB code))] (fun ra _ => ∃ x : Zone × List (List UInt8) × Int, (SmallZ x.1 ∧ SmallBB x.2.1) ∧ ra = [.agg [.d (encBB x.1.origin), .d (encR x.1.rrs)], .agg [.d (encBB x.2.1)], .one (.d (.sc (.int .i64 x.2.2)))]) := by
  refine FnOK.ofK Tryz.func12 (by kernel_rfl) dg_spec_DrawDropSet rs_spec_DrawDropSet rfl rfl ?_
  unfold c_spec_DrawDropSet
  refine kSeq (kReg (kAlloc rfl rfl (kAlloc rfl rfl (kMovC rfl (kDone (kSeq (kReg (kMovC rfl (kCallX false (ok_spec_DrawSetOf _ (by first | assumption | omega | solve_by_elim [List.getElem_mem] | (simp only [szOut] at *; omega) | exact rfl | exact Nat.le_of_ble_eq_true rfl | exact rrOk_small (by assumption) | exact zoneOk_small (by assumption) | exact SmallBB.ok (by assumption) | exact (SmallBB.ok (by assumption)).len | exact (SmallBB.ok (by assumption)).mem | exact SmallBB.bent (by assumption))) ⟨rfl, trivial⟩ rfl (fun _ => rfl) (fun _ => rfl) (fun x0 _ hx0 => (kExtC rfl rfl (kExtC rfl rfl (kExtC rfl rfl (kMem [(12288, ⟨1, 0, .box [.nil 1, .nil 7]⟩), (16384, ⟨1, 0, .box [.nil 1]⟩)] [(2, .c (.ptr 12288 1 0)), (7, .g [.d _, .d _]), (3, .c (.ptr 16384 1 0)), (8, .g [.d _]), (9, .c (.d _))] [] ⟨rfl, rfl, trivial⟩ ⟨rfl, rfl, rfl, rfl, rfl, trivial⟩ rfl (kStoreP rfl rfl rfl rfl (kStoreP rfl rfl rfl rfl (kMovC rfl (kDone (kMem [(12288, ⟨1, 0, .box [.d _, .d _]⟩), (16384, ⟨1, 0, .box [.d _]⟩)] [(2, .c (.ptr 12288 1 0)), (3, .c (.ptr 16384 1 0)), (4, .c (.d _))] [] ⟨rfl, rfl, trivial⟩ ⟨rfl, rfl, rfl, trivial⟩ rfl (kRet (endRetA (ra := [.agg [(.d _), (.d _)], .agg [(.d _)], .one (.d _)]) rfl ?_)))))))))))))))))))))
  exact ⟨x0, hx0, rfl⟩

def c_impl_within : C := (.seq (.reg false (.op 0 [] (some 6) none false (.mov (.v (.bool false)))
  .done))
 (.seq (.reg false (.op 0 [] (some 7) none false (.mov (.t 1))
  (.op 1 [] (some 8) none false (.mov (.t 0))
  (.op 2 [] (some 9) none false (.bin .leq (.t 7) (.t 8))
  (.op 3 [] (some 10) none false (.mov (.t 9))
  (.op 4 [] (some 11) (some (10, true)) false (.mov (.t 0))
  (.op 5 [] (some 12) (some (10, true)) false (.mov (.t 2))
  (.op 6 [] (some 13) (some (10, true)) false (.bin .leq (.t 11) (.t 12))
  (.op 7 [] (some 14) none false (.pick (.t 10) (.t 13) (.v (.bool false)))
  (.op 8 [] (some 6) none false (.mov (.t 14))
  .done))))))))))
 .ret))
theorem dg_impl_within : Tryz.f147.body.bind (digC Tryz.prog Tryz.f147.ntmps []) = some c_impl_within := by kernel_rfl
theorem rs_impl_within : resSlots Tryz.prog Tryz.f147 = some [.s 6] := by kernel_rfl
theorem ok_impl_within (n lo hi : Int) : FnOK Tryz.prog 147 [.one (.d (.sc (.int .i64 n))), .one (.d (.sc (.int .i64 lo))), .one (.d (.sc (.int .i64 hi)))] (fun ra _ => ra = [.one (.d (.sc (.bool (decide (lo ≤ n ∧ n ≤ hi)))))]) := by
  refine FnOK.ofK Tryz.func147 (by kernel_rfl) dg_impl_within rs_impl_within rfl rfl ?_
  unfold c_impl_within
  repeat' first
    | refine kSeq ?_ | refine kReg ?_ | refine kDone ?_ | refine kMovC rfl ?_ | refine kBin rfl rfl rfl ?_
    | refine kGT rfl ?_ | refine kGF rfl ?_ | refine kGU rfl ?_ | refine kG rfl (fun h => ?_) (fun h => ?_)
    | refine kPickT rfl ?_ | refine kPickF rfl ?_ | refine kPick rfl (fun h => ?_) (fun h => ?_) | refine kRet ?_
  all_goals refine endRet (ra := [.one (.d _)]) rfl ⟨⟨⟨rfl, .inl rfl⟩, trivial⟩, .nil, trivial, trivial, trivial, trivial⟩ ?_
  all_goals simp_all
  all_goals omega

def c_impl_all_byte_1 : C := (.seq (.reg false (.op 0 [] (some 3) none false (.mov (.v (.bool false)))
  .done))
 (.seq (.reg false (.op 0 [] (some 4) none false (.load none (.t 1))
  (.op 1 [] (some 5) none false (.mov (.t 0))
  (.op 2 [] (some 6) none false (.callv 6 (.t 4) [(.t 5)])
  (.op 3 [] (some 7) none false (.un .not (.t 6))
  (.op 4 [] (some 3) none false (.mov (.t 7))
  .done))))))
 .ret))
theorem dg_impl_all_byte_1 : Tryz.f292.body.bind (digC Tryz.prog Tryz.f292.ntmps []) = some c_impl_all_byte_1 := by kernel_rfl
theorem rs_impl_all_byte_1 : resSlots Tryz.prog Tryz.f292 = some [.s 3] := by kernel_rfl
theorem ok_impl_all_byte_1 (x : DV) (D : DV → Prop) (g : DV → Bool) (hx : D x) :
    FnOK Tryz.prog 292 [.one (.d x), .one (.ptr [.fv false (fcPred D g)])] (fun ra _ => ra = [.one (.d (.sc (.bool (!g x))))]) := by
  refine FnOK.ofK Tryz.func292 (by kernel_rfl) dg_impl_all_byte_1 rs_impl_all_byte_1 rfl rfl ?_
  unfold c_impl_all_byte_1
  refine kSeq (kReg (kMovC rfl (kDone ?_)))
  refine kSeq (kReg (kLoadC rfl rfl (kMovC rfl (kCallv rfl ⟨x, hx, rfl, rfl⟩ ⟨rfl, trivial⟩ (.inr ?_) rfl ?_ rfl ?_))))
  · rintro _ rfl; rfl
  · rintro _ rfl; exact Nat.le_of_ble_eq_true rfl
  rintro _ rfl
  refine kUn rfl rfl (kMovC rfl (kDone (kRet ?_)))
  exact endRet (ra := [.one (.d _)]) rfl ⟨⟨⟨rfl, .inl rfl⟩, trivial⟩, .nil, trivial, trivial, trivial⟩ rfl

def c_slices_IndexFunc_Lbyte_byte : C := (.seq (.reg false (.op 0 [] (some 4) none false (.mov (.v (.int .i64 0)))
  .done))
 (.seq (.seq (.reg false (.op 0 [] (some 6) none false (.mov (.t 0))
  (.op 1 [] (some 7) none false (.len (.t 6))
  (.op 2 [] (some 8) none false (.mov (.v (.int .i64 0)))
  .done))))
 (.block 0 (.loop (.seq (.reg false (.op 0 [] (some 9) none false (.bin .lss (.t 8) (.t 7))
  .done))
 (.seq (.cond (.t 9)
 .skip
 (.exit 0))
 (.seq (.block 1 (.seq (.reg false (.op 0 [] (some 10) none false (.mov (.t 8))
  (.op 1 [] (some 5) none false (.mov (.t 10))
  .done)))
 (.seq (.reg false (.op 0 [] (some 11) none false (.mov (.t 1))
  (.op 1 [] (some 12) none false (.mov (.t 0))
  (.op 2 [] (some 13) none false (.mov (.t 5))
  (.op 3 [] (some 14) none false (.iad 1 (.t 12) (.t 13))
  (.op 4 [] (some 15) none false (.load none (.t 14))
  (.op 5 [] (some 16) none false (.callv 16 (.t 11) [(.t 15)])
  .done)))))))
 (.cond (.t 16)
 (.seq (.reg false (.op 0 [] (some 17) none false (.mov (.t 5))
  (.op 1 [] (some 4) none false (.mov (.t 17))
  .done)))
 .ret)
 .skip))))
 (.reg false (.op 0 [] (some 18) none false (.bin .add (.t 8) (.v (.int .i64 1)))
  (.op 1 [] (some 8) none false (.mov (.t 18))
  .done)))))))))
 (.seq (.reg false (.op 0 [] (some 4) none false (.mov (.v (.int .i64 (-1))))
  .done))
 .ret)))
theorem dg_slices_IndexFunc_Lbyte_byte : Tryz.f303.body.bind (digC Tryz.prog Tryz.f303.ntmps []) = some c_slices_IndexFunc_Lbyte_byte := by kernel_rfl
theorem rs_slices_IndexFunc_Lbyte_byte : resSlots Tryz.prog Tryz.f303 = some [.s 4] := by kernel_rfl
theorem ok_slices_IndexFunc_Lbyte_byte (l : List DV) (D : DV → Prop) (g : DV → Bool) (hl : (l.length : Int) ≤ 9223372036854775807) (hD : ∀ x ∈ l, D x) :
    FnOK Tryz.prog 303 [.one (.d (lst l)), .one (.fv false (fcPred D g))] (fun ra _ => ra = [.one (.d (.sc (.int .i64 (idxF g l))))]) := by
  refine FnOK.ofK Tryz.func303 (by kernel_rfl) dg_slices_IndexFunc_Lbyte_byte rs_slices_IndexFunc_Lbyte_byte rfl rfl ?_
  unfold c_slices_IndexFunc_Lbyte_byte
  refine kSeq (kReg (kMovC rfl (kDone ?_)))
  refine kSeq (kSeq (kReg (kMovC rfl (kLen rfl rfl rfl (kMovC rfl (kDone (kBlock ?_)))))))
  rw [len_lst]
  refine kLoop (α := { i : Nat // i ≤ l.length ∧ ∀ x ∈ l.take i, g x = false })
    (fun y => ⟨tabSl [(0, .dv (lst l)), (1, .c (.fv false (fcPred D g))), (7, .i l.length), (8, .i y.1)], (St.init [.one (.d (lst l)), .one (.fv false (fcPred D g))]).ob, []⟩) (fun y => l.length - y.1) ⟨0, by simp⟩
    (.tab rfl ⟨.refl _, .refl _, .refl _, .refl _, trivial⟩) ?_
  rintro ⟨i, hi, hg⟩
  simp only
  refine kSeq (kReg (kBin rfl rfl rfl (kDone ?_)))
  refine kSeq (kCond rfl (fun h1 => ?_) (fun h1 => ?_))
  · have hlt : i < l.length := by simp at h1; omega
    refine kSkip (kSeq (kBlock (kSeq (kReg (kMovC rfl (kMovC rfl (kDone ?_)))))))
    refine kSeq (kReg (kMovC rfl (kMovC rfl (kMovC rfl (kIadD rfl rfl rfl rfl ?_ ?_)))))
    · rw [len_lst]; omega
    rw [show (lst l).row (i : Int).toNat = [l[i]] from row_lst l i hlt]
    refine kLoadD rfl rfl (kCallv rfl ⟨l[i], hD _ (List.getElem_mem hlt), rfl, rfl⟩ ⟨rfl, trivial⟩ (.inr ?_) rfl ?_ rfl ?_)
    · rintro _ rfl; rfl
    · rintro _ rfl; exact Nat.le_of_ble_eq_true rfl
    rintro _ rfl
    refine kDone (kCond rfl (fun h2 => ?_) (fun h2 => ?_))
    · refine kSeq (kReg (kMovC rfl (kMovC rfl (kDone (kRet ?_)))))
      refine endRet (ra := [.one (.d _)]) rfl ⟨⟨⟨rfl, .inl rfl⟩, trivial⟩, .nil, trivial, trivial, trivial⟩ ?_
      have : l.findIdx? g = some i := by
        rw [List.findIdx?_eq_some_iff_getElem]
        refine ⟨hlt, h2, fun j hj => ?_⟩
        simpa using hg _ (by rw [List.mem_take_iff_getElem]; exact ⟨j, by omega, rfl⟩)
      simp [idxF, this]
    · refine kSkip (kBk (kReg (kAdd rfl rfl ?_ (kMovC rfl (kDone (kInv ?_))))))
      · omega
      refine ⟨⟨i + 1, hlt, ?_⟩, by simp only; omega, .tab rfl ⟨.refl _, .refl _, .refl _, .refl _, trivial⟩⟩
      intro x hx
      rw [← List.take_append_getElem hlt, List.mem_append] at hx
      rcases hx with hx | hx
      · exact hg x hx
      · simp at hx; rw [hx]; exact h2
  · refine kExit (kExC (kExI (kExB ?_)))
    have hge : i = l.length := by simp at h1; omega
    refine kSeq (kReg (kMovC rfl (kDone (kRet ?_))))
    refine endRet (ra := [.one (.d _)]) rfl ⟨⟨⟨rfl, .inl rfl⟩, trivial⟩, .nil, trivial, trivial, trivial⟩ ?_
    have : l.findIdx? g = none := by
      rw [List.findIdx?_eq_none_iff]
      intro x hx
      rw [hge, List.take_length] at hg
      exact hg x hx
    simp [idxF, this]

def c_slices_ContainsFunc_Lbyte_byte : C := (.seq (.reg false (.op 0 [] (some 4) none false (.mov (.v (.bool false)))
  .done))
 (.seq (.reg false (.op 0 [] (some 5) none false (.mov (.t 0))
  (.op 1 [] (some 6) none false (.mov (.t 1))
  (.op 2 [] (some 7) none false (.call 7 303 [(.t 5), (.t 6)])
  (.op 3 [] (some 8) none false (.bin .geq (.t 7) (.v (.int .i64 0)))
  (.op 4 [] (some 4) none false (.mov (.t 8))
  .done))))))
 .ret))
theorem dg_slices_ContainsFunc_Lbyte_byte : Tryz.f291.body.bind (digC Tryz.prog Tryz.f291.ntmps []) = some c_slices_ContainsFunc_Lbyte_byte := by kernel_rfl
theorem rs_slices_ContainsFunc_Lbyte_byte : resSlots Tryz.prog Tryz.f291 = some [.s 4] := by kernel_rfl
theorem ok_slices_ContainsFunc_Lbyte_byte (l : List DV) (D : DV → Prop) (g : DV → Bool) (hl : (l.length : Int) ≤ 9223372036854775807) (hD : ∀ x ∈ l, D x) :
    FnOK Tryz.prog 291 [.one (.d (lst l)), .one (.fv false (fcPred D g))] (fun ra _ => ra = [.one (.d (.sc (.bool (l.any g))))]) := by
  refine FnOK.ofK Tryz.func291 (by kernel_rfl) dg_slices_ContainsFunc_Lbyte_byte rs_slices_ContainsFunc_Lbyte_byte rfl rfl ?_
  unfold c_slices_ContainsFunc_Lbyte_byte
  refine kSeq (kReg (kMovC rfl (kDone ?_)))
  refine kSeq (kReg (kMovC rfl (kMovC rfl ?_)))
  refine kCall1 true (ok_slices_IndexFunc_Lbyte_byte l D g hl hD) ⟨rfl, ⟨fun h => h, fun _ _ h => h⟩, trivial⟩ rfl rfl rfl fun os => ?_
  refine kBin rfl rfl rfl (kMovC rfl (kDone (kRet ?_)))
  refine endRet (ra := [.one (.d _)]) rfl ⟨⟨⟨rfl, .inl rfl⟩, trivial⟩, .nil, trivial, trivial, trivial⟩ ?_
  have : decide (idxF g l ≥ 0) = l.any g := by
    unfold idxF
    cases h : l.findIdx? g with
    | none =>
      rw [List.findIdx?_eq_none_iff] at h
      have : l.any g = false := by rw [List.any_eq_false]; intro x hx; simp [h x hx]
      rw [this]; rfl
    | some i =>
      rw [List.findIdx?_eq_some_iff_getElem] at h
      obtain ⟨h1, h2, _⟩ := h
      have : l.any g = true := by rw [List.any_eq_true]; exact ⟨_, List.getElem_mem h1, h2⟩
      rw [this]; simp
  rw [this]

def c_impl_all_byte : C := (.seq (.reg false (.op 0 [] (some 3) none false (.box 3 (.t 1))
  (.op 1 [] (some 4) none false (.mov (.v (.bool false)))
  .done)))
 (.seq (.reg false (.op 0 [] (some 5) none false (.mov (.t 0))
  (.op 1 [] (some 6) none false (.clo 292 [] [(.t 3)])
  (.op 2 [] (some 7) none false (.call 7 291 [(.t 5), (.t 6)])
  (.op 3 [] (some 8) none false (.un .not (.t 7))
  (.op 4 [] (some 4) none false (.mov (.t 8))
  .done))))))
 .ret))
theorem dg_impl_all_byte : Tryz.f255.body.bind (digC Tryz.prog Tryz.f255.ntmps []) = some c_impl_all_byte := by kernel_rfl
theorem rs_impl_all_byte : resSlots Tryz.prog Tryz.f255 = some [.s 4] := by kernel_rfl
theorem ok_impl_all_byte (l : List DV) (D : DV → Prop) (g : DV → Bool) (hl : (l.length : Int) ≤ 9223372036854775807) (hD : ∀ x ∈ l, D x) :
    FnOK Tryz.prog 255 [.one (.d (lst l)), .one (.fv false (fcPred D g))] (fun ra _ => ra = [.one (.d (.sc (.bool (l.all g))))]) := by
  refine FnOK.ofK Tryz.func255 (by kernel_rfl) dg_impl_all_byte rs_impl_all_byte rfl rfl ?_
  unfold c_impl_all_byte
  refine kSeq (kReg (kBox rfl rfl rfl rfl rfl (kMovC rfl (kDone ?_))))
  refine kSeq (kReg (kMovC rfl (kClo rfl rfl ?_)))
  refine kCall1 true (ok_slices_ContainsFunc_Lbyte_byte l D (fun x => !g x) hl hD) ⟨rfl, ⟨rfl, ⟨_, Tryz.func292, rfl, by kernel_rfl⟩, _, rfl, ?_⟩, trivial⟩ rfl rfl rfl fun os => ?_
  · rintro l R ⟨x, hx, rfl, rfl⟩
    exact ⟨by rintro _ rfl; rfl, ok_impl_all_byte_1 x D g hx⟩
  refine kUn rfl rfl (kMovC rfl (kDone (kRet ?_)))
  refine endRet (ra := [.one (.d _)]) rfl ⟨⟨⟨rfl, .inl rfl⟩, trivial⟩, .nil, trivial, trivial, trivial⟩ ?_
  simp [List.all_eq_not_any_not]

def c_impl_LabelOk_1 : C := (.seq (.reg false (.op 0 [] (some 2) none false (.mov (.v (.bool false)))
  .done))
 (.seq (.reg false (.op 0 [] (some 3) none false (.mov (.t 0))
  (.op 1 [] (some 4) none false (.bin .geq (.t 3) (.v (.int .u8 97)))
  (.op 2 [] (some 5) none false (.mov (.t 4))
  (.op 3 [] (some 6) (some (5, true)) false (.mov (.t 0))
  (.op 4 [] (some 7) (some (5, true)) false (.bin .leq (.t 6) (.v (.int .u8 122)))
  (.op 5 [] (some 8) none false (.pick (.t 5) (.t 7) (.v (.bool false)))
  (.op 6 [] (some 9) none false (.mov (.t 8))
  (.op 7 [] (some 10) (some (9, false)) false (.mov (.t 0))
  (.op 8 [] (some 11) (some (9, false)) false (.bin .geq (.t 10) (.v (.int .u8 48)))
  (.op 9 [] (some 12) (some (9, false)) false (.mov (.t 11))
  (.op 10 [] (some 13) (some (12, true)) false (.mov (.t 0))
  (.op 11 [] (some 14) (some (12, true)) false (.bin .leq (.t 13) (.v (.int .u8 57)))
  (.op 12 [] (some 15) (some (9, false)) false (.pick (.t 12) (.t 14) (.v (.bool false)))
  (.op 13 [] (some 16) none false (.pick (.t 9) (.v (.bool true)) (.t 15))
  (.op 14 [] (some 17) none false (.mov (.t 16))
  (.op 15 [] (some 18) (some (17, false)) false (.mov (.t 0))
  (.op 16 [] (some 19) (some (17, false)) false (.bin .eql (.t 18) (.v (.int .u8 45)))
  (.op 17 [] (some 20) none false (.pick (.t 17) (.v (.bool true)) (.t 19))
  (.op 18 [] (some 2) none false (.mov (.t 20))
  .done))))))))))))))))))))
 .ret))
theorem dg_impl_LabelOk_1 : Tryz.f256.body.bind (digC Tryz.prog Tryz.f256.ntmps []) = some c_impl_LabelOk_1 := by kernel_rfl
theorem rs_impl_LabelOk_1 : resSlots Tryz.prog Tryz.f256 = some [.s 2] := by kernel_rfl
theorem ok_impl_LabelOk_1 (b : UInt8) : FnOK Tryz.prog 256 [.one (.d (.sc (.int .u8 b.toNat)))] (fun ra _ => ra = [.one (.d (.sc (.bool (okLetter b))))]) := by
  refine FnOK.ofK Tryz.func256 (by kernel_rfl) dg_impl_LabelOk_1 rs_impl_LabelOk_1 rfl rfl ?_
  unfold c_impl_LabelOk_1
  repeat' first
    | refine kSeq ?_ | refine kReg ?_ | refine kDone ?_ | refine kMovC rfl ?_ | refine kBin rfl rfl rfl ?_
    | refine kGT rfl ?_ | refine kGF rfl ?_ | refine kGU rfl ?_ | refine kG rfl (fun h => ?_) (fun h => ?_)
    | refine kPickT rfl ?_ | refine kPickF rfl ?_ | refine kPick rfl (fun h => ?_) (fun h => ?_) | refine kRet ?_
  all_goals refine endRet (ra := [.one (.d _)]) rfl ⟨⟨⟨rfl, .inl rfl⟩, trivial⟩, .nil, trivial, trivial⟩ ?_
  all_goals simp_all [okLetter]
  all_goals first | omega | (rw [Bool.eq_iff_iff]; simp; omega)

def c_impl_LabelOk : C := (.seq (.reg false (.op 0 [] (some 2) none false (.mov (.v (.bool false)))
  .done))
 (.seq (.reg false (.op 0 [] (some 3) none false (.mov (.t 0))
  (.op 1 [] (some 4) none false (.len (.t 3))
  (.op 2 [] (some 5) none false (.call 5 147 [(.t 4), (.v (.int .i64 1)), (.v (.int .i64 15))])
  (.op 3 [] (some 6) none false (.mov (.t 5))
  (.op 4 [] (some 7) (some (6, true)) false (.mov (.t 0))
  (.op 5 [] (some 8) (some (6, true)) false (.call 8 255 [(.t 7), (.fn 256)])
  (.op 6 [] (some 9) none false (.pick (.t 6) (.t 8) (.v (.bool false)))
  (.op 7 [] (some 2) none false (.mov (.t 9))
  .done)))))))))
 .ret))
theorem dg_impl_LabelOk : Tryz.f179.body.bind (digC Tryz.prog Tryz.f179.ntmps []) = some c_impl_LabelOk := by kernel_rfl
theorem rs_impl_LabelOk : resSlots Tryz.prog Tryz.f179 = some [.s 2] := by kernel_rfl
theorem ok_impl_LabelOk (b : List UInt8) (hb : b.length ≤ 4194304) :
    FnOK Tryz.prog 179 [.one (.d (encB b))] (fun ra _ => ra = [.one (.d (.sc (.bool (labelOk b))))]) := by
  refine FnOK.ofK Tryz.func179 (by kernel_rfl) dg_impl_LabelOk rs_impl_LabelOk rfl rfl ?_
  unfold c_impl_LabelOk
  refine kSeq (kReg (kMovC rfl (kDone (kSeq (kReg (kMovC rfl (kLenR rfl rfl (kCallD (ok_impl_within _ _ _) ⟨rfl, rfl, rfl, trivial⟩ rfl rfl rfl rfl rfl (kMovC rfl (kGP rfl (fun g0 => kGT rfl (kMovC rfl (kGT rfl ?_))) (fun g0 => kGF rfl (kGF rfl (kPickF rfl (kMovC rfl (kMovC rfl (kDone (kRet (endRetA (ra := [.one (.d _)]) rfl ?_))))))))))))))))))
  · refine kCall1 true (ok_impl_all_byte (b.map fun b : UInt8 => .sc (.int .u8 b.toNat)) is8 (fun x => okLetter (dec8 x)) (by simp; omega) (fun x hx => by obtain ⟨c, _, rfl⟩ := List.mem_map.1 hx; exact ⟨c, rfl⟩)) ⟨congrArg some (encB_lst b), ⟨rfl, rfl, ⟨_, Tryz.func256, rfl, by kernel_rfl⟩, ?_⟩, trivial⟩ rfl rfl rfl (fun _ => ?_)
    · rintro _ R ⟨x, ⟨c, rfl⟩, rfl, rfl⟩
      have := ok_impl_LabelOk_1 c
      simp only [dec8_enc]
      exact this
    refine kPickT rfl (kMovC rfl (kMovC rfl (kDone (kRet (endRetA (ra := [.one (.d _)]) rfl ?_)))))
    rw [all_dec8, show labelOk b = b.all okLetter by simp only [labelOk]; rw [decide_eq_true (by omega), decide_eq_true (by omega)]; rfl]
  · rw [show labelOk b = false by simp only [labelOk]; rw [show (decide (1 ≤ b.length) && decide (b.length ≤ 15)) = false by simp; omega]; rfl]

def c_impl_all_Lbyte_1 : C := (.seq (.reg false (.op 0 [] (some 3) none false (.mov (.v (.bool false)))
  .done))
 (.seq (.reg false (.op 0 [] (some 4) none false (.load none (.t 1))
  (.op 1 [] (some 5) none false (.mov (.t 0))
  (.op 2 [] (some 6) none false (.callv 6 (.t 4) [(.t 5)])
  (.op 3 [] (some 7) none false (.un .not (.t 6))
  (.op 4 [] (some 3) none false (.mov (.t 7))
  .done))))))
 .ret))
theorem dg_impl_all_Lbyte_1 : Tryz.f254.body.bind (digC Tryz.prog Tryz.f254.ntmps []) = some c_impl_all_Lbyte_1 := by kernel_rfl
theorem rs_impl_all_Lbyte_1 : resSlots Tryz.prog Tryz.f254 = some [.s 3] := by kernel_rfl
theorem ok_impl_all_Lbyte_1 (x : DV) (D : DV → Prop) (g : DV → Bool) (hx : D x) :
    FnOK Tryz.prog 254 [.one (.d x), .one (.ptr [.fv false (fcPred D g)])] (fun ra _ => ra = [.one (.d (.sc (.bool (!g x))))]) := by
  refine FnOK.ofK Tryz.func254 (by kernel_rfl) dg_impl_all_Lbyte_1 rs_impl_all_Lbyte_1 rfl rfl ?_
  unfold c_impl_all_Lbyte_1
  refine kSeq (kReg (kMovC rfl (kDone ?_)))
  refine kSeq (kReg (kLoadC rfl rfl (kMovC rfl (kCallv rfl ⟨x, hx, rfl, rfl⟩ ⟨rfl, trivial⟩ (.inr ?_) rfl ?_ rfl ?_))))
  · rintro _ rfl; rfl
  · rintro _ rfl; exact Nat.le_of_ble_eq_true rfl
  rintro _ rfl
  refine kUn rfl rfl (kMovC rfl (kDone (kRet ?_)))
  exact endRet (ra := [.one (.d _)]) rfl ⟨⟨⟨rfl, .inl rfl⟩, trivial⟩, .nil, trivial, trivial, trivial⟩ rfl

def c_slices_IndexFunc_LLbyte_Lbyte : C := (.seq (.reg false (.op 0 [] (some 4) none false (.mov (.v (.int .i64 0)))
  .done))
 (.seq (.seq (.reg false (.op 0 [] (some 6) none false (.mov (.t 0))
  (.op 1 [] (some 7) none false (.len (.t 6))
  (.op 2 [] (some 8) none false (.mov (.v (.int .i64 0)))
  .done))))
 (.block 0 (.loop (.seq (.reg false (.op 0 [] (some 9) none false (.bin .lss (.t 8) (.t 7))
  .done))
 (.seq (.cond (.t 9)
 .skip
 (.exit 0))
 (.seq (.block 1 (.seq (.reg false (.op 0 [] (some 10) none false (.mov (.t 8))
  (.op 1 [] (some 5) none false (.mov (.t 10))
  .done)))
 (.seq (.reg false (.op 0 [] (some 11) none false (.mov (.t 1))
  (.op 1 [] (some 12) none false (.mov (.t 0))
  (.op 2 [] (some 13) none false (.mov (.t 5))
  (.op 3 [] (some 14) none false (.iad 1 (.t 12) (.t 13))
  (.op 4 [] (some 15) none false (.load none (.t 14))
  (.op 5 [] (some 16) none false (.callv 16 (.t 11) [(.t 15)])
  .done)))))))
 (.cond (.t 16)
 (.seq (.reg false (.op 0 [] (some 17) none false (.mov (.t 5))
  (.op 1 [] (some 4) none false (.mov (.t 17))
  .done)))
 .ret)
 .skip))))
 (.reg false (.op 0 [] (some 18) none false (.bin .add (.t 8) (.v (.int .i64 1)))
  (.op 1 [] (some 8) none false (.mov (.t 18))
  .done)))))))))
 (.seq (.reg false (.op 0 [] (some 4) none false (.mov (.v (.int .i64 (-1))))
  .done))
 .ret)))
theorem dg_slices_IndexFunc_LLbyte_Lbyte : Tryz.f290.body.bind (digC Tryz.prog Tryz.f290.ntmps []) = some c_slices_IndexFunc_LLbyte_Lbyte := by kernel_rfl
theorem rs_slices_IndexFunc_LLbyte_Lbyte : resSlots Tryz.prog Tryz.f290 = some [.s 4] := by kernel_rfl
theorem ok_slices_IndexFunc_LLbyte_Lbyte (l : List DV) (D : DV → Prop) (g : DV → Bool) (hl : (l.length : Int) ≤ 9223372036854775807) (hD : ∀ x ∈ l, D x) :
    FnOK Tryz.prog 290 [.one (.d (lst l)), .one (.fv false (fcPred D g))] (fun ra _ => ra = [.one (.d (.sc (.int .i64 (idxF g l))))]) := by
  refine FnOK.ofK Tryz.func290 (by kernel_rfl) dg_slices_IndexFunc_LLbyte_Lbyte rs_slices_IndexFunc_LLbyte_Lbyte rfl rfl ?_
  unfold c_slices_IndexFunc_LLbyte_Lbyte
  refine kSeq (kReg (kMovC rfl (kDone ?_)))
  refine kSeq (kSeq (kReg (kMovC rfl (kLen rfl rfl rfl (kMovC rfl (kDone (kBlock ?_)))))))
  rw [len_lst]
  refine kLoop (α := { i : Nat // i ≤ l.length ∧ ∀ x ∈ l.take i, g x = false })
    (fun y => ⟨tabSl [(0, .dv (lst l)), (1, .c (.fv false (fcPred D g))), (7, .i l.length), (8, .i y.1)], (St.init [.one (.d (lst l)), .one (.fv false (fcPred D g))]).ob, []⟩) (fun y => l.length - y.1) ⟨0, by simp⟩
    (.tab rfl ⟨.refl _, .refl _, .refl _, .refl _, trivial⟩) ?_
  rintro ⟨i, hi, hg⟩
  simp only
  refine kSeq (kReg (kBin rfl rfl rfl (kDone ?_)))
  refine kSeq (kCond rfl (fun h1 => ?_) (fun h1 => ?_))
  · have hlt : i < l.length := by simp at h1; omega
    refine kSkip (kSeq (kBlock (kSeq (kReg (kMovC rfl (kMovC rfl (kDone ?_)))))))
    refine kSeq (kReg (kMovC rfl (kMovC rfl (kMovC rfl (kIadD rfl rfl rfl rfl ?_ ?_)))))
    · rw [len_lst]; omega
    rw [show (lst l).row (i : Int).toNat = [l[i]] from row_lst l i hlt]
    refine kLoadD rfl rfl (kCallv rfl ⟨l[i], hD _ (List.getElem_mem hlt), rfl, rfl⟩ ⟨rfl, trivial⟩ (.inr ?_) rfl ?_ rfl ?_)
    · rintro _ rfl; rfl
    · rintro _ rfl; exact Nat.le_of_ble_eq_true rfl
    rintro _ rfl
    refine kDone (kCond rfl (fun h2 => ?_) (fun h2 => ?_))
    · refine kSeq (kReg (kMovC rfl (kMovC rfl (kDone (kRet ?_)))))
      refine endRet (ra := [.one (.d _)]) rfl ⟨⟨⟨rfl, .inl rfl⟩, trivial⟩, .nil, trivial, trivial, trivial⟩ ?_
      have : l.findIdx? g = some i := by
        rw [List.findIdx?_eq_some_iff_getElem]
        refine ⟨hlt, h2, fun j hj => ?_⟩
        simpa using hg _ (by rw [List.mem_take_iff_getElem]; exact ⟨j, by omega, rfl⟩)
      simp [idxF, this]
    · refine kSkip (kBk (kReg (kAdd rfl rfl ?_ (kMovC rfl (kDone (kInv ?_))))))
      · omega
      refine ⟨⟨i + 1, hlt, ?_⟩, by simp only; omega, .tab rfl ⟨.refl _, .refl _, .refl _, .refl _, trivial⟩⟩
      intro x hx
      rw [← List.take_append_getElem hlt, List.mem_append] at hx
      rcases hx with hx | hx
      · exact hg x hx
      · simp at hx; rw [hx]; exact h2
  · refine kExit (kExC (kExI (kExB ?_)))
    have hge : i = l.length := by simp at h1; omega
    refine kSeq (kReg (kMovC rfl (kDone (kRet ?_))))
    refine endRet (ra := [.one (.d _)]) rfl ⟨⟨⟨rfl, .inl rfl⟩, trivial⟩, .nil, trivial, trivial, trivial⟩ ?_
    have : l.findIdx? g = none := by
      rw [List.findIdx?_eq_none_iff]
      intro x hx
      rw [hge, List.take_length] at hg
      exact hg x hx
    simp [idxF, this]

def c_slices_ContainsFunc_LLbyte_Lbyte : C := (.seq (.reg false (.op 0 [] (some 4) none false (.mov (.v (.bool false)))
  .done))
 (.seq (.reg false (.op 0 [] (some 5) none false (.mov (.t 0))
  (.op 1 [] (some 6) none false (.mov (.t 1))
  (.op 2 [] (some 7) none false (.call 7 290 [(.t 5), (.t 6)])
  (.op 3 [] (some 8) none false (.bin .geq (.t 7) (.v (.int .i64 0)))
  (.op 4 [] (some 4) none false (.mov (.t 8))
  .done))))))
 .ret))
theorem dg_slices_ContainsFunc_LLbyte_Lbyte : Tryz.f253.body.bind (digC Tryz.prog Tryz.f253.ntmps []) = some c_slices_ContainsFunc_LLbyte_Lbyte := by kernel_rfl
theorem rs_slices_ContainsFunc_LLbyte_Lbyte : resSlots Tryz.prog Tryz.f253 = some [.s 4] := by kernel_rfl
theorem ok_slices_ContainsFunc_LLbyte_Lbyte (l : List DV) (D : DV → Prop) (g : DV → Bool) (hl : (l.length : Int) ≤ 9223372036854775807) (hD : ∀ x ∈ l, D x) :
    FnOK Tryz.prog 253 [.one (.d (lst l)), .one (.fv false (fcPred D g))] (fun ra _ => ra = [.one (.d (.sc (.bool (l.any g))))]) := by
  refine FnOK.ofK Tryz.func253 (by kernel_rfl) dg_slices_ContainsFunc_LLbyte_Lbyte rs_slices_ContainsFunc_LLbyte_Lbyte rfl rfl ?_
  unfold c_slices_ContainsFunc_LLbyte_Lbyte
  refine kSeq (kReg (kMovC rfl (kDone ?_)))
  refine kSeq (kReg (kMovC rfl (kMovC rfl ?_)))
  refine kCall1 true (ok_slices_IndexFunc_LLbyte_Lbyte l D g hl hD) ⟨rfl, ⟨fun h => h, fun _ _ h => h⟩, trivial⟩ rfl rfl rfl fun os => ?_
  refine kBin rfl rfl rfl (kMovC rfl (kDone (kRet ?_)))
  refine endRet (ra := [.one (.d _)]) rfl ⟨⟨⟨rfl, .inl rfl⟩, trivial⟩, .nil, trivial, trivial, trivial⟩ ?_
  have : decide (idxF g l ≥ 0) = l.any g := by
    unfold idxF
    cases h : l.findIdx? g with
    | none =>
      rw [List.findIdx?_eq_none_iff] at h
      have : l.any g = false := by rw [List.any_eq_false]; intro x hx; simp [h x hx]
      rw [this]; rfl
    | some i =>
      rw [List.findIdx?_eq_some_iff_getElem] at h
      obtain ⟨h1, h2, _⟩ := h
      have : l.any g = true := by rw [List.any_eq_true]; exact ⟨_, List.getElem_mem h1, h2⟩
      rw [this]; simp
  rw [this]

def c_impl_all_Lbyte : C := (.seq (.reg false (.op 0 [] (some 3) none false (.box 3 (.t 1))
  (.op 1 [] (some 4) none false (.mov (.v (.bool false)))
  .done)))
 (.seq (.reg false (.op 0 [] (some 5) none false (.mov (.t 0))
  (.op 1 [] (some 6) none false (.clo 254 [] [(.t 3)])
  (.op 2 [] (some 7) none false (.call 7 253 [(.t 5), (.t 6)])
  (.op 3 [] (some 8) none false (.un .not (.t 7))
  (.op 4 [] (some 4) none false (.mov (.t 8))
  .done))))))
 .ret))
theorem dg_impl_all_Lbyte : Tryz.f178.body.bind (digC Tryz.prog Tryz.f178.ntmps []) = some c_impl_all_Lbyte := by kernel_rfl
theorem rs_impl_all_Lbyte : resSlots Tryz.prog Tryz.f178 = some [.s 4] := by kernel_rfl
theorem ok_impl_all_Lbyte (l : List DV) (D : DV → Prop) (g : DV → Bool) (hl : (l.length : Int) ≤ 9223372036854775807) (hD : ∀ x ∈ l, D x) :
    FnOK Tryz.prog 178 [.one (.d (lst l)), .one (.fv false (fcPred D g))] (fun ra _ => ra = [.one (.d (.sc (.bool (l.all g))))]) := by
  refine FnOK.ofK Tryz.func178 (by kernel_rfl) dg_impl_all_Lbyte rs_impl_all_Lbyte rfl rfl ?_
  unfold c_impl_all_Lbyte
  refine kSeq (kReg (kBox rfl rfl rfl rfl rfl (kMovC rfl (kDone ?_))))
  refine kSeq (kReg (kMovC rfl (kClo rfl rfl ?_)))
  refine kCall1 true (ok_slices_ContainsFunc_LLbyte_Lbyte l D (fun x => !g x) hl hD) ⟨rfl, ⟨rfl, ⟨_, Tryz.func254, rfl, by kernel_rfl⟩, _, rfl, ?_⟩, trivial⟩ rfl rfl rfl fun os => ?_
  · rintro l R ⟨x, hx, rfl, rfl⟩
    exact ⟨by rintro _ rfl; rfl, ok_impl_all_Lbyte_1 x D g hx⟩
  refine kUn rfl rfl (kMovC rfl (kDone (kRet ?_)))
  refine endRet (ra := [.one (.d _)]) rfl ⟨⟨⟨rfl, .inl rfl⟩, trivial⟩, .nil, trivial, trivial, trivial⟩ ?_
  simp [List.all_eq_not_any_not]

def c_impl_NameOk : C := (.seq (.reg false (.op 0 [] (some 1) none false (.box 1 (.t 0))
  (.op 1 [] (some 2) none false (.mov (.v (.bool false)))
  .done)))
 (.seq (.reg false (.op 0 [] (some 3) none false (.fad (.t 1) 0)
  (.op 1 [] (some 4) none false (.load none (.t 3))
  (.op 2 [] (some 5) none false (.len (.t 4))
  (.op 3 [] (some 6) none false (.bin .leq (.t 5) (.v (.int .i64 6)))
  (.op 4 [] (some 7) none false (.mov (.t 6))
  (.op 5 [] (some 8) (some (7, true)) false (.fad (.t 1) 0)
  (.op 6 [] (some 9) (some (7, true)) false (.load none (.t 8))
  (.op 7 [] (some 10) (some (7, true)) false (.call 10 178 [(.t 9), (.fn 179)])
  (.op 8 [] (some 11) none false (.pick (.t 7) (.t 10) (.v (.bool false)))
  (.op 9 [] (some 2) none false (.mov (.t 11))
  .done)))))))))))
 .ret))
theorem dg_impl_NameOk : Tryz.f72.body.bind (digC Tryz.prog Tryz.f72.ntmps []) = some c_impl_NameOk := by kernel_rfl
theorem rs_impl_NameOk : resSlots Tryz.prog Tryz.f72 = some [.s 2] := by kernel_rfl
theorem ok_impl_NameOk (a : List (List UInt8)) (ha : a.length ≤ 4194304) (hb : ∀ b ∈ a, b.length ≤ 4194304) :
    FnOK Tryz.prog 72 [.agg [.d (encBB a)]] (fun ra _ => ra = [.one (.d (.sc (.bool (nameOk a))))]) := by
  refine FnOK.ofK Tryz.func72 (by kernel_rfl) dg_impl_NameOk rs_impl_NameOk rfl rfl ?_
  unfold c_impl_NameOk
  refine kSeq (kReg (kBox rfl rfl rfl rfl rfl (kMovC rfl (kDone (kSeq (kReg (kFadP rfl rfl (kLoadP rfl rfl rfl (kLenR rfl rfl (kBin rfl rfl rfl (kMovC rfl (kGP rfl (fun g0 => kGT rfl (kFadP rfl rfl (kGT rfl (kLoadP rfl rfl rfl (kGT rfl ?_))))) (fun g0 => kGF rfl (kGF rfl (kGF rfl (kPickF rfl (kMovC rfl (kMovC rfl (kDone (kRet (endRetA (ra := [.one (.d _)]) rfl ?_)))))))))))))))))))))
  · refine kCall1 true (ok_impl_all_Lbyte (a.map encB) (fun x => ∃ b : List UInt8, x = encB b ∧ b.length ≤ 4194304) (fun x => labelOk (decB x)) (by simp; omega) (fun x hx => by obtain ⟨c, h, rfl⟩ := List.mem_map.1 hx; exact ⟨c, rfl, hb c h⟩)) ⟨congrArg some (encBB_lst a), ⟨rfl, rfl, ⟨_, Tryz.func179, rfl, by kernel_rfl⟩, ?_⟩, trivial⟩ rfl rfl rfl (fun _ => ?_)
    · rintro _ R ⟨x, ⟨c, rfl, h⟩, rfl, rfl⟩
      have := ok_impl_LabelOk c h
      simp only [decB_enc]
      exact this
    refine kPickT rfl (kMovC rfl (kMovC rfl (kDone (kRet (endRetA (ra := [.one (.d _)]) rfl ?_)))))
    rw [all_decB, show nameOk a = a.all labelOk by simp only [nameOk]; rw [decide_eq_true (by omega)]; rfl]
  · rw [show nameOk a = false by simp only [nameOk]; rw [decide_eq_false (by omega)]; rfl]

/-- What a type is called. -/
def typeTab : List (Int × ByteArray) := [(1, ⟨#[65]⟩), (2, ⟨#[78, 83]⟩), (5, ⟨#[67, 78, 65, 77, 69]⟩), (6, ⟨#[83, 79, 65]⟩), (12, ⟨#[80, 84, 82]⟩), (16, ⟨#[84, 88, 84]⟩), (49, ⟨#[68, 72, 67, 73, 68]⟩)]
def typeNm (n : Int) : ByteArray := ((typeTab.find? fun e => n == e.1).map (·.2)).getD ByteArray.empty
theorem ok_impl_typeName (n : Int) : FnOK Tryz.prog 241 [.one (.d (.sc (.int .i64 n)))] (fun ra _ => ra = [.one (.d (.sc (.string (typeNm n))))]) := by
  refine FnOK.ofWalk Tryz.func241 rfl (by kernel_rfl) fun w => ?_
  have kk : Tryz.prog.underlying 3 = some (.int .i64) := by kernel_rfl
  have hmm := @Go.RowKit.run_makeMap Tryz.prog
  go_enter Tryz.func241, Tryz.ntmps241
  go_wp2
  have t0 : Tab (w.alloc (.map #[] 0)) w.heap.size [] := ⟨_, _, (MapKept.heap_alloc w _).1, rfl⟩
  have b0 : Go.RowKit.Below w.heap.size w (w.alloc (.map #[] 0)) := (Go.RowKit.Below.refl _ _).alloc (Nat.le_refl _) _
  have st : ∀ {w1 w2 : World}, Go.RowKit.Below w.heap.size w w1 → Ext w1 w2 (fun b => b = w.heap.size) → Go.RowKit.Below w.heap.size w w2 := fun h e => ⟨e.os.trans h.os, e.tape.trans h.tape, e.output.trans h.output, Nat.le_trans h.size e.size, fun k hk => (e.same k (Nat.lt_of_lt_of_le hk h.size) (by omega)).trans (h.block k hk)⟩
  refine upon_insert (kt := 3) (et := 9) ?_ kk t0 ?_ (fun w1 t1 e1 => ?_)
  · kernel_rfl
  · rfl
  have b1 := st b0 e1
  go_wp2
  refine upon_insert (kt := 3) (et := 9) ?_ kk t1 ?_ (fun w2 t2 e2 => ?_)
  · kernel_rfl
  · rfl
  have b2 := st b1 e2
  go_wp2
  refine upon_insert (kt := 3) (et := 9) ?_ kk t2 ?_ (fun w3 t3 e3 => ?_)
  · kernel_rfl
  · rfl
  have b3 := st b2 e3
  go_wp2
  refine upon_insert (kt := 3) (et := 9) ?_ kk t3 ?_ (fun w4 t4 e4 => ?_)
  · kernel_rfl
  · rfl
  have b4 := st b3 e4
  go_wp2
  refine upon_insert (kt := 3) (et := 9) ?_ kk t4 ?_ (fun w5 t5 e5 => ?_)
  · kernel_rfl
  · rfl
  have b5 := st b4 e5
  go_wp2
  refine upon_insert (kt := 3) (et := 9) ?_ kk t5 ?_ (fun w6 t6 e6 => ?_)
  · kernel_rfl
  · rfl
  have b6 := st b5 e6
  go_wp2
  refine upon_insert (kt := 3) (et := 9) ?_ kk t6 ?_ (fun w7 t7 e7 => ?_)
  · kernel_rfl
  · rfl
  have b7 := st b6 e7
  go_wp2
  refine upon_find (kt := 3) (et := 9) ?_ kk ?_ t7 ?_
  · kernel_rfl
  · rfl
  go_wp2
  all_goals go_ret
  exact ⟨rfl, b7⟩

theorem typeNm_ok (n : Int) : (!((typeNm n).toList == (⟨#[]⟩ : ByteArray).toList)) = tyOk n := by
  by_cases h1 : n = 1
  · subst h1; rw [ByteArray.toList_eq, ByteArray.toList_eq]; rfl
  by_cases h2 : n = 2
  · subst h2; rw [ByteArray.toList_eq, ByteArray.toList_eq]; rfl
  by_cases h3 : n = 5
  · subst h3; rw [ByteArray.toList_eq, ByteArray.toList_eq]; rfl
  by_cases h4 : n = 6
  · subst h4; rw [ByteArray.toList_eq, ByteArray.toList_eq]; rfl
  by_cases h5 : n = 12
  · subst h5; rw [ByteArray.toList_eq, ByteArray.toList_eq]; rfl
  by_cases h6 : n = 16
  · subst h6; rw [ByteArray.toList_eq, ByteArray.toList_eq]; rfl
  by_cases h7 : n = 49
  · subst h7; rw [ByteArray.toList_eq, ByteArray.toList_eq]; rfl
  have e : ∀ m : Int, n ≠ m → (n == m) = false := fun m h => by simpa using h
  have : typeNm n = ByteArray.empty := by
    unfold typeNm typeTab
    simp only [List.find?_cons, e 1 h1, e 2 h2, e 5 h3, e 6 h4, e 12 h5, e 16 h6, e 49 h7, List.find?_nil]
    rfl
  rw [this]
  simp only [tyOk, e 1 h1, e 2 h2, e 5 h3, e 6 h4, e 12 h5, e 16 h6, e 49 h7]
  rw [ByteArray.toList_eq, ByteArray.toList_eq]; rfl

def c_impl_TypeOk : C := (.seq (.reg false (.op 0 [] (some 2) none false (.mov (.v (.bool false)))
  .done))
 (.seq (.reg false (.op 0 [] (some 3) none false (.mov (.t 0))
  (.op 1 [] (some 4) none false (.call 4 241 [(.t 3)])
  (.op 2 [] (some 5) none false (.bin .neq (.t 4) (.v (.string ⟨#[]⟩)))
  (.op 3 [] (some 2) none false (.mov (.t 5))
  .done)))))
 .ret))
theorem dg_impl_TypeOk : Tryz.f155.body.bind (digC Tryz.prog Tryz.f155.ntmps []) = some c_impl_TypeOk := by kernel_rfl
theorem rs_impl_TypeOk : resSlots Tryz.prog Tryz.f155 = some [.s 2] := by kernel_rfl
theorem ok_impl_TypeOk (n : Int) : FnOK Tryz.prog 155 [.one (.d (.sc (.int .i64 n)))] (fun ra _ => ra = [.one (.d (.sc (.bool (tyOk n))))]) := by
  rw [← typeNm_ok]
  refine FnOK.ofK Tryz.func155 (by kernel_rfl) dg_impl_TypeOk rs_impl_TypeOk rfl rfl ?_
  unfold c_impl_TypeOk
  refine kSeq (kReg (kMovC rfl (kDone (kSeq (kReg (kMovC rfl (kCallD (ok_impl_typeName _) ⟨rfl, trivial⟩ rfl rfl rfl rfl rfl (kBin rfl rfl rfl (kMovC rfl (kDone (kRet (endRetA (ra := [.one (.d _)]) rfl rfl))))))))))))

def c_impl_isWord : C := (.seq (.reg false (.op 0 [] (some 2) none false (.mov (.v (.bool false)))
  .done))
 (.seq (.reg false (.op 0 [] (some 3) none false (.mov (.t 0))
  (.op 1 [] (some 4) none false (.call 4 147 [(.t 3), (.v (.int .i64 0)), (.v (.int .i64 4294967295))])
  (.op 2 [] (some 2) none false (.mov (.t 4))
  .done))))
 .ret))
theorem dg_impl_isWord : Tryz.f192.body.bind (digC Tryz.prog Tryz.f192.ntmps []) = some c_impl_isWord := by kernel_rfl
theorem rs_impl_isWord : resSlots Tryz.prog Tryz.f192 = some [.s 2] := by kernel_rfl
theorem ok_impl_isWord (n : Int) : FnOK Tryz.prog 192 [.one (.d (.sc (.int .i64 n)))] (fun ra _ => ra = [.one (.d (.sc (.bool (isW n))))]) := by
  refine FnOK.ofK Tryz.func192 (by kernel_rfl) dg_impl_isWord rs_impl_isWord rfl rfl ?_
  unfold c_impl_isWord
  refine kSeq (kReg (kMovC rfl (kDone (kSeq (kReg (kMovC rfl (kCallD (ok_impl_within _ _ _) ⟨rfl, rfl, rfl, trivial⟩ rfl rfl rfl rfl rfl (kMovC rfl (kDone (kRet (endRetA (ra := [.one (.d _)]) rfl ?_)))))))))))
  rw [show isW n = decide (0 ≤ n ∧ n ≤ 4294967295) by unfold isW; rw [Bool.eq_iff_iff]; simp; omega]

end Go.Proofs.YtbmagbgdpmgbmaaGreat.FnDropSetsFn
