/- What the functions that FnExactAskOf reaches compute, one contract each; each with the bounds that it states. -/
import Derived.Test.YtmecljfkakjmbaaGreatFnExactAskOfFn1
import Derived.Test.YtmecljfkakjmbaaGreatProg
import Derived.KernelRfl
set_option maxRecDepth 100000
set_option maxHeartbeats 8000000
set_option linter.unusedVariables false
set_option linter.unusedSimpArgs false
namespace Go.Proofs.YtmecljfkakjmbaaGreat.FnExactAskOfFn
open Go Hearth Go.Proofs

def c_slices_ContainsFunc_LLbyte_Lbyte : C := (.seq (.reg false (.op 0 [] (some 4) none false (.mov (.v (.bool false)))
  .done))
 (.seq (.reg false (.op 0 [] (some 5) none false (.mov (.t 0))
  (.op 1 [] (some 6) none false (.mov (.t 1))
  (.op 2 [] (some 7) none false (.call 7 186 [(.t 5), (.t 6)])
  (.op 3 [] (some 8) none false (.bin .geq (.t 7) (.v (.int .i64 0)))
  (.op 4 [] (some 4) none false (.mov (.t 8))
  .done))))))
 .ret))
theorem dg_slices_ContainsFunc_LLbyte_Lbyte : Tryz.f171.body.bind (digC Tryz.prog Tryz.f171.ntmps []) = some c_slices_ContainsFunc_LLbyte_Lbyte := by kernel_rfl
theorem rs_slices_ContainsFunc_LLbyte_Lbyte : resSlots Tryz.prog Tryz.f171 = some [.s 4] := by kernel_rfl
theorem ok_slices_ContainsFunc_LLbyte_Lbyte (l : List DV) (D : DV → Prop) (g : DV → Bool) (hl : (l.length : Int) ≤ 9223372036854775807) (hD : ∀ x ∈ l, D x) :
    FnOK Tryz.prog 171 [.one (.d (lst l)), .one (.fv false (fcPred D g))] (fun ra _ => ra = [.one (.d (.sc (.bool (l.any g))))]) := by
  refine FnOK.ofK Tryz.func171 (by kernel_rfl) dg_slices_ContainsFunc_LLbyte_Lbyte rs_slices_ContainsFunc_LLbyte_Lbyte rfl rfl ?_
  unfold c_slices_ContainsFunc_LLbyte_Lbyte
  refine kSeq (kReg (kMovC rfl (kDone ?_)))
  refine kSeq (kReg (kMovC rfl (kMovC rfl ?_)))
  refine kCall1 true (ok_slices_IndexFunc_LLbyte_Lbyte l D g hl hD) ⟨rfl, ⟨fun h => h, fun _ _ h => h⟩, trivial⟩ rfl rfl rfl fun os => ?_
  refine kBin rfl rfl rfl (kMovC rfl (kDone (kRet ?_)))
  refine endRet (ra := [.one (.d _)]) rfl ⟨⟨⟨rfl, .inl rfl⟩, trivial⟩, .nil, trivial, trivial, trivial⟩ ?_
  have : decide (idxF g l ≥ 0) = l.any g := by
    unfold idxF
    cases h : l.findIdx? g with
    | none =>
      rw [List.findIdx?_eq_none_iff] at h
      have : l.any g = false := by rw [List.any_eq_false]; intro x hx; simp [h x hx]
      rw [this]; rfl
    | some i =>
      rw [List.findIdx?_eq_some_iff_getElem] at h
      obtain ⟨h1, h2, _⟩ := h
      have : l.any g = true := by rw [List.any_eq_true]; exact ⟨_, List.getElem_mem h1, h2⟩
      rw [this]; simp
  rw [this]

def c_impl_all_Lbyte : C := (.seq (.reg false (.op 0 [] (some 3) none false (.box 3 (.t 1))
  (.op 1 [] (some 4) none false (.mov (.v (.bool false)))
  .done)))
 (.seq (.reg false (.op 0 [] (some 5) none false (.mov (.t 0))
  (.op 1 [] (some 6) none false (.clo 172 [] [(.t 3)])
  (.op 2 [] (some 7) none false (.call 7 171 [(.t 5), (.t 6)])
  (.op 3 [] (some 8) none false (.un .not (.t 7))
  (.op 4 [] (some 4) none false (.mov (.t 8))
  .done))))))
 .ret))
theorem dg_impl_all_Lbyte : Tryz.f139.body.bind (digC Tryz.prog Tryz.f139.ntmps []) = some c_impl_all_Lbyte := by kernel_rfl
theorem rs_impl_all_Lbyte : resSlots Tryz.prog Tryz.f139 = some [.s 4] := by kernel_rfl
theorem ok_impl_all_Lbyte (l : List DV) (D : DV → Prop) (g : DV → Bool) (hl : (l.length : Int) ≤ 9223372036854775807) (hD : ∀ x ∈ l, D x) :
    FnOK Tryz.prog 139 [.one (.d (lst l)), .one (.fv false (fcPred D g))] (fun ra _ => ra = [.one (.d (.sc (.bool (l.all g))))]) := by
  refine FnOK.ofK Tryz.func139 (by kernel_rfl) dg_impl_all_Lbyte rs_impl_all_Lbyte rfl rfl ?_
  unfold c_impl_all_Lbyte
  refine kSeq (kReg (kBox rfl rfl rfl rfl rfl (kMovC rfl (kDone ?_))))
  refine kSeq (kReg (kMovC rfl (kClo rfl rfl ?_)))
  refine kCall1 true (ok_slices_ContainsFunc_LLbyte_Lbyte l D (fun x => !g x) hl hD) ⟨rfl, ⟨rfl, ⟨_, Tryz.func172, rfl, by kernel_rfl⟩, _, rfl, ?_⟩, trivial⟩ rfl rfl rfl fun os => ?_
  · rintro l R ⟨x, hx, rfl, rfl⟩
    exact ⟨by rintro _ rfl; rfl, ok_impl_all_Lbyte_1 x D g hx⟩
  refine kUn rfl rfl (kMovC rfl (kDone (kRet ?_)))
  refine endRet (ra := [.one (.d _)]) rfl ⟨⟨⟨rfl, .inl rfl⟩, trivial⟩, .nil, trivial, trivial, trivial⟩ ?_
  simp [List.all_eq_not_any_not]

def c_impl_NameOk : C := (.seq (.reg false (.op 0 [] (some 1) none false (.box 1 (.t 0))
  (.op 1 [] (some 2) none false (.mov (.v (.bool false)))
  .done)))
 (.seq (.reg false (.op 0 [] (some 3) none false (.fad (.t 1) 0)
  (.op 1 [] (some 4) none false (.load none (.t 3))
  (.op 2 [] (some 5) none false (.len (.t 4))
  (.op 3 [] (some 6) none false (.bin .leq (.t 5) (.v (.int .i64 6)))
  (.op 4 [] (some 7) none false (.mov (.t 6))
  (.op 5 [] (some 8) (some (7, true)) false (.fad (.t 1) 0)
  (.op 6 [] (some 9) (some (7, true)) false (.load none (.t 8))
  (.op 7 [] (some 10) (some (7, true)) false (.call 10 139 [(.t 9), (.fn 140)])
  (.op 8 [] (some 11) none false (.pick (.t 7) (.t 10) (.v (.bool false)))
  (.op 9 [] (some 2) none false (.mov (.t 11))
  .done)))))))))))
 .ret))
theorem dg_impl_NameOk : Tryz.f84.body.bind (digC Tryz.prog Tryz.f84.ntmps []) = some c_impl_NameOk := by kernel_rfl
theorem rs_impl_NameOk : resSlots Tryz.prog Tryz.f84 = some [.s 2] := by kernel_rfl
theorem ok_impl_NameOk (a : List (List UInt8)) (ha : a.length ≤ 4194304) (hb : ∀ b ∈ a, b.length ≤ 4194304) :
    FnOK Tryz.prog 84 [.agg [.d (encBB a)]] (fun ra _ => ra = [.one (.d (.sc (.bool (nameOk a))))]) := by
  refine FnOK.ofK Tryz.func84 (by kernel_rfl) dg_impl_NameOk rs_impl_NameOk rfl rfl ?_
  unfold c_impl_NameOk
  refine kSeq (kReg (kBox rfl rfl rfl rfl rfl (kMovC rfl (kDone (kSeq (kReg (kFadP rfl rfl (kLoadP rfl rfl rfl (kLenR rfl rfl (kBin rfl rfl rfl (kMovC rfl (kGP rfl (fun g0 => kGT rfl (kFadP rfl rfl (kGT rfl (kLoadP rfl rfl rfl (kGT rfl ?_))))) (fun g0 => kGF rfl (kGF rfl (kGF rfl (kPickF rfl (kMovC rfl (kMovC rfl (kDone (kRet (endRetA (ra := [.one (.d _)]) rfl ?_)))))))))))))))))))))
  · refine kCall1 true (ok_impl_all_Lbyte (a.map encB) (fun x => ∃ b : List UInt8, x = encB b ∧ b.length ≤ 4194304) (fun x => labelOk (decB x)) (by simp; omega) (fun x hx => by obtain ⟨c, h, rfl⟩ := List.mem_map.1 hx; exact ⟨c, rfl, hb c h⟩)) ⟨congrArg some (encBB_lst a), ⟨rfl, rfl, ⟨_, Tryz.func140, rfl, by kernel_rfl⟩, ?_⟩, trivial⟩ rfl rfl rfl (fun _ => ?_)
    · rintro _ R ⟨x, ⟨c, rfl, h⟩, rfl, rfl⟩
      have := ok_impl_LabelOk c h
      simp only [decB_enc]
      exact this
    refine kPickT rfl (kMovC rfl (kMovC rfl (kDone (kRet (endRetA (ra := [.one (.d _)]) rfl ?_)))))
    rw [all_decB, show nameOk a = a.all labelOk by simp only [nameOk]; rw [decide_eq_true (by omega)]; rfl]
  · rw [show nameOk a = false by simp only [nameOk]; rw [decide_eq_false (by omega)]; rfl]

/-- What a type is called. -/
def typeTab : List (Int × ByteArray) := [(1, ⟨#[65]⟩), (2, ⟨#[78, 83]⟩), (5, ⟨#[67, 78, 65, 77, 69]⟩), (6, ⟨#[83, 79, 65]⟩), (12, ⟨#[80, 84, 82]⟩), (16, ⟨#[84, 88, 84]⟩), (49, ⟨#[68, 72, 67, 73, 68]⟩)]
def typeNm (n : Int) : ByteArray := ((typeTab.find? fun e => n == e.1).map (·.2)).getD ByteArray.empty
theorem ok_impl_typeName (n : Int) : FnOK Tryz.prog 167 [.one (.d (.sc (.int .i64 n)))] (fun ra _ => ra = [.one (.d (.sc (.string (typeNm n))))]) := by
  refine FnOK.ofWalk Tryz.func167 rfl (by kernel_rfl) fun w => ?_
  have kk : Tryz.prog.underlying 3 = some (.int .i64) := by kernel_rfl
  have hmm := @Go.RowKit.run_makeMap Tryz.prog
  go_enter Tryz.func167, Tryz.ntmps167
  go_wp2
  have t0 : Tab (w.alloc (.map #[] 0)) w.heap.size [] := ⟨_, _, (MapKept.heap_alloc w _).1, rfl⟩
  have b0 : Go.RowKit.Below w.heap.size w (w.alloc (.map #[] 0)) := (Go.RowKit.Below.refl _ _).alloc (Nat.le_refl _) _
  have st : ∀ {w1 w2 : World}, Go.RowKit.Below w.heap.size w w1 → Ext w1 w2 (fun b => b = w.heap.size) → Go.RowKit.Below w.heap.size w w2 := fun h e => ⟨e.os.trans h.os, e.tape.trans h.tape, e.output.trans h.output, Nat.le_trans h.size e.size, fun k hk => (e.same k (Nat.lt_of_lt_of_le hk h.size) (by omega)).trans (h.block k hk)⟩
  refine upon_insert (kt := 3) (et := 9) ?_ kk t0 ?_ (fun w1 t1 e1 => ?_)
  · kernel_rfl
  · rfl
  have b1 := st b0 e1
  go_wp2
  refine upon_insert (kt := 3) (et := 9) ?_ kk t1 ?_ (fun w2 t2 e2 => ?_)
  · kernel_rfl
  · rfl
  have b2 := st b1 e2
  go_wp2
  refine upon_insert (kt := 3) (et := 9) ?_ kk t2 ?_ (fun w3 t3 e3 => ?_)
  · kernel_rfl
  · rfl
  have b3 := st b2 e3
  go_wp2
  refine upon_insert (kt := 3) (et := 9) ?_ kk t3 ?_ (fun w4 t4 e4 => ?_)
  · kernel_rfl
  · rfl
  have b4 := st b3 e4
  go_wp2
  refine upon_insert (kt := 3) (et := 9) ?_ kk t4 ?_ (fun w5 t5 e5 => ?_)
  · kernel_rfl
  · rfl
  have b5 := st b4 e5
  go_wp2
  refine upon_insert (kt := 3) (et := 9) ?_ kk t5 ?_ (fun w6 t6 e6 => ?_)
  · kernel_rfl
  · rfl
  have b6 := st b5 e6
  go_wp2
  refine upon_insert (kt := 3) (et := 9) ?_ kk t6 ?_ (fun w7 t7 e7 => ?_)
  · kernel_rfl
  · rfl
  have b7 := st b6 e7
  go_wp2
  refine upon_find (kt := 3) (et := 9) ?_ kk ?_ t7 ?_
  · kernel_rfl
  · rfl
  go_wp2
  all_goals go_ret
  exact ⟨rfl, b7⟩

theorem typeNm_ok (n : Int) : (!((typeNm n).toList == (⟨#[]⟩ : ByteArray).toList)) = tyOk n := by
  by_cases h1 : n = 1
  · subst h1; rw [ByteArray.toList_eq, ByteArray.toList_eq]; rfl
  by_cases h2 : n = 2
  · subst h2; rw [ByteArray.toList_eq, ByteArray.toList_eq]; rfl
  by_cases h3 : n = 5
  · subst h3; rw [ByteArray.toList_eq, ByteArray.toList_eq]; rfl
  by_cases h4 : n = 6
  · subst h4; rw [ByteArray.toList_eq, ByteArray.toList_eq]; rfl
  by_cases h5 : n = 12
  · subst h5; rw [ByteArray.toList_eq, ByteArray.toList_eq]; rfl
  by_cases h6 : n = 16
  · subst h6; rw [ByteArray.toList_eq, ByteArray.toList_eq]; rfl
  by_cases h7 : n = 49
  · subst h7; rw [ByteArray.toList_eq, ByteArray.toList_eq]; rfl
  have e : ∀ m : Int, n ≠ m → (n == m) = false := fun m h => by simpa using h
  have : typeNm n = ByteArray.empty := by
    unfold typeNm typeTab
    simp only [List.find?_cons, e 1 h1, e 2 h2, e 5 h3, e 6 h4, e 12 h5, e 16 h6, e 49 h7, List.find?_nil]
    rfl
  rw [this]
  simp only [tyOk, e 1 h1, e 2 h2, e 5 h3, e 6 h4, e 12 h5, e 16 h6, e 49 h7]
  rw [ByteArray.toList_eq, ByteArray.toList_eq]; rfl

def c_impl_TypeOk : C := (.seq (.reg false (.op 0 [] (some 2) none false (.mov (.v (.bool false)))
  .done))
 (.seq (.reg false (.op 0 [] (some 3) none false (.mov (.t 0))
  (.op 1 [] (some 4) none false (.call 4 167 [(.t 3)])
  (.op 2 [] (some 5) none false (.bin .neq (.t 4) (.v (.string ⟨#[]⟩)))
  (.op 3 [] (some 2) none false (.mov (.t 5))
  .done)))))
 .ret))
theorem dg_impl_TypeOk : Tryz.f128.body.bind (digC Tryz.prog Tryz.f128.ntmps []) = some c_impl_TypeOk := by kernel_rfl
theorem rs_impl_TypeOk : resSlots Tryz.prog Tryz.f128 = some [.s 2] := by kernel_rfl
theorem ok_impl_TypeOk (n : Int) : FnOK Tryz.prog 128 [.one (.d (.sc (.int .i64 n)))] (fun ra _ => ra = [.one (.d (.sc (.bool (tyOk n))))]) := by
  rw [← typeNm_ok]
  refine FnOK.ofK Tryz.func128 (by kernel_rfl) dg_impl_TypeOk rs_impl_TypeOk rfl rfl ?_
  unfold c_impl_TypeOk
  refine kSeq (kReg (kMovC rfl (kDone (kSeq (kReg (kMovC rfl (kCallD (ok_impl_typeName _) ⟨rfl, trivial⟩ rfl rfl rfl rfl rfl (kBin rfl rfl rfl (kMovC rfl (kDone (kRet (endRetA (ra := [.one (.d _)]) rfl rfl))))))))))))

def c_slices_EqualFunc_LLbyte_LLbyte_Lbyte_Lbyte : C := (.seq (.reg false (.op 0 [] (some 6) none false (.mov (.v (.bool false)))
  .done))
 (.seq (.seq (.reg false (.op 0 [] (some 10) none false (.mov (.t 0))
  (.op 1 [] (some 11) none false (.len (.t 10))
  (.op 2 [] (some 12) none false (.mov (.t 1))
  (.op 3 [] (some 13) none false (.len (.t 12))
  (.op 4 [] (some 14) none false (.bin .neq (.t 11) (.t 13))
  .done))))))
 (.cond (.t 14)
 (.seq (.reg false (.op 0 [] (some 6) none false (.mov (.v (.bool false)))
  .done))
 .ret)
 .skip))
 (.seq (.seq (.reg false (.op 0 [] (some 15) none false (.mov (.t 0))
  (.op 1 [] (some 16) none false (.len (.t 15))
  (.op 2 [] (some 17) none false (.mov (.v (.int .i64 0)))
  .done))))
 (.block 0 (.loop (.seq (.reg false (.op 0 [] (some 18) none false (.bin .lss (.t 17) (.t 16))
  .done))
 (.seq (.cond (.t 18)
 .skip
 (.exit 0))
 (.seq (.block 1 (.seq (.reg false (.op 0 [] (some 19) none false (.mov (.t 17))
  (.op 1 [] (some 20) none false (.iad 1 (.t 15) (.t 17))
  (.op 2 [] (some 21) none false (.load none (.t 20))
  (.op 3 [] (some 7) none false (.mov (.t 19))
  (.op 4 [] (some 8) none false (.mov (.t 21))
  .done))))))
 (.seq (.reg false (.op 0 [] (some 22) none false (.mov (.t 1))
  (.op 1 [] (some 23) none false (.mov (.t 7))
  (.op 2 [] (some 24) none false (.iad 1 (.t 22) (.t 23))
  (.op 3 [] (some 25) none false (.load none (.t 24))
  (.op 4 [] (some 9) none false (.mov (.t 25))
  .done))))))
 (.seq (.reg false (.op 0 [] (some 26) none false (.mov (.t 2))
  (.op 1 [] (some 27) none false (.mov (.t 8))
  (.op 2 [] (some 28) none false (.mov (.t 9))
  (.op 3 [] (some 29) none false (.callv 29 (.t 26) [(.t 27), (.t 28)])
  (.op 4 [] (some 30) none false (.un .not (.t 29))
  .done))))))
 (.cond (.t 30)
 (.seq (.reg false (.op 0 [] (some 6) none false (.mov (.v (.bool false)))
  .done))
 .ret)
 .skip)))))
 (.reg false (.op 0 [] (some 31) none false (.bin .add (.t 17) (.v (.int .i64 1)))
  (.op 1 [] (some 17) none false (.mov (.t 31))
  .done)))))))))
 (.seq (.reg false (.op 0 [] (some 6) none false (.mov (.v (.bool true)))
  .done))
 .ret))))
theorem dg_slices_EqualFunc_LLbyte_LLbyte_Lbyte_Lbyte : Tryz.f162.body.bind (digC Tryz.prog Tryz.f162.ntmps []) = some c_slices_EqualFunc_LLbyte_LLbyte_Lbyte_Lbyte := by kernel_rfl
theorem rs_slices_EqualFunc_LLbyte_LLbyte_Lbyte_Lbyte : resSlots Tryz.prog Tryz.f162 = some [.s 6] := by kernel_rfl
def fcEq : FC := fun l R => ∃ x y : List UInt8, l = [DA.one (encB x), DA.one (encB y)] ∧ R = fun ra => ra = [.one (.d (.sc (.bool (x == y))))]
theorem ok_slices_EqualFunc_LLbyte_LLbyte_Lbyte_Lbyte (a b : List (List UInt8)) (ha : a.length ≤ 4194304) (hb : b.length ≤ 4194304) :
    FnOK Tryz.prog 162 [.one (.d (encBB a)), .one (.d (encBB b)), .one (.fv false fcEq)] (fun ra _ => ra = [.one (.d (.sc (.bool (decide (a = b)))))]) := by
  refine FnOK.ofK Tryz.func162 (by kernel_rfl) dg_slices_EqualFunc_LLbyte_LLbyte_Lbyte_Lbyte rs_slices_EqualFunc_LLbyte_LLbyte_Lbyte_Lbyte rfl rfl ?_
  unfold c_slices_EqualFunc_LLbyte_LLbyte_Lbyte_Lbyte
  refine kSeq (kReg (kMovC rfl (kDone (kSeq (kSeq (kReg (kMovC rfl (kLenR rfl rfl (kMovC rfl (kLenR rfl rfl (kBin rfl rfl rfl (kDone (kCondIN rfl (fun g0 => kSeq (kReg (kMovC rfl (kDone (kRet (endRetA (ra := [.one (.d _)]) rfl ?_)))))) (fun g0 => kSkip (kSeq (kSeq (kReg (kMovC rfl (kLenR rfl rfl (kMovC rfl (kDone (kBlock ?_))))))))))))))))))))))
  · rw [decide_eq_false (by rintro rfl; simp_all)]
  have hab : a.length = b.length := by omega
  refine kLoop (α := { i : Nat // i ≤ a.length ∧ a.take i = b.take i })
    (fun y => ⟨tabSl [(1, .dv (encBB b)), (2, .c (.fv false fcEq)), (15, .dv (encBB a)), (16, .i a.length), (17, .i y.1)], obTab 1 [], []⟩) (fun y => a.length - y.1) ⟨0, by simp⟩
    .normA ?_
  rintro ⟨i, hi, he⟩
  simp only
  rcases Nat.lt_or_ge i a.length with hlt | hge
  · refine kSeq (kReg (kBin rfl rfl rfl (kDone (kSeq (kCondP rfl (fun g0 => kSkip (kSeq (kBlock (kSeq (kReg (kMovC rfl (kIadR rfl rfl rfl (by omega) (kLoadD rfl rfl (kMovC rfl (kMovC rfl (kDone (kSeq (kReg (kMovC rfl (kMovC rfl (kIadR rfl rfl rfl (by omega) (kLoadD rfl rfl (kMovC rfl (kDone (kSeq (kReg (kMovC rfl (kMovC rfl (kMovC rfl ?_)))))))))))))))))))))))) (fun g0 => (by omega)))))))
    refine kCallv rfl ⟨a[i], b[i], rfl, rfl⟩ ⟨rfl, rfl, trivial⟩ (.inr ?_) rfl ?_ rfl ?_
    · rintro _ rfl; rfl
    · rintro _ rfl; exact Nat.le_of_ble_eq_true rfl
    rintro _ rfl
    refine kUn rfl rfl (kDone (kCondN rfl (fun g0 => kSeq (kReg (kMovC rfl (kDone (kRet (endRetA (ra := [.one (.d _)]) rfl ?_)))))) (fun g0 => kSkip (kBk (kReg (kAdd rfl rfl (by omega) (kMovC rfl (kDone ?_))))))))
    · rw [decide_eq_false]
      rintro rfl
      simp_all
    · refine kInv ⟨⟨i + 1, by omega, ?_⟩, by simp only; omega, .normA⟩
      rw [← List.take_append_getElem (by omega), ← List.take_append_getElem (by omega), he]
      simp_all
  · refine kSeq (kReg (kBin rfl rfl rfl (kDone (kSeq (kCondP rfl (fun g0 => (by omega)) (fun g0 => kExit (kExC (kExI (kExB (kSeq (kReg (kMovC rfl (kDone (kRet (endRetA (ra := [.one (.d _)]) rfl ?_)))))))))))))))
    rw [show i = a.length by omega, List.take_length, hab, List.take_length] at he
    rw [he, decide_eq_true rfl]

def c_bytes_Equal : C := (.seq (.reg false (.op 0 [] (some 4) none false (.mov (.v (.bool false)))
  .done))
 (.seq (.reg false (.op 0 [] (some 5) none false (.mov (.t 0))
  (.op 1 [] (some 6) none false (.b2s (.t 5))
  (.op 2 [] (some 7) none false (.mov (.t 1))
  (.op 3 [] (some 8) none false (.b2s (.t 7))
  (.op 4 [] (some 9) none false (.bin .eql (.t 6) (.t 8))
  (.op 5 [] (some 4) none false (.mov (.t 9))
  .done)))))))
 .ret))
theorem dg_bytes_Equal : Tryz.f163.body.bind (digC Tryz.prog Tryz.f163.ntmps []) = some c_bytes_Equal := by kernel_rfl
theorem rs_bytes_Equal : resSlots Tryz.prog Tryz.f163 = some [.s 4] := by kernel_rfl
theorem ok_bytes_Equal (a b : List UInt8) :
    FnOK Tryz.prog 163 [.one (.d (encB a)), .one (.d (encB b))] (fun ra _ => ra = [.one (.d (.sc (.bool (a == b))))]) := by
  refine FnOK.ofK Tryz.func163 (by kernel_rfl) dg_bytes_Equal rs_bytes_Equal rfl rfl ?_
  unfold c_bytes_Equal
  refine kSeq (kReg (kMovC rfl (kDone (kSeq (kReg (kMovC rfl (kB2s rfl rfl (kMovC rfl (kB2s rfl rfl (kBin rfl rfl rfl (kMovC rfl (kDone (kRet (endRetA (ra := [.one (.d _)]) rfl ?_))))))))))))))
  simp only [bt_list]

def c_impl_Name_under : C := (.seq (.reg false (.op 0 [] (some 2) none false (.box 2 (.t 0))
  (.op 1 [] (some 3) none false (.box 3 (.t 1))
  (.op 2 [] (some 4) none false (.mov (.v (.bool false)))
  .done))))
 (.seq (.reg false (.op 0 [] (some 6) none false (.fad (.t 2) 0)
  (.op 1 [] (some 7) none false (.load none (.t 6))
  (.op 2 [] (some 8) none false (.len (.t 7))
  (.op 3 [] (some 9) none false (.fad (.t 3) 0)
  (.op 4 [] (some 10) none false (.load none (.t 9))
  (.op 5 [] (some 11) none false (.len (.t 10))
  (.op 6 [] (some 12) none false (.bin .sub (.t 8) (.t 11))
  (.op 7 [] (some 5) none false (.mov (.t 12))
  .done)))))))))
 (.seq (.reg true (.op 0 [] (some 13) none true (.mov (.t 5))
  (.op 1 [] (some 14) none true (.bin .geq (.t 13) (.v (.int .i64 0)))
  (.op 2 [] (some 15) none true (.mov (.t 14))
  (.op 3 [] (some 16) (some (15, true)) true (.fad (.t 2) 0)
  (.op 4 [] (some 17) (some (15, true)) true (.load none (.t 16))
  (.op 5 [] (some 18) (some (15, true)) true (.mov (.t 5))
  (.op 6 [] (some 19) (some (15, true)) true (.mm true (.t 18) (.v (.int .i64 0)))
  (.op 7 [] (some 20) (some (15, true)) true (.cut 1 (.t 17) (some (.t 19)) none)
  (.op 8 [] (some 21) (some (15, true)) true (.fad (.t 3) 0)
  (.op 9 [] (some 22) (some (15, true)) true (.load none (.t 21))
  (.op 10 [4, 9] (some 23) (some (15, true)) false (.call 23 162 [(.t 20), (.t 22), (.fn 163)])
  (.op 11 [] (some 24) none true (.pick (.t 15) (.t 23) (.v (.bool false)))
  (.op 12 [] (some 4) none true (.mov (.t 24))
  .done))))))))))))))
 .ret)))
theorem dg_impl_Name_under : Tryz.f113.body.bind (digC Tryz.prog Tryz.f113.ntmps []) = some c_impl_Name_under := by kernel_rfl
theorem rs_impl_Name_under : resSlots Tryz.prog Tryz.f113 = some [.s 4] := by kernel_rfl
theorem ok_impl_Name_under (n z : List (List UInt8)) (hn : n.length ≤ 4194304) (hz : z.length ≤ 4194304) :
    FnOK Tryz.prog 113 [.agg [.d (encBB n)], .agg [.d (encBB z)]] (fun ra _ => ra = [.one (.d (.sc (.bool (underN n z))))]) := by
  refine FnOK.ofK Tryz.func113 (by kernel_rfl) dg_impl_Name_under rs_impl_Name_under rfl rfl ?_
  unfold c_impl_Name_under
  have hd : ∀ m, (n.drop m).length ≤ 4194304 := fun m => by simp; omega
  refine kSeq (kReg (kBox rfl rfl rfl rfl rfl (kBox rfl rfl rfl rfl rfl (kMovC rfl (kDone (kSeq (kReg (kFadP rfl rfl (kLoadP rfl rfl rfl (kLenR rfl rfl (kFadP rfl rfl (kLoadP rfl rfl rfl (kLenR rfl rfl (kDif rfl rfl (by omega) (kMovC rfl (kDone (kSeq (kRegD (kMovC rfl (kBin rfl rfl rfl (kMovC rfl (kGP rfl (fun g0 => kGT rfl (kFadP rfl rfl (kGT rfl (kLoadP rfl rfl rfl (kGT rfl (kMovC rfl (kGT rfl (kMm rfl rfl (kGT rfl (kCutLT rfl rfl (by omega) (kGT rfl (kFadP rfl rfl (kGT rfl (kLoadP rfl rfl rfl (kRelF rfl rfl (kGT rfl ?_)))))))))))))))) (fun g0 => kGF rfl (kGF rfl (kGF rfl (kGF rfl (kGF rfl (kGF rfl (kGF rfl (kRelF rfl rfl (kGF rfl (kPickF rfl (kMovC rfl (kMovC rfl (kDone (kH (kRet (endRetA (ra := [.one (.d _)]) rfl ?_))))))))))))))))))))))))))))))))))))))
  · refine kCallD (ok_slices_EqualFunc_LLbyte_LLbyte_Lbyte_Lbyte _ z (hd _) hz) ⟨rfl, rfl, ⟨rfl, rfl, ⟨_, Tryz.func163, rfl, by kernel_rfl⟩, ?_⟩, trivial⟩ rfl rfl rfl rfl rfl ?_
    · rintro _ R ⟨x, y, rfl, rfl⟩
      exact ok_bytes_Equal x y
    refine kPickT rfl (kMovC rfl (kMovC rfl (kDone (kH (kRet (endRetA (ra := [.one (.d _)]) rfl ?_))))))
    simp only [if_true, underN]
    rw [if_neg (by omega), show (n.length - z.length : Int).toNat = n.length - z.length by omega, decide_eq_true (show z.length ≤ n.length by omega), Bool.true_and]
  · rw [show underN n z = false by simp only [underN]; rw [decide_eq_false (by omega)]; rfl]

def c_impl_Under : C := (.seq (.reg false (.op 0 [] (some 2) none false (.box 2 (.t 0))
  (.op 1 [] (some 3) none false (.box 3 (.t 1))
  (.op 2 [] (some 4) none false (.mov (.v (.bool false)))
  .done))))
 (.seq (.reg false (.op 0 [] (some 5) none false (.load (some 1) (.t 2))
  (.op 1 [] (some 6) none false (.call 6 84 [(.t 5)])
  (.op 2 [] (some 7) none false (.mov (.t 6))
  (.op 3 [] (some 8) (some (7, true)) false (.load (some 1) (.t 3))
  (.op 4 [] (some 9) (some (7, true)) false (.call 9 84 [(.t 8)])
  (.op 5 [] (some 10) none false (.pick (.t 7) (.t 9) (.v (.bool false)))
  (.op 6 [] (some 11) none false (.mov (.t 10))
  (.op 7 [] (some 12) (some (11, true)) false (.load (some 1) (.t 2))
  (.op 8 [] (some 13) (some (11, true)) false (.load (some 1) (.t 3))
  (.op 9 [] (some 14) (some (11, true)) false (.call 14 113 [(.t 12), (.t 13)])
  (.op 10 [] (some 15) none false (.pick (.t 11) (.t 14) (.v (.bool false)))
  (.op 11 [] (some 4) none false (.mov (.t 15))
  .done)))))))))))))
 .ret))
theorem dg_impl_Under : Tryz.f129.body.bind (digC Tryz.prog Tryz.f129.ntmps []) = some c_impl_Under := by kernel_rfl
theorem rs_impl_Under : resSlots Tryz.prog Tryz.f129 = some [.s 4] := by kernel_rfl
theorem ok_impl_Under (n z : List (List UInt8)) (hn : n.length ≤ 4194304) (hz : z.length ≤ 4194304) (hn' : ∀ b ∈ n, b.length ≤ 4194304) (hz' : ∀ b ∈ z, b.length ≤ 4194304) :
    FnOK Tryz.prog 129 [.agg [.d (encBB n)], .agg [.d (encBB z)]] (fun ra _ => ra = [.one (.d (.sc (.bool (nameOk n && nameOk z && underN n z))))]) := by
  refine FnOK.ofK Tryz.func129 (by kernel_rfl) dg_impl_Under rs_impl_Under rfl rfl ?_
  unfold c_impl_Under
  refine kSeq (kReg (kBox rfl rfl rfl rfl rfl (kBox rfl rfl rfl rfl rfl (kMovC rfl (kDone (kSeq (kReg (kLoadP rfl rfl rfl (kCallD (ok_impl_NameOk _ (by first | assumption | omega | solve_by_elim [List.getElem_mem] | (simp only [szOut] at *; omega)) (by first | assumption | omega | solve_by_elim [List.getElem_mem] | (simp only [szOut] at *; omega))) ⟨⟨⟨rfl, trivial⟩, Nat.le_of_ble_eq_true rfl⟩, trivial⟩ rfl rfl rfl rfl rfl (kMovC rfl (kGS rfl (fun g0 => kGT rfl (kLoadP rfl rfl rfl (kGT rfl (kCallD (ok_impl_NameOk _ (by first | assumption | omega | solve_by_elim [List.getElem_mem] | (simp only [szOut] at *; omega)) (by first | assumption | omega | solve_by_elim [List.getElem_mem] | (simp only [szOut] at *; omega))) ⟨⟨⟨rfl, trivial⟩, Nat.le_of_ble_eq_true rfl⟩, trivial⟩ rfl rfl rfl rfl rfl (kPickT rfl (kMovC rfl (kMovC rfl (kGS rfl (fun g1 => kGT rfl (kLoadP rfl rfl rfl (kGT rfl (kLoadP rfl rfl rfl (kGT rfl (kCallD (ok_impl_Name_under _ _ (by first | assumption | omega | solve_by_elim [List.getElem_mem] | (simp only [szOut] at *; omega)) (by first | assumption | omega | solve_by_elim [List.getElem_mem] | (simp only [szOut] at *; omega))) ⟨⟨⟨rfl, trivial⟩, Nat.le_of_ble_eq_true rfl⟩, ⟨⟨rfl, trivial⟩, Nat.le_of_ble_eq_true rfl⟩, trivial⟩ rfl rfl rfl rfl rfl (kPickT rfl (kMovC rfl (kMovC rfl (kDone (kRet (endRetA (ra := [.one (.d _)]) rfl ?_)))))))))))) (fun g1 => kGF rfl (kGF rfl (kGF rfl (kPickF rfl (kMovC rfl (kMovC rfl (kDone (kRet (endRetA (ra := [.one (.d _)]) rfl ?_))))))))))))))))) (fun g0 => kGF rfl (kGF rfl (kPickF rfl (kMovC rfl (kMovC rfl (kGF rfl (kGF rfl (kGF rfl (kPickF rfl (kMovC rfl (kMovC rfl (kDone (kRet (endRetA (ra := [.one (.d _)]) rfl ?_)))))))))))))))))))))))))
  all_goals simp_all

def c_impl_all_int_1 : C := (.seq (.reg false (.op 0 [] (some 3) none false (.mov (.v (.bool false)))
  .done))
 (.seq (.reg false (.op 0 [] (some 4) none false (.load none (.t 1))
  (.op 1 [] (some 5) none false (.mov (.t 0))
  (.op 2 [] (some 6) none false (.callv 6 (.t 4) [(.t 5)])
  (.op 3 [] (some 7) none false (.un .not (.t 6))
  (.op 4 [] (some 3) none false (.mov (.t 7))
  .done))))))
 .ret))
theorem dg_impl_all_int_1 : Tryz.f185.body.bind (digC Tryz.prog Tryz.f185.ntmps []) = some c_impl_all_int_1 := by kernel_rfl
theorem rs_impl_all_int_1 : resSlots Tryz.prog Tryz.f185 = some [.s 3] := by kernel_rfl
theorem ok_impl_all_int_1 (x : DV) (D : DV → Prop) (g : DV → Bool) (hx : D x) :
    FnOK Tryz.prog 185 [.one (.d x), .one (.ptr [.fv false (fcPred D g)])] (fun ra _ => ra = [.one (.d (.sc (.bool (!g x))))]) := by
  refine FnOK.ofK Tryz.func185 (by kernel_rfl) dg_impl_all_int_1 rs_impl_all_int_1 rfl rfl ?_
  unfold c_impl_all_int_1
  refine kSeq (kReg (kMovC rfl (kDone ?_)))
  refine kSeq (kReg (kLoadC rfl rfl (kMovC rfl (kCallv rfl ⟨x, hx, rfl, rfl⟩ ⟨rfl, trivial⟩ (.inr ?_) rfl ?_ rfl ?_))))
  · rintro _ rfl; rfl
  · rintro _ rfl; exact Nat.le_of_ble_eq_true rfl
  rintro _ rfl
  refine kUn rfl rfl (kMovC rfl (kDone (kRet ?_)))
  exact endRet (ra := [.one (.d _)]) rfl ⟨⟨⟨rfl, .inl rfl⟩, trivial⟩, .nil, trivial, trivial, trivial⟩ rfl

def c_slices_IndexFunc_Lint_int : C := (.seq (.reg false (.op 0 [] (some 4) none false (.mov (.v (.int .i64 0)))
  .done))
 (.seq (.seq (.reg false (.op 0 [] (some 6) none false (.mov (.t 0))
  (.op 1 [] (some 7) none false (.len (.t 6))
  (.op 2 [] (some 8) none false (.mov (.v (.int .i64 0)))
  .done))))
 (.block 0 (.loop (.seq (.reg false (.op 0 [] (some 9) none false (.bin .lss (.t 8) (.t 7))
  .done))
 (.seq (.cond (.t 9)
 .skip
 (.exit 0))
 (.seq (.block 1 (.seq (.reg false (.op 0 [] (some 10) none false (.mov (.t 8))
  (.op 1 [] (some 5) none false (.mov (.t 10))
  .done)))
 (.seq (.reg false (.op 0 [] (some 11) none false (.mov (.t 1))
  (.op 1 [] (some 12) none false (.mov (.t 0))
  (.op 2 [] (some 13) none false (.mov (.t 5))
  (.op 3 [] (some 14) none false (.iad 1 (.t 12) (.t 13))
  (.op 4 [] (some 15) none false (.load none (.t 14))
  (.op 5 [] (some 16) none false (.callv 16 (.t 11) [(.t 15)])
  .done)))))))
 (.cond (.t 16)
 (.seq (.reg false (.op 0 [] (some 17) none false (.mov (.t 5))
  (.op 1 [] (some 4) none false (.mov (.t 17))
  .done)))
 .ret)
 .skip))))
 (.reg false (.op 0 [] (some 18) none false (.bin .add (.t 8) (.v (.int .i64 1)))
  (.op 1 [] (some 8) none false (.mov (.t 18))
  .done)))))))))
 (.seq (.reg false (.op 0 [] (some 4) none false (.mov (.v (.int .i64 (-1))))
  .done))
 .ret)))
theorem dg_slices_IndexFunc_Lint_int : Tryz.f190.body.bind (digC Tryz.prog Tryz.f190.ntmps []) = some c_slices_IndexFunc_Lint_int := by kernel_rfl
theorem rs_slices_IndexFunc_Lint_int : resSlots Tryz.prog Tryz.f190 = some [.s 4] := by kernel_rfl
theorem ok_slices_IndexFunc_Lint_int (l : List DV) (D : DV → Prop) (g : DV → Bool) (hl : (l.length : Int) ≤ 9223372036854775807) (hD : ∀ x ∈ l, D x) :
    FnOK Tryz.prog 190 [.one (.d (lst l)), .one (.fv false (fcPred D g))] (fun ra _ => ra = [.one (.d (.sc (.int .i64 (idxF g l))))]) := by
  refine FnOK.ofK Tryz.func190 (by kernel_rfl) dg_slices_IndexFunc_Lint_int rs_slices_IndexFunc_Lint_int rfl rfl ?_
  unfold c_slices_IndexFunc_Lint_int
  refine kSeq (kReg (kMovC rfl (kDone ?_)))
  refine kSeq (kSeq (kReg (kMovC rfl (kLen rfl rfl rfl (kMovC rfl (kDone (kBlock ?_)))))))
  rw [len_lst]
  refine kLoop (α := { i : Nat // i ≤ l.length ∧ ∀ x ∈ l.take i, g x = false })
    (fun y => ⟨tabSl [(0, .dv (lst l)), (1, .c (.fv false (fcPred D g))), (7, .i l.length), (8, .i y.1)], (St.init [.one (.d (lst l)), .one (.fv false (fcPred D g))]).ob, []⟩) (fun y => l.length - y.1) ⟨0, by simp⟩
    (.tab rfl ⟨.refl _, .refl _, .refl _, .refl _, trivial⟩) ?_
  rintro ⟨i, hi, hg⟩
  simp only
  refine kSeq (kReg (kBin rfl rfl rfl (kDone ?_)))
  refine kSeq (kCond rfl (fun h1 => ?_) (fun h1 => ?_))
  · have hlt : i < l.length := by simp at h1; omega
    refine kSkip (kSeq (kBlock (kSeq (kReg (kMovC rfl (kMovC rfl (kDone ?_)))))))
    refine kSeq (kReg (kMovC rfl (kMovC rfl (kMovC rfl (kIadD rfl rfl rfl rfl ?_ ?_)))))
    · rw [len_lst]; omega
    rw [show (lst l).row (i : Int).toNat = [l[i]] from row_lst l i hlt]
    refine kLoadD rfl rfl (kCallv rfl ⟨l[i], hD _ (List.getElem_mem hlt), rfl, rfl⟩ ⟨rfl, trivial⟩ (.inr ?_) rfl ?_ rfl ?_)
    · rintro _ rfl; rfl
    · rintro _ rfl; exact Nat.le_of_ble_eq_true rfl
    rintro _ rfl
    refine kDone (kCond rfl (fun h2 => ?_) (fun h2 => ?_))
    · refine kSeq (kReg (kMovC rfl (kMovC rfl (kDone (kRet ?_)))))
      refine endRet (ra := [.one (.d _)]) rfl ⟨⟨⟨rfl, .inl rfl⟩, trivial⟩, .nil, trivial, trivial, trivial⟩ ?_
      have : l.findIdx? g = some i := by
        rw [List.findIdx?_eq_some_iff_getElem]
        refine ⟨hlt, h2, fun j hj => ?_⟩
        simpa using hg _ (by rw [List.mem_take_iff_getElem]; exact ⟨j, by omega, rfl⟩)
      simp [idxF, this]
    · refine kSkip (kBk (kReg (kAdd rfl rfl ?_ (kMovC rfl (kDone (kInv ?_))))))
      · omega
      refine ⟨⟨i + 1, hlt, ?_⟩, by simp only; omega, .tab rfl ⟨.refl _, .refl _, .refl _, .refl _, trivial⟩⟩
      intro x hx
      rw [← List.take_append_getElem hlt, List.mem_append] at hx
      rcases hx with hx | hx
      · exact hg x hx
      · simp at hx; rw [hx]; exact h2
  · refine kExit (kExC (kExI (kExB ?_)))
    have hge : i = l.length := by simp at h1; omega
    refine kSeq (kReg (kMovC rfl (kDone (kRet ?_))))
    refine endRet (ra := [.one (.d _)]) rfl ⟨⟨⟨rfl, .inl rfl⟩, trivial⟩, .nil, trivial, trivial, trivial⟩ ?_
    have : l.findIdx? g = none := by
      rw [List.findIdx?_eq_none_iff]
      intro x hx
      rw [hge, List.take_length] at hg
      exact hg x hx
    simp [idxF, this]

def c_slices_ContainsFunc_Lint_int : C := (.seq (.reg false (.op 0 [] (some 4) none false (.mov (.v (.bool false)))
  .done))
 (.seq (.reg false (.op 0 [] (some 5) none false (.mov (.t 0))
  (.op 1 [] (some 6) none false (.mov (.t 1))
  (.op 2 [] (some 7) none false (.call 7 190 [(.t 5), (.t 6)])
  (.op 3 [] (some 8) none false (.bin .geq (.t 7) (.v (.int .i64 0)))
  (.op 4 [] (some 4) none false (.mov (.t 8))
  .done))))))
 .ret))
theorem dg_slices_ContainsFunc_Lint_int : Tryz.f184.body.bind (digC Tryz.prog Tryz.f184.ntmps []) = some c_slices_ContainsFunc_Lint_int := by kernel_rfl
theorem rs_slices_ContainsFunc_Lint_int : resSlots Tryz.prog Tryz.f184 = some [.s 4] := by kernel_rfl
theorem ok_slices_ContainsFunc_Lint_int (l : List DV) (D : DV → Prop) (g : DV → Bool) (hl : (l.length : Int) ≤ 9223372036854775807) (hD : ∀ x ∈ l, D x) :
    FnOK Tryz.prog 184 [.one (.d (lst l)), .one (.fv false (fcPred D g))] (fun ra _ => ra = [.one (.d (.sc (.bool (l.any g))))]) := by
  refine FnOK.ofK Tryz.func184 (by kernel_rfl) dg_slices_ContainsFunc_Lint_int rs_slices_ContainsFunc_Lint_int rfl rfl ?_
  unfold c_slices_ContainsFunc_Lint_int
  refine kSeq (kReg (kMovC rfl (kDone ?_)))
  refine kSeq (kReg (kMovC rfl (kMovC rfl ?_)))
  refine kCall1 true (ok_slices_IndexFunc_Lint_int l D g hl hD) ⟨rfl, ⟨fun h => h, fun _ _ h => h⟩, trivial⟩ rfl rfl rfl fun os => ?_
  refine kBin rfl rfl rfl (kMovC rfl (kDone (kRet ?_)))
  refine endRet (ra := [.one (.d _)]) rfl ⟨⟨⟨rfl, .inl rfl⟩, trivial⟩, .nil, trivial, trivial, trivial⟩ ?_
  have : decide (idxF g l ≥ 0) = l.any g := by
    unfold idxF
    cases h : l.findIdx? g with
    | none =>
      rw [List.findIdx?_eq_none_iff] at h
      have : l.any g = false := by rw [List.any_eq_false]; intro x hx; simp [h x hx]
      rw [this]; rfl
    | some i =>
      rw [List.findIdx?_eq_some_iff_getElem] at h
      obtain ⟨h1, h2, _⟩ := h
      have : l.any g = true := by rw [List.any_eq_true]; exact ⟨_, List.getElem_mem h1, h2⟩
      rw [this]; simp
  rw [this]

def c_impl_all_int : C := (.seq (.reg false (.op 0 [] (some 3) none false (.box 3 (.t 1))
  (.op 1 [] (some 4) none false (.mov (.v (.bool false)))
  .done)))
 (.seq (.reg false (.op 0 [] (some 5) none false (.mov (.t 0))
  (.op 1 [] (some 6) none false (.clo 185 [] [(.t 3)])
  (.op 2 [] (some 7) none false (.call 7 184 [(.t 5), (.t 6)])
  (.op 3 [] (some 8) none false (.un .not (.t 7))
  (.op 4 [] (some 4) none false (.mov (.t 8))
  .done))))))
 .ret))
theorem dg_impl_all_int : Tryz.f168.body.bind (digC Tryz.prog Tryz.f168.ntmps []) = some c_impl_all_int := by kernel_rfl
theorem rs_impl_all_int : resSlots Tryz.prog Tryz.f168 = some [.s 4] := by kernel_rfl
theorem ok_impl_all_int (l : List DV) (D : DV → Prop) (g : DV → Bool) (hl : (l.length : Int) ≤ 9223372036854775807) (hD : ∀ x ∈ l, D x) :
    FnOK Tryz.prog 168 [.one (.d (lst l)), .one (.fv false (fcPred D g))] (fun ra _ => ra = [.one (.d (.sc (.bool (l.all g))))]) := by
  refine FnOK.ofK Tryz.func168 (by kernel_rfl) dg_impl_all_int rs_impl_all_int rfl rfl ?_
  unfold c_impl_all_int
  refine kSeq (kReg (kBox rfl rfl rfl rfl rfl (kMovC rfl (kDone ?_))))
  refine kSeq (kReg (kMovC rfl (kClo rfl rfl ?_)))
  refine kCall1 true (ok_slices_ContainsFunc_Lint_int l D (fun x => !g x) hl hD) ⟨rfl, ⟨rfl, ⟨_, Tryz.func185, rfl, by kernel_rfl⟩, _, rfl, ?_⟩, trivial⟩ rfl rfl rfl fun os => ?_
  · rintro l R ⟨x, hx, rfl, rfl⟩
    exact ⟨by rintro _ rfl; rfl, ok_impl_all_int_1 x D g hx⟩
  refine kUn rfl rfl (kMovC rfl (kDone (kRet ?_)))
  refine endRet (ra := [.one (.d _)]) rfl ⟨⟨⟨rfl, .inl rfl⟩, trivial⟩, .nil, trivial, trivial, trivial⟩ ?_
  simp [List.all_eq_not_any_not]

def c_impl_isWord : C := (.seq (.reg false (.op 0 [] (some 2) none false (.mov (.v (.bool false)))
  .done))
 (.seq (.reg false (.op 0 [] (some 3) none false (.mov (.t 0))
  (.op 1 [] (some 4) none false (.call 4 127 [(.t 3), (.v (.int .i64 0)), (.v (.int .i64 4294967295))])
  (.op 2 [] (some 2) none false (.mov (.t 4))
  .done))))
 .ret))
theorem dg_impl_isWord : Tryz.f143.body.bind (digC Tryz.prog Tryz.f143.ntmps []) = some c_impl_isWord := by kernel_rfl
theorem rs_impl_isWord : resSlots Tryz.prog Tryz.f143 = some [.s 2] := by kernel_rfl
theorem ok_impl_isWord (n : Int) : FnOK Tryz.prog 143 [.one (.d (.sc (.int .i64 n)))] (fun ra _ => ra = [.one (.d (.sc (.bool (isW n))))]) := by
  refine FnOK.ofK Tryz.func143 (by kernel_rfl) dg_impl_isWord rs_impl_isWord rfl rfl ?_
  unfold c_impl_isWord
  refine kSeq (kReg (kMovC rfl (kDone (kSeq (kReg (kMovC rfl (kCallD (ok_impl_within _ _ _) ⟨rfl, rfl, rfl, trivial⟩ rfl rfl rfl rfl rfl (kMovC rfl (kDone (kRet (endRetA (ra := [.one (.d _)]) rfl ?_)))))))))))
  rw [show isW n = decide (0 ≤ n ∧ n ≤ 4294967295) by unfold isW; rw [Bool.eq_iff_iff]; simp; omega]

def c_impl_areServers : C := (.seq (.reg false (.op 0 [] (some 2) none false (.mov (.v (.bool false)))
  .done))
 (.seq (.reg false (.op 0 [] (some 3) none false (.mov (.t 0))
  (.op 1 [] (some 4) none false (.len (.t 3))
  (.op 2 [] (some 5) none false (.call 5 127 [(.t 4), (.v (.int .i64 1)), (.v (.int .i64 4))])
  (.op 3 [] (some 6) none false (.mov (.t 5))
  (.op 4 [] (some 7) (some (6, true)) false (.mov (.t 0))
  (.op 5 [] (some 8) (some (6, true)) false (.call 8 168 [(.t 7), (.fn 143)])
  (.op 6 [] (some 9) none false (.pick (.t 6) (.t 8) (.v (.bool false)))
  (.op 7 [] (some 2) none false (.mov (.t 9))
  .done)))))))))
 .ret))
theorem dg_impl_areServers : Tryz.f130.body.bind (digC Tryz.prog Tryz.f130.ntmps []) = some c_impl_areServers := by kernel_rfl
theorem rs_impl_areServers : resSlots Tryz.prog Tryz.f130 = some [.s 2] := by kernel_rfl
theorem ok_impl_areServers (l : List Int) (h : l.length ≤ 4194304) :
    FnOK Tryz.prog 130 [.one (.d (encI l))] (fun ra _ => ra = [.one (.d (.sc (.bool (ipsOk l))))]) := by
  refine FnOK.ofK Tryz.func130 (by kernel_rfl) dg_impl_areServers rs_impl_areServers rfl rfl ?_
  unfold c_impl_areServers
  refine kSeq (kReg (kMovC rfl (kDone (kSeq (kReg (kMovC rfl (kLenR rfl rfl (kCallD (ok_impl_within _ _ _) ⟨rfl, rfl, rfl, trivial⟩ rfl rfl rfl rfl rfl (kMovC rfl (kGP rfl (fun g0 => kGT rfl (kMovC rfl (kGT rfl ?_))) (fun g0 => kGF rfl (kGF rfl (kPickF rfl (kMovC rfl (kMovC rfl (kDone (kRet (endRetA (ra := [.one (.d _)]) rfl ?_))))))))))))))))))
  · refine kCallD (ok_impl_all_int (l.map fun n => .sc (.int .i64 n)) isI (fun x => isW (decI x)) (by simp; omega) (fun x hx => by obtain ⟨c, _, rfl⟩ := List.mem_map.1 hx; exact ⟨c, rfl⟩)) ⟨congrArg some (encI_lst l), ⟨rfl, rfl, ⟨_, Tryz.func143, rfl, by kernel_rfl⟩, ?_⟩, trivial⟩ rfl rfl rfl rfl rfl ?_
    · rintro _ R ⟨x, ⟨c, rfl⟩, rfl, rfl⟩
      exact ok_impl_isWord c
    refine kPickT rfl (kMovC rfl (kMovC rfl (kDone (kRet (endRetA (ra := [.one (.d _)]) rfl ?_)))))
    rw [all_decI, show ipsOk l = l.all isW by simp only [ipsOk]; rw [decide_eq_true (by omega)]; rfl]
  · rw [show ipsOk l = false by simp only [ipsOk]; rw [decide_eq_false (by omega)]; rfl]

def c_impl_isCode : C := (.seq (.reg false (.op 0 [] (some 2) none false (.mov (.v (.bool false)))
  .done))
 (.seq (.reg false (.op 0 [] (some 3) none false (.mov (.t 0))
  (.op 1 [] (some 4) none false (.call 4 127 [(.t 3), (.v (.int .i64 0)), (.v (.int .i64 10))])
  (.op 2 [] (some 2) none false (.mov (.t 4))
  .done))))
 .ret))
theorem dg_impl_isCode : Tryz.f131.body.bind (digC Tryz.prog Tryz.f131.ntmps []) = some c_impl_isCode := by kernel_rfl
theorem rs_impl_isCode : resSlots Tryz.prog Tryz.f131 = some [.s 2] := by kernel_rfl
theorem ok_impl_isCode (n : Int) : FnOK Tryz.prog 131 [.one (.d (.sc (.int .i64 n)))] (fun ra _ => ra = [.one (.d (.sc (.bool (decide (0 ≤ n) && decide (n ≤ 10)))))]) := by
  refine FnOK.ofK Tryz.func131 (by kernel_rfl) dg_impl_isCode rs_impl_isCode rfl rfl ?_
  unfold c_impl_isCode
  refine kSeq (kReg (kMovC rfl (kDone (kSeq (kReg (kMovC rfl (kCallD (ok_impl_within _ _ _) ⟨rfl, rfl, rfl, trivial⟩ rfl rfl rfl rfl rfl (kMovC rfl (kDone (kRet (endRetA (ra := [.one (.d _)]) rfl ?_)))))))))))
  rw [Bool.decide_and]

def c_impl_hasTo : C := (.seq (.reg false (.op 0 [] (some 2) none false (.mov (.v (.bool false)))
  .done))
 (.seq (.reg false (.op 0 [] (some 3) none false (.mov (.t 0))
  (.op 1 [] (some 4) none false (.bin .eql (.t 3) (.v (.int .i64 2)))
  (.op 2 [] (some 5) none false (.mov (.t 4))
  (.op 3 [] (some 6) (some (5, false)) false (.mov (.t 0))
  (.op 4 [] (some 7) (some (5, false)) false (.bin .eql (.t 6) (.v (.int .i64 5)))
  (.op 5 [] (some 8) none false (.pick (.t 5) (.v (.bool true)) (.t 7))
  (.op 6 [] (some 9) none false (.mov (.t 8))
  (.op 7 [] (some 10) (some (9, false)) false (.mov (.t 0))
  (.op 8 [] (some 11) (some (9, false)) false (.bin .eql (.t 10) (.v (.int .i64 6)))
  (.op 9 [] (some 12) none false (.pick (.t 9) (.v (.bool true)) (.t 11))
  (.op 10 [] (some 13) none false (.mov (.t 12))
  (.op 11 [] (some 14) (some (13, false)) false (.mov (.t 0))
  (.op 12 [] (some 15) (some (13, false)) false (.bin .eql (.t 14) (.v (.int .i64 12)))
  (.op 13 [] (some 16) none false (.pick (.t 13) (.v (.bool true)) (.t 15))
  (.op 14 [] (some 2) none false (.mov (.t 16))
  .done))))))))))))))))
 .ret))
theorem dg_impl_hasTo : Tryz.f144.body.bind (digC Tryz.prog Tryz.f144.ntmps []) = some c_impl_hasTo := by kernel_rfl
theorem rs_impl_hasTo : resSlots Tryz.prog Tryz.f144 = some [.s 2] := by kernel_rfl
theorem ok_impl_hasTo (n : Int) : FnOK Tryz.prog 144 [.one (.d (.sc (.int .i64 n)))] (fun ra _ => ra = [.one (.d (.sc (.bool (hasTo n))))]) := by
  refine FnOK.ofK Tryz.func144 (by kernel_rfl) dg_impl_hasTo rs_impl_hasTo rfl rfl ?_
  unfold c_impl_hasTo
  refine kSeq (kReg (kMovC rfl (kDone (kSeq (kReg (kMovC rfl (kBin rfl rfl rfl (kMovC rfl (kGP rfl (fun g0 => kGF rfl (kGF rfl (kPickT rfl (kMovC rfl (kMovC rfl (kGF rfl (kGF rfl (kPickT rfl (kMovC rfl (kMovC rfl (kGF rfl (kGF rfl (kPickT rfl (kMovC rfl (kMovC rfl (kDone (kRet (endRetA (ra := [.one (.d _)]) rfl ?_)))))))))))))))))) (fun g0 => kGT rfl (kMovC rfl (kGT rfl (kBin rfl rfl rfl (kPickF rfl (kMovC rfl (kMovC rfl (kGP rfl (fun g1 => kGF rfl (kGF rfl (kPickT rfl (kMovC rfl (kMovC rfl (kGF rfl (kGF rfl (kPickT rfl (kMovC rfl (kMovC rfl (kDone (kRet (endRetA (ra := [.one (.d _)]) rfl ?_))))))))))))) (fun g1 => kGT rfl (kMovC rfl (kGT rfl (kBin rfl rfl rfl (kPickF rfl (kMovC rfl (kMovC rfl (kGP rfl (fun g2 => kGF rfl (kGF rfl (kPickT rfl (kMovC rfl (kMovC rfl (kDone (kRet (endRetA (ra := [.one (.d _)]) rfl ?_)))))))) (fun g2 => kGT rfl (kMovC rfl (kGT rfl (kBin rfl rfl rfl (kPickF rfl (kMovC rfl (kMovC rfl (kDone (kRet (endRetA (ra := [.one (.d _)]) rfl ?_)))))))))))))))))))))))))))))))))))
  all_goals simp_all [hasTo]

def c_impl_hasText : C := (.seq (.reg false (.op 0 [] (some 2) none false (.mov (.v (.bool false)))
  .done))
 (.seq (.reg false (.op 0 [] (some 3) none false (.mov (.t 0))
  (.op 1 [] (some 4) none false (.bin .eql (.t 3) (.v (.int .i64 16)))
  (.op 2 [] (some 5) none false (.mov (.t 4))
  (.op 3 [] (some 6) (some (5, false)) false (.mov (.t 0))
  (.op 4 [] (some 7) (some (5, false)) false (.bin .eql (.t 6) (.v (.int .i64 49)))
  (.op 5 [] (some 8) none false (.pick (.t 5) (.v (.bool true)) (.t 7))
  (.op 6 [] (some 2) none false (.mov (.t 8))
  .done))))))))
 .ret))
theorem dg_impl_hasText : Tryz.f145.body.bind (digC Tryz.prog Tryz.f145.ntmps []) = some c_impl_hasText := by kernel_rfl
theorem rs_impl_hasText : resSlots Tryz.prog Tryz.f145 = some [.s 2] := by kernel_rfl
theorem ok_impl_hasText (n : Int) : FnOK Tryz.prog 145 [.one (.d (.sc (.int .i64 n)))] (fun ra _ => ra = [.one (.d (.sc (.bool (hasText n))))]) := by
  refine FnOK.ofK Tryz.func145 (by kernel_rfl) dg_impl_hasText rs_impl_hasText rfl rfl ?_
  unfold c_impl_hasText
  refine kSeq (kReg (kMovC rfl (kDone (kSeq (kReg (kMovC rfl (kBin rfl rfl rfl (kMovC rfl (kGP rfl (fun g0 => kGF rfl (kGF rfl (kPickT rfl (kMovC rfl (kMovC rfl (kDone (kRet (endRetA (ra := [.one (.d _)]) rfl ?_)))))))) (fun g0 => kGT rfl (kMovC rfl (kGT rfl (kBin rfl rfl rfl (kPickF rfl (kMovC rfl (kMovC rfl (kDone (kRet (endRetA (ra := [.one (.d _)]) rfl ?_)))))))))))))))))))
  all_goals simp_all [hasText]

def c_impl_RrOk : C := (.seq (.reg false (.op 0 [] (some 1) none false (.box 1 (.t 0))
  (.op 1 [] (some 2) none false (.mov (.v (.bool false)))
  .done)))
 (.seq (.seq (.reg false (.op 0 [] (some 7) none false (.fad (.t 1) 0)
  (.op 1 [] (some 8) none false (.load (some 1) (.t 7))
  (.op 2 [] (some 9) none false (.call 9 84 [(.t 8)])
  (.op 3 [] (some 10) none false (.un .not (.t 9))
  (.op 4 [] (some 11) none false (.mov (.t 10))
  (.op 5 [] (some 12) (some (11, false)) false (.fad (.t 1) 1)
  (.op 6 [] (some 13) (some (11, false)) false (.load none (.t 12))
  (.op 7 [] (some 14) (some (11, false)) false (.call 14 128 [(.t 13)])
  (.op 8 [] (some 15) (some (11, false)) false (.un .not (.t 14))
  (.op 9 [] (some 16) none false (.pick (.t 11) (.v (.bool true)) (.t 15))
  (.op 10 [] (some 17) none false (.mov (.t 16))
  (.op 11 [] (some 18) (some (17, false)) false (.fad (.t 1) 2)
  (.op 12 [] (some 19) (some (17, false)) false (.load none (.t 18))
  (.op 13 [] (some 20) (some (17, false)) false (.call 20 127 [(.t 19), (.v (.int .i64 0)), (.v (.int .i64 100000))])
  (.op 14 [] (some 21) (some (17, false)) false (.un .not (.t 20))
  (.op 15 [] (some 22) none false (.pick (.t 17) (.v (.bool true)) (.t 21))
  .done)))))))))))))))))
 (.cond (.t 22)
 (.seq (.reg false (.op 0 [] (some 2) none false (.mov (.v (.bool false)))
  .done))
 .ret)
 .skip))
 (.seq (.reg false (.op 0 [] (some 23) none false (.fad (.t 1) 6)
  (.op 1 [] (some 24) none false (.load none (.t 23))
  (.op 2 [] (some 25) none false (.len (.t 24))
  (.op 3 [] (some 26) none false (.bin .eql (.t 25) (.v (.int .i64 0)))
  (.op 4 [] (some 3) none false (.mov (.t 26))
  .done))))))
 (.seq (.seq (.reg false (.op 0 [] (some 27) none false (.fad (.t 1) 1)
  (.op 1 [] (some 28) none false (.load none (.t 27))
  (.op 2 [] (some 29) none false (.bin .eql (.t 28) (.v (.int .i64 6)))
  .done))))
 (.cond (.t 29)
 (.reg false (.op 0 [] (some 30) none false (.fad (.t 1) 6)
  (.op 1 [] (some 31) none false (.load none (.t 30))
  (.op 2 [] (some 32) none false (.len (.t 31))
  (.op 3 [] (some 33) none false (.bin .eql (.t 32) (.v (.int .i64 2)))
  (.op 4 [] (some 34) none false (.mov (.t 33))
  (.op 5 [] (some 35) (some (34, true)) false (.fad (.t 1) 6)
  (.op 6 [] (some 36) (some (34, true)) false (.load none (.t 35))
  (.op 7 [] (some 37) (some (34, true)) false (.iad 1 (.t 36) (.v (.int .i64 0)))
  (.op 8 [] (some 38) (some (34, true)) false (.load none (.t 37))
  (.op 9 [] (some 39) (some (34, true)) false (.call 39 143 [(.t 38)])
  (.op 10 [] (some 40) none false (.pick (.t 34) (.t 39) (.v (.bool false)))
  (.op 11 [] (some 41) none false (.mov (.t 40))
  (.op 12 [] (some 42) (some (41, true)) false (.fad (.t 1) 6)
  (.op 13 [] (some 43) (some (41, true)) false (.load none (.t 42))
  (.op 14 [] (some 44) (some (41, true)) false (.iad 1 (.t 43) (.v (.int .i64 1)))
  (.op 15 [] (some 45) (some (41, true)) false (.load none (.t 44))
  (.op 16 [] (some 46) (some (41, true)) false (.call 46 127 [(.t 45), (.v (.int .i64 0)), (.v (.int .i64 100000))])
  (.op 17 [] (some 47) none false (.pick (.t 41) (.t 46) (.v (.bool false)))
  (.op 18 [] (some 3) none false (.mov (.t 47))
  .done))))))))))))))))))))
 .skip))
 (.seq (.reg false (.op 0 [] (some 48) none false (.fad (.t 1) 3)
  (.op 1 [] (some 49) none false (.load none (.t 48))
  (.op 2 [] (some 50) none false (.bin .eql (.t 49) (.v (.int .i64 0)))
  (.op 3 [] (some 51) none false (.mov (.t 50))
  (.op 4 [] (some 52) (some (51, false)) false (.fad (.t 1) 1)
  (.op 5 [] (some 53) (some (51, false)) false (.load none (.t 52))
  (.op 6 [] (some 54) (some (51, false)) false (.bin .eql (.t 53) (.v (.int .i64 1)))
  (.op 7 [] (some 55) (some (51, false)) false (.mov (.t 54))
  (.op 8 [] (some 56) (some (55, true)) false (.fad (.t 1) 3)
  (.op 9 [] (some 57) (some (55, true)) false (.load none (.t 56))
  (.op 10 [] (some 58) (some (55, true)) false (.call 58 143 [(.t 57)])
  (.op 11 [] (some 59) (some (51, false)) false (.pick (.t 55) (.t 58) (.v (.bool false)))
  (.op 12 [] (some 60) none false (.pick (.t 51) (.v (.bool true)) (.t 59))
  (.op 13 [] (some 4) none false (.mov (.t 60))
  .done)))))))))))))))
 (.seq (.reg false (.op 0 [] (some 61) none false (.fad (.t 1) 4)
  (.op 1 [] (some 62) none false (.fad (.t 61) 0)
  (.op 2 [] (some 63) none false (.load none (.t 62))
  (.op 3 [] (some 64) none false (.len (.t 63))
  (.op 4 [] (some 65) none false (.bin .eql (.t 64) (.v (.int .i64 0)))
  (.op 5 [] (some 66) none false (.mov (.t 65))
  (.op 6 [] (some 67) (some (66, false)) false (.fad (.t 1) 1)
  (.op 7 [] (some 68) (some (66, false)) false (.load none (.t 67))
  (.op 8 [] (some 69) (some (66, false)) false (.call 69 144 [(.t 68)])
  (.op 9 [] (some 70) (some (66, false)) false (.mov (.t 69))
  (.op 10 [] (some 71) (some (70, true)) false (.fad (.t 1) 4)
  (.op 11 [] (some 72) (some (70, true)) false (.load (some 1) (.t 71))
  (.op 12 [] (some 73) (some (70, true)) false (.call 73 84 [(.t 72)])
  (.op 13 [] (some 74) (some (66, false)) false (.pick (.t 70) (.t 73) (.v (.bool false)))
  (.op 14 [] (some 75) none false (.pick (.t 66) (.v (.bool true)) (.t 74))
  (.op 15 [] (some 5) none false (.mov (.t 75))
  .done)))))))))))))))))
 (.seq (.reg false (.op 0 [] (some 76) none false (.fad (.t 1) 5)
  (.op 1 [] (some 77) none false (.load none (.t 76))
  (.op 2 [] (some 78) none false (.len (.t 77))
  (.op 3 [] (some 79) none false (.bin .eql (.t 78) (.v (.int .i64 0)))
  (.op 4 [] (some 80) none false (.mov (.t 79))
  (.op 5 [] (some 81) (some (80, false)) false (.fad (.t 1) 1)
  (.op 6 [] (some 82) (some (80, false)) false (.load none (.t 81))
  (.op 7 [] (some 83) (some (80, false)) false (.call 83 145 [(.t 82)])
  (.op 8 [] (some 84) (some (80, false)) false (.mov (.t 83))
  (.op 9 [] (some 85) (some (84, true)) false (.fad (.t 1) 5)
  (.op 10 [] (some 86) (some (84, true)) false (.load none (.t 85))
  (.op 11 [] (some 87) (some (84, true)) false (.len (.t 86))
  (.op 12 [] (some 88) (some (84, true)) false (.bin .leq (.t 87) (.v (.int .i64 40)))
  (.op 13 [] (some 89) (some (80, false)) false (.pick (.t 84) (.t 88) (.v (.bool false)))
  (.op 14 [] (some 90) none false (.pick (.t 80) (.v (.bool true)) (.t 89))
  (.op 15 [] (some 6) none false (.mov (.t 90))
  .done)))))))))))))))))
 (.seq (.reg false (.op 0 [] (some 91) none false (.mov (.t 3))
  (.op 1 [] (some 92) none false (.mov (.t 91))
  (.op 2 [] (some 93) (some (92, true)) false (.mov (.t 4))
  (.op 3 [] (some 94) none false (.pick (.t 92) (.t 93) (.v (.bool false)))
  (.op 4 [] (some 95) none false (.mov (.t 94))
  (.op 5 [] (some 96) (some (95, true)) false (.mov (.t 5))
  (.op 6 [] (some 97) none false (.pick (.t 95) (.t 96) (.v (.bool false)))
  (.op 7 [] (some 98) none false (.mov (.t 97))
  (.op 8 [] (some 99) (some (98, true)) false (.mov (.t 6))
  (.op 9 [] (some 100) none false (.pick (.t 98) (.t 99) (.v (.bool false)))
  (.op 10 [] (some 2) none false (.mov (.t 100))
  .done))))))))))))
 .ret))))))))
theorem dg_impl_RrOk : Tryz.f92.body.bind (digC Tryz.prog Tryz.f92.ntmps []) = some c_impl_RrOk := by kernel_rfl
theorem rs_impl_RrOk : resSlots Tryz.prog Tryz.f92 = some [.s 2] := by kernel_rfl
theorem ok_impl_RrOk (r : Rr) (hs : SmallR r) :
    FnOK Tryz.prog 92 [.agg (r.cells.map .d)] (fun ra _ => ra = [.one (.d (.sc (.bool (rrOk r))))]) := by
  refine FnOK.ofK Tryz.func92 (by kernel_rfl) dg_impl_RrOk rs_impl_RrOk rfl rfl ?_
  unfold c_impl_RrOk
  have n1 := hs.n.len
  have n2 := hs.n.mem
  have t1 := hs.t.len
  have t2 := hs.t.mem
  have x1 := hs.x
  have m1 := hs.m
  refine kSeq (kReg (kBox rfl rfl rfl rfl rfl (kMovC rfl (kDone ?_))))
  by_cases h0 : nameOk r.name = true ∧ tyOk r.ty = true ∧ (0 ≤ r.ttl ∧ r.ttl ≤ 100000)
  case neg =>
    rw [show rrOk r = false by simp only [rrOk]; revert h0; cases nameOk r.name <;> cases tyOk r.ty <;> simp <;> intros <;> omega]
    refine kSeq ?_
    cases h1 : nameOk r.name
    case false => refine kSeq (kReg (kFadP rfl rfl (kLoadP rfl rfl rfl (kCallD (ok_impl_NameOk _ (by first | assumption | omega | solve_by_elim [List.getElem_mem] | (simp only [szOut] at *; omega)) (by first | assumption | omega | solve_by_elim [List.getElem_mem] | (simp only [szOut] at *; omega))) ⟨⟨⟨rfl, trivial⟩, Nat.le_of_ble_eq_true rfl⟩, trivial⟩ rfl rfl rfl rfl rfl (kUn rfl rfl (kMovC rfl (kGN rfl (fun g0 => kGF rfl (kGF rfl (kGF rfl (kGF rfl (kPickT rfl (kMovC rfl (kMovC rfl (kGF rfl (kGF rfl (kGF rfl (kGF rfl (kPickT rfl (kMovC rfl (kDone (kCondT rfl (kSeq (kReg (kMovC rfl (kDone (kRet (endRetA (ra := [.one (.d _)]) rfl rfl))))))))))))))))))))) (fun g0 => (by (simp [*] at g0))))))))))
    cases h2 : tyOk r.ty
    case false => refine kSeq (kReg (kFadP rfl rfl (kLoadP rfl rfl rfl (kCallD (ok_impl_NameOk _ (by first | assumption | omega | solve_by_elim [List.getElem_mem] | (simp only [szOut] at *; omega)) (by first | assumption | omega | solve_by_elim [List.getElem_mem] | (simp only [szOut] at *; omega))) ⟨⟨⟨rfl, trivial⟩, Nat.le_of_ble_eq_true rfl⟩, trivial⟩ rfl rfl rfl rfl rfl (kUn rfl rfl (kMovC rfl (kGN rfl (fun g0 => (by (simp [*] at g0))) (fun g0 => kGT rfl (kFadP rfl rfl (kGT rfl (kLoadP rfl rfl rfl (kGT rfl (kCallD (ok_impl_TypeOk _) ⟨rfl, trivial⟩ rfl rfl rfl rfl rfl (kGT rfl (kUn rfl rfl (kPickF rfl (kMovC rfl (kMovC rfl (kGN rfl (fun g1 => kGF rfl (kGF rfl (kGF rfl (kGF rfl (kPickT rfl (kMovC rfl (kDone (kCondT rfl (kSeq (kReg (kMovC rfl (kDone (kRet (endRetA (ra := [.one (.d _)]) rfl rfl)))))))))))))) (fun g1 => (by (simp [*] at g1))))))))))))))))))))))
    have h3 : ¬ (0 ≤ r.ttl ∧ r.ttl ≤ 100000) := fun h => h0 ⟨h1, h2, h⟩
    refine kSeq (kReg (kFadP rfl rfl (kLoadP rfl rfl rfl (kCallD (ok_impl_NameOk _ (by first | assumption | omega | solve_by_elim [List.getElem_mem] | (simp only [szOut] at *; omega)) (by first | assumption | omega | solve_by_elim [List.getElem_mem] | (simp only [szOut] at *; omega))) ⟨⟨⟨rfl, trivial⟩, Nat.le_of_ble_eq_true rfl⟩, trivial⟩ rfl rfl rfl rfl rfl (kUn rfl rfl (kMovC rfl (kGN rfl (fun g0 => (by (simp [*] at g0))) (fun g0 => kGT rfl (kFadP rfl rfl (kGT rfl (kLoadP rfl rfl rfl (kGT rfl (kCallD (ok_impl_TypeOk _) ⟨rfl, trivial⟩ rfl rfl rfl rfl rfl (kGT rfl (kUn rfl rfl (kPickF rfl (kMovC rfl (kMovC rfl (kGN rfl (fun g1 => (by (simp [*] at g1))) (fun g1 => kGT rfl (kFadP rfl rfl (kGT rfl (kLoadP rfl rfl rfl (kGT rfl (kCallD (ok_impl_within _ _ _) ⟨rfl, rfl, rfl, trivial⟩ rfl rfl rfl rfl rfl (kGT rfl (kUn rfl rfl (kPickF rfl (kMovC rfl (kDone (kCondN rfl (fun g2 => kSeq (kReg (kMovC rfl (kDone (kRet (endRetA (ra := [.one (.d _)]) rfl rfl)))))) (fun g2 => (by (simp [*] at g2))))))))))))))))))))))))))))))))))
  obtain ⟨h1, h2, h3⟩ := h0
  rw [show rrOk r = dataOk r by simp only [rrOk]; rw [h1, h2, decide_eq_true h3.1, decide_eq_true h3.2]; rfl]
  refine kSeq (kCut ⟨tabSl [(1, .c (.ptr (rid 1 0) 1 0))], obTab 1 [(rid 1 0, ⟨1, 0, .box (r.cells.map .d)⟩)], []⟩ ?_ (fun x hc => ?_))
  case refine_2 =>
    refine kSeq (kReg (kFadP rfl rfl (kLoadP rfl rfl rfl (kCallD (ok_impl_NameOk _ (by first | assumption | omega | solve_by_elim [List.getElem_mem] | (simp only [szOut] at *; omega)) (by first | assumption | omega | solve_by_elim [List.getElem_mem] | (simp only [szOut] at *; omega))) ⟨⟨⟨rfl, trivial⟩, Nat.le_of_ble_eq_true rfl⟩, trivial⟩ rfl rfl rfl rfl rfl (kUn rfl rfl (kMovC rfl (kGN rfl (fun g0 => (by (simp [*] at g0))) (fun g0 => kGT rfl (kFadP rfl rfl (kGT rfl (kLoadP rfl rfl rfl (kGT rfl (kCallD (ok_impl_TypeOk _) ⟨rfl, trivial⟩ rfl rfl rfl rfl rfl (kGT rfl (kUn rfl rfl (kPickF rfl (kMovC rfl (kMovC rfl (kGN rfl (fun g1 => (by (simp [*] at g1))) (fun g1 => kGT rfl (kFadP rfl rfl (kGT rfl (kLoadP rfl rfl rfl (kGT rfl (kCallD (ok_impl_within _ _ _) ⟨rfl, rfl, rfl, trivial⟩ rfl rfl rfl rfl rfl (kGT rfl (kUn rfl rfl (kPickF rfl (kMovC rfl (kDone (kCondN rfl (fun g2 => (by (simp [*] at g2))) (fun g2 => kSkip (hc _ .normA)))))))))))))))))))))))))))))))))
  refine kSeq (kCut ⟨tabSl [(1, .c (.ptr (rid 1 0) 1 0)), (3, .b (((r.nums.length : Int) == 0)))], obTab 1 [(rid 1 0, ⟨1, 0, .box (r.cells.map .d)⟩)], []⟩ ?_ (fun x hc => ?_))
  case refine_2 => refine kReg (kFadP rfl rfl (kLoadP rfl rfl rfl (kLenR rfl rfl (kBin rfl rfl rfl (kMovC rfl (kDone (hc _ .normA)))))))
  refine kSeq (kCut ⟨tabSl [(1, .c (.ptr (rid 1 0) 1 0)), (3, .b ((if r.ty == 6 then numsOk r.nums else ((r.nums.length : Int) == 0))))], obTab 1 [(rid 1 0, ⟨1, 0, .box (r.cells.map .d)⟩)], []⟩ ?_ (fun x hc => ?_))
  case refine_2 =>
    refine kSeq (kReg (kFadP rfl rfl (kLoadP rfl rfl rfl (kBin rfl rfl rfl (kDone (kCondP rfl (fun g0 => kReg (kFadP rfl rfl (kLoadP rfl rfl rfl (kLenR rfl rfl (kBin rfl rfl rfl (kMovC rfl (kGP rfl (fun g1 => kGT rfl (kFadP rfl rfl (kGT rfl (kLoadP rfl rfl rfl (kGT rfl (kIadR rfl rfl rfl (by omega) (kGT rfl (kLoadD rfl rfl (kGT rfl (kCallD (ok_impl_isWord _) ⟨rfl, trivial⟩ rfl rfl rfl rfl rfl (kPickT rfl (kMovC rfl (kMovC rfl (kGS rfl (fun g2 => kGT rfl (kFadP rfl rfl (kGT rfl (kLoadP rfl rfl rfl (kGT rfl (kIadR rfl rfl rfl (by omega) (kGT rfl (kLoadD rfl rfl (kGT rfl (kCallD (ok_impl_within _ _ _) ⟨rfl, rfl, rfl, trivial⟩ rfl rfl rfl rfl rfl (kPickT rfl (kMovC rfl (kMovC rfl (kDone (hc _ .normA))))))))))))))) (fun g2 => kGF rfl (kGF rfl (kGF rfl (kGF rfl (kGF rfl (kPickF rfl (kMovC rfl (kMovC rfl (kDone (hc _ .normA)))))))))))))))))))))))) (fun g1 => kGF rfl (kGF rfl (kGF rfl (kGF rfl (kGF rfl (kPickF rfl (kMovC rfl (kMovC rfl (kGF rfl (kGF rfl (kGF rfl (kGF rfl (kGF rfl (kPickF rfl (kMovC rfl (kMovC rfl (kDone (hc _ .normA))))))))))))))))))))))))) (fun g0 => kSkip (hc _ .normA))))))))
  refine kSeq (kCut ⟨tabSl [(1, .c (.ptr (rid 1 0) 1 0)), (3, .b ((if r.ty == 6 then numsOk r.nums else ((r.nums.length : Int) == 0)))), (4, .b ((if r.ty == 1 then isW r.addr else r.addr == 0)))], obTab 1 [(rid 1 0, ⟨1, 0, .box (r.cells.map .d)⟩)], []⟩ ?_ (fun x hc => ?_))
  case refine_2 =>
    refine kReg (kFadP rfl rfl (kLoadP rfl rfl rfl (kBin rfl rfl rfl (kMovC rfl (kGP rfl (fun g0 => kGF rfl (kGF rfl (kGF rfl (kGF rfl (kGU rfl (kGU rfl (kGU rfl (kGF rfl (kPickT rfl (kMovC rfl (kMovC rfl (kDone (hc _ .normA))))))))))))) (fun g0 => kGT rfl (kFadP rfl rfl (kGT rfl (kLoadP rfl rfl rfl (kGT rfl (kBin rfl rfl rfl (kGT rfl (kMovC rfl (kGP rfl (fun g1 => kGT rfl (kFadP rfl rfl (kGT rfl (kLoadP rfl rfl rfl (kGT rfl (kCallD (ok_impl_isWord _) ⟨rfl, trivial⟩ rfl rfl rfl rfl rfl (kGT rfl (kPickT rfl (kMovC rfl (kPickF rfl (kMovC rfl (kMovC rfl (kDone (hc _ .normA)))))))))))))) (fun g1 => kGF rfl (kGF rfl (kGF rfl (kGT rfl (kPickF rfl (kMovC rfl (kPickF rfl (kMovC rfl (kMovC rfl (kDone (hc _ .normA)))))))))))))))))))))))))
  refine kSeq (kCut ⟨tabSl [(1, .c (.ptr (rid 1 0) 1 0)), (3, .b ((if r.ty == 6 then numsOk r.nums else ((r.nums.length : Int) == 0)))), (4, .b ((if r.ty == 1 then isW r.addr else r.addr == 0))), (5, .b ((if hasTo r.ty then nameOk r.to else ((r.to.length : Int) == 0))))], obTab 1 [(rid 1 0, ⟨1, 0, .box (r.cells.map .d)⟩)], []⟩ ?_ (fun x hc => ?_))
  case refine_2 =>
    refine kReg (kFadP rfl rfl (kFadP rfl rfl (kLoadP rfl rfl rfl (kLenR rfl rfl (kBin rfl rfl rfl (kMovC rfl (kGP rfl (fun g0 => kGF rfl (kGF rfl (kGF rfl (kGF rfl (kGU rfl (kGU rfl (kGU rfl (kGF rfl (kPickT rfl (kMovC rfl (kMovC rfl (kDone (hc _ .normA))))))))))))) (fun g0 => kGT rfl (kFadP rfl rfl (kGT rfl (kLoadP rfl rfl rfl (kGT rfl (kCallD (ok_impl_hasTo _) ⟨rfl, trivial⟩ rfl rfl rfl rfl rfl (kGT rfl (kMovC rfl (kGS rfl (fun g1 => kGT rfl (kFadP rfl rfl (kGT rfl (kLoadP rfl rfl rfl (kGT rfl (kCallD (ok_impl_NameOk _ (by first | assumption | omega | solve_by_elim [List.getElem_mem] | (simp only [szOut] at *; omega)) (by first | assumption | omega | solve_by_elim [List.getElem_mem] | (simp only [szOut] at *; omega))) ⟨⟨⟨rfl, trivial⟩, Nat.le_of_ble_eq_true rfl⟩, trivial⟩ rfl rfl rfl rfl rfl (kGT rfl (kPickT rfl (kMovC rfl (kPickF rfl (kMovC rfl (kMovC rfl (kDone (hc _ .normA)))))))))))))) (fun g1 => kGF rfl (kGF rfl (kGF rfl (kGT rfl (kPickF rfl (kMovC rfl (kPickF rfl (kMovC rfl (kMovC rfl (kDone (hc _ .normA)))))))))))))))))))))))))))
  refine kSeq (kCut ⟨tabSl [(1, .c (.ptr (rid 1 0) 1 0)), (3, .b ((if r.ty == 6 then numsOk r.nums else ((r.nums.length : Int) == 0)))), (4, .b ((if r.ty == 1 then isW r.addr else r.addr == 0))), (5, .b ((if hasTo r.ty then nameOk r.to else ((r.to.length : Int) == 0)))), (6, .b ((if hasText r.ty then decide ((r.text.length : Int) ≤ 40) else ((r.text.length : Int) == 0))))], obTab 1 [(rid 1 0, ⟨1, 0, .box (r.cells.map .d)⟩)], []⟩ ?_ (fun x hc => ?_))
  case refine_2 =>
    refine kReg (kFadP rfl rfl (kLoadP rfl rfl rfl (kLenR rfl rfl (kBin rfl rfl rfl (kMovC rfl (kGP rfl (fun g0 => kGF rfl (kGF rfl (kGF rfl (kGF rfl (kGU rfl (kGU rfl (kGU rfl (kGU rfl (kGF rfl (kPickT rfl (kMovC rfl (kMovC rfl (kDone (hc _ .normA)))))))))))))) (fun g0 => kGT rfl (kFadP rfl rfl (kGT rfl (kLoadP rfl rfl rfl (kGT rfl (kCallD (ok_impl_hasText _) ⟨rfl, trivial⟩ rfl rfl rfl rfl rfl (kGT rfl (kMovC rfl (kGS rfl (fun g1 => kGT rfl (kFadP rfl rfl (kGT rfl (kLoadP rfl rfl rfl (kGT rfl (kLenR rfl rfl (kGT rfl (kBin rfl rfl rfl (kGT rfl (kPickT rfl (kMovC rfl (kPickF rfl (kMovC rfl (kMovC rfl (kDone (hc _ .normA)))))))))))))))) (fun g1 => kGF rfl (kGF rfl (kGF rfl (kGF rfl (kGT rfl (kPickF rfl (kMovC rfl (kPickF rfl (kMovC rfl (kMovC rfl (kDone (hc _ .normA)))))))))))))))))))))))))))
  refine kSeq (kReg (kMovC rfl (kMovC rfl (kGS rfl (fun g0 => kGT rfl (kMovC rfl (kPickT rfl (kMovC rfl (kMovC rfl (kGS rfl (fun g1 => kGT rfl (kMovC rfl (kPickT rfl (kMovC rfl (kMovC rfl (kGS rfl (fun g2 => kGT rfl (kMovC rfl (kPickT rfl (kMovC rfl (kMovC rfl (kDone (kRet (endRetA (ra := [.one (.d _)]) rfl ?_)))))))) (fun g2 => kGF rfl (kPickF rfl (kMovC rfl (kMovC rfl (kDone (kRet (endRetA (ra := [.one (.d _)]) rfl ?_))))))))))))) (fun g1 => kGF rfl (kPickF rfl (kMovC rfl (kMovC rfl (kGF rfl (kPickF rfl (kMovC rfl (kMovC rfl (kDone (kRet (endRetA (ra := [.one (.d _)]) rfl ?_))))))))))))))))) (fun g0 => kGF rfl (kPickF rfl (kMovC rfl (kMovC rfl (kGF rfl (kPickF rfl (kMovC rfl (kMovC rfl (kGF rfl (kPickF rfl (kMovC rfl (kMovC rfl (kDone (kRet (endRetA (ra := [.one (.d _)]) rfl ?_)))))))))))))))))))
  all_goals simp only [dataOk, *, Bool.true_and, Bool.false_and, Bool.and_true, Bool.and_false]

def c_impl_all_impl_Rr_1 : C := (.seq (.reg false (.op 0 [] (some 2) none false (.box 2 (.t 0))
  (.op 1 [] (some 3) none false (.mov (.v (.bool false)))
  .done)))
 (.seq (.reg false (.op 0 [] (some 4) none false (.load none (.t 1))
  (.op 1 [] (some 5) none false (.load (some 7) (.t 2))
  (.op 2 [] (some 6) none false (.callv 6 (.t 4) [(.t 5)])
  (.op 3 [] (some 7) none false (.un .not (.t 6))
  (.op 4 [] (some 3) none false (.mov (.t 7))
  .done))))))
 .ret))
theorem dg_impl_all_impl_Rr_1 : Tryz.f156.body.bind (digC Tryz.prog Tryz.f156.ntmps []) = some c_impl_all_impl_Rr_1 := by kernel_rfl
theorem rs_impl_all_impl_Rr_1 : resSlots Tryz.prog Tryz.f156 = some [.s 3] := by kernel_rfl
theorem ok_impl_all_impl_Rr_1 (x : Rr) (D : Rr → Prop) (g : Rr → Bool) (hx : D x) :
    FnOK Tryz.prog 156 [.agg (x.cells.map .d), .one (.ptr [.fv false (fcAgg D Rr.cells g)])] (fun ra _ => ra = [.one (.d (.sc (.bool (!g x))))]) := by
  refine FnOK.ofK Tryz.func156 (by kernel_rfl) dg_impl_all_impl_Rr_1 rs_impl_all_impl_Rr_1 rfl rfl ?_
  unfold c_impl_all_impl_Rr_1
  refine kSeq (kReg (kBox rfl rfl rfl rfl rfl (kMovC rfl (kDone (kSeq (kReg (kLoadC rfl rfl (kLoadP rfl rfl rfl ?_))))))))
  refine kCallv rfl ⟨x, hx, rfl, rfl⟩ ⟨⟨⟨rfl, rfl, rfl, rfl, rfl, rfl, rfl, trivial⟩, Nat.le_of_ble_eq_true rfl⟩, trivial⟩ (.inr ?_) rfl ?_ rfl ?_
  · rintro _ rfl; rfl
  · rintro _ rfl; exact Nat.le_of_ble_eq_true rfl
  rintro _ rfl
  refine kUn rfl rfl (kMovC rfl (kDone (kRet (endRetA (ra := [.one (.d _)]) rfl rfl))))

def c_slices_IndexFunc_Limpl_Rr_impl_Rr : C := (.seq (.reg false (.op 0 [] (some 4) none false (.mov (.v (.int .i64 0)))
  .done))
 (.seq (.seq (.reg false (.op 0 [] (some 6) none false (.mov (.t 0))
  (.op 1 [] (some 7) none false (.len (.t 6))
  (.op 2 [] (some 8) none false (.mov (.v (.int .i64 0)))
  .done))))
 (.block 0 (.loop (.seq (.reg false (.op 0 [] (some 9) none false (.bin .lss (.t 8) (.t 7))
  .done))
 (.seq (.cond (.t 9)
 .skip
 (.exit 0))
 (.seq (.block 1 (.seq (.reg false (.op 0 [] (some 10) none false (.mov (.t 8))
  (.op 1 [] (some 5) none false (.mov (.t 10))
  .done)))
 (.seq (.reg false (.op 0 [] (some 11) none false (.mov (.t 1))
  (.op 1 [] (some 12) none false (.mov (.t 0))
  (.op 2 [] (some 13) none false (.mov (.t 5))
  (.op 3 [] (some 14) none false (.iad 7 (.t 12) (.t 13))
  (.op 4 [] (some 15) none false (.load (some 7) (.t 14))
  (.op 5 [] (some 16) none false (.callv 16 (.t 11) [(.t 15)])
  .done)))))))
 (.cond (.t 16)
 (.seq (.reg false (.op 0 [] (some 17) none false (.mov (.t 5))
  (.op 1 [] (some 4) none false (.mov (.t 17))
  .done)))
 .ret)
 .skip))))
 (.reg false (.op 0 [] (some 18) none false (.bin .add (.t 8) (.v (.int .i64 1)))
  (.op 1 [] (some 8) none false (.mov (.t 18))
  .done)))))))))
 (.seq (.reg false (.op 0 [] (some 4) none false (.mov (.v (.int .i64 (-1))))
  .done))
 .ret)))
theorem dg_slices_IndexFunc_Limpl_Rr_impl_Rr : Tryz.f164.body.bind (digC Tryz.prog Tryz.f164.ntmps []) = some c_slices_IndexFunc_Limpl_Rr_impl_Rr := by kernel_rfl
theorem rs_slices_IndexFunc_Limpl_Rr_impl_Rr : resSlots Tryz.prog Tryz.f164 = some [.s 4] := by kernel_rfl
theorem ok_slices_IndexFunc_Limpl_Rr_impl_Rr (l : List Rr) (D : Rr → Prop) (g : Rr → Bool) (hl : l.length ≤ 4194304) (hD : ∀ x ∈ l, D x) :
    FnOK Tryz.prog 164 [.one (.d (encR l)), .one (.fv false (fcAgg D Rr.cells g))] (fun ra _ => ra = [.one (.d (.sc (.int .i64 (idx g l))))]) := by
  refine FnOK.ofK Tryz.func164 (by kernel_rfl) dg_slices_IndexFunc_Limpl_Rr_impl_Rr rs_slices_IndexFunc_Limpl_Rr_impl_Rr rfl rfl ?_
  unfold c_slices_IndexFunc_Limpl_Rr_impl_Rr
  refine kSeq (kReg (kMovC rfl (kDone (kSeq (kSeq (kReg (kMovC rfl (kLenR rfl rfl (kMovC rfl (kDone (kBlock ?_)))))))))))
  refine kLoop (α := { i : Nat // i ≤ l.length ∧ ∀ x ∈ l.take i, g x = false })
    (fun y => ⟨tabSl [(0, .dv (encR l)), (1, .c (.fv false (fcAgg D Rr.cells g))), (7, .i l.length), (8, .i y.1)], obTab 1 [], []⟩) (fun y => l.length - y.1) ⟨0, by simp⟩
    .normA ?_
  rintro ⟨i, hi, hg⟩
  simp only
  rcases Nat.lt_or_ge i l.length with hlt | hge
  · refine kSeq (kReg (kBin rfl rfl rfl (kDone (kSeq (kCondP rfl (fun g0 => kSkip (kSeq (kBlock (kSeq (kReg (kMovC rfl (kMovC rfl (kDone (kSeq (kReg (kMovC rfl (kMovC rfl (kMovC rfl (kIadR rfl rfl rfl (by omega) (kLoadD rfl rfl ?_))))))))))))))) (fun g0 => (by omega)))))))
    refine kCallv rfl ⟨l[i], hD _ (List.getElem_mem hlt), rfl, rfl⟩ ⟨⟨⟨rfl, rfl, rfl, rfl, rfl, rfl, rfl, trivial⟩, Nat.le_of_ble_eq_true rfl⟩, trivial⟩ (.inr ?_) rfl ?_ rfl ?_
    · rintro _ rfl; rfl
    · rintro _ rfl; exact Nat.le_of_ble_eq_true rfl
    rintro _ rfl
    refine kDone (kCond rfl (fun g0 => kSeq (kReg (kMovC rfl (kMovC rfl (kDone (kRet (endRetA (ra := [.one (.d _)]) rfl ?_))))))) (fun g0 => kSkip (kBk (kReg (kAdd rfl rfl (by omega) (kMovC rfl (kDone ?_)))))))
    · have : l.findIdx? g = some i := by
        rw [List.findIdx?_eq_some_iff_getElem]
        refine ⟨hlt, by assumption, fun j hj => ?_⟩
        simpa using hg _ (by rw [List.mem_take_iff_getElem]; exact ⟨j, by omega, rfl⟩)
      simp [idx, this]
    · refine kInv ⟨⟨i + 1, hlt, ?_⟩, by simp only; omega, .normA⟩
      intro x hx
      rw [← List.take_append_getElem hlt, List.mem_append] at hx
      rcases hx with hx | hx
      · exact hg x hx
      · simp at hx; rw [hx]; assumption
  · refine kSeq (kReg (kBin rfl rfl rfl (kDone (kSeq (kCondP rfl (fun g0 => (by omega)) (fun g0 => kExit (kExC (kExI (kExB (kSeq (kReg (kMovC rfl (kDone (kRet (endRetA (ra := [.one (.d _)]) rfl ?_)))))))))))))))
    have : l.findIdx? g = none := by
      rw [List.findIdx?_eq_none_iff]
      intro x hx
      rw [show i = l.length by omega, List.take_length] at hg
      exact hg x hx
    simp [idx, this]

def c_slices_ContainsFunc_Limpl_Rr_impl_Rr : C := (.seq (.reg false (.op 0 [] (some 4) none false (.mov (.v (.bool false)))
  .done))
 (.seq (.reg false (.op 0 [] (some 5) none false (.mov (.t 0))
  (.op 1 [] (some 6) none false (.mov (.t 1))
  (.op 2 [] (some 7) none false (.call 7 164 [(.t 5), (.t 6)])
  (.op 3 [] (some 8) none false (.bin .geq (.t 7) (.v (.int .i64 0)))
  (.op 4 [] (some 4) none false (.mov (.t 8))
  .done))))))
 .ret))
theorem dg_slices_ContainsFunc_Limpl_Rr_impl_Rr : Tryz.f118.body.bind (digC Tryz.prog Tryz.f118.ntmps []) = some c_slices_ContainsFunc_Limpl_Rr_impl_Rr := by kernel_rfl
theorem rs_slices_ContainsFunc_Limpl_Rr_impl_Rr : resSlots Tryz.prog Tryz.f118 = some [.s 4] := by kernel_rfl
theorem ok_slices_ContainsFunc_Limpl_Rr_impl_Rr (l : List Rr) (D : Rr → Prop) (g : Rr → Bool) (hl : l.length ≤ 4194304) (hD : ∀ x ∈ l, D x) :
    FnOK Tryz.prog 118 [.one (.d (encR l)), .one (.fv false (fcAgg D Rr.cells g))] (fun ra _ => ra = [.one (.d (.sc (.bool (l.any g))))]) := by
  refine FnOK.ofK Tryz.func118 (by kernel_rfl) dg_slices_ContainsFunc_Limpl_Rr_impl_Rr rs_slices_ContainsFunc_Limpl_Rr_impl_Rr rfl rfl ?_
  unfold c_slices_ContainsFunc_Limpl_Rr_impl_Rr
  refine kSeq (kReg (kMovC rfl (kDone (kSeq (kReg (kMovC rfl (kMovC rfl ?_)))))))
  refine kCall1 true (ok_slices_IndexFunc_Limpl_Rr_impl_Rr l D g hl hD) ⟨rfl, ⟨fun h => h, fun _ _ h => h⟩, trivial⟩ rfl rfl rfl fun os => ?_
  rw [← idx_ge g l]
  refine kBin rfl rfl rfl (kMovC rfl (kDone (kRet (endRetA (ra := [.one (.d _)]) rfl rfl))))

def c_impl_all_impl_Rr : C := (.seq (.reg false (.op 0 [] (some 3) none false (.box 3 (.t 1))
  (.op 1 [] (some 4) none false (.mov (.v (.bool false)))
  .done)))
 (.seq (.reg false (.op 0 [] (some 5) none false (.mov (.t 0))
  (.op 1 [] (some 6) none false (.clo 156 [] [(.t 3)])
  (.op 2 [] (some 7) none false (.call 7 118 [(.t 5), (.t 6)])
  (.op 3 [] (some 8) none false (.un .not (.t 7))
  (.op 4 [] (some 4) none false (.mov (.t 8))
  .done))))))
 .ret))
theorem dg_impl_all_impl_Rr : Tryz.f111.body.bind (digC Tryz.prog Tryz.f111.ntmps []) = some c_impl_all_impl_Rr := by kernel_rfl
theorem rs_impl_all_impl_Rr : resSlots Tryz.prog Tryz.f111 = some [.s 4] := by kernel_rfl
theorem ok_impl_all_impl_Rr (l : List Rr) (D : Rr → Prop) (g : Rr → Bool) (hl : l.length ≤ 4194304) (hD : ∀ x ∈ l, D x) :
    FnOK Tryz.prog 111 [.one (.d (encR l)), .one (.fv false (fcAgg D Rr.cells g))] (fun ra _ => ra = [.one (.d (.sc (.bool (l.all g))))]) := by
  refine FnOK.ofK Tryz.func111 (by kernel_rfl) dg_impl_all_impl_Rr rs_impl_all_impl_Rr rfl rfl ?_
  unfold c_impl_all_impl_Rr
  refine kSeq (kReg (kBox rfl rfl rfl rfl rfl (kMovC rfl (kDone (kSeq (kReg (kMovC rfl (kClo rfl rfl ?_))))))))
  refine kCall1 true (ok_slices_ContainsFunc_Limpl_Rr_impl_Rr l D (fun x => !g x) hl hD) ⟨rfl, ⟨rfl, ⟨_, Tryz.func156, rfl, by kernel_rfl⟩, _, rfl, ?_⟩, trivial⟩ rfl rfl rfl fun os => ?_
  · rintro _ R ⟨x, hx, rfl, rfl⟩
    exact ⟨by rintro _ rfl; rfl, ok_impl_all_impl_Rr_1 x D g hx⟩
  rw [List.all_eq_not_any_not]
  refine kUn rfl rfl (kMovC rfl (kDone (kRet (endRetA (ra := [.one (.d _)]) rfl rfl))))

def c_impl_areRrs : C := (.seq (.reg false (.op 0 [] (some 2) none false (.mov (.v (.bool false)))
  .done))
 (.seq (.reg false (.op 0 [] (some 3) none false (.mov (.t 0))
  (.op 1 [] (some 4) none false (.len (.t 3))
  (.op 2 [] (some 5) none false (.bin .leq (.t 4) (.v (.int .i64 12)))
  (.op 3 [] (some 6) none false (.mov (.t 5))
  (.op 4 [] (some 7) (some (6, true)) false (.mov (.t 0))
  (.op 5 [] (some 8) (some (6, true)) false (.call 8 111 [(.t 7), (.fn 92)])
  (.op 6 [] (some 9) none false (.pick (.t 6) (.t 8) (.v (.bool false)))
  (.op 7 [] (some 2) none false (.mov (.t 9))
  .done)))))))))
 .ret))
theorem dg_impl_areRrs : Tryz.f132.body.bind (digC Tryz.prog Tryz.f132.ntmps []) = some c_impl_areRrs := by kernel_rfl
theorem rs_impl_areRrs : resSlots Tryz.prog Tryz.f132 = some [.s 2] := by kernel_rfl
theorem ok_impl_areRrs (l : List Rr) (hs : SmallRs l) :
    FnOK Tryz.prog 132 [.one (.d (encR l))] (fun ra _ => ra = [.one (.d (.sc (.bool (rrsOk l))))]) := by
  refine FnOK.ofK Tryz.func132 (by kernel_rfl) dg_impl_areRrs rs_impl_areRrs rfl rfl ?_
  unfold c_impl_areRrs
  have h1 := hs.len
  refine kSeq (kReg (kMovC rfl (kDone (kSeq (kReg (kMovC rfl (kLenR rfl rfl (kBin rfl rfl rfl (kMovC rfl (kGP rfl (fun g0 => kGT rfl (kMovC rfl (kGT rfl ?_))) (fun g0 => kGF rfl (kGF rfl (kPickF rfl (kMovC rfl (kMovC rfl (kDone (kRet (endRetA (ra := [.one (.d _)]) rfl ?_))))))))))))))))))
  · refine kCallD (ok_impl_all_impl_Rr l SmallR rrOk h1 hs.mem) ⟨rfl, ⟨rfl, rfl, ⟨_, Tryz.func92, rfl, by kernel_rfl⟩, ?_⟩, trivial⟩ rfl rfl rfl rfl rfl ?_
    · rintro _ R ⟨x, h, rfl, rfl⟩
      exact ok_impl_RrOk x h
    refine kPickT rfl (kMovC rfl (kMovC rfl (kDone (kRet (endRetA (ra := [.one (.d _)]) rfl ?_)))))
    rw [show rrsOk l = l.all rrOk by simp only [rrsOk]; rw [decide_eq_true (by omega)]; rfl]
  · rw [show rrsOk l = false by simp only [rrsOk]; rw [decide_eq_false (by omega)]; rfl]

def c_impl_TaskOk : C := (.seq (.reg false (.op 0 [] (some 1) none false (.box 1 (.t 0))
  (.op 1 [] (some 2) none false (.mov (.v (.bool false)))
  .done)))
 (.seq (.seq (.reg false (.op 0 [] (some 3) none false (.fad (.t 1) 0)
  (.op 1 [] (some 4) none false (.load none (.t 3))
  (.op 2 [] (some 5) none false (.call 5 127 [(.t 4), (.v (.int .i64 0)), (.v (.int .i64 1))])
  (.op 3 [] (some 6) none false (.un .not (.t 5))
  (.op 4 [] (some 7) none false (.mov (.t 6))
  (.op 5 [] (some 8) (some (7, false)) false (.fad (.t 1) 1)
  (.op 6 [] (some 9) (some (7, false)) false (.load none (.t 8))
  (.op 7 [] (some 10) (some (7, false)) false (.call 10 127 [(.t 9), (.v (.int .i64 0)), (.v (.int .i64 65535))])
  (.op 8 [] (some 11) (some (7, false)) false (.un .not (.t 10))
  (.op 9 [] (some 12) none false (.pick (.t 7) (.v (.bool true)) (.t 11))
  (.op 10 [] (some 13) none false (.mov (.t 12))
  (.op 11 [] (some 14) (some (13, false)) false (.fad (.t 1) 2)
  (.op 12 [] (some 15) (some (13, false)) false (.fad (.t 14) 0)
  (.op 13 [] (some 16) (some (13, false)) false (.load (some 1) (.t 15))
  (.op 14 [] (some 17) (some (13, false)) false (.call 17 84 [(.t 16)])
  (.op 15 [] (some 18) (some (13, false)) false (.un .not (.t 17))
  (.op 16 [] (some 19) none false (.pick (.t 13) (.v (.bool true)) (.t 18))
  (.op 17 [] (some 20) none false (.mov (.t 19))
  (.op 18 [] (some 21) (some (20, false)) false (.fad (.t 1) 2)
  (.op 19 [] (some 22) (some (20, false)) false (.fad (.t 21) 1)
  (.op 20 [] (some 23) (some (20, false)) false (.load none (.t 22))
  (.op 21 [] (some 24) (some (20, false)) false (.call 24 128 [(.t 23)])
  (.op 22 [] (some 25) (some (20, false)) false (.un .not (.t 24))
  (.op 23 [] (some 26) none false (.pick (.t 20) (.v (.bool true)) (.t 25))
  (.op 24 [] (some 27) none false (.mov (.t 26))
  (.op 25 [] (some 28) (some (27, false)) false (.fad (.t 1) 4)
  (.op 26 [] (some 29) (some (27, false)) false (.load (some 1) (.t 28))
  (.op 27 [] (some 30) (some (27, false)) false (.fad (.t 1) 5)
  (.op 28 [] (some 31) (some (27, false)) false (.load (some 1) (.t 30))
  (.op 29 [] (some 32) (some (27, false)) false (.call 32 129 [(.t 29), (.t 31)])
  (.op 30 [] (some 33) (some (27, false)) false (.un .not (.t 32))
  (.op 31 [] (some 34) none false (.pick (.t 27) (.v (.bool true)) (.t 33))
  (.op 32 [] (some 35) none false (.mov (.t 34))
  (.op 33 [] (some 36) (some (35, false)) false (.fad (.t 1) 6)
  (.op 34 [] (some 37) (some (35, false)) false (.load none (.t 36))
  (.op 35 [] (some 38) (some (35, false)) false (.call 38 130 [(.t 37)])
  (.op 36 [] (some 39) (some (35, false)) false (.un .not (.t 38))
  (.op 37 [] (some 40) none false (.pick (.t 35) (.v (.bool true)) (.t 39))
  (.op 38 [] (some 41) none false (.mov (.t 40))
  (.op 39 [] (some 42) (some (41, false)) false (.fad (.t 1) 7)
  (.op 40 [] (some 43) (some (41, false)) false (.load none (.t 42))
  (.op 41 [] (some 44) (some (41, false)) false (.call 44 130 [(.t 43)])
  (.op 42 [] (some 45) (some (41, false)) false (.un .not (.t 44))
  (.op 43 [] (some 46) none false (.pick (.t 41) (.v (.bool true)) (.t 45))
  .done)))))))))))))))))))))))))))))))))))))))))))))
 (.cond (.t 46)
 (.seq (.reg false (.op 0 [] (some 2) none false (.mov (.v (.bool false)))
  .done))
 .ret)
 .skip))
 (.seq (.seq (.reg false (.op 0 [] (some 47) none false (.fad (.t 1) 8)
  (.op 1 [] (some 48) none false (.load none (.t 47))
  (.op 2 [] (some 49) none false (.fad (.t 1) 7)
  (.op 3 [] (some 50) none false (.load none (.t 49))
  (.op 4 [] (some 51) none false (.len (.t 50))
  (.op 5 [] (some 52) none false (.bin .sub (.t 51) (.v (.int .i64 1)))
  (.op 6 [] (some 53) none false (.call 53 127 [(.t 48), (.v (.int .i64 0)), (.t 52)])
  (.op 7 [] (some 54) none false (.un .not (.t 53))
  (.op 8 [] (some 55) none false (.mov (.t 54))
  (.op 9 [] (some 56) (some (55, false)) false (.fad (.t 1) 9)
  (.op 10 [] (some 57) (some (55, false)) false (.load none (.t 56))
  (.op 11 [] (some 58) (some (55, false)) false (.call 58 127 [(.t 57), (.v (.int .i64 0)), (.v (.int .i64 12))])
  (.op 12 [] (some 59) (some (55, false)) false (.un .not (.t 58))
  (.op 13 [] (some 60) none false (.pick (.t 55) (.v (.bool true)) (.t 59))
  (.op 14 [] (some 61) none false (.mov (.t 60))
  (.op 15 [] (some 62) (some (61, false)) false (.fad (.t 1) 10)
  (.op 16 [] (some 63) (some (61, false)) false (.load none (.t 62))
  (.op 17 [] (some 64) (some (61, false)) false (.call 64 127 [(.t 63), (.v (.int .i64 0)), (.v (.int .i64 6))])
  (.op 18 [] (some 65) (some (61, false)) false (.un .not (.t 64))
  (.op 19 [] (some 66) none false (.pick (.t 61) (.v (.bool true)) (.t 65))
  (.op 20 [] (some 67) none false (.mov (.t 66))
  (.op 21 [] (some 68) (some (67, false)) false (.fad (.t 1) 11)
  (.op 22 [] (some 69) (some (67, false)) false (.load none (.t 68))
  (.op 23 [] (some 70) (some (67, false)) false (.call 70 131 [(.t 69)])
  (.op 24 [] (some 71) (some (67, false)) false (.un .not (.t 70))
  (.op 25 [] (some 72) none false (.pick (.t 67) (.v (.bool true)) (.t 71))
  (.op 26 [] (some 73) none false (.mov (.t 72))
  (.op 27 [] (some 74) (some (73, false)) false (.fad (.t 1) 12)
  (.op 28 [] (some 75) (some (73, false)) false (.load none (.t 74))
  (.op 29 [] (some 76) (some (73, false)) false (.call 76 132 [(.t 75)])
  (.op 30 [] (some 77) (some (73, false)) false (.un .not (.t 76))
  (.op 31 [] (some 78) none false (.pick (.t 73) (.v (.bool true)) (.t 77))
  .done)))))))))))))))))))))))))))))))))
 (.cond (.t 78)
 (.seq (.reg false (.op 0 [] (some 2) none false (.mov (.v (.bool false)))
  .done))
 .ret)
 .skip))
 (.seq (.reg false (.op 0 [] (some 79) none false (.fad (.t 1) 0)
  (.op 1 [] (some 80) none false (.load none (.t 79))
  (.op 2 [] (some 81) none false (.bin .eql (.t 80) (.v (.int .i64 1)))
  (.op 3 [] (some 82) none false (.mov (.t 81))
  (.op 4 [] (some 83) (some (82, false)) false (.fad (.t 1) 11)
  (.op 5 [] (some 84) (some (82, false)) false (.load none (.t 83))
  (.op 6 [] (some 85) (some (82, false)) false (.bin .eql (.t 84) (.v (.int .i64 0)))
  (.op 7 [] (some 86) (some (82, false)) false (.mov (.t 85))
  (.op 8 [] (some 87) (some (86, true)) false (.fad (.t 1) 9)
  (.op 9 [] (some 88) (some (86, true)) false (.load none (.t 87))
  (.op 10 [] (some 89) (some (86, true)) false (.bin .lss (.t 88) (.v (.int .i64 12)))
  (.op 11 [] (some 90) (some (82, false)) false (.pick (.t 86) (.t 89) (.v (.bool false)))
  (.op 12 [] (some 91) (some (82, false)) false (.mov (.t 90))
  (.op 13 [] (some 92) (some (91, true)) false (.fad (.t 1) 10)
  (.op 14 [] (some 93) (some (91, true)) false (.load none (.t 92))
  (.op 15 [] (some 94) (some (91, true)) false (.bin .lss (.t 93) (.v (.int .i64 6)))
  (.op 16 [] (some 95) (some (82, false)) false (.pick (.t 91) (.t 94) (.v (.bool false)))
  (.op 17 [] (some 96) none false (.pick (.t 82) (.v (.bool true)) (.t 95))
  (.op 18 [] (some 2) none false (.mov (.t 96))
  .done))))))))))))))))))))
 .ret))))
theorem dg_impl_TaskOk : Tryz.f71.body.bind (digC Tryz.prog Tryz.f71.ntmps []) = some c_impl_TaskOk := by kernel_rfl
theorem rs_impl_TaskOk : resSlots Tryz.prog Tryz.f71 = some [.s 2] := by kernel_rfl
theorem ok_impl_TaskOk (t : Task) (hs : SmallT t) :
    FnOK Tryz.prog 71 [.agg (t.cells.map .d)] (fun ra _ => ra = [.one (.d (.sc (.bool (taskOk t))))]) := by
  refine FnOK.ofK Tryz.func71 (by kernel_rfl) dg_impl_TaskOk rs_impl_TaskOk rfl rfl ?_
  unfold c_impl_TaskOk
  have n1 := hs.n.len
  have n2 := hs.n.mem
  have f1 := hs.f.len
  have f2 := hs.f.mem
  have z1 := hs.z.len
  have z2 := hs.z.mem
  have h1 := hs.h
  have s1 := hs.s
  have a1 := hs.a
  refine kSeq (kReg (kBox rfl rfl rfl rfl rfl (kMovC rfl (kDone (kSeq (kSeq (kReg (kFadP rfl rfl (kLoadP rfl rfl rfl (kCallD (ok_impl_within _ _ _) ⟨rfl, rfl, rfl, trivial⟩ rfl rfl rfl rfl rfl (kUn rfl rfl (kMovC rfl (kGN rfl (fun g0 => kGF rfl (kGF rfl (kGF rfl (kGF rfl (kPickT rfl (kMovC rfl (kMovC rfl (kGF rfl (kGF rfl (kGF rfl (kGF rfl (kGF rfl (kPickT rfl (kMovC rfl (kMovC rfl (kGF rfl (kGF rfl (kGF rfl (kGF rfl (kGF rfl (kPickT rfl (kMovC rfl (kMovC rfl (kGF rfl (kGF rfl (kGF rfl (kGF rfl (kGF rfl (kGF rfl (kPickT rfl (kMovC rfl (kMovC rfl (kGF rfl (kGF rfl (kGF rfl (kGF rfl (kPickT rfl (kMovC rfl (kMovC rfl (kGF rfl (kGF rfl (kGF rfl (kGF rfl (kPickT rfl (kMovC rfl (kDone (kCondT rfl (kSeq (kReg (kMovC rfl (kDone (kRet (endRetA (ra := [.one (.d _)]) rfl ?_))))))))))))))))))))))))))))))))))))))))))))))))))))) (fun g0 => kGT rfl (kFadP rfl rfl (kGT rfl (kLoadP rfl rfl rfl (kGT rfl (kCallD (ok_impl_within _ _ _) ⟨rfl, rfl, rfl, trivial⟩ rfl rfl rfl rfl rfl (kGT rfl (kUn rfl rfl (kPickF rfl (kMovC rfl (kMovC rfl (kGN rfl (fun g1 => kGF rfl (kGF rfl (kGF rfl (kGF rfl (kGF rfl (kPickT rfl (kMovC rfl (kMovC rfl (kGF rfl (kGF rfl (kGF rfl (kGF rfl (kGF rfl (kPickT rfl (kMovC rfl (kMovC rfl (kGF rfl (kGF rfl (kGF rfl (kGF rfl (kGF rfl (kGF rfl (kPickT rfl (kMovC rfl (kMovC rfl (kGF rfl (kGF rfl (kGF rfl (kGF rfl (kPickT rfl (kMovC rfl (kMovC rfl (kGF rfl (kGF rfl (kGF rfl (kGF rfl (kPickT rfl (kMovC rfl (kDone (kCondT rfl (kSeq (kReg (kMovC rfl (kDone (kRet (endRetA (ra := [.one (.d _)]) rfl ?_)))))))))))))))))))))))))))))))))))))))))))))) (fun g1 => kGT rfl (kFadP rfl rfl (kGT rfl (kFadP rfl rfl (kGT rfl (kLoadP rfl rfl rfl (kGT rfl (kCallD (ok_impl_NameOk _ (by first | assumption | omega | solve_by_elim [List.getElem_mem] | (simp only [szOut] at *; omega)) (by first | assumption | omega | solve_by_elim [List.getElem_mem] | (simp only [szOut] at *; omega))) ⟨⟨⟨rfl, trivial⟩, Nat.le_of_ble_eq_true rfl⟩, trivial⟩ rfl rfl rfl rfl rfl (kGT rfl (kUn rfl rfl (kPickF rfl (kMovC rfl (kMovC rfl (kGN rfl (fun g2 => kGF rfl (kGF rfl (kGF rfl (kGF rfl (kGF rfl (kPickT rfl (kMovC rfl (kMovC rfl (kGF rfl (kGF rfl (kGF rfl (kGF rfl (kGF rfl (kGF rfl (kPickT rfl (kMovC rfl (kMovC rfl (kGF rfl (kGF rfl (kGF rfl (kGF rfl (kPickT rfl (kMovC rfl (kMovC rfl (kGF rfl (kGF rfl (kGF rfl (kGF rfl (kPickT rfl (kMovC rfl (kDone (kCondT rfl (kSeq (kReg (kMovC rfl (kDone (kRet (endRetA (ra := [.one (.d _)]) rfl ?_)))))))))))))))))))))))))))))))))))))) (fun g2 => kGT rfl (kFadP rfl rfl (kGT rfl (kFadP rfl rfl (kGT rfl (kLoadP rfl rfl rfl (kGT rfl (kCallD (ok_impl_TypeOk _) ⟨rfl, trivial⟩ rfl rfl rfl rfl rfl (kGT rfl (kUn rfl rfl (kPickF rfl (kMovC rfl (kMovC rfl (kGN rfl (fun g3 => kGF rfl (kGF rfl (kGF rfl (kGF rfl (kGF rfl (kGF rfl (kPickT rfl (kMovC rfl (kMovC rfl (kGF rfl (kGF rfl (kGF rfl (kGF rfl (kPickT rfl (kMovC rfl (kMovC rfl (kGF rfl (kGF rfl (kGF rfl (kGF rfl (kPickT rfl (kMovC rfl (kDone (kCondT rfl (kSeq (kReg (kMovC rfl (kDone (kRet (endRetA (ra := [.one (.d _)]) rfl ?_)))))))))))))))))))))))))))))) (fun g3 => kGT rfl (kFadP rfl rfl (kGT rfl (kLoadP rfl rfl rfl (kGT rfl (kFadP rfl rfl (kGT rfl (kLoadP rfl rfl rfl (kGT rfl (kCallD (ok_impl_Under _ _ (by first | assumption | omega | solve_by_elim [List.getElem_mem] | (simp only [szOut] at *; omega)) (by first | assumption | omega | solve_by_elim [List.getElem_mem] | (simp only [szOut] at *; omega)) (by first | assumption | omega | solve_by_elim [List.getElem_mem] | (simp only [szOut] at *; omega)) (by first | assumption | omega | solve_by_elim [List.getElem_mem] | (simp only [szOut] at *; omega))) ⟨⟨⟨rfl, trivial⟩, Nat.le_of_ble_eq_true rfl⟩, ⟨⟨rfl, trivial⟩, Nat.le_of_ble_eq_true rfl⟩, trivial⟩ rfl rfl rfl rfl rfl (kGT rfl (kUn rfl rfl (kPickF rfl (kMovC rfl (kMovC rfl (kGN rfl (fun g4 => kGF rfl (kGF rfl (kGF rfl (kGF rfl (kPickT rfl (kMovC rfl (kMovC rfl (kGF rfl (kGF rfl (kGF rfl (kGF rfl (kPickT rfl (kMovC rfl (kDone (kCondT rfl (kSeq (kReg (kMovC rfl (kDone (kRet (endRetA (ra := [.one (.d _)]) rfl ?_))))))))))))))))))))) (fun g4 => kGT rfl (kFadP rfl rfl (kGT rfl (kLoadP rfl rfl rfl (kGT rfl (kCallD (ok_impl_areServers _ (by first | assumption | omega | solve_by_elim [List.getElem_mem] | (simp only [szOut] at *; omega))) ⟨rfl, trivial⟩ rfl rfl rfl rfl rfl (kGT rfl (kUn rfl rfl (kPickF rfl (kMovC rfl (kMovC rfl (kGN rfl (fun g5 => kGF rfl (kGF rfl (kGF rfl (kGF rfl (kPickT rfl (kMovC rfl (kDone (kCondT rfl (kSeq (kReg (kMovC rfl (kDone (kRet (endRetA (ra := [.one (.d _)]) rfl ?_)))))))))))))) (fun g5 => kGT rfl (kFadP rfl rfl (kGT rfl (kLoadP rfl rfl rfl (kGT rfl (kCallD (ok_impl_areServers _ (by first | assumption | omega | solve_by_elim [List.getElem_mem] | (simp only [szOut] at *; omega))) ⟨rfl, trivial⟩ rfl rfl rfl rfl rfl (kGT rfl (kUn rfl rfl (kPickF rfl (kMovC rfl (kDone (kCondN rfl (fun g6 => kSeq (kReg (kMovC rfl (kDone (kRet (endRetA (ra := [.one (.d _)]) rfl ?_)))))) (fun g6 => kSkip (kSeq (kSeq (kReg (kFadP rfl rfl (kLoadP rfl rfl rfl (kFadP rfl rfl (kLoadP rfl rfl rfl (kLenR rfl rfl (kDif rfl rfl (by omega) (kCallD (ok_impl_within _ _ _) ⟨rfl, rfl, rfl, trivial⟩ rfl rfl rfl rfl rfl (kUn rfl rfl (kMovC rfl (kGN rfl (fun g7 => kGF rfl (kGF rfl (kGF rfl (kGF rfl (kPickT rfl (kMovC rfl (kMovC rfl (kGF rfl (kGF rfl (kGF rfl (kGF rfl (kPickT rfl (kMovC rfl (kMovC rfl (kGF rfl (kGF rfl (kGF rfl (kGF rfl (kPickT rfl (kMovC rfl (kMovC rfl (kGF rfl (kGF rfl (kGF rfl (kGF rfl (kPickT rfl (kMovC rfl (kDone (kCondT rfl (kSeq (kReg (kMovC rfl (kDone (kRet (endRetA (ra := [.one (.d _)]) rfl ?_))))))))))))))))))))))))))))))))))) (fun g7 => kGT rfl (kFadP rfl rfl (kGT rfl (kLoadP rfl rfl rfl (kGT rfl (kCallD (ok_impl_within _ _ _) ⟨rfl, rfl, rfl, trivial⟩ rfl rfl rfl rfl rfl (kGT rfl (kUn rfl rfl (kPickF rfl (kMovC rfl (kMovC rfl (kGN rfl (fun g8 => kGF rfl (kGF rfl (kGF rfl (kGF rfl (kPickT rfl (kMovC rfl (kMovC rfl (kGF rfl (kGF rfl (kGF rfl (kGF rfl (kPickT rfl (kMovC rfl (kMovC rfl (kGF rfl (kGF rfl (kGF rfl (kGF rfl (kPickT rfl (kMovC rfl (kDone (kCondT rfl (kSeq (kReg (kMovC rfl (kDone (kRet (endRetA (ra := [.one (.d _)]) rfl ?_)))))))))))))))))))))))))))) (fun g8 => kGT rfl (kFadP rfl rfl (kGT rfl (kLoadP rfl rfl rfl (kGT rfl (kCallD (ok_impl_within _ _ _) ⟨rfl, rfl, rfl, trivial⟩ rfl rfl rfl rfl rfl (kGT rfl (kUn rfl rfl (kPickF rfl (kMovC rfl (kMovC rfl (kGN rfl (fun g9 => kGF rfl (kGF rfl (kGF rfl (kGF rfl (kPickT rfl (kMovC rfl (kMovC rfl (kGF rfl (kGF rfl (kGF rfl (kGF rfl (kPickT rfl (kMovC rfl (kDone (kCondT rfl (kSeq (kReg (kMovC rfl (kDone (kRet (endRetA (ra := [.one (.d _)]) rfl ?_))))))))))))))))))))) (fun g9 => kGT rfl (kFadP rfl rfl (kGT rfl (kLoadP rfl rfl rfl (kGT rfl (kCallD (ok_impl_isCode _) ⟨rfl, trivial⟩ rfl rfl rfl rfl rfl (kGT rfl (kUn rfl rfl (kPickF rfl (kMovC rfl (kMovC rfl (kGN rfl (fun g10 => kGF rfl (kGF rfl (kGF rfl (kGF rfl (kPickT rfl (kMovC rfl (kDone (kCondT rfl (kSeq (kReg (kMovC rfl (kDone (kRet (endRetA (ra := [.one (.d _)]) rfl ?_)))))))))))))) (fun g10 => kGT rfl (kFadP rfl rfl (kGT rfl (kLoadP rfl rfl rfl (kGT rfl (kCallD (ok_impl_areRrs _ (by first | assumption | omega | solve_by_elim [List.getElem_mem] | (simp only [szOut] at *; omega))) ⟨rfl, trivial⟩ rfl rfl rfl rfl rfl (kGT rfl (kUn rfl rfl (kPickF rfl (kMovC rfl (kDone (kCondN rfl (fun g11 => kSeq (kReg (kMovC rfl (kDone (kRet (endRetA (ra := [.one (.d _)]) rfl ?_)))))) (fun g11 => kSkip (kSeq (kReg (kFadP rfl rfl (kLoadP rfl rfl rfl (kBin rfl rfl rfl (kMovC rfl (kGP rfl (fun g12 => kGF rfl (kGF rfl (kGF rfl (kGF rfl (kGU rfl (kGU rfl (kGU rfl (kGF rfl (kGF rfl (kGU rfl (kGU rfl (kGU rfl (kGF rfl (kPickT rfl (kMovC rfl (kMovC rfl (kDone (kRet (endRetA (ra := [.one (.d _)]) rfl ?_))))))))))))))))))) (fun g12 => kGT rfl (kFadP rfl rfl (kGT rfl (kLoadP rfl rfl rfl (kGT rfl (kBin rfl rfl rfl (kGT rfl (kMovC rfl (kGP rfl (fun g13 => kGT rfl (kFadP rfl rfl (kGT rfl (kLoadP rfl rfl rfl (kGT rfl (kBin rfl rfl rfl (kGT rfl (kPickT rfl (kMovC rfl (kGT rfl (kMovC rfl (kGP rfl (fun g14 => kGT rfl (kFadP rfl rfl (kGT rfl (kLoadP rfl rfl rfl (kGT rfl (kBin rfl rfl rfl (kGT rfl (kPickT rfl (kMovC rfl (kPickF rfl (kMovC rfl (kMovC rfl (kDone (kRet (endRetA (ra := [.one (.d _)]) rfl ?_))))))))))))))) (fun g14 => kGF rfl (kGF rfl (kGF rfl (kGT rfl (kPickF rfl (kMovC rfl (kPickF rfl (kMovC rfl (kMovC rfl (kDone (kRet (endRetA (ra := [.one (.d _)]) rfl ?_)))))))))))))))))))))))) (fun g13 => kGF rfl (kGF rfl (kGF rfl (kGT rfl (kPickF rfl (kMovC rfl (kGT rfl (kMovC rfl (kGF rfl (kGF rfl (kGF rfl (kGT rfl (kPickF rfl (kMovC rfl (kPickF rfl (kMovC rfl (kMovC rfl (kDone (kRet (endRetA (ra := [.one (.d _)]) rfl ?_))))))))))))))))))))))))))))))))))))))))))))))))))))))))))))))))))))))))))))))))))))))))))))))))))))))))))))))))))))))))))))))))))))))))))))))))))))))))))))))))))))))))))))))))))))))))))))))))
  all_goals (clear n1 n2 f1 f2 z1 z2 h1 s1 a1 hs; refine congrArg (fun z : Bool => [RA.one (RV.d (DV.sc (Value.bool z)))]) ?_)
  all_goals first
    | (simp [taskOk, *]; done)
    | (simp [taskOk, *]; omega)
    | (rw [Bool.eq_iff_iff]; simp [taskOk, *]; done)
    | (rw [Bool.eq_iff_iff]; simp [taskOk, *]; omega)
    | (simp_all [taskOk]; done)
    | (simp_all [taskOk]; omega)

def c_bytes_Clone : C := (.seq (.reg false (.op 0 [] (some 2) none false (.mov (.n 1))
  .done))
 (.seq (.seq (.reg false (.op 0 [] (some 3) none false (.mov (.t 0))
  (.op 1 [] (some 4) none false (.eqn false (.t 3))
  .done)))
 (.cond (.t 4)
 (.seq (.reg false (.op 0 [] (some 2) none false (.mov (.n 1))
  .done))
 .ret)
 .skip))
 (.seq (.reg false (.op 0 [] (some 5) none false (.lit 5 1 [(.v (.int .u8 0))] 0 [])
  (.op 1 [] (some 6) none false (.mov (.t 0))
  (.op 2 [] (some 7) none false (.app 7 1 1 (.t 5) (.t 6))
  (.op 3 [] (some 2) none false (.mov (.t 7))
  .done)))))
 .ret)))
theorem dg_bytes_Clone : Tryz.f170.body.bind (digC Tryz.prog Tryz.f170.ntmps []) = some c_bytes_Clone := by kernel_rfl
theorem rs_bytes_Clone : resSlots Tryz.prog Tryz.f170 = some [.s 2] := by kernel_rfl
theorem ok_bytes_Clone (b : List UInt8) (hb : b.length ≤ 140737488355328) :
    FnOK Tryz.prog 170 [.one (.d (encB b))] (fun ra _ => ra = [.one (.own true (encB b))]) := by
  refine FnOK.ofK Tryz.func170 (by kernel_rfl) dg_bytes_Clone rs_bytes_Clone rfl rfl ?_
  unfold c_bytes_Clone
  refine kSeq (kReg (kMovC rfl (kDone ?_)))
  refine kSeq (kSeq (kReg (kMovC rfl (kEqn rfl rfl rfl fun n hn => kDone ?_))))
  refine kCond rfl (fun h => ?_) (fun h => ?_)
  · refine kSeq (kReg (kMovC rfl (kDone (kRet ?_))))
    refine endRet (ra := [.one (.own true (.sl 1 []))]) rfl ⟨⟨rfl, trivial⟩, nodupB_sound rfl, trivial, trivial⟩ ?_
    have : b = [] := by
      rw [len_encB] at hn
      cases b with
      | nil => rfl
      | cons x l => have := hn (by simp); simp [this] at h
    rw [this]; rfl
  · refine kSkip (kSeq (kReg ?_))
    refine kLit rfl rfl rfl rfl (kMovC rfl ?_)
    refine kApp (cy := .d (encB b)) rfl rfl rfl (src_encB _ b) rfl rfl ⟨rfl, rfl, Nat.zero_lt_one⟩ rfl ?_ (kMovC rfl (kDone (kRet ?_)))
    · show ((DV.sl 1 (chunk 1 0 [])).len + (encB b).len) * 1 ≤ _ ∧ _
      rw [len_encB]; simp [DV.len, chunk]; omega
    refine endRet (ra := [.one (.own true _)]) rfl ⟨⟨⟨⟨_, rfl, fun _ => rfl⟩, .inl (Nat.zero_lt_succ _)⟩, trivial⟩, nodupB_sound rfl, trivial, trivial⟩ ?_
    exact congrArg (fun x => [RA.one (RV.own true x)]) (app_nil_encB b)

def c_impl_Name_copied : C := (.seq (.reg false (.op 0 [] (some 1) none false (.box 1 (.t 0))
  (.op 1 [] (some 2) none false (.alloc 2 [(.n 1)])
  .done)))
 (.seq (.reg false (.op 0 [] (some 6) none false (.build [(.n 1)] [])
  (.op 1 [] (some 3) none false (.alloc 3 [(.n 1)])
  (.op 2 [] none none false (.store (some 1) (.t 3) (.t 6))
  .done))))
 (.seq (.seq (.reg false (.op 0 [] (some 7) none false (.fad (.t 1) 0)
  (.op 1 [] (some 8) none false (.load none (.t 7))
  (.op 2 [] (some 9) none false (.len (.t 8))
  (.op 3 [] (some 10) none false (.mov (.v (.int .i64 0)))
  .done)))))
 (.block 0 (.loop (.seq (.reg false (.op 0 [] (some 11) none false (.bin .lss (.t 10) (.t 9))
  .done))
 (.seq (.cond (.t 11)
 .skip
 (.exit 0))
 (.seq (.block 1 (.seq (.reg false (.op 0 [] (some 12) none false (.iad 1 (.t 8) (.t 10))
  (.op 1 [] (some 13) none false (.load none (.t 12))
  (.op 2 [] (some 5) none false (.mov (.t 13))
  .done))))
 (.reg true (.op 0 [] (some 14) none true (.fad (.t 3) 0)
  (.op 1 [] (some 15) none true (.load none (.t 14))
  (.op 2 [] (some 16) none true (.mov (.t 5))
  (.op 3 [] (some 17) none false (.call 17 170 [(.t 16)])
  (.op 4 [] (some 18) none false (.lit 18 1 [(.n 1)] 1 [(0, 1, (.t 17))])
  (.op 5 [1] (some 19) none false (.app 19 1 24 (.t 15) (.t 18))
  (.op 6 [] (some 20) none true (.fad (.t 3) 0)
  (.op 7 [1] none none false (.store none (.t 20) (.t 19))
  .done)))))))))))
 (.reg false (.op 0 [] (some 21) none false (.bin .add (.t 10) (.v (.int .i64 1)))
  (.op 1 [] (some 10) none false (.mov (.t 21))
  .done)))))))))
 (.seq (.reg false (.op 0 [] (some 22) none false (.load (some 1) (.t 3))
  (.op 1 [] none none false (.store (some 1) (.t 2) (.t 22))
  .done)))
 .ret))))
theorem dg_impl_Name_copied : Tryz.f135.body.bind (digC Tryz.prog Tryz.f135.ntmps []) = some c_impl_Name_copied := by kernel_rfl
theorem rs_impl_Name_copied : resSlots Tryz.prog Tryz.f135 = some [.m 2 (some 1)] := by kernel_rfl
theorem ok_impl_Name_copied (a : List (List UInt8)) (ha : a.length ≤ 4194304) (hb : ∀ b ∈ a, b.length ≤ 4194304) :
    FnOK Tryz.prog 135 [.agg [.d (encBB a)]] (fun ra _ => ra = [.agg [.own true (encBB a)]]) := by
  refine FnOK.ofK Tryz.func135 (by kernel_rfl) dg_impl_Name_copied rs_impl_Name_copied rfl rfl ?_
  unfold c_impl_Name_copied
  refine kSeq (kReg (kBox rfl rfl rfl rfl rfl (kAlloc rfl rfl (kDone ?_))))
  refine kSeq (kReg (kBuild rfl (kAlloc rfl rfl (kStoreP rfl rfl rfl rfl (kDone ?_)))))
  refine kSeq (kSeq (kReg (kFadP rfl rfl (kLoadP rfl rfl rfl (kLen rfl rfl rfl (kMovC rfl (kDone (kBlock ?_))))))))
  rw [len_encBB]
  refine kSub (Sub.nilBox (id := rid 3 0) (id2 := rid 5000 0) (j := 0) rfl rfl rfl (by decide) (by decide)) ?_
  refine kLoop (α := { i : Nat // i ≤ a.length })
    (fun y => ⟨tabSl [(1, .c (.ptr (rid 1 0) 1 0)), (2, .c (.ptr (rid 2 0) 1 0)), (3, .c (.ptr (rid 3 0) 1 0)), (8, .dv (encBB a)), (9, .i a.length), (10, .i y.1)],
      obTab 1 [(rid 1 0, ⟨1, 0, .box [.d (encBB a)]⟩), (rid 2 0, ⟨1, 0, .box [.nil 1]⟩), (rid 3 0, ⟨1, 0, .box [.arr (rid 5000 0) 1]⟩), (rid 5000 0, ⟨1, 0, .arr true (encBB (a.take y.1))⟩)], []⟩) (fun y => a.length - y.1) ⟨0, by simp⟩
    (.norm ?_ ?_) ?_
  · repeat' first | exact trivial | exact rfl | exact .inl rfl | refine ⟨_, rfl, ?_⟩ | refine ⟨?_, ?_⟩ | fail
  · repeat' first | exact trivial | exact rfl | exact .inl rfl | refine ⟨_, rfl, ?_⟩ | refine ⟨?_, ?_⟩ | fail
  rintro ⟨i, hi⟩
  simp only at hi ⊢
  refine kSeq (kReg (kBin rfl rfl rfl (kDone (kSeq ?_))))
  refine kCond rfl (fun h1 => ?_) (fun h1 => ?_)
  · have hlt : i < a.length := by simp at h1; omega
    refine kSkip (kSeq (kBlock (kSeq (kReg ?_))))
    refine kIadD rfl rfl rfl rfl ?_ ?_
    · rw [len_encBB]; omega
    rw [show (encBB a).row (i : Int).toNat = [encB a[i]] from row_encBB a i hlt]
    refine kLoadD rfl rfl (kMovC rfl (kDone (kRegD (kFadP rfl rfl (kLoadP rfl rfl rfl (kMovC rfl ?_))))))
    refine kCall1 false (ok_bytes_Clone a[i] (Nat.le_trans (hb _ (List.getElem_mem hlt)) (by omega))) ⟨rfl, trivial⟩ rfl rfl rfl fun os => ?_
    refine kLit rfl rfl rfl rfl (kRelF rfl rfl ?_)
    refine kApp rfl rfl rfl rfl rfl rfl ⟨rfl, rfl, Nat.zero_lt_one⟩ rfl ?_ ?_
    · show ((encBB (a.take i)).len + (DV.sl 1 [[encB a[i]]]).len) * 24 ≤ _ ∧ (encBB (a.take i)).len + (DV.sl 1 [[encB a[i]]]).len ≤ _
      rw [len_encBB, List.length_take]; simp [DV.len, DV.rows]; omega
    refine kFadP rfl rfl (kRelF rfl rfl (kStoreP rfl rfl rfl rfl (kDone (kH (kBk (kReg (kAdd rfl rfl (by omega) (kMovC rfl (kDone ?_)))))))))
    refine kInv ⟨⟨i + 1, hlt⟩, by simp only; omega, .norm ?_ ?_⟩
    · repeat' first | exact trivial | exact rfl | exact .inl rfl | refine ⟨_, rfl, ?_⟩ | refine ⟨?_, ?_⟩ | fail
    · repeat' first | exact trivial | exact rfl | exact .inl rfl | refine ⟨_, rfl, ?_⟩ | refine ⟨?_, ?_⟩ | fail
      rw [← List.take_append_getElem hlt, ← app_encBB]
      rfl
  · refine kExit (kExC (kExI (kExB (kSeq (kReg (kLoadP rfl rfl rfl (kStoreP rfl rfl rfl rfl (kDone ?_))))))))
    have hge : i = a.length := by simp at h1; omega
    subst hge
    refine kRet (endRet (ra := [.agg [.own true _]]) rfl ⟨⟨⟨⟨⟨⟨_, rfl, fun _ => rfl⟩, .inl Nat.zero_lt_one⟩, trivial⟩, Nat.le_of_ble_eq_true rfl⟩, trivial⟩, nodupB_sound rfl, ⟨trivial, trivial⟩, trivial⟩ ?_)
    rw [List.take_length]

def c_impl_Task_question : C := (.seq (.reg false (.op 0 [] (some 1) none false (.box 1 (.t 0))
  (.op 1 [] (some 2) none false (.alloc 2 [(.v (.int .i64 0)), (.v (.bool false)), (.v (.int .i64 0)), (.v (.bool false)), (.v (.int .i64 0)), (.n 2), (.n 7), (.n 7), (.n 7), (.n 9), (.n 9)])
  .done)))
 (.seq (.reg true (.op 0 [] (some 3) none true (.fad (.t 1) 1)
  (.op 1 [] (some 4) none true (.load none (.t 3))
  (.op 2 [] (some 5) none true (.fad (.t 1) 4)
  (.op 3 [] (some 6) none true (.load (some 1) (.t 5))
  (.op 5 [] (some 8) none true (.fad (.t 1) 2)
  (.op 6 [] (some 9) none true (.fad (.t 8) 1)
  (.op 7 [] (some 10) none true (.load none (.t 9))
  (.op 4 [3] (some 7) none false (.call 7 135 [(.t 6)])
  (.op 8 [] (some 11) none true (.build [(.n 1), (.v (.int .i64 0))] [(0, 1, (.t 7)), (1, 1, (.t 10))])
  (.op 9 [3, 7] (some 12) none false (.lit 12 2 [(.n 1), (.v (.int .i64 0))] 1 [(0, 2, (.t 11))])
  (.op 10 [] (some 13) none true (.build [(.v (.int .i64 0)), (.v (.bool false)), (.v (.int .i64 0)), (.v (.bool false)), (.v (.int .i64 0)), (.n 2), (.n 7), (.n 7), (.n 7), (.n 9), (.n 9)] [(0, 1, (.t 4)), (5, 1, (.t 12))])
  (.op 11 [1, 3, 7] none none false (.store (some 11) (.t 2) (.t 13))
  .done)))))))))))))
 .ret))
theorem dg_impl_Task_question : Tryz.f99.body.bind (digC Tryz.prog Tryz.f99.ntmps []) = some c_impl_Task_question := by kernel_rfl
theorem rs_impl_Task_question : resSlots Tryz.prog Tryz.f99 = some [.m 2 (some 11)] := by kernel_rfl
theorem ok_impl_Task_question (t : Task) (hs : SmallT t) :
    FnOK Tryz.prog 99 [.agg (t.cells.map .d)] (fun ra _ => ra = [.agg [.d (.sc (.int .i64 t.id)), .d (.sc (.bool false)), .d (.sc (.int .i64 0)), .d (.sc (.bool false)), .d (.sc (.int .i64 0)), .own true (encQ [⟨t.name, t.ftype⟩]), .own true (encR []), .own true (encR []), .own true (encR []), .own true nilW, .own true nilW]]) := by
  refine FnOK.ofK Tryz.func99 (by kernel_rfl) dg_impl_Task_question rs_impl_Task_question rfl rfl ?_
  unfold c_impl_Task_question
  have n1 := hs.n.len
  have n2 := hs.n.mem
  refine kSeq (kReg (kBox rfl rfl rfl rfl rfl (kAlloc rfl rfl (kDone (kSeq (kRegD (kFadP rfl rfl (kLoadP rfl rfl rfl (kFadP rfl rfl (kLoadP rfl rfl rfl (kFadP rfl rfl (kFadP rfl rfl (kMem [(8192, ⟨1, 0, .box [.d _, .d _, .d _, .d _, .d _, .d _, .d _, .d _, .d _, .d _, .d _, .d _, .d _]⟩), (12288, ⟨1, 0, .box [.d _, .d _, .d _, .d _, .d _, .nil 2, .nil 7, .nil 7, .nil 7, .nil 9, .nil 9]⟩)] [(9, .c (.ptr 8192 1 3)), (6, .g [.d _]), (7, .c (.un)), (10, .c (.un)), (11, .c (.un)), (4, .c (.d _)), (12, .c (.un)), (2, .c (.ptr 12288 1 0)), (13, .c (.un))] [8192, 8192] ⟨rfl, rfl, trivial⟩ ⟨rfl, rfl, rfl, rfl, rfl, rfl, rfl, rfl, rfl, trivial⟩ rfl (kLoadP rfl rfl rfl (kRelK rfl rfl (kCall1 true (ok_impl_Name_copied _ (by first | assumption | omega | solve_by_elim [List.getElem_mem] | (simp only [szOut] at *; omega)) (by first | assumption | omega | solve_by_elim [List.getElem_mem] | (simp only [szOut] at *; omega))) ⟨⟨⟨rfl, trivial⟩, Nat.le_of_ble_eq_true rfl⟩, trivial⟩ rfl rfl rfl (fun _ => (kMem [(32768, ⟨1, 0, .arr true _⟩), (12288, ⟨1, 0, .box [.d _, .d _, .d _, .d _, .d _, .nil 2, .nil 7, .nil 7, .nil 7, .nil 9, .nil 9]⟩)] [(7, .g [.arr 32768 1]), (10, .c (.d _)), (11, .c (.un)), (4, .c (.d _)), (12, .c (.un)), (2, .c (.ptr 12288 1 0)), (13, .c (.un))] [8192, 8192, 8192] ⟨rfl, rfl, trivial⟩ ⟨rfl, rfl, rfl, rfl, rfl, rfl, rfl, trivial⟩ rfl (kBuildG rfl (kRelK rfl rfl (kLit rfl rfl rfl rfl (kMem [(53248, ⟨1, 0, .arr true _⟩), (12288, ⟨1, 0, .box [.d _, .d _, .d _, .d _, .d _, .nil 2, .nil 7, .nil 7, .nil 7, .nil 9, .nil 9]⟩)] [(4, .c (.d _)), (12, .c (.arr 53248 1)), (2, .c (.ptr 12288 1 0)), (13, .c (.un))] [8192, 8192, 8192] ⟨rfl, rfl, trivial⟩ ⟨rfl, rfl, rfl, rfl, trivial⟩ rfl (kBuildG rfl (kMem [(12288, ⟨1, 0, .box [.d _, .d _, .d _, .d _, .d _, .nil 2, .nil 7, .nil 7, .nil 7, .nil 9, .nil 9]⟩), (53248, ⟨1, 0, .arr true _⟩)] [(2, .c (.ptr 12288 1 0)), (13, .g [.d _, .d _, .d _, .d _, .d _, .arr 53248 1, .nil 7, .nil 7, .nil 7, .nil 9, .nil 9])] [8192, 8192, 8192] ⟨rfl, rfl, trivial⟩ ⟨rfl, rfl, trivial⟩ rfl (kRelF rfl rfl (kStoreP rfl rfl rfl rfl (kDone (kH (kMem [(12288, ⟨1, 0, .box [.d _, .d _, .d _, .d _, .d _, .arr 53248 1, .nil 7, .nil 7, .nil 7, .nil 9, .nil 9]⟩), (53248, ⟨1, 0, .arr true _⟩)] [(2, .c (.ptr 12288 1 0))] [] ⟨rfl, rfl, trivial⟩ ⟨rfl, trivial⟩ rfl (kRet (endRetA (ra := [.agg [(.d _), (.d _), (.d _), (.d _), (.d _), (.own true _), (.own true _), (.own true _), (.own true _), (.own true _), (.own true _)]]) rfl rfl)))))))))))))))))))))))))))))))

def c_impl_AskOf : C := (.seq (.reg false (.op 0 [] (some 1) none false (.box 1 (.t 0))
  (.op 1 [] (some 2) none false (.mov (.v (.int .i64 0)))
  (.op 2 [] (some 3) none false (.alloc 3 [(.v (.int .i64 0)), (.v (.bool false)), (.v (.int .i64 0)), (.v (.bool false)), (.v (.int .i64 0)), (.n 2), (.n 7), (.n 7), (.n 7), (.n 9), (.n 9)])
  (.op 3 [] (some 4) none false (.mov (.v (.bool false)))
  .done)))))
 (.seq (.seq (.reg false (.op 0 [] (some 5) none false (.load (some 13) (.t 1))
  (.op 1 [] (some 6) none false (.call 6 71 [(.t 5)])
  (.op 2 [] (some 7) none false (.un .not (.t 6))
  (.op 3 [] (some 8) none false (.mov (.t 7))
  (.op 4 [] (some 9) (some (8, false)) false (.fad (.t 1) 0)
  (.op 5 [] (some 10) (some (8, false)) false (.load none (.t 9))
  (.op 6 [] (some 11) (some (8, false)) false (.bin .eql (.t 10) (.v (.int .i64 1)))
  (.op 7 [] (some 12) none false (.pick (.t 8) (.v (.bool true)) (.t 11))
  .done)))))))))
 (.cond (.t 12)
 (.seq (.reg false (.op 0 [] (some 13) none false (.build [(.v (.int .i64 0)), (.v (.bool false)), (.v (.int .i64 0)), (.v (.bool false)), (.v (.int .i64 0)), (.n 2), (.n 7), (.n 7), (.n 7), (.n 9), (.n 9)] [])
  (.op 1 [] (some 2) none false (.mov (.v (.int .i64 0)))
  (.op 2 [] none none false (.store (some 11) (.t 3) (.t 13))
  (.op 3 [] (some 4) none false (.mov (.v (.bool false)))
  .done)))))
 .ret)
 .skip))
 (.seq (.reg true (.op 0 [] (some 14) none true (.fad (.t 1) 7)
  (.op 1 [] (some 15) none true (.load none (.t 14))
  (.op 2 [] (some 16) none true (.fad (.t 1) 8)
  (.op 3 [] (some 17) none true (.load none (.t 16))
  (.op 4 [] (some 18) none true (.iad 1 (.t 15) (.t 17))
  (.op 5 [] (some 19) none true (.load none (.t 18))
  (.op 6 [] (some 20) none true (.load (some 13) (.t 1))
  (.op 7 [6] (some 21) none false (.call 21 99 [(.t 20)])
  (.op 8 [] (some 2) none true (.mov (.t 19))
  (.op 9 [6, 5, 1, 3] none none false (.store (some 11) (.t 3) (.t 21))
  (.op 10 [] (some 4) none true (.mov (.v (.bool true)))
  .done))))))))))))
 .ret)))
theorem dg_impl_AskOf : Tryz.f44.body.bind (digC Tryz.prog Tryz.f44.ntmps []) = some c_impl_AskOf := by kernel_rfl
theorem rs_impl_AskOf : resSlots Tryz.prog Tryz.f44 = some [.s 2, .m 3 (some 11), .s 4] := by kernel_rfl
theorem ok_impl_AskOf (t : Task) (hs : SmallT t) :
    FnOK Tryz.prog 44 [.agg (t.cells.map .d)] (fun ra _ => ra = [.one (.d (.sc (.int .i64 (askIp t)))), .agg [.d (.sc (.int .i64 (askId t))), .d (.sc (.bool false)), .d (.sc (.int .i64 0)), .d (.sc (.bool false)), .d (.sc (.int .i64 0)), .own true (encQ (askQs t)), .own true (encR []), .own true (encR []), .own true (encR []), .own true nilW, .own true nilW], .one (.d (.sc (.bool (askOk t))))]) := by
  refine FnOK.ofK Tryz.func44 (by kernel_rfl) dg_impl_AskOf rs_impl_AskOf rfl rfl ?_
  unfold c_impl_AskOf
  have s1 := hs.s
  cases h : askOk t
  · rw [show askIp t = 0 by simp [askIp, h], show askId t = 0 by simp [askId, h], show askQs t = [] by simp [askQs, h]]
    unfold askOk at h
    refine kSeq (kReg (kBox rfl rfl rfl rfl rfl (kMovC rfl (kAlloc rfl rfl (kMovC rfl (kDone (kSeq (kSeq (kReg (kLoadP rfl rfl rfl (kCallD (ok_impl_TaskOk _ (by first | assumption | omega | solve_by_elim [List.getElem_mem] | (simp only [szOut] at *; omega))) ⟨⟨⟨rfl, rfl, rfl, rfl, rfl, rfl, rfl, rfl, rfl, rfl, rfl, rfl, rfl, trivial⟩, Nat.le_of_ble_eq_true rfl⟩, trivial⟩ rfl rfl rfl rfl rfl (kUn rfl rfl (kMovC rfl (kGN rfl (fun g0 => kMem [(8192, ⟨1, 0, .box [.d _, .d _, .d _, .d _, .d _, .d _, .d _, .d _, .d _, .d _, .d _, .d _, .d _]⟩)] [(1, .c (.ptr 8192 1 0)), (9, .c (.un)), (10, .c (.un)), (8, .c (.d _)), (11, .c (.un))] [] ⟨rfl, trivial⟩ ⟨rfl, rfl, rfl, rfl, rfl, trivial⟩ rfl (kGF rfl (kGF rfl (kGF rfl (kPickT rfl (kMovC rfl (kDone (kCondT rfl (kSeq (kReg (kMem [(16384, ⟨1, 0, .box [.d _, .d _, .d _, .d _, .d _, .nil 2, .nil 7, .nil 7, .nil 7, .nil 9, .nil 9]⟩)] [(3, .c (.ptr 16384 1 0)), (13, .c (.un))] [] ⟨rfl, trivial⟩ ⟨rfl, rfl, trivial⟩ rfl (kBuildG rfl (kMovC rfl (kMem [(16384, ⟨1, 0, .box [.d _, .d _, .d _, .d _, .d _, .nil 2, .nil 7, .nil 7, .nil 7, .nil 9, .nil 9]⟩)] [(3, .c (.ptr 16384 1 0)), (13, .g [.d _, .d _, .d _, .d _, .d _, .nil 2, .nil 7, .nil 7, .nil 7, .nil 9, .nil 9])] [] ⟨rfl, trivial⟩ ⟨rfl, rfl, trivial⟩ rfl (kStoreP rfl rfl rfl rfl (kMovC rfl (kDone (kMem [(16384, ⟨1, 0, .box [.d _, .d _, .d _, .d _, .d _, .nil 2, .nil 7, .nil 7, .nil 7, .nil 9, .nil 9]⟩)] [(2, .c (.d _)), (3, .c (.ptr 16384 1 0)), (4, .c (.d _))] [] ⟨rfl, trivial⟩ ⟨rfl, rfl, rfl, trivial⟩ rfl (kRet (endRetA (ra := [.one (.d _), .agg [(.d _), (.d _), (.d _), (.d _), (.d _), (.own true _), (.own true _), (.own true _), (.own true _), (.own true _), (.own true _)], .one (.d _)]) rfl rfl)))))))))))))))))))) (fun g0 => kMem [(8192, ⟨1, 0, .box [.d _, .d _, .d _, .d _, .d _, .d _, .d _, .d _, .d _, .d _, .d _, .d _, .d _]⟩)] [(1, .c (.ptr 8192 1 0)), (9, .c (.un)), (10, .c (.un)), (8, .c (.d _)), (11, .c (.un))] [] ⟨rfl, trivial⟩ ⟨rfl, rfl, rfl, rfl, rfl, trivial⟩ rfl (kGT rfl (kFadP rfl rfl (kGT rfl (kLoadP rfl rfl rfl (kGT rfl (kBin rfl rfl rfl (kPickF rfl (kMovC rfl (kDone (kCondP rfl (fun g1 => kSeq (kReg (kMem [(16384, ⟨1, 0, .box [.d _, .d _, .d _, .d _, .d _, .nil 2, .nil 7, .nil 7, .nil 7, .nil 9, .nil 9]⟩)] [(3, .c (.ptr 16384 1 0)), (13, .c (.un))] [] ⟨rfl, trivial⟩ ⟨rfl, rfl, trivial⟩ rfl (kBuildG rfl (kMovC rfl (kMem [(16384, ⟨1, 0, .box [.d _, .d _, .d _, .d _, .d _, .nil 2, .nil 7, .nil 7, .nil 7, .nil 9, .nil 9]⟩)] [(3, .c (.ptr 16384 1 0)), (13, .g [.d _, .d _, .d _, .d _, .d _, .nil 2, .nil 7, .nil 7, .nil 7, .nil 9, .nil 9])] [] ⟨rfl, trivial⟩ ⟨rfl, rfl, trivial⟩ rfl (kStoreP rfl rfl rfl rfl (kMovC rfl (kDone (kMem [(16384, ⟨1, 0, .box [.d _, .d _, .d _, .d _, .d _, .nil 2, .nil 7, .nil 7, .nil 7, .nil 9, .nil 9]⟩)] [(2, .c (.d _)), (3, .c (.ptr 16384 1 0)), (4, .c (.d _))] [] ⟨rfl, trivial⟩ ⟨rfl, rfl, rfl, trivial⟩ rfl (kRet (endRetA (ra := [.one (.d _), .agg [(.d _), (.d _), (.d _), (.d _), (.d _), (.own true _), (.own true _), (.own true _), (.own true _), (.own true _), (.own true _)], .one (.d _)]) rfl rfl)))))))))))) (fun g1 => kSkip (kSeq (kRegD (kFadP rfl rfl (kLoadP rfl rfl rfl (kFadP rfl rfl (kLoadP rfl rfl rfl ?_))))))))))))))))))))))))))))))))
    all_goals simp_all
  · have h' := h
    unfold askOk at h'
    simp only [Bool.and_eq_true] at h'
    obtain ⟨a1, a2⟩ := h'
    have ht := task_turn a1
    have hst : t.state ≠ 1 := by simpa using a2
    have hget : t.servers.getD t.turn.toNat 0 = t.servers[t.turn.toNat]'(by omega) := by
      rw [List.getD_eq_getElem?_getD, List.getElem?_eq_getElem (by omega)]; rfl
    rw [show askIp t = t.servers[t.turn.toNat]'(by omega) by unfold askIp; rw [h, if_pos rfl, hget], show askId t = t.id by simp [askId, h], show askQs t = [⟨t.name, t.ftype⟩] by simp [askQs, h]]
    refine kSeq (kReg (kBox rfl rfl rfl rfl rfl (kMovC rfl (kAlloc rfl rfl (kMovC rfl (kDone (kSeq (kSeq (kReg (kLoadP rfl rfl rfl (kCallD (ok_impl_TaskOk _ (by first | assumption | omega | solve_by_elim [List.getElem_mem] | (simp only [szOut] at *; omega))) ⟨⟨⟨rfl, rfl, rfl, rfl, rfl, rfl, rfl, rfl, rfl, rfl, rfl, rfl, rfl, trivial⟩, Nat.le_of_ble_eq_true rfl⟩, trivial⟩ rfl rfl rfl rfl rfl (kUn rfl rfl (kMovC rfl (kGN rfl (fun g0 => (by (simp [*] at g0))) (fun g0 => kMem [(8192, ⟨1, 0, .box [.d _, .d _, .d _, .d _, .d _, .d _, .d _, .d _, .d _, .d _, .d _, .d _, .d _]⟩)] [(1, .c (.ptr 8192 1 0)), (9, .c (.un)), (10, .c (.un)), (8, .c (.d _)), (11, .c (.un))] [] ⟨rfl, trivial⟩ ⟨rfl, rfl, rfl, rfl, rfl, trivial⟩ rfl (kGT rfl (kFadP rfl rfl (kGT rfl (kLoadP rfl rfl rfl (kGT rfl (kBin rfl rfl rfl (kPickF rfl (kMovC rfl (kDone (kCondP rfl (fun g1 => (by omega)) (fun g1 => kSkip (kSeq (kRegD (kFadP rfl rfl (kLoadP rfl rfl rfl (kFadP rfl rfl (kLoadP rfl rfl rfl (kIadT rfl rfl (by omega) (kMem [(8192, ⟨1, 0, .box [.d _, .d _, .d _, .d _, .d _, .d _, .d _, .d _, .d _, .d _, .d _, .d _, .d _]⟩), (16384, ⟨1, 0, .box [.d _, .d _, .d _, .d _, .d _, .nil 2, .nil 7, .nil 7, .nil 7, .nil 9, .nil 9]⟩)] [(1, .c (.ptr 8192 1 0)), (20, .c (.un)), (19, .c (.un)), (3, .c (.ptr 16384 1 0)), (21, .c (.un))] [8192, 8192] ⟨rfl, rfl, trivial⟩ ⟨rfl, rfl, rfl, rfl, rfl, trivial⟩ rfl (kLoadD rfl rfl (kLoadP rfl rfl rfl (kRelK rfl rfl (kCall1 true (ok_impl_Task_question _ (by first | assumption | omega | solve_by_elim [List.getElem_mem] | (simp only [szOut] at *; omega))) ⟨⟨⟨rfl, rfl, rfl, rfl, rfl, rfl, rfl, rfl, rfl, rfl, rfl, rfl, rfl, trivial⟩, Nat.le_of_ble_eq_true rfl⟩, trivial⟩ rfl rfl rfl (fun _ => (kMovC rfl (kMem [(16384, ⟨1, 0, .box [.d _, .d _, .d _, .d _, .d _, .nil 2, .nil 7, .nil 7, .nil 7, .nil 9, .nil 9]⟩), (90117, ⟨1, 0, .arr true _⟩), (90118, ⟨1, 0, .arr true _⟩), (90119, ⟨1, 0, .arr true _⟩), (90120, ⟨1, 0, .arr true _⟩), (90121, ⟨1, 0, .arr true _⟩), (90122, ⟨1, 0, .arr true _⟩)] [(3, .c (.ptr 16384 1 0)), (21, .g [.d _, .d _, .d _, .d _, .d _, .arr 90117 1, .arr 90118 1, .arr 90119 1, .arr 90120 1, .arr 90121 1, .arr 90122 1])] [8192, 8192, 8192] ⟨rfl, rfl, rfl, rfl, rfl, rfl, rfl, trivial⟩ ⟨rfl, rfl, trivial⟩ rfl (kRelF rfl rfl (kStoreP rfl rfl rfl rfl (kMovC rfl (kDone (kH (kMem [(16384, ⟨1, 0, .box [.d _, .d _, .d _, .d _, .d _, .arr 90117 1, .arr 90118 1, .arr 90119 1, .arr 90120 1, .arr 90121 1, .arr 90122 1]⟩), (90117, ⟨1, 0, .arr true _⟩), (90118, ⟨1, 0, .arr true _⟩), (90119, ⟨1, 0, .arr true _⟩), (90120, ⟨1, 0, .arr true _⟩), (90121, ⟨1, 0, .arr true _⟩), (90122, ⟨1, 0, .arr true _⟩)] [(2, .c (.d _)), (3, .c (.ptr 16384 1 0)), (4, .c (.d _))] [] ⟨rfl, rfl, rfl, rfl, rfl, rfl, rfl, trivial⟩ ⟨rfl, rfl, rfl, trivial⟩ rfl (kRet (endRetA (ra := [.one (.d _), .agg [(.d _), (.d _), (.d _), (.d _), (.d _), (.own true _), (.own true _), (.own true _), (.own true _), (.own true _), (.own true _)], .one (.d _)]) rfl rfl)))))))))))))))))))))))))))))))))))))))))))))))))

def c_laws_eqByteS : C := (.seq (.reg false (.op 0 [] (some 4) none false (.mov (.v (.bool false)))
  .done))
 (.seq (.seq (.reg false (.op 0 [] (some 6) none false (.mov (.t 0))
  (.op 1 [] (some 7) none false (.len (.t 6))
  (.op 2 [] (some 8) none false (.mov (.t 1))
  (.op 3 [] (some 9) none false (.len (.t 8))
  (.op 4 [] (some 10) none false (.bin .neq (.t 7) (.t 9))
  .done))))))
 (.cond (.t 10)
 (.seq (.reg false (.op 0 [] (some 4) none false (.mov (.v (.bool false)))
  .done))
 .ret)
 .skip))
 (.seq (.seq (.reg false (.op 0 [] (some 5) none false (.mov (.v (.int .i64 0)))
  .done))
 (.block 0 (.loop (.seq (.seq (.reg false (.op 0 [] (some 11) none false (.mov (.t 5))
  (.op 1 [] (some 12) none false (.mov (.t 0))
  (.op 2 [] (some 13) none false (.len (.t 12))
  (.op 3 [] (some 14) none false (.bin .lss (.t 11) (.t 13))
  .done)))))
 (.cond (.t 14)
 .skip
 (.exit 0)))
 (.seq (.block 1 (.seq (.reg true (.op 0 [] (some 17) none true (.mov (.t 0))
  (.op 1 [] (some 18) none true (.mov (.t 5))
  (.op 2 [] (some 19) none true (.iad 1 (.t 17) (.t 18))
  (.op 3 [] (some 20) none true (.load none (.t 19))
  (.op 4 [] (some 21) none true (.mov (.t 1))
  (.op 5 [] (some 22) none true (.mov (.t 5))
  (.op 6 [] (some 23) none true (.iad 1 (.t 21) (.t 22))
  (.op 7 [] (some 24) none true (.load none (.t 23))
  (.op 8 [] (some 25) none true (.bin .neq (.t 20) (.t 24))
  .done))))))))))
 (.cond (.t 25)
 (.seq (.reg false (.op 0 [] (some 4) none false (.mov (.v (.bool false)))
  .done))
 .ret)
 .skip)))
 (.reg false (.op 0 [] (some 15) none false (.mov (.t 5))
  (.op 1 [] (some 16) none false (.bin .add (.t 15) (.v (.int .i64 1)))
  (.op 2 [] (some 5) none false (.mov (.t 16))
  .done)))))))))
 (.seq (.reg false (.op 0 [] (some 4) none false (.mov (.v (.bool true)))
  .done))
 .ret))))
theorem dg_laws_eqByteS : Tryz.f94.body.bind (digC Tryz.prog Tryz.f94.ntmps []) = some c_laws_eqByteS := by kernel_rfl
theorem rs_laws_eqByteS : resSlots Tryz.prog Tryz.f94 = some [.s 4] := by kernel_rfl
theorem ok_laws_eqByteS (a b : List UInt8) (ha : a.length ≤ 4194304) :
    FnOK Tryz.prog 94 [.one (.d (encB a)), .one (.d (encB b))] (fun ra _ => ra = [.one (.d (.sc (.bool (decide (a = b)))))]) := by
  refine FnOK.ofK Tryz.func94 (by kernel_rfl) dg_laws_eqByteS rs_laws_eqByteS rfl rfl ?_
  unfold c_laws_eqByteS
  refine kSeq (kReg (kMovC rfl (kDone ?_)))
  refine kSeq (kSeq (kReg ?_))
  refine kMovC rfl (kLen rfl rfl rfl (kMovC rfl (kLen rfl rfl rfl (kBin rfl rfl rfl (kDone ?_)))))
  refine kCond rfl (fun h => ?_) (fun h => ?_)
  · refine kSeq (kReg (kMovC rfl (kDone (kRet ?_))))
    refine endRet (ra := [.one (.d _)]) rfl ⟨⟨⟨rfl, .inl rfl⟩, trivial⟩, .nil, trivial, trivial, trivial⟩ ?_
    have : a ≠ b := by rintro rfl; simp at h
    simp [this]
  refine kSkip (kSeq (kSeq (kReg (kMovC rfl (kDone ?_)))))
  have hl : a.length = b.length := by simp [len_encB] at h; omega
  refine kBlock ?_
  refine kLoop (α := { i : Nat // i ≤ a.length ∧ a.take i = b.take i })
    (fun y => ⟨tabSl [(0, .dv (encB a)), (1, .dv (encB b)), (5, .i y.1)], (St.init [.one (.d (encB a)), .one (.d (encB b))]).ob, []⟩) (fun y => a.length - y.1) ⟨0, by simp⟩ (.tab rfl ⟨.refl _, .refl _, .refl _, trivial⟩) ?_
  rintro ⟨i, hi, he⟩
  refine kSeq (kSeq (kReg ?_))
  refine kMovC rfl (kMovC rfl (kLen rfl rfl rfl (kBin rfl rfl rfl (kDone ?_))))
  refine kCond rfl (fun h1 => ?_) (fun h1 => ?_)
  · have hlt : i < a.length := by simp [len_encB] at h1; omega
    refine kSkip (kSeq (kBlock (kSeq (kRegD ?_))))
    refine kMovC rfl (kMovC rfl (kIadD rfl rfl rfl rfl ?_ ?_))
    · simp [len_encB]; omega
    rw [show (encB a).row (i : Int).toNat = _ from row_encB a i hlt]
    refine kLoadD rfl rfl ?_
    refine kMovC rfl (kMovC rfl (kIadD rfl rfl rfl rfl ?_ ?_))
    · simp [len_encB]; omega
    rw [show (encB b).row (i : Int).toNat = _ from row_encB b i (by omega)]
    refine kLoadD rfl rfl ?_
    refine kBin rfl rfl rfl (kDone (kH ?_))
    refine kCond rfl (fun h2 => ?_) (fun h2 => ?_)
    · refine kSeq (kReg (kMovC rfl (kDone (kRet ?_))))
      refine endRet (ra := [.one (.d _)]) rfl ⟨⟨⟨rfl, .inl rfl⟩, trivial⟩, .nil, trivial, trivial, trivial⟩ ?_
      have : a ≠ b := by rintro rfl; simp at h2
      simp [this]
    · refine kSkip (kBk (kReg (kMovC rfl (kAdd rfl rfl ?_ (kMovC rfl (kDone (kInv ?_)))))))
      · simp only; omega
      · have h3 : a[i] = b[i] := by
          simp at h2
          exact UInt8.toNat_inj.1 (by omega)
        refine ⟨⟨i + 1, hlt, ?_⟩, ?_, .tab rfl ⟨.refl _, .refl _, .refl _, trivial⟩⟩
        · rw [List.take_add_one, List.take_add_one, he, List.getElem?_eq_getElem hlt, List.getElem?_eq_getElem (by omega), h3]
        · simp only; omega
  · refine kExit (kExC (kExI (kExB ?_)))
    have hge : i = a.length := by simp [len_encB] at h1; omega
    refine kSeq (kReg (kMovC rfl (kDone (kRet ?_))))
    refine endRet (ra := [.one (.d _)]) rfl ⟨⟨⟨rfl, .inl rfl⟩, trivial⟩, .nil, trivial, trivial, trivial⟩ ?_
    have : a = b := by
      rw [hge, List.take_length] at he
      rw [he, hl, List.take_length]
    simp [this]

def c_laws_eqByteSS : C := (.seq (.reg false (.op 0 [] (some 4) none false (.mov (.v (.bool false)))
  .done))
 (.seq (.seq (.reg false (.op 0 [] (some 6) none false (.mov (.t 0))
  (.op 1 [] (some 7) none false (.len (.t 6))
  (.op 2 [] (some 8) none false (.mov (.t 1))
  (.op 3 [] (some 9) none false (.len (.t 8))
  (.op 4 [] (some 10) none false (.bin .neq (.t 7) (.t 9))
  .done))))))
 (.cond (.t 10)
 (.seq (.reg false (.op 0 [] (some 4) none false (.mov (.v (.bool false)))
  .done))
 .ret)
 .skip))
 (.seq (.seq (.reg false (.op 0 [] (some 5) none false (.mov (.v (.int .i64 0)))
  .done))
 (.block 0 (.loop (.seq (.seq (.reg false (.op 0 [] (some 11) none false (.mov (.t 5))
  (.op 1 [] (some 12) none false (.mov (.t 0))
  (.op 2 [] (some 13) none false (.len (.t 12))
  (.op 3 [] (some 14) none false (.bin .lss (.t 11) (.t 13))
  .done)))))
 (.cond (.t 14)
 .skip
 (.exit 0)))
 (.seq (.block 1 (.seq (.reg true (.op 0 [] (some 17) none true (.mov (.t 0))
  (.op 1 [] (some 18) none true (.mov (.t 5))
  (.op 2 [] (some 19) none true (.iad 1 (.t 17) (.t 18))
  (.op 3 [] (some 20) none true (.load none (.t 19))
  (.op 4 [] (some 21) none true (.mov (.t 1))
  (.op 5 [] (some 22) none true (.mov (.t 5))
  (.op 6 [] (some 23) none true (.iad 1 (.t 21) (.t 22))
  (.op 7 [] (some 24) none true (.load none (.t 23))
  (.op 8 [3, 7] (some 25) none false (.call 25 94 [(.t 20), (.t 24)])
  (.op 9 [] (some 26) none true (.un .not (.t 25))
  .done)))))))))))
 (.cond (.t 26)
 (.seq (.reg false (.op 0 [] (some 4) none false (.mov (.v (.bool false)))
  .done))
 .ret)
 .skip)))
 (.reg false (.op 0 [] (some 15) none false (.mov (.t 5))
  (.op 1 [] (some 16) none false (.bin .add (.t 15) (.v (.int .i64 1)))
  (.op 2 [] (some 5) none false (.mov (.t 16))
  .done)))))))))
 (.seq (.reg false (.op 0 [] (some 4) none false (.mov (.v (.bool true)))
  .done))
 .ret))))
theorem dg_laws_eqByteSS : Tryz.f88.body.bind (digC Tryz.prog Tryz.f88.ntmps []) = some c_laws_eqByteSS := by kernel_rfl
theorem rs_laws_eqByteSS : resSlots Tryz.prog Tryz.f88 = some [.s 4] := by kernel_rfl
theorem ok_laws_eqByteSS (a b : List (List UInt8)) (ha : a.length ≤ 4194304) (ha2 : ∀ x ∈ a, x.length ≤ 4194304) :
    FnOK Tryz.prog 88 [.one (.d (encBB a)), .one (.d (encBB b))] (fun ra _ => ra = [.one (.d (.sc (.bool (decide (a = b)))))]) := by
  refine FnOK.ofK Tryz.func88 (by kernel_rfl) dg_laws_eqByteSS rs_laws_eqByteSS rfl rfl ?_
  unfold c_laws_eqByteSS
  refine kSeq (kReg (kMovC rfl (kDone (kSeq (kSeq (kReg (kMovC rfl (kLenR rfl rfl (kMovC rfl (kLenR rfl rfl (kBin rfl rfl rfl (kDone (kCondN rfl (fun g0 => kSeq (kReg (kMovC rfl (kDone (kRet (endRetA (ra := [.one (.d _)]) rfl ?_)))))) (fun g0 => kSkip (kSeq (kSeq (kReg (kMovC rfl (kDone (kBlock ?_))))))))))))))))))))
  · rw [decide_eq_false (by rintro rfl; simp_all)]
  have hab : a.length = b.length := by simp at *; omega
  refine kLoop (α := { i : Nat // i ≤ a.length ∧ a.take i = b.take i })
    (fun y => ⟨tabSl [(0, .dv (encBB a)), (1, .dv (encBB b)), (5, .i y.1)], obTab 1 [], []⟩) (fun y => a.length - y.1) ⟨0, by simp⟩
    .normA ?_
  rintro ⟨i, hi, he⟩
  simp only
  refine kSeq (kSeq (kReg (kMovC rfl (kMovC rfl (kLenR rfl rfl (kBin rfl rfl rfl (kDone (kCondP rfl (fun g0 => kSkip (kSeq (kBlock (kSeq (kRegD (kMovC rfl (kMovC rfl (kIadR rfl rfl rfl (by omega) (kLoadD rfl rfl (kMovC rfl (kMovC rfl (kIadR rfl rfl rfl (by omega) (kLoadD rfl rfl (kRelF rfl rfl (kCallD (ok_laws_eqByteS _ _ (by first | assumption | omega | solve_by_elim [List.getElem_mem])) ⟨rfl, rfl, trivial⟩ rfl rfl rfl rfl rfl (kUn rfl rfl (kDone (kH (kCondN rfl (fun g1 => kSeq (kReg (kMovC rfl (kDone (kRet (endRetA (ra := [.one (.d _)]) rfl ?_)))))) (fun g1 => kSkip (kBk (kReg (kMovC rfl (kAdd rfl rfl (by omega) (kMovC rfl (kDone ?_)))))))))))))))))))))))))) (fun g0 => kExit (kExC (kExI (kExB (kSeq (kReg (kMovC rfl (kDone (kRet (endRetA (ra := [.one (.d _)]) rfl ?_))))))))))))))))))
  · rw [decide_eq_false]
    rintro rfl
    simp_all
  · refine kInv ⟨⟨i + 1, by omega, ?_⟩, by simp only; omega, .normA⟩
    rw [← List.take_append_getElem (by omega), ← List.take_append_getElem (by omega), he]
    simp_all
  · have hge : i = a.length := by omega
    rw [hge, List.take_length, hab, List.take_length] at he
    rw [he, decide_eq_true rfl]

def c_laws_eqName : C := (.seq (.reg false (.op 0 [] (some 2) none false (.box 2 (.t 0))
  (.op 1 [] (some 3) none false (.box 3 (.t 1))
  (.op 2 [] (some 4) none false (.mov (.v (.bool false)))
  .done))))
 (.seq (.seq (.reg false (.op 0 [] (some 5) none false (.fad (.t 2) 0)
  (.op 1 [] (some 6) none false (.load none (.t 5))
  (.op 2 [] (some 7) none false (.fad (.t 3) 0)
  (.op 3 [] (some 8) none false (.load none (.t 7))
  (.op 4 [] (some 9) none false (.call 9 88 [(.t 6), (.t 8)])
  (.op 5 [] (some 10) none false (.un .not (.t 9))
  .done)))))))
 (.cond (.t 10)
 (.seq (.reg false (.op 0 [] (some 4) none false (.mov (.v (.bool false)))
  .done))
 .ret)
 .skip))
 (.seq (.reg false (.op 0 [] (some 4) none false (.mov (.v (.bool true)))
  .done))
 .ret)))
theorem dg_laws_eqName : Tryz.f33.body.bind (digC Tryz.prog Tryz.f33.ntmps []) = some c_laws_eqName := by kernel_rfl
theorem rs_laws_eqName : resSlots Tryz.prog Tryz.f33 = some [.s 4] := by kernel_rfl
theorem ok_laws_eqName (a b : List (List UInt8)) (ha : a.length ≤ 4194304) (ha2 : ∀ x ∈ a, x.length ≤ 4194304) :
    FnOK Tryz.prog 33 [.agg [.d (encBB a)], .agg [.d (encBB b)]] (fun ra _ => ra = [.one (.d (.sc (.bool (decide (a = b)))))]) := by
  refine FnOK.ofK Tryz.func33 (by kernel_rfl) dg_laws_eqName rs_laws_eqName rfl rfl ?_
  unfold c_laws_eqName
  refine kSeq (kReg (kBox rfl rfl rfl rfl rfl (kBox rfl rfl rfl rfl rfl (kMovC rfl (kDone (kSeq (kSeq (kReg (kFadP rfl rfl (kLoadP rfl rfl rfl (kFadP rfl rfl (kLoadP rfl rfl rfl (kCallD (ok_laws_eqByteSS _ _ (by first | assumption | omega | solve_by_elim [List.getElem_mem]) (by first | assumption | omega | solve_by_elim [List.getElem_mem])) ⟨rfl, rfl, trivial⟩ rfl rfl rfl rfl rfl (kUn rfl rfl (kDone (kCondN rfl (fun g0 => kSeq (kReg (kMovC rfl (kDone (kRet (endRetA (ra := [.one (.d _)]) rfl ?_)))))) (fun g0 => kSkip (kSeq (kReg (kMovC rfl (kDone (kRet (endRetA (ra := [.one (.d _)]) rfl ?_)))))))))))))))))))))))
  all_goals simp_all

def c_laws_eqQuestion : C := (.seq (.reg false (.op 0 [] (some 2) none false (.box 2 (.t 0))
  (.op 1 [] (some 3) none false (.box 3 (.t 1))
  (.op 2 [] (some 4) none false (.mov (.v (.bool false)))
  .done))))
 (.seq (.seq (.reg false (.op 0 [] (some 5) none false (.fad (.t 2) 0)
  (.op 1 [] (some 6) none false (.load (some 1) (.t 5))
  (.op 2 [] (some 7) none false (.fad (.t 3) 0)
  (.op 3 [] (some 8) none false (.load (some 1) (.t 7))
  (.op 4 [] (some 9) none false (.call 9 33 [(.t 6), (.t 8)])
  (.op 5 [] (some 10) none false (.un .not (.t 9))
  .done)))))))
 (.cond (.t 10)
 (.seq (.reg false (.op 0 [] (some 4) none false (.mov (.v (.bool false)))
  .done))
 .ret)
 .skip))
 (.seq (.seq (.reg false (.op 0 [] (some 11) none false (.fad (.t 2) 1)
  (.op 1 [] (some 12) none false (.load none (.t 11))
  (.op 2 [] (some 13) none false (.fad (.t 3) 1)
  (.op 3 [] (some 14) none false (.load none (.t 13))
  (.op 4 [] (some 15) none false (.bin .neq (.t 12) (.t 14))
  .done))))))
 (.cond (.t 15)
 (.seq (.reg false (.op 0 [] (some 4) none false (.mov (.v (.bool false)))
  .done))
 .ret)
 .skip))
 (.seq (.reg false (.op 0 [] (some 4) none false (.mov (.v (.bool true)))
  .done))
 .ret))))
theorem dg_laws_eqQuestion : Tryz.f74.body.bind (digC Tryz.prog Tryz.f74.ntmps []) = some c_laws_eqQuestion := by kernel_rfl
theorem rs_laws_eqQuestion : resSlots Tryz.prog Tryz.f74 = some [.s 4] := by kernel_rfl
theorem ok_laws_eqQuestion (a b : List (List UInt8)) (t u : Int) (ha : a.length ≤ 4194304) (ha2 : ∀ x ∈ a, x.length ≤ 4194304) :
    FnOK Tryz.prog 74 [.agg [.d (encBB a), .d (.sc (.int .i64 t))], .agg [.d (encBB b), .d (.sc (.int .i64 u))]] (fun ra _ => ra = [.one (.d (.sc (.bool (decide (a = b) && decide (t = u)))))]) := by
  refine FnOK.ofK Tryz.func74 (by kernel_rfl) dg_laws_eqQuestion rs_laws_eqQuestion rfl rfl ?_
  unfold c_laws_eqQuestion
  refine kSeq (kReg (kBox rfl rfl rfl rfl rfl (kBox rfl rfl rfl rfl rfl (kMovC rfl (kDone (kSeq (kSeq (kReg (kFadP rfl rfl (kLoadP rfl rfl rfl (kFadP rfl rfl (kLoadP rfl rfl rfl (kCallD (ok_laws_eqName _ _ (by first | assumption | omega | solve_by_elim [List.getElem_mem] | (simp only [szOut] at *; omega)) (by first | assumption | omega | solve_by_elim [List.getElem_mem] | (simp only [szOut] at *; omega))) ⟨⟨⟨rfl, trivial⟩, Nat.le_of_ble_eq_true rfl⟩, ⟨⟨rfl, trivial⟩, Nat.le_of_ble_eq_true rfl⟩, trivial⟩ rfl rfl rfl rfl rfl (kUn rfl rfl (kDone (kCondN rfl (fun g0 => kSeq (kReg (kMovC rfl (kDone (kRet (endRetA (ra := [.one (.d _)]) rfl ?_)))))) (fun g0 => kSkip (kSeq (kSeq (kReg (kFadP rfl rfl (kLoadP rfl rfl rfl (kFadP rfl rfl (kLoadP rfl rfl rfl (kBin rfl rfl rfl (kDone (kCondIN rfl (fun g1 => kSeq (kReg (kMovC rfl (kDone (kRet (endRetA (ra := [.one (.d _)]) rfl ?_)))))) (fun g1 => kSkip (kSeq (kReg (kMovC rfl (kDone (kRet (endRetA (ra := [.one (.d _)]) rfl ?_))))))))))))))))))))))))))))))))))
  all_goals simp_all

def c_laws_eqQuestionS : C := (.seq (.reg false (.op 0 [] (some 4) none false (.mov (.v (.bool false)))
  .done))
 (.seq (.seq (.reg false (.op 0 [] (some 6) none false (.mov (.t 0))
  (.op 1 [] (some 7) none false (.len (.t 6))
  (.op 2 [] (some 8) none false (.mov (.t 1))
  (.op 3 [] (some 9) none false (.len (.t 8))
  (.op 4 [] (some 10) none false (.bin .neq (.t 7) (.t 9))
  .done))))))
 (.cond (.t 10)
 (.seq (.reg false (.op 0 [] (some 4) none false (.mov (.v (.bool false)))
  .done))
 .ret)
 .skip))
 (.seq (.seq (.reg false (.op 0 [] (some 5) none false (.mov (.v (.int .i64 0)))
  .done))
 (.block 0 (.loop (.seq (.seq (.reg false (.op 0 [] (some 11) none false (.mov (.t 5))
  (.op 1 [] (some 12) none false (.mov (.t 0))
  (.op 2 [] (some 13) none false (.len (.t 12))
  (.op 3 [] (some 14) none false (.bin .lss (.t 11) (.t 13))
  .done)))))
 (.cond (.t 14)
 .skip
 (.exit 0)))
 (.seq (.block 1 (.seq (.reg true (.op 0 [] (some 17) none true (.mov (.t 0))
  (.op 1 [] (some 18) none true (.mov (.t 5))
  (.op 2 [] (some 19) none true (.iad 2 (.t 17) (.t 18))
  (.op 3 [] (some 20) none true (.load (some 2) (.t 19))
  (.op 4 [] (some 21) none true (.mov (.t 1))
  (.op 5 [] (some 22) none true (.mov (.t 5))
  (.op 6 [] (some 23) none true (.iad 2 (.t 21) (.t 22))
  (.op 7 [] (some 24) none true (.load (some 2) (.t 23))
  (.op 8 [3, 7] (some 25) none false (.call 25 74 [(.t 20), (.t 24)])
  (.op 9 [] (some 26) none true (.un .not (.t 25))
  .done)))))))))))
 (.cond (.t 26)
 (.seq (.reg false (.op 0 [] (some 4) none false (.mov (.v (.bool false)))
  .done))
 .ret)
 .skip)))
 (.reg false (.op 0 [] (some 15) none false (.mov (.t 5))
  (.op 1 [] (some 16) none false (.bin .add (.t 15) (.v (.int .i64 1)))
  (.op 2 [] (some 5) none false (.mov (.t 16))
  .done)))))))))
 (.seq (.reg false (.op 0 [] (some 4) none false (.mov (.v (.bool true)))
  .done))
 .ret))))
theorem dg_laws_eqQuestionS : Tryz.f100.body.bind (digC Tryz.prog Tryz.f100.ntmps []) = some c_laws_eqQuestionS := by kernel_rfl
theorem rs_laws_eqQuestionS : resSlots Tryz.prog Tryz.f100 = some [.s 4] := by kernel_rfl
theorem ok_laws_eqQuestionS (a b : List Qn) (hs : SmallQs a) :
    FnOK Tryz.prog 100 [.one (.d (encQ a)), .one (.d (encQ b))] (fun ra _ => ra = [.one (.d (.sc (.bool (decide (a = b)))))]) := by
  refine FnOK.ofK Tryz.func100 (by kernel_rfl) dg_laws_eqQuestionS rs_laws_eqQuestionS rfl rfl ?_
  unfold c_laws_eqQuestionS
  have ha := hs.len
  refine kSeq (kReg (kMovC rfl (kDone (kSeq (kSeq (kReg (kMovC rfl (kLenR rfl rfl (kMovC rfl (kLenR rfl rfl (kBin rfl rfl rfl (kDone (kCondIN rfl (fun g0 => kSeq (kReg (kMovC rfl (kDone (kRet (endRetA (ra := [.one (.d _)]) rfl ?_)))))) (fun g0 => kSkip (kSeq (kSeq (kReg (kMovC rfl (kDone (kBlock ?_))))))))))))))))))))
  · rw [decide_eq_false (by rintro rfl; simp_all)]
  have hab : a.length = b.length := by omega
  refine kLoop (α := { i : Nat // i ≤ a.length ∧ a.take i = b.take i })
    (fun y => ⟨tabSl [(0, .dv (encQ a)), (1, .dv (encQ b)), (5, .i y.1)], obTab 1 [], []⟩) (fun y => a.length - y.1) ⟨0, by simp⟩
    .normA ?_
  rintro ⟨i, hi, he⟩
  simp only
  rcases Nat.lt_or_ge i a.length with hlt | hge
  · have hbi := hs.mem _ (List.getElem_mem hlt)
    have n1 := hbi.len
    have n2 := hbi.mem
    have hq := Qn.eq_dec a[i] (b[i]'(by omega))
    refine kSeq (kSeq (kReg (kMovC rfl (kMovC rfl (kLenR rfl rfl (kBin rfl rfl rfl (kDone (kCondP rfl (fun g0 => kSkip (kSeq (kBlock (kSeq (kRegD (kMovC rfl (kMovC rfl (kIadR rfl rfl rfl (by omega) (kLoadD rfl rfl (kMovC rfl (kMovC rfl (kIadR rfl rfl rfl (by omega) (kLoadD rfl rfl (kRelF rfl rfl (kCallD (ok_laws_eqQuestion _ _ _ _ (by first | assumption | omega | solve_by_elim [List.getElem_mem] | (simp only [szOut] at *; omega)) (by first | assumption | omega | solve_by_elim [List.getElem_mem] | (simp only [szOut] at *; omega))) ⟨⟨⟨rfl, rfl, trivial⟩, Nat.le_of_ble_eq_true rfl⟩, ⟨⟨rfl, rfl, trivial⟩, Nat.le_of_ble_eq_true rfl⟩, trivial⟩ rfl rfl rfl rfl rfl (kUn rfl rfl (kDone (kH (kCondN rfl (fun g1 => kSeq (kReg (kMovC rfl (kDone (kRet (endRetA (ra := [.one (.d _)]) rfl ?_)))))) (fun g1 => kSkip (kBk (kReg (kMovC rfl (kAdd rfl rfl (by omega) (kMovC rfl (kDone ?_)))))))))))))))))))))))))) (fun g0 => (by omega))))))))))
    · rw [decide_eq_false]
      rintro rfl
      simp_all
    · refine kInv ⟨⟨i + 1, by omega, ?_⟩, by simp only; omega, .normA⟩
      rw [← List.take_append_getElem (by omega), ← List.take_append_getElem (by omega), he]
      simp_all
  · refine kSeq (kSeq (kReg (kMovC rfl (kMovC rfl (kLenR rfl rfl (kBin rfl rfl rfl (kDone (kCondP rfl (fun g0 => (by omega)) (fun g0 => kExit (kExC (kExI (kExB (kSeq (kReg (kMovC rfl (kDone (kRet (endRetA (ra := [.one (.d _)]) rfl ?_))))))))))))))))))
    have hge : i = a.length := by omega
    rw [hge, List.take_length, hab, List.take_length] at he
    rw [he, decide_eq_true rfl]

def c_laws_eqIntS : C := (.seq (.reg false (.op 0 [] (some 4) none false (.mov (.v (.bool false)))
  .done))
 (.seq (.seq (.reg false (.op 0 [] (some 6) none false (.mov (.t 0))
  (.op 1 [] (some 7) none false (.len (.t 6))
  (.op 2 [] (some 8) none false (.mov (.t 1))
  (.op 3 [] (some 9) none false (.len (.t 8))
  (.op 4 [] (some 10) none false (.bin .neq (.t 7) (.t 9))
  .done))))))
 (.cond (.t 10)
 (.seq (.reg false (.op 0 [] (some 4) none false (.mov (.v (.bool false)))
  .done))
 .ret)
 .skip))
 (.seq (.seq (.reg false (.op 0 [] (some 5) none false (.mov (.v (.int .i64 0)))
  .done))
 (.block 0 (.loop (.seq (.seq (.reg false (.op 0 [] (some 11) none false (.mov (.t 5))
  (.op 1 [] (some 12) none false (.mov (.t 0))
  (.op 2 [] (some 13) none false (.len (.t 12))
  (.op 3 [] (some 14) none false (.bin .lss (.t 11) (.t 13))
  .done)))))
 (.cond (.t 14)
 .skip
 (.exit 0)))
 (.seq (.block 1 (.seq (.reg true (.op 0 [] (some 17) none true (.mov (.t 0))
  (.op 1 [] (some 18) none true (.mov (.t 5))
  (.op 2 [] (some 19) none true (.iad 1 (.t 17) (.t 18))
  (.op 3 [] (some 20) none true (.load none (.t 19))
  (.op 4 [] (some 21) none true (.mov (.t 1))
  (.op 5 [] (some 22) none true (.mov (.t 5))
  (.op 6 [] (some 23) none true (.iad 1 (.t 21) (.t 22))
  (.op 7 [] (some 24) none true (.load none (.t 23))
  (.op 8 [] (some 25) none true (.bin .neq (.t 20) (.t 24))
  .done))))))))))
 (.cond (.t 25)
 (.seq (.reg false (.op 0 [] (some 4) none false (.mov (.v (.bool false)))
  .done))
 .ret)
 .skip)))
 (.reg false (.op 0 [] (some 15) none false (.mov (.t 5))
  (.op 1 [] (some 16) none false (.bin .add (.t 15) (.v (.int .i64 1)))
  (.op 2 [] (some 5) none false (.mov (.t 16))
  .done)))))))))
 (.seq (.reg false (.op 0 [] (some 4) none false (.mov (.v (.bool true)))
  .done))
 .ret))))
theorem dg_laws_eqIntS : Tryz.f75.body.bind (digC Tryz.prog Tryz.f75.ntmps []) = some c_laws_eqIntS := by kernel_rfl
theorem rs_laws_eqIntS : resSlots Tryz.prog Tryz.f75 = some [.s 4] := by kernel_rfl
theorem ok_laws_eqIntS (a b : List Int) (ha : a.length ≤ 4194304) :
    FnOK Tryz.prog 75 [.one (.d (encI a)), .one (.d (encI b))] (fun ra _ => ra = [.one (.d (.sc (.bool (decide (a = b)))))]) := by
  refine FnOK.ofK Tryz.func75 (by kernel_rfl) dg_laws_eqIntS rs_laws_eqIntS rfl rfl ?_
  unfold c_laws_eqIntS
  refine kSeq (kReg (kMovC rfl (kDone (kSeq (kSeq (kReg (kMovC rfl (kLenR rfl rfl (kMovC rfl (kLenR rfl rfl (kBin rfl rfl rfl (kDone (kCondIN rfl (fun g0 => kSeq (kReg (kMovC rfl (kDone (kRet (endRetA (ra := [.one (.d _)]) rfl ?_)))))) (fun g0 => kSkip (kSeq (kSeq (kReg (kMovC rfl (kDone (kBlock ?_))))))))))))))))))))
  · rw [decide_eq_false (by rintro rfl; simp_all)]
  have hab : a.length = b.length := by omega
  refine kLoop (α := { i : Nat // i ≤ a.length ∧ a.take i = b.take i })
    (fun y => ⟨tabSl [(0, .dv (encI a)), (1, .dv (encI b)), (5, .i y.1)], obTab 1 [], []⟩) (fun y => a.length - y.1) ⟨0, by simp⟩
    .normA ?_
  rintro ⟨i, hi, he⟩
  simp only
  refine kSeq (kSeq (kReg (kMovC rfl (kMovC rfl (kLenR rfl rfl (kBin rfl rfl rfl (kDone (kCondP rfl (fun g0 => kSkip (kSeq (kBlock (kSeq (kRegD (kMovC rfl (kMovC rfl (kIadR rfl rfl rfl (by omega) (kLoadD rfl rfl (kMovC rfl (kMovC rfl (kIadR rfl rfl rfl (by omega) (kLoadD rfl rfl (kBin rfl rfl rfl (kDone (kH (kCondIN rfl (fun g1 => kSeq (kReg (kMovC rfl (kDone (kRet (endRetA (ra := [.one (.d _)]) rfl ?_)))))) (fun g1 => kSkip (kBk (kReg (kMovC rfl (kAdd rfl rfl (by omega) (kMovC rfl (kDone ?_)))))))))))))))))))))))) (fun g0 => kExit (kExC (kExI (kExB (kSeq (kReg (kMovC rfl (kDone (kRet (endRetA (ra := [.one (.d _)]) rfl ?_))))))))))))))))))
  · rw [decide_eq_false]
    rintro rfl
    simp_all
  · refine kInv ⟨⟨i + 1, by omega, ?_⟩, by simp only; omega, .normA⟩
    rw [← List.take_append_getElem (by omega), ← List.take_append_getElem (by omega), he]
    simp_all
  · have hge : i = a.length := by omega
    rw [hge, List.take_length, hab, List.take_length] at he
    rw [he, decide_eq_true rfl]

def c_laws_eqRr : C := (.seq (.reg false (.op 0 [] (some 2) none false (.box 2 (.t 0))
  (.op 1 [] (some 3) none false (.box 3 (.t 1))
  (.op 2 [] (some 4) none false (.mov (.v (.bool false)))
  .done))))
 (.seq (.seq (.reg false (.op 0 [] (some 5) none false (.fad (.t 2) 0)
  (.op 1 [] (some 6) none false (.load (some 1) (.t 5))
  (.op 2 [] (some 7) none false (.fad (.t 3) 0)
  (.op 3 [] (some 8) none false (.load (some 1) (.t 7))
  (.op 4 [] (some 9) none false (.call 9 33 [(.t 6), (.t 8)])
  (.op 5 [] (some 10) none false (.un .not (.t 9))
  .done)))))))
 (.cond (.t 10)
 (.seq (.reg false (.op 0 [] (some 4) none false (.mov (.v (.bool false)))
  .done))
 .ret)
 .skip))
 (.seq (.seq (.reg false (.op 0 [] (some 11) none false (.fad (.t 2) 1)
  (.op 1 [] (some 12) none false (.load none (.t 11))
  (.op 2 [] (some 13) none false (.fad (.t 3) 1)
  (.op 3 [] (some 14) none false (.load none (.t 13))
  (.op 4 [] (some 15) none false (.bin .neq (.t 12) (.t 14))
  .done))))))
 (.cond (.t 15)
 (.seq (.reg false (.op 0 [] (some 4) none false (.mov (.v (.bool false)))
  .done))
 .ret)
 .skip))
 (.seq (.seq (.reg false (.op 0 [] (some 16) none false (.fad (.t 2) 2)
  (.op 1 [] (some 17) none false (.load none (.t 16))
  (.op 2 [] (some 18) none false (.fad (.t 3) 2)
  (.op 3 [] (some 19) none false (.load none (.t 18))
  (.op 4 [] (some 20) none false (.bin .neq (.t 17) (.t 19))
  .done))))))
 (.cond (.t 20)
 (.seq (.reg false (.op 0 [] (some 4) none false (.mov (.v (.bool false)))
  .done))
 .ret)
 .skip))
 (.seq (.seq (.reg false (.op 0 [] (some 21) none false (.fad (.t 2) 3)
  (.op 1 [] (some 22) none false (.load none (.t 21))
  (.op 2 [] (some 23) none false (.fad (.t 3) 3)
  (.op 3 [] (some 24) none false (.load none (.t 23))
  (.op 4 [] (some 25) none false (.bin .neq (.t 22) (.t 24))
  .done))))))
 (.cond (.t 25)
 (.seq (.reg false (.op 0 [] (some 4) none false (.mov (.v (.bool false)))
  .done))
 .ret)
 .skip))
 (.seq (.seq (.reg false (.op 0 [] (some 26) none false (.fad (.t 2) 4)
  (.op 1 [] (some 27) none false (.load (some 1) (.t 26))
  (.op 2 [] (some 28) none false (.fad (.t 3) 4)
  (.op 3 [] (some 29) none false (.load (some 1) (.t 28))
  (.op 4 [] (some 30) none false (.call 30 33 [(.t 27), (.t 29)])
  (.op 5 [] (some 31) none false (.un .not (.t 30))
  .done)))))))
 (.cond (.t 31)
 (.seq (.reg false (.op 0 [] (some 4) none false (.mov (.v (.bool false)))
  .done))
 .ret)
 .skip))
 (.seq (.seq (.reg false (.op 0 [] (some 32) none false (.fad (.t 2) 5)
  (.op 1 [] (some 33) none false (.load none (.t 32))
  (.op 2 [] (some 34) none false (.fad (.t 3) 5)
  (.op 3 [] (some 35) none false (.load none (.t 34))
  (.op 4 [] (some 36) none false (.call 36 94 [(.t 33), (.t 35)])
  (.op 5 [] (some 37) none false (.un .not (.t 36))
  .done)))))))
 (.cond (.t 37)
 (.seq (.reg false (.op 0 [] (some 4) none false (.mov (.v (.bool false)))
  .done))
 .ret)
 .skip))
 (.seq (.seq (.reg false (.op 0 [] (some 38) none false (.fad (.t 2) 6)
  (.op 1 [] (some 39) none false (.load none (.t 38))
  (.op 2 [] (some 40) none false (.fad (.t 3) 6)
  (.op 3 [] (some 41) none false (.load none (.t 40))
  (.op 4 [] (some 42) none false (.call 42 75 [(.t 39), (.t 41)])
  (.op 5 [] (some 43) none false (.un .not (.t 42))
  .done)))))))
 (.cond (.t 43)
 (.seq (.reg false (.op 0 [] (some 4) none false (.mov (.v (.bool false)))
  .done))
 .ret)
 .skip))
 (.seq (.reg false (.op 0 [] (some 4) none false (.mov (.v (.bool true)))
  .done))
 .ret)))))))))
theorem dg_laws_eqRr : Tryz.f39.body.bind (digC Tryz.prog Tryz.f39.ntmps []) = some c_laws_eqRr := by kernel_rfl
theorem rs_laws_eqRr : resSlots Tryz.prog Tryz.f39 = some [.s 4] := by kernel_rfl
theorem ok_laws_eqRr (a b : Rr) (hs : SmallR a) :
    FnOK Tryz.prog 39 [.agg (a.cells.map .d), .agg (b.cells.map .d)] (fun ra _ => ra = [.one (.d (.sc (.bool (decide (a = b)))))]) := by
  refine FnOK.ofK Tryz.func39 (by kernel_rfl) dg_laws_eqRr rs_laws_eqRr rfl rfl ?_
  unfold c_laws_eqRr
  have n1 := hs.n.len
  have n2 := hs.n.mem
  have t1 := hs.t.len
  have t2 := hs.t.mem
  have x1 := hs.x
  have m1 := hs.m
  refine kSeq (kReg (kBox rfl rfl rfl rfl rfl (kBox rfl rfl rfl rfl rfl (kMovC rfl (kDone (kSeq (kSeq (kReg (kFadP rfl rfl (kLoadP rfl rfl rfl (kFadP rfl rfl (kLoadP rfl rfl rfl (kCallD (ok_laws_eqName _ _ (by first | assumption | omega | solve_by_elim [List.getElem_mem] | (simp only [szOut] at *; omega)) (by first | assumption | omega | solve_by_elim [List.getElem_mem] | (simp only [szOut] at *; omega))) ⟨⟨⟨rfl, trivial⟩, Nat.le_of_ble_eq_true rfl⟩, ⟨⟨rfl, trivial⟩, Nat.le_of_ble_eq_true rfl⟩, trivial⟩ rfl rfl rfl rfl rfl (kUn rfl rfl (kDone (kCondN rfl (fun g0 => kSeq (kReg (kMovC rfl (kDone (kRet (endRetA (ra := [.one (.d _)]) rfl ?_)))))) (fun g0 => kSkip (kSeq (kSeq (kReg (kFadP rfl rfl (kLoadP rfl rfl rfl (kFadP rfl rfl (kLoadP rfl rfl rfl (kBin rfl rfl rfl (kDone (kCondIN rfl (fun g1 => kSeq (kReg (kMovC rfl (kDone (kRet (endRetA (ra := [.one (.d _)]) rfl ?_)))))) (fun g1 => kSkip (kSeq (kSeq (kReg (kFadP rfl rfl (kLoadP rfl rfl rfl (kFadP rfl rfl (kLoadP rfl rfl rfl (kBin rfl rfl rfl (kDone (kCondIN rfl (fun g2 => kSeq (kReg (kMovC rfl (kDone (kRet (endRetA (ra := [.one (.d _)]) rfl ?_)))))) (fun g2 => kSkip (kSeq (kSeq (kReg (kFadP rfl rfl (kLoadP rfl rfl rfl (kFadP rfl rfl (kLoadP rfl rfl rfl (kBin rfl rfl rfl (kDone (kCondIN rfl (fun g3 => kSeq (kReg (kMovC rfl (kDone (kRet (endRetA (ra := [.one (.d _)]) rfl ?_)))))) (fun g3 => kSkip (kSeq (kSeq (kReg (kFadP rfl rfl (kLoadP rfl rfl rfl (kFadP rfl rfl (kLoadP rfl rfl rfl (kCallD (ok_laws_eqName _ _ (by first | assumption | omega | solve_by_elim [List.getElem_mem] | (simp only [szOut] at *; omega)) (by first | assumption | omega | solve_by_elim [List.getElem_mem] | (simp only [szOut] at *; omega))) ⟨⟨⟨rfl, trivial⟩, Nat.le_of_ble_eq_true rfl⟩, ⟨⟨rfl, trivial⟩, Nat.le_of_ble_eq_true rfl⟩, trivial⟩ rfl rfl rfl rfl rfl (kUn rfl rfl (kDone (kCondN rfl (fun g4 => kSeq (kReg (kMovC rfl (kDone (kRet (endRetA (ra := [.one (.d _)]) rfl ?_)))))) (fun g4 => kSkip (kSeq (kSeq (kReg (kFadP rfl rfl (kLoadP rfl rfl rfl (kFadP rfl rfl (kLoadP rfl rfl rfl (kCallD (ok_laws_eqByteS _ _ (by first | assumption | omega | solve_by_elim [List.getElem_mem] | (simp only [szOut] at *; omega))) ⟨rfl, rfl, trivial⟩ rfl rfl rfl rfl rfl (kUn rfl rfl (kDone (kCondN rfl (fun g5 => kSeq (kReg (kMovC rfl (kDone (kRet (endRetA (ra := [.one (.d _)]) rfl ?_)))))) (fun g5 => kSkip (kSeq (kSeq (kReg (kFadP rfl rfl (kLoadP rfl rfl rfl (kFadP rfl rfl (kLoadP rfl rfl rfl (kCallD (ok_laws_eqIntS _ _ (by first | assumption | omega | solve_by_elim [List.getElem_mem] | (simp only [szOut] at *; omega))) ⟨rfl, rfl, trivial⟩ rfl rfl rfl rfl rfl (kUn rfl rfl (kDone (kCondN rfl (fun g6 => kSeq (kReg (kMovC rfl (kDone (kRet (endRetA (ra := [.one (.d _)]) rfl ?_)))))) (fun g6 => kSkip (kSeq (kReg (kMovC rfl (kDone (kRet (endRetA (ra := [.one (.d _)]) rfl ?_))))))))))))))))))))))))))))))))))))))))))))))))))))))))))))))))))))))))))))))))))))))))))))
  all_goals (refine congrArg (fun z : Bool => [RA.one (RV.d (DV.sc (Value.bool z)))]) ?_; clear n1 n2 t1 t2 x1 m1 hs; cases a; cases b; simp_all)

def c_laws_eqRrS : C := (.seq (.reg false (.op 0 [] (some 4) none false (.mov (.v (.bool false)))
  .done))
 (.seq (.seq (.reg false (.op 0 [] (some 6) none false (.mov (.t 0))
  (.op 1 [] (some 7) none false (.len (.t 6))
  (.op 2 [] (some 8) none false (.mov (.t 1))
  (.op 3 [] (some 9) none false (.len (.t 8))
  (.op 4 [] (some 10) none false (.bin .neq (.t 7) (.t 9))
  .done))))))
 (.cond (.t 10)
 (.seq (.reg false (.op 0 [] (some 4) none false (.mov (.v (.bool false)))
  .done))
 .ret)
 .skip))
 (.seq (.seq (.reg false (.op 0 [] (some 5) none false (.mov (.v (.int .i64 0)))
  .done))
 (.block 0 (.loop (.seq (.seq (.reg false (.op 0 [] (some 11) none false (.mov (.t 5))
  (.op 1 [] (some 12) none false (.mov (.t 0))
  (.op 2 [] (some 13) none false (.len (.t 12))
  (.op 3 [] (some 14) none false (.bin .lss (.t 11) (.t 13))
  .done)))))
 (.cond (.t 14)
 .skip
 (.exit 0)))
 (.seq (.block 1 (.seq (.reg true (.op 0 [] (some 17) none true (.mov (.t 0))
  (.op 1 [] (some 18) none true (.mov (.t 5))
  (.op 2 [] (some 19) none true (.iad 7 (.t 17) (.t 18))
  (.op 3 [] (some 20) none true (.load (some 7) (.t 19))
  (.op 4 [] (some 21) none true (.mov (.t 1))
  (.op 5 [] (some 22) none true (.mov (.t 5))
  (.op 6 [] (some 23) none true (.iad 7 (.t 21) (.t 22))
  (.op 7 [] (some 24) none true (.load (some 7) (.t 23))
  (.op 8 [3, 7] (some 25) none false (.call 25 39 [(.t 20), (.t 24)])
  (.op 9 [] (some 26) none true (.un .not (.t 25))
  .done)))))))))))
 (.cond (.t 26)
 (.seq (.reg false (.op 0 [] (some 4) none false (.mov (.v (.bool false)))
  .done))
 .ret)
 .skip)))
 (.reg false (.op 0 [] (some 15) none false (.mov (.t 5))
  (.op 1 [] (some 16) none false (.bin .add (.t 15) (.v (.int .i64 1)))
  (.op 2 [] (some 5) none false (.mov (.t 16))
  .done)))))))))
 (.seq (.reg false (.op 0 [] (some 4) none false (.mov (.v (.bool true)))
  .done))
 .ret))))
theorem dg_laws_eqRrS : Tryz.f14.body.bind (digC Tryz.prog Tryz.f14.ntmps []) = some c_laws_eqRrS := by kernel_rfl
theorem rs_laws_eqRrS : resSlots Tryz.prog Tryz.f14 = some [.s 4] := by kernel_rfl
theorem ok_laws_eqRrS (a b : List Rr) (hs : SmallRs a) :
    FnOK Tryz.prog 14 [.one (.d (encR a)), .one (.d (encR b))] (fun ra _ => ra = [.one (.d (.sc (.bool (decide (a = b)))))]) := by
  refine FnOK.ofK Tryz.func14 (by kernel_rfl) dg_laws_eqRrS rs_laws_eqRrS rfl rfl ?_
  unfold c_laws_eqRrS
  have ha := hs.len
  refine kSeq (kReg (kMovC rfl (kDone (kSeq (kSeq (kReg (kMovC rfl (kLenR rfl rfl (kMovC rfl (kLenR rfl rfl (kBin rfl rfl rfl (kDone (kCondIN rfl (fun g0 => kSeq (kReg (kMovC rfl (kDone (kRet (endRetA (ra := [.one (.d _)]) rfl ?_)))))) (fun g0 => kSkip (kSeq (kSeq (kReg (kMovC rfl (kDone (kBlock ?_))))))))))))))))))))
  · rw [decide_eq_false (by rintro rfl; simp_all)]
  have hab : a.length = b.length := by omega
  refine kLoop (α := { i : Nat // i ≤ a.length ∧ a.take i = b.take i })
    (fun y => ⟨tabSl [(0, .dv (encR a)), (1, .dv (encR b)), (5, .i y.1)], obTab 1 [], []⟩) (fun y => a.length - y.1) ⟨0, by simp⟩
    .normA ?_
  rintro ⟨i, hi, he⟩
  simp only
  rcases Nat.lt_or_ge i a.length with hlt | hge
  · have hbi := hs.mem _ (List.getElem_mem hlt)
    refine kSeq (kSeq (kReg (kMovC rfl (kMovC rfl (kLenR rfl rfl (kBin rfl rfl rfl (kDone (kCondP rfl (fun g0 => kSkip (kSeq (kBlock (kSeq (kRegD (kMovC rfl (kMovC rfl (kIadR rfl rfl rfl (by omega) (kLoadD rfl rfl (kMovC rfl (kMovC rfl (kIadR rfl rfl rfl (by omega) (kLoadD rfl rfl (kRelF rfl rfl (kCallD (ok_laws_eqRr _ _ (by first | assumption | omega | solve_by_elim [List.getElem_mem] | (simp only [szOut] at *; omega))) ⟨⟨⟨rfl, rfl, rfl, rfl, rfl, rfl, rfl, trivial⟩, Nat.le_of_ble_eq_true rfl⟩, ⟨⟨rfl, rfl, rfl, rfl, rfl, rfl, rfl, trivial⟩, Nat.le_of_ble_eq_true rfl⟩, trivial⟩ rfl rfl rfl rfl rfl (kUn rfl rfl (kDone (kH (kCondN rfl (fun g1 => kSeq (kReg (kMovC rfl (kDone (kRet (endRetA (ra := [.one (.d _)]) rfl ?_)))))) (fun g1 => kSkip (kBk (kReg (kMovC rfl (kAdd rfl rfl (by omega) (kMovC rfl (kDone ?_)))))))))))))))))))))))))) (fun g0 => (by omega))))))))))
    · rw [decide_eq_false]
      rintro rfl
      simp_all
    · refine kInv ⟨⟨i + 1, by omega, ?_⟩, by simp only; omega, .normA⟩
      rw [← List.take_append_getElem (by omega), ← List.take_append_getElem (by omega), he]
      simp_all
  · refine kSeq (kSeq (kReg (kMovC rfl (kMovC rfl (kLenR rfl rfl (kBin rfl rfl rfl (kDone (kCondP rfl (fun g0 => (by omega)) (fun g0 => kExit (kExC (kExI (kExB (kSeq (kReg (kMovC rfl (kDone (kRet (endRetA (ra := [.one (.d _)]) rfl ?_))))))))))))))))))
    have hge : i = a.length := by omega
    rw [hge, List.take_length, hab, List.take_length] at he
    rw [he, decide_eq_true rfl]

def c_laws_eqWantS : C := (.seq (.reg false (.op 0 [] (some 4) none false (.mov (.v (.bool false)))
  .done))
 (.seq (.seq (.reg false (.op 0 [] (some 6) none false (.mov (.t 0))
  (.op 1 [] (some 7) none false (.len (.t 6))
  (.op 2 [] (some 8) none false (.mov (.t 1))
  (.op 3 [] (some 9) none false (.len (.t 8))
  (.op 4 [] (some 10) none false (.bin .neq (.t 7) (.t 9))
  .done))))))
 (.cond (.t 10)
 (.seq (.reg false (.op 0 [] (some 4) none false (.mov (.v (.bool false)))
  .done))
 .ret)
 .skip))
 (.seq (.seq (.reg false (.op 0 [] (some 5) none false (.mov (.v (.int .i64 0)))
  .done))
 (.block 0 (.loop (.seq (.seq (.reg false (.op 0 [] (some 11) none false (.mov (.t 5))
  (.op 1 [] (some 12) none false (.mov (.t 0))
  (.op 2 [] (some 13) none false (.len (.t 12))
  (.op 3 [] (some 14) none false (.bin .lss (.t 11) (.t 13))
  .done)))))
 (.cond (.t 14)
 .skip
 (.exit 0)))
 (.seq (.block 1 (.seq (.reg true (.op 0 [] (some 17) none true (.mov (.t 0))
  (.op 1 [] (some 18) none true (.mov (.t 5))
  (.op 2 [] (some 19) none true (.iad 9 (.t 17) (.t 18))
  (.op 3 [] (some 20) none true (.load (some 9) (.t 19))
  (.op 4 [] (some 21) none true (.mov (.t 1))
  (.op 5 [] (some 22) none true (.mov (.t 5))
  (.op 6 [] (some 23) none true (.iad 9 (.t 21) (.t 22))
  (.op 7 [] (some 24) none true (.load (some 9) (.t 23))
  (.op 8 [3, 7] (some 25) none false (.call 25 152 [(.t 20), (.t 24)])
  (.op 9 [] (some 26) none true (.un .not (.t 25))
  .done)))))))))))
 (.cond (.t 26)
 (.seq (.reg false (.op 0 [] (some 4) none false (.mov (.v (.bool false)))
  .done))
 .ret)
 .skip)))
 (.reg false (.op 0 [] (some 15) none false (.mov (.t 5))
  (.op 1 [] (some 16) none false (.bin .add (.t 15) (.v (.int .i64 1)))
  (.op 2 [] (some 5) none false (.mov (.t 16))
  .done)))))))))
 (.seq (.reg false (.op 0 [] (some 4) none false (.mov (.v (.bool true)))
  .done))
 .ret))))
theorem dg_laws_eqWantS : Tryz.f101.body.bind (digC Tryz.prog Tryz.f101.ntmps []) = some c_laws_eqWantS := by kernel_rfl
theorem rs_laws_eqWantS : resSlots Tryz.prog Tryz.f101 = some [.s 4] := by kernel_rfl
theorem ok_laws_eqWantS :
    FnOK Tryz.prog 101 [.one (.d nilW), .one (.d nilW)] (fun ra _ => ra = [.one (.d (.sc (.bool true)))]) := by
  refine FnOK.ofK Tryz.func101 (by kernel_rfl) dg_laws_eqWantS rs_laws_eqWantS rfl rfl ?_
  unfold c_laws_eqWantS
  unfold nilW
  refine kSeq (kReg (kMovC rfl (kDone (kSeq (kSeq (kReg (kMovC rfl (kLen0 rfl (kMovC rfl (kLen0 rfl (kBin rfl rfl rfl (kDone (kCondF rfl (kSkip (kSeq (kSeq (kReg (kMovC rfl (kDone (kBlock ?_))))))))))))))))))))
  refine kLoop (α := Unit) (fun _ => ⟨tabSl [(0, .dv (.sl 9 [])), (1, .dv (.sl 9 [])), (5, .i 0)], obTab 1 [], []⟩) (fun _ => 0) () .normA ?_
  rintro ⟨⟩
  refine kSeq (kSeq (kReg (kMovC rfl (kMovC rfl (kLen0 rfl (kBin rfl rfl rfl (kDone (kCondF rfl (kExit (kExC (kExI (kExB (kSeq (kReg (kMovC rfl (kDone (kRet (endRetA (ra := [.one (.d _)]) rfl rfl))))))))))))))))))

def c_laws_eqMsg : C := (.seq (.reg false (.op 0 [] (some 2) none false (.box 2 (.t 0))
  (.op 1 [] (some 3) none false (.box 3 (.t 1))
  (.op 2 [] (some 4) none false (.mov (.v (.bool false)))
  .done))))
 (.seq (.seq (.reg false (.op 0 [] (some 5) none false (.fad (.t 2) 0)
  (.op 1 [] (some 6) none false (.load none (.t 5))
  (.op 2 [] (some 7) none false (.fad (.t 3) 0)
  (.op 3 [] (some 8) none false (.load none (.t 7))
  (.op 4 [] (some 9) none false (.bin .neq (.t 6) (.t 8))
  .done))))))
 (.cond (.t 9)
 (.seq (.reg false (.op 0 [] (some 4) none false (.mov (.v (.bool false)))
  .done))
 .ret)
 .skip))
 (.seq (.seq (.reg false (.op 0 [] (some 10) none false (.fad (.t 2) 1)
  (.op 1 [] (some 11) none false (.load none (.t 10))
  (.op 2 [] (some 12) none false (.fad (.t 3) 1)
  (.op 3 [] (some 13) none false (.load none (.t 12))
  (.op 4 [] (some 14) none false (.beq true (.t 11) (.t 13))
  .done))))))
 (.cond (.t 14)
 (.seq (.reg false (.op 0 [] (some 4) none false (.mov (.v (.bool false)))
  .done))
 .ret)
 .skip))
 (.seq (.seq (.reg false (.op 0 [] (some 15) none false (.fad (.t 2) 2)
  (.op 1 [] (some 16) none false (.load none (.t 15))
  (.op 2 [] (some 17) none false (.fad (.t 3) 2)
  (.op 3 [] (some 18) none false (.load none (.t 17))
  (.op 4 [] (some 19) none false (.bin .neq (.t 16) (.t 18))
  .done))))))
 (.cond (.t 19)
 (.seq (.reg false (.op 0 [] (some 4) none false (.mov (.v (.bool false)))
  .done))
 .ret)
 .skip))
 (.seq (.seq (.reg false (.op 0 [] (some 20) none false (.fad (.t 2) 3)
  (.op 1 [] (some 21) none false (.load none (.t 20))
  (.op 2 [] (some 22) none false (.fad (.t 3) 3)
  (.op 3 [] (some 23) none false (.load none (.t 22))
  (.op 4 [] (some 24) none false (.beq true (.t 21) (.t 23))
  .done))))))
 (.cond (.t 24)
 (.seq (.reg false (.op 0 [] (some 4) none false (.mov (.v (.bool false)))
  .done))
 .ret)
 .skip))
 (.seq (.seq (.reg false (.op 0 [] (some 25) none false (.fad (.t 2) 4)
  (.op 1 [] (some 26) none false (.load none (.t 25))
  (.op 2 [] (some 27) none false (.fad (.t 3) 4)
  (.op 3 [] (some 28) none false (.load none (.t 27))
  (.op 4 [] (some 29) none false (.bin .neq (.t 26) (.t 28))
  .done))))))
 (.cond (.t 29)
 (.seq (.reg false (.op 0 [] (some 4) none false (.mov (.v (.bool false)))
  .done))
 .ret)
 .skip))
 (.seq (.seq (.reg false (.op 0 [] (some 30) none false (.fad (.t 2) 5)
  (.op 1 [] (some 31) none false (.load none (.t 30))
  (.op 2 [] (some 32) none false (.fad (.t 3) 5)
  (.op 3 [] (some 33) none false (.load none (.t 32))
  (.op 4 [] (some 34) none false (.call 34 100 [(.t 31), (.t 33)])
  (.op 5 [] (some 35) none false (.un .not (.t 34))
  .done)))))))
 (.cond (.t 35)
 (.seq (.reg false (.op 0 [] (some 4) none false (.mov (.v (.bool false)))
  .done))
 .ret)
 .skip))
 (.seq (.seq (.reg false (.op 0 [] (some 36) none false (.fad (.t 2) 6)
  (.op 1 [] (some 37) none false (.load none (.t 36))
  (.op 2 [] (some 38) none false (.fad (.t 3) 6)
  (.op 3 [] (some 39) none false (.load none (.t 38))
  (.op 4 [] (some 40) none false (.call 40 14 [(.t 37), (.t 39)])
  (.op 5 [] (some 41) none false (.un .not (.t 40))
  .done)))))))
 (.cond (.t 41)
 (.seq (.reg false (.op 0 [] (some 4) none false (.mov (.v (.bool false)))
  .done))
 .ret)
 .skip))
 (.seq (.seq (.reg false (.op 0 [] (some 42) none false (.fad (.t 2) 7)
  (.op 1 [] (some 43) none false (.load none (.t 42))
  (.op 2 [] (some 44) none false (.fad (.t 3) 7)
  (.op 3 [] (some 45) none false (.load none (.t 44))
  (.op 4 [] (some 46) none false (.call 46 14 [(.t 43), (.t 45)])
  (.op 5 [] (some 47) none false (.un .not (.t 46))
  .done)))))))
 (.cond (.t 47)
 (.seq (.reg false (.op 0 [] (some 4) none false (.mov (.v (.bool false)))
  .done))
 .ret)
 .skip))
 (.seq (.seq (.reg false (.op 0 [] (some 48) none false (.fad (.t 2) 8)
  (.op 1 [] (some 49) none false (.load none (.t 48))
  (.op 2 [] (some 50) none false (.fad (.t 3) 8)
  (.op 3 [] (some 51) none false (.load none (.t 50))
  (.op 4 [] (some 52) none false (.call 52 14 [(.t 49), (.t 51)])
  (.op 5 [] (some 53) none false (.un .not (.t 52))
  .done)))))))
 (.cond (.t 53)
 (.seq (.reg false (.op 0 [] (some 4) none false (.mov (.v (.bool false)))
  .done))
 .ret)
 .skip))
 (.seq (.seq (.reg false (.op 0 [] (some 54) none false (.fad (.t 2) 9)
  (.op 1 [] (some 55) none false (.load none (.t 54))
  (.op 2 [] (some 56) none false (.fad (.t 3) 9)
  (.op 3 [] (some 57) none false (.load none (.t 56))
  (.op 4 [] (some 58) none false (.call 58 101 [(.t 55), (.t 57)])
  (.op 5 [] (some 59) none false (.un .not (.t 58))
  .done)))))))
 (.cond (.t 59)
 (.seq (.reg false (.op 0 [] (some 4) none false (.mov (.v (.bool false)))
  .done))
 .ret)
 .skip))
 (.seq (.seq (.reg false (.op 0 [] (some 60) none false (.fad (.t 2) 10)
  (.op 1 [] (some 61) none false (.load none (.t 60))
  (.op 2 [] (some 62) none false (.fad (.t 3) 10)
  (.op 3 [] (some 63) none false (.load none (.t 62))
  (.op 4 [] (some 64) none false (.call 64 101 [(.t 61), (.t 63)])
  (.op 5 [] (some 65) none false (.un .not (.t 64))
  .done)))))))
 (.cond (.t 65)
 (.seq (.reg false (.op 0 [] (some 4) none false (.mov (.v (.bool false)))
  .done))
 .ret)
 .skip))
 (.seq (.reg false (.op 0 [] (some 4) none false (.mov (.v (.bool true)))
  .done))
 .ret)))))))))))))
theorem dg_laws_eqMsg : Tryz.f45.body.bind (digC Tryz.prog Tryz.f45.ntmps []) = some c_laws_eqMsg := by kernel_rfl
theorem rs_laws_eqMsg : resSlots Tryz.prog Tryz.f45 = some [.s 4] := by kernel_rfl
theorem ok_laws_eqMsg (i j : Int) (a b : List Qn) (hs : SmallQs a) :
    FnOK Tryz.prog 45 [.agg [.d (.sc (.int .i64 i)), .d (.sc (.bool false)), .d (.sc (.int .i64 0)), .d (.sc (.bool false)), .d (.sc (.int .i64 0)), .d (encQ a), .d (encR []), .d (encR []), .d (encR []), .d nilW, .d nilW], .agg [.d (.sc (.int .i64 j)), .d (.sc (.bool false)), .d (.sc (.int .i64 0)), .d (.sc (.bool false)), .d (.sc (.int .i64 0)), .d (encQ b), .d (encR []), .d (encR []), .d (encR []), .d nilW, .d nilW]] (fun ra _ => ra = [.one (.d (.sc (.bool (decide (i = j) && decide (a = b)))))]) := by
  refine FnOK.ofK Tryz.func45 (by kernel_rfl) dg_laws_eqMsg rs_laws_eqMsg rfl rfl ?_
  unfold c_laws_eqMsg
  have hn : SmallRs [] := .nil
  refine kSeq (kReg (kBox rfl rfl rfl rfl rfl (kBox rfl rfl rfl rfl rfl (kMovC rfl (kDone (kSeq (kSeq (kReg (kFadP rfl rfl (kLoadP rfl rfl rfl (kFadP rfl rfl (kLoadP rfl rfl rfl (kBin rfl rfl rfl (kDone (kCondIN rfl (fun g0 => kSeq (kReg (kMovC rfl (kDone (kRet (endRetA (ra := [.one (.d _)]) rfl ?_)))))) (fun g0 => kSkip (kSeq (kSeq (kReg (kMem [(12288, ⟨1, 0, .box [.d _, .d _, .d _, .d _, .d _, .d _, .d _, .d _, .d _, .d _, .d _]⟩), (16384, ⟨1, 0, .box [.d _, .d _, .d _, .d _, .d _, .d _, .d _, .d _, .d _, .d _, .d _]⟩)] [(2, .c (.ptr 12288 1 0)), (10, .c (.un)), (3, .c (.ptr 16384 1 0)), (12, .c (.un)), (11, .c (.un)), (13, .c (.un))] [] ⟨rfl, rfl, trivial⟩ ⟨rfl, rfl, rfl, rfl, rfl, rfl, trivial⟩ rfl (kFadP rfl rfl (kLoadP rfl rfl rfl (kFadP rfl rfl (kLoadP rfl rfl rfl (kBeq rfl rfl (kDone (kCondF rfl (kSkip (kSeq (kSeq (kReg (kFadP rfl rfl (kLoadP rfl rfl rfl (kFadP rfl rfl (kLoadP rfl rfl rfl (kBin rfl rfl rfl (kDone (kCondF rfl (kSkip (kSeq (kSeq (kReg (kMem [(12288, ⟨1, 0, .box [.d _, .d _, .d _, .d _, .d _, .d _, .d _, .d _, .d _, .d _, .d _]⟩), (16384, ⟨1, 0, .box [.d _, .d _, .d _, .d _, .d _, .d _, .d _, .d _, .d _, .d _, .d _]⟩)] [(2, .c (.ptr 12288 1 0)), (20, .c (.un)), (3, .c (.ptr 16384 1 0)), (22, .c (.un)), (21, .c (.un)), (23, .c (.un))] [] ⟨rfl, rfl, trivial⟩ ⟨rfl, rfl, rfl, rfl, rfl, rfl, trivial⟩ rfl (kFadP rfl rfl (kLoadP rfl rfl rfl (kFadP rfl rfl (kLoadP rfl rfl rfl (kBeq rfl rfl (kDone (kCondF rfl (kSkip (kSeq (kSeq (kReg (kFadP rfl rfl (kLoadP rfl rfl rfl (kFadP rfl rfl (kLoadP rfl rfl rfl (kBin rfl rfl rfl (kDone (kCondF rfl (kSkip (kSeq (kSeq (kReg (kMem [(12288, ⟨1, 0, .box [.d _, .d _, .d _, .d _, .d _, .d _, .d _, .d _, .d _, .d _, .d _]⟩), (16384, ⟨1, 0, .box [.d _, .d _, .d _, .d _, .d _, .d _, .d _, .d _, .d _, .d _, .d _]⟩)] [(2, .c (.ptr 12288 1 0)), (30, .c (.un)), (3, .c (.ptr 16384 1 0)), (32, .c (.un)), (31, .c (.un)), (33, .c (.un)), (34, .c (.un))] [] ⟨rfl, rfl, trivial⟩ ⟨rfl, rfl, rfl, rfl, rfl, rfl, rfl, trivial⟩ rfl (kFadP rfl rfl (kLoadP rfl rfl rfl (kFadP rfl rfl (kLoadP rfl rfl rfl (kCallD (ok_laws_eqQuestionS _ _ (by first | assumption | omega | solve_by_elim [List.getElem_mem] | (simp only [szOut] at *; omega))) ⟨rfl, rfl, trivial⟩ rfl rfl rfl rfl rfl (kUn rfl rfl (kDone (kCondN rfl (fun g1 => kSeq (kReg (kMovC rfl (kDone (kRet (endRetA (ra := [.one (.d _)]) rfl ?_)))))) (fun g1 => kSkip (kSeq (kSeq (kReg (kFadP rfl rfl (kLoadP rfl rfl rfl (kFadP rfl rfl (kMem [(16384, ⟨1, 0, .box [.d _, .d _, .d _, .d _, .d _, .d _, .d _, .d _, .d _, .d _, .d _]⟩)] [(38, .c (.ptr 16384 1 6)), (37, .c (.d _)), (39, .c (.un)), (40, .c (.un))] [] ⟨rfl, trivial⟩ ⟨rfl, rfl, rfl, rfl, trivial⟩ rfl (kLoadP rfl rfl rfl (kCallD (ok_laws_eqRrS _ _ (by first | assumption | omega | solve_by_elim [List.getElem_mem] | (simp only [szOut] at *; omega))) ⟨rfl, rfl, trivial⟩ rfl rfl rfl rfl rfl (kUn rfl rfl (kDone (kCondF rfl (kSkip (kSeq (kSeq (kReg (kFadP rfl rfl (kLoadP rfl rfl rfl (kFadP rfl rfl (kLoadP rfl rfl rfl (kCallD (ok_laws_eqRrS _ _ (by first | assumption | omega | solve_by_elim [List.getElem_mem] | (simp only [szOut] at *; omega))) ⟨rfl, rfl, trivial⟩ rfl rfl rfl rfl rfl (kUn rfl rfl (kDone (kCondF rfl (kSkip (kSeq (kSeq (kReg (kMem [(12288, ⟨1, 0, .box [.d _, .d _, .d _, .d _, .d _, .d _, .d _, .d _, .d _, .d _, .d _]⟩), (16384, ⟨1, 0, .box [.d _, .d _, .d _, .d _, .d _, .d _, .d _, .d _, .d _, .d _, .d _]⟩)] [(2, .c (.ptr 12288 1 0)), (48, .c (.un)), (3, .c (.ptr 16384 1 0)), (50, .c (.un)), (49, .c (.un)), (51, .c (.un)), (52, .c (.un))] [] ⟨rfl, rfl, trivial⟩ ⟨rfl, rfl, rfl, rfl, rfl, rfl, rfl, trivial⟩ rfl (kFadP rfl rfl (kLoadP rfl rfl rfl (kFadP rfl rfl (kLoadP rfl rfl rfl (kCallD (ok_laws_eqRrS _ _ (by first | assumption | omega | solve_by_elim [List.getElem_mem] | (simp only [szOut] at *; omega))) ⟨rfl, rfl, trivial⟩ rfl rfl rfl rfl rfl (kUn rfl rfl (kDone (kCondF rfl (kSkip (kSeq (kSeq (kReg (kFadP rfl rfl (kLoadP rfl rfl rfl (kFadP rfl rfl (kMem [(16384, ⟨1, 0, .box [.d _, .d _, .d _, .d _, .d _, .d _, .d _, .d _, .d _, .d _, .d _]⟩)] [(56, .c (.ptr 16384 1 9)), (55, .c (.d _)), (57, .c (.un)), (58, .c (.un))] [] ⟨rfl, trivial⟩ ⟨rfl, rfl, rfl, rfl, trivial⟩ rfl (kLoadP rfl rfl rfl (kCallD (ok_laws_eqWantS) ⟨rfl, rfl, trivial⟩ rfl rfl rfl rfl rfl (kUn rfl rfl (kDone (kCondF rfl (kSkip (kSeq (kSeq (kReg (kFadP rfl rfl (kLoadP rfl rfl rfl (kFadP rfl rfl (kLoadP rfl rfl rfl (kCallD (ok_laws_eqWantS) ⟨rfl, rfl, trivial⟩ rfl rfl rfl rfl rfl (kUn rfl rfl (kDone (kCondF rfl (kSkip (kSeq (kReg (kMovC rfl (kDone (kRet (endRetA (ra := [.one (.d _)]) rfl ?_))))))))))))))))))))))))))))))))))))))))))))))))))))))))))))))))))))))))))))))))))))))))))))))))))))))))))))))))))))))))))))))))))))))))))))))))
  all_goals simp_all

def c_laws_eqTask : C := (.seq (.reg false (.op 0 [] (some 2) none false (.box 2 (.t 0))
  (.op 1 [] (some 3) none false (.box 3 (.t 1))
  (.op 2 [] (some 4) none false (.mov (.v (.bool false)))
  .done))))
 (.seq (.seq (.reg false (.op 0 [] (some 5) none false (.fad (.t 2) 0)
  (.op 1 [] (some 6) none false (.load none (.t 5))
  (.op 2 [] (some 7) none false (.fad (.t 3) 0)
  (.op 3 [] (some 8) none false (.load none (.t 7))
  (.op 4 [] (some 9) none false (.bin .neq (.t 6) (.t 8))
  .done))))))
 (.cond (.t 9)
 (.seq (.reg false (.op 0 [] (some 4) none false (.mov (.v (.bool false)))
  .done))
 .ret)
 .skip))
 (.seq (.seq (.reg false (.op 0 [] (some 10) none false (.fad (.t 2) 1)
  (.op 1 [] (some 11) none false (.load none (.t 10))
  (.op 2 [] (some 12) none false (.fad (.t 3) 1)
  (.op 3 [] (some 13) none false (.load none (.t 12))
  (.op 4 [] (some 14) none false (.bin .neq (.t 11) (.t 13))
  .done))))))
 (.cond (.t 14)
 (.seq (.reg false (.op 0 [] (some 4) none false (.mov (.v (.bool false)))
  .done))
 .ret)
 .skip))
 (.seq (.seq (.reg false (.op 0 [] (some 15) none false (.fad (.t 2) 2)
  (.op 1 [] (some 16) none false (.load (some 2) (.t 15))
  (.op 2 [] (some 17) none false (.fad (.t 3) 2)
  (.op 3 [] (some 18) none false (.load (some 2) (.t 17))
  (.op 4 [] (some 19) none false (.call 19 74 [(.t 16), (.t 18)])
  (.op 5 [] (some 20) none false (.un .not (.t 19))
  .done)))))))
 (.cond (.t 20)
 (.seq (.reg false (.op 0 [] (some 4) none false (.mov (.v (.bool false)))
  .done))
 .ret)
 .skip))
 (.seq (.seq (.reg false (.op 0 [] (some 21) none false (.fad (.t 2) 4)
  (.op 1 [] (some 22) none false (.load (some 1) (.t 21))
  (.op 2 [] (some 23) none false (.fad (.t 3) 4)
  (.op 3 [] (some 24) none false (.load (some 1) (.t 23))
  (.op 4 [] (some 25) none false (.call 25 33 [(.t 22), (.t 24)])
  (.op 5 [] (some 26) none false (.un .not (.t 25))
  .done)))))))
 (.cond (.t 26)
 (.seq (.reg false (.op 0 [] (some 4) none false (.mov (.v (.bool false)))
  .done))
 .ret)
 .skip))
 (.seq (.seq (.reg false (.op 0 [] (some 27) none false (.fad (.t 2) 5)
  (.op 1 [] (some 28) none false (.load (some 1) (.t 27))
  (.op 2 [] (some 29) none false (.fad (.t 3) 5)
  (.op 3 [] (some 30) none false (.load (some 1) (.t 29))
  (.op 4 [] (some 31) none false (.call 31 33 [(.t 28), (.t 30)])
  (.op 5 [] (some 32) none false (.un .not (.t 31))
  .done)))))))
 (.cond (.t 32)
 (.seq (.reg false (.op 0 [] (some 4) none false (.mov (.v (.bool false)))
  .done))
 .ret)
 .skip))
 (.seq (.seq (.reg false (.op 0 [] (some 33) none false (.fad (.t 2) 6)
  (.op 1 [] (some 34) none false (.load none (.t 33))
  (.op 2 [] (some 35) none false (.fad (.t 3) 6)
  (.op 3 [] (some 36) none false (.load none (.t 35))
  (.op 4 [] (some 37) none false (.call 37 75 [(.t 34), (.t 36)])
  (.op 5 [] (some 38) none false (.un .not (.t 37))
  .done)))))))
 (.cond (.t 38)
 (.seq (.reg false (.op 0 [] (some 4) none false (.mov (.v (.bool false)))
  .done))
 .ret)
 .skip))
 (.seq (.seq (.reg false (.op 0 [] (some 39) none false (.fad (.t 2) 7)
  (.op 1 [] (some 40) none false (.load none (.t 39))
  (.op 2 [] (some 41) none false (.fad (.t 3) 7)
  (.op 3 [] (some 42) none false (.load none (.t 41))
  (.op 4 [] (some 43) none false (.call 43 75 [(.t 40), (.t 42)])
  (.op 5 [] (some 44) none false (.un .not (.t 43))
  .done)))))))
 (.cond (.t 44)
 (.seq (.reg false (.op 0 [] (some 4) none false (.mov (.v (.bool false)))
  .done))
 .ret)
 .skip))
 (.seq (.seq (.reg false (.op 0 [] (some 45) none false (.fad (.t 2) 8)
  (.op 1 [] (some 46) none false (.load none (.t 45))
  (.op 2 [] (some 47) none false (.fad (.t 3) 8)
  (.op 3 [] (some 48) none false (.load none (.t 47))
  (.op 4 [] (some 49) none false (.bin .neq (.t 46) (.t 48))
  .done))))))
 (.cond (.t 49)
 (.seq (.reg false (.op 0 [] (some 4) none false (.mov (.v (.bool false)))
  .done))
 .ret)
 .skip))
 (.seq (.seq (.reg false (.op 0 [] (some 50) none false (.fad (.t 2) 9)
  (.op 1 [] (some 51) none false (.load none (.t 50))
  (.op 2 [] (some 52) none false (.fad (.t 3) 9)
  (.op 3 [] (some 53) none false (.load none (.t 52))
  (.op 4 [] (some 54) none false (.bin .neq (.t 51) (.t 53))
  .done))))))
 (.cond (.t 54)
 (.seq (.reg false (.op 0 [] (some 4) none false (.mov (.v (.bool false)))
  .done))
 .ret)
 .skip))
 (.seq (.seq (.reg false (.op 0 [] (some 55) none false (.fad (.t 2) 10)
  (.op 1 [] (some 56) none false (.load none (.t 55))
  (.op 2 [] (some 57) none false (.fad (.t 3) 10)
  (.op 3 [] (some 58) none false (.load none (.t 57))
  (.op 4 [] (some 59) none false (.bin .neq (.t 56) (.t 58))
  .done))))))
 (.cond (.t 59)
 (.seq (.reg false (.op 0 [] (some 4) none false (.mov (.v (.bool false)))
  .done))
 .ret)
 .skip))
 (.seq (.seq (.reg false (.op 0 [] (some 60) none false (.fad (.t 2) 11)
  (.op 1 [] (some 61) none false (.load none (.t 60))
  (.op 2 [] (some 62) none false (.fad (.t 3) 11)
  (.op 3 [] (some 63) none false (.load none (.t 62))
  (.op 4 [] (some 64) none false (.bin .neq (.t 61) (.t 63))
  .done))))))
 (.cond (.t 64)
 (.seq (.reg false (.op 0 [] (some 4) none false (.mov (.v (.bool false)))
  .done))
 .ret)
 .skip))
 (.seq (.seq (.reg false (.op 0 [] (some 65) none false (.fad (.t 2) 12)
  (.op 1 [] (some 66) none false (.load none (.t 65))
  (.op 2 [] (some 67) none false (.fad (.t 3) 12)
  (.op 3 [] (some 68) none false (.load none (.t 67))
  (.op 4 [] (some 69) none false (.call 69 14 [(.t 66), (.t 68)])
  (.op 5 [] (some 70) none false (.un .not (.t 69))
  .done)))))))
 (.cond (.t 70)
 (.seq (.reg false (.op 0 [] (some 4) none false (.mov (.v (.bool false)))
  .done))
 .ret)
 .skip))
 (.seq (.reg false (.op 0 [] (some 4) none false (.mov (.v (.bool true)))
  .done))
 .ret))))))))))))))
theorem dg_laws_eqTask : Tryz.f26.body.bind (digC Tryz.prog Tryz.f26.ntmps []) = some c_laws_eqTask := by kernel_rfl
theorem rs_laws_eqTask : resSlots Tryz.prog Tryz.f26 = some [.s 4] := by kernel_rfl
theorem ok_laws_eqTask (a b : Task) (hs : SmallT a) :
    FnOK Tryz.prog 26 [.agg (a.cells.map .d), .agg (b.cells.map .d)] (fun ra _ => ra = [.one (.d (.sc (.bool (decide (a = b)))))]) := by
  refine FnOK.ofK Tryz.func26 (by kernel_rfl) dg_laws_eqTask rs_laws_eqTask rfl rfl ?_
  unfold c_laws_eqTask
  have n1 := hs.n.len
  have n2 := hs.n.mem
  have f1 := hs.f.len
  have f2 := hs.f.mem
  have z1 := hs.z.len
  have z2 := hs.z.mem
  have h1 := hs.h
  have s1 := hs.s
  have a1 := hs.a
  refine kSeq (kReg (kBox rfl rfl rfl rfl rfl (kBox rfl rfl rfl rfl rfl (kMovC rfl (kDone (kSeq (kSeq (kReg (kFadP rfl rfl (kLoadP rfl rfl rfl (kFadP rfl rfl (kLoadP rfl rfl rfl (kBin rfl rfl rfl (kDone (kCondIN rfl (fun g0 => kSeq (kReg (kMovC rfl (kDone (kRet (endRetA (ra := [.one (.d _)]) rfl ?_)))))) (fun g0 => kSkip (kSeq (kSeq (kReg (kFadP rfl rfl (kLoadP rfl rfl rfl (kFadP rfl rfl (kLoadP rfl rfl rfl (kBin rfl rfl rfl (kDone (kCondIN rfl (fun g1 => kSeq (kReg (kMovC rfl (kDone (kRet (endRetA (ra := [.one (.d _)]) rfl ?_)))))) (fun g1 => kSkip (kSeq (kSeq (kReg (kFadP rfl rfl (kLoadP rfl rfl rfl (kFadP rfl rfl (kLoadP rfl rfl rfl (kCallD (ok_laws_eqQuestion _ _ _ _ (by first | assumption | omega | solve_by_elim [List.getElem_mem] | (simp only [szOut] at *; omega)) (by first | assumption | omega | solve_by_elim [List.getElem_mem] | (simp only [szOut] at *; omega))) ⟨⟨⟨rfl, rfl, trivial⟩, Nat.le_of_ble_eq_true rfl⟩, ⟨⟨rfl, rfl, trivial⟩, Nat.le_of_ble_eq_true rfl⟩, trivial⟩ rfl rfl rfl rfl rfl (kUn rfl rfl (kDone (kCondN rfl (fun g2 => kSeq (kReg (kMovC rfl (kDone (kRet (endRetA (ra := [.one (.d _)]) rfl ?_)))))) (fun g2 => kSkip (kSeq (kSeq (kReg (kFadP rfl rfl (kLoadP rfl rfl rfl (kFadP rfl rfl (kLoadP rfl rfl rfl (kCallD (ok_laws_eqName _ _ (by first | assumption | omega | solve_by_elim [List.getElem_mem] | (simp only [szOut] at *; omega)) (by first | assumption | omega | solve_by_elim [List.getElem_mem] | (simp only [szOut] at *; omega))) ⟨⟨⟨rfl, trivial⟩, Nat.le_of_ble_eq_true rfl⟩, ⟨⟨rfl, trivial⟩, Nat.le_of_ble_eq_true rfl⟩, trivial⟩ rfl rfl rfl rfl rfl (kUn rfl rfl (kDone (kCondN rfl (fun g3 => kSeq (kReg (kMovC rfl (kDone (kRet (endRetA (ra := [.one (.d _)]) rfl ?_)))))) (fun g3 => kSkip (kSeq (kSeq (kReg (kFadP rfl rfl (kLoadP rfl rfl rfl (kFadP rfl rfl (kLoadP rfl rfl rfl (kCallD (ok_laws_eqName _ _ (by first | assumption | omega | solve_by_elim [List.getElem_mem] | (simp only [szOut] at *; omega)) (by first | assumption | omega | solve_by_elim [List.getElem_mem] | (simp only [szOut] at *; omega))) ⟨⟨⟨rfl, trivial⟩, Nat.le_of_ble_eq_true rfl⟩, ⟨⟨rfl, trivial⟩, Nat.le_of_ble_eq_true rfl⟩, trivial⟩ rfl rfl rfl rfl rfl (kUn rfl rfl (kDone (kCondN rfl (fun g4 => kSeq (kReg (kMovC rfl (kDone (kRet (endRetA (ra := [.one (.d _)]) rfl ?_)))))) (fun g4 => kSkip (kSeq (kSeq (kReg (kFadP rfl rfl (kLoadP rfl rfl rfl (kFadP rfl rfl (kLoadP rfl rfl rfl (kCallD (ok_laws_eqIntS _ _ (by first | assumption | omega | solve_by_elim [List.getElem_mem] | (simp only [szOut] at *; omega))) ⟨rfl, rfl, trivial⟩ rfl rfl rfl rfl rfl (kUn rfl rfl (kDone (kCondN rfl (fun g5 => kSeq (kReg (kMovC rfl (kDone (kRet (endRetA (ra := [.one (.d _)]) rfl ?_)))))) (fun g5 => kSkip (kSeq (kSeq (kReg (kFadP rfl rfl (kLoadP rfl rfl rfl (kFadP rfl rfl (kLoadP rfl rfl rfl (kCallD (ok_laws_eqIntS _ _ (by first | assumption | omega | solve_by_elim [List.getElem_mem] | (simp only [szOut] at *; omega))) ⟨rfl, rfl, trivial⟩ rfl rfl rfl rfl rfl (kUn rfl rfl (kDone (kCondN rfl (fun g6 => kSeq (kReg (kMovC rfl (kDone (kRet (endRetA (ra := [.one (.d _)]) rfl ?_)))))) (fun g6 => kSkip (kSeq (kSeq (kReg (kFadP rfl rfl (kLoadP rfl rfl rfl (kFadP rfl rfl (kLoadP rfl rfl rfl (kBin rfl rfl rfl (kDone (kCondIN rfl (fun g7 => kSeq (kReg (kMovC rfl (kDone (kRet (endRetA (ra := [.one (.d _)]) rfl ?_)))))) (fun g7 => kSkip (kSeq (kSeq (kReg (kFadP rfl rfl (kLoadP rfl rfl rfl (kFadP rfl rfl (kLoadP rfl rfl rfl (kBin rfl rfl rfl (kDone (kCondIN rfl (fun g8 => kSeq (kReg (kMovC rfl (kDone (kRet (endRetA (ra := [.one (.d _)]) rfl ?_)))))) (fun g8 => kSkip (kSeq (kSeq (kReg (kFadP rfl rfl (kLoadP rfl rfl rfl (kFadP rfl rfl (kLoadP rfl rfl rfl (kBin rfl rfl rfl (kDone (kCondIN rfl (fun g9 => kSeq (kReg (kMovC rfl (kDone (kRet (endRetA (ra := [.one (.d _)]) rfl ?_)))))) (fun g9 => kSkip (kSeq (kSeq (kReg (kFadP rfl rfl (kLoadP rfl rfl rfl (kFadP rfl rfl (kLoadP rfl rfl rfl (kBin rfl rfl rfl (kDone (kCondIN rfl (fun g10 => kSeq (kReg (kMovC rfl (kDone (kRet (endRetA (ra := [.one (.d _)]) rfl ?_)))))) (fun g10 => kSkip (kSeq (kSeq (kReg (kFadP rfl rfl (kLoadP rfl rfl rfl (kFadP rfl rfl (kLoadP rfl rfl rfl (kCallD (ok_laws_eqRrS _ _ (by first | assumption | omega | solve_by_elim [List.getElem_mem] | (simp only [szOut] at *; omega))) ⟨rfl, rfl, trivial⟩ rfl rfl rfl rfl rfl (kUn rfl rfl (kDone (kCondN rfl (fun g11 => kSeq (kReg (kMovC rfl (kDone (kRet (endRetA (ra := [.one (.d _)]) rfl ?_)))))) (fun g11 => kSkip (kSeq (kReg (kMovC rfl (kDone (kRet (endRetA (ra := [.one (.d _)]) rfl ?_)))))))))))))))))))))))))))))))))))))))))))))))))))))))))))))))))))))))))))))))))))))))))))))))))))))))))))))))))))))))))))))))))))))))))))))))))))))
  all_goals (refine congrArg (fun z : Bool => [RA.one (RV.d (DV.sc (Value.bool z)))]) ?_; clear n1 n2 f1 f2 z1 z2 h1 s1 a1 hs; cases a; cases b; simp_all)

def c_laws_markByteS : C := (.seq (.reg false (.op 0 [] (some 4) none false (.mov (.v (.int .i64 0)))
  .done))
 (.seq (.seq (.reg false (.op 0 [] (some 5) none false (.mov (.v (.int .i64 0)))
  .done))
 (.block 0 (.loop (.seq (.seq (.reg false (.op 0 [] (some 6) none false (.mov (.t 5))
  (.op 1 [] (some 7) none false (.mov (.t 0))
  (.op 2 [] (some 8) none false (.len (.t 7))
  (.op 3 [] (some 9) none false (.bin .lss (.t 6) (.t 8))
  .done)))))
 (.cond (.t 9)
 .skip
 (.exit 0)))
 (.seq (.block 1 (.seq (.reg false (.op 0 [] (some 12) none false (.mov (.t 0))
  (.op 1 [] (some 13) none false (.mov (.t 5))
  (.op 2 [] (some 14) none false (.mov (.t 1))
  (.op 3 [] (some 15) none false (.conv .u8 (.t 14))
  (.op 4 [] (some 16) none false (.iad 1 (.t 12) (.t 13))
  (.op 5 [] none none false (.store none (.t 16) (.t 15))
  .done)))))))
 (.reg false (.op 0 [] (some 17) none false (.mov (.t 1))
  (.op 1 [] (some 18) none false (.bin .add (.t 17) (.v (.int .i64 1)))
  (.op 2 [] (some 1) none false (.mov (.t 18))
  .done))))))
 (.reg false (.op 0 [] (some 10) none false (.mov (.t 5))
  (.op 1 [] (some 11) none false (.bin .add (.t 10) (.v (.int .i64 1)))
  (.op 2 [] (some 5) none false (.mov (.t 11))
  .done)))))))))
 (.seq (.reg false (.op 0 [] (some 19) none false (.mov (.t 1))
  (.op 1 [] (some 4) none false (.mov (.t 19))
  .done)))
 .ret)))
theorem dg_laws_markByteS : Tryz.f56.body.bind (digC Tryz.prog Tryz.f56.ntmps []) = some c_laws_markByteS := by kernel_rfl
theorem rs_laws_markByteS : resSlots Tryz.prog Tryz.f56 = some [.s 4] := by kernel_rfl
theorem ok_laws_markByteS (a : List UInt8) (k : Int) (h0 : 0 ≤ k) (hk : k + a.length ≤ 9223372036854775807) :
    FnOK Tryz.prog 56 [.one (.arr false true (encB a)), .one (.d (.sc (.int .i64 k)))] (fun ra os => ra = [.one (.d (.sc (.int .i64 (k + a.length))))] ∧ os.a 0 = encB (marks a.length k)) := by
  refine FnOK.ofK Tryz.func56 (by kernel_rfl) dg_laws_markByteS rs_laws_markByteS rfl rfl ?_
  unfold c_laws_markByteS
  generalize hgas : [GA.one (.arr false true (encB a)), GA.one (.d (.sc (.int .i64 k)))] = gas
  have hob : (St.init gas).ob 0 = ⟨0, 0, .arr true (encB a)⟩ := by rw [← hgas]; rfl
  have s0 : (St.init gas).sl 0 = .c (.arr 0 0) := by rw [← hgas]; rfl
  have s1 : (St.init gas).sl 1 = .i k := by rw [← hgas]; rfl
  refine kSub (t := ⟨tabSl [(0, .c (.arr 0 0)), (1, .i k)], (St.init gas).ob, []⟩) (.tab rfl ⟨s0 ▸ .refl _, s1 ▸ .refl _, trivial⟩) ?_
  refine kSeq (kReg (kMovC rfl (kDone ?_)))
  refine kSeq (kSeq (kReg (kMovC rfl (kDone (kBlock ?_)))))
  refine kLoop (α := { i : Nat // i ≤ a.length })
    (fun y => ⟨tabSl [(0, .c (.arr 0 0)), (1, .i (k + (y.1 : Int))), (5, .i y.1)], upd (St.init gas).ob 0 ⟨0, y.1, .arr true (encB (marks y.1 k ++ a.drop y.1))⟩, []⟩) (fun y => a.length - y.1) ⟨0, by simp⟩
    (.tab (upd_self (by rw [hob]; rfl)) ⟨.refl _, by simpa using .refl _, .refl _, trivial⟩) ?_
  rintro ⟨i, hi⟩
  simp only
  have hlen : (marks i k ++ a.drop i).length = a.length := by simp [marks_len]; omega
  refine kSeq (kSeq (kReg ?_))
  refine kMovC rfl (kMovC rfl (kLen rfl rfl rfl (kBin rfl rfl rfl (kDone ?_))))
  rw [len_encB, hlen]
  refine kCond rfl (fun h1 => ?_) (fun h1 => ?_)
  · have hlt : i < a.length := by simp at h1; omega
    refine kSkip (kSeq (kBlock (kSeq (kReg ?_))))
    refine kMovC rfl (kMovC rfl (kMovC rfl (kConv rfl (kIadA rfl rfl rfl rfl ?_ ?_))))
    · rw [len_encB, hlen]; omega
    refine kStoreE1 rfl rfl rfl rfl (by simp [encB, DV.esz]) (kDone ?_)
    rw [show (Int.toNat (i : Int)) = i from rfl, setRow_encB _ _ _ (by omega)]
    refine kReg (kMovC rfl (kAdd rfl rfl ?_ (kMovC rfl (kDone (kBk ?_)))))
    · omega
    refine kReg (kMovC rfl (kAdd rfl rfl ?_ (kMovC rfl (kDone (kInv ?_)))))
    · omega
    refine ⟨⟨i + 1, hlt⟩, by simp only; omega, .tab ?_ ⟨.refl _, ?_, .refl _, trivial⟩⟩
    · show _ = upd (upd (St.init gas).ob 0 _) 0 _
      rw [upd_upd, take_set_succ _ _ _ _ hlt (marks_len i k), marks_succ]
      rfl
    · show WkV (.i (k + i + 1)) (.i (k + ((i + 1 : Nat) : Int)))
      rw [show k + ((i + 1 : Nat) : Int) = k + i + 1 by omega]
      exact .refl _
  · refine kExit (kExC (kExI (kExB ?_)))
    have hge : i = a.length := by simp at h1; omega
    subst hge
    refine kSeq (kReg (kMovC rfl (kMovC rfl (kDone (kRet ?_)))))
    rw [← hgas]
    refine endRet (ra := [.one (.d _)]) rfl ⟨⟨⟨rfl, .inl rfl⟩, trivial⟩, .nil, ⟨rfl, fun _ => rfl, rfl⟩, trivial, trivial⟩ ?_
    refine ⟨rfl, ?_⟩
    show encB (marks a.length k ++ a.drop a.length) = _
    simp

def c_laws_markByteSS : C := (.seq (.reg false (.op 0 [] (some 4) none false (.mov (.v (.int .i64 0)))
  .done))
 (.seq (.seq (.reg false (.op 0 [] (some 5) none false (.mov (.v (.int .i64 0)))
  .done))
 (.block 0 (.loop (.seq (.seq (.reg false (.op 0 [] (some 6) none false (.mov (.t 5))
  (.op 1 [] (some 7) none false (.mov (.t 0))
  (.op 2 [] (some 8) none false (.len (.t 7))
  (.op 3 [] (some 9) none false (.bin .lss (.t 6) (.t 8))
  .done)))))
 (.cond (.t 9)
 .skip
 (.exit 0)))
 (.seq (.block 1 (.reg false (.op 0 [] (some 12) none false (.mov (.t 0))
  (.op 1 [] (some 13) none false (.mov (.t 5))
  (.op 2 [] (some 14) none false (.iad 1 (.t 12) (.t 13))
  (.op 3 [] (some 15) none false (.load none (.t 14))
  (.op 4 [] (some 16) none false (.mov (.t 1))
  (.op 5 [] (some 17) none false (.call 17 56 [(.t 15), (.t 16)])
  (.op 6 [] (some 1) none false (.mov (.t 17))
  .done)))))))))
 (.reg false (.op 0 [] (some 10) none false (.mov (.t 5))
  (.op 1 [] (some 11) none false (.bin .add (.t 10) (.v (.int .i64 1)))
  (.op 2 [] (some 5) none false (.mov (.t 11))
  .done)))))))))
 (.seq (.reg false (.op 0 [] (some 18) none false (.mov (.t 1))
  (.op 1 [] (some 4) none false (.mov (.t 18))
  .done)))
 .ret)))
theorem dg_laws_markByteSS : Tryz.f55.body.bind (digC Tryz.prog Tryz.f55.ntmps []) = some c_laws_markByteSS := by kernel_rfl
theorem rs_laws_markByteSS : resSlots Tryz.prog Tryz.f55 = some [.s 4] := by kernel_rfl
theorem ok_laws_markByteSS (a : List (List UInt8)) (k : Int) (h0 : 0 ≤ k) (hk : k + a.flatten.length ≤ 9223372036854775807) (hl : a.length ≤ 4194304) :
    FnOK Tryz.prog 55 [.one (.arr false true (encBB a)), .one (.d (.sc (.int .i64 k)))] (fun ra os => ra = [.one (.d (.sc (.int .i64 (k + a.flatten.length))))] ∧ os.a 0 = encBB (markss a k)) := by
  refine FnOK.ofK Tryz.func55 (by kernel_rfl) dg_laws_markByteSS rs_laws_markByteSS rfl rfl ?_
  unfold c_laws_markByteSS
  refine kSeq (kReg (kMovC rfl (kDone ?_)))
  refine kSeq (kSeq (kReg (kMovC rfl (kDone (kBlock ?_)))))
  refine kLoop (α := { i : Nat // i ≤ a.length })
    (fun y => ⟨tabSl [(0, .c (.arr 0 0)), (1, .i (k + (a.take y.1).flatten.length)), (5, .i y.1)], upd (St.init [.one (.arr false true (encBB a)), .one (.d (.sc (.int .i64 k)))]).ob 0 ⟨0, y.1, .arr true (encBB (markss (a.take y.1) k ++ a.drop y.1))⟩, []⟩) (fun y => a.length - y.1) ⟨0, by simp⟩
    (.tab (upd_self rfl) ⟨.refl _, by simpa using .refl _, .refl _, trivial⟩) ?_
  rintro ⟨i, hi⟩
  simp only
  have hlen : (markss (a.take i) k).length = i := by rw [markss_len]; simp; omega
  have hlen' : (markss (a.take i) k ++ a.drop i).length = a.length := by simp [hlen]; omega
  refine kSeq (kSeq (kReg ?_))
  refine kMovC rfl (kMovC rfl (kLen rfl rfl rfl (kBin rfl rfl rfl (kDone ?_))))
  rw [len_encBB, hlen']
  refine kCond rfl (fun h1 => ?_) (fun h1 => ?_)
  · have hlt : i < a.length := by simp at h1; omega
    have hget : (markss (a.take i) k ++ a.drop i)[i]'(by omega) = a[i] := by
      rw [List.getElem_append_right (by omega)]; simp [hlen]
    have hat : (encBB (markss (a.take i) k ++ a.drop i)).at i 0 = encB a[i] := by rw [at_encBB _ _ (by omega), hget]
    have hfl : (a.take (i + 1)).flatten.length = (a.take i).flatten.length + a[i].length := by
      rw [← List.take_append_getElem hlt, List.flatten_append, List.length_append]; simp only [List.flatten_cons, List.flatten_nil, List.append_nil]
    have htot : (a.take (i + 1)).flatten.length ≤ a.flatten.length := by
      have := congrArg (fun l => (List.flatten l).length) (List.take_append_drop (i + 1) a)
      simp only [List.flatten_append, List.length_append] at this
      omega
    refine kSkip (kSeq (kBlock (kReg ?_)))
    refine kMovC rfl (kMovC rfl (kIadA rfl rfl rfl rfl ?_ ?_))
    · rw [len_encBB, hlen']; omega
    refine kLoadE rfl rfl (v := .c (.sub 0 0 i i 0)) ?_ (kMovC rfl ?_)
    · show pickCells none (AC.ofCells 0 0 i i 0 (((encBB (markss (a.take i) k ++ a.drop i)).row i).drop 0)) = _
      rw [row_encBB _ _ (by omega)]
      rfl
    refine kCallS (ok_laws_markByteS a[i] (k + (a.take i).flatten.length) (by omega) (by omega)) rfl ⟨⟨rfl, rfl, rfl, rfl, rfl, rfl, hat.symm, rfl⟩, rfl, trivial⟩ ?_ rfl ?_
    · simp [encBB, DV.rows, hlen]; omega
    rintro ra os ⟨rfl, ho⟩
    refine ⟨_, rfl, ?_⟩
    refine kMovC rfl (kDone (kBk ?_))
    refine kReg (kMovC rfl (kAdd rfl rfl ?_ (kMovC rfl (kDone (kInv ?_)))))
    · omega
    refine ⟨⟨i + 1, hlt⟩, by simp only; omega, .tab ?_ ⟨.refl _, ?_, .refl _, trivial⟩⟩
    · refine Eq.trans ?_ (upd_upd _ _ _ _).symm
      refine congrArg (upd _ _) ?_
      show _ = Ob.mk _ _ (OK.arr _ ((encBB (markss (a.take i) k ++ a.drop i)).setCell i 0 (os.a 0)))
      rw [ho, setCell_encBB _ _ _ (by omega), take_set_succ _ _ _ _ hlt hlen, ← List.take_append_getElem hlt, markss_append]
    · show WkV (.i (k + ((a.take i).flatten.length : Int) + a[i].length)) (.i (k + ((a.take (i + 1)).flatten.length : Int)))
      rw [hfl, show k + (((a.take i).flatten.length + a[i].length : Nat) : Int) = k + ((a.take i).flatten.length : Int) + a[i].length by omega]
      exact .refl _
  · refine kExit (kExC (kExI (kExB ?_)))
    have hge : i = a.length := by simp at h1; omega
    subst hge
    refine kSeq (kReg (kMovC rfl (kMovC rfl (kDone (kRet ?_)))))
    refine endRet (ra := [.one (.d _)]) rfl ⟨⟨⟨rfl, .inl rfl⟩, trivial⟩, .nil, ⟨rfl, fun _ => rfl, rfl⟩, trivial, trivial⟩ ?_
    refine ⟨by simp, ?_⟩
    show encBB (markss (a.take a.length) k ++ a.drop a.length) = _
    simp

def c_laws_markName : C := (.seq (.reg false (.op 0 [] (some 2) none false (.box 2 (.t 0))
  (.op 1 [] (some 4) none false (.mov (.v (.int .i64 0)))
  .done)))
 (.seq (.reg false (.op 0 [] (some 5) none false (.fad (.t 2) 0)
  (.op 1 [] (some 6) none false (.load none (.t 5))
  (.op 2 [] (some 7) none false (.mov (.t 1))
  (.op 3 [] (some 8) none false (.call 8 55 [(.t 6), (.t 7)])
  (.op 4 [] (some 1) none false (.mov (.t 8))
  .done))))))
 (.seq (.reg false (.op 0 [] (some 9) none false (.mov (.t 1))
  (.op 1 [] (some 4) none false (.mov (.t 9))
  .done)))
 .ret)))
theorem dg_laws_markName : Tryz.f34.body.bind (digC Tryz.prog Tryz.f34.ntmps []) = some c_laws_markName := by kernel_rfl
theorem rs_laws_markName : resSlots Tryz.prog Tryz.f34 = some [.s 4] := by kernel_rfl
theorem ok_laws_markName (a : List (List UInt8)) (k : Int) (h0 : 0 ≤ k) (hk : k + a.flatten.length ≤ 9223372036854775807) (hl : a.length ≤ 4194304) :
    FnOK Tryz.prog 34 [.agg [.arr false true (encBB a)], .one (.d (.sc (.int .i64 k)))] (fun ra os => ra = [.one (.d (.sc (.int .i64 (k + a.flatten.length))))] ∧ os.a 0 = encBB (markss a k)) := by
  refine FnOK.ofK Tryz.func34 (by kernel_rfl) dg_laws_markName rs_laws_markName rfl rfl ?_
  unfold c_laws_markName
  refine kSeq (kReg (kBox rfl rfl rfl rfl rfl (kMovC rfl (kDone (kSeq (kReg (kFadP rfl rfl (kLoadP rfl rfl rfl (kMovC rfl ?_)))))))))
  refine kCall false (ok_laws_markByteSS a k h0 hk hl) ⟨⟨_, rfl, .inl rfl⟩, rfl, trivial⟩ rfl nofun (by rintro ra os ⟨rfl, _⟩; exact Nat.le_of_ble_eq_true rfl) ?_
  rintro ra os ⟨rfl, ho⟩
  refine kMovC rfl (kDone (kSeq (kReg (kMovC rfl (kMovC rfl (kDone ?_))))))
  refine kRet (endRet (ra := [.one (.d _)]) rfl ?_ ⟨rfl, ho⟩)
  (repeat' first | exact trivial | exact rfl | exact .inl rfl | exact nodupB_sound rfl | exact .inl (Nat.zero_lt_succ _) | exact fun _ => rfl | exact Nat.le_of_ble_eq_true rfl | exact ⟨_, rfl, fun _ => rfl⟩ | refine ⟨?_, ?_⟩ | fail)
  rw [show os.a (aid 0 0) = _ from ho]
  rfl

def c_laws_markQuestion : C := (.seq (.reg false (.op 0 [] (some 2) none false (.box 2 (.t 0))
  (.op 1 [] (some 4) none false (.mov (.v (.int .i64 0)))
  .done)))
 (.seq (.reg false (.op 0 [] (some 5) none false (.fad (.t 2) 0)
  (.op 1 [] (some 6) none false (.load (some 1) (.t 5))
  (.op 2 [] (some 7) none false (.mov (.t 1))
  (.op 3 [] (some 8) none false (.call 8 34 [(.t 6), (.t 7)])
  (.op 4 [] (some 1) none false (.mov (.t 8))
  .done))))))
 (.seq (.reg false (.op 0 [] (some 9) none false (.mov (.t 1))
  (.op 1 [] (some 4) none false (.mov (.t 9))
  .done)))
 .ret)))
theorem dg_laws_markQuestion : Tryz.f76.body.bind (digC Tryz.prog Tryz.f76.ntmps []) = some c_laws_markQuestion := by kernel_rfl
theorem rs_laws_markQuestion : resSlots Tryz.prog Tryz.f76 = some [.s 4] := by kernel_rfl
theorem ok_laws_markQuestion (a : List (List UInt8)) (t k : Int) (h0 : 0 ≤ k) (hk : k + a.flatten.length ≤ 9223372036854775807) (hl : a.length ≤ 4194304) :
    FnOK Tryz.prog 76 [.agg [.arr false true (encBB a), .d (.sc (.int .i64 t))], .one (.d (.sc (.int .i64 k)))] (fun ra os => ra = [.one (.d (.sc (.int .i64 (k + a.flatten.length))))] ∧ os.a 0 = encBB (markss a k)) := by
  refine FnOK.ofK Tryz.func76 (by kernel_rfl) dg_laws_markQuestion rs_laws_markQuestion rfl rfl ?_
  unfold c_laws_markQuestion
  refine kSeq (kReg (kBox rfl rfl rfl rfl rfl (kMovC rfl (kDone (kSeq (kReg (kFadP rfl rfl (kLoadP rfl rfl rfl (kMovC rfl (kCallA (ok_laws_markName _ _ (by first | assumption | omega | solve_by_elim [List.getElem_mem] | (simp only [szOut] at *; omega)) (by first | assumption | omega | solve_by_elim [List.getElem_mem] | (simp only [szOut] at *; omega)) (by first | assumption | omega | solve_by_elim [List.getElem_mem] | (simp only [szOut] at *; omega))) ⟨⟨⟨⟨_, rfl, .inl rfl⟩, trivial⟩, Nat.le_of_ble_eq_true rfl⟩, rfl, trivial⟩ rfl rfl rfl rfl (kMovC rfl (kDone (kSeq (kReg (kMovC rfl (kMovC rfl (kDone (kRet (endRetA (ra := [.one (.d _)]) rfl ?_)))))))))))))))))))
  exact ⟨rfl, rfl⟩

def c_laws_markIntS : C := (.seq (.reg false (.op 0 [] (some 4) none false (.mov (.v (.int .i64 0)))
  .done))
 (.seq (.seq (.reg false (.op 0 [] (some 5) none false (.mov (.v (.int .i64 0)))
  .done))
 (.block 0 (.loop (.seq (.seq (.reg false (.op 0 [] (some 6) none false (.mov (.t 5))
  (.op 1 [] (some 7) none false (.mov (.t 0))
  (.op 2 [] (some 8) none false (.len (.t 7))
  (.op 3 [] (some 9) none false (.bin .lss (.t 6) (.t 8))
  .done)))))
 (.cond (.t 9)
 .skip
 (.exit 0)))
 (.seq (.block 1 (.seq (.reg false (.op 0 [] (some 12) none false (.mov (.t 0))
  (.op 1 [] (some 13) none false (.mov (.t 5))
  (.op 2 [] (some 14) none false (.mov (.t 1))
  (.op 3 [] (some 15) none false (.iad 1 (.t 12) (.t 13))
  (.op 4 [] none none false (.store none (.t 15) (.t 14))
  .done))))))
 (.reg false (.op 0 [] (some 16) none false (.mov (.t 1))
  (.op 1 [] (some 17) none false (.bin .add (.t 16) (.v (.int .i64 1)))
  (.op 2 [] (some 1) none false (.mov (.t 17))
  .done))))))
 (.reg false (.op 0 [] (some 10) none false (.mov (.t 5))
  (.op 1 [] (some 11) none false (.bin .add (.t 10) (.v (.int .i64 1)))
  (.op 2 [] (some 5) none false (.mov (.t 11))
  .done)))))))))
 (.seq (.reg false (.op 0 [] (some 18) none false (.mov (.t 1))
  (.op 1 [] (some 4) none false (.mov (.t 18))
  .done)))
 .ret)))
theorem dg_laws_markIntS : Tryz.f57.body.bind (digC Tryz.prog Tryz.f57.ntmps []) = some c_laws_markIntS := by kernel_rfl
theorem rs_laws_markIntS : resSlots Tryz.prog Tryz.f57 = some [.s 4] := by kernel_rfl
theorem ok_laws_markIntS (a : List Int) (k : Int) (h0 : 0 ≤ k) (hk : k + a.length ≤ 9223372036854775807) :
    FnOK Tryz.prog 57 [.one (.arr false true (encI a)), .one (.d (.sc (.int .i64 k)))] (fun ra os => ra = [.one (.d (.sc (.int .i64 (k + a.length))))] ∧ os.a 0 = encI (marksI a.length k)) := by
  refine FnOK.ofK Tryz.func57 (by kernel_rfl) dg_laws_markIntS rs_laws_markIntS rfl rfl ?_
  unfold c_laws_markIntS
  refine kSeq (kReg (kMovC rfl (kDone (kSeq (kSeq (kReg (kMovC rfl (kDone (kBlock ?_)))))))))
  refine kLoop (α := { i : Nat // i ≤ a.length })
    (fun y => ⟨tabSl [(0, .c (.arr 0 0)), (1, .i (k + (y.1 : Int))), (5, .i y.1)], upd (St.init [.one (.arr false true (encI a)), .one (.d (.sc (.int .i64 k)))]).ob 0 ⟨0, y.1, .arr true (encI (marksI y.1 k ++ a.drop y.1))⟩, []⟩) (fun y => a.length - y.1) ⟨0, by simp⟩
    (.tab (upd_self rfl) ⟨.refl _, by simpa using .refl _, .refl _, trivial⟩) ?_
  rintro ⟨i, hi⟩
  simp only
  have hlen : (marksI i k ++ a.drop i).length = a.length := by simp [marksI_len]; omega
  rcases Nat.lt_or_ge i a.length with hlt | hge
  · refine kSeq (kSeq (kReg (kMovC rfl (kMovC rfl (kLenR rfl rfl (kBin rfl rfl rfl (kDone (kCondP rfl (fun g0 => kSkip (kSeq (kBlock (kSeq (kReg (kMovC rfl (kMovC rfl (kMovC rfl (kIadAR rfl rfl rfl rfl (by omega) (kStoreER rfl rfl rfl rfl rfl rfl rfl (by omega) rfl (kDone (kReg (kMovC rfl (kAdd rfl rfl (by omega) (kMovC rfl (kDone (kBk (kReg (kMovC rfl (kAdd rfl rfl (by omega) (kMovC rfl (kDone ?_)))))))))))))))))))))) (fun g0 => (by omega))))))))))
    refine kInv ⟨⟨i + 1, hlt⟩, by simp only; omega, .tab ?_ ⟨.refl _, ?_, .refl _, trivial⟩⟩
    · show _ = upd (upd _ 0 _) 0 _
      rw [upd_upd]
      refine congrArg (upd _ _) ?_
      rw [marksI_succ]
      exact congrArg (fun z => Ob.mk 0 (i + 1) (OK.arr true (encI z))) (take_set_succ _ _ _ _ hlt (marksI_len i k)).symm
    · show WkV (.i (k + i + 1)) (.i (k + ((i + 1 : Nat) : Int)))
      rw [show k + ((i + 1 : Nat) : Int) = k + i + 1 by omega]
      exact .refl _
  · refine kSeq (kSeq (kReg (kMovC rfl (kMovC rfl (kLenR rfl rfl (kBin rfl rfl rfl (kDone (kCondP rfl (fun g0 => (by omega)) (fun g0 => kExit (kExC (kExI (kExB (kSeq (kReg (kMovC rfl (kMovC rfl (kDone (kRet (endRetA (ra := [.one (.d _)]) rfl ?_)))))))))))))))))))
    obtain rfl : i = a.length := by omega
    refine ⟨rfl, ?_⟩
    show encI (marksI a.length k ++ a.drop a.length) = _
    simp

def c_laws_markRrS : C := (.seq (.reg false (.op 0 [] (some 4) none false (.mov (.v (.int .i64 0)))
  .done))
 (.seq (.seq (.reg false (.op 0 [] (some 5) none false (.mov (.v (.int .i64 0)))
  .done))
 (.block 0 (.loop (.seq (.seq (.reg false (.op 0 [] (some 6) none false (.mov (.t 5))
  (.op 1 [] (some 7) none false (.mov (.t 0))
  (.op 2 [] (some 8) none false (.len (.t 7))
  (.op 3 [] (some 9) none false (.bin .lss (.t 6) (.t 8))
  .done)))))
 (.cond (.t 9)
 .skip
 (.exit 0)))
 (.seq (.block 1 (.seq (.reg false (.op 0 [] (some 12) none false (.mov (.t 0))
  (.op 1 [] (some 13) none false (.mov (.t 5))
  (.op 2 [] (some 14) none false (.iad 7 (.t 12) (.t 13))
  (.op 3 [] (some 15) none false (.fad (.t 14) 0)
  (.op 4 [] (some 16) none false (.fad (.t 15) 0)
  (.op 5 [] (some 17) none false (.load none (.t 16))
  (.op 6 [] (some 18) none false (.mov (.t 1))
  (.op 7 [] (some 19) none false (.call 19 55 [(.t 17), (.t 18)])
  (.op 8 [] (some 1) none false (.mov (.t 19))
  .done))))))))))
 (.seq (.reg false (.op 0 [] (some 20) none false (.mov (.t 0))
  (.op 1 [] (some 21) none false (.mov (.t 5))
  (.op 2 [] (some 22) none false (.mov (.t 1))
  (.op 3 [] (some 23) none false (.iad 7 (.t 20) (.t 21))
  (.op 4 [] (some 24) none false (.fad (.t 23) 1)
  (.op 5 [] none none false (.store none (.t 24) (.t 22))
  .done)))))))
 (.seq (.reg false (.op 0 [] (some 25) none false (.mov (.t 1))
  (.op 1 [] (some 26) none false (.bin .add (.t 25) (.v (.int .i64 1)))
  (.op 2 [] (some 1) none false (.mov (.t 26))
  .done))))
 (.seq (.reg false (.op 0 [] (some 27) none false (.mov (.t 0))
  (.op 1 [] (some 28) none false (.mov (.t 5))
  (.op 2 [] (some 29) none false (.mov (.t 1))
  (.op 3 [] (some 30) none false (.iad 7 (.t 27) (.t 28))
  (.op 4 [] (some 31) none false (.fad (.t 30) 2)
  (.op 5 [] none none false (.store none (.t 31) (.t 29))
  .done)))))))
 (.seq (.reg false (.op 0 [] (some 32) none false (.mov (.t 1))
  (.op 1 [] (some 33) none false (.bin .add (.t 32) (.v (.int .i64 1)))
  (.op 2 [] (some 1) none false (.mov (.t 33))
  .done))))
 (.seq (.reg false (.op 0 [] (some 34) none false (.mov (.t 0))
  (.op 1 [] (some 35) none false (.mov (.t 5))
  (.op 2 [] (some 36) none false (.mov (.t 1))
  (.op 3 [] (some 37) none false (.iad 7 (.t 34) (.t 35))
  (.op 4 [] (some 38) none false (.fad (.t 37) 3)
  (.op 5 [] none none false (.store none (.t 38) (.t 36))
  .done)))))))
 (.seq (.reg false (.op 0 [] (some 39) none false (.mov (.t 1))
  (.op 1 [] (some 40) none false (.bin .add (.t 39) (.v (.int .i64 1)))
  (.op 2 [] (some 1) none false (.mov (.t 40))
  .done))))
 (.seq (.reg false (.op 0 [] (some 41) none false (.mov (.t 0))
  (.op 1 [] (some 42) none false (.mov (.t 5))
  (.op 2 [] (some 43) none false (.iad 7 (.t 41) (.t 42))
  (.op 3 [] (some 44) none false (.fad (.t 43) 4)
  (.op 4 [] (some 45) none false (.fad (.t 44) 0)
  (.op 5 [] (some 46) none false (.load none (.t 45))
  (.op 6 [] (some 47) none false (.mov (.t 1))
  (.op 7 [] (some 48) none false (.call 48 55 [(.t 46), (.t 47)])
  (.op 8 [] (some 1) none false (.mov (.t 48))
  .done))))))))))
 (.seq (.reg false (.op 0 [] (some 49) none false (.mov (.t 0))
  (.op 1 [] (some 50) none false (.mov (.t 5))
  (.op 2 [] (some 51) none false (.iad 7 (.t 49) (.t 50))
  (.op 3 [] (some 52) none false (.fad (.t 51) 5)
  (.op 4 [] (some 53) none false (.load none (.t 52))
  (.op 5 [] (some 54) none false (.mov (.t 1))
  (.op 6 [] (some 55) none false (.call 55 56 [(.t 53), (.t 54)])
  (.op 7 [] (some 1) none false (.mov (.t 55))
  .done)))))))))
 (.reg false (.op 0 [] (some 56) none false (.mov (.t 0))
  (.op 1 [] (some 57) none false (.mov (.t 5))
  (.op 2 [] (some 58) none false (.iad 7 (.t 56) (.t 57))
  (.op 3 [] (some 59) none false (.fad (.t 58) 6)
  (.op 4 [] (some 60) none false (.load none (.t 59))
  (.op 5 [] (some 61) none false (.mov (.t 1))
  (.op 6 [] (some 62) none false (.call 62 57 [(.t 60), (.t 61)])
  (.op 7 [] (some 1) none false (.mov (.t 62))
  .done)))))))))))))))))))
 (.reg false (.op 0 [] (some 10) none false (.mov (.t 5))
  (.op 1 [] (some 11) none false (.bin .add (.t 10) (.v (.int .i64 1)))
  (.op 2 [] (some 5) none false (.mov (.t 11))
  .done)))))))))
 (.seq (.reg false (.op 0 [] (some 63) none false (.mov (.t 1))
  (.op 1 [] (some 4) none false (.mov (.t 63))
  .done)))
 .ret)))
theorem dg_laws_markRrS : Tryz.f17.body.bind (digC Tryz.prog Tryz.f17.ntmps []) = some c_laws_markRrS := by kernel_rfl
theorem rs_laws_markRrS : resSlots Tryz.prog Tryz.f17 = some [.s 4] := by kernel_rfl
theorem ok_laws_markRrS (l : List Rr) (k : Int) (h0 : 0 ≤ k) (hk : k + cntRs l ≤ 9223372036854775807) (hs : SmallRs l) :
    FnOK Tryz.prog 17 [.one (.arr false true (encR l)), .one (.d (.sc (.int .i64 k)))] (fun ra os => ra = [.one (.d (.sc (.int .i64 (k + cntRs l))))] ∧ os.a 0 = encR (markRs l k)) := by
  refine FnOK.ofK Tryz.func17 (by kernel_rfl) dg_laws_markRrS rs_laws_markRrS rfl rfl ?_
  unfold c_laws_markRrS
  have h1 := hs.len
  refine kSeq (kReg (kMovC rfl (kDone (kSeq (kSeq (kReg (kMovC rfl (kDone (kBlock ?_)))))))))
  generalize hF : (St.init [.one (.arr false true (encR l)), .one (.d (.sc (.int .i64 k)))]).ob = F
  refine kLoop (α := { i : Nat // i ≤ l.length })
    (fun y => ⟨tabSl [(0, .c (.arr 0 0)), (1, .i (k + (cntRs (l.take y.1) : Int))), (5, .i y.1)], upd F 0 ⟨0, 7 * y.1, .arr true (encR (markRs (l.take y.1) k ++ l.drop y.1))⟩, []⟩) (fun y => l.length - y.1) ⟨0, by simp⟩
    (.tab (by subst hF; exact upd_self rfl) ⟨.refl _, by simpa using .refl _, .refl _, trivial⟩) ?_
  rintro ⟨i, hi⟩
  simp only
  have hlen : (markRs (l.take i) k).length = i := by rw [markRs_len]; simp; omega
  have hlen' : (markRs (l.take i) k ++ l.drop i).length = l.length := by simp [hlen]; omega
  have hle := cntRs_le l i
  have hle2 := cntRs_le l (i + 1)
  rcases Nat.lt_or_ge i l.length with hlt | hge
  · have hbi := hs.mem _ (List.getElem_mem hlt)
    have hsuc := cntRs_take l i hlt
    have hget : (markRs (l.take i) k ++ l.drop i)[i]'(by omega) = l[i] := by
      rw [List.getElem_append_right (by omega)]; simp [hlen]
    have hset := set_self (markRs (l.take i) k ++ l.drop i) i (by omega)
    rw [hget] at hset
    have hfin : ∀ R : Rr, R = markR l[i] (k + cntRs (l.take i)) → (markRs (l.take i) k ++ l.drop i).set i R = markRs (l.take (i + 1)) k ++ l.drop (i + 1) := by
      rintro R rfl
      rw [take_set_succ _ _ _ _ hlt hlen, ← List.take_append_getElem hlt, markRs_append]
    have hc : cntR l[i] = l[i].name.flatten.length + 3 + l[i].to.flatten.length + l[i].text.length + l[i].nums.length := rfl
    clear hget
    revert hset hfin hlen'
    generalize markRs (l.take i) k ++ l.drop i = L
    generalize hr : l[i] = r at hc hbi hsuc
    generalize hK : k + (cntRs (l.take i) : Int) = K
    intro hlen' hset hfin
    have n1 := hbi.n.len
    have t1 := hbi.t.len
    have x1 := hbi.x
    have m1 := hbi.m
    have hiL : i < L.length := by omega
    have hKn : 0 ≤ K := by omega
    have hKm : K + cntR r ≤ 9223372036854775807 := by omega
    refine kSub (t := ⟨tabSl [(0, .c (.arr 0 0)), (1, .i (K)), (5, .i i)], upd F 0 ⟨0, 7 * i, .arr true (encR (L.set i r))⟩, []⟩) (.tab (by rw [hset]) ⟨.refl _, .refl _, .refl _, trivial⟩) ?_
    refine kSeq (kSeq (kReg (kMovC rfl (kMovC rfl (kLen rfl rfl rfl (kBin rfl rfl rfl (kDone ?_)))))))
    rw [len_encR, List.length_set]
    refine kCond rfl (fun h1 => ?_) (fun h1 => by exfalso; simp at h1; omega)
    refine kSkip (kSeq (kBlock ?_))
    refine kSeq (kReg ?_)
    refine kMovC rfl (kMovC rfl (kIadA rfl rfl rfl rfl ?_ ?_))
    · rw [len_encR, List.length_set]; omega
    refine kFadE rfl rfl (kFadE rfl rfl (?_))
    refine kLoadE rfl rfl (v := .c (.sub 0 0 (7 * i) i 0)) ?_ (kMovC rfl ?_)
    · show pickCells none (AC.ofCells 0 0 (7 * i) i 0 (((encR (L.set i ⟨r.name, r.ty, r.ttl, r.addr, r.to, r.text, r.nums⟩)).row i).drop 0)) = _
      rw [row_encRS _ _ _ hiL]
      rfl
    refine kCallS (ok_laws_markByteSS r.name K (by omega) (by omega) n1) rfl ⟨⟨rfl, rfl, rfl, rfl, rfl, rfl, (at_encRS L i 0 ⟨r.name, r.ty, r.ttl, r.addr, r.to, r.text, r.nums⟩ hiL).symm, rfl⟩, rfl, trivial⟩ ?_ rfl ?_
    · simp [encR, DV.rows]; omega
    rintro ra os ⟨rfl, ho⟩
    refine ⟨_, rfl, ?_⟩
    refine kMovC rfl (kDone ?_)
    refine kSub (t := ⟨tabSl [(0, .c (.arr 0 0)), (1, .i (K + (r.name.flatten.length : Int))), (5, .i i)], upd F 0 ⟨0, (7 * i + 1), .arr true (encR (L.set i ⟨markss r.name (K), r.ty, r.ttl, r.addr, r.to, r.text, r.nums⟩))⟩, []⟩) (.tab ?_ ⟨.refl _, .refl _, .refl _, trivial⟩) ?_
    · refine Eq.trans ?_ (upd_upd _ _ _ _).symm
      refine congrArg (upd _ _) ?_
      show _ = Ob.mk _ _ (OK.arr _ ((encR (L.set i ⟨r.name, r.ty, r.ttl, r.addr, r.to, r.text, r.nums⟩)).setCell i 0 (os.a 0)))
      rw [ho, setCell_encRS L i 0 ⟨r.name, r.ty, r.ttl, r.addr, r.to, r.text, r.nums⟩ ⟨markss r.name (K), r.ty, r.ttl, r.addr, r.to, r.text, r.nums⟩ _ hiL rfl]
      try rfl
    refine kSeq (kReg ?_)
    refine kMovC rfl (kMovC rfl (kMovC rfl (kIadA rfl rfl rfl rfl ?_ (kFadE rfl rfl ?_))))
    · rw [len_encR, List.length_set]; omega
    refine kStoreE1 rfl rfl rfl rfl (by simp [encR, DV.esz]) (kDone ?_)
    refine kSub (t := ⟨tabSl [(0, .c (.arr 0 0)), (1, .i (K + (r.name.flatten.length : Int))), (5, .i i)], upd F 0 ⟨0, (7 * i + 2), .arr true (encR (L.set i ⟨markss r.name (K), (K + (r.name.flatten.length : Int)), r.ttl, r.addr, r.to, r.text, r.nums⟩))⟩, []⟩) (.tab ?_ ⟨.refl _, .refl _, .refl _, trivial⟩) ?_
    · refine Eq.trans ?_ (upd_upd _ _ _ _).symm
      refine congrArg (upd _ _) ?_
      show _ = Ob.mk _ _ (OK.arr _ (setRow (encR (L.set i ⟨markss r.name (K), r.ty, r.ttl, r.addr, r.to, r.text, r.nums⟩)) i 1 _))
      rw [setRow_encRS L i 1 ⟨markss r.name (K), r.ty, r.ttl, r.addr, r.to, r.text, r.nums⟩ ⟨markss r.name (K), (K + (r.name.flatten.length : Int)), r.ttl, r.addr, r.to, r.text, r.nums⟩ _ hiL rfl]
      try rfl
    refine kSeq (kReg (kMovC rfl (kAdd rfl rfl (by omega) (kMovC rfl (kDone ?_)))))
    refine kSeq (kReg ?_)
    refine kMovC rfl (kMovC rfl (kMovC rfl (kIadA rfl rfl rfl rfl ?_ (kFadE rfl rfl ?_))))
    · rw [len_encR, List.length_set]; omega
    refine kStoreE1 rfl rfl rfl rfl (by simp [encR, DV.esz]) (kDone ?_)
    refine kSub (t := ⟨tabSl [(0, .c (.arr 0 0)), (1, .i (K + (r.name.flatten.length : Int) + 1)), (5, .i i)], upd F 0 ⟨0, (7 * i + 3), .arr true (encR (L.set i ⟨markss r.name (K), (K + (r.name.flatten.length : Int)), (K + (r.name.flatten.length : Int) + 1), r.addr, r.to, r.text, r.nums⟩))⟩, []⟩) (.tab ?_ ⟨.refl _, .refl _, .refl _, trivial⟩) ?_
    · refine Eq.trans ?_ (upd_upd _ _ _ _).symm
      refine congrArg (upd _ _) ?_
      show _ = Ob.mk _ _ (OK.arr _ (setRow (encR (L.set i ⟨markss r.name (K), (K + (r.name.flatten.length : Int)), r.ttl, r.addr, r.to, r.text, r.nums⟩)) i 2 _))
      rw [setRow_encRS L i 2 ⟨markss r.name (K), (K + (r.name.flatten.length : Int)), r.ttl, r.addr, r.to, r.text, r.nums⟩ ⟨markss r.name (K), (K + (r.name.flatten.length : Int)), (K + (r.name.flatten.length : Int) + 1), r.addr, r.to, r.text, r.nums⟩ _ hiL rfl]
      try rfl
    refine kSeq (kReg (kMovC rfl (kAdd rfl rfl (by omega) (kMovC rfl (kDone ?_)))))
    refine kSeq (kReg ?_)
    refine kMovC rfl (kMovC rfl (kMovC rfl (kIadA rfl rfl rfl rfl ?_ (kFadE rfl rfl ?_))))
    · rw [len_encR, List.length_set]; omega
    refine kStoreE1 rfl rfl rfl rfl (by simp [encR, DV.esz]) (kDone ?_)
    refine kSub (t := ⟨tabSl [(0, .c (.arr 0 0)), (1, .i (K + (r.name.flatten.length : Int) + 1 + 1)), (5, .i i)], upd F 0 ⟨0, (7 * i + 4), .arr true (encR (L.set i ⟨markss r.name (K), (K + (r.name.flatten.length : Int)), (K + (r.name.flatten.length : Int) + 1), (K + (r.name.flatten.length : Int) + 1 + 1), r.to, r.text, r.nums⟩))⟩, []⟩) (.tab ?_ ⟨.refl _, .refl _, .refl _, trivial⟩) ?_
    · refine Eq.trans ?_ (upd_upd _ _ _ _).symm
      refine congrArg (upd _ _) ?_
      show _ = Ob.mk _ _ (OK.arr _ (setRow (encR (L.set i ⟨markss r.name (K), (K + (r.name.flatten.length : Int)), (K + (r.name.flatten.length : Int) + 1), r.addr, r.to, r.text, r.nums⟩)) i 3 _))
      rw [setRow_encRS L i 3 ⟨markss r.name (K), (K + (r.name.flatten.length : Int)), (K + (r.name.flatten.length : Int) + 1), r.addr, r.to, r.text, r.nums⟩ ⟨markss r.name (K), (K + (r.name.flatten.length : Int)), (K + (r.name.flatten.length : Int) + 1), (K + (r.name.flatten.length : Int) + 1 + 1), r.to, r.text, r.nums⟩ _ hiL rfl]
      try rfl
    refine kSeq (kReg (kMovC rfl (kAdd rfl rfl (by omega) (kMovC rfl (kDone ?_)))))
    refine kSeq (kReg ?_)
    refine kMovC rfl (kMovC rfl (kIadA rfl rfl rfl rfl ?_ ?_))
    · rw [len_encR, List.length_set]; omega
    refine kFadE rfl rfl (kFadE rfl rfl (?_))
    refine kLoadE rfl rfl (v := .c (.sub 0 0 (7 * i + 4) i 4)) ?_ (kMovC rfl ?_)
    · show pickCells none (AC.ofCells 0 0 (7 * i + 4) i 4 (((encR (L.set i ⟨markss r.name (K), (K + (r.name.flatten.length : Int)), (K + (r.name.flatten.length : Int) + 1), (K + (r.name.flatten.length : Int) + 1 + 1), r.to, r.text, r.nums⟩)).row i).drop 4)) = _
      rw [row_encRS _ _ _ hiL]
      rfl
    refine kCallS (ok_laws_markByteSS r.to _ (by omega) (by omega) t1) rfl ⟨⟨rfl, rfl, rfl, rfl, rfl, rfl, (at_encRS L i 4 ⟨markss r.name (K), (K + (r.name.flatten.length : Int)), (K + (r.name.flatten.length : Int) + 1), (K + (r.name.flatten.length : Int) + 1 + 1), r.to, r.text, r.nums⟩ hiL).symm, rfl⟩, rfl, trivial⟩ ?_ rfl ?_
    · simp [encR, DV.rows]; omega
    rintro ra os ⟨rfl, ho⟩
    refine ⟨_, rfl, ?_⟩
    refine kMovC rfl (kDone ?_)
    refine kSub (t := ⟨tabSl [(0, .c (.arr 0 0)), (1, .i (K + (r.name.flatten.length : Int) + 1 + 1 + 1 + (r.to.flatten.length : Int))), (5, .i i)], upd F 0 ⟨0, (7 * i + 5), .arr true (encR (L.set i ⟨markss r.name (K), (K + (r.name.flatten.length : Int)), (K + (r.name.flatten.length : Int) + 1), (K + (r.name.flatten.length : Int) + 1 + 1), markss r.to (K + (r.name.flatten.length : Int) + 1 + 1 + 1), r.text, r.nums⟩))⟩, []⟩) (.tab ?_ ⟨.refl _, .refl _, .refl _, trivial⟩) ?_
    · refine Eq.trans ?_ (upd_upd _ _ _ _).symm
      refine congrArg (upd _ _) ?_
      show _ = Ob.mk _ _ (OK.arr _ ((encR (L.set i ⟨markss r.name (K), (K + (r.name.flatten.length : Int)), (K + (r.name.flatten.length : Int) + 1), (K + (r.name.flatten.length : Int) + 1 + 1), r.to, r.text, r.nums⟩)).setCell i 4 (os.a 0)))
      rw [ho, setCell_encRS L i 4 ⟨markss r.name (K), (K + (r.name.flatten.length : Int)), (K + (r.name.flatten.length : Int) + 1), (K + (r.name.flatten.length : Int) + 1 + 1), r.to, r.text, r.nums⟩ ⟨markss r.name (K), (K + (r.name.flatten.length : Int)), (K + (r.name.flatten.length : Int) + 1), (K + (r.name.flatten.length : Int) + 1 + 1), markss r.to (K + (r.name.flatten.length : Int) + 1 + 1 + 1), r.text, r.nums⟩ _ hiL rfl]
      try rfl
    refine kSeq (kReg ?_)
    refine kMovC rfl (kMovC rfl (kIadA rfl rfl rfl rfl ?_ ?_))
    · rw [len_encR, List.length_set]; omega
    refine kFadE rfl rfl (?_)
    refine kLoadE rfl rfl (v := .c (.sub 0 0 (7 * i + 5) i 5)) ?_ (kMovC rfl ?_)
    · show pickCells none (AC.ofCells 0 0 (7 * i + 5) i 5 (((encR (L.set i ⟨markss r.name (K), (K + (r.name.flatten.length : Int)), (K + (r.name.flatten.length : Int) + 1), (K + (r.name.flatten.length : Int) + 1 + 1), markss r.to (K + (r.name.flatten.length : Int) + 1 + 1 + 1), r.text, r.nums⟩)).row i).drop 5)) = _
      rw [row_encRS _ _ _ hiL]
      rfl
    refine kCallS (ok_laws_markByteS r.text _ (by omega) (by omega)) rfl ⟨⟨rfl, rfl, rfl, rfl, rfl, rfl, (at_encRS L i 5 ⟨markss r.name (K), (K + (r.name.flatten.length : Int)), (K + (r.name.flatten.length : Int) + 1), (K + (r.name.flatten.length : Int) + 1 + 1), markss r.to (K + (r.name.flatten.length : Int) + 1 + 1 + 1), r.text, r.nums⟩ hiL).symm, rfl⟩, rfl, trivial⟩ ?_ rfl ?_
    · simp [encR, DV.rows]; omega
    rintro ra os ⟨rfl, ho⟩
    refine ⟨_, rfl, ?_⟩
    refine kMovC rfl (kDone ?_)
    refine kSub (t := ⟨tabSl [(0, .c (.arr 0 0)), (1, .i (K + (r.name.flatten.length : Int) + 1 + 1 + 1 + (r.to.flatten.length : Int) + (r.text.length : Int))), (5, .i i)], upd F 0 ⟨0, (7 * i + 6), .arr true (encR (L.set i ⟨markss r.name (K), (K + (r.name.flatten.length : Int)), (K + (r.name.flatten.length : Int) + 1), (K + (r.name.flatten.length : Int) + 1 + 1), markss r.to (K + (r.name.flatten.length : Int) + 1 + 1 + 1), marks r.text.length (K + (r.name.flatten.length : Int) + 1 + 1 + 1 + (r.to.flatten.length : Int)), r.nums⟩))⟩, []⟩) (.tab ?_ ⟨.refl _, .refl _, .refl _, trivial⟩) ?_
    · refine Eq.trans ?_ (upd_upd _ _ _ _).symm
      refine congrArg (upd _ _) ?_
      show _ = Ob.mk _ _ (OK.arr _ ((encR (L.set i ⟨markss r.name (K), (K + (r.name.flatten.length : Int)), (K + (r.name.flatten.length : Int) + 1), (K + (r.name.flatten.length : Int) + 1 + 1), markss r.to (K + (r.name.flatten.length : Int) + 1 + 1 + 1), r.text, r.nums⟩)).setCell i 5 (os.a 0)))
      rw [ho, setCell_encRS L i 5 ⟨markss r.name (K), (K + (r.name.flatten.length : Int)), (K + (r.name.flatten.length : Int) + 1), (K + (r.name.flatten.length : Int) + 1 + 1), markss r.to (K + (r.name.flatten.length : Int) + 1 + 1 + 1), r.text, r.nums⟩ ⟨markss r.name (K), (K + (r.name.flatten.length : Int)), (K + (r.name.flatten.length : Int) + 1), (K + (r.name.flatten.length : Int) + 1 + 1), markss r.to (K + (r.name.flatten.length : Int) + 1 + 1 + 1), marks r.text.length (K + (r.name.flatten.length : Int) + 1 + 1 + 1 + (r.to.flatten.length : Int)), r.nums⟩ _ hiL rfl]
      try rfl
    refine kReg ?_
    refine kMovC rfl (kMovC rfl (kIadA rfl rfl rfl rfl ?_ ?_))
    · rw [len_encR, List.length_set]; omega
    refine kFadE rfl rfl (?_)
    refine kLoadE rfl rfl (v := .c (.sub 0 0 (7 * i + 6) i 6)) ?_ (kMovC rfl ?_)
    · show pickCells none (AC.ofCells 0 0 (7 * i + 6) i 6 (((encR (L.set i ⟨markss r.name (K), (K + (r.name.flatten.length : Int)), (K + (r.name.flatten.length : Int) + 1), (K + (r.name.flatten.length : Int) + 1 + 1), markss r.to (K + (r.name.flatten.length : Int) + 1 + 1 + 1), marks r.text.length (K + (r.name.flatten.length : Int) + 1 + 1 + 1 + (r.to.flatten.length : Int)), r.nums⟩)).row i).drop 6)) = _
      rw [row_encRS _ _ _ hiL]
      rfl
    refine kCallS (ok_laws_markIntS r.nums _ (by omega) (by omega)) rfl ⟨⟨rfl, rfl, rfl, rfl, rfl, rfl, (at_encRS L i 6 ⟨markss r.name (K), (K + (r.name.flatten.length : Int)), (K + (r.name.flatten.length : Int) + 1), (K + (r.name.flatten.length : Int) + 1 + 1), markss r.to (K + (r.name.flatten.length : Int) + 1 + 1 + 1), marks r.text.length (K + (r.name.flatten.length : Int) + 1 + 1 + 1 + (r.to.flatten.length : Int)), r.nums⟩ hiL).symm, rfl⟩, rfl, trivial⟩ ?_ rfl ?_
    · simp [encR, DV.rows]; omega
    rintro ra os ⟨rfl, ho⟩
    refine ⟨_, rfl, ?_⟩
    refine kMovC rfl (kDone (kBk ?_))
    refine kSub (t := ⟨tabSl [(0, .c (.arr 0 0)), (1, .i (K + (r.name.flatten.length : Int) + 1 + 1 + 1 + (r.to.flatten.length : Int) + (r.text.length : Int) + (r.nums.length : Int))), (5, .i i)], upd F 0 ⟨0, (7 * i + 7), .arr true (encR (L.set i ⟨markss r.name (K), (K + (r.name.flatten.length : Int)), (K + (r.name.flatten.length : Int) + 1), (K + (r.name.flatten.length : Int) + 1 + 1), markss r.to (K + (r.name.flatten.length : Int) + 1 + 1 + 1), marks r.text.length (K + (r.name.flatten.length : Int) + 1 + 1 + 1 + (r.to.flatten.length : Int)), marksI r.nums.length (K + (r.name.flatten.length : Int) + 1 + 1 + 1 + (r.to.flatten.length : Int) + (r.text.length : Int))⟩))⟩, []⟩) (.tab ?_ ⟨.refl _, .refl _, .refl _, trivial⟩) ?_
    · refine Eq.trans ?_ (upd_upd _ _ _ _).symm
      refine congrArg (upd _ _) ?_
      show _ = Ob.mk _ _ (OK.arr _ ((encR (L.set i ⟨markss r.name (K), (K + (r.name.flatten.length : Int)), (K + (r.name.flatten.length : Int) + 1), (K + (r.name.flatten.length : Int) + 1 + 1), markss r.to (K + (r.name.flatten.length : Int) + 1 + 1 + 1), marks r.text.length (K + (r.name.flatten.length : Int) + 1 + 1 + 1 + (r.to.flatten.length : Int)), r.nums⟩)).setCell i 6 (os.a 0)))
      rw [ho, setCell_encRS L i 6 ⟨markss r.name (K), (K + (r.name.flatten.length : Int)), (K + (r.name.flatten.length : Int) + 1), (K + (r.name.flatten.length : Int) + 1 + 1), markss r.to (K + (r.name.flatten.length : Int) + 1 + 1 + 1), marks r.text.length (K + (r.name.flatten.length : Int) + 1 + 1 + 1 + (r.to.flatten.length : Int)), r.nums⟩ ⟨markss r.name (K), (K + (r.name.flatten.length : Int)), (K + (r.name.flatten.length : Int) + 1), (K + (r.name.flatten.length : Int) + 1 + 1), markss r.to (K + (r.name.flatten.length : Int) + 1 + 1 + 1), marks r.text.length (K + (r.name.flatten.length : Int) + 1 + 1 + 1 + (r.to.flatten.length : Int)), marksI r.nums.length (K + (r.name.flatten.length : Int) + 1 + 1 + 1 + (r.to.flatten.length : Int) + (r.text.length : Int))⟩ _ hiL rfl]
      try rfl
    rw [hfin _ (by rw [← hr, ← hK]; rfl)]
    refine kReg (kMovC rfl (kAdd rfl rfl (by omega) (kMovC rfl (kDone (kInv ?_)))))
    refine ⟨⟨i + 1, hlt⟩, by simp only; omega, .tab rfl ⟨.refl _, ?_, .refl _, trivial⟩⟩
    refine Eq.mp (congrArg (fun z => WkV _ (.i z)) ?_) (.refl _)
    show _ = k + ((cntRs (l.take (i + 1)) : Nat) : Int)
    omega
  · refine kSeq (kSeq (kReg (kMovC rfl (kMovC rfl (kLen rfl rfl rfl (kBin rfl rfl rfl (kDone ?_)))))))
    rw [len_encR, hlen']
    refine kCond rfl (fun h1 => by exfalso; simp at h1; omega) (fun h1 => ?_)
    refine kExit (kExC (kExI (kExB ?_)))
    obtain rfl : i = l.length := by omega
    refine kSeq (kReg (kMovC rfl (kMovC rfl (kDone (kRet ?_)))))
    subst hF
    refine endRet (ra := [.one (.d _)]) rfl ⟨⟨⟨rfl, .inl rfl⟩, trivial⟩, .nil, ⟨rfl, fun _ => rfl, rfl⟩, trivial, trivial⟩ ?_
    refine ⟨by simp, ?_⟩
    show encR (markRs (l.take l.length) k ++ l.drop l.length) = _
    simp


def c_laws_markTask : C := (.seq (.reg false (.op 0 [] (some 2) none false (.box 2 (.t 0))
  (.op 1 [] (some 4) none false (.mov (.v (.int .i64 0)))
  .done)))
 (.seq (.reg false (.op 0 [] (some 5) none false (.fad (.t 2) 2)
  (.op 1 [] (some 6) none false (.load (some 2) (.t 5))
  (.op 2 [] (some 7) none false (.mov (.t 1))
  (.op 3 [] (some 8) none false (.call 8 76 [(.t 6), (.t 7)])
  (.op 4 [] (some 1) none false (.mov (.t 8))
  .done))))))
 (.seq (.reg false (.op 0 [] (some 9) none false (.fad (.t 2) 4)
  (.op 1 [] (some 10) none false (.load (some 1) (.t 9))
  (.op 2 [] (some 11) none false (.mov (.t 1))
  (.op 3 [] (some 12) none false (.call 12 34 [(.t 10), (.t 11)])
  (.op 4 [] (some 1) none false (.mov (.t 12))
  .done))))))
 (.seq (.reg false (.op 0 [] (some 13) none false (.fad (.t 2) 5)
  (.op 1 [] (some 14) none false (.load (some 1) (.t 13))
  (.op 2 [] (some 15) none false (.mov (.t 1))
  (.op 3 [] (some 16) none false (.call 16 34 [(.t 14), (.t 15)])
  (.op 4 [] (some 1) none false (.mov (.t 16))
  .done))))))
 (.seq (.reg false (.op 0 [] (some 17) none false (.fad (.t 2) 6)
  (.op 1 [] (some 18) none false (.load none (.t 17))
  (.op 2 [] (some 19) none false (.mov (.t 1))
  (.op 3 [] (some 20) none false (.call 20 57 [(.t 18), (.t 19)])
  (.op 4 [] (some 1) none false (.mov (.t 20))
  .done))))))
 (.seq (.reg false (.op 0 [] (some 21) none false (.fad (.t 2) 7)
  (.op 1 [] (some 22) none false (.load none (.t 21))
  (.op 2 [] (some 23) none false (.mov (.t 1))
  (.op 3 [] (some 24) none false (.call 24 57 [(.t 22), (.t 23)])
  (.op 4 [] (some 1) none false (.mov (.t 24))
  .done))))))
 (.seq (.reg false (.op 0 [] (some 25) none false (.fad (.t 2) 12)
  (.op 1 [] (some 26) none false (.load none (.t 25))
  (.op 2 [] (some 27) none false (.mov (.t 1))
  (.op 3 [] (some 28) none false (.call 28 17 [(.t 26), (.t 27)])
  (.op 4 [] (some 1) none false (.mov (.t 28))
  .done))))))
 (.seq (.reg false (.op 0 [] (some 29) none false (.mov (.t 1))
  (.op 1 [] (some 4) none false (.mov (.t 29))
  .done)))
 .ret))))))))
theorem dg_laws_markTask : Tryz.f27.body.bind (digC Tryz.prog Tryz.f27.ntmps []) = some c_laws_markTask := by kernel_rfl
theorem rs_laws_markTask : resSlots Tryz.prog Tryz.f27 = some [.s 4] := by kernel_rfl
theorem ok_laws_markTask (t : Task) (k : Int) (h0 : 0 ≤ k) (hk : k + cntT t ≤ 9223372036854775807) (hs : SmallT t) :
    FnOK Tryz.prog 27 [.agg [.d (.sc (.int .i64 t.state)), .d (.sc (.int .i64 t.id)), .arr false true (encBB t.fname), .d (.sc (.int .i64 t.ftype)), .arr false true (encBB t.name), .arr false true (encBB t.zone), .arr false true (encI t.hints), .arr false true (encI t.servers), .d (.sc (.int .i64 t.turn)), .d (.sc (.int .i64 t.sends)), .d (.sc (.int .i64 t.steps)), .d (.sc (.int .i64 t.code)), .arr false true (encR t.answers)], .one (.d (.sc (.int .i64 k)))] (fun ra os => ra = [.one (.d (.sc (.int .i64 (k + cntT t))))] ∧ outsAre [(2, encBB (markT t k).fname), (4, encBB (markT t k).name), (5, encBB (markT t k).zone), (6, encI (markT t k).hints), (7, encI (markT t k).servers), (12, encR (markT t k).answers)] os) := by
  refine FnOK.ofK Tryz.func27 (by kernel_rfl) dg_laws_markTask rs_laws_markTask rfl rfl ?_
  unfold c_laws_markTask
  have n1 := hs.n.len
  have n2 := hs.n.mem
  have f1 := hs.f.len
  have f2 := hs.f.mem
  have z1 := hs.z.len
  have z2 := hs.z.mem
  have h1 := hs.h
  have s1 := hs.s
  have a1 := hs.a
  have hc := cntT_eq t k
  refine kSeq (kReg (kBox rfl rfl rfl rfl rfl (kMovC rfl (kDone (kSeq (kReg (kFadP rfl rfl (kLoadP rfl rfl rfl (kMovC rfl (kCallA (ok_laws_markQuestion _ _ _ (by first | assumption | omega | solve_by_elim [List.getElem_mem] | (simp only [szOut] at *; omega)) (by first | assumption | omega | solve_by_elim [List.getElem_mem] | (simp only [szOut] at *; omega)) (by first | assumption | omega | solve_by_elim [List.getElem_mem] | (simp only [szOut] at *; omega))) ⟨⟨⟨⟨_, rfl, .inl rfl⟩, rfl, trivial⟩, Nat.le_of_ble_eq_true rfl⟩, rfl, trivial⟩ rfl rfl rfl rfl (kMovC rfl (kDone (kSeq (kReg (kFadP rfl rfl (kLoadP rfl rfl rfl (kMem [(4, ⟨0, 0, .arr true _⟩)] [(1, .c (.d _)), (10, .g [.arr 4 0]), (11, .c (.un)), (12, .c (.un))] [] ⟨rfl, trivial⟩ ⟨rfl, rfl, rfl, rfl, trivial⟩ rfl (kMovC rfl (kCallA (ok_laws_markName _ _ (by first | assumption | omega | solve_by_elim [List.getElem_mem] | (simp only [szOut] at *; omega)) (by first | assumption | omega | solve_by_elim [List.getElem_mem] | (simp only [szOut] at *; omega)) (by first | assumption | omega | solve_by_elim [List.getElem_mem] | (simp only [szOut] at *; omega))) ⟨⟨⟨⟨_, rfl, .inl rfl⟩, trivial⟩, Nat.le_of_ble_eq_true rfl⟩, rfl, trivial⟩ rfl rfl rfl rfl (kMovC rfl (kDone (kSeq (kReg (kFadP rfl rfl (kLoadP rfl rfl rfl (kMovC rfl (kCallA (ok_laws_markName _ _ (by first | assumption | omega | solve_by_elim [List.getElem_mem] | (simp only [szOut] at *; omega)) (by first | assumption | omega | solve_by_elim [List.getElem_mem] | (simp only [szOut] at *; omega)) (by first | assumption | omega | solve_by_elim [List.getElem_mem] | (simp only [szOut] at *; omega))) ⟨⟨⟨⟨_, rfl, .inl rfl⟩, trivial⟩, Nat.le_of_ble_eq_true rfl⟩, rfl, trivial⟩ rfl rfl rfl rfl (kMovC rfl (kDone (kSeq (kReg (kFadP rfl rfl (kMem [(12288, ⟨1, 0, .box [.d _, .d _, .arr 2 0, .d _, .arr 4 0, .arr 5 0, .arr 6 0, .arr 7 0, .d _, .d _, .d _, .d _, .arr 12 0]⟩), (2, ⟨0, 1, .arr true _⟩), (4, ⟨0, 1, .arr true _⟩), (5, ⟨0, 1, .arr true _⟩), (6, ⟨0, 0, .arr true _⟩), (7, ⟨0, 0, .arr true _⟩), (12, ⟨0, 0, .arr true _⟩)] [(17, .c (.ptr 12288 1 6)), (1, .c (.d _)), (18, .c (.un)), (19, .c (.un)), (20, .c (.un))] [] ⟨rfl, rfl, rfl, rfl, rfl, rfl, rfl, trivial⟩ ⟨rfl, rfl, rfl, rfl, rfl, trivial⟩ rfl (kLoadP rfl rfl rfl (kMovC rfl (kCallA (ok_laws_markIntS _ _ (by first | assumption | omega | solve_by_elim [List.getElem_mem] | (simp only [szOut] at *; omega)) (by first | assumption | omega | solve_by_elim [List.getElem_mem] | (simp only [szOut] at *; omega))) ⟨⟨_, rfl, .inl rfl⟩, rfl, trivial⟩ rfl rfl rfl rfl (kMovC rfl (kDone (kSeq (kReg (kFadP rfl rfl (kLoadP rfl rfl rfl (kMovC rfl (kCallA (ok_laws_markIntS _ _ (by first | assumption | omega | solve_by_elim [List.getElem_mem] | (simp only [szOut] at *; omega)) (by first | assumption | omega | solve_by_elim [List.getElem_mem] | (simp only [szOut] at *; omega))) ⟨⟨_, rfl, .inl rfl⟩, rfl, trivial⟩ rfl rfl rfl rfl (kMovC rfl (kDone (kSeq (kReg (kMem [(12288, ⟨1, 0, .box [.d _, .d _, .arr 2 0, .d _, .arr 4 0, .arr 5 0, .arr 6 0, .arr 7 0, .d _, .d _, .d _, .d _, .arr 12 0]⟩), (2, ⟨0, 1, .arr true _⟩), (4, ⟨0, 1, .arr true _⟩), (5, ⟨0, 1, .arr true _⟩), (6, ⟨0, 1, .arr true _⟩), (7, ⟨0, 1, .arr true _⟩), (12, ⟨0, 0, .arr true _⟩)] [(2, .c (.ptr 12288 1 0)), (25, .c (.un)), (1, .c (.d _)), (26, .c (.un)), (27, .c (.un)), (28, .c (.un))] [] ⟨rfl, rfl, rfl, rfl, rfl, rfl, rfl, trivial⟩ ⟨rfl, rfl, rfl, rfl, rfl, rfl, trivial⟩ rfl (kFadP rfl rfl (kLoadP rfl rfl rfl (kMovC rfl (kCallA (ok_laws_markRrS _ _ (by first | assumption | omega | solve_by_elim [List.getElem_mem] | (simp only [szOut] at *; omega)) (by first | assumption | omega | solve_by_elim [List.getElem_mem] | (simp only [szOut] at *; omega)) (by first | assumption | omega | solve_by_elim [List.getElem_mem] | (simp only [szOut] at *; omega))) ⟨⟨_, rfl, .inl rfl⟩, rfl, trivial⟩ rfl rfl rfl rfl (kMovC rfl (kDone (kSeq (kReg (kMovC rfl (kMovC rfl (kDone (kRet (endRetA (ra := [.one (.d _)]) rfl ?_))))))))))))))))))))))))))))))))))))))))))))))))))))))))))))))
  refine ⟨?_, rfl, rfl, rfl, rfl, rfl, rfl, trivial⟩
  rw [hc]

def c_laws_markQuestionS : C := (.seq (.reg false (.op 0 [] (some 4) none false (.mov (.v (.int .i64 0)))
  .done))
 (.seq (.seq (.reg false (.op 0 [] (some 5) none false (.mov (.v (.int .i64 0)))
  .done))
 (.block 0 (.loop (.seq (.seq (.reg false (.op 0 [] (some 6) none false (.mov (.t 5))
  (.op 1 [] (some 7) none false (.mov (.t 0))
  (.op 2 [] (some 8) none false (.len (.t 7))
  (.op 3 [] (some 9) none false (.bin .lss (.t 6) (.t 8))
  .done)))))
 (.cond (.t 9)
 .skip
 (.exit 0)))
 (.seq (.block 1 (.seq (.reg false (.op 0 [] (some 12) none false (.mov (.t 0))
  (.op 1 [] (some 13) none false (.mov (.t 5))
  (.op 2 [] (some 14) none false (.iad 2 (.t 12) (.t 13))
  (.op 3 [] (some 15) none false (.fad (.t 14) 0)
  (.op 4 [] (some 16) none false (.fad (.t 15) 0)
  (.op 5 [] (some 17) none false (.load none (.t 16))
  (.op 6 [] (some 18) none false (.mov (.t 1))
  (.op 7 [] (some 19) none false (.call 19 55 [(.t 17), (.t 18)])
  (.op 8 [] (some 1) none false (.mov (.t 19))
  .done))))))))))
 (.seq (.reg false (.op 0 [] (some 20) none false (.mov (.t 0))
  (.op 1 [] (some 21) none false (.mov (.t 5))
  (.op 2 [] (some 22) none false (.mov (.t 1))
  (.op 3 [] (some 23) none false (.iad 2 (.t 20) (.t 21))
  (.op 4 [] (some 24) none false (.fad (.t 23) 1)
  (.op 5 [] none none false (.store none (.t 24) (.t 22))
  .done)))))))
 (.reg false (.op 0 [] (some 25) none false (.mov (.t 1))
  (.op 1 [] (some 26) none false (.bin .add (.t 25) (.v (.int .i64 1)))
  (.op 2 [] (some 1) none false (.mov (.t 26))
  .done)))))))
 (.reg false (.op 0 [] (some 10) none false (.mov (.t 5))
  (.op 1 [] (some 11) none false (.bin .add (.t 10) (.v (.int .i64 1)))
  (.op 2 [] (some 5) none false (.mov (.t 11))
  .done)))))))))
 (.seq (.reg false (.op 0 [] (some 27) none false (.mov (.t 1))
  (.op 1 [] (some 4) none false (.mov (.t 27))
  .done)))
 .ret)))
theorem dg_laws_markQuestionS : Tryz.f102.body.bind (digC Tryz.prog Tryz.f102.ntmps []) = some c_laws_markQuestionS := by kernel_rfl
theorem rs_laws_markQuestionS : resSlots Tryz.prog Tryz.f102 = some [.s 4] := by kernel_rfl
theorem ok_laws_markQuestionS (l : List Qn) (k : Int) (h0 : 0 ≤ k) (hk : k + cntQs l ≤ 9223372036854775807) (hs : SmallQs l) :
    FnOK Tryz.prog 102 [.one (.arr false true (encQ l)), .one (.d (.sc (.int .i64 k)))] (fun ra os => ra = [.one (.d (.sc (.int .i64 (k + cntQs l))))] ∧ os.a 0 = encQ (markQs l k)) := by
  refine FnOK.ofK Tryz.func102 (by kernel_rfl) dg_laws_markQuestionS rs_laws_markQuestionS rfl rfl ?_
  unfold c_laws_markQuestionS
  have h1 := hs.len
  refine kSeq (kReg (kMovC rfl (kDone (kSeq (kSeq (kReg (kMovC rfl (kDone (kBlock ?_)))))))))
  generalize hF : (St.init [.one (.arr false true (encQ l)), .one (.d (.sc (.int .i64 k)))]).ob = F
  refine kLoop (α := { i : Nat // i ≤ l.length })
    (fun y => ⟨tabSl [(0, .c (.arr 0 0)), (1, .i (k + (cntQs (l.take y.1) : Int))), (5, .i y.1)], upd F 0 ⟨0, 2 * y.1, .arr true (encQ (markQs (l.take y.1) k ++ l.drop y.1))⟩, []⟩) (fun y => l.length - y.1) ⟨0, by simp⟩
    (.tab (by subst hF; exact upd_self rfl) ⟨.refl _, by simpa using .refl _, .refl _, trivial⟩) ?_
  rintro ⟨i, hi⟩
  simp only
  have hlen : (markQs (l.take i) k).length = i := by rw [markQs_len]; simp; omega
  have hlen' : (markQs (l.take i) k ++ l.drop i).length = l.length := by simp [hlen]; omega
  have hle := cntQs_le l i
  have hle2 := cntQs_le l (i + 1)
  rcases Nat.lt_or_ge i l.length with hlt | hge
  · have hbi := hs.mem _ (List.getElem_mem hlt)
    have hsuc := cntQs_take l i hlt
    have hget : (markQs (l.take i) k ++ l.drop i)[i]'(by omega) = l[i] := by
      rw [List.getElem_append_right (by omega)]; simp [hlen]
    have hset := set_selfQ (markQs (l.take i) k ++ l.drop i) i (by omega)
    rw [hget] at hset
    have hfin : ∀ R : Qn, R = markQ1 l[i] (k + cntQs (l.take i)) → (markQs (l.take i) k ++ l.drop i).set i R = markQs (l.take (i + 1)) k ++ l.drop (i + 1) := by
      rintro R rfl
      rw [take_set_succ _ _ _ _ hlt hlen, ← List.take_append_getElem hlt, markQs_append]
    have hc : cntQ1 l[i] = l[i].name.flatten.length + 1 := rfl
    clear hget
    revert hset hfin hlen'
    generalize markQs (l.take i) k ++ l.drop i = L
    generalize hr : l[i] = r at hc hbi hsuc
    generalize hK : k + (cntQs (l.take i) : Int) = K
    intro hlen' hset hfin
    have n1 := hbi.len
    have hiL : i < L.length := by omega
    have hKn : 0 ≤ K := by omega
    have hKm : K + cntQ1 r ≤ 9223372036854775807 := by omega
    refine kSub (t := ⟨tabSl [(0, .c (.arr 0 0)), (1, .i (K)), (5, .i i)], upd F 0 ⟨0, 2 * i, .arr true (encQ (L.set i r))⟩, []⟩) (.tab (by rw [hset]) ⟨.refl _, .refl _, .refl _, trivial⟩) ?_
    refine kSeq (kSeq (kReg (kMovC rfl (kMovC rfl (kLen rfl rfl rfl (kBin rfl rfl rfl (kDone ?_)))))))
    rw [len_encQ, List.length_set]
    refine kCond rfl (fun h1 => ?_) (fun h1 => by exfalso; simp at h1; omega)
    refine kSkip (kSeq (kBlock ?_))
    refine kSeq (kReg ?_)
    refine kMovC rfl (kMovC rfl (kIadA rfl rfl rfl rfl ?_ ?_))
    · rw [len_encQ, List.length_set]; omega
    refine kFadE rfl rfl (kFadE rfl rfl (?_))
    refine kLoadE rfl rfl (v := .c (.sub 0 0 (2 * i) i 0)) ?_ (kMovC rfl ?_)
    · show pickCells none (AC.ofCells 0 0 (2 * i) i 0 (((encQ (L.set i ⟨r.name, r.ty⟩)).row i).drop 0)) = _
      rw [row_encQS _ _ _ hiL]
      rfl
    refine kCallS (ok_laws_markByteSS r.name K (by omega) (by omega) n1) rfl ⟨⟨rfl, rfl, rfl, rfl, rfl, rfl, (at_encQS L i 0 ⟨r.name, r.ty⟩ hiL).symm, rfl⟩, rfl, trivial⟩ ?_ rfl ?_
    · simp [encQ, DV.rows]; omega
    rintro ra os ⟨rfl, ho⟩
    refine ⟨_, rfl, ?_⟩
    refine kMovC rfl (kDone ?_)
    refine kSub (t := ⟨tabSl [(0, .c (.arr 0 0)), (1, .i (K + (r.name.flatten.length : Int))), (5, .i i)], upd F 0 ⟨0, (2 * i + 1), .arr true (encQ (L.set i ⟨markss r.name (K), r.ty⟩))⟩, []⟩) (.tab ?_ ⟨.refl _, .refl _, .refl _, trivial⟩) ?_
    · refine Eq.trans ?_ (upd_upd _ _ _ _).symm
      refine congrArg (upd _ _) ?_
      show _ = Ob.mk _ _ (OK.arr _ ((encQ (L.set i ⟨r.name, r.ty⟩)).setCell i 0 (os.a 0)))
      rw [ho, setCell_encQS L i 0 ⟨r.name, r.ty⟩ ⟨markss r.name (K), r.ty⟩ _ hiL rfl]
      try rfl
    refine kSeq (kReg ?_)
    refine kMovC rfl (kMovC rfl (kMovC rfl (kIadA rfl rfl rfl rfl ?_ (kFadE rfl rfl ?_))))
    · rw [len_encQ, List.length_set]; omega
    refine kStoreE1 rfl rfl rfl rfl (by simp [encQ, DV.esz]) (kDone ?_)
    refine kSub (t := ⟨tabSl [(0, .c (.arr 0 0)), (1, .i (K + (r.name.flatten.length : Int))), (5, .i i)], upd F 0 ⟨0, (2 * i + 2), .arr true (encQ (L.set i ⟨markss r.name (K), (K + (r.name.flatten.length : Int))⟩))⟩, []⟩) (.tab ?_ ⟨.refl _, .refl _, .refl _, trivial⟩) ?_
    · refine Eq.trans ?_ (upd_upd _ _ _ _).symm
      refine congrArg (upd _ _) ?_
      show _ = Ob.mk _ _ (OK.arr _ (setRow (encQ (L.set i ⟨markss r.name (K), r.ty⟩)) i 1 _))
      rw [setRow_encQS L i 1 ⟨markss r.name (K), r.ty⟩ ⟨markss r.name (K), (K + (r.name.flatten.length : Int))⟩ _ hiL rfl]
      try rfl
    refine kReg (kMovC rfl (kAdd rfl rfl (by omega) (kMovC rfl (kDone (kBk ?_)))))
    rw [hfin _ (by rw [← hr, ← hK]; rfl)]
    refine kReg (kMovC rfl (kAdd rfl rfl (by omega) (kMovC rfl (kDone (kInv ?_)))))
    refine ⟨⟨i + 1, hlt⟩, by simp only; omega, .tab rfl ⟨.refl _, ?_, .refl _, trivial⟩⟩
    refine Eq.mp (congrArg (fun z => WkV _ (.i z)) ?_) (.refl _)
    show _ = k + ((cntQs (l.take (i + 1)) : Nat) : Int)
    omega
  · refine kSeq (kSeq (kReg (kMovC rfl (kMovC rfl (kLen rfl rfl rfl (kBin rfl rfl rfl (kDone ?_)))))))
    rw [len_encQ, hlen']
    refine kCond rfl (fun h1 => by exfalso; simp at h1; omega) (fun h1 => ?_)
    refine kExit (kExC (kExI (kExB ?_)))
    obtain rfl : i = l.length := by omega
    refine kSeq (kReg (kMovC rfl (kMovC rfl (kDone (kRet ?_)))))
    subst hF
    refine endRet (ra := [.one (.d _)]) rfl ⟨⟨⟨rfl, .inl rfl⟩, trivial⟩, .nil, ⟨rfl, fun _ => rfl, rfl⟩, trivial, trivial⟩ ?_
    refine ⟨by simp, ?_⟩
    show encQ (markQs (l.take l.length) k ++ l.drop l.length) = _
    simp

end Go.Proofs.YtmecljfkakjmbaaGreat.FnExactAskOfFn
