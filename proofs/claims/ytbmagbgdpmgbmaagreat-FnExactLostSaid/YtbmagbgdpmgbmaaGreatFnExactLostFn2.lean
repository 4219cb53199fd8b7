/- What the functions that FnExactLost reaches compute, one contract each; each with the bounds that it states. -/
import Derived.Test.YtbmagbgdpmgbmaaGreatFnExactLostFn1
import Derived.Test.YtbmagbgdpmgbmaaGreatProg
import Derived.KernelRfl
set_option maxRecDepth 100000
set_option maxHeartbeats 8000000
set_option linter.unusedVariables false
set_option linter.unusedSimpArgs false
namespace Go.Proofs.YtbmagbgdpmgbmaaGreat.FnExactLostFn
open Go Hearth Go.Proofs

def c_impl_LabelOk : C := (.seq (.reg false (.o 0 2 (.mov (.v (.bool false))) .done)) (.seq (.reg false (.o 0 3 (.mov (.t 0)) (.o 1 4 (.len (.t 3)) (.o 2 5 (.call 5 147 [(.t 4), (.i 1), (.i 15)]) (.o 3 6 (.mov (.t 5)) (.op 4 [] (some 7) (some (6, true)) false (.mov (.t 0)) (.op 5 [] (some 8) (some (6, true)) false (.call 8 255 [(.t 7), (.fn 256)]) (.o 6 9 (.pick (.t 6) (.t 8) (.v (.bool false))) (.o 7 2 (.mov (.t 9)) .done))))))))) .ret))
theorem dg_impl_LabelOk : Tryz.f179.body.bind (digC Tryz.prog Tryz.f179.ntmps []) = some c_impl_LabelOk := by kernel_rfl
theorem rs_impl_LabelOk : resSlots Tryz.prog Tryz.f179 = some [.s 2] := by kernel_rfl
theorem ok_impl_LabelOk (b : List UInt8) (hb : b.length ≤ 4194304) :
    FnOK Tryz.prog 179 [.one (.d (encB b))] (fun ra _ => ra = [.one (.d (.sc (.bool (labelOk b))))]) := by
  refine FnOK.ofK Tryz.func179 (by kernel_rfl) dg_impl_LabelOk rs_impl_LabelOk rfl rfl ?_
  delta c_impl_LabelOk T.o X.i
  refine kSeq (kReg (kMovC rfl (kDone (kSeq (kReg (kMovC rfl (kLenR rfl rfl (kCallD (ok_impl_within _ _ _) ⟨rfl, rfl, rfl, trivial⟩ rfl rfl rfl rfl rfl (kMovC rfl (kGP rfl (fun g0 => kGT rfl (kMovC rfl (kGT rfl ?_))) (fun g0 => kGF rfl (kGF rfl (kPickF rfl (kMovC rfl (kMovC rfl (kDone (kRet (endRetA (ra := [.one (.d _)]) rfl ?_))))))))))))))))))
  · refine kCall1 true (ok_impl_all_byte (b.map fun b : UInt8 => .sc (.int .u8 b.toNat)) is8 (fun x => okLetter (dec8 x)) (by simp; omega) (fun x hx => by obtain ⟨c, _, rfl⟩ := List.mem_map.1 hx; exact ⟨c, rfl⟩)) ⟨congrArg some (encB_lst b), ⟨rfl, rfl, ⟨_, Tryz.func256, rfl, by kernel_rfl⟩, ?_⟩, trivial⟩ rfl rfl rfl (fun _ => ?_)
    · rintro _ R ⟨x, ⟨c, rfl⟩, rfl, rfl⟩
      have := ok_impl_LabelOk_1 c
      simp only [dec8_enc]
      exact this
    refine kPickT rfl (kMovC rfl (kMovC rfl (kDone (kRet (endRetA (ra := [.one (.d _)]) rfl ?_)))))
    rw [all_dec8, show labelOk b = b.all okLetter by simp only [labelOk]; rw [decide_eq_true (by omega), decide_eq_true (by omega)]; rfl]
  · rw [show labelOk b = false by simp only [labelOk]; rw [show (decide (1 ≤ b.length) && decide (b.length ≤ 15)) = false by simp; omega]; rfl]

def c_impl_all_Lbyte_1 : C := (.seq (.reg false (.o 0 3 (.mov (.v (.bool false))) .done)) (.seq (.reg false (.o 0 4 (.load none (.t 1)) (.o 1 5 (.mov (.t 0)) (.o 2 6 (.callv 6 (.t 4) [(.t 5)]) (.o 3 7 (.un .not (.t 6)) (.o 4 3 (.mov (.t 7)) .done)))))) .ret))
theorem dg_impl_all_Lbyte_1 : Tryz.f254.body.bind (digC Tryz.prog Tryz.f254.ntmps []) = some c_impl_all_Lbyte_1 := by kernel_rfl
theorem rs_impl_all_Lbyte_1 : resSlots Tryz.prog Tryz.f254 = some [.s 3] := by kernel_rfl
theorem ok_impl_all_Lbyte_1 (x : DV) (D : DV → Prop) (g : DV → Bool) (hx : D x) :
    FnOK Tryz.prog 254 [.one (.d x), .one (.ptr [.fv false (fcPred D g)])] (fun ra _ => ra = [.one (.d (.sc (.bool (!g x))))]) := by
  refine FnOK.ofK Tryz.func254 (by kernel_rfl) dg_impl_all_Lbyte_1 rs_impl_all_Lbyte_1 rfl rfl ?_
  delta c_impl_all_Lbyte_1 T.o X.i
  refine kSeq (kReg (kMovC rfl (kDone ?_)))
  refine kSeq (kReg (kLoadC rfl rfl (kMovC rfl (kCallv rfl ⟨x, hx, rfl, rfl⟩ ⟨rfl, trivial⟩ (.inr ?_) rfl ?_ rfl ?_))))
  · rintro _ rfl; rfl
  · rintro _ rfl; exact leb
  rintro _ rfl
  refine kUn rfl rfl (kMovC rfl (kDone (kRet ?_)))
  exact endRet (ra := [.one (.d _)]) rfl ⟨⟨⟨rfl, .inl rfl⟩, trivial⟩, .nil, trivial, trivial, trivial⟩ rfl

def c_slices_IndexFunc_LLbyte_Lbyte : C := (.seq (.reg false (.o 0 4 (.mov (.i 0)) .done)) (.seq (.seq (.reg false (.o 0 6 (.mov (.t 0)) (.o 1 7 (.len (.t 6)) (.o 2 8 (.mov (.i 0)) .done)))) (.block 0 (.loop (.seq (.reg false (.o 0 9 (.bin .lss (.t 8) (.t 7)) .done)) (.seq (.cond (.t 9) .skip (.exit 0)) (.seq (.block 1 (.seq (.reg false (.o 0 10 (.mov (.t 8)) (.o 1 5 (.mov (.t 10)) .done))) (.seq (.reg false (.o 0 11 (.mov (.t 1)) (.o 1 12 (.mov (.t 0)) (.o 2 13 (.mov (.t 5)) (.o 3 14 (.iad 1 (.t 12) (.t 13)) (.o 4 15 (.load none (.t 14)) (.o 5 16 (.callv 16 (.t 11) [(.t 15)]) .done))))))) (.cond (.t 16) (.seq (.reg false (.o 0 17 (.mov (.t 5)) (.o 1 4 (.mov (.t 17)) .done))) .ret) .skip)))) (.reg false (.o 0 18 (.bin .add (.t 8) (.i 1)) (.o 1 8 (.mov (.t 18)) .done))))))))) (.seq (.reg false (.o 0 4 (.mov (.i (-1))) .done)) .ret)))
theorem dg_slices_IndexFunc_LLbyte_Lbyte : Tryz.f290.body.bind (digC Tryz.prog Tryz.f290.ntmps []) = some c_slices_IndexFunc_LLbyte_Lbyte := by kernel_rfl
theorem rs_slices_IndexFunc_LLbyte_Lbyte : resSlots Tryz.prog Tryz.f290 = some [.s 4] := by kernel_rfl
theorem ok_slices_IndexFunc_LLbyte_Lbyte (l : List DV) (D : DV → Prop) (g : DV → Bool) (hl : (l.length : Int) ≤ 9223372036854775807) (hD : ∀ x ∈ l, D x) :
    FnOK Tryz.prog 290 [.one (.d (lst l)), .one (.fv false (fcPred D g))] (fun ra _ => ra = [.one (.d (.sc (.int .i64 (idxF g l))))]) := by
  refine FnOK.ofK Tryz.func290 (by kernel_rfl) dg_slices_IndexFunc_LLbyte_Lbyte rs_slices_IndexFunc_LLbyte_Lbyte rfl rfl ?_
  delta c_slices_IndexFunc_LLbyte_Lbyte T.o X.i
  refine kSeq (kReg (kMovC rfl (kDone ?_)))
  refine kSeq (kSeq (kReg (kMovC rfl (kLen rfl rfl rfl (kMovC rfl (kDone (kBlock ?_)))))))
  rw [len_lst]
  refine kLoop (α := { i : Nat // i ≤ l.length ∧ ∀ x ∈ l.take i, g x = false })
    (fun y => ⟨tabSl [(0, .dv (lst l)), (1, .c (.fv false (fcPred D g))), (7, .i l.length), (8, .i y.1)], (St.init [.one (.d (lst l)), .one (.fv false (fcPred D g))]).ob, []⟩) (fun y => l.length - y.1) ⟨0, by simp⟩
    (.tab rfl ⟨.refl _, .refl _, .refl _, .refl _, trivial⟩) ?_
  rintro ⟨i, hi, hg⟩
  simp only
  refine kSeq (kReg (kBin rfl rfl rfl (kDone ?_)))
  refine kSeq (kCond rfl (fun h1 => ?_) (fun h1 => ?_))
  · have hlt : i < l.length := by simp at h1; omega
    refine kSkip (kSeq (kBlock (kSeq (kReg (kMovC rfl (kMovC rfl (kDone ?_)))))))
    refine kSeq (kReg (kMovC rfl (kMovC rfl (kMovC rfl (kIadD rfl rfl rfl rfl ?_ ?_)))))
    · rw [len_lst]; omega
    rw [show (lst l).row (i : Int).toNat = [l[i]] from row_lst l i hlt]
    refine kLoadD rfl rfl (kCallv rfl ⟨l[i], hD _ (List.getElem_mem hlt), rfl, rfl⟩ ⟨rfl, trivial⟩ (.inr ?_) rfl ?_ rfl ?_)
    · rintro _ rfl; rfl
    · rintro _ rfl; exact leb
    rintro _ rfl
    refine kDone (kCond rfl (fun h2 => ?_) (fun h2 => ?_))
    · refine kSeq (kReg (kMovC rfl (kMovC rfl (kDone (kRet ?_)))))
      refine endRet (ra := [.one (.d _)]) rfl ⟨⟨⟨rfl, .inl rfl⟩, trivial⟩, .nil, trivial, trivial, trivial⟩ ?_
      have : l.findIdx? g = some i := by
        rw [List.findIdx?_eq_some_iff_getElem]
        refine ⟨hlt, h2, fun j hj => ?_⟩
        simpa using hg _ (by rw [List.mem_take_iff_getElem]; exact ⟨j, by omega, rfl⟩)
      simp [idxF, this]
    · refine kSkip (kBk (kReg (kAdd rfl rfl ?_ (kMovC rfl (kDone (kInv ?_))))))
      · omega
      refine ⟨⟨i + 1, hlt, ?_⟩, by simp only; omega, .tab rfl ⟨.refl _, .refl _, .refl _, .refl _, trivial⟩⟩
      intro x hx
      rw [← List.take_append_getElem hlt, List.mem_append] at hx
      rcases hx with hx | hx
      · exact hg x hx
      · simp at hx; rw [hx]; exact h2
  · refine kExit (kExC (kExI (kExB ?_)))
    have hge : i = l.length := by simp at h1; omega
    refine kSeq (kReg (kMovC rfl (kDone (kRet ?_))))
    refine endRet (ra := [.one (.d _)]) rfl ⟨⟨⟨rfl, .inl rfl⟩, trivial⟩, .nil, trivial, trivial, trivial⟩ ?_
    have : l.findIdx? g = none := by
      rw [List.findIdx?_eq_none_iff]
      intro x hx
      rw [hge, List.take_length] at hg
      exact hg x hx
    simp [idxF, this]

def c_slices_ContainsFunc_LLbyte_Lbyte : C := (.seq (.reg false (.o 0 4 (.mov (.v (.bool false))) .done)) (.seq (.reg false (.o 0 5 (.mov (.t 0)) (.o 1 6 (.mov (.t 1)) (.o 2 7 (.call 7 290 [(.t 5), (.t 6)]) (.o 3 8 (.bin .geq (.t 7) (.i 0)) (.o 4 4 (.mov (.t 8)) .done)))))) .ret))
theorem dg_slices_ContainsFunc_LLbyte_Lbyte : Tryz.f253.body.bind (digC Tryz.prog Tryz.f253.ntmps []) = some c_slices_ContainsFunc_LLbyte_Lbyte := by kernel_rfl
theorem rs_slices_ContainsFunc_LLbyte_Lbyte : resSlots Tryz.prog Tryz.f253 = some [.s 4] := by kernel_rfl
theorem ok_slices_ContainsFunc_LLbyte_Lbyte (l : List DV) (D : DV → Prop) (g : DV → Bool) (hl : (l.length : Int) ≤ 9223372036854775807) (hD : ∀ x ∈ l, D x) :
    FnOK Tryz.prog 253 [.one (.d (lst l)), .one (.fv false (fcPred D g))] (fun ra _ => ra = [.one (.d (.sc (.bool (l.any g))))]) := by
  refine FnOK.ofK Tryz.func253 (by kernel_rfl) dg_slices_ContainsFunc_LLbyte_Lbyte rs_slices_ContainsFunc_LLbyte_Lbyte rfl rfl ?_
  delta c_slices_ContainsFunc_LLbyte_Lbyte T.o X.i
  refine kSeq (kReg (kMovC rfl (kDone ?_)))
  refine kSeq (kReg (kMovC rfl (kMovC rfl ?_)))
  refine kCall1 true (ok_slices_IndexFunc_LLbyte_Lbyte l D g hl hD) ⟨rfl, ⟨fun h => h, fun _ _ h => h⟩, trivial⟩ rfl rfl rfl fun os => ?_
  refine kBin rfl rfl rfl (kMovC rfl (kDone (kRet ?_)))
  refine endRet (ra := [.one (.d _)]) rfl ⟨⟨⟨rfl, .inl rfl⟩, trivial⟩, .nil, trivial, trivial, trivial⟩ ?_
  have : decide (idxF g l ≥ 0) = l.any g := by
    unfold idxF
    cases h : l.findIdx? g with
    | none =>
      rw [List.findIdx?_eq_none_iff] at h
      have : l.any g = false := by rw [List.any_eq_false]; intro x hx; simp [h x hx]
      rw [this]; rfl
    | some i =>
      rw [List.findIdx?_eq_some_iff_getElem] at h
      obtain ⟨h1, h2, _⟩ := h
      have : l.any g = true := by rw [List.any_eq_true]; exact ⟨_, List.getElem_mem h1, h2⟩
      rw [this]; simp
  rw [this]

def c_impl_all_Lbyte : C := (.seq (.reg false (.o 0 3 (.box 3 (.t 1)) (.o 1 4 (.mov (.v (.bool false))) .done))) (.seq (.reg false (.o 0 5 (.mov (.t 0)) (.o 1 6 (.clo 254 [] [(.t 3)]) (.o 2 7 (.call 7 253 [(.t 5), (.t 6)]) (.o 3 8 (.un .not (.t 7)) (.o 4 4 (.mov (.t 8)) .done)))))) .ret))
theorem dg_impl_all_Lbyte : Tryz.f178.body.bind (digC Tryz.prog Tryz.f178.ntmps []) = some c_impl_all_Lbyte := by kernel_rfl
theorem rs_impl_all_Lbyte : resSlots Tryz.prog Tryz.f178 = some [.s 4] := by kernel_rfl
theorem ok_impl_all_Lbyte (l : List DV) (D : DV → Prop) (g : DV → Bool) (hl : (l.length : Int) ≤ 9223372036854775807) (hD : ∀ x ∈ l, D x) :
    FnOK Tryz.prog 178 [.one (.d (lst l)), .one (.fv false (fcPred D g))] (fun ra _ => ra = [.one (.d (.sc (.bool (l.all g))))]) := by
  refine FnOK.ofK Tryz.func178 (by kernel_rfl) dg_impl_all_Lbyte rs_impl_all_Lbyte rfl rfl ?_
  delta c_impl_all_Lbyte T.o X.i
  refine kSeq (kReg (kBox rfl rfl rfl rfl rfl (kMovC rfl (kDone ?_))))
  refine kSeq (kReg (kMovC rfl (kClo rfl rfl ?_)))
  refine kCall1 true (ok_slices_ContainsFunc_LLbyte_Lbyte l D (fun x => !g x) hl hD) ⟨rfl, ⟨rfl, ⟨_, Tryz.func254, rfl, by kernel_rfl⟩, _, rfl, ?_⟩, trivial⟩ rfl rfl rfl fun os => ?_
  · rintro l R ⟨x, hx, rfl, rfl⟩
    exact ⟨by rintro _ rfl; rfl, ok_impl_all_Lbyte_1 x D g hx⟩
  refine kUn rfl rfl (kMovC rfl (kDone (kRet ?_)))
  refine endRet (ra := [.one (.d _)]) rfl ⟨⟨⟨rfl, .inl rfl⟩, trivial⟩, .nil, trivial, trivial, trivial⟩ ?_
  simp [List.all_eq_not_any_not]

def c_impl_NameOk : C := (.seq (.reg false (.o 0 1 (.box 1 (.t 0)) (.o 1 2 (.mov (.v (.bool false))) .done))) (.seq (.reg false (.o 0 3 (.fad (.t 1) 0) (.o 1 4 (.load none (.t 3)) (.o 2 5 (.len (.t 4)) (.o 3 6 (.bin .leq (.t 5) (.i 6)) (.o 4 7 (.mov (.t 6)) (.op 5 [] (some 8) (some (7, true)) false (.fad (.t 1) 0) (.op 6 [] (some 9) (some (7, true)) false (.load none (.t 8)) (.op 7 [] (some 10) (some (7, true)) false (.call 10 178 [(.t 9), (.fn 179)]) (.o 8 11 (.pick (.t 7) (.t 10) (.v (.bool false))) (.o 9 2 (.mov (.t 11)) .done))))))))))) .ret))
theorem dg_impl_NameOk : Tryz.f72.body.bind (digC Tryz.prog Tryz.f72.ntmps []) = some c_impl_NameOk := by kernel_rfl
theorem rs_impl_NameOk : resSlots Tryz.prog Tryz.f72 = some [.s 2] := by kernel_rfl
theorem ok_impl_NameOk (a : List (List UInt8)) (ha : a.length ≤ 4194304) (hb : ∀ b ∈ a, b.length ≤ 4194304) :
    FnOK Tryz.prog 72 [.agg [.d (encBB a)]] (fun ra _ => ra = [.one (.d (.sc (.bool (nameOk a))))]) := by
  refine FnOK.ofK Tryz.func72 (by kernel_rfl) dg_impl_NameOk rs_impl_NameOk rfl rfl ?_
  delta c_impl_NameOk T.o X.i
  refine kSeq (kReg (kBox rfl rfl rfl rfl rfl (kMovC rfl (kDone (kSeq (kReg (kFadP rfl rfl (kLoadP rfl rfl rfl (kLenR rfl rfl (kBin rfl rfl rfl (kMovC rfl (kGP rfl (fun g0 => kGT rfl (kFadP rfl rfl (kGT rfl (kLoadP rfl rfl rfl (kGT rfl ?_))))) (fun g0 => kGF rfl (kGF rfl (kGF rfl (kPickF rfl (kMovC rfl (kMovC rfl (kDone (kRet (endRetA (ra := [.one (.d _)]) rfl ?_)))))))))))))))))))))
  · refine kCall1 true (ok_impl_all_Lbyte (a.map encB) (fun x => ∃ b : List UInt8, x = encB b ∧ b.length ≤ 4194304) (fun x => labelOk (decB x)) (by simp; omega) (fun x hx => by obtain ⟨c, h, rfl⟩ := List.mem_map.1 hx; exact ⟨c, rfl, hb c h⟩)) ⟨congrArg some (encBB_lst a), ⟨rfl, rfl, ⟨_, Tryz.func179, rfl, by kernel_rfl⟩, ?_⟩, trivial⟩ rfl rfl rfl (fun _ => ?_)
    · rintro _ R ⟨x, ⟨c, rfl, h⟩, rfl, rfl⟩
      have := ok_impl_LabelOk c h
      simp only [decB_enc]
      exact this
    refine kPickT rfl (kMovC rfl (kMovC rfl (kDone (kRet (endRetA (ra := [.one (.d _)]) rfl ?_)))))
    rw [all_decB, show nameOk a = a.all labelOk by simp only [nameOk]; rw [decide_eq_true (by omega)]; rfl]
  · rw [show nameOk a = false by simp only [nameOk]; rw [decide_eq_false (by omega)]; rfl]

/-- What a type is called. -/
def typeTab : List (Int × ByteArray) := [(1, ⟨#[65]⟩), (2, ⟨#[78, 83]⟩), (5, ⟨#[67, 78, 65, 77, 69]⟩), (6, ⟨#[83, 79, 65]⟩), (12, ⟨#[80, 84, 82]⟩), (16, ⟨#[84, 88, 84]⟩), (49, ⟨#[68, 72, 67, 73, 68]⟩)]
def typeNm (n : Int) : ByteArray := ((typeTab.find? fun e => n == e.1).map (·.2)).getD ByteArray.empty
theorem ok_impl_typeName (n : Int) : FnOK Tryz.prog 241 [.one (.d (.sc (.int .i64 n)))] (fun ra _ => ra = [.one (.d (.sc (.string (typeNm n))))]) := by
  refine FnOK.ofWalk Tryz.func241 rfl (by kernel_rfl) fun w => ?_
  have kk : Tryz.prog.underlying 3 = some (.int .i64) := by kernel_rfl
  have hmm := @Go.RowKit.run_makeMap Tryz.prog
  go_enter Tryz.func241, Tryz.ntmps241
  go_wp2
  have t0 : Tab (w.alloc (.map #[] 0)) w.heap.size [] := ⟨_, _, (MapKept.heap_alloc w _).1, rfl⟩
  have b0 : Go.RowKit.Below w.heap.size w (w.alloc (.map #[] 0)) := (Go.RowKit.Below.refl _ _).alloc (Nat.le_refl _) _
  have st : ∀ {w1 w2 : World}, Go.RowKit.Below w.heap.size w w1 → Ext w1 w2 (fun b => b = w.heap.size) → Go.RowKit.Below w.heap.size w w2 := fun h e => ⟨e.os.trans h.os, e.tape.trans h.tape, e.output.trans h.output, Nat.le_trans h.size e.size, fun k hk => (e.same k (Nat.lt_of_lt_of_le hk h.size) (by omega)).trans (h.block k hk)⟩
  refine upon_insert (kt := 3) (et := 9) ?_ kk t0 ?_ (fun w1 t1 e1 => ?_)
  · kernel_rfl
  · rfl
  have b1 := st b0 e1
  go_wp2
  refine upon_insert (kt := 3) (et := 9) ?_ kk t1 ?_ (fun w2 t2 e2 => ?_)
  · kernel_rfl
  · rfl
  have b2 := st b1 e2
  go_wp2
  refine upon_insert (kt := 3) (et := 9) ?_ kk t2 ?_ (fun w3 t3 e3 => ?_)
  · kernel_rfl
  · rfl
  have b3 := st b2 e3
  go_wp2
  refine upon_insert (kt := 3) (et := 9) ?_ kk t3 ?_ (fun w4 t4 e4 => ?_)
  · kernel_rfl
  · rfl
  have b4 := st b3 e4
  go_wp2
  refine upon_insert (kt := 3) (et := 9) ?_ kk t4 ?_ (fun w5 t5 e5 => ?_)
  · kernel_rfl
  · rfl
  have b5 := st b4 e5
  go_wp2
  refine upon_insert (kt := 3) (et := 9) ?_ kk t5 ?_ (fun w6 t6 e6 => ?_)
  · kernel_rfl
  · rfl
  have b6 := st b5 e6
  go_wp2
  refine upon_insert (kt := 3) (et := 9) ?_ kk t6 ?_ (fun w7 t7 e7 => ?_)
  · kernel_rfl
  · rfl
  have b7 := st b6 e7
  go_wp2
  refine upon_find (kt := 3) (et := 9) ?_ kk ?_ t7 ?_
  · kernel_rfl
  · rfl
  go_wp2
  all_goals go_ret
  exact ⟨rfl, b7⟩

theorem typeNm_ok (n : Int) : (!((typeNm n).toList == (⟨#[]⟩ : ByteArray).toList)) = tyOk n := by
  by_cases h1 : n = 1
  · subst h1; rw [ByteArray.toList_eq, ByteArray.toList_eq]; rfl
  by_cases h2 : n = 2
  · subst h2; rw [ByteArray.toList_eq, ByteArray.toList_eq]; rfl
  by_cases h3 : n = 5
  · subst h3; rw [ByteArray.toList_eq, ByteArray.toList_eq]; rfl
  by_cases h4 : n = 6
  · subst h4; rw [ByteArray.toList_eq, ByteArray.toList_eq]; rfl
  by_cases h5 : n = 12
  · subst h5; rw [ByteArray.toList_eq, ByteArray.toList_eq]; rfl
  by_cases h6 : n = 16
  · subst h6; rw [ByteArray.toList_eq, ByteArray.toList_eq]; rfl
  by_cases h7 : n = 49
  · subst h7; rw [ByteArray.toList_eq, ByteArray.toList_eq]; rfl
  have e : ∀ m : Int, n ≠ m → (n == m) = false := fun m h => by simpa using h
  have : typeNm n = ByteArray.empty := by
    unfold typeNm typeTab
    simp only [List.find?_cons, e 1 h1, e 2 h2, e 5 h3, e 6 h4, e 12 h5, e 16 h6, e 49 h7, List.find?_nil]
    rfl
  rw [this]
  simp only [tyOk, e 1 h1, e 2 h2, e 5 h3, e 6 h4, e 12 h5, e 16 h6, e 49 h7]
  rw [ByteArray.toList_eq, ByteArray.toList_eq]; rfl

def c_impl_TypeOk : C := (.seq (.reg false (.o 0 2 (.mov (.v (.bool false))) .done)) (.seq (.reg false (.o 0 3 (.mov (.t 0)) (.o 1 4 (.call 4 241 [(.t 3)]) (.o 2 5 (.bin .neq (.t 4) (.v (.string ⟨#[]⟩))) (.o 3 2 (.mov (.t 5)) .done))))) .ret))
theorem dg_impl_TypeOk : Tryz.f155.body.bind (digC Tryz.prog Tryz.f155.ntmps []) = some c_impl_TypeOk := by kernel_rfl
theorem rs_impl_TypeOk : resSlots Tryz.prog Tryz.f155 = some [.s 2] := by kernel_rfl
theorem ok_impl_TypeOk (n : Int) : FnOK Tryz.prog 155 [.one (.d (.sc (.int .i64 n)))] (fun ra _ => ra = [.one (.d (.sc (.bool (tyOk n))))]) := by
  rw [← typeNm_ok]
  refine FnOK.ofK Tryz.func155 (by kernel_rfl) dg_impl_TypeOk rs_impl_TypeOk rfl rfl ?_
  delta c_impl_TypeOk T.o X.i
  refine kSeq (kReg (kMovC rfl (kDone (kSeq (kReg (kMovC rfl (kCallD (ok_impl_typeName _) ⟨rfl, trivial⟩ rfl rfl rfl rfl rfl (kBin rfl rfl rfl (kMovC rfl (kDone (kRet (endRetA (ra := [.one (.d _)]) rfl rfl))))))))))))

def c_slices_EqualFunc_LLbyte_LLbyte_Lbyte_Lbyte : C := (.seq (.reg false (.o 0 6 (.mov (.v (.bool false))) .done)) (.seq (.seq (.reg false (.o 0 10 (.mov (.t 0)) (.o 1 11 (.len (.t 10)) (.o 2 12 (.mov (.t 1)) (.o 3 13 (.len (.t 12)) (.o 4 14 (.bin .neq (.t 11) (.t 13)) .done)))))) (.cond (.t 14) (.seq (.reg false (.o 0 6 (.mov (.v (.bool false))) .done)) .ret) .skip)) (.seq (.seq (.reg false (.o 0 15 (.mov (.t 0)) (.o 1 16 (.len (.t 15)) (.o 2 17 (.mov (.i 0)) .done)))) (.block 0 (.loop (.seq (.reg false (.o 0 18 (.bin .lss (.t 17) (.t 16)) .done)) (.seq (.cond (.t 18) .skip (.exit 0)) (.seq (.block 1 (.seq (.reg false (.o 0 19 (.mov (.t 17)) (.o 1 20 (.iad 1 (.t 15) (.t 17)) (.o 2 21 (.load none (.t 20)) (.o 3 7 (.mov (.t 19)) (.o 4 8 (.mov (.t 21)) .done)))))) (.seq (.reg false (.o 0 22 (.mov (.t 1)) (.o 1 23 (.mov (.t 7)) (.o 2 24 (.iad 1 (.t 22) (.t 23)) (.o 3 25 (.load none (.t 24)) (.o 4 9 (.mov (.t 25)) .done)))))) (.seq (.reg false (.o 0 26 (.mov (.t 2)) (.o 1 27 (.mov (.t 8)) (.o 2 28 (.mov (.t 9)) (.o 3 29 (.callv 29 (.t 26) [(.t 27), (.t 28)]) (.o 4 30 (.un .not (.t 29)) .done)))))) (.cond (.t 30) (.seq (.reg false (.o 0 6 (.mov (.v (.bool false))) .done)) .ret) .skip))))) (.reg false (.o 0 31 (.bin .add (.t 17) (.i 1)) (.o 1 17 (.mov (.t 31)) .done))))))))) (.seq (.reg false (.o 0 6 (.mov (.v (.bool true))) .done)) .ret))))
theorem dg_slices_EqualFunc_LLbyte_LLbyte_Lbyte_Lbyte : Tryz.f200.body.bind (digC Tryz.prog Tryz.f200.ntmps []) = some c_slices_EqualFunc_LLbyte_LLbyte_Lbyte_Lbyte := by kernel_rfl
theorem rs_slices_EqualFunc_LLbyte_LLbyte_Lbyte_Lbyte : resSlots Tryz.prog Tryz.f200 = some [.s 6] := by kernel_rfl
def fcEq : FC := fun l R => ∃ x y : List UInt8, l = [DA.one (encB x), DA.one (encB y)] ∧ R = fun ra => ra = [.one (.d (.sc (.bool (x == y))))]
theorem ok_slices_EqualFunc_LLbyte_LLbyte_Lbyte_Lbyte (a b : List (List UInt8)) (ha : a.length ≤ 4194304) (hb : b.length ≤ 4194304) :
    FnOK Tryz.prog 200 [.one (.d (encBB a)), .one (.d (encBB b)), .one (.fv false fcEq)] (fun ra _ => ra = [.one (.d (.sc (.bool (decide (a = b)))))]) := by
  refine FnOK.ofK Tryz.func200 (by kernel_rfl) dg_slices_EqualFunc_LLbyte_LLbyte_Lbyte_Lbyte rs_slices_EqualFunc_LLbyte_LLbyte_Lbyte_Lbyte rfl rfl ?_
  delta c_slices_EqualFunc_LLbyte_LLbyte_Lbyte_Lbyte T.o X.i
  refine kSeq (kReg (kMovC rfl (kDone (kSeq (kSeq (kReg (kMovC rfl (kLenR rfl rfl (kMovC rfl (kLenR rfl rfl (kBin rfl rfl rfl (kDone (kCondIN rfl (fun g0 => kSeq (kReg (kMovC rfl (kDone (kRet (endRetA (ra := [.one (.d _)]) rfl ?_)))))) (fun g0 => kSkip (kSeq (kSeq (kReg (kMovC rfl (kLenR rfl rfl (kMovC rfl (kDone (kBlock ?_))))))))))))))))))))))
  · rw [decide_eq_false (by rintro rfl; simp_all)]
  have hab : a.length = b.length := by omega
  refine kLoop (α := { i : Nat // i ≤ a.length ∧ a.take i = b.take i })
    (fun y => ⟨tabSl [(1, .dv (encBB b)), (2, .c (.fv false fcEq)), (15, .dv (encBB a)), (16, .i a.length), (17, .i y.1)], obTab 1 [], []⟩) (fun y => a.length - y.1) ⟨0, by simp⟩
    .normA ?_
  rintro ⟨i, hi, he⟩
  simp only
  rcases Nat.lt_or_ge i a.length with hlt | hge
  · refine kSeq (kReg (kBin rfl rfl rfl (kDone (kSeq (kCondP rfl (fun g0 => kSkip (kSeq (kBlock (kSeq (kReg (kMovC rfl (kIadR rfl rfl rfl (by omega) (kLoadD rfl rfl (kMovC rfl (kMovC rfl (kDone (kSeq (kReg (kMovC rfl (kMovC rfl (kIadR rfl rfl rfl (by omega) (kLoadD rfl rfl (kMovC rfl (kDone (kSeq (kReg (kMovC rfl (kMovC rfl (kMovC rfl ?_)))))))))))))))))))))))) (fun g0 => (by omega)))))))
    refine kCallv rfl ⟨a[i], b[i], rfl, rfl⟩ ⟨rfl, rfl, trivial⟩ (.inr ?_) rfl ?_ rfl ?_
    · rintro _ rfl; rfl
    · rintro _ rfl; exact leb
    rintro _ rfl
    refine kUn rfl rfl (kDone (kCondN rfl (fun g0 => kSeq (kReg (kMovC rfl (kDone (kRet (endRetA (ra := [.one (.d _)]) rfl ?_)))))) (fun g0 => kSkip (kBk (kReg (kAdd rfl rfl (by omega) (kMovC rfl (kDone ?_))))))))
    · rw [decide_eq_false]
      rintro rfl
      simp_all
    · refine kInv ⟨⟨i + 1, by omega, ?_⟩, by simp only; omega, .normA⟩
      rw [← List.take_append_getElem (by omega), ← List.take_append_getElem (by omega), he]
      simp_all
  · refine kSeq (kReg (kBin rfl rfl rfl (kDone (kSeq (kCondP rfl (fun g0 => (by omega)) (fun g0 => kExit (kExC (kExI (kExB (kSeq (kReg (kMovC rfl (kDone (kRet (endRetA (ra := [.one (.d _)]) rfl ?_)))))))))))))))
    rw [show i = a.length by omega, List.take_length, hab, List.take_length] at he
    rw [he, decide_eq_true rfl]

def c_bytes_Equal : C := (.seq (.reg false (.o 0 4 (.mov (.v (.bool false))) .done)) (.seq (.reg false (.o 0 5 (.mov (.t 0)) (.o 1 6 (.b2s (.t 5)) (.o 2 7 (.mov (.t 1)) (.o 3 8 (.b2s (.t 7)) (.o 4 9 (.bin .eql (.t 6) (.t 8)) (.o 5 4 (.mov (.t 9)) .done))))))) .ret))
theorem dg_bytes_Equal : Tryz.f201.body.bind (digC Tryz.prog Tryz.f201.ntmps []) = some c_bytes_Equal := by kernel_rfl
theorem rs_bytes_Equal : resSlots Tryz.prog Tryz.f201 = some [.s 4] := by kernel_rfl
theorem ok_bytes_Equal (a b : List UInt8) :
    FnOK Tryz.prog 201 [.one (.d (encB a)), .one (.d (encB b))] (fun ra _ => ra = [.one (.d (.sc (.bool (a == b))))]) := by
  refine FnOK.ofK Tryz.func201 (by kernel_rfl) dg_bytes_Equal rs_bytes_Equal rfl rfl ?_
  delta c_bytes_Equal T.o X.i
  refine kSeq (kReg (kMovC rfl (kDone (kSeq (kReg (kMovC rfl (kB2s rfl rfl (kMovC rfl (kB2s rfl rfl (kBin rfl rfl rfl (kMovC rfl (kDone (kRet (endRetA (ra := [.one (.d _)]) rfl ?_))))))))))))))
  simp only [bt_list]

def c_impl_Name_under : C := (.seq (.reg false (.o 0 2 (.box 2 (.t 0)) (.o 1 3 (.box 3 (.t 1)) (.o 2 4 (.mov (.v (.bool false))) .done)))) (.seq (.reg false (.o 0 6 (.fad (.t 2) 0) (.o 1 7 (.load none (.t 6)) (.o 2 8 (.len (.t 7)) (.o 3 9 (.fad (.t 3) 0) (.o 4 10 (.load none (.t 9)) (.o 5 11 (.len (.t 10)) (.o 6 12 (.bin .sub (.t 8) (.t 11)) (.o 7 5 (.mov (.t 12)) .done))))))))) (.seq (.reg true (.op 0 [] (some 13) none true (.mov (.t 5)) (.op 1 [] (some 14) none true (.bin .geq (.t 13) (.i 0)) (.op 2 [] (some 15) none true (.mov (.t 14)) (.op 3 [] (some 16) (some (15, true)) true (.fad (.t 2) 0) (.op 4 [] (some 17) (some (15, true)) true (.load none (.t 16)) (.op 5 [] (some 18) (some (15, true)) true (.mov (.t 5)) (.op 6 [] (some 19) (some (15, true)) true (.mm true (.t 18) (.i 0)) (.op 7 [] (some 20) (some (15, true)) true (.cut 1 (.t 17) (some (.t 19)) none) (.op 8 [] (some 21) (some (15, true)) true (.fad (.t 3) 0) (.op 9 [] (some 22) (some (15, true)) true (.load none (.t 21)) (.op 10 [4, 9] (some 23) (some (15, true)) false (.call 23 200 [(.t 20), (.t 22), (.fn 201)]) (.op 11 [] (some 24) none true (.pick (.t 15) (.t 23) (.v (.bool false))) (.op 12 [] (some 4) none true (.mov (.t 24)) .done)))))))))))))) .ret)))
theorem dg_impl_Name_under : Tryz.f90.body.bind (digC Tryz.prog Tryz.f90.ntmps []) = some c_impl_Name_under := by kernel_rfl
theorem rs_impl_Name_under : resSlots Tryz.prog Tryz.f90 = some [.s 4] := by kernel_rfl
theorem ok_impl_Name_under (n z : List (List UInt8)) (hn : n.length ≤ 4194304) (hz : z.length ≤ 4194304) :
    FnOK Tryz.prog 90 [.agg [.d (encBB n)], .agg [.d (encBB z)]] (fun ra _ => ra = [.one (.d (.sc (.bool (underN n z))))]) := by
  refine FnOK.ofK Tryz.func90 (by kernel_rfl) dg_impl_Name_under rs_impl_Name_under rfl rfl ?_
  delta c_impl_Name_under T.o X.i
  have hd : ∀ m, (n.drop m).length ≤ 4194304 := fun m => by simp; omega
  refine kSeq (kReg (kBox rfl rfl rfl rfl rfl (kBox rfl rfl rfl rfl rfl (kMovC rfl (kDone (kSeq (kReg (kFadP rfl rfl (kLoadP rfl rfl rfl (kLenR rfl rfl (kFadP rfl rfl (kLoadP rfl rfl rfl (kLenR rfl rfl (kDif rfl rfl (by omega) (kMovC rfl (kDone (kSeq (kRegD (kMovC rfl (kBin rfl rfl rfl (kMovC rfl (kGP rfl (fun g0 => kGT rfl (kFadP rfl rfl (kGT rfl (kLoadP rfl rfl rfl (kGT rfl (kMovC rfl (kGT rfl (kMm rfl rfl (kGT rfl (kCutLT rfl rfl (by omega) (kGT rfl (kFadP rfl rfl (kGT rfl (kLoadP rfl rfl rfl (kRelF rfl rfl (kGT rfl ?_)))))))))))))))) (fun g0 => kGF rfl (kGF rfl (kGF rfl (kGF rfl (kGF rfl (kGF rfl (kGF rfl (kRelF rfl rfl (kGF rfl (kPickF rfl (kMovC rfl (kMovC rfl (kDone (kH (kRet (endRetA (ra := [.one (.d _)]) rfl ?_))))))))))))))))))))))))))))))))))))))
  · refine kCallD (ok_slices_EqualFunc_LLbyte_LLbyte_Lbyte_Lbyte _ z (hd _) hz) ⟨rfl, rfl, ⟨rfl, rfl, ⟨_, Tryz.func201, rfl, by kernel_rfl⟩, ?_⟩, trivial⟩ rfl rfl rfl rfl rfl ?_
    · rintro _ R ⟨x, y, rfl, rfl⟩
      exact ok_bytes_Equal x y
    refine kPickT rfl (kMovC rfl (kMovC rfl (kDone (kH (kRet (endRetA (ra := [.one (.d _)]) rfl ?_))))))
    simp only [if_true, underN]
    rw [if_neg (by omega), show (n.length - z.length : Int).toNat = n.length - z.length by omega, decide_eq_true (show z.length ≤ n.length by omega), Bool.true_and]
  · rw [show underN n z = false by simp only [underN]; rw [decide_eq_false (by omega)]; rfl]

def c_impl_Under : C := (.seq (.reg false (.o 0 2 (.box 2 (.t 0)) (.o 1 3 (.box 3 (.t 1)) (.o 2 4 (.mov (.v (.bool false))) .done)))) (.seq (.reg false (.o 0 5 (.load (some 1) (.t 2)) (.o 1 6 (.call 6 72 [(.t 5)]) (.o 2 7 (.mov (.t 6)) (.op 3 [] (some 8) (some (7, true)) false (.load (some 1) (.t 3)) (.op 4 [] (some 9) (some (7, true)) false (.call 9 72 [(.t 8)]) (.o 5 10 (.pick (.t 7) (.t 9) (.v (.bool false))) (.o 6 11 (.mov (.t 10)) (.op 7 [] (some 12) (some (11, true)) false (.load (some 1) (.t 2)) (.op 8 [] (some 13) (some (11, true)) false (.load (some 1) (.t 3)) (.op 9 [] (some 14) (some (11, true)) false (.call 14 90 [(.t 12), (.t 13)]) (.o 10 15 (.pick (.t 11) (.t 14) (.v (.bool false))) (.o 11 4 (.mov (.t 15)) .done))))))))))))) .ret))
theorem dg_impl_Under : Tryz.f26.body.bind (digC Tryz.prog Tryz.f26.ntmps []) = some c_impl_Under := by kernel_rfl
theorem rs_impl_Under : resSlots Tryz.prog Tryz.f26 = some [.s 4] := by kernel_rfl
theorem ok_impl_Under (n z : List (List UInt8)) (hn : n.length ≤ 4194304) (hz : z.length ≤ 4194304) (hn' : ∀ b ∈ n, b.length ≤ 4194304) (hz' : ∀ b ∈ z, b.length ≤ 4194304) :
    FnOK Tryz.prog 26 [.agg [.d (encBB n)], .agg [.d (encBB z)]] (fun ra _ => ra = [.one (.d (.sc (.bool (nameOk n && nameOk z && underN n z))))]) := by
  refine FnOK.ofK Tryz.func26 (by kernel_rfl) dg_impl_Under rs_impl_Under rfl rfl ?_
  delta c_impl_Under T.o X.i
  refine kSeq (kReg (kBox rfl rfl rfl rfl rfl (kBox rfl rfl rfl rfl rfl (kMovC rfl (kDone (kSeq (kReg (kLoadP rfl rfl rfl (kCallD (ok_impl_NameOk _ pr pr) ⟨⟨⟨rfl, trivial⟩, leb⟩, trivial⟩ rfl rfl rfl rfl rfl (kMovC rfl (kGS rfl (fun g0 => kGT rfl (kLoadP rfl rfl rfl (kGT rfl (kCallD (ok_impl_NameOk _ pr pr) ⟨⟨⟨rfl, trivial⟩, leb⟩, trivial⟩ rfl rfl rfl rfl rfl (kPickT rfl (kMovC rfl (kMovC rfl (kGS rfl (fun g1 => kGT rfl (kLoadP rfl rfl rfl (kGT rfl (kLoadP rfl rfl rfl (kGT rfl (kCallD (ok_impl_Name_under _ _ pr pr) ⟨⟨⟨rfl, trivial⟩, leb⟩, ⟨⟨rfl, trivial⟩, leb⟩, trivial⟩ rfl rfl rfl rfl rfl (kPickT rfl (kMovC rfl (kMovC rfl (kDone (kRet (endRetA (ra := [.one (.d _)]) rfl ?_)))))))))))) (fun g1 => kGF rfl (kGF rfl (kGF rfl (kPickF rfl (kMovC rfl (kMovC rfl (kDone (kRet (endRetA (ra := [.one (.d _)]) rfl ?_))))))))))))))))) (fun g0 => kGF rfl (kGF rfl (kPickF rfl (kMovC rfl (kMovC rfl (kGF rfl (kGF rfl (kGF rfl (kPickF rfl (kMovC rfl (kMovC rfl (kDone (kRet (endRetA (ra := [.one (.d _)]) rfl ?_)))))))))))))))))))))))))
  all_goals simp_all

def c_impl_all_int_1 : C := (.seq (.reg false (.o 0 3 (.mov (.v (.bool false))) .done)) (.seq (.reg false (.o 0 4 (.load none (.t 1)) (.o 1 5 (.mov (.t 0)) (.o 2 6 (.callv 6 (.t 4) [(.t 5)]) (.o 3 7 (.un .not (.t 6)) (.o 4 3 (.mov (.t 7)) .done)))))) .ret))
theorem dg_impl_all_int_1 : Tryz.f297.body.bind (digC Tryz.prog Tryz.f297.ntmps []) = some c_impl_all_int_1 := by kernel_rfl
theorem rs_impl_all_int_1 : resSlots Tryz.prog Tryz.f297 = some [.s 3] := by kernel_rfl
theorem ok_impl_all_int_1 (x : DV) (D : DV → Prop) (g : DV → Bool) (hx : D x) :
    FnOK Tryz.prog 297 [.one (.d x), .one (.ptr [.fv false (fcPred D g)])] (fun ra _ => ra = [.one (.d (.sc (.bool (!g x))))]) := by
  refine FnOK.ofK Tryz.func297 (by kernel_rfl) dg_impl_all_int_1 rs_impl_all_int_1 rfl rfl ?_
  delta c_impl_all_int_1 T.o X.i
  refine kSeq (kReg (kMovC rfl (kDone ?_)))
  refine kSeq (kReg (kLoadC rfl rfl (kMovC rfl (kCallv rfl ⟨x, hx, rfl, rfl⟩ ⟨rfl, trivial⟩ (.inr ?_) rfl ?_ rfl ?_))))
  · rintro _ rfl; rfl
  · rintro _ rfl; exact leb
  rintro _ rfl
  refine kUn rfl rfl (kMovC rfl (kDone (kRet ?_)))
  exact endRet (ra := [.one (.d _)]) rfl ⟨⟨⟨rfl, .inl rfl⟩, trivial⟩, .nil, trivial, trivial, trivial⟩ rfl

def c_slices_IndexFunc_Lint_int : C := (.seq (.reg false (.o 0 4 (.mov (.i 0)) .done)) (.seq (.seq (.reg false (.o 0 6 (.mov (.t 0)) (.o 1 7 (.len (.t 6)) (.o 2 8 (.mov (.i 0)) .done)))) (.block 0 (.loop (.seq (.reg false (.o 0 9 (.bin .lss (.t 8) (.t 7)) .done)) (.seq (.cond (.t 9) .skip (.exit 0)) (.seq (.block 1 (.seq (.reg false (.o 0 10 (.mov (.t 8)) (.o 1 5 (.mov (.t 10)) .done))) (.seq (.reg false (.o 0 11 (.mov (.t 1)) (.o 1 12 (.mov (.t 0)) (.o 2 13 (.mov (.t 5)) (.o 3 14 (.iad 1 (.t 12) (.t 13)) (.o 4 15 (.load none (.t 14)) (.o 5 16 (.callv 16 (.t 11) [(.t 15)]) .done))))))) (.cond (.t 16) (.seq (.reg false (.o 0 17 (.mov (.t 5)) (.o 1 4 (.mov (.t 17)) .done))) .ret) .skip)))) (.reg false (.o 0 18 (.bin .add (.t 8) (.i 1)) (.o 1 8 (.mov (.t 18)) .done))))))))) (.seq (.reg false (.o 0 4 (.mov (.i (-1))) .done)) .ret)))
theorem dg_slices_IndexFunc_Lint_int : Tryz.f304.body.bind (digC Tryz.prog Tryz.f304.ntmps []) = some c_slices_IndexFunc_Lint_int := by kernel_rfl
theorem rs_slices_IndexFunc_Lint_int : resSlots Tryz.prog Tryz.f304 = some [.s 4] := by kernel_rfl
theorem ok_slices_IndexFunc_Lint_int (l : List DV) (D : DV → Prop) (g : DV → Bool) (hl : (l.length : Int) ≤ 9223372036854775807) (hD : ∀ x ∈ l, D x) :
    FnOK Tryz.prog 304 [.one (.d (lst l)), .one (.fv false (fcPred D g))] (fun ra _ => ra = [.one (.d (.sc (.int .i64 (idxF g l))))]) := by
  refine FnOK.ofK Tryz.func304 (by kernel_rfl) dg_slices_IndexFunc_Lint_int rs_slices_IndexFunc_Lint_int rfl rfl ?_
  delta c_slices_IndexFunc_Lint_int T.o X.i
  refine kSeq (kReg (kMovC rfl (kDone ?_)))
  refine kSeq (kSeq (kReg (kMovC rfl (kLen rfl rfl rfl (kMovC rfl (kDone (kBlock ?_)))))))
  rw [len_lst]
  refine kLoop (α := { i : Nat // i ≤ l.length ∧ ∀ x ∈ l.take i, g x = false })
    (fun y => ⟨tabSl [(0, .dv (lst l)), (1, .c (.fv false (fcPred D g))), (7, .i l.length), (8, .i y.1)], (St.init [.one (.d (lst l)), .one (.fv false (fcPred D g))]).ob, []⟩) (fun y => l.length - y.1) ⟨0, by simp⟩
    (.tab rfl ⟨.refl _, .refl _, .refl _, .refl _, trivial⟩) ?_
  rintro ⟨i, hi, hg⟩
  simp only
  refine kSeq (kReg (kBin rfl rfl rfl (kDone ?_)))
  refine kSeq (kCond rfl (fun h1 => ?_) (fun h1 => ?_))
  · have hlt : i < l.length := by simp at h1; omega
    refine kSkip (kSeq (kBlock (kSeq (kReg (kMovC rfl (kMovC rfl (kDone ?_)))))))
    refine kSeq (kReg (kMovC rfl (kMovC rfl (kMovC rfl (kIadD rfl rfl rfl rfl ?_ ?_)))))
    · rw [len_lst]; omega
    rw [show (lst l).row (i : Int).toNat = [l[i]] from row_lst l i hlt]
    refine kLoadD rfl rfl (kCallv rfl ⟨l[i], hD _ (List.getElem_mem hlt), rfl, rfl⟩ ⟨rfl, trivial⟩ (.inr ?_) rfl ?_ rfl ?_)
    · rintro _ rfl; rfl
    · rintro _ rfl; exact leb
    rintro _ rfl
    refine kDone (kCond rfl (fun h2 => ?_) (fun h2 => ?_))
    · refine kSeq (kReg (kMovC rfl (kMovC rfl (kDone (kRet ?_)))))
      refine endRet (ra := [.one (.d _)]) rfl ⟨⟨⟨rfl, .inl rfl⟩, trivial⟩, .nil, trivial, trivial, trivial⟩ ?_
      have : l.findIdx? g = some i := by
        rw [List.findIdx?_eq_some_iff_getElem]
        refine ⟨hlt, h2, fun j hj => ?_⟩
        simpa using hg _ (by rw [List.mem_take_iff_getElem]; exact ⟨j, by omega, rfl⟩)
      simp [idxF, this]
    · refine kSkip (kBk (kReg (kAdd rfl rfl ?_ (kMovC rfl (kDone (kInv ?_))))))
      · omega
      refine ⟨⟨i + 1, hlt, ?_⟩, by simp only; omega, .tab rfl ⟨.refl _, .refl _, .refl _, .refl _, trivial⟩⟩
      intro x hx
      rw [← List.take_append_getElem hlt, List.mem_append] at hx
      rcases hx with hx | hx
      · exact hg x hx
      · simp at hx; rw [hx]; exact h2
  · refine kExit (kExC (kExI (kExB ?_)))
    have hge : i = l.length := by simp at h1; omega
    refine kSeq (kReg (kMovC rfl (kDone (kRet ?_))))
    refine endRet (ra := [.one (.d _)]) rfl ⟨⟨⟨rfl, .inl rfl⟩, trivial⟩, .nil, trivial, trivial, trivial⟩ ?_
    have : l.findIdx? g = none := by
      rw [List.findIdx?_eq_none_iff]
      intro x hx
      rw [hge, List.take_length] at hg
      exact hg x hx
    simp [idxF, this]

def c_slices_ContainsFunc_Lint_int : C := (.seq (.reg false (.o 0 4 (.mov (.v (.bool false))) .done)) (.seq (.reg false (.o 0 5 (.mov (.t 0)) (.o 1 6 (.mov (.t 1)) (.o 2 7 (.call 7 304 [(.t 5), (.t 6)]) (.o 3 8 (.bin .geq (.t 7) (.i 0)) (.o 4 4 (.mov (.t 8)) .done)))))) .ret))
theorem dg_slices_ContainsFunc_Lint_int : Tryz.f296.body.bind (digC Tryz.prog Tryz.f296.ntmps []) = some c_slices_ContainsFunc_Lint_int := by kernel_rfl
theorem rs_slices_ContainsFunc_Lint_int : resSlots Tryz.prog Tryz.f296 = some [.s 4] := by kernel_rfl
theorem ok_slices_ContainsFunc_Lint_int (l : List DV) (D : DV → Prop) (g : DV → Bool) (hl : (l.length : Int) ≤ 9223372036854775807) (hD : ∀ x ∈ l, D x) :
    FnOK Tryz.prog 296 [.one (.d (lst l)), .one (.fv false (fcPred D g))] (fun ra _ => ra = [.one (.d (.sc (.bool (l.any g))))]) := by
  refine FnOK.ofK Tryz.func296 (by kernel_rfl) dg_slices_ContainsFunc_Lint_int rs_slices_ContainsFunc_Lint_int rfl rfl ?_
  delta c_slices_ContainsFunc_Lint_int T.o X.i
  refine kSeq (kReg (kMovC rfl (kDone ?_)))
  refine kSeq (kReg (kMovC rfl (kMovC rfl ?_)))
  refine kCall1 true (ok_slices_IndexFunc_Lint_int l D g hl hD) ⟨rfl, ⟨fun h => h, fun _ _ h => h⟩, trivial⟩ rfl rfl rfl fun os => ?_
  refine kBin rfl rfl rfl (kMovC rfl (kDone (kRet ?_)))
  refine endRet (ra := [.one (.d _)]) rfl ⟨⟨⟨rfl, .inl rfl⟩, trivial⟩, .nil, trivial, trivial, trivial⟩ ?_
  have : decide (idxF g l ≥ 0) = l.any g := by
    unfold idxF
    cases h : l.findIdx? g with
    | none =>
      rw [List.findIdx?_eq_none_iff] at h
      have : l.any g = false := by rw [List.any_eq_false]; intro x hx; simp [h x hx]
      rw [this]; rfl
    | some i =>
      rw [List.findIdx?_eq_some_iff_getElem] at h
      obtain ⟨h1, h2, _⟩ := h
      have : l.any g = true := by rw [List.any_eq_true]; exact ⟨_, List.getElem_mem h1, h2⟩
      rw [this]; simp
  rw [this]

def c_impl_all_int : C := (.seq (.reg false (.o 0 3 (.box 3 (.t 1)) (.o 1 4 (.mov (.v (.bool false))) .done))) (.seq (.reg false (.o 0 5 (.mov (.t 0)) (.o 1 6 (.clo 297 [] [(.t 3)]) (.o 2 7 (.call 7 296 [(.t 5), (.t 6)]) (.o 3 8 (.un .not (.t 7)) (.o 4 4 (.mov (.t 8)) .done)))))) .ret))
theorem dg_impl_all_int : Tryz.f277.body.bind (digC Tryz.prog Tryz.f277.ntmps []) = some c_impl_all_int := by kernel_rfl
theorem rs_impl_all_int : resSlots Tryz.prog Tryz.f277 = some [.s 4] := by kernel_rfl
theorem ok_impl_all_int (l : List DV) (D : DV → Prop) (g : DV → Bool) (hl : (l.length : Int) ≤ 9223372036854775807) (hD : ∀ x ∈ l, D x) :
    FnOK Tryz.prog 277 [.one (.d (lst l)), .one (.fv false (fcPred D g))] (fun ra _ => ra = [.one (.d (.sc (.bool (l.all g))))]) := by
  refine FnOK.ofK Tryz.func277 (by kernel_rfl) dg_impl_all_int rs_impl_all_int rfl rfl ?_
  delta c_impl_all_int T.o X.i
  refine kSeq (kReg (kBox rfl rfl rfl rfl rfl (kMovC rfl (kDone ?_))))
  refine kSeq (kReg (kMovC rfl (kClo rfl rfl ?_)))
  refine kCall1 true (ok_slices_ContainsFunc_Lint_int l D (fun x => !g x) hl hD) ⟨rfl, ⟨rfl, ⟨_, Tryz.func297, rfl, by kernel_rfl⟩, _, rfl, ?_⟩, trivial⟩ rfl rfl rfl fun os => ?_
  · rintro l R ⟨x, hx, rfl, rfl⟩
    exact ⟨by rintro _ rfl; rfl, ok_impl_all_int_1 x D g hx⟩
  refine kUn rfl rfl (kMovC rfl (kDone (kRet ?_)))
  refine endRet (ra := [.one (.d _)]) rfl ⟨⟨⟨rfl, .inl rfl⟩, trivial⟩, .nil, trivial, trivial, trivial⟩ ?_
  simp [List.all_eq_not_any_not]

def c_impl_isWord : C := (.seq (.reg false (.o 0 2 (.mov (.v (.bool false))) .done)) (.seq (.reg false (.o 0 3 (.mov (.t 0)) (.o 1 4 (.call 4 147 [(.t 3), (.i 0), (.i 4294967295)]) (.o 2 2 (.mov (.t 4)) .done)))) .ret))
theorem dg_impl_isWord : Tryz.f192.body.bind (digC Tryz.prog Tryz.f192.ntmps []) = some c_impl_isWord := by kernel_rfl
theorem rs_impl_isWord : resSlots Tryz.prog Tryz.f192 = some [.s 2] := by kernel_rfl
theorem ok_impl_isWord (n : Int) : FnOK Tryz.prog 192 [.one (.d (.sc (.int .i64 n)))] (fun ra _ => ra = [.one (.d (.sc (.bool (isW n))))]) := by
  refine FnOK.ofK Tryz.func192 (by kernel_rfl) dg_impl_isWord rs_impl_isWord rfl rfl ?_
  delta c_impl_isWord T.o X.i
  refine kSeq (kReg (kMovC rfl (kDone (kSeq (kReg (kMovC rfl (kCallD (ok_impl_within _ _ _) ⟨rfl, rfl, rfl, trivial⟩ rfl rfl rfl rfl rfl (kMovC rfl (kDone (kRet (endRetA (ra := [.one (.d _)]) rfl ?_)))))))))))
  rw [show isW n = decide (0 ≤ n ∧ n ≤ 4294967295) by unfold isW; rw [Bool.eq_iff_iff]; simp; omega]

def c_impl_areServers : C := (.seq (.reg false (.o 0 2 (.mov (.v (.bool false))) .done)) (.seq (.reg false (.o 0 3 (.mov (.t 0)) (.o 1 4 (.len (.t 3)) (.o 2 5 (.call 5 147 [(.t 4), (.i 1), (.i 4)]) (.o 3 6 (.mov (.t 5)) (.op 4 [] (some 7) (some (6, true)) false (.mov (.t 0)) (.op 5 [] (some 8) (some (6, true)) false (.call 8 277 [(.t 7), (.fn 192)]) (.o 6 9 (.pick (.t 6) (.t 8) (.v (.bool false))) (.o 7 2 (.mov (.t 9)) .done))))))))) .ret))
theorem dg_impl_areServers : Tryz.f231.body.bind (digC Tryz.prog Tryz.f231.ntmps []) = some c_impl_areServers := by kernel_rfl
theorem rs_impl_areServers : resSlots Tryz.prog Tryz.f231 = some [.s 2] := by kernel_rfl
theorem ok_impl_areServers (l : List Int) (h : l.length ≤ 4194304) :
    FnOK Tryz.prog 231 [.one (.d (encI l))] (fun ra _ => ra = [.one (.d (.sc (.bool (ipsOk l))))]) := by
  refine FnOK.ofK Tryz.func231 (by kernel_rfl) dg_impl_areServers rs_impl_areServers rfl rfl ?_
  delta c_impl_areServers T.o X.i
  refine kSeq (kReg (kMovC rfl (kDone (kSeq (kReg (kMovC rfl (kLenR rfl rfl (kCallD (ok_impl_within _ _ _) ⟨rfl, rfl, rfl, trivial⟩ rfl rfl rfl rfl rfl (kMovC rfl (kGP rfl (fun g0 => kGT rfl (kMovC rfl (kGT rfl ?_))) (fun g0 => kGF rfl (kGF rfl (kPickF rfl (kMovC rfl (kMovC rfl (kDone (kRet (endRetA (ra := [.one (.d _)]) rfl ?_))))))))))))))))))
  · refine kCallD (ok_impl_all_int (l.map fun n => .sc (.int .i64 n)) isI (fun x => isW (decI x)) (by simp; omega) (fun x hx => by obtain ⟨c, _, rfl⟩ := List.mem_map.1 hx; exact ⟨c, rfl⟩)) ⟨congrArg some (encI_lst l), ⟨rfl, rfl, ⟨_, Tryz.func192, rfl, by kernel_rfl⟩, ?_⟩, trivial⟩ rfl rfl rfl rfl rfl ?_
    · rintro _ R ⟨x, ⟨c, rfl⟩, rfl, rfl⟩
      exact ok_impl_isWord c
    refine kPickT rfl (kMovC rfl (kMovC rfl (kDone (kRet (endRetA (ra := [.one (.d _)]) rfl ?_)))))
    rw [all_decI, show ipsOk l = l.all isW by simp only [ipsOk]; rw [decide_eq_true (by omega)]; rfl]
  · rw [show ipsOk l = false by simp only [ipsOk]; rw [decide_eq_false (by omega)]; rfl]

def c_impl_isCode : C := (.seq (.reg false (.o 0 2 (.mov (.v (.bool false))) .done)) (.seq (.reg false (.o 0 3 (.mov (.t 0)) (.o 1 4 (.call 4 147 [(.t 3), (.i 0), (.i 10)]) (.o 2 2 (.mov (.t 4)) .done)))) .ret))
theorem dg_impl_isCode : Tryz.f168.body.bind (digC Tryz.prog Tryz.f168.ntmps []) = some c_impl_isCode := by kernel_rfl
theorem rs_impl_isCode : resSlots Tryz.prog Tryz.f168 = some [.s 2] := by kernel_rfl
theorem ok_impl_isCode (n : Int) : FnOK Tryz.prog 168 [.one (.d (.sc (.int .i64 n)))] (fun ra _ => ra = [.one (.d (.sc (.bool (decide (0 ≤ n) && decide (n ≤ 10)))))]) := by
  refine FnOK.ofK Tryz.func168 (by kernel_rfl) dg_impl_isCode rs_impl_isCode rfl rfl ?_
  delta c_impl_isCode T.o X.i
  refine kSeq (kReg (kMovC rfl (kDone (kSeq (kReg (kMovC rfl (kCallD (ok_impl_within _ _ _) ⟨rfl, rfl, rfl, trivial⟩ rfl rfl rfl rfl rfl (kMovC rfl (kDone (kRet (endRetA (ra := [.one (.d _)]) rfl ?_)))))))))))
  rw [Bool.decide_and]

def c_impl_hasTo : C := (.seq (.reg false (.o 0 2 (.mov (.v (.bool false))) .done)) (.seq (.reg false (.o 0 3 (.mov (.t 0)) (.o 1 4 (.bin .eql (.t 3) (.i 2)) (.o 2 5 (.mov (.t 4)) (.op 3 [] (some 6) (some (5, false)) false (.mov (.t 0)) (.op 4 [] (some 7) (some (5, false)) false (.bin .eql (.t 6) (.i 5)) (.o 5 8 (.pick (.t 5) (.v (.bool true)) (.t 7)) (.o 6 9 (.mov (.t 8)) (.op 7 [] (some 10) (some (9, false)) false (.mov (.t 0)) (.op 8 [] (some 11) (some (9, false)) false (.bin .eql (.t 10) (.i 6)) (.o 9 12 (.pick (.t 9) (.v (.bool true)) (.t 11)) (.o 10 13 (.mov (.t 12)) (.op 11 [] (some 14) (some (13, false)) false (.mov (.t 0)) (.op 12 [] (some 15) (some (13, false)) false (.bin .eql (.t 14) (.i 12)) (.o 13 16 (.pick (.t 13) (.v (.bool true)) (.t 15)) (.o 14 2 (.mov (.t 16)) .done)))))))))))))))) .ret))
theorem dg_impl_hasTo : Tryz.f193.body.bind (digC Tryz.prog Tryz.f193.ntmps []) = some c_impl_hasTo := by kernel_rfl
theorem rs_impl_hasTo : resSlots Tryz.prog Tryz.f193 = some [.s 2] := by kernel_rfl
theorem ok_impl_hasTo (n : Int) : FnOK Tryz.prog 193 [.one (.d (.sc (.int .i64 n)))] (fun ra _ => ra = [.one (.d (.sc (.bool (hasTo n))))]) := by
  refine FnOK.ofK Tryz.func193 (by kernel_rfl) dg_impl_hasTo rs_impl_hasTo rfl rfl ?_
  delta c_impl_hasTo T.o X.i
  refine kSeq (kReg (kMovC rfl (kDone (kSeq (kReg (kMovC rfl (kBin rfl rfl rfl (kMovC rfl (kGP rfl (fun g0 => kGF rfl (kGF rfl (kPickT rfl (kMovC rfl (kMovC rfl (kGF rfl (kGF rfl (kPickT rfl (kMovC rfl (kMovC rfl (kGF rfl (kGF rfl (kPickT rfl (kMovC rfl (kMovC rfl (kDone (kRet (endRetA (ra := [.one (.d _)]) rfl ?_)))))))))))))))))) (fun g0 => kGT rfl (kMovC rfl (kGT rfl (kBin rfl rfl rfl (kPickF rfl (kMovC rfl (kMovC rfl (kGP rfl (fun g1 => kGF rfl (kGF rfl (kPickT rfl (kMovC rfl (kMovC rfl (kGF rfl (kGF rfl (kPickT rfl (kMovC rfl (kMovC rfl (kDone (kRet (endRetA (ra := [.one (.d _)]) rfl ?_))))))))))))) (fun g1 => kGT rfl (kMovC rfl (kGT rfl (kBin rfl rfl rfl (kPickF rfl (kMovC rfl (kMovC rfl (kGP rfl (fun g2 => kGF rfl (kGF rfl (kPickT rfl (kMovC rfl (kMovC rfl (kDone (kRet (endRetA (ra := [.one (.d _)]) rfl ?_)))))))) (fun g2 => kGT rfl (kMovC rfl (kGT rfl (kBin rfl rfl rfl (kPickF rfl (kMovC rfl (kMovC rfl (kDone (kRet (endRetA (ra := [.one (.d _)]) rfl ?_)))))))))))))))))))))))))))))))))))
  all_goals simp_all [hasTo]

def c_impl_hasText : C := (.seq (.reg false (.o 0 2 (.mov (.v (.bool false))) .done)) (.seq (.reg false (.o 0 3 (.mov (.t 0)) (.o 1 4 (.bin .eql (.t 3) (.i 16)) (.o 2 5 (.mov (.t 4)) (.op 3 [] (some 6) (some (5, false)) false (.mov (.t 0)) (.op 4 [] (some 7) (some (5, false)) false (.bin .eql (.t 6) (.i 49)) (.o 5 8 (.pick (.t 5) (.v (.bool true)) (.t 7)) (.o 6 2 (.mov (.t 8)) .done)))))))) .ret))
theorem dg_impl_hasText : Tryz.f194.body.bind (digC Tryz.prog Tryz.f194.ntmps []) = some c_impl_hasText := by kernel_rfl
theorem rs_impl_hasText : resSlots Tryz.prog Tryz.f194 = some [.s 2] := by kernel_rfl
theorem ok_impl_hasText (n : Int) : FnOK Tryz.prog 194 [.one (.d (.sc (.int .i64 n)))] (fun ra _ => ra = [.one (.d (.sc (.bool (hasText n))))]) := by
  refine FnOK.ofK Tryz.func194 (by kernel_rfl) dg_impl_hasText rs_impl_hasText rfl rfl ?_
  delta c_impl_hasText T.o X.i
  refine kSeq (kReg (kMovC rfl (kDone (kSeq (kReg (kMovC rfl (kBin rfl rfl rfl (kMovC rfl (kGP rfl (fun g0 => kGF rfl (kGF rfl (kPickT rfl (kMovC rfl (kMovC rfl (kDone (kRet (endRetA (ra := [.one (.d _)]) rfl ?_)))))))) (fun g0 => kGT rfl (kMovC rfl (kGT rfl (kBin rfl rfl rfl (kPickF rfl (kMovC rfl (kMovC rfl (kDone (kRet (endRetA (ra := [.one (.d _)]) rfl ?_)))))))))))))))))))
  all_goals simp_all [hasText]

def c_impl_RrOk : C := (.seq (.reg false (.o 0 1 (.box 1 (.t 0)) (.o 1 2 (.mov (.v (.bool false))) .done))) (.seq (.seq (.reg false (.o 0 7 (.fad (.t 1) 0) (.o 1 8 (.load (some 1) (.t 7)) (.o 2 9 (.call 9 72 [(.t 8)]) (.o 3 10 (.un .not (.t 9)) (.o 4 11 (.mov (.t 10)) (.op 5 [] (some 12) (some (11, false)) false (.fad (.t 1) 1) (.op 6 [] (some 13) (some (11, false)) false (.load none (.t 12)) (.op 7 [] (some 14) (some (11, false)) false (.call 14 155 [(.t 13)]) (.op 8 [] (some 15) (some (11, false)) false (.un .not (.t 14)) (.o 9 16 (.pick (.t 11) (.v (.bool true)) (.t 15)) (.o 10 17 (.mov (.t 16)) (.op 11 [] (some 18) (some (17, false)) false (.fad (.t 1) 2) (.op 12 [] (some 19) (some (17, false)) false (.load none (.t 18)) (.op 13 [] (some 20) (some (17, false)) false (.call 20 147 [(.t 19), (.i 0), (.i 100000)]) (.op 14 [] (some 21) (some (17, false)) false (.un .not (.t 20)) (.o 15 22 (.pick (.t 17) (.v (.bool true)) (.t 21)) .done))))))))))))))))) (.cond (.t 22) (.seq (.reg false (.o 0 2 (.mov (.v (.bool false))) .done)) .ret) .skip)) (.seq (.reg false (.o 0 23 (.fad (.t 1) 6) (.o 1 24 (.load none (.t 23)) (.o 2 25 (.len (.t 24)) (.o 3 26 (.bin .eql (.t 25) (.i 0)) (.o 4 3 (.mov (.t 26)) .done)))))) (.seq (.seq (.reg false (.o 0 27 (.fad (.t 1) 1) (.o 1 28 (.load none (.t 27)) (.o 2 29 (.bin .eql (.t 28) (.i 6)) .done)))) (.cond (.t 29) (.reg false (.o 0 30 (.fad (.t 1) 6) (.o 1 31 (.load none (.t 30)) (.o 2 32 (.len (.t 31)) (.o 3 33 (.bin .eql (.t 32) (.i 2)) (.o 4 34 (.mov (.t 33)) (.op 5 [] (some 35) (some (34, true)) false (.fad (.t 1) 6) (.op 6 [] (some 36) (some (34, true)) false (.load none (.t 35)) (.op 7 [] (some 37) (some (34, true)) false (.iad 1 (.t 36) (.i 0)) (.op 8 [] (some 38) (some (34, true)) false (.load none (.t 37)) (.op 9 [] (some 39) (some (34, true)) false (.call 39 192 [(.t 38)]) (.o 10 40 (.pick (.t 34) (.t 39) (.v (.bool false))) (.o 11 41 (.mov (.t 40)) (.op 12 [] (some 42) (some (41, true)) false (.fad (.t 1) 6) (.op 13 [] (some 43) (some (41, true)) false (.load none (.t 42)) (.op 14 [] (some 44) (some (41, true)) false (.iad 1 (.t 43) (.i 1)) (.op 15 [] (some 45) (some (41, true)) false (.load none (.t 44)) (.op 16 [] (some 46) (some (41, true)) false (.call 46 147 [(.t 45), (.i 0), (.i 100000)]) (.o 17 47 (.pick (.t 41) (.t 46) (.v (.bool false))) (.o 18 3 (.mov (.t 47)) .done)))))))))))))))))))) .skip)) (.seq (.reg false (.o 0 48 (.fad (.t 1) 3) (.o 1 49 (.load none (.t 48)) (.o 2 50 (.bin .eql (.t 49) (.i 0)) (.o 3 51 (.mov (.t 50)) (.op 4 [] (some 52) (some (51, false)) false (.fad (.t 1) 1) (.op 5 [] (some 53) (some (51, false)) false (.load none (.t 52)) (.op 6 [] (some 54) (some (51, false)) false (.bin .eql (.t 53) (.i 1)) (.op 7 [] (some 55) (some (51, false)) false (.mov (.t 54)) (.op 8 [] (some 56) (some (55, true)) false (.fad (.t 1) 3) (.op 9 [] (some 57) (some (55, true)) false (.load none (.t 56)) (.op 10 [] (some 58) (some (55, true)) false (.call 58 192 [(.t 57)]) (.op 11 [] (some 59) (some (51, false)) false (.pick (.t 55) (.t 58) (.v (.bool false))) (.o 12 60 (.pick (.t 51) (.v (.bool true)) (.t 59)) (.o 13 4 (.mov (.t 60)) .done))))))))))))))) (.seq (.reg false (.o 0 61 (.fad (.t 1) 4) (.o 1 62 (.fad (.t 61) 0) (.o 2 63 (.load none (.t 62)) (.o 3 64 (.len (.t 63)) (.o 4 65 (.bin .eql (.t 64) (.i 0)) (.o 5 66 (.mov (.t 65)) (.op 6 [] (some 67) (some (66, false)) false (.fad (.t 1) 1) (.op 7 [] (some 68) (some (66, false)) false (.load none (.t 67)) (.op 8 [] (some 69) (some (66, false)) false (.call 69 193 [(.t 68)]) (.op 9 [] (some 70) (some (66, false)) false (.mov (.t 69)) (.op 10 [] (some 71) (some (70, true)) false (.fad (.t 1) 4) (.op 11 [] (some 72) (some (70, true)) false (.load (some 1) (.t 71)) (.op 12 [] (some 73) (some (70, true)) false (.call 73 72 [(.t 72)]) (.op 13 [] (some 74) (some (66, false)) false (.pick (.t 70) (.t 73) (.v (.bool false))) (.o 14 75 (.pick (.t 66) (.v (.bool true)) (.t 74)) (.o 15 5 (.mov (.t 75)) .done))))))))))))))))) (.seq (.reg false (.o 0 76 (.fad (.t 1) 5) (.o 1 77 (.load none (.t 76)) (.o 2 78 (.len (.t 77)) (.o 3 79 (.bin .eql (.t 78) (.i 0)) (.o 4 80 (.mov (.t 79)) (.op 5 [] (some 81) (some (80, false)) false (.fad (.t 1) 1) (.op 6 [] (some 82) (some (80, false)) false (.load none (.t 81)) (.op 7 [] (some 83) (some (80, false)) false (.call 83 194 [(.t 82)]) (.op 8 [] (some 84) (some (80, false)) false (.mov (.t 83)) (.op 9 [] (some 85) (some (84, true)) false (.fad (.t 1) 5) (.op 10 [] (some 86) (some (84, true)) false (.load none (.t 85)) (.op 11 [] (some 87) (some (84, true)) false (.len (.t 86)) (.op 12 [] (some 88) (some (84, true)) false (.bin .leq (.t 87) (.i 40)) (.op 13 [] (some 89) (some (80, false)) false (.pick (.t 84) (.t 88) (.v (.bool false))) (.o 14 90 (.pick (.t 80) (.v (.bool true)) (.t 89)) (.o 15 6 (.mov (.t 90)) .done))))))))))))))))) (.seq (.reg false (.o 0 91 (.mov (.t 3)) (.o 1 92 (.mov (.t 91)) (.op 2 [] (some 93) (some (92, true)) false (.mov (.t 4)) (.o 3 94 (.pick (.t 92) (.t 93) (.v (.bool false))) (.o 4 95 (.mov (.t 94)) (.op 5 [] (some 96) (some (95, true)) false (.mov (.t 5)) (.o 6 97 (.pick (.t 95) (.t 96) (.v (.bool false))) (.o 7 98 (.mov (.t 97)) (.op 8 [] (some 99) (some (98, true)) false (.mov (.t 6)) (.o 9 100 (.pick (.t 98) (.t 99) (.v (.bool false))) (.o 10 2 (.mov (.t 100)) .done)))))))))))) .ret))))))))
theorem dg_impl_RrOk : Tryz.f88.body.bind (digC Tryz.prog Tryz.f88.ntmps []) = some c_impl_RrOk := by kernel_rfl
theorem rs_impl_RrOk : resSlots Tryz.prog Tryz.f88 = some [.s 2] := by kernel_rfl
theorem ok_impl_RrOk (r : Rr) (hs : SmallR r) :
    FnOK Tryz.prog 88 [.agg (r.cells.map .d)] (fun ra _ => ra = [.one (.d (.sc (.bool (rrOk r))))]) := by
  refine FnOK.ofK Tryz.func88 (by kernel_rfl) dg_impl_RrOk rs_impl_RrOk rfl rfl ?_
  delta c_impl_RrOk T.o X.i
  have n1 := hs.n.len
  have n2 := hs.n.mem
  have t1 := hs.t.len
  have t2 := hs.t.mem
  have x1 := hs.x
  have m1 := hs.m
  refine kSeq (kReg (kBox rfl rfl rfl rfl rfl (kMovC rfl (kDone ?_))))
  by_cases h0 : nameOk r.name = true ∧ tyOk r.ty = true ∧ (0 ≤ r.ttl ∧ r.ttl ≤ 100000)
  case neg =>
    rw [show rrOk r = false by simp only [rrOk]; revert h0; cases nameOk r.name <;> cases tyOk r.ty <;> simp <;> intros <;> omega]
    refine kSeq ?_
    cases h1 : nameOk r.name
    case false => refine kSeq (kReg (kFadP rfl rfl (kLoadP rfl rfl rfl (kCallD (ok_impl_NameOk _ pr pr) ⟨⟨⟨rfl, trivial⟩, leb⟩, trivial⟩ rfl rfl rfl rfl rfl (kUn rfl rfl (kMovC rfl (kGN rfl (fun g0 => kGF rfl (kGF rfl (kGF rfl (kGF rfl (kPickT rfl (kMovC rfl (kMovC rfl (kGF rfl (kGF rfl (kGF rfl (kGF rfl (kPickT rfl (kMovC rfl (kDone (kCondT rfl (kSeq (kReg (kMovC rfl (kDone (kRet (endRetA (ra := [.one (.d _)]) rfl rfl))))))))))))))))))))) (fun g0 => (by (simp [*] at g0))))))))))
    cases h2 : tyOk r.ty
    case false => refine kSeq (kReg (kFadP rfl rfl (kLoadP rfl rfl rfl (kCallD (ok_impl_NameOk _ pr pr) ⟨⟨⟨rfl, trivial⟩, leb⟩, trivial⟩ rfl rfl rfl rfl rfl (kUn rfl rfl (kMovC rfl (kGN rfl (fun g0 => (by (simp [*] at g0))) (fun g0 => kGT rfl (kFadP rfl rfl (kGT rfl (kLoadP rfl rfl rfl (kGT rfl (kCallD (ok_impl_TypeOk _) ⟨rfl, trivial⟩ rfl rfl rfl rfl rfl (kGT rfl (kUn rfl rfl (kPickF rfl (kMovC rfl (kMovC rfl (kGN rfl (fun g1 => kGF rfl (kGF rfl (kGF rfl (kGF rfl (kPickT rfl (kMovC rfl (kDone (kCondT rfl (kSeq (kReg (kMovC rfl (kDone (kRet (endRetA (ra := [.one (.d _)]) rfl rfl)))))))))))))) (fun g1 => (by (simp [*] at g1))))))))))))))))))))))
    have h3 : ¬ (0 ≤ r.ttl ∧ r.ttl ≤ 100000) := fun h => h0 ⟨h1, h2, h⟩
    refine kSeq (kReg (kFadP rfl rfl (kLoadP rfl rfl rfl (kCallD (ok_impl_NameOk _ pr pr) ⟨⟨⟨rfl, trivial⟩, leb⟩, trivial⟩ rfl rfl rfl rfl rfl (kUn rfl rfl (kMovC rfl (kGN rfl (fun g0 => (by (simp [*] at g0))) (fun g0 => kGT rfl (kFadP rfl rfl (kGT rfl (kLoadP rfl rfl rfl (kGT rfl (kCallD (ok_impl_TypeOk _) ⟨rfl, trivial⟩ rfl rfl rfl rfl rfl (kGT rfl (kUn rfl rfl (kPickF rfl (kMovC rfl (kMovC rfl (kGN rfl (fun g1 => (by (simp [*] at g1))) (fun g1 => kGT rfl (kFadP rfl rfl (kGT rfl (kLoadP rfl rfl rfl (kGT rfl (kCallD (ok_impl_within _ _ _) ⟨rfl, rfl, rfl, trivial⟩ rfl rfl rfl rfl rfl (kGT rfl (kUn rfl rfl (kPickF rfl (kMovC rfl (kDone (kCondN rfl (fun g2 => kSeq (kReg (kMovC rfl (kDone (kRet (endRetA (ra := [.one (.d _)]) rfl rfl)))))) (fun g2 => (by (simp [*] at g2))))))))))))))))))))))))))))))))))
  obtain ⟨h1, h2, h3⟩ := h0
  rw [show rrOk r = dataOk r by simp only [rrOk]; rw [h1, h2, decide_eq_true h3.1, decide_eq_true h3.2]; rfl]
  refine kSeq (kCut ⟨tabSl [(1, .c (.ptr (rid 1 0) 1 0))], obTab 1 [(rid 1 0, ⟨1, 0, .box (r.cells.map .d)⟩)], []⟩ ?_ (fun x hc => ?_))
  case refine_2 =>
    refine kSeq (kReg (kFadP rfl rfl (kLoadP rfl rfl rfl (kCallD (ok_impl_NameOk _ pr pr) ⟨⟨⟨rfl, trivial⟩, leb⟩, trivial⟩ rfl rfl rfl rfl rfl (kUn rfl rfl (kMovC rfl (kGN rfl (fun g0 => (by (simp [*] at g0))) (fun g0 => kGT rfl (kFadP rfl rfl (kGT rfl (kLoadP rfl rfl rfl (kGT rfl (kCallD (ok_impl_TypeOk _) ⟨rfl, trivial⟩ rfl rfl rfl rfl rfl (kGT rfl (kUn rfl rfl (kPickF rfl (kMovC rfl (kMovC rfl (kGN rfl (fun g1 => (by (simp [*] at g1))) (fun g1 => kGT rfl (kFadP rfl rfl (kGT rfl (kLoadP rfl rfl rfl (kGT rfl (kCallD (ok_impl_within _ _ _) ⟨rfl, rfl, rfl, trivial⟩ rfl rfl rfl rfl rfl (kGT rfl (kUn rfl rfl (kPickF rfl (kMovC rfl (kDone (kCondN rfl (fun g2 => (by (simp [*] at g2))) (fun g2 => kSkip (hc _ .normA)))))))))))))))))))))))))))))))))
  refine kSeq (kCut ⟨tabSl [(1, .c (.ptr (rid 1 0) 1 0)), (3, .b (((r.nums.length : Int) == 0)))], obTab 1 [(rid 1 0, ⟨1, 0, .box (r.cells.map .d)⟩)], []⟩ ?_ (fun x hc => ?_))
  case refine_2 => refine kReg (kFadP rfl rfl (kLoadP rfl rfl rfl (kLenR rfl rfl (kBin rfl rfl rfl (kMovC rfl (kDone (hc _ .normA)))))))
  refine kSeq (kCut ⟨tabSl [(1, .c (.ptr (rid 1 0) 1 0)), (3, .b ((if r.ty == 6 then numsOk r.nums else ((r.nums.length : Int) == 0))))], obTab 1 [(rid 1 0, ⟨1, 0, .box (r.cells.map .d)⟩)], []⟩ ?_ (fun x hc => ?_))
  case refine_2 =>
    refine kSeq (kReg (kFadP rfl rfl (kLoadP rfl rfl rfl (kBin rfl rfl rfl (kDone (kCondP rfl (fun g0 => kReg (kFadP rfl rfl (kLoadP rfl rfl rfl (kLenR rfl rfl (kBin rfl rfl rfl (kMovC rfl (kGP rfl (fun g1 => kGT rfl (kFadP rfl rfl (kGT rfl (kLoadP rfl rfl rfl (kGT rfl (kIadR rfl rfl rfl (by omega) (kGT rfl (kLoadD rfl rfl (kGT rfl (kCallD (ok_impl_isWord _) ⟨rfl, trivial⟩ rfl rfl rfl rfl rfl (kPickT rfl (kMovC rfl (kMovC rfl (kGS rfl (fun g2 => kGT rfl (kFadP rfl rfl (kGT rfl (kLoadP rfl rfl rfl (kGT rfl (kIadR rfl rfl rfl (by omega) (kGT rfl (kLoadD rfl rfl (kGT rfl (kCallD (ok_impl_within _ _ _) ⟨rfl, rfl, rfl, trivial⟩ rfl rfl rfl rfl rfl (kPickT rfl (kMovC rfl (kMovC rfl (kDone (hc _ .normA))))))))))))))) (fun g2 => kGF rfl (kGF rfl (kGF rfl (kGF rfl (kGF rfl (kPickF rfl (kMovC rfl (kMovC rfl (kDone (hc _ .normA)))))))))))))))))))))))) (fun g1 => kGF rfl (kGF rfl (kGF rfl (kGF rfl (kGF rfl (kPickF rfl (kMovC rfl (kMovC rfl (kGF rfl (kGF rfl (kGF rfl (kGF rfl (kGF rfl (kPickF rfl (kMovC rfl (kMovC rfl (kDone (hc _ .normA))))))))))))))))))))))))) (fun g0 => kSkip (hc _ .normA))))))))
  refine kSeq (kCut ⟨tabSl [(1, .c (.ptr (rid 1 0) 1 0)), (3, .b ((if r.ty == 6 then numsOk r.nums else ((r.nums.length : Int) == 0)))), (4, .b ((if r.ty == 1 then isW r.addr else r.addr == 0)))], obTab 1 [(rid 1 0, ⟨1, 0, .box (r.cells.map .d)⟩)], []⟩ ?_ (fun x hc => ?_))
  case refine_2 =>
    refine kReg (kFadP rfl rfl (kLoadP rfl rfl rfl (kBin rfl rfl rfl (kMovC rfl (kGP rfl (fun g0 => kGF rfl (kGF rfl (kGF rfl (kGF rfl (kGU rfl (kGU rfl (kGU rfl (kGF rfl (kPickT rfl (kMovC rfl (kMovC rfl (kDone (hc _ .normA))))))))))))) (fun g0 => kGT rfl (kFadP rfl rfl (kGT rfl (kLoadP rfl rfl rfl (kGT rfl (kBin rfl rfl rfl (kGT rfl (kMovC rfl (kGP rfl (fun g1 => kGT rfl (kFadP rfl rfl (kGT rfl (kLoadP rfl rfl rfl (kGT rfl (kCallD (ok_impl_isWord _) ⟨rfl, trivial⟩ rfl rfl rfl rfl rfl (kGT rfl (kPickT rfl (kMovC rfl (kPickF rfl (kMovC rfl (kMovC rfl (kDone (hc _ .normA)))))))))))))) (fun g1 => kGF rfl (kGF rfl (kGF rfl (kGT rfl (kPickF rfl (kMovC rfl (kPickF rfl (kMovC rfl (kMovC rfl (kDone (hc _ .normA)))))))))))))))))))))))))
  refine kSeq (kCut ⟨tabSl [(1, .c (.ptr (rid 1 0) 1 0)), (3, .b ((if r.ty == 6 then numsOk r.nums else ((r.nums.length : Int) == 0)))), (4, .b ((if r.ty == 1 then isW r.addr else r.addr == 0))), (5, .b ((if hasTo r.ty then nameOk r.to else ((r.to.length : Int) == 0))))], obTab 1 [(rid 1 0, ⟨1, 0, .box (r.cells.map .d)⟩)], []⟩ ?_ (fun x hc => ?_))
  case refine_2 =>
    refine kReg (kFadP rfl rfl (kFadP rfl rfl (kLoadP rfl rfl rfl (kLenR rfl rfl (kBin rfl rfl rfl (kMovC rfl (kGP rfl (fun g0 => kGF rfl (kGF rfl (kGF rfl (kGF rfl (kGU rfl (kGU rfl (kGU rfl (kGF rfl (kPickT rfl (kMovC rfl (kMovC rfl (kDone (hc _ .normA))))))))))))) (fun g0 => kGT rfl (kFadP rfl rfl (kGT rfl (kLoadP rfl rfl rfl (kGT rfl (kCallD (ok_impl_hasTo _) ⟨rfl, trivial⟩ rfl rfl rfl rfl rfl (kGT rfl (kMovC rfl (kGS rfl (fun g1 => kGT rfl (kFadP rfl rfl (kGT rfl (kLoadP rfl rfl rfl (kGT rfl (kCallD (ok_impl_NameOk _ pr pr) ⟨⟨⟨rfl, trivial⟩, leb⟩, trivial⟩ rfl rfl rfl rfl rfl (kGT rfl (kPickT rfl (kMovC rfl (kPickF rfl (kMovC rfl (kMovC rfl (kDone (hc _ .normA)))))))))))))) (fun g1 => kGF rfl (kGF rfl (kGF rfl (kGT rfl (kPickF rfl (kMovC rfl (kPickF rfl (kMovC rfl (kMovC rfl (kDone (hc _ .normA)))))))))))))))))))))))))))
  refine kSeq (kCut ⟨tabSl [(1, .c (.ptr (rid 1 0) 1 0)), (3, .b ((if r.ty == 6 then numsOk r.nums else ((r.nums.length : Int) == 0)))), (4, .b ((if r.ty == 1 then isW r.addr else r.addr == 0))), (5, .b ((if hasTo r.ty then nameOk r.to else ((r.to.length : Int) == 0)))), (6, .b ((if hasText r.ty then decide ((r.text.length : Int) ≤ 40) else ((r.text.length : Int) == 0))))], obTab 1 [(rid 1 0, ⟨1, 0, .box (r.cells.map .d)⟩)], []⟩ ?_ (fun x hc => ?_))
  case refine_2 =>
    refine kReg (kFadP rfl rfl (kLoadP rfl rfl rfl (kLenR rfl rfl (kBin rfl rfl rfl (kMovC rfl (kGP rfl (fun g0 => kGF rfl (kGF rfl (kGF rfl (kGF rfl (kGU rfl (kGU rfl (kGU rfl (kGU rfl (kGF rfl (kPickT rfl (kMovC rfl (kMovC rfl (kDone (hc _ .normA)))))))))))))) (fun g0 => kGT rfl (kFadP rfl rfl (kGT rfl (kLoadP rfl rfl rfl (kGT rfl (kCallD (ok_impl_hasText _) ⟨rfl, trivial⟩ rfl rfl rfl rfl rfl (kGT rfl (kMovC rfl (kGS rfl (fun g1 => kGT rfl (kFadP rfl rfl (kGT rfl (kLoadP rfl rfl rfl (kGT rfl (kLenR rfl rfl (kGT rfl (kBin rfl rfl rfl (kGT rfl (kPickT rfl (kMovC rfl (kPickF rfl (kMovC rfl (kMovC rfl (kDone (hc _ .normA)))))))))))))))) (fun g1 => kGF rfl (kGF rfl (kGF rfl (kGF rfl (kGT rfl (kPickF rfl (kMovC rfl (kPickF rfl (kMovC rfl (kMovC rfl (kDone (hc _ .normA)))))))))))))))))))))))))))
  refine kSeq (kReg (kMovC rfl (kMovC rfl (kGS rfl (fun g0 => kGT rfl (kMovC rfl (kPickT rfl (kMovC rfl (kMovC rfl (kGS rfl (fun g1 => kGT rfl (kMovC rfl (kPickT rfl (kMovC rfl (kMovC rfl (kGS rfl (fun g2 => kGT rfl (kMovC rfl (kPickT rfl (kMovC rfl (kMovC rfl (kDone (kRet (endRetA (ra := [.one (.d _)]) rfl ?_)))))))) (fun g2 => kGF rfl (kPickF rfl (kMovC rfl (kMovC rfl (kDone (kRet (endRetA (ra := [.one (.d _)]) rfl ?_))))))))))))) (fun g1 => kGF rfl (kPickF rfl (kMovC rfl (kMovC rfl (kGF rfl (kPickF rfl (kMovC rfl (kMovC rfl (kDone (kRet (endRetA (ra := [.one (.d _)]) rfl ?_))))))))))))))))) (fun g0 => kGF rfl (kPickF rfl (kMovC rfl (kMovC rfl (kGF rfl (kPickF rfl (kMovC rfl (kMovC rfl (kGF rfl (kPickF rfl (kMovC rfl (kMovC rfl (kDone (kRet (endRetA (ra := [.one (.d _)]) rfl ?_)))))))))))))))))))
  all_goals simp only [dataOk, *, Bool.true_and, Bool.false_and, Bool.and_true, Bool.and_false]

def c_impl_all_impl_Rr_1 : C := (.seq (.reg false (.o 0 2 (.box 2 (.t 0)) (.o 1 3 (.mov (.v (.bool false))) .done))) (.seq (.reg false (.o 0 4 (.load none (.t 1)) (.o 1 5 (.load (some 7) (.t 2)) (.o 2 6 (.callv 6 (.t 4) [(.t 5)]) (.o 3 7 (.un .not (.t 6)) (.o 4 3 (.mov (.t 7)) .done)))))) .ret))
theorem dg_impl_all_impl_Rr_1 : Tryz.f191.body.bind (digC Tryz.prog Tryz.f191.ntmps []) = some c_impl_all_impl_Rr_1 := by kernel_rfl
theorem rs_impl_all_impl_Rr_1 : resSlots Tryz.prog Tryz.f191 = some [.s 3] := by kernel_rfl
theorem ok_impl_all_impl_Rr_1 (x : Rr) (D : Rr → Prop) (g : Rr → Bool) (hx : D x) :
    FnOK Tryz.prog 191 [.agg (x.cells.map .d), .one (.ptr [.fv false (fcAgg D Rr.cells g)])] (fun ra _ => ra = [.one (.d (.sc (.bool (!g x))))]) := by
  refine FnOK.ofK Tryz.func191 (by kernel_rfl) dg_impl_all_impl_Rr_1 rs_impl_all_impl_Rr_1 rfl rfl ?_
  delta c_impl_all_impl_Rr_1 T.o X.i
  refine kSeq (kReg (kBox rfl rfl rfl rfl rfl (kMovC rfl (kDone (kSeq (kReg (kLoadC rfl rfl (kLoadP rfl rfl rfl ?_))))))))
  refine kCallv rfl ⟨x, hx, rfl, rfl⟩ ⟨⟨⟨rfl, rfl, rfl, rfl, rfl, rfl, rfl, trivial⟩, leb⟩, trivial⟩ (.inr ?_) rfl ?_ rfl ?_
  · rintro _ rfl; rfl
  · rintro _ rfl; exact leb
  rintro _ rfl
  refine kUn rfl rfl (kMovC rfl (kDone (kRet (endRetA (ra := [.one (.d _)]) rfl rfl))))

def c_slices_IndexFunc_Limpl_Rr_impl_Rr : C := (.seq (.reg false (.o 0 4 (.mov (.i 0)) .done)) (.seq (.seq (.reg false (.o 0 6 (.mov (.t 0)) (.o 1 7 (.len (.t 6)) (.o 2 8 (.mov (.i 0)) .done)))) (.block 0 (.loop (.seq (.reg false (.o 0 9 (.bin .lss (.t 8) (.t 7)) .done)) (.seq (.cond (.t 9) .skip (.exit 0)) (.seq (.block 1 (.seq (.reg false (.o 0 10 (.mov (.t 8)) (.o 1 5 (.mov (.t 10)) .done))) (.seq (.reg false (.o 0 11 (.mov (.t 1)) (.o 1 12 (.mov (.t 0)) (.o 2 13 (.mov (.t 5)) (.o 3 14 (.iad 7 (.t 12) (.t 13)) (.o 4 15 (.load (some 7) (.t 14)) (.o 5 16 (.callv 16 (.t 11) [(.t 15)]) .done))))))) (.cond (.t 16) (.seq (.reg false (.o 0 17 (.mov (.t 5)) (.o 1 4 (.mov (.t 17)) .done))) .ret) .skip)))) (.reg false (.o 0 18 (.bin .add (.t 8) (.i 1)) (.o 1 8 (.mov (.t 18)) .done))))))))) (.seq (.reg false (.o 0 4 (.mov (.i (-1))) .done)) .ret)))
theorem dg_slices_IndexFunc_Limpl_Rr_impl_Rr : Tryz.f261.body.bind (digC Tryz.prog Tryz.f261.ntmps []) = some c_slices_IndexFunc_Limpl_Rr_impl_Rr := by kernel_rfl
theorem rs_slices_IndexFunc_Limpl_Rr_impl_Rr : resSlots Tryz.prog Tryz.f261 = some [.s 4] := by kernel_rfl
theorem ok_slices_IndexFunc_Limpl_Rr_impl_Rr (l : List Rr) (D : Rr → Prop) (g : Rr → Bool) (hl : l.length ≤ 4194304) (hD : ∀ x ∈ l, D x) :
    FnOK Tryz.prog 261 [.one (.d (encR l)), .one (.fv false (fcAgg D Rr.cells g))] (fun ra _ => ra = [.one (.d (.sc (.int .i64 (idx g l))))]) := by
  refine FnOK.ofK Tryz.func261 (by kernel_rfl) dg_slices_IndexFunc_Limpl_Rr_impl_Rr rs_slices_IndexFunc_Limpl_Rr_impl_Rr rfl rfl ?_
  delta c_slices_IndexFunc_Limpl_Rr_impl_Rr T.o X.i
  refine kSeq (kReg (kMovC rfl (kDone (kSeq (kSeq (kReg (kMovC rfl (kLenR rfl rfl (kMovC rfl (kDone (kBlock ?_)))))))))))
  refine kLoop (α := { i : Nat // i ≤ l.length ∧ ∀ x ∈ l.take i, g x = false })
    (fun y => ⟨tabSl [(0, .dv (encR l)), (1, .c (.fv false (fcAgg D Rr.cells g))), (7, .i l.length), (8, .i y.1)], obTab 1 [], []⟩) (fun y => l.length - y.1) ⟨0, by simp⟩
    .normA ?_
  rintro ⟨i, hi, hg⟩
  simp only
  rcases Nat.lt_or_ge i l.length with hlt | hge
  · refine kSeq (kReg (kBin rfl rfl rfl (kDone (kSeq (kCondP rfl (fun g0 => kSkip (kSeq (kBlock (kSeq (kReg (kMovC rfl (kMovC rfl (kDone (kSeq (kReg (kMovC rfl (kMovC rfl (kMovC rfl (kIadR rfl rfl rfl (by omega) (kLoadD rfl rfl ?_))))))))))))))) (fun g0 => (by omega)))))))
    refine kCallv rfl ⟨l[i], hD _ (List.getElem_mem hlt), rfl, rfl⟩ ⟨⟨⟨rfl, rfl, rfl, rfl, rfl, rfl, rfl, trivial⟩, leb⟩, trivial⟩ (.inr ?_) rfl ?_ rfl ?_
    · rintro _ rfl; rfl
    · rintro _ rfl; exact leb
    rintro _ rfl
    refine kDone (kCond rfl (fun g0 => kSeq (kReg (kMovC rfl (kMovC rfl (kDone (kRet (endRetA (ra := [.one (.d _)]) rfl ?_))))))) (fun g0 => kSkip (kBk (kReg (kAdd rfl rfl (by omega) (kMovC rfl (kDone ?_)))))))
    · have : l.findIdx? g = some i := by
        rw [List.findIdx?_eq_some_iff_getElem]
        refine ⟨hlt, by assumption, fun j hj => ?_⟩
        simpa using hg _ (by rw [List.mem_take_iff_getElem]; exact ⟨j, by omega, rfl⟩)
      simp [idx, this]
    · refine kInv ⟨⟨i + 1, hlt, ?_⟩, by simp only; omega, .normA⟩
      intro x hx
      rw [← List.take_append_getElem hlt, List.mem_append] at hx
      rcases hx with hx | hx
      · exact hg x hx
      · simp at hx; rw [hx]; assumption
  · refine kSeq (kReg (kBin rfl rfl rfl (kDone (kSeq (kCondP rfl (fun g0 => (by omega)) (fun g0 => kExit (kExC (kExI (kExB (kSeq (kReg (kMovC rfl (kDone (kRet (endRetA (ra := [.one (.d _)]) rfl ?_)))))))))))))))
    have : l.findIdx? g = none := by
      rw [List.findIdx?_eq_none_iff]
      intro x hx
      rw [show i = l.length by omega, List.take_length] at hg
      exact hg x hx
    simp [idx, this]

def c_slices_ContainsFunc_Limpl_Rr_impl_Rr : C := (.seq (.reg false (.o 0 4 (.mov (.v (.bool false))) .done)) (.seq (.reg false (.o 0 5 (.mov (.t 0)) (.o 1 6 (.mov (.t 1)) (.o 2 7 (.call 7 261 [(.t 5), (.t 6)]) (.o 3 8 (.bin .geq (.t 7) (.i 0)) (.o 4 4 (.mov (.t 8)) .done)))))) .ret))
theorem dg_slices_ContainsFunc_Limpl_Rr_impl_Rr : Tryz.f190.body.bind (digC Tryz.prog Tryz.f190.ntmps []) = some c_slices_ContainsFunc_Limpl_Rr_impl_Rr := by kernel_rfl
theorem rs_slices_ContainsFunc_Limpl_Rr_impl_Rr : resSlots Tryz.prog Tryz.f190 = some [.s 4] := by kernel_rfl
theorem ok_slices_ContainsFunc_Limpl_Rr_impl_Rr (l : List Rr) (D : Rr → Prop) (g : Rr → Bool) (hl : l.length ≤ 4194304) (hD : ∀ x ∈ l, D x) :
    FnOK Tryz.prog 190 [.one (.d (encR l)), .one (.fv false (fcAgg D Rr.cells g))] (fun ra _ => ra = [.one (.d (.sc (.bool (l.any g))))]) := by
  refine FnOK.ofK Tryz.func190 (by kernel_rfl) dg_slices_ContainsFunc_Limpl_Rr_impl_Rr rs_slices_ContainsFunc_Limpl_Rr_impl_Rr rfl rfl ?_
  delta c_slices_ContainsFunc_Limpl_Rr_impl_Rr T.o X.i
  refine kSeq (kReg (kMovC rfl (kDone (kSeq (kReg (kMovC rfl (kMovC rfl ?_)))))))
  refine kCall1 true (ok_slices_IndexFunc_Limpl_Rr_impl_Rr l D g hl hD) ⟨rfl, ⟨fun h => h, fun _ _ h => h⟩, trivial⟩ rfl rfl rfl fun os => ?_
  rw [← idx_ge g l]
  refine kBin rfl rfl rfl (kMovC rfl (kDone (kRet (endRetA (ra := [.one (.d _)]) rfl rfl))))

def c_impl_all_impl_Rr : C := (.seq (.reg false (.o 0 3 (.box 3 (.t 1)) (.o 1 4 (.mov (.v (.bool false))) .done))) (.seq (.reg false (.o 0 5 (.mov (.t 0)) (.o 1 6 (.clo 191 [] [(.t 3)]) (.o 2 7 (.call 7 190 [(.t 5), (.t 6)]) (.o 3 8 (.un .not (.t 7)) (.o 4 4 (.mov (.t 8)) .done)))))) .ret))
theorem dg_impl_all_impl_Rr : Tryz.f87.body.bind (digC Tryz.prog Tryz.f87.ntmps []) = some c_impl_all_impl_Rr := by kernel_rfl
theorem rs_impl_all_impl_Rr : resSlots Tryz.prog Tryz.f87 = some [.s 4] := by kernel_rfl
theorem ok_impl_all_impl_Rr (l : List Rr) (D : Rr → Prop) (g : Rr → Bool) (hl : l.length ≤ 4194304) (hD : ∀ x ∈ l, D x) :
    FnOK Tryz.prog 87 [.one (.d (encR l)), .one (.fv false (fcAgg D Rr.cells g))] (fun ra _ => ra = [.one (.d (.sc (.bool (l.all g))))]) := by
  refine FnOK.ofK Tryz.func87 (by kernel_rfl) dg_impl_all_impl_Rr rs_impl_all_impl_Rr rfl rfl ?_
  delta c_impl_all_impl_Rr T.o X.i
  refine kSeq (kReg (kBox rfl rfl rfl rfl rfl (kMovC rfl (kDone (kSeq (kReg (kMovC rfl (kClo rfl rfl ?_))))))))
  refine kCall1 true (ok_slices_ContainsFunc_Limpl_Rr_impl_Rr l D (fun x => !g x) hl hD) ⟨rfl, ⟨rfl, ⟨_, Tryz.func191, rfl, by kernel_rfl⟩, _, rfl, ?_⟩, trivial⟩ rfl rfl rfl fun os => ?_
  · rintro _ R ⟨x, hx, rfl, rfl⟩
    exact ⟨by rintro _ rfl; rfl, ok_impl_all_impl_Rr_1 x D g hx⟩
  rw [List.all_eq_not_any_not]
  refine kUn rfl rfl (kMovC rfl (kDone (kRet (endRetA (ra := [.one (.d _)]) rfl rfl))))

def c_impl_areRrs : C := (.seq (.reg false (.o 0 2 (.mov (.v (.bool false))) .done)) (.seq (.reg false (.o 0 3 (.mov (.t 0)) (.o 1 4 (.len (.t 3)) (.o 2 5 (.bin .leq (.t 4) (.i 12)) (.o 3 6 (.mov (.t 5)) (.op 4 [] (some 7) (some (6, true)) false (.mov (.t 0)) (.op 5 [] (some 8) (some (6, true)) false (.call 8 87 [(.t 7), (.fn 88)]) (.o 6 9 (.pick (.t 6) (.t 8) (.v (.bool false))) (.o 7 2 (.mov (.t 9)) .done))))))))) .ret))
theorem dg_impl_areRrs : Tryz.f232.body.bind (digC Tryz.prog Tryz.f232.ntmps []) = some c_impl_areRrs := by kernel_rfl
theorem rs_impl_areRrs : resSlots Tryz.prog Tryz.f232 = some [.s 2] := by kernel_rfl
theorem ok_impl_areRrs (l : List Rr) (hs : SmallRs l) :
    FnOK Tryz.prog 232 [.one (.d (encR l))] (fun ra _ => ra = [.one (.d (.sc (.bool (rrsOk l))))]) := by
  refine FnOK.ofK Tryz.func232 (by kernel_rfl) dg_impl_areRrs rs_impl_areRrs rfl rfl ?_
  delta c_impl_areRrs T.o X.i
  have h1 := hs.len
  refine kSeq (kReg (kMovC rfl (kDone (kSeq (kReg (kMovC rfl (kLenR rfl rfl (kBin rfl rfl rfl (kMovC rfl (kGP rfl (fun g0 => kGT rfl (kMovC rfl (kGT rfl ?_))) (fun g0 => kGF rfl (kGF rfl (kPickF rfl (kMovC rfl (kMovC rfl (kDone (kRet (endRetA (ra := [.one (.d _)]) rfl ?_))))))))))))))))))
  · refine kCallD (ok_impl_all_impl_Rr l SmallR rrOk h1 hs.mem) ⟨rfl, ⟨rfl, rfl, ⟨_, Tryz.func88, rfl, by kernel_rfl⟩, ?_⟩, trivial⟩ rfl rfl rfl rfl rfl ?_
    · rintro _ R ⟨x, h, rfl, rfl⟩
      exact ok_impl_RrOk x h
    refine kPickT rfl (kMovC rfl (kMovC rfl (kDone (kRet (endRetA (ra := [.one (.d _)]) rfl ?_)))))
    rw [show rrsOk l = l.all rrOk by simp only [rrsOk]; rw [decide_eq_true (by omega)]; rfl]
  · rw [show rrsOk l = false by simp only [rrsOk]; rw [decide_eq_false (by omega)]; rfl]

def c_impl_TaskOk : C := (.seq (.reg false (.o 0 1 (.box 1 (.t 0)) (.o 1 2 (.mov (.v (.bool false))) .done))) (.seq (.seq (.reg false (.o 0 3 (.fad (.t 1) 0) (.o 1 4 (.load none (.t 3)) (.o 2 5 (.call 5 147 [(.t 4), (.i 0), (.i 1)]) (.o 3 6 (.un .not (.t 5)) (.o 4 7 (.mov (.t 6)) (.op 5 [] (some 8) (some (7, false)) false (.fad (.t 1) 1) (.op 6 [] (some 9) (some (7, false)) false (.load none (.t 8)) (.op 7 [] (some 10) (some (7, false)) false (.call 10 147 [(.t 9), (.i 0), (.i 65535)]) (.op 8 [] (some 11) (some (7, false)) false (.un .not (.t 10)) (.o 9 12 (.pick (.t 7) (.v (.bool true)) (.t 11)) (.o 10 13 (.mov (.t 12)) (.op 11 [] (some 14) (some (13, false)) false (.fad (.t 1) 2) (.op 12 [] (some 15) (some (13, false)) false (.fad (.t 14) 0) (.op 13 [] (some 16) (some (13, false)) false (.load (some 1) (.t 15)) (.op 14 [] (some 17) (some (13, false)) false (.call 17 72 [(.t 16)]) (.op 15 [] (some 18) (some (13, false)) false (.un .not (.t 17)) (.o 16 19 (.pick (.t 13) (.v (.bool true)) (.t 18)) (.o 17 20 (.mov (.t 19)) (.op 18 [] (some 21) (some (20, false)) false (.fad (.t 1) 2) (.op 19 [] (some 22) (some (20, false)) false (.fad (.t 21) 1) (.op 20 [] (some 23) (some (20, false)) false (.load none (.t 22)) (.op 21 [] (some 24) (some (20, false)) false (.call 24 155 [(.t 23)]) (.op 22 [] (some 25) (some (20, false)) false (.un .not (.t 24)) (.o 23 26 (.pick (.t 20) (.v (.bool true)) (.t 25)) (.o 24 27 (.mov (.t 26)) (.op 25 [] (some 28) (some (27, false)) false (.fad (.t 1) 4) (.op 26 [] (some 29) (some (27, false)) false (.load (some 1) (.t 28)) (.op 27 [] (some 30) (some (27, false)) false (.fad (.t 1) 5) (.op 28 [] (some 31) (some (27, false)) false (.load (some 1) (.t 30)) (.op 29 [] (some 32) (some (27, false)) false (.call 32 26 [(.t 29), (.t 31)]) (.op 30 [] (some 33) (some (27, false)) false (.un .not (.t 32)) (.o 31 34 (.pick (.t 27) (.v (.bool true)) (.t 33)) (.o 32 35 (.mov (.t 34)) (.op 33 [] (some 36) (some (35, false)) false (.fad (.t 1) 6) (.op 34 [] (some 37) (some (35, false)) false (.load none (.t 36)) (.op 35 [] (some 38) (some (35, false)) false (.call 38 231 [(.t 37)]) (.op 36 [] (some 39) (some (35, false)) false (.un .not (.t 38)) (.o 37 40 (.pick (.t 35) (.v (.bool true)) (.t 39)) (.o 38 41 (.mov (.t 40)) (.op 39 [] (some 42) (some (41, false)) false (.fad (.t 1) 7) (.op 40 [] (some 43) (some (41, false)) false (.load none (.t 42)) (.op 41 [] (some 44) (some (41, false)) false (.call 44 231 [(.t 43)]) (.op 42 [] (some 45) (some (41, false)) false (.un .not (.t 44)) (.o 43 46 (.pick (.t 41) (.v (.bool true)) (.t 45)) .done))))))))))))))))))))))))))))))))))))))))))))) (.cond (.t 46) (.seq (.reg false (.o 0 2 (.mov (.v (.bool false))) .done)) .ret) .skip)) (.seq (.seq (.reg false (.o 0 47 (.fad (.t 1) 8) (.o 1 48 (.load none (.t 47)) (.o 2 49 (.fad (.t 1) 7) (.o 3 50 (.load none (.t 49)) (.o 4 51 (.len (.t 50)) (.o 5 52 (.bin .sub (.t 51) (.i 1)) (.o 6 53 (.call 53 147 [(.t 48), (.i 0), (.t 52)]) (.o 7 54 (.un .not (.t 53)) (.o 8 55 (.mov (.t 54)) (.op 9 [] (some 56) (some (55, false)) false (.fad (.t 1) 9) (.op 10 [] (some 57) (some (55, false)) false (.load none (.t 56)) (.op 11 [] (some 58) (some (55, false)) false (.call 58 147 [(.t 57), (.i 0), (.i 12)]) (.op 12 [] (some 59) (some (55, false)) false (.un .not (.t 58)) (.o 13 60 (.pick (.t 55) (.v (.bool true)) (.t 59)) (.o 14 61 (.mov (.t 60)) (.op 15 [] (some 62) (some (61, false)) false (.fad (.t 1) 10) (.op 16 [] (some 63) (some (61, false)) false (.load none (.t 62)) (.op 17 [] (some 64) (some (61, false)) false (.call 64 147 [(.t 63), (.i 0), (.i 6)]) (.op 18 [] (some 65) (some (61, false)) false (.un .not (.t 64)) (.o 19 66 (.pick (.t 61) (.v (.bool true)) (.t 65)) (.o 20 67 (.mov (.t 66)) (.op 21 [] (some 68) (some (67, false)) false (.fad (.t 1) 11) (.op 22 [] (some 69) (some (67, false)) false (.load none (.t 68)) (.op 23 [] (some 70) (some (67, false)) false (.call 70 168 [(.t 69)]) (.op 24 [] (some 71) (some (67, false)) false (.un .not (.t 70)) (.o 25 72 (.pick (.t 67) (.v (.bool true)) (.t 71)) (.o 26 73 (.mov (.t 72)) (.op 27 [] (some 74) (some (73, false)) false (.fad (.t 1) 12) (.op 28 [] (some 75) (some (73, false)) false (.load none (.t 74)) (.op 29 [] (some 76) (some (73, false)) false (.call 76 232 [(.t 75)]) (.op 30 [] (some 77) (some (73, false)) false (.un .not (.t 76)) (.o 31 78 (.pick (.t 73) (.v (.bool true)) (.t 77)) .done))))))))))))))))))))))))))))))))) (.cond (.t 78) (.seq (.reg false (.o 0 2 (.mov (.v (.bool false))) .done)) .ret) .skip)) (.seq (.reg false (.o 0 79 (.fad (.t 1) 0) (.o 1 80 (.load none (.t 79)) (.o 2 81 (.bin .eql (.t 80) (.i 1)) (.o 3 82 (.mov (.t 81)) (.op 4 [] (some 83) (some (82, false)) false (.fad (.t 1) 11) (.op 5 [] (some 84) (some (82, false)) false (.load none (.t 83)) (.op 6 [] (some 85) (some (82, false)) false (.bin .eql (.t 84) (.i 0)) (.op 7 [] (some 86) (some (82, false)) false (.mov (.t 85)) (.op 8 [] (some 87) (some (86, true)) false (.fad (.t 1) 9) (.op 9 [] (some 88) (some (86, true)) false (.load none (.t 87)) (.op 10 [] (some 89) (some (86, true)) false (.bin .lss (.t 88) (.i 12)) (.op 11 [] (some 90) (some (82, false)) false (.pick (.t 86) (.t 89) (.v (.bool false))) (.op 12 [] (some 91) (some (82, false)) false (.mov (.t 90)) (.op 13 [] (some 92) (some (91, true)) false (.fad (.t 1) 10) (.op 14 [] (some 93) (some (91, true)) false (.load none (.t 92)) (.op 15 [] (some 94) (some (91, true)) false (.bin .lss (.t 93) (.i 6)) (.op 16 [] (some 95) (some (82, false)) false (.pick (.t 91) (.t 94) (.v (.bool false))) (.o 17 96 (.pick (.t 82) (.v (.bool true)) (.t 95)) (.o 18 2 (.mov (.t 96)) .done)))))))))))))))))))) .ret))))
theorem dg_impl_TaskOk : Tryz.f124.body.bind (digC Tryz.prog Tryz.f124.ntmps []) = some c_impl_TaskOk := by kernel_rfl
theorem rs_impl_TaskOk : resSlots Tryz.prog Tryz.f124 = some [.s 2] := by kernel_rfl
theorem ok_impl_TaskOk (t : Task) (hs : SmallT t) :
    FnOK Tryz.prog 124 [.agg (t.cells.map .d)] (fun ra _ => ra = [.one (.d (.sc (.bool (taskOk t))))]) := by
  refine FnOK.ofK Tryz.func124 (by kernel_rfl) dg_impl_TaskOk rs_impl_TaskOk rfl rfl ?_
  delta c_impl_TaskOk T.o X.i
  have n1 := hs.n.len
  have n2 := hs.n.mem
  have f1 := hs.f.len
  have f2 := hs.f.mem
  have z1 := hs.z.len
  have z2 := hs.z.mem
  have h1 := hs.h
  have s1 := hs.s
  have a1 := hs.a
  refine kSeq (kReg (kBox rfl rfl rfl rfl rfl (kMovC rfl (kDone (kSeq (kSeq (kReg (kFadP rfl rfl (kLoadP rfl rfl rfl (kCallD (ok_impl_within _ _ _) ⟨rfl, rfl, rfl, trivial⟩ rfl rfl rfl rfl rfl (kUn rfl rfl (kMovC rfl (kGN rfl (fun g0 => kGF rfl (kGF rfl (kGF rfl (kGF rfl (kPickT rfl (kMovC rfl (kMovC rfl (kGF rfl (kGF rfl (kGF rfl (kGF rfl (kGF rfl (kPickT rfl (kMovC rfl (kMovC rfl (kGF rfl (kGF rfl (kGF rfl (kGF rfl (kGF rfl (kPickT rfl (kMovC rfl (kMovC rfl (kGF rfl (kGF rfl (kGF rfl (kGF rfl (kGF rfl (kGF rfl (kPickT rfl (kMovC rfl (kMovC rfl (kGF rfl (kGF rfl (kGF rfl (kGF rfl (kPickT rfl (kMovC rfl (kMovC rfl (kGF rfl (kGF rfl (kGF rfl (kGF rfl (kPickT rfl (kMovC rfl (kDone (kCondT rfl (kSeq (kReg (kMovC rfl (kDone (kRet (endRetA (ra := [.one (.d _)]) rfl ?_))))))))))))))))))))))))))))))))))))))))))))))))))))) (fun g0 => kGT rfl (kFadP rfl rfl (kGT rfl (kLoadP rfl rfl rfl (kGT rfl (kCallD (ok_impl_within _ _ _) ⟨rfl, rfl, rfl, trivial⟩ rfl rfl rfl rfl rfl (kGT rfl (kUn rfl rfl (kPickF rfl (kMovC rfl (kMovC rfl (kGN rfl (fun g1 => kGF rfl (kGF rfl (kGF rfl (kGF rfl (kGF rfl (kPickT rfl (kMovC rfl (kMovC rfl (kGF rfl (kGF rfl (kGF rfl (kGF rfl (kGF rfl (kPickT rfl (kMovC rfl (kMovC rfl (kGF rfl (kGF rfl (kGF rfl (kGF rfl (kGF rfl (kGF rfl (kPickT rfl (kMovC rfl (kMovC rfl (kGF rfl (kGF rfl (kGF rfl (kGF rfl (kPickT rfl (kMovC rfl (kMovC rfl (kGF rfl (kGF rfl (kGF rfl (kGF rfl (kPickT rfl (kMovC rfl (kDone (kCondT rfl (kSeq (kReg (kMovC rfl (kDone (kRet (endRetA (ra := [.one (.d _)]) rfl ?_)))))))))))))))))))))))))))))))))))))))))))))) (fun g1 => kGT rfl (kFadP rfl rfl (kGT rfl (kFadP rfl rfl (kGT rfl (kLoadP rfl rfl rfl (kGT rfl (kCallD (ok_impl_NameOk _ pr pr) ⟨⟨⟨rfl, trivial⟩, leb⟩, trivial⟩ rfl rfl rfl rfl rfl (kGT rfl (kUn rfl rfl (kPickF rfl (kMovC rfl (kMovC rfl (kGN rfl (fun g2 => kGF rfl (kGF rfl (kGF rfl (kGF rfl (kGF rfl (kPickT rfl (kMovC rfl (kMovC rfl (kGF rfl (kGF rfl (kGF rfl (kGF rfl (kGF rfl (kGF rfl (kPickT rfl (kMovC rfl (kMovC rfl (kGF rfl (kGF rfl (kGF rfl (kGF rfl (kPickT rfl (kMovC rfl (kMovC rfl (kGF rfl (kGF rfl (kGF rfl (kGF rfl (kPickT rfl (kMovC rfl (kDone (kCondT rfl (kSeq (kReg (kMovC rfl (kDone (kRet (endRetA (ra := [.one (.d _)]) rfl ?_)))))))))))))))))))))))))))))))))))))) (fun g2 => kGT rfl (kFadP rfl rfl (kGT rfl (kFadP rfl rfl (kGT rfl (kLoadP rfl rfl rfl (kGT rfl (kCallD (ok_impl_TypeOk _) ⟨rfl, trivial⟩ rfl rfl rfl rfl rfl (kGT rfl (kUn rfl rfl (kPickF rfl (kMovC rfl (kMovC rfl (kGN rfl (fun g3 => kGF rfl (kGF rfl (kGF rfl (kGF rfl (kGF rfl (kGF rfl (kPickT rfl (kMovC rfl (kMovC rfl (kGF rfl (kGF rfl (kGF rfl (kGF rfl (kPickT rfl (kMovC rfl (kMovC rfl (kGF rfl (kGF rfl (kGF rfl (kGF rfl (kPickT rfl (kMovC rfl (kDone (kCondT rfl (kSeq (kReg (kMovC rfl (kDone (kRet (endRetA (ra := [.one (.d _)]) rfl ?_)))))))))))))))))))))))))))))) (fun g3 => kGT rfl (kFadP rfl rfl (kGT rfl (kLoadP rfl rfl rfl (kGT rfl (kFadP rfl rfl (kGT rfl (kLoadP rfl rfl rfl (kGT rfl (kCallD (ok_impl_Under _ _ pr pr pr pr) ⟨⟨⟨rfl, trivial⟩, leb⟩, ⟨⟨rfl, trivial⟩, leb⟩, trivial⟩ rfl rfl rfl rfl rfl (kGT rfl (kUn rfl rfl (kPickF rfl (kMovC rfl (kMovC rfl (kGN rfl (fun g4 => kGF rfl (kGF rfl (kGF rfl (kGF rfl (kPickT rfl (kMovC rfl (kMovC rfl (kGF rfl (kGF rfl (kGF rfl (kGF rfl (kPickT rfl (kMovC rfl (kDone (kCondT rfl (kSeq (kReg (kMovC rfl (kDone (kRet (endRetA (ra := [.one (.d _)]) rfl ?_))))))))))))))))))))) (fun g4 => kGT rfl (kFadP rfl rfl (kGT rfl (kLoadP rfl rfl rfl (kGT rfl (kCallD (ok_impl_areServers _ pr) ⟨rfl, trivial⟩ rfl rfl rfl rfl rfl (kGT rfl (kUn rfl rfl (kPickF rfl (kMovC rfl (kMovC rfl (kGN rfl (fun g5 => kGF rfl (kGF rfl (kGF rfl (kGF rfl (kPickT rfl (kMovC rfl (kDone (kCondT rfl (kSeq (kReg (kMovC rfl (kDone (kRet (endRetA (ra := [.one (.d _)]) rfl ?_)))))))))))))) (fun g5 => kGT rfl (kFadP rfl rfl (kGT rfl (kLoadP rfl rfl rfl (kGT rfl (kCallD (ok_impl_areServers _ pr) ⟨rfl, trivial⟩ rfl rfl rfl rfl rfl (kGT rfl (kUn rfl rfl (kPickF rfl (kMovC rfl (kDone (kCondN rfl (fun g6 => kSeq (kReg (kMovC rfl (kDone (kRet (endRetA (ra := [.one (.d _)]) rfl ?_)))))) (fun g6 => kSkip (kSeq (kSeq (kReg (kFadP rfl rfl (kLoadP rfl rfl rfl (kFadP rfl rfl (kLoadP rfl rfl rfl (kLenR rfl rfl (kDif rfl rfl (by omega) (kCallD (ok_impl_within _ _ _) ⟨rfl, rfl, rfl, trivial⟩ rfl rfl rfl rfl rfl (kUn rfl rfl (kMovC rfl (kGN rfl (fun g7 => kGF rfl (kGF rfl (kGF rfl (kGF rfl (kPickT rfl (kMovC rfl (kMovC rfl (kGF rfl (kGF rfl (kGF rfl (kGF rfl (kPickT rfl (kMovC rfl (kMovC rfl (kGF rfl (kGF rfl (kGF rfl (kGF rfl (kPickT rfl (kMovC rfl (kMovC rfl (kGF rfl (kGF rfl (kGF rfl (kGF rfl (kPickT rfl (kMovC rfl (kDone (kCondT rfl (kSeq (kReg (kMovC rfl (kDone (kRet (endRetA (ra := [.one (.d _)]) rfl ?_))))))))))))))))))))))))))))))))))) (fun g7 => kGT rfl (kFadP rfl rfl (kGT rfl (kLoadP rfl rfl rfl (kGT rfl (kCallD (ok_impl_within _ _ _) ⟨rfl, rfl, rfl, trivial⟩ rfl rfl rfl rfl rfl (kGT rfl (kUn rfl rfl (kPickF rfl (kMovC rfl (kMovC rfl (kGN rfl (fun g8 => kGF rfl (kGF rfl (kGF rfl (kGF rfl (kPickT rfl (kMovC rfl (kMovC rfl (kGF rfl (kGF rfl (kGF rfl (kGF rfl (kPickT rfl (kMovC rfl (kMovC rfl (kGF rfl (kGF rfl (kGF rfl (kGF rfl (kPickT rfl (kMovC rfl (kDone (kCondT rfl (kSeq (kReg (kMovC rfl (kDone (kRet (endRetA (ra := [.one (.d _)]) rfl ?_)))))))))))))))))))))))))))) (fun g8 => kGT rfl (kFadP rfl rfl (kGT rfl (kLoadP rfl rfl rfl (kGT rfl (kCallD (ok_impl_within _ _ _) ⟨rfl, rfl, rfl, trivial⟩ rfl rfl rfl rfl rfl (kGT rfl (kUn rfl rfl (kPickF rfl (kMovC rfl (kMovC rfl (kGN rfl (fun g9 => kGF rfl (kGF rfl (kGF rfl (kGF rfl (kPickT rfl (kMovC rfl (kMovC rfl (kGF rfl (kGF rfl (kGF rfl (kGF rfl (kPickT rfl (kMovC rfl (kDone (kCondT rfl (kSeq (kReg (kMovC rfl (kDone (kRet (endRetA (ra := [.one (.d _)]) rfl ?_))))))))))))))))))))) (fun g9 => kGT rfl (kFadP rfl rfl (kGT rfl (kLoadP rfl rfl rfl (kGT rfl (kCallD (ok_impl_isCode _) ⟨rfl, trivial⟩ rfl rfl rfl rfl rfl (kGT rfl (kUn rfl rfl (kPickF rfl (kMovC rfl (kMovC rfl (kGN rfl (fun g10 => kGF rfl (kGF rfl (kGF rfl (kGF rfl (kPickT rfl (kMovC rfl (kDone (kCondT rfl (kSeq (kReg (kMovC rfl (kDone (kRet (endRetA (ra := [.one (.d _)]) rfl ?_)))))))))))))) (fun g10 => kGT rfl (kFadP rfl rfl (kGT rfl (kLoadP rfl rfl rfl (kGT rfl (kCallD (ok_impl_areRrs _ pr) ⟨rfl, trivial⟩ rfl rfl rfl rfl rfl (kGT rfl (kUn rfl rfl (kPickF rfl (kMovC rfl (kDone (kCondN rfl (fun g11 => kSeq (kReg (kMovC rfl (kDone (kRet (endRetA (ra := [.one (.d _)]) rfl ?_)))))) (fun g11 => kSkip (kSeq (kReg (kFadP rfl rfl (kLoadP rfl rfl rfl (kBin rfl rfl rfl (kMovC rfl (kGP rfl (fun g12 => kGF rfl (kGF rfl (kGF rfl (kGF rfl (kGU rfl (kGU rfl (kGU rfl (kGF rfl (kGF rfl (kGU rfl (kGU rfl (kGU rfl (kGF rfl (kPickT rfl (kMovC rfl (kMovC rfl (kDone (kRet (endRetA (ra := [.one (.d _)]) rfl ?_))))))))))))))))))) (fun g12 => kGT rfl (kFadP rfl rfl (kGT rfl (kLoadP rfl rfl rfl (kGT rfl (kBin rfl rfl rfl (kGT rfl (kMovC rfl (kGP rfl (fun g13 => kGT rfl (kFadP rfl rfl (kGT rfl (kLoadP rfl rfl rfl (kGT rfl (kBin rfl rfl rfl (kGT rfl (kPickT rfl (kMovC rfl (kGT rfl (kMovC rfl (kGP rfl (fun g14 => kGT rfl (kFadP rfl rfl (kGT rfl (kLoadP rfl rfl rfl (kGT rfl (kBin rfl rfl rfl (kGT rfl (kPickT rfl (kMovC rfl (kPickF rfl (kMovC rfl (kMovC rfl (kDone (kRet (endRetA (ra := [.one (.d _)]) rfl ?_))))))))))))))) (fun g14 => kGF rfl (kGF rfl (kGF rfl (kGT rfl (kPickF rfl (kMovC rfl (kPickF rfl (kMovC rfl (kMovC rfl (kDone (kRet (endRetA (ra := [.one (.d _)]) rfl ?_)))))))))))))))))))))))) (fun g13 => kGF rfl (kGF rfl (kGF rfl (kGT rfl (kPickF rfl (kMovC rfl (kGT rfl (kMovC rfl (kGF rfl (kGF rfl (kGF rfl (kGT rfl (kPickF rfl (kMovC rfl (kPickF rfl (kMovC rfl (kMovC rfl (kDone (kRet (endRetA (ra := [.one (.d _)]) rfl ?_))))))))))))))))))))))))))))))))))))))))))))))))))))))))))))))))))))))))))))))))))))))))))))))))))))))))))))))))))))))))))))))))))))))))))))))))))))))))))))))))))))))))))))))))))))))))))))))))
  all_goals (clear n1 n2 f1 f2 z1 z2 h1 s1 a1 hs; refine congrArg (fun z : Bool => [RA.one (RV.d (DV.sc (Value.bool z)))]) ?_)
  all_goals first
    | (simp [taskOk, *]; done)
    | (simp [taskOk, *]; omega)
    | (rw [Bool.eq_iff_iff]; simp [taskOk, *]; done)
    | (rw [Bool.eq_iff_iff]; simp [taskOk, *]; omega)
    | (simp_all [taskOk]; done)
    | (simp_all [taskOk]; omega)

def c_impl_Task_end : C := (.seq (.reg false (.o 0 4 (.mov (.t 0)) (.o 1 5 (.mov (.t 0)) (.o 2 6 (.mov (.t 1)) (.o 3 7 (.nck (.t 4)) (.o 4 8 (.fad (.t 7) 0) (.op 5 [] none none false (.store none (.t 8) (.i 1)) (.o 6 9 (.nck (.t 5)) (.o 7 10 (.fad (.t 9) 11) (.op 8 [] none none false (.store none (.t 10) (.t 6)) .done)))))))))) (.seq (.reg false (.o 0 11 (.mov (.t 1)) (.o 1 12 (.bin .neq (.t 11) (.i 0)) (.o 2 13 (.mov (.t 12)) (.op 3 [] (some 14) (some (13, true)) false (.mov (.t 1)) (.op 4 [] (some 15) (some (13, true)) false (.bin .neq (.t 14) (.i 3)) (.o 5 16 (.pick (.t 13) (.t 15) (.v (.bool false))) .done))))))) (.cond (.t 16) (.reg false (.o 0 17 (.mov (.t 0)) (.o 1 18 (.nck (.t 17)) (.o 2 19 (.fad (.t 18) 12) (.op 3 [] none none false (.store none (.t 19) (.n 7)) .done))))) .skip)))
theorem dg_impl_Task_end : Tryz.f278.body.bind (digC Tryz.prog Tryz.f278.ntmps []) = some c_impl_Task_end := by kernel_rfl
theorem rs_impl_Task_end : resSlots Tryz.prog Tryz.f278 = some [] := by kernel_rfl
theorem ok_impl_Task_end (t : Task) (c : Int) :
    FnOK Tryz.prog 278 [.one (.box t.cells), .one (.d (.sc (.int .i64 c)))] (fun ra os => ∃ x : Unit, True ∧ ra = [] ∧ os.b 0 = (endT t c).cells) := by
  refine FnOK.ofK Tryz.func278 (by kernel_rfl) dg_impl_Task_end rs_impl_Task_end rfl rfl ?_
  delta c_impl_Task_end T.o X.i
  refine kSeq (kReg (kMovC rfl (kMovC rfl (kMovC rfl (kNck rfl rfl (kFadP rfl rfl (kStoreP rfl rfl rfl rfl (kNck rfl rfl (kFadP rfl rfl (kStoreP rfl rfl rfl rfl (kDone (kSeq (kReg (kMovC rfl (kBin rfl rfl rfl (kMovC rfl (kGIN rfl (fun g0 => kGT rfl (kMovC rfl (kGT rfl (kBin rfl rfl rfl (kPickT rfl (kMovC rfl (kDone (kCondIN rfl (fun g1 => kReg (kMem [(0, ⟨0, 0, .box [.d _, .d _, .d _, .d _, .d _, .d _, .d _, .d _, .d _, .d _, .d _, .d _, .d _]⟩)] [(0, .c (.ptr 0 0 0)), (17, .c (.un)), (18, .c (.un)), (19, .c (.un))] [] ⟨rfl, trivial⟩ ⟨rfl, rfl, rfl, rfl, trivial⟩ rfl (kMovC rfl (kNck rfl rfl (kFadP rfl rfl (kStoreP rfl rfl rfl rfl (kDone (kEnd (endNormalA (ra := []) rfl ?_))))))))) (fun g1 => kSkip (kEnd (endNormalA (ra := []) rfl ?_))))))))))) (fun g0 => kGF rfl (kGF rfl (kPickF rfl (kMovC rfl (kDone (kCondF rfl (kSkip (kEnd (endNormalA (ra := []) rfl ?_))))))))))))))))))))))))))
  all_goals first
    | exact ⟨(), trivial, rfl, by unfold endT; rw [if_pos ⟨by assumption, by assumption⟩]; rfl⟩
    | exact ⟨(), trivial, rfl, by unfold endT; rw [if_neg (by omega)]; rfl⟩

def c_impl_Task_send : C := (.seq (.reg false (.o 0 2 (.mov (.v (.bool false))) .done)) (.seq (.reg false (.o 0 3 (.mov (.t 0)) (.o 1 4 (.nck (.t 3)) (.o 2 5 (.fad (.t 4) 9) (.o 3 6 (.load none (.t 5)) (.o 4 7 (.bin .add (.t 6) (.i 1)) (.o 5 8 (.nck (.t 3)) (.o 6 9 (.fad (.t 8) 9) (.op 7 [] none none false (.store none (.t 9) (.t 7)) .done))))))))) (.seq (.seq (.reg false (.o 0 10 (.mov (.t 0)) (.o 1 11 (.nck (.t 10)) (.o 2 12 (.fad (.t 11) 9) (.o 3 13 (.load none (.t 12)) (.o 4 14 (.bin .eql (.t 13) (.i 12)) .done)))))) (.cond (.t 14) (.reg false (.o 0 15 (.mov (.t 0)) (.o 1 16 (.call 16 278 [(.t 15), (.i 2)]) .done))) .skip)) (.seq (.reg false (.o 0 17 (.mov (.t 0)) (.o 1 18 (.nck (.t 17)) (.o 2 19 (.fad (.t 18) 9) (.o 3 20 (.load none (.t 19)) (.o 4 21 (.bin .eql (.t 20) (.i 12)) (.o 5 2 (.mov (.t 21)) .done))))))) .ret))))
theorem dg_impl_Task_send : Tryz.f233.body.bind (digC Tryz.prog Tryz.f233.ntmps []) = some c_impl_Task_send := by kernel_rfl
theorem rs_impl_Task_send : resSlots Tryz.prog Tryz.f233 = some [.s 2] := by kernel_rfl
theorem ok_impl_Task_send (t : Task) (h : 0 ≤ t.sends ∧ t.sends < 12) :
    FnOK Tryz.prog 233 [.one (.box t.cells)] (fun ra os => ∃ x : Unit, True ∧ ra = [.one (.d (.sc (.bool (decide (t.sends + 1 = 12)))))] ∧ os.b 0 = (sentT t).cells) := by
  refine FnOK.ofK Tryz.func233 (by kernel_rfl) dg_impl_Task_send rs_impl_Task_send rfl rfl ?_
  delta c_impl_Task_send T.o X.i
  unfold sentT
  split
  · refine kSeq (kReg (kMovC rfl (kDone (kSeq (kReg (kMovC rfl (kNck rfl rfl (kFadP rfl rfl (kLoadP rfl rfl rfl (kAdd rfl rfl (by omega) (kNck rfl rfl (kFadP rfl rfl (kStoreP rfl rfl rfl rfl (kDone (kSeq (kSeq (kReg (kMovC rfl (kMem [(0, ⟨0, 0, .box [.d _, .d _, .d _, .d _, .d _, .d _, .d _, .d _, .d _, .d _, .d _, .d _, .d _]⟩)] [(10, .c (.ptr 0 0 0)), (11, .c (.un)), (12, .c (.un)), (13, .c (.un))] [] ⟨rfl, trivial⟩ ⟨rfl, rfl, rfl, rfl, trivial⟩ rfl (kNck rfl rfl (kFadP rfl rfl (kLoadP rfl rfl rfl (kBin rfl rfl rfl (kDone (kCondP rfl (fun g0 => kReg (kMovC rfl ?_)) (fun g0 => (by omega)))))))))))))))))))))))))))
    refine kCallE (ok_impl_Task_end { t with sends := t.sends + 1 } 2) ⟨⟨rfl, _, rfl, rfl⟩, rfl, trivial⟩ rfl rfl rfl (fun _ => rfl) (fun x0 hx0 => ?_)
    refine kDone (kSeq (kReg (kMovC rfl (kNck rfl rfl (kFadP rfl rfl (kLoadP rfl rfl rfl (kBin rfl rfl rfl (kMovC rfl (kDone (kRet (endRetA (ra := [.one (.d _)]) rfl ?_)))))))))))
    exact ⟨(), trivial, rfl, rfl⟩
  · refine kSeq (kReg (kMovC rfl (kDone (kSeq (kReg (kMovC rfl (kNck rfl rfl (kFadP rfl rfl (kLoadP rfl rfl rfl (kAdd rfl rfl (by omega) (kNck rfl rfl (kFadP rfl rfl (kStoreP rfl rfl rfl rfl (kDone (kSeq (kSeq (kReg (kMovC rfl (kMem [(0, ⟨0, 0, .box [.d _, .d _, .d _, .d _, .d _, .d _, .d _, .d _, .d _, .d _, .d _, .d _, .d _]⟩)] [(10, .c (.ptr 0 0 0)), (11, .c (.un)), (12, .c (.un)), (13, .c (.un))] [] ⟨rfl, trivial⟩ ⟨rfl, rfl, rfl, rfl, trivial⟩ rfl (kNck rfl rfl (kFadP rfl rfl (kLoadP rfl rfl rfl (kBin rfl rfl rfl (kDone (kCondP rfl (fun g0 => (by omega)) (fun g0 => kSkip (kSeq (kReg (kMovC rfl (kNck rfl rfl (kFadP rfl rfl (kLoadP rfl rfl rfl (kBin rfl rfl rfl (kMovC rfl (kDone (kRet (endRetA (ra := [.one (.d _)]) rfl ?_)))))))))))))))))))))))))))))))))))))
    exact ⟨(), trivial, rfl, rfl⟩

def c_impl_Task_next : C := (.reg true (.op 0 [] (some 2) none true (.mov (.t 0)) (.op 1 [] (some 3) none true (.mov (.t 0)) (.op 2 [] (some 4) none true (.nck (.t 3)) (.op 3 [] (some 5) none true (.fad (.t 4) 8) (.op 4 [] (some 6) none true (.load none (.t 5)) (.op 5 [] (some 7) none true (.bin .add (.t 6) (.i 1)) (.op 6 [] (some 8) none true (.mov (.t 0)) (.op 7 [] (some 9) none true (.nck (.t 8)) (.op 8 [] (some 10) none true (.fad (.t 9) 7) (.op 9 [] (some 11) none true (.load none (.t 10)) (.op 10 [] (some 12) none true (.len (.t 11)) (.op 11 [] (some 13) none true (.bin .rem (.t 7) (.t 12)) (.op 12 [] (some 14) none true (.nck (.t 2)) (.op 13 [] (some 15) none true (.fad (.t 14) 8) (.op 14 [4, 9] none none false (.store none (.t 15) (.t 13)) .done))))))))))))))))
theorem dg_impl_Task_next : Tryz.f234.body.bind (digC Tryz.prog Tryz.f234.ntmps []) = some c_impl_Task_next := by kernel_rfl
theorem rs_impl_Task_next : resSlots Tryz.prog Tryz.f234 = some [] := by kernel_rfl
theorem ok_impl_Task_next (t : Task) (h : 0 ≤ t.turn ∧ t.turn ≤ 3) (hl : 1 ≤ t.servers.length ∧ t.servers.length ≤ 4) :
    FnOK Tryz.prog 234 [.one (.box t.cells)] (fun ra os => ∃ x : Unit, True ∧ ra = [] ∧ os.b 0 = (nextT t).cells) := by
  refine FnOK.ofK Tryz.func234 (by kernel_rfl) dg_impl_Task_next rs_impl_Task_next rfl rfl ?_
  delta c_impl_Task_next T.o X.i
  refine kRegD (kMovC rfl (kMovC rfl (kNck rfl rfl (kFadP rfl rfl (kLoadP rfl rfl rfl (kAdd rfl rfl (by omega) (kMovC rfl (kNck rfl rfl (kFadP rfl rfl (kLoadP rfl rfl rfl (kMem [(0, ⟨0, 0, .box [.d _, .d _, .d _, .d _, .d _, .d _, .d _, .d _, .d _, .d _, .d _, .d _, .d _]⟩)] [(11, .c (.d _)), (7, .c (.d _)), (12, .c (.un)), (2, .c (.ptr 0 0 0)), (14, .c (.un)), (15, .c (.un)), (13, .c (.un))] [0, 0] ⟨rfl, trivial⟩ ⟨rfl, rfl, rfl, rfl, rfl, rfl, rfl, trivial⟩ rfl (kLenR rfl rfl (kRem rfl rfl (by omega) (kNck rfl rfl (kFadP rfl rfl (kRelF rfl rfl (kStoreP rfl rfl rfl rfl (kDone (kH (kEnd (endNormalA (ra := []) rfl ?_)))))))))))))))))))))
  exact ⟨(), trivial, rfl, rfl⟩

def c_impl_Task_lost : C := (.seq (.reg false (.o 0 1 (.box 1 (.t 0)) (.o 1 2 (.alloc 2 [(.i 0), (.i 0), (.n 1), (.i 0), (.n 1), (.n 1), (.n 1), (.n 1), (.i 0), (.i 0), (.i 0), (.i 0), (.n 7)]) .done))) (.seq (.reg false (.o 0 3 (.call 3 233 [(.t 1)]) .done)) (.seq (.reg false (.o 0 4 (.call 4 234 [(.t 1)]) .done)) (.seq (.reg false (.o 0 5 (.load (some 13) (.t 1)) (.op 1 [] none none false (.store (some 13) (.t 2) (.t 5)) .done))) .ret))))
theorem dg_impl_Task_lost : Tryz.f125.body.bind (digC Tryz.prog Tryz.f125.ntmps []) = some c_impl_Task_lost := by kernel_rfl
theorem rs_impl_Task_lost : resSlots Tryz.prog Tryz.f125 = some [.m 2 (some 13)] := by kernel_rfl
theorem ok_impl_Task_lost (t : Task) (h : 0 ≤ t.sends ∧ t.sends < 12) (h2 : 0 ≤ t.turn ∧ t.turn ≤ 3) (hl : 1 ≤ t.servers.length ∧ t.servers.length ≤ 4) :
    FnOK Tryz.prog 125 [.agg (t.cells.map .d)] (fun ra _ => ra = [.agg [.d (.sc (.int .i64 (lostT t).state)), .d (.sc (.int .i64 (lostT t).id)), .d (encBB (lostT t).fname), .d (.sc (.int .i64 (lostT t).ftype)), .d (encBB (lostT t).name), .d (encBB (lostT t).zone), .d (encI (lostT t).hints), .d (encI (lostT t).servers), .d (.sc (.int .i64 (lostT t).turn)), .d (.sc (.int .i64 (lostT t).sends)), .d (.sc (.int .i64 (lostT t).steps)), .d (.sc (.int .i64 (lostT t).code)), .d (encR (lostT t).answers)]]) := by
  refine FnOK.ofK Tryz.func125 (by kernel_rfl) dg_impl_Task_lost rs_impl_Task_lost rfl rfl ?_
  delta c_impl_Task_lost T.o X.i
  have h2' : 0 ≤ (sentT t).turn ∧ (sentT t).turn ≤ 3 := by rw [sentT_turn]; exact h2
  have hl' : 1 ≤ (sentT t).servers.length ∧ (sentT t).servers.length ≤ 4 := by rw [sentT_servers]; exact hl
  refine kSeq (kReg (kBox rfl rfl rfl rfl rfl (kAlloc rfl rfl (kDone (kSeq (kReg (kCallE (ok_impl_Task_send _ (by first | assumption | omega | solve_by_elim [List.getElem_mem] | (simp only [szOut] at *; omega) | exact rfl | exact leb | exact rrOk_small (by assumption) | exact zoneOk_small (by assumption) | exact SmallBB.ok (by assumption) | exact (SmallBB.ok (by assumption)).len | exact (SmallBB.ok (by assumption)).mem | exact SmallBB.bent (by assumption))) ⟨⟨rfl, _, rfl, rfl⟩, trivial⟩ rfl rfl rfl (fun _ => rfl) (fun x0 hx0 => (kDone (kSeq (kReg (kCallE (ok_impl_Task_next _ (by first | assumption | omega | solve_by_elim [List.getElem_mem] | (simp only [szOut] at *; omega) | exact rfl | exact leb | exact rrOk_small (by assumption) | exact zoneOk_small (by assumption) | exact SmallBB.ok (by assumption) | exact (SmallBB.ok (by assumption)).len | exact (SmallBB.ok (by assumption)).mem | exact SmallBB.bent (by assumption)) (by first | assumption | omega | solve_by_elim [List.getElem_mem] | (simp only [szOut] at *; omega) | exact rfl | exact leb | exact rrOk_small (by assumption) | exact zoneOk_small (by assumption) | exact SmallBB.ok (by assumption) | exact (SmallBB.ok (by assumption)).len | exact (SmallBB.ok (by assumption)).mem | exact SmallBB.bent (by assumption))) ⟨⟨rfl, _, rfl, rfl⟩, trivial⟩ rfl rfl rfl (fun _ => rfl) (fun x1 hx1 => (kDone (kSeq (kReg (kLoadP rfl rfl rfl (kMem [(12288, ⟨1, 0, .box [.d _, .d _, .nil 1, .d _, .nil 1, .nil 1, .nil 1, .nil 1, .d _, .d _, .d _, .d _, .nil 7]⟩)] [(2, .c (.ptr 12288 1 0)), (5, .g [.d _, .d _, .d _, .d _, .d _, .d _, .d _, .d _, .d _, .d _, .d _, .d _, .d _])] [] ⟨rfl, trivial⟩ ⟨rfl, rfl, trivial⟩ rfl (kStoreP rfl rfl rfl rfl (kDone (kMem [(12288, ⟨1, 0, .box [.d _, .d _, .d _, .d _, .d _, .d _, .d _, .d _, .d _, .d _, .d _, .d _, .d _]⟩)] [(2, .c (.ptr 12288 1 0))] [] ⟨rfl, trivial⟩ ⟨rfl, trivial⟩ rfl (kRet (endRetA (ra := [.agg [(.d _), (.d _), (.d _), (.d _), (.d _), (.d _), (.d _), (.d _), (.d _), (.d _), (.d _), (.d _), (.d _)]]) rfl rfl)))))))))))))))))))))))

def c_bytes_Clone : C := (.seq (.reg false (.o 0 2 (.mov (.n 1)) .done)) (.seq (.seq (.reg false (.o 0 3 (.mov (.t 0)) (.o 1 4 (.eqn false (.t 3)) .done))) (.cond (.t 4) (.seq (.reg false (.o 0 2 (.mov (.n 1)) .done)) .ret) .skip)) (.seq (.reg false (.o 0 5 (.lit 5 1 [(.v (.int .u8 0))] 0 []) (.o 1 6 (.mov (.t 0)) (.o 2 7 (.app 7 1 1 (.t 5) (.t 6)) (.o 3 2 (.mov (.t 7)) .done))))) .ret)))
theorem dg_bytes_Clone : Tryz.f222.body.bind (digC Tryz.prog Tryz.f222.ntmps []) = some c_bytes_Clone := by kernel_rfl
theorem rs_bytes_Clone : resSlots Tryz.prog Tryz.f222 = some [.s 2] := by kernel_rfl
theorem ok_bytes_Clone (b : List UInt8) (hb : b.length ≤ 140737488355328) :
    FnOK Tryz.prog 222 [.one (.d (encB b))] (fun ra _ => ra = [.one (.own true (encB b))]) := by
  refine FnOK.ofK Tryz.func222 (by kernel_rfl) dg_bytes_Clone rs_bytes_Clone rfl rfl ?_
  delta c_bytes_Clone T.o X.i
  refine kSeq (kReg (kMovC rfl (kDone ?_)))
  refine kSeq (kSeq (kReg (kMovC rfl (kEqn rfl rfl rfl fun n hn => kDone ?_))))
  refine kCond rfl (fun h => ?_) (fun h => ?_)
  · refine kSeq (kReg (kMovC rfl (kDone (kRet ?_))))
    refine endRet (ra := [.one (.own true (.sl 1 []))]) rfl ⟨⟨rfl, trivial⟩, nodupB_sound rfl, trivial, trivial⟩ ?_
    have : b = [] := by
      rw [len_encB] at hn
      cases b with
      | nil => rfl
      | cons x l => have := hn (by simp); simp [this] at h
    rw [this]; rfl
  · refine kSkip (kSeq (kReg ?_))
    refine kLit rfl rfl rfl rfl (kMovC rfl ?_)
    refine kApp (cy := .d (encB b)) rfl rfl rfl (src_encB _ b) rfl rfl ⟨rfl, rfl, Nat.zero_lt_one⟩ rfl ?_ (kMovC rfl (kDone (kRet ?_)))
    · show ((DV.sl 1 (chunk 1 0 [])).len + (encB b).len) * 1 ≤ _ ∧ _
      rw [len_encB]; simp [DV.len, chunk]; omega
    refine endRet (ra := [.one (.own true _)]) rfl ⟨⟨⟨⟨_, rfl, fun _ => rfl⟩, .inl (Nat.zero_lt_succ _)⟩, trivial⟩, nodupB_sound rfl, trivial, trivial⟩ ?_
    exact congrArg (fun x => [RA.one (RV.own true x)]) (app_nil_encB b)

def c_impl_Name_copied : C := (.seq (.reg false (.o 0 1 (.box 1 (.t 0)) (.o 1 2 (.alloc 2 [(.n 1)]) .done))) (.seq (.reg false (.o 0 6 (.build [(.n 1)] []) (.o 1 3 (.alloc 3 [(.n 1)]) (.op 2 [] none none false (.store (some 1) (.t 3) (.t 6)) .done)))) (.seq (.seq (.reg false (.o 0 7 (.fad (.t 1) 0) (.o 1 8 (.load none (.t 7)) (.o 2 9 (.len (.t 8)) (.o 3 10 (.mov (.i 0)) .done))))) (.block 0 (.loop (.seq (.reg false (.o 0 11 (.bin .lss (.t 10) (.t 9)) .done)) (.seq (.cond (.t 11) .skip (.exit 0)) (.seq (.block 1 (.seq (.reg false (.o 0 12 (.iad 1 (.t 8) (.t 10)) (.o 1 13 (.load none (.t 12)) (.o 2 5 (.mov (.t 13)) .done)))) (.reg true (.op 0 [] (some 14) none true (.fad (.t 3) 0) (.op 1 [] (some 15) none true (.load none (.t 14)) (.op 2 [] (some 16) none true (.mov (.t 5)) (.o 3 17 (.call 17 222 [(.t 16)]) (.o 4 18 (.lit 18 1 [(.n 1)] 1 [(0, 1, (.t 17))]) (.op 5 [1] (some 19) none false (.app 19 1 24 (.t 15) (.t 18)) (.op 6 [] (some 20) none true (.fad (.t 3) 0) (.op 7 [1] none none false (.store none (.t 20) (.t 19)) .done))))))))))) (.reg false (.o 0 21 (.bin .add (.t 10) (.i 1)) (.o 1 10 (.mov (.t 21)) .done))))))))) (.seq (.reg false (.o 0 22 (.load (some 1) (.t 3)) (.op 1 [] none none false (.store (some 1) (.t 2) (.t 22)) .done))) .ret))))
theorem dg_impl_Name_copied : Tryz.f110.body.bind (digC Tryz.prog Tryz.f110.ntmps []) = some c_impl_Name_copied := by kernel_rfl
theorem rs_impl_Name_copied : resSlots Tryz.prog Tryz.f110 = some [.m 2 (some 1)] := by kernel_rfl
theorem ok_impl_Name_copied (a : List (List UInt8)) (ha : a.length ≤ 4194304) (hb : ∀ b ∈ a, b.length ≤ 4194304) :
    FnOK Tryz.prog 110 [.agg [.d (encBB a)]] (fun ra _ => ra = [.agg [.own true (encBB a)]]) := by
  refine FnOK.ofK Tryz.func110 (by kernel_rfl) dg_impl_Name_copied rs_impl_Name_copied rfl rfl ?_
  delta c_impl_Name_copied T.o X.i
  refine kSeq (kReg (kBox rfl rfl rfl rfl rfl (kAlloc rfl rfl (kDone ?_))))
  refine kSeq (kReg (kBuild rfl (kAlloc rfl rfl (kStoreP rfl rfl rfl rfl (kDone ?_)))))
  refine kSeq (kSeq (kReg (kFadP rfl rfl (kLoadP rfl rfl rfl (kLen rfl rfl rfl (kMovC rfl (kDone (kBlock ?_))))))))
  rw [len_encBB]
  refine kSub (Sub.nilBox (id := rid 3 0) (id2 := rid 5000 0) (j := 0) rfl rfl rfl (by decide) (by decide)) ?_
  refine kLoop (α := { i : Nat // i ≤ a.length })
    (fun y => ⟨tabSl [(1, .c (.ptr (rid 1 0) 1 0)), (2, .c (.ptr (rid 2 0) 1 0)), (3, .c (.ptr (rid 3 0) 1 0)), (8, .dv (encBB a)), (9, .i a.length), (10, .i y.1)],
      obTab 1 [(rid 1 0, ⟨1, 0, .box [.d (encBB a)]⟩), (rid 2 0, ⟨1, 0, .box [.nil 1]⟩), (rid 3 0, ⟨1, 0, .box [.arr (rid 5000 0) 1]⟩), (rid 5000 0, ⟨1, 0, .arr true (encBB (a.take y.1))⟩)], []⟩) (fun y => a.length - y.1) ⟨0, by simp⟩
    (.norm ?_ ?_) ?_
  · repeat' first | exact trivial | exact rfl | exact .inl rfl | refine ⟨_, rfl, ?_⟩ | refine ⟨?_, ?_⟩ | fail
  · repeat' first | exact trivial | exact rfl | exact .inl rfl | refine ⟨_, rfl, ?_⟩ | refine ⟨?_, ?_⟩ | fail
  rintro ⟨i, hi⟩
  simp only at hi ⊢
  refine kSeq (kReg (kBin rfl rfl rfl (kDone (kSeq ?_))))
  refine kCond rfl (fun h1 => ?_) (fun h1 => ?_)
  · have hlt : i < a.length := by simp at h1; omega
    refine kSkip (kSeq (kBlock (kSeq (kReg ?_))))
    refine kIadD rfl rfl rfl rfl ?_ ?_
    · rw [len_encBB]; omega
    rw [show (encBB a).row (i : Int).toNat = [encB a[i]] from row_encBB a i hlt]
    refine kLoadD rfl rfl (kMovC rfl (kDone (kRegD (kFadP rfl rfl (kLoadP rfl rfl rfl (kMovC rfl ?_))))))
    refine kCall1 false (ok_bytes_Clone a[i] (Nat.le_trans (hb _ (List.getElem_mem hlt)) (by omega))) ⟨rfl, trivial⟩ rfl rfl rfl fun os => ?_
    refine kLit rfl rfl rfl rfl (kRelF rfl rfl ?_)
    refine kApp rfl rfl rfl rfl rfl rfl ⟨rfl, rfl, Nat.zero_lt_one⟩ rfl ?_ ?_
    · show ((encBB (a.take i)).len + (DV.sl 1 [[encB a[i]]]).len) * 24 ≤ _ ∧ (encBB (a.take i)).len + (DV.sl 1 [[encB a[i]]]).len ≤ _
      rw [len_encBB, List.length_take]; simp [DV.len, DV.rows]; omega
    refine kFadP rfl rfl (kRelF rfl rfl (kStoreP rfl rfl rfl rfl (kDone (kH (kBk (kReg (kAdd rfl rfl (by omega) (kMovC rfl (kDone ?_)))))))))
    refine kInv ⟨⟨i + 1, hlt⟩, by simp only; omega, .norm ?_ ?_⟩
    · repeat' first | exact trivial | exact rfl | exact .inl rfl | refine ⟨_, rfl, ?_⟩ | refine ⟨?_, ?_⟩ | fail
    · repeat' first | exact trivial | exact rfl | exact .inl rfl | refine ⟨_, rfl, ?_⟩ | refine ⟨?_, ?_⟩ | fail
      rw [← List.take_append_getElem hlt, ← app_encBB]
      rfl
  · refine kExit (kExC (kExI (kExB (kSeq (kReg (kLoadP rfl rfl rfl (kStoreP rfl rfl rfl rfl (kDone ?_))))))))
    have hge : i = a.length := by simp at h1; omega
    subst hge
    refine kRet (endRet (ra := [.agg [.own true _]]) rfl ⟨⟨⟨⟨⟨⟨_, rfl, fun _ => rfl⟩, .inl Nat.zero_lt_one⟩, trivial⟩, leb⟩, trivial⟩, nodupB_sound rfl, ⟨trivial, trivial⟩, trivial⟩ ?_)
    rw [List.take_length]

def c_slices_Clone_Lint_int : C := (.seq (.reg false (.o 0 2 (.mov (.n 1)) .done)) (.seq (.seq (.reg false (.o 0 3 (.mov (.t 0)) (.o 1 4 (.eqn false (.t 3)) .done))) (.cond (.t 4) (.seq (.reg false (.o 0 2 (.mov (.n 1)) .done)) .ret) .skip)) (.seq (.reg false (.o 0 5 (.lit 5 1 [(.i 0)] 0 []) (.o 1 6 (.mov (.t 0)) (.o 2 7 (.app 7 1 8 (.t 5) (.t 6)) (.o 3 2 (.mov (.t 7)) .done))))) .ret)))
theorem dg_slices_Clone_Lint_int : Tryz.f235.body.bind (digC Tryz.prog Tryz.f235.ntmps []) = some c_slices_Clone_Lint_int := by kernel_rfl
theorem rs_slices_Clone_Lint_int : resSlots Tryz.prog Tryz.f235 = some [.s 2] := by kernel_rfl
theorem ok_slices_Clone_Lint_int (b : List Int) (hb : b.length ≤ 4194304) :
    FnOK Tryz.prog 235 [.one (.d (encI b))] (fun ra _ => ra = [.one (.own true (encI b))]) := by
  refine FnOK.ofK Tryz.func235 (by kernel_rfl) dg_slices_Clone_Lint_int rs_slices_Clone_Lint_int rfl rfl ?_
  delta c_slices_Clone_Lint_int T.o X.i
  refine kSeq (kReg (kMovC rfl (kDone ?_)))
  refine kSeq (kSeq (kReg (kMovC rfl (kEqn rfl rfl rfl fun n hn => kDone ?_))))
  refine kCond rfl (fun h => ?_) (fun h => ?_)
  · refine kSeq (kReg (kMovC rfl (kDone (kRet ?_))))
    refine endRet (ra := [.one (.own true (.sl 1 []))]) rfl ⟨⟨rfl, trivial⟩, nodupB_sound rfl, trivial, trivial⟩ ?_
    have : b = [] := by
      rw [len_encI] at hn
      cases b with
      | nil => rfl
      | cons x l => have := hn (by simp); simp [this] at h
    rw [this]; rfl
  · refine kSkip (kSeq (kReg ?_))
    refine kLit rfl rfl rfl rfl (kMovC rfl ?_)
    refine kApp (cy := .d (encI b)) rfl rfl rfl (src_encI _ b) rfl rfl ⟨rfl, rfl, Nat.zero_lt_one⟩ rfl ?_ (kMovC rfl (kDone (kRet ?_)))
    · show ((DV.sl 1 (chunk 1 0 [])).len + (encI b).len) * 8 ≤ _ ∧ _
      rw [len_encI]; simp [DV.len, chunk]; omega
    refine endRet (ra := [.one (.own true _)]) rfl ⟨⟨⟨⟨_, rfl, fun _ => rfl⟩, .inl (Nat.zero_lt_succ _)⟩, trivial⟩, nodupB_sound rfl, trivial, trivial⟩ ?_
    exact congrArg (fun x => [RA.one (RV.own true x)]) (app_nil_encI b)

def c_impl_Rr_copied : C := (.seq (.reg false (.o 0 1 (.box 1 (.t 0)) (.o 1 2 (.alloc 2 [(.n 1), (.i 0), (.i 0), (.i 0), (.n 1), (.n 1), (.n 1)]) .done))) (.seq (.reg true (.op 0 [] (some 3) none true (.fad (.t 1) 0) (.op 1 [] (some 4) none true (.load (some 1) (.t 3)) (.op 3 [] (some 6) none true (.fad (.t 1) 4) (.op 4 [] (some 7) none true (.load (some 1) (.t 6)) (.op 6 [] (some 9) none true (.fad (.t 1) 5) (.op 7 [] (some 10) none true (.load none (.t 9)) (.op 9 [] (some 12) none true (.fad (.t 1) 6) (.op 10 [] (some 13) none true (.load none (.t 12)) (.op 2 [1] (some 5) none false (.call 5 110 [(.t 4)]) (.op 12 [] (some 15) none true (.fad (.t 1) 0) (.op 5 [4, 1] (some 8) none false (.call 8 110 [(.t 7)]) (.op 8 [7, 4, 1] (some 11) none false (.call 11 222 [(.t 10)]) (.op 11 [10, 7, 4, 1] (some 14) none false (.call 14 235 [(.t 13)]) (.op 13 [1, 4, 7, 10] none none false (.store (some 1) (.t 15) (.t 5)) (.op 14 [] (some 16) none true (.fad (.t 1) 4) (.op 15 [1, 4, 7, 10] none none false (.store (some 1) (.t 16) (.t 8)) (.op 16 [] (some 17) none true (.fad (.t 1) 5) (.op 17 [1, 4, 7, 10] none none false (.store none (.t 17) (.t 11)) (.op 18 [] (some 18) none true (.fad (.t 1) 6) (.op 19 [1, 4, 7, 10] none none false (.store none (.t 18) (.t 14)) .done))))))))))))))))))))) (.seq (.reg false (.o 0 19 (.load (some 7) (.t 1)) (.op 1 [] none none false (.store (some 7) (.t 2) (.t 19)) .done))) .ret)))
theorem dg_impl_Rr_copied : Tryz.f188.body.bind (digC Tryz.prog Tryz.f188.ntmps []) = some c_impl_Rr_copied := by kernel_rfl
theorem rs_impl_Rr_copied : resSlots Tryz.prog Tryz.f188 = some [.m 2 (some 7)] := by kernel_rfl
theorem ok_impl_Rr_copied (r : Rr) (hs : SmallR r) :
    FnOK Tryz.prog 188 [.agg (r.cells.map .d)] (fun ra _ => ra = [.agg [.own true (encBB r.name), .d (.sc (.int .i64 r.ty)), .d (.sc (.int .i64 r.ttl)), .d (.sc (.int .i64 r.addr)), .own true (encBB r.to), .own true (encB r.text), .own true (encI r.nums)]]) := by
  refine FnOK.ofK Tryz.func188 (by kernel_rfl) dg_impl_Rr_copied rs_impl_Rr_copied rfl rfl ?_
  delta c_impl_Rr_copied T.o X.i
  have n1 := hs.n.len
  have n2 := hs.n.mem
  have t1 := hs.t.len
  have t2 := hs.t.mem
  have x1 := hs.x
  have m1 := hs.m
  refine kSeq (kCut ⟨tabSl [(1, .c (.ptr (rid 1 0) 1 0)), (2, .c (.ptr (rid 2 0) 1 0))], obTab 1 [(rid 1 0, ⟨1, 0, .box (r.cells.map .d)⟩), (rid 2 0, ⟨1, 0, .box [.nil 1, .d (.sc (.int .i64 0)), .d (.sc (.int .i64 0)), .d (.sc (.int .i64 0)), .nil 1, .nil 1, .nil 1]⟩)], []⟩ ?_ (fun x hc => ?_))
  case refine_2 => refine kReg (kBox rfl rfl rfl rfl rfl (kAlloc rfl rfl (kDone (hc _ .normA))))
  refine kSeq (kCut ⟨tabSl [(1, .c (.ptr (rid 1 0) 1 0)), (2, .c (.ptr (rid 2 0) 1 0))], obTab 1 [(rid 1 0, ⟨1, 0, .box [.arr (rid 5 0) 1, .d (.sc (.int .i64 r.ty)), .d (.sc (.int .i64 r.ttl)), .d (.sc (.int .i64 r.addr)), .arr (rid 8 0) 1, .arr (rid 11 0) 1, .arr (rid 14 0) 1]⟩), (rid 2 0, ⟨1, 0, .box [.nil 1, .d (.sc (.int .i64 0)), .d (.sc (.int .i64 0)), .d (.sc (.int .i64 0)), .nil 1, .nil 1, .nil 1]⟩), (rid 5 0, ⟨1, 0, .arr true (encBB r.name)⟩), (rid 8 0, ⟨1, 0, .arr true (encBB r.to)⟩), (rid 11 0, ⟨1, 0, .arr true (encB r.text)⟩), (rid 14 0, ⟨1, 0, .arr true (encI r.nums)⟩)], []⟩ ?_ (fun x hc => ?_))
  case refine_2 => refine kRegD (kFadP rfl rfl (kLoadP rfl rfl rfl (kFadP rfl rfl (kLoadP rfl rfl rfl (kFadP rfl rfl (kLoadP rfl rfl rfl (kFadP rfl rfl (kLoadP rfl rfl rfl (kRelK rfl rfl (kCall1 true (ok_impl_Name_copied _ pr pr) ⟨⟨⟨rfl, trivial⟩, leb⟩, trivial⟩ rfl rfl rfl (fun _ => (kFadP rfl rfl (kRelK rfl rfl (kCall1 true (ok_impl_Name_copied _ pr pr) ⟨⟨⟨rfl, trivial⟩, leb⟩, trivial⟩ rfl rfl rfl (fun _ => (kRelK rfl rfl (kCall1 true (ok_bytes_Clone _ pr) ⟨rfl, trivial⟩ rfl rfl rfl (fun _ => (kRelF rfl rfl (kCall1 true (ok_slices_Clone_Lint_int _ pr) ⟨rfl, trivial⟩ rfl rfl rfl (fun _ => (kRelF rfl rfl (kStoreP rfl rfl rfl rfl (kFadP rfl rfl (kRelF rfl rfl (kStoreP rfl rfl rfl rfl (kFadP rfl rfl (kRelF rfl rfl (kStoreP rfl rfl rfl rfl (kFadP rfl rfl (kRelF rfl rfl (kStoreP rfl rfl rfl rfl (kDone (kH (kMem [(8192, ⟨1, 0, .box [.arr 24576 2, .d _, .d _, .d _, .arr 36864 2, .arr 49152 2, .arr 61440 2]⟩), (12288, ⟨1, 0, .box [.nil 1, .d _, .d _, .d _, .nil 1, .nil 1, .nil 1]⟩), (24576, ⟨2, 0, .arr true _⟩), (36864, ⟨2, 0, .arr true _⟩), (49152, ⟨2, 0, .arr true _⟩), (61440, ⟨2, 0, .arr true _⟩)] [(1, .c (.ptr 8192 1 0)), (2, .c (.ptr 12288 1 0))] [] ⟨rfl, rfl, rfl, rfl, rfl, rfl, trivial⟩ ⟨rfl, rfl, trivial⟩ rfl (hc _ .normA))))))))))))))))))))))))))))))))))))
  refine kSeq (kCut ⟨tabSl [(2, .c (.ptr (rid 2 0) 1 0))], obTab 1 [(rid 2 0, ⟨1, 0, .box [.arr (rid 5 0) 1, .d (.sc (.int .i64 r.ty)), .d (.sc (.int .i64 r.ttl)), .d (.sc (.int .i64 r.addr)), .arr (rid 8 0) 1, .arr (rid 11 0) 1, .arr (rid 14 0) 1]⟩), (rid 5 0, ⟨1, 0, .arr true (encBB r.name)⟩), (rid 8 0, ⟨1, 0, .arr true (encBB r.to)⟩), (rid 11 0, ⟨1, 0, .arr true (encB r.text)⟩), (rid 14 0, ⟨1, 0, .arr true (encI r.nums)⟩)], []⟩ ?_ (fun x hc => ?_))
  case refine_2 => refine kReg (kLoadP rfl rfl rfl (kStoreP rfl rfl rfl rfl (kDone (hc _ .normA))))
  refine (kRet (endRetA (ra := [.agg [(.own true _), (.d _), (.d _), (.d _), (.own true _), (.own true _), (.own true _)]]) rfl rfl))

def c_impl_copyRrs : C := (.seq (.reg false (.o 0 2 (.mov (.n 7)) .done)) (.seq (.reg false (.o 0 6 (.lit 6 7 [(.n 1), (.i 0), (.i 0), (.i 0), (.n 1), (.n 1), (.n 1)] 0 []) (.o 1 3 (.mov (.t 6)) .done))) (.seq (.seq (.reg false (.o 0 7 (.mov (.t 0)) (.o 1 8 (.len (.t 7)) (.o 2 9 (.mov (.i 0)) .done)))) (.block 0 (.loop (.seq (.reg false (.o 0 10 (.bin .lss (.t 9) (.t 8)) .done)) (.seq (.cond (.t 10) .skip (.exit 0)) (.seq (.block 1 (.seq (.reg false (.o 0 11 (.iad 7 (.t 7) (.t 9)) (.o 1 12 (.load (some 7) (.t 11)) (.o 2 5 (.alloc 5 [(.n 1), (.i 0), (.i 0), (.i 0), (.n 1), (.n 1), (.n 1)]) (.op 3 [] none none false (.store (some 7) (.t 5) (.t 12)) .done))))) (.reg false (.o 0 13 (.mov (.t 3)) (.o 1 14 (.load (some 7) (.t 5)) (.o 2 15 (.call 15 188 [(.t 14)]) (.o 3 16 (.lit 16 7 [(.n 1), (.i 0), (.i 0), (.i 0), (.n 1), (.n 1), (.n 1)] 1 [(0, 7, (.t 15))]) (.o 4 17 (.app 17 7 120 (.t 13) (.t 16)) (.o 5 3 (.mov (.t 17)) .done))))))))) (.reg false (.o 0 18 (.bin .add (.t 9) (.i 1)) (.o 1 9 (.mov (.t 18)) .done))))))))) (.seq (.reg false (.o 0 19 (.mov (.t 3)) (.o 1 2 (.mov (.t 19)) .done))) .ret))))
theorem dg_impl_copyRrs : Tryz.f84.body.bind (digC Tryz.prog Tryz.f84.ntmps []) = some c_impl_copyRrs := by kernel_rfl
theorem rs_impl_copyRrs : resSlots Tryz.prog Tryz.f84 = some [.s 2] := by kernel_rfl
theorem ok_impl_copyRrs (l : List Rr) (hs : SmallRs l) :
    FnOK Tryz.prog 84 [.one (.d (encR l))] (fun ra _ => ra = [.one (.own true (encR l))]) := by
  refine FnOK.ofK Tryz.func84 (by kernel_rfl) dg_impl_copyRrs rs_impl_copyRrs rfl rfl ?_
  delta c_impl_copyRrs T.o X.i
  have h1 := hs.len
  refine kSeq (kReg (kMovC rfl (kDone (kSeq (kReg (kLit rfl rfl rfl rfl (kMovC rfl (kDone (kSeq (kSeq (kReg (kMovC rfl (kLenR rfl rfl (kMovC rfl (kDone (kBlock ?_))))))))))))))))
  refine kLoop (α := { i : Nat // i ≤ l.length }) (fun y => ⟨tabSl [(3, .c (.arr (rid 6 0) 1)), (7, .dv (encR l)), (8, .i l.length), (9, .i y.1)], obTab 1 [(rid 6 0, ⟨1, 0, .arr true (encR (l.take y.1))⟩)], []⟩) (fun y => l.length - y.1) ⟨0, by simp⟩ .normA ?_
  rintro ⟨i, hi⟩
  simp only
  have hlen : (l.take i).length = i := by simp; omega
  rcases Nat.lt_or_ge i l.length with hlt | hge
  · have hbi := hs.mem _ (List.getElem_mem hlt)
    refine kSeq (kReg (kBin rfl rfl rfl (kDone (kSeq (kCondP rfl (fun g0 => kSkip (kSeq (kBlock (kSeq (kReg (kIadR rfl rfl rfl (by omega) (kLoadD rfl rfl (kAlloc rfl rfl (kStoreP rfl rfl rfl rfl (kDone (kReg (kMovC rfl (kLoadP rfl rfl rfl (kCall1 true (ok_impl_Rr_copied _ pr) ⟨⟨⟨rfl, rfl, rfl, rfl, rfl, rfl, rfl, trivial⟩, leb⟩, trivial⟩ rfl rfl rfl (fun _ => (kLit rfl rfl rfl rfl (kAppRec rfl rfl rfl rfl rfl rfl rfl (by omega) (kMovC rfl (kDone (kBk (kReg (kAdd rfl rfl (by omega) (kMovC rfl (kDone ?_)))))))))))))))))))))))) (fun g0 => (by omega)))))))
    exact kInv ⟨⟨i + 1, by omega⟩, by simp only; omega, .normA⟩
  · refine kSeq (kReg (kBin rfl rfl rfl (kDone (kSeq (kCondP rfl (fun g0 => (by omega)) (fun g0 => kExit (kExC (kExI (kExB (kSeq (kReg (kMovC rfl (kMovC rfl (kDone (kRet (endRetA (ra := [.one (.own true _)]) rfl ?_))))))))))))))))
    rw [show i = l.length by omega, List.take_length]

def c_impl_Task_copied : C := (.seq (.reg false (.o 0 1 (.box 1 (.t 0)) (.o 1 2 (.alloc 2 [(.i 0), (.i 0), (.n 1), (.i 0), (.n 1), (.n 1), (.n 1), (.n 1), (.i 0), (.i 0), (.i 0), (.i 0), (.n 7)]) .done))) (.seq (.reg true (.op 0 [] (some 3) none true (.fad (.t 1) 2) (.op 1 [] (some 4) none true (.fad (.t 3) 0) (.op 2 [] (some 5) none true (.load (some 1) (.t 4)) (.op 4 [] (some 7) none true (.fad (.t 1) 4) (.op 5 [] (some 8) none true (.load (some 1) (.t 7)) (.op 7 [] (some 10) none true (.fad (.t 1) 5) (.op 8 [] (some 11) none true (.load (some 1) (.t 10)) (.op 3 [2] (some 6) none false (.call 6 110 [(.t 5)]) (.op 10 [] (some 13) none true (.fad (.t 1) 2) (.op 11 [] (some 14) none true (.fad (.t 13) 0) (.op 6 [5, 2] (some 9) none false (.call 9 110 [(.t 8)]) (.op 9 [8, 5, 2] (some 12) none false (.call 12 110 [(.t 11)]) (.op 12 [2, 5, 8] none none false (.store (some 1) (.t 14) (.t 6)) (.op 13 [] (some 15) none true (.fad (.t 1) 4) (.op 14 [2, 5, 8] none none false (.store (some 1) (.t 15) (.t 9)) (.op 15 [] (some 16) none true (.fad (.t 1) 5) (.op 16 [2, 5, 8] none none false (.store (some 1) (.t 16) (.t 12)) .done)))))))))))))))))) (.seq (.reg true (.op 0 [] (some 17) none true (.fad (.t 1) 6) (.op 1 [] (some 18) none true (.load none (.t 17)) (.op 3 [] (some 20) none true (.fad (.t 1) 7) (.op 4 [] (some 21) none true (.load none (.t 20)) (.op 6 [] (some 23) none true (.fad (.t 1) 12) (.op 7 [] (some 24) none true (.load none (.t 23)) (.op 2 [1] (some 19) none false (.call 19 235 [(.t 18)]) (.op 9 [] (some 26) none true (.fad (.t 1) 6) (.op 5 [4, 1] (some 22) none false (.call 22 235 [(.t 21)]) (.op 8 [7, 4, 1] (some 25) none false (.call 25 84 [(.t 24)]) (.op 10 [1, 4, 7] none none false (.store none (.t 26) (.t 19)) (.op 11 [] (some 27) none true (.fad (.t 1) 7) (.op 12 [1, 4, 7] none none false (.store none (.t 27) (.t 22)) (.op 13 [] (some 28) none true (.fad (.t 1) 12) (.op 14 [1, 4, 7] none none false (.store none (.t 28) (.t 25)) .done)))))))))))))))) (.seq (.reg false (.o 0 29 (.load (some 13) (.t 1)) (.op 1 [] none none false (.store (some 13) (.t 2) (.t 29)) .done))) .ret))))
theorem dg_impl_Task_copied : Tryz.f126.body.bind (digC Tryz.prog Tryz.f126.ntmps []) = some c_impl_Task_copied := by kernel_rfl
theorem rs_impl_Task_copied : resSlots Tryz.prog Tryz.f126 = some [.m 2 (some 13)] := by kernel_rfl
theorem ok_impl_Task_copied (t : Task) (hs : SmallT t) :
    FnOK Tryz.prog 126 [.agg (t.cells.map .d)] (fun ra _ => ra = [.agg [.d (.sc (.int .i64 t.state)), .d (.sc (.int .i64 t.id)), .own true (encBB t.fname), .d (.sc (.int .i64 t.ftype)), .own true (encBB t.name), .own true (encBB t.zone), .own true (encI t.hints), .own true (encI t.servers), .d (.sc (.int .i64 t.turn)), .d (.sc (.int .i64 t.sends)), .d (.sc (.int .i64 t.steps)), .d (.sc (.int .i64 t.code)), .own true (encR t.answers)]]) := by
  refine FnOK.ofK Tryz.func126 (by kernel_rfl) dg_impl_Task_copied rs_impl_Task_copied rfl rfl ?_
  delta c_impl_Task_copied T.o X.i
  have n1 := hs.n.len
  have n2 := hs.n.mem
  have f1 := hs.f.len
  have f2 := hs.f.mem
  have z1 := hs.z.len
  have z2 := hs.z.mem
  have h1 := hs.h
  have s1 := hs.s
  have a1 := hs.a
  refine kSeq (kCut ⟨tabSl [(1, .c (.ptr (rid 1 0) 1 0)), (2, .c (.ptr (rid 2 0) 1 0))], obTab 1 [(rid 1 0, ⟨1, 0, .box [.d (.sc (.int .i64 t.state)), .d (.sc (.int .i64 t.id)), .d (encBB t.fname), .d (.sc (.int .i64 t.ftype)), .d (encBB t.name), .d (encBB t.zone), .d (encI t.hints), .d (encI t.servers), .d (.sc (.int .i64 t.turn)), .d (.sc (.int .i64 t.sends)), .d (.sc (.int .i64 t.steps)), .d (.sc (.int .i64 t.code)), .d (encR t.answers)]⟩), (rid 2 0, ⟨1, 0, .box [.d (.sc (.int .i64 0)), .d (.sc (.int .i64 0)), .nil 1, .d (.sc (.int .i64 0)), .nil 1, .nil 1, .nil 1, .nil 1, .d (.sc (.int .i64 0)), .d (.sc (.int .i64 0)), .d (.sc (.int .i64 0)), .d (.sc (.int .i64 0)), .nil 7]⟩)], []⟩ ?_ (fun x hc => ?_))
  case refine_2 => refine kReg (kBox rfl rfl rfl rfl rfl (kAlloc rfl rfl (kDone (hc _ .normA))))
  refine kSeq (kCut ⟨tabSl [(1, .c (.ptr (rid 1 0) 1 0)), (2, .c (.ptr (rid 2 0) 1 0))], obTab 1 [(rid 1 0, ⟨1, 0, .box [.d (.sc (.int .i64 t.state)), .d (.sc (.int .i64 t.id)), .arr (rid 6 0) 1, .d (.sc (.int .i64 t.ftype)), .arr (rid 9 0) 1, .arr (rid 12 0) 1, .d (encI t.hints), .d (encI t.servers), .d (.sc (.int .i64 t.turn)), .d (.sc (.int .i64 t.sends)), .d (.sc (.int .i64 t.steps)), .d (.sc (.int .i64 t.code)), .d (encR t.answers)]⟩), (rid 2 0, ⟨1, 0, .box [.d (.sc (.int .i64 0)), .d (.sc (.int .i64 0)), .nil 1, .d (.sc (.int .i64 0)), .nil 1, .nil 1, .nil 1, .nil 1, .d (.sc (.int .i64 0)), .d (.sc (.int .i64 0)), .d (.sc (.int .i64 0)), .d (.sc (.int .i64 0)), .nil 7]⟩), (rid 6 0, ⟨1, 0, .arr true (encBB t.fname)⟩), (rid 9 0, ⟨1, 0, .arr true (encBB t.name)⟩), (rid 12 0, ⟨1, 0, .arr true (encBB t.zone)⟩)], []⟩ ?_ (fun x hc => ?_))
  case refine_2 => refine kRegD (kFadP rfl rfl (kFadP rfl rfl (kLoadP rfl rfl rfl (kFadP rfl rfl (kLoadP rfl rfl rfl (kFadP rfl rfl (kLoadP rfl rfl rfl (kRelK rfl rfl (kCall1 true (ok_impl_Name_copied _ pr pr) ⟨⟨⟨rfl, trivial⟩, leb⟩, trivial⟩ rfl rfl rfl (fun _ => (kFadP rfl rfl (kFadP rfl rfl (kRelK rfl rfl (kCall1 true (ok_impl_Name_copied _ pr pr) ⟨⟨⟨rfl, trivial⟩, leb⟩, trivial⟩ rfl rfl rfl (fun _ => (kRelF rfl rfl (kCall1 true (ok_impl_Name_copied _ pr pr) ⟨⟨⟨rfl, trivial⟩, leb⟩, trivial⟩ rfl rfl rfl (fun _ => (kRelF rfl rfl (kStoreP rfl rfl rfl rfl (kFadP rfl rfl (kRelF rfl rfl (kStoreP rfl rfl rfl rfl (kFadP rfl rfl (kRelF rfl rfl (kStoreP rfl rfl rfl rfl (kDone (kH (hc _ .normA)))))))))))))))))))))))))))))
  refine kSeq (kCut ⟨tabSl [(1, .c (.ptr (rid 1 0) 1 0)), (2, .c (.ptr (rid 2 0) 1 0))], obTab 1 [(rid 1 0, ⟨1, 0, .box [.d (.sc (.int .i64 t.state)), .d (.sc (.int .i64 t.id)), .arr (rid 6 0) 1, .d (.sc (.int .i64 t.ftype)), .arr (rid 9 0) 1, .arr (rid 12 0) 1, .arr (rid 19 0) 1, .arr (rid 22 0) 1, .d (.sc (.int .i64 t.turn)), .d (.sc (.int .i64 t.sends)), .d (.sc (.int .i64 t.steps)), .d (.sc (.int .i64 t.code)), .arr (rid 25 0) 1]⟩), (rid 2 0, ⟨1, 0, .box [.d (.sc (.int .i64 0)), .d (.sc (.int .i64 0)), .nil 1, .d (.sc (.int .i64 0)), .nil 1, .nil 1, .nil 1, .nil 1, .d (.sc (.int .i64 0)), .d (.sc (.int .i64 0)), .d (.sc (.int .i64 0)), .d (.sc (.int .i64 0)), .nil 7]⟩), (rid 6 0, ⟨1, 0, .arr true (encBB t.fname)⟩), (rid 9 0, ⟨1, 0, .arr true (encBB t.name)⟩), (rid 12 0, ⟨1, 0, .arr true (encBB t.zone)⟩), (rid 19 0, ⟨1, 0, .arr true (encI t.hints)⟩), (rid 22 0, ⟨1, 0, .arr true (encI t.servers)⟩), (rid 25 0, ⟨1, 0, .arr true (encR t.answers)⟩)], []⟩ ?_ (fun x hc => ?_))
  case refine_2 => refine kRegD (kFadP rfl rfl (kLoadP rfl rfl rfl (kFadP rfl rfl (kLoadP rfl rfl rfl (kFadP rfl rfl (kLoadP rfl rfl rfl (kRelK rfl rfl (kCall1 true (ok_slices_Clone_Lint_int _ pr) ⟨rfl, trivial⟩ rfl rfl rfl (fun _ => (kFadP rfl rfl (kRelK rfl rfl (kCall1 true (ok_slices_Clone_Lint_int _ pr) ⟨rfl, trivial⟩ rfl rfl rfl (fun _ => (kRelF rfl rfl (kCall1 true (ok_impl_copyRrs _ pr) ⟨rfl, trivial⟩ rfl rfl rfl (fun _ => (kRelF rfl rfl (kStoreP rfl rfl rfl rfl (kFadP rfl rfl (kRelF rfl rfl (kStoreP rfl rfl rfl rfl (kFadP rfl rfl (kRelF rfl rfl (kStoreP rfl rfl rfl rfl (kDone (kH (hc _ .normA)))))))))))))))))))))))))))
  refine kSeq (kCut ⟨tabSl [(2, .c (.ptr (rid 2 0) 1 0))], obTab 1 [(rid 2 0, ⟨1, 0, .box [.d (.sc (.int .i64 t.state)), .d (.sc (.int .i64 t.id)), .arr (rid 6 0) 1, .d (.sc (.int .i64 t.ftype)), .arr (rid 9 0) 1, .arr (rid 12 0) 1, .arr (rid 19 0) 1, .arr (rid 22 0) 1, .d (.sc (.int .i64 t.turn)), .d (.sc (.int .i64 t.sends)), .d (.sc (.int .i64 t.steps)), .d (.sc (.int .i64 t.code)), .arr (rid 25 0) 1]⟩), (rid 6 0, ⟨1, 0, .arr true (encBB t.fname)⟩), (rid 9 0, ⟨1, 0, .arr true (encBB t.name)⟩), (rid 12 0, ⟨1, 0, .arr true (encBB t.zone)⟩), (rid 19 0, ⟨1, 0, .arr true (encI t.hints)⟩), (rid 22 0, ⟨1, 0, .arr true (encI t.servers)⟩), (rid 25 0, ⟨1, 0, .arr true (encR t.answers)⟩)], []⟩ ?_ (fun x hc => ?_))
  case refine_2 => refine kReg (kLoadP rfl rfl rfl (kStoreP rfl rfl rfl rfl (kDone (hc _ .normA))))
  refine (kRet (endRetA (ra := [.agg [(.d _), (.d _), (.own true _), (.d _), (.own true _), (.own true _), (.own true _), (.own true _), (.d _), (.d _), (.d _), (.d _), (.own true _)]]) rfl rfl))

def c_impl_Lost : C := (.seq (.reg false (.o 0 1 (.box 1 (.t 0)) (.o 1 2 (.alloc 2 [(.i 0), (.i 0), (.n 1), (.i 0), (.n 1), (.n 1), (.n 1), (.n 1), (.i 0), (.i 0), (.i 0), (.i 0), (.n 7)]) (.o 2 3 (.mov (.v (.bool false))) .done)))) (.seq (.seq (.reg false (.o 0 4 (.load (some 13) (.t 1)) (.o 1 5 (.call 5 124 [(.t 4)]) (.o 2 6 (.un .not (.t 5)) (.o 3 7 (.mov (.t 6)) (.op 4 [] (some 8) (some (7, false)) false (.fad (.t 1) 0) (.op 5 [] (some 9) (some (7, false)) false (.load none (.t 8)) (.op 6 [] (some 10) (some (7, false)) false (.bin .eql (.t 9) (.i 1)) (.o 7 11 (.pick (.t 7) (.v (.bool true)) (.t 10)) .done))))))))) (.cond (.t 11) (.seq (.reg false (.o 0 12 (.build [(.i 0), (.i 0), (.n 1), (.i 0), (.n 1), (.n 1), (.n 1), (.n 1), (.i 0), (.i 0), (.i 0), (.i 0), (.n 7)] []) (.op 1 [] none none false (.store (some 13) (.t 2) (.t 12)) (.o 2 3 (.mov (.v (.bool false))) .done)))) .ret) .skip)) (.seq (.reg false (.o 0 13 (.load (some 13) (.t 1)) (.o 1 14 (.call 14 125 [(.t 13)]) (.o 2 15 (.call 15 126 [(.t 14)]) (.op 3 [] none none false (.store (some 13) (.t 2) (.t 15)) (.o 4 3 (.mov (.v (.bool true))) .done)))))) .ret)))
theorem dg_impl_Lost : Tryz.f43.body.bind (digC Tryz.prog Tryz.f43.ntmps []) = some c_impl_Lost := by kernel_rfl
theorem rs_impl_Lost : resSlots Tryz.prog Tryz.f43 = some [.m 2 (some 13), .s 3] := by kernel_rfl
theorem ok_impl_Lost (t : Task) (hs : SmallT t) :
    FnOK Tryz.prog 43 [.agg (t.cells.map .d)] (fun ra _ => ra = [.agg [.d (.sc (.int .i64 (lostN t).state)), .d (.sc (.int .i64 (lostN t).id)), .own true (encBB (lostN t).fname), .d (.sc (.int .i64 (lostN t).ftype)), .own true (encBB (lostN t).name), .own true (encBB (lostN t).zone), .own true (encI (lostN t).hints), .own true (encI (lostN t).servers), .d (.sc (.int .i64 (lostN t).turn)), .d (.sc (.int .i64 (lostN t).sends)), .d (.sc (.int .i64 (lostN t).steps)), .d (.sc (.int .i64 (lostN t).code)), .own true (encR (lostN t).answers)], .one (.d (.sc (.bool (lostOk t))))]) := by
  refine FnOK.ofK Tryz.func43 (by kernel_rfl) dg_impl_Lost rs_impl_Lost rfl rfl ?_
  delta c_impl_Lost T.o X.i
  have hl := hs.lost
  cases h1 : taskOk t
  · rw [show lostN t = zeroT by unfold lostN lostOk; rw [h1]; rfl, show lostOk t = false by unfold lostOk; rw [h1]; rfl]
    refine kSeq (kReg (kBox rfl rfl rfl rfl rfl (kAlloc rfl rfl (kMovC rfl (kDone (kSeq (kSeq (kReg (kLoadP rfl rfl rfl (kCallD (ok_impl_TaskOk _ (by first | assumption | omega | solve_by_elim [List.getElem_mem] | (simp only [szOut] at *; omega) | exact rfl | exact leb | exact rrOk_small (by assumption) | exact zoneOk_small (by assumption) | exact SmallBB.ok (by assumption) | exact (SmallBB.ok (by assumption)).len | exact (SmallBB.ok (by assumption)).mem | exact SmallBB.bent (by assumption))) ⟨⟨⟨rfl, rfl, rfl, rfl, rfl, rfl, rfl, rfl, rfl, rfl, rfl, rfl, rfl, trivial⟩, leb⟩, trivial⟩ rfl rfl rfl rfl rfl (kUn rfl rfl (kMovC rfl (kGN rfl (fun g0 => kGF rfl (kGF rfl (kGF rfl (kPickT rfl (kMovC rfl (kDone (kCondT rfl (kSeq (kReg (kMem [(12288, ⟨1, 0, .box [.d _, .d _, .nil 1, .d _, .nil 1, .nil 1, .nil 1, .nil 1, .d _, .d _, .d _, .d _, .nil 7]⟩)] [(2, .c (.ptr 12288 1 0)), (12, .c (.un))] [] ⟨rfl, trivial⟩ ⟨rfl, rfl, trivial⟩ rfl (kBuildG rfl (kMem [(12288, ⟨1, 0, .box [.d _, .d _, .nil 1, .d _, .nil 1, .nil 1, .nil 1, .nil 1, .d _, .d _, .d _, .d _, .nil 7]⟩)] [(2, .c (.ptr 12288 1 0)), (12, .g [.d _, .d _, .nil 1, .d _, .nil 1, .nil 1, .nil 1, .nil 1, .d _, .d _, .d _, .d _, .nil 7])] [] ⟨rfl, trivial⟩ ⟨rfl, rfl, trivial⟩ rfl (kStoreP rfl rfl rfl rfl (kMovC rfl (kDone (kMem [(12288, ⟨1, 0, .box [.d _, .d _, .nil 1, .d _, .nil 1, .nil 1, .nil 1, .nil 1, .d _, .d _, .d _, .d _, .nil 7]⟩)] [(2, .c (.ptr 12288 1 0)), (3, .c (.d _))] [] ⟨rfl, trivial⟩ ⟨rfl, rfl, trivial⟩ rfl (kRet (endRetA (ra := [.agg [(.d _), (.d _), (.own true _), (.d _), (.own true _), (.own true _), (.own true _), (.own true _), (.d _), (.d _), (.d _), (.d _), (.own true _)], .one (.d _)]) rfl rfl)))))))))))))))))) (fun g0 => (by (simp [*] at g0))))))))))))))))
  obtain ⟨f1, f2, f3, f4, f5, f6, f7⟩ := taskOk_facts h1
  by_cases h2 : t.state = 1
  · rw [show lostN t = zeroT by unfold lostN lostOk; rw [h2]; simp, show lostOk t = false by unfold lostOk; rw [h2]; simp]
    refine kSeq (kReg (kBox rfl rfl rfl rfl rfl (kAlloc rfl rfl (kMovC rfl (kDone (kSeq (kSeq (kReg (kLoadP rfl rfl rfl (kCallD (ok_impl_TaskOk _ (by first | assumption | omega | solve_by_elim [List.getElem_mem] | (simp only [szOut] at *; omega) | exact rfl | exact leb | exact rrOk_small (by assumption) | exact zoneOk_small (by assumption) | exact SmallBB.ok (by assumption) | exact (SmallBB.ok (by assumption)).len | exact (SmallBB.ok (by assumption)).mem | exact SmallBB.bent (by assumption))) ⟨⟨⟨rfl, rfl, rfl, rfl, rfl, rfl, rfl, rfl, rfl, rfl, rfl, rfl, rfl, trivial⟩, leb⟩, trivial⟩ rfl rfl rfl rfl rfl (kUn rfl rfl (kMovC rfl (kGN rfl (fun g0 => (by (simp [*] at g0))) (fun g0 => kGT rfl (kFadP rfl rfl (kMem [(8192, ⟨1, 0, .box [.d _, .d _, .d _, .d _, .d _, .d _, .d _, .d _, .d _, .d _, .d _, .d _, .d _]⟩)] [(8, .c (.ptr 8192 1 0)), (9, .c (.un)), (7, .c (.d _)), (10, .c (.un))] [] ⟨rfl, trivial⟩ ⟨rfl, rfl, rfl, rfl, trivial⟩ rfl (kGT rfl (kLoadP rfl rfl rfl (kGT rfl (kBin rfl rfl rfl (kPickF rfl (kMovC rfl (kDone (kCondP rfl (fun g1 => kSeq (kReg (kMem [(12288, ⟨1, 0, .box [.d _, .d _, .nil 1, .d _, .nil 1, .nil 1, .nil 1, .nil 1, .d _, .d _, .d _, .d _, .nil 7]⟩)] [(2, .c (.ptr 12288 1 0)), (12, .c (.un))] [] ⟨rfl, trivial⟩ ⟨rfl, rfl, trivial⟩ rfl (kBuildG rfl (kMem [(12288, ⟨1, 0, .box [.d _, .d _, .nil 1, .d _, .nil 1, .nil 1, .nil 1, .nil 1, .d _, .d _, .d _, .d _, .nil 7]⟩)] [(2, .c (.ptr 12288 1 0)), (12, .g [.d _, .d _, .nil 1, .d _, .nil 1, .nil 1, .nil 1, .nil 1, .d _, .d _, .d _, .d _, .nil 7])] [] ⟨rfl, trivial⟩ ⟨rfl, rfl, trivial⟩ rfl (kStoreP rfl rfl rfl rfl (kMovC rfl (kDone (kMem [(12288, ⟨1, 0, .box [.d _, .d _, .nil 1, .d _, .nil 1, .nil 1, .nil 1, .nil 1, .d _, .d _, .d _, .d _, .nil 7]⟩)] [(2, .c (.ptr 12288 1 0)), (3, .c (.d _))] [] ⟨rfl, trivial⟩ ⟨rfl, rfl, trivial⟩ rfl (kRet (endRetA (ra := [.agg [(.d _), (.d _), (.own true _), (.d _), (.own true _), (.own true _), (.own true _), (.own true _), (.d _), (.d _), (.d _), (.d _), (.own true _)], .one (.d _)]) rfl rfl))))))))))) (fun g1 => (by omega))))))))))))))))))))))))))
  obtain ⟨f8, f9⟩ := f7 h2
  rw [show lostN t = lostT t by unfold lostN lostOk; rw [h1]; simp [h2], show lostOk t = true by unfold lostOk; rw [h1]; simp [h2]]
  refine kSeq (kReg (kBox rfl rfl rfl rfl rfl (kAlloc rfl rfl (kMovC rfl (kDone (kSeq (kSeq (kReg (kLoadP rfl rfl rfl (kCallD (ok_impl_TaskOk _ (by first | assumption | omega | solve_by_elim [List.getElem_mem] | (simp only [szOut] at *; omega) | exact rfl | exact leb | exact rrOk_small (by assumption) | exact zoneOk_small (by assumption) | exact SmallBB.ok (by assumption) | exact (SmallBB.ok (by assumption)).len | exact (SmallBB.ok (by assumption)).mem | exact SmallBB.bent (by assumption))) ⟨⟨⟨rfl, rfl, rfl, rfl, rfl, rfl, rfl, rfl, rfl, rfl, rfl, rfl, rfl, trivial⟩, leb⟩, trivial⟩ rfl rfl rfl rfl rfl (kUn rfl rfl (kMovC rfl (kGN rfl (fun g0 => (by (simp [*] at g0))) (fun g0 => kGT rfl (kFadP rfl rfl (kMem [(8192, ⟨1, 0, .box [.d _, .d _, .d _, .d _, .d _, .d _, .d _, .d _, .d _, .d _, .d _, .d _, .d _]⟩)] [(8, .c (.ptr 8192 1 0)), (9, .c (.un)), (7, .c (.d _)), (10, .c (.un))] [] ⟨rfl, trivial⟩ ⟨rfl, rfl, rfl, rfl, trivial⟩ rfl (kGT rfl (kLoadP rfl rfl rfl (kGT rfl (kBin rfl rfl rfl (kPickF rfl (kMovC rfl (kDone (kCondP rfl (fun g1 => (by omega)) (fun g1 => kSkip (kSeq (kReg (kLoadP rfl rfl rfl (kCallD2 (ok_impl_Task_lost _ (by first | assumption | omega | solve_by_elim [List.getElem_mem] | (simp only [szOut] at *; omega) | exact rfl | exact leb | exact rrOk_small (by assumption) | exact zoneOk_small (by assumption) | exact SmallBB.ok (by assumption) | exact (SmallBB.ok (by assumption)).len | exact (SmallBB.ok (by assumption)).mem | exact SmallBB.bent (by assumption)) (by first | assumption | omega | solve_by_elim [List.getElem_mem] | (simp only [szOut] at *; omega) | exact rfl | exact leb | exact rrOk_small (by assumption) | exact zoneOk_small (by assumption) | exact SmallBB.ok (by assumption) | exact (SmallBB.ok (by assumption)).len | exact (SmallBB.ok (by assumption)).mem | exact SmallBB.bent (by assumption)) (by first | assumption | omega | solve_by_elim [List.getElem_mem] | (simp only [szOut] at *; omega) | exact rfl | exact leb | exact rrOk_small (by assumption) | exact zoneOk_small (by assumption) | exact SmallBB.ok (by assumption) | exact (SmallBB.ok (by assumption)).len | exact (SmallBB.ok (by assumption)).mem | exact SmallBB.bent (by assumption))) ⟨⟨⟨rfl, rfl, rfl, rfl, rfl, rfl, rfl, rfl, rfl, rfl, rfl, rfl, rfl, trivial⟩, leb⟩, trivial⟩ rfl rfl rfl rfl (kCall1 true (ok_impl_Task_copied _ (by first | assumption | omega | solve_by_elim [List.getElem_mem] | (simp only [szOut] at *; omega) | exact rfl | exact leb | exact rrOk_small (by assumption) | exact zoneOk_small (by assumption) | exact SmallBB.ok (by assumption) | exact (SmallBB.ok (by assumption)).len | exact (SmallBB.ok (by assumption)).mem | exact SmallBB.bent (by assumption))) ⟨⟨⟨rfl, rfl, rfl, rfl, rfl, rfl, rfl, rfl, rfl, rfl, rfl, rfl, rfl, trivial⟩, leb⟩, trivial⟩ rfl rfl rfl (fun _ => (kMem [(12288, ⟨1, 0, .box [.d _, .d _, .nil 1, .d _, .nil 1, .nil 1, .nil 1, .nil 1, .d _, .d _, .d _, .d _, .nil 7]⟩), (65538, ⟨1, 0, .arr true _⟩), (65540, ⟨1, 0, .arr true _⟩), (65541, ⟨1, 0, .arr true _⟩), (65542, ⟨1, 0, .arr true _⟩), (65543, ⟨1, 0, .arr true _⟩), (65548, ⟨1, 0, .arr true _⟩)] [(2, .c (.ptr 12288 1 0)), (15, .g [.d _, .d _, .arr 65538 1, .d _, .arr 65540 1, .arr 65541 1, .arr 65542 1, .arr 65543 1, .d _, .d _, .d _, .d _, .arr 65548 1])] [] ⟨rfl, rfl, rfl, rfl, rfl, rfl, rfl, trivial⟩ ⟨rfl, rfl, trivial⟩ rfl (kStoreP rfl rfl rfl rfl (kMovC rfl (kDone (kMem [(12288, ⟨1, 0, .box [.d _, .d _, .arr 65538 1, .d _, .arr 65540 1, .arr 65541 1, .arr 65542 1, .arr 65543 1, .d _, .d _, .d _, .d _, .arr 65548 1]⟩), (65538, ⟨1, 0, .arr true _⟩), (65540, ⟨1, 0, .arr true _⟩), (65541, ⟨1, 0, .arr true _⟩), (65542, ⟨1, 0, .arr true _⟩), (65543, ⟨1, 0, .arr true _⟩), (65548, ⟨1, 0, .arr true _⟩)] [(2, .c (.ptr 12288 1 0)), (3, .c (.d _))] [] ⟨rfl, rfl, rfl, rfl, rfl, rfl, rfl, trivial⟩ ⟨rfl, rfl, trivial⟩ rfl (kRet (endRetA (ra := [.agg [(.d _), (.d _), (.own true _), (.d _), (.own true _), (.own true _), (.own true _), (.own true _), (.d _), (.d _), (.d _), (.d _), (.own true _)], .one (.d _)]) rfl rfl))))))))))))))))))))))))))))))))))))))

def c_laws_eqByteS : C := (.seq (.reg false (.o 0 4 (.mov (.v (.bool false))) .done)) (.seq (.seq (.reg false (.o 0 6 (.mov (.t 0)) (.o 1 7 (.len (.t 6)) (.o 2 8 (.mov (.t 1)) (.o 3 9 (.len (.t 8)) (.o 4 10 (.bin .neq (.t 7) (.t 9)) .done)))))) (.cond (.t 10) (.seq (.reg false (.o 0 4 (.mov (.v (.bool false))) .done)) .ret) .skip)) (.seq (.seq (.reg false (.o 0 5 (.mov (.i 0)) .done)) (.block 0 (.loop (.seq (.seq (.reg false (.o 0 11 (.mov (.t 5)) (.o 1 12 (.mov (.t 0)) (.o 2 13 (.len (.t 12)) (.o 3 14 (.bin .lss (.t 11) (.t 13)) .done))))) (.cond (.t 14) .skip (.exit 0))) (.seq (.block 1 (.seq (.reg true (.op 0 [] (some 17) none true (.mov (.t 0)) (.op 1 [] (some 18) none true (.mov (.t 5)) (.op 2 [] (some 19) none true (.iad 1 (.t 17) (.t 18)) (.op 3 [] (some 20) none true (.load none (.t 19)) (.op 4 [] (some 21) none true (.mov (.t 1)) (.op 5 [] (some 22) none true (.mov (.t 5)) (.op 6 [] (some 23) none true (.iad 1 (.t 21) (.t 22)) (.op 7 [] (some 24) none true (.load none (.t 23)) (.op 8 [] (some 25) none true (.bin .neq (.t 20) (.t 24)) .done)))))))))) (.cond (.t 25) (.seq (.reg false (.o 0 4 (.mov (.v (.bool false))) .done)) .ret) .skip))) (.reg false (.o 0 15 (.mov (.t 5)) (.o 1 16 (.bin .add (.t 15) (.i 1)) (.o 2 5 (.mov (.t 16)) .done))))))))) (.seq (.reg false (.o 0 4 (.mov (.v (.bool true))) .done)) .ret))))
theorem dg_laws_eqByteS : Tryz.f243.body.bind (digC Tryz.prog Tryz.f243.ntmps []) = some c_laws_eqByteS := by kernel_rfl
theorem rs_laws_eqByteS : resSlots Tryz.prog Tryz.f243 = some [.s 4] := by kernel_rfl
theorem ok_laws_eqByteS (a b : List UInt8) (ha : a.length ≤ 4194304) :
    FnOK Tryz.prog 243 [.one (.d (encB a)), .one (.d (encB b))] (fun ra _ => ra = [.one (.d (.sc (.bool (decide (a = b)))))]) := by
  refine FnOK.ofK Tryz.func243 (by kernel_rfl) dg_laws_eqByteS rs_laws_eqByteS rfl rfl ?_
  delta c_laws_eqByteS T.o X.i
  refine kSeq (kReg (kMovC rfl (kDone ?_)))
  refine kSeq (kSeq (kReg ?_))
  refine kMovC rfl (kLen rfl rfl rfl (kMovC rfl (kLen rfl rfl rfl (kBin rfl rfl rfl (kDone ?_)))))
  refine kCond rfl (fun h => ?_) (fun h => ?_)
  · refine kSeq (kReg (kMovC rfl (kDone (kRet ?_))))
    refine endRet (ra := [.one (.d _)]) rfl ⟨⟨⟨rfl, .inl rfl⟩, trivial⟩, .nil, trivial, trivial, trivial⟩ ?_
    have : a ≠ b := by rintro rfl; simp at h
    simp [this]
  refine kSkip (kSeq (kSeq (kReg (kMovC rfl (kDone ?_)))))
  have hl : a.length = b.length := by simp [len_encB] at h; omega
  refine kBlock ?_
  refine kLoop (α := { i : Nat // i ≤ a.length ∧ a.take i = b.take i })
    (fun y => ⟨tabSl [(0, .dv (encB a)), (1, .dv (encB b)), (5, .i y.1)], (St.init [.one (.d (encB a)), .one (.d (encB b))]).ob, []⟩) (fun y => a.length - y.1) ⟨0, by simp⟩ (.tab rfl ⟨.refl _, .refl _, .refl _, trivial⟩) ?_
  rintro ⟨i, hi, he⟩
  refine kSeq (kSeq (kReg ?_))
  refine kMovC rfl (kMovC rfl (kLen rfl rfl rfl (kBin rfl rfl rfl (kDone ?_))))
  refine kCond rfl (fun h1 => ?_) (fun h1 => ?_)
  · have hlt : i < a.length := by simp [len_encB] at h1; omega
    refine kSkip (kSeq (kBlock (kSeq (kRegD ?_))))
    refine kMovC rfl (kMovC rfl (kIadD rfl rfl rfl rfl ?_ ?_))
    · simp [len_encB]; omega
    rw [show (encB a).row (i : Int).toNat = _ from row_encB a i hlt]
    refine kLoadD rfl rfl ?_
    refine kMovC rfl (kMovC rfl (kIadD rfl rfl rfl rfl ?_ ?_))
    · simp [len_encB]; omega
    rw [show (encB b).row (i : Int).toNat = _ from row_encB b i (by omega)]
    refine kLoadD rfl rfl ?_
    refine kBin rfl rfl rfl (kDone (kH ?_))
    refine kCond rfl (fun h2 => ?_) (fun h2 => ?_)
    · refine kSeq (kReg (kMovC rfl (kDone (kRet ?_))))
      refine endRet (ra := [.one (.d _)]) rfl ⟨⟨⟨rfl, .inl rfl⟩, trivial⟩, .nil, trivial, trivial, trivial⟩ ?_
      have : a ≠ b := by rintro rfl; simp at h2
      simp [this]
    · refine kSkip (kBk (kReg (kMovC rfl (kAdd rfl rfl ?_ (kMovC rfl (kDone (kInv ?_)))))))
      · simp only; omega
      · have h3 : a[i] = b[i] := by
          simp at h2
          exact UInt8.toNat_inj.1 (by omega)
        refine ⟨⟨i + 1, hlt, ?_⟩, ?_, .tab rfl ⟨.refl _, .refl _, .refl _, trivial⟩⟩
        · rw [List.take_add_one, List.take_add_one, he, List.getElem?_eq_getElem hlt, List.getElem?_eq_getElem (by omega), h3]
        · simp only; omega
  · refine kExit (kExC (kExI (kExB ?_)))
    have hge : i = a.length := by simp [len_encB] at h1; omega
    refine kSeq (kReg (kMovC rfl (kDone (kRet ?_))))
    refine endRet (ra := [.one (.d _)]) rfl ⟨⟨⟨rfl, .inl rfl⟩, trivial⟩, .nil, trivial, trivial, trivial⟩ ?_
    have : a = b := by
      rw [hge, List.take_length] at he
      rw [he, hl, List.take_length]
    simp [this]

def c_laws_eqByteSS : C := (.seq (.reg false (.o 0 4 (.mov (.v (.bool false))) .done)) (.seq (.seq (.reg false (.o 0 6 (.mov (.t 0)) (.o 1 7 (.len (.t 6)) (.o 2 8 (.mov (.t 1)) (.o 3 9 (.len (.t 8)) (.o 4 10 (.bin .neq (.t 7) (.t 9)) .done)))))) (.cond (.t 10) (.seq (.reg false (.o 0 4 (.mov (.v (.bool false))) .done)) .ret) .skip)) (.seq (.seq (.reg false (.o 0 5 (.mov (.i 0)) .done)) (.block 0 (.loop (.seq (.seq (.reg false (.o 0 11 (.mov (.t 5)) (.o 1 12 (.mov (.t 0)) (.o 2 13 (.len (.t 12)) (.o 3 14 (.bin .lss (.t 11) (.t 13)) .done))))) (.cond (.t 14) .skip (.exit 0))) (.seq (.block 1 (.seq (.reg true (.op 0 [] (some 17) none true (.mov (.t 0)) (.op 1 [] (some 18) none true (.mov (.t 5)) (.op 2 [] (some 19) none true (.iad 1 (.t 17) (.t 18)) (.op 3 [] (some 20) none true (.load none (.t 19)) (.op 4 [] (some 21) none true (.mov (.t 1)) (.op 5 [] (some 22) none true (.mov (.t 5)) (.op 6 [] (some 23) none true (.iad 1 (.t 21) (.t 22)) (.op 7 [] (some 24) none true (.load none (.t 23)) (.op 8 [3, 7] (some 25) none false (.call 25 243 [(.t 20), (.t 24)]) (.op 9 [] (some 26) none true (.un .not (.t 25)) .done))))))))))) (.cond (.t 26) (.seq (.reg false (.o 0 4 (.mov (.v (.bool false))) .done)) .ret) .skip))) (.reg false (.o 0 15 (.mov (.t 5)) (.o 1 16 (.bin .add (.t 15) (.i 1)) (.o 2 5 (.mov (.t 16)) .done))))))))) (.seq (.reg false (.o 0 4 (.mov (.v (.bool true))) .done)) .ret))))
theorem dg_laws_eqByteSS : Tryz.f158.body.bind (digC Tryz.prog Tryz.f158.ntmps []) = some c_laws_eqByteSS := by kernel_rfl
theorem rs_laws_eqByteSS : resSlots Tryz.prog Tryz.f158 = some [.s 4] := by kernel_rfl
theorem ok_laws_eqByteSS (a b : List (List UInt8)) (ha : a.length ≤ 4194304) (ha2 : ∀ x ∈ a, x.length ≤ 4194304) :
    FnOK Tryz.prog 158 [.one (.d (encBB a)), .one (.d (encBB b))] (fun ra _ => ra = [.one (.d (.sc (.bool (decide (a = b)))))]) := by
  refine FnOK.ofK Tryz.func158 (by kernel_rfl) dg_laws_eqByteSS rs_laws_eqByteSS rfl rfl ?_
  delta c_laws_eqByteSS T.o X.i
  refine kSeq (kReg (kMovC rfl (kDone (kSeq (kSeq (kReg (kMovC rfl (kLenR rfl rfl (kMovC rfl (kLenR rfl rfl (kBin rfl rfl rfl (kDone (kCondN rfl (fun g0 => kSeq (kReg (kMovC rfl (kDone (kRet (endRetA (ra := [.one (.d _)]) rfl ?_)))))) (fun g0 => kSkip (kSeq (kSeq (kReg (kMovC rfl (kDone (kBlock ?_))))))))))))))))))))
  · rw [decide_eq_false (by rintro rfl; simp_all)]
  have hab : a.length = b.length := by simp at *; omega
  refine kLoop (α := { i : Nat // i ≤ a.length ∧ a.take i = b.take i })
    (fun y => ⟨tabSl [(0, .dv (encBB a)), (1, .dv (encBB b)), (5, .i y.1)], obTab 1 [], []⟩) (fun y => a.length - y.1) ⟨0, by simp⟩
    .normA ?_
  rintro ⟨i, hi, he⟩
  simp only
  refine kSeq (kSeq (kReg (kMovC rfl (kMovC rfl (kLenR rfl rfl (kBin rfl rfl rfl (kDone (kCondP rfl (fun g0 => kSkip (kSeq (kBlock (kSeq (kRegD (kMovC rfl (kMovC rfl (kIadR rfl rfl rfl (by omega) (kLoadD rfl rfl (kMovC rfl (kMovC rfl (kIadR rfl rfl rfl (by omega) (kLoadD rfl rfl (kRelF rfl rfl (kCallD (ok_laws_eqByteS _ _ (by first | assumption | omega | solve_by_elim [List.getElem_mem])) ⟨rfl, rfl, trivial⟩ rfl rfl rfl rfl rfl (kUn rfl rfl (kDone (kH (kCondN rfl (fun g1 => kSeq (kReg (kMovC rfl (kDone (kRet (endRetA (ra := [.one (.d _)]) rfl ?_)))))) (fun g1 => kSkip (kBk (kReg (kMovC rfl (kAdd rfl rfl (by omega) (kMovC rfl (kDone ?_)))))))))))))))))))))))))) (fun g0 => kExit (kExC (kExI (kExB (kSeq (kReg (kMovC rfl (kDone (kRet (endRetA (ra := [.one (.d _)]) rfl ?_))))))))))))))))))
  · rw [decide_eq_false]
    rintro rfl
    simp_all
  · refine kInv ⟨⟨i + 1, by omega, ?_⟩, by simp only; omega, .normA⟩
    rw [← List.take_append_getElem (by omega), ← List.take_append_getElem (by omega), he]
    simp_all
  · have hge : i = a.length := by omega
    rw [hge, List.take_length, hab, List.take_length] at he
    rw [he, decide_eq_true rfl]

def c_laws_eqName : C := (.seq (.reg false (.o 0 2 (.box 2 (.t 0)) (.o 1 3 (.box 3 (.t 1)) (.o 2 4 (.mov (.v (.bool false))) .done)))) (.seq (.seq (.reg false (.o 0 5 (.fad (.t 2) 0) (.o 1 6 (.load none (.t 5)) (.o 2 7 (.fad (.t 3) 0) (.o 3 8 (.load none (.t 7)) (.o 4 9 (.call 9 158 [(.t 6), (.t 8)]) (.o 5 10 (.un .not (.t 9)) .done))))))) (.cond (.t 10) (.seq (.reg false (.o 0 4 (.mov (.v (.bool false))) .done)) .ret) .skip)) (.seq (.reg false (.o 0 4 (.mov (.v (.bool true))) .done)) .ret)))
theorem dg_laws_eqName : Tryz.f60.body.bind (digC Tryz.prog Tryz.f60.ntmps []) = some c_laws_eqName := by kernel_rfl
theorem rs_laws_eqName : resSlots Tryz.prog Tryz.f60 = some [.s 4] := by kernel_rfl
theorem ok_laws_eqName (a b : List (List UInt8)) (ha : a.length ≤ 4194304) (ha2 : ∀ x ∈ a, x.length ≤ 4194304) :
    FnOK Tryz.prog 60 [.agg [.d (encBB a)], .agg [.d (encBB b)]] (fun ra _ => ra = [.one (.d (.sc (.bool (decide (a = b)))))]) := by
  refine FnOK.ofK Tryz.func60 (by kernel_rfl) dg_laws_eqName rs_laws_eqName rfl rfl ?_
  delta c_laws_eqName T.o X.i
  refine kSeq (kReg (kBox rfl rfl rfl rfl rfl (kBox rfl rfl rfl rfl rfl (kMovC rfl (kDone (kSeq (kSeq (kReg (kFadP rfl rfl (kLoadP rfl rfl rfl (kFadP rfl rfl (kLoadP rfl rfl rfl (kCallD (ok_laws_eqByteSS _ _ (by first | assumption | omega | solve_by_elim [List.getElem_mem]) (by first | assumption | omega | solve_by_elim [List.getElem_mem])) ⟨rfl, rfl, trivial⟩ rfl rfl rfl rfl rfl (kUn rfl rfl (kDone (kCondN rfl (fun g0 => kSeq (kReg (kMovC rfl (kDone (kRet (endRetA (ra := [.one (.d _)]) rfl ?_)))))) (fun g0 => kSkip (kSeq (kReg (kMovC rfl (kDone (kRet (endRetA (ra := [.one (.d _)]) rfl ?_)))))))))))))))))))))))
  all_goals simp_all

def c_laws_eqQuestion : C := (.seq (.reg false (.o 0 2 (.box 2 (.t 0)) (.o 1 3 (.box 3 (.t 1)) (.o 2 4 (.mov (.v (.bool false))) .done)))) (.seq (.seq (.reg false (.o 0 5 (.fad (.t 2) 0) (.o 1 6 (.load (some 1) (.t 5)) (.o 2 7 (.fad (.t 3) 0) (.o 3 8 (.load (some 1) (.t 7)) (.o 4 9 (.call 9 60 [(.t 6), (.t 8)]) (.o 5 10 (.un .not (.t 9)) .done))))))) (.cond (.t 10) (.seq (.reg false (.o 0 4 (.mov (.v (.bool false))) .done)) .ret) .skip)) (.seq (.seq (.reg false (.o 0 11 (.fad (.t 2) 1) (.o 1 12 (.load none (.t 11)) (.o 2 13 (.fad (.t 3) 1) (.o 3 14 (.load none (.t 13)) (.o 4 15 (.bin .neq (.t 12) (.t 14)) .done)))))) (.cond (.t 15) (.seq (.reg false (.o 0 4 (.mov (.v (.bool false))) .done)) .ret) .skip)) (.seq (.reg false (.o 0 4 (.mov (.v (.bool true))) .done)) .ret))))
theorem dg_laws_eqQuestion : Tryz.f127.body.bind (digC Tryz.prog Tryz.f127.ntmps []) = some c_laws_eqQuestion := by kernel_rfl
theorem rs_laws_eqQuestion : resSlots Tryz.prog Tryz.f127 = some [.s 4] := by kernel_rfl
theorem ok_laws_eqQuestion (a b : List (List UInt8)) (t u : Int) (ha : a.length ≤ 4194304) (ha2 : ∀ x ∈ a, x.length ≤ 4194304) :
    FnOK Tryz.prog 127 [.agg [.d (encBB a), .d (.sc (.int .i64 t))], .agg [.d (encBB b), .d (.sc (.int .i64 u))]] (fun ra _ => ra = [.one (.d (.sc (.bool (decide (a = b) && decide (t = u)))))]) := by
  refine FnOK.ofK Tryz.func127 (by kernel_rfl) dg_laws_eqQuestion rs_laws_eqQuestion rfl rfl ?_
  delta c_laws_eqQuestion T.o X.i
  refine kSeq (kReg (kBox rfl rfl rfl rfl rfl (kBox rfl rfl rfl rfl rfl (kMovC rfl (kDone (kSeq (kSeq (kReg (kFadP rfl rfl (kLoadP rfl rfl rfl (kFadP rfl rfl (kLoadP rfl rfl rfl (kCallD (ok_laws_eqName _ _ pr pr) ⟨⟨⟨rfl, trivial⟩, leb⟩, ⟨⟨rfl, trivial⟩, leb⟩, trivial⟩ rfl rfl rfl rfl rfl (kUn rfl rfl (kDone (kCondN rfl (fun g0 => kSeq (kReg (kMovC rfl (kDone (kRet (endRetA (ra := [.one (.d _)]) rfl ?_)))))) (fun g0 => kSkip (kSeq (kSeq (kReg (kFadP rfl rfl (kLoadP rfl rfl rfl (kFadP rfl rfl (kLoadP rfl rfl rfl (kBin rfl rfl rfl (kDone (kCondIN rfl (fun g1 => kSeq (kReg (kMovC rfl (kDone (kRet (endRetA (ra := [.one (.d _)]) rfl ?_)))))) (fun g1 => kSkip (kSeq (kReg (kMovC rfl (kDone (kRet (endRetA (ra := [.one (.d _)]) rfl ?_))))))))))))))))))))))))))))))))))
  all_goals simp_all

def c_laws_eqIntS : C := (.seq (.reg false (.o 0 4 (.mov (.v (.bool false))) .done)) (.seq (.seq (.reg false (.o 0 6 (.mov (.t 0)) (.o 1 7 (.len (.t 6)) (.o 2 8 (.mov (.t 1)) (.o 3 9 (.len (.t 8)) (.o 4 10 (.bin .neq (.t 7) (.t 9)) .done)))))) (.cond (.t 10) (.seq (.reg false (.o 0 4 (.mov (.v (.bool false))) .done)) .ret) .skip)) (.seq (.seq (.reg false (.o 0 5 (.mov (.i 0)) .done)) (.block 0 (.loop (.seq (.seq (.reg false (.o 0 11 (.mov (.t 5)) (.o 1 12 (.mov (.t 0)) (.o 2 13 (.len (.t 12)) (.o 3 14 (.bin .lss (.t 11) (.t 13)) .done))))) (.cond (.t 14) .skip (.exit 0))) (.seq (.block 1 (.seq (.reg true (.op 0 [] (some 17) none true (.mov (.t 0)) (.op 1 [] (some 18) none true (.mov (.t 5)) (.op 2 [] (some 19) none true (.iad 1 (.t 17) (.t 18)) (.op 3 [] (some 20) none true (.load none (.t 19)) (.op 4 [] (some 21) none true (.mov (.t 1)) (.op 5 [] (some 22) none true (.mov (.t 5)) (.op 6 [] (some 23) none true (.iad 1 (.t 21) (.t 22)) (.op 7 [] (some 24) none true (.load none (.t 23)) (.op 8 [] (some 25) none true (.bin .neq (.t 20) (.t 24)) .done)))))))))) (.cond (.t 25) (.seq (.reg false (.o 0 4 (.mov (.v (.bool false))) .done)) .ret) .skip))) (.reg false (.o 0 15 (.mov (.t 5)) (.o 1 16 (.bin .add (.t 15) (.i 1)) (.o 2 5 (.mov (.t 16)) .done))))))))) (.seq (.reg false (.o 0 4 (.mov (.v (.bool true))) .done)) .ret))))
theorem dg_laws_eqIntS : Tryz.f128.body.bind (digC Tryz.prog Tryz.f128.ntmps []) = some c_laws_eqIntS := by kernel_rfl
theorem rs_laws_eqIntS : resSlots Tryz.prog Tryz.f128 = some [.s 4] := by kernel_rfl
theorem ok_laws_eqIntS (a b : List Int) (ha : a.length ≤ 4194304) :
    FnOK Tryz.prog 128 [.one (.d (encI a)), .one (.d (encI b))] (fun ra _ => ra = [.one (.d (.sc (.bool (decide (a = b)))))]) := by
  refine FnOK.ofK Tryz.func128 (by kernel_rfl) dg_laws_eqIntS rs_laws_eqIntS rfl rfl ?_
  delta c_laws_eqIntS T.o X.i
  refine kSeq (kReg (kMovC rfl (kDone (kSeq (kSeq (kReg (kMovC rfl (kLenR rfl rfl (kMovC rfl (kLenR rfl rfl (kBin rfl rfl rfl (kDone (kCondIN rfl (fun g0 => kSeq (kReg (kMovC rfl (kDone (kRet (endRetA (ra := [.one (.d _)]) rfl ?_)))))) (fun g0 => kSkip (kSeq (kSeq (kReg (kMovC rfl (kDone (kBlock ?_))))))))))))))))))))
  · rw [decide_eq_false (by rintro rfl; simp_all)]
  have hab : a.length = b.length := by omega
  refine kLoop (α := { i : Nat // i ≤ a.length ∧ a.take i = b.take i })
    (fun y => ⟨tabSl [(0, .dv (encI a)), (1, .dv (encI b)), (5, .i y.1)], obTab 1 [], []⟩) (fun y => a.length - y.1) ⟨0, by simp⟩
    .normA ?_
  rintro ⟨i, hi, he⟩
  simp only
  refine kSeq (kSeq (kReg (kMovC rfl (kMovC rfl (kLenR rfl rfl (kBin rfl rfl rfl (kDone (kCondP rfl (fun g0 => kSkip (kSeq (kBlock (kSeq (kRegD (kMovC rfl (kMovC rfl (kIadR rfl rfl rfl (by omega) (kLoadD rfl rfl (kMovC rfl (kMovC rfl (kIadR rfl rfl rfl (by omega) (kLoadD rfl rfl (kBin rfl rfl rfl (kDone (kH (kCondIN rfl (fun g1 => kSeq (kReg (kMovC rfl (kDone (kRet (endRetA (ra := [.one (.d _)]) rfl ?_)))))) (fun g1 => kSkip (kBk (kReg (kMovC rfl (kAdd rfl rfl (by omega) (kMovC rfl (kDone ?_)))))))))))))))))))))))) (fun g0 => kExit (kExC (kExI (kExB (kSeq (kReg (kMovC rfl (kDone (kRet (endRetA (ra := [.one (.d _)]) rfl ?_))))))))))))))))))
  · rw [decide_eq_false]
    rintro rfl
    simp_all
  · refine kInv ⟨⟨i + 1, by omega, ?_⟩, by simp only; omega, .normA⟩
    rw [← List.take_append_getElem (by omega), ← List.take_append_getElem (by omega), he]
    simp_all
  · have hge : i = a.length := by omega
    rw [hge, List.take_length, hab, List.take_length] at he
    rw [he, decide_eq_true rfl]

def c_laws_eqRr : C := (.seq (.reg false (.o 0 2 (.box 2 (.t 0)) (.o 1 3 (.box 3 (.t 1)) (.o 2 4 (.mov (.v (.bool false))) .done)))) (.seq (.seq (.reg false (.o 0 5 (.fad (.t 2) 0) (.o 1 6 (.load (some 1) (.t 5)) (.o 2 7 (.fad (.t 3) 0) (.o 3 8 (.load (some 1) (.t 7)) (.o 4 9 (.call 9 60 [(.t 6), (.t 8)]) (.o 5 10 (.un .not (.t 9)) .done))))))) (.cond (.t 10) (.seq (.reg false (.o 0 4 (.mov (.v (.bool false))) .done)) .ret) .skip)) (.seq (.seq (.reg false (.o 0 11 (.fad (.t 2) 1) (.o 1 12 (.load none (.t 11)) (.o 2 13 (.fad (.t 3) 1) (.o 3 14 (.load none (.t 13)) (.o 4 15 (.bin .neq (.t 12) (.t 14)) .done)))))) (.cond (.t 15) (.seq (.reg false (.o 0 4 (.mov (.v (.bool false))) .done)) .ret) .skip)) (.seq (.seq (.reg false (.o 0 16 (.fad (.t 2) 2) (.o 1 17 (.load none (.t 16)) (.o 2 18 (.fad (.t 3) 2) (.o 3 19 (.load none (.t 18)) (.o 4 20 (.bin .neq (.t 17) (.t 19)) .done)))))) (.cond (.t 20) (.seq (.reg false (.o 0 4 (.mov (.v (.bool false))) .done)) .ret) .skip)) (.seq (.seq (.reg false (.o 0 21 (.fad (.t 2) 3) (.o 1 22 (.load none (.t 21)) (.o 2 23 (.fad (.t 3) 3) (.o 3 24 (.load none (.t 23)) (.o 4 25 (.bin .neq (.t 22) (.t 24)) .done)))))) (.cond (.t 25) (.seq (.reg false (.o 0 4 (.mov (.v (.bool false))) .done)) .ret) .skip)) (.seq (.seq (.reg false (.o 0 26 (.fad (.t 2) 4) (.o 1 27 (.load (some 1) (.t 26)) (.o 2 28 (.fad (.t 3) 4) (.o 3 29 (.load (some 1) (.t 28)) (.o 4 30 (.call 30 60 [(.t 27), (.t 29)]) (.o 5 31 (.un .not (.t 30)) .done))))))) (.cond (.t 31) (.seq (.reg false (.o 0 4 (.mov (.v (.bool false))) .done)) .ret) .skip)) (.seq (.seq (.reg false (.o 0 32 (.fad (.t 2) 5) (.o 1 33 (.load none (.t 32)) (.o 2 34 (.fad (.t 3) 5) (.o 3 35 (.load none (.t 34)) (.o 4 36 (.call 36 243 [(.t 33), (.t 35)]) (.o 5 37 (.un .not (.t 36)) .done))))))) (.cond (.t 37) (.seq (.reg false (.o 0 4 (.mov (.v (.bool false))) .done)) .ret) .skip)) (.seq (.seq (.reg false (.o 0 38 (.fad (.t 2) 6) (.o 1 39 (.load none (.t 38)) (.o 2 40 (.fad (.t 3) 6) (.o 3 41 (.load none (.t 40)) (.o 4 42 (.call 42 128 [(.t 39), (.t 41)]) (.o 5 43 (.un .not (.t 42)) .done))))))) (.cond (.t 43) (.seq (.reg false (.o 0 4 (.mov (.v (.bool false))) .done)) .ret) .skip)) (.seq (.reg false (.o 0 4 (.mov (.v (.bool true))) .done)) .ret)))))))))
theorem dg_laws_eqRr : Tryz.f157.body.bind (digC Tryz.prog Tryz.f157.ntmps []) = some c_laws_eqRr := by kernel_rfl
theorem rs_laws_eqRr : resSlots Tryz.prog Tryz.f157 = some [.s 4] := by kernel_rfl
theorem ok_laws_eqRr (a b : Rr) (hs : SmallR a) :
    FnOK Tryz.prog 157 [.agg (a.cells.map .d), .agg (b.cells.map .d)] (fun ra _ => ra = [.one (.d (.sc (.bool (decide (a = b)))))]) := by
  refine FnOK.ofK Tryz.func157 (by kernel_rfl) dg_laws_eqRr rs_laws_eqRr rfl rfl ?_
  delta c_laws_eqRr T.o X.i
  have n1 := hs.n.len
  have n2 := hs.n.mem
  have t1 := hs.t.len
  have t2 := hs.t.mem
  have x1 := hs.x
  have m1 := hs.m
  refine kSeq (kReg (kBox rfl rfl rfl rfl rfl (kBox rfl rfl rfl rfl rfl (kMovC rfl (kDone (kSeq (kSeq (kReg (kFadP rfl rfl (kLoadP rfl rfl rfl (kFadP rfl rfl (kLoadP rfl rfl rfl (kCallD (ok_laws_eqName _ _ pr pr) ⟨⟨⟨rfl, trivial⟩, leb⟩, ⟨⟨rfl, trivial⟩, leb⟩, trivial⟩ rfl rfl rfl rfl rfl (kUn rfl rfl (kDone (kCondN rfl (fun g0 => kSeq (kReg (kMovC rfl (kDone (kRet (endRetA (ra := [.one (.d _)]) rfl ?_)))))) (fun g0 => kSkip (kSeq (kSeq (kReg (kFadP rfl rfl (kLoadP rfl rfl rfl (kFadP rfl rfl (kLoadP rfl rfl rfl (kBin rfl rfl rfl (kDone (kCondIN rfl (fun g1 => kSeq (kReg (kMovC rfl (kDone (kRet (endRetA (ra := [.one (.d _)]) rfl ?_)))))) (fun g1 => kSkip (kSeq (kSeq (kReg (kFadP rfl rfl (kLoadP rfl rfl rfl (kFadP rfl rfl (kLoadP rfl rfl rfl (kBin rfl rfl rfl (kDone (kCondIN rfl (fun g2 => kSeq (kReg (kMovC rfl (kDone (kRet (endRetA (ra := [.one (.d _)]) rfl ?_)))))) (fun g2 => kSkip (kSeq (kSeq (kReg (kFadP rfl rfl (kLoadP rfl rfl rfl (kFadP rfl rfl (kLoadP rfl rfl rfl (kBin rfl rfl rfl (kDone (kCondIN rfl (fun g3 => kSeq (kReg (kMovC rfl (kDone (kRet (endRetA (ra := [.one (.d _)]) rfl ?_)))))) (fun g3 => kSkip (kSeq (kSeq (kReg (kFadP rfl rfl (kLoadP rfl rfl rfl (kFadP rfl rfl (kLoadP rfl rfl rfl (kCallD (ok_laws_eqName _ _ pr pr) ⟨⟨⟨rfl, trivial⟩, leb⟩, ⟨⟨rfl, trivial⟩, leb⟩, trivial⟩ rfl rfl rfl rfl rfl (kUn rfl rfl (kDone (kCondN rfl (fun g4 => kSeq (kReg (kMovC rfl (kDone (kRet (endRetA (ra := [.one (.d _)]) rfl ?_)))))) (fun g4 => kSkip (kSeq (kSeq (kReg (kFadP rfl rfl (kLoadP rfl rfl rfl (kFadP rfl rfl (kLoadP rfl rfl rfl (kCallD (ok_laws_eqByteS _ _ pr) ⟨rfl, rfl, trivial⟩ rfl rfl rfl rfl rfl (kUn rfl rfl (kDone (kCondN rfl (fun g5 => kSeq (kReg (kMovC rfl (kDone (kRet (endRetA (ra := [.one (.d _)]) rfl ?_)))))) (fun g5 => kSkip (kSeq (kSeq (kReg (kFadP rfl rfl (kLoadP rfl rfl rfl (kFadP rfl rfl (kLoadP rfl rfl rfl (kCallD (ok_laws_eqIntS _ _ pr) ⟨rfl, rfl, trivial⟩ rfl rfl rfl rfl rfl (kUn rfl rfl (kDone (kCondN rfl (fun g6 => kSeq (kReg (kMovC rfl (kDone (kRet (endRetA (ra := [.one (.d _)]) rfl ?_)))))) (fun g6 => kSkip (kSeq (kReg (kMovC rfl (kDone (kRet (endRetA (ra := [.one (.d _)]) rfl ?_))))))))))))))))))))))))))))))))))))))))))))))))))))))))))))))))))))))))))))))))))))))))))))
  all_goals (refine congrArg (fun z : Bool => [RA.one (RV.d (DV.sc (Value.bool z)))]) ?_; clear n1 n2 t1 t2 x1 m1 hs; cases a; cases b; simp_all)

def c_laws_eqRrS : C := (.seq (.reg false (.o 0 4 (.mov (.v (.bool false))) .done)) (.seq (.seq (.reg false (.o 0 6 (.mov (.t 0)) (.o 1 7 (.len (.t 6)) (.o 2 8 (.mov (.t 1)) (.o 3 9 (.len (.t 8)) (.o 4 10 (.bin .neq (.t 7) (.t 9)) .done)))))) (.cond (.t 10) (.seq (.reg false (.o 0 4 (.mov (.v (.bool false))) .done)) .ret) .skip)) (.seq (.seq (.reg false (.o 0 5 (.mov (.i 0)) .done)) (.block 0 (.loop (.seq (.seq (.reg false (.o 0 11 (.mov (.t 5)) (.o 1 12 (.mov (.t 0)) (.o 2 13 (.len (.t 12)) (.o 3 14 (.bin .lss (.t 11) (.t 13)) .done))))) (.cond (.t 14) .skip (.exit 0))) (.seq (.block 1 (.seq (.reg true (.op 0 [] (some 17) none true (.mov (.t 0)) (.op 1 [] (some 18) none true (.mov (.t 5)) (.op 2 [] (some 19) none true (.iad 7 (.t 17) (.t 18)) (.op 3 [] (some 20) none true (.load (some 7) (.t 19)) (.op 4 [] (some 21) none true (.mov (.t 1)) (.op 5 [] (some 22) none true (.mov (.t 5)) (.op 6 [] (some 23) none true (.iad 7 (.t 21) (.t 22)) (.op 7 [] (some 24) none true (.load (some 7) (.t 23)) (.op 8 [3, 7] (some 25) none false (.call 25 157 [(.t 20), (.t 24)]) (.op 9 [] (some 26) none true (.un .not (.t 25)) .done))))))))))) (.cond (.t 26) (.seq (.reg false (.o 0 4 (.mov (.v (.bool false))) .done)) .ret) .skip))) (.reg false (.o 0 15 (.mov (.t 5)) (.o 1 16 (.bin .add (.t 15) (.i 1)) (.o 2 5 (.mov (.t 16)) .done))))))))) (.seq (.reg false (.o 0 4 (.mov (.v (.bool true))) .done)) .ret))))
theorem dg_laws_eqRrS : Tryz.f59.body.bind (digC Tryz.prog Tryz.f59.ntmps []) = some c_laws_eqRrS := by kernel_rfl
theorem rs_laws_eqRrS : resSlots Tryz.prog Tryz.f59 = some [.s 4] := by kernel_rfl
theorem ok_laws_eqRrS (a b : List Rr) (hs : SmallRs a) :
    FnOK Tryz.prog 59 [.one (.d (encR a)), .one (.d (encR b))] (fun ra _ => ra = [.one (.d (.sc (.bool (decide (a = b)))))]) := by
  refine FnOK.ofK Tryz.func59 (by kernel_rfl) dg_laws_eqRrS rs_laws_eqRrS rfl rfl ?_
  delta c_laws_eqRrS T.o X.i
  have ha := hs.len
  refine kSeq (kReg (kMovC rfl (kDone (kSeq (kSeq (kReg (kMovC rfl (kLenR rfl rfl (kMovC rfl (kLenR rfl rfl (kBin rfl rfl rfl (kDone (kCondIN rfl (fun g0 => kSeq (kReg (kMovC rfl (kDone (kRet (endRetA (ra := [.one (.d _)]) rfl ?_)))))) (fun g0 => kSkip (kSeq (kSeq (kReg (kMovC rfl (kDone (kBlock ?_))))))))))))))))))))
  · rw [decide_eq_false (by rintro rfl; simp_all)]
  have hab : a.length = b.length := by omega
  refine kLoop (α := { i : Nat // i ≤ a.length ∧ a.take i = b.take i })
    (fun y => ⟨tabSl [(0, .dv (encR a)), (1, .dv (encR b)), (5, .i y.1)], obTab 1 [], []⟩) (fun y => a.length - y.1) ⟨0, by simp⟩
    .normA ?_
  rintro ⟨i, hi, he⟩
  simp only
  rcases Nat.lt_or_ge i a.length with hlt | hge
  · have hbi := hs.mem _ (List.getElem_mem hlt)
    refine kSeq (kSeq (kReg (kMovC rfl (kMovC rfl (kLenR rfl rfl (kBin rfl rfl rfl (kDone (kCondP rfl (fun g0 => kSkip (kSeq (kBlock (kSeq (kRegD (kMovC rfl (kMovC rfl (kIadR rfl rfl rfl (by omega) (kLoadD rfl rfl (kMovC rfl (kMovC rfl (kIadR rfl rfl rfl (by omega) (kLoadD rfl rfl (kRelF rfl rfl (kCallD (ok_laws_eqRr _ _ pr) ⟨⟨⟨rfl, rfl, rfl, rfl, rfl, rfl, rfl, trivial⟩, leb⟩, ⟨⟨rfl, rfl, rfl, rfl, rfl, rfl, rfl, trivial⟩, leb⟩, trivial⟩ rfl rfl rfl rfl rfl (kUn rfl rfl (kDone (kH (kCondN rfl (fun g1 => kSeq (kReg (kMovC rfl (kDone (kRet (endRetA (ra := [.one (.d _)]) rfl ?_)))))) (fun g1 => kSkip (kBk (kReg (kMovC rfl (kAdd rfl rfl (by omega) (kMovC rfl (kDone ?_)))))))))))))))))))))))))) (fun g0 => (by omega))))))))))
    · rw [decide_eq_false]
      rintro rfl
      simp_all
    · refine kInv ⟨⟨i + 1, by omega, ?_⟩, by simp only; omega, .normA⟩
      rw [← List.take_append_getElem (by omega), ← List.take_append_getElem (by omega), he]
      simp_all
  · refine kSeq (kSeq (kReg (kMovC rfl (kMovC rfl (kLenR rfl rfl (kBin rfl rfl rfl (kDone (kCondP rfl (fun g0 => (by omega)) (fun g0 => kExit (kExC (kExI (kExB (kSeq (kReg (kMovC rfl (kDone (kRet (endRetA (ra := [.one (.d _)]) rfl ?_))))))))))))))))))
    have hge : i = a.length := by omega
    rw [hge, List.take_length, hab, List.take_length] at he
    rw [he, decide_eq_true rfl]

def c_laws_eqTask : C := (.seq (.reg false (.o 0 2 (.box 2 (.t 0)) (.o 1 3 (.box 3 (.t 1)) (.o 2 4 (.mov (.v (.bool false))) .done)))) (.seq (.seq (.reg false (.o 0 5 (.fad (.t 2) 0) (.o 1 6 (.load none (.t 5)) (.o 2 7 (.fad (.t 3) 0) (.o 3 8 (.load none (.t 7)) (.o 4 9 (.bin .neq (.t 6) (.t 8)) .done)))))) (.cond (.t 9) (.seq (.reg false (.o 0 4 (.mov (.v (.bool false))) .done)) .ret) .skip)) (.seq (.seq (.reg false (.o 0 10 (.fad (.t 2) 1) (.o 1 11 (.load none (.t 10)) (.o 2 12 (.fad (.t 3) 1) (.o 3 13 (.load none (.t 12)) (.o 4 14 (.bin .neq (.t 11) (.t 13)) .done)))))) (.cond (.t 14) (.seq (.reg false (.o 0 4 (.mov (.v (.bool false))) .done)) .ret) .skip)) (.seq (.seq (.reg false (.o 0 15 (.fad (.t 2) 2) (.o 1 16 (.load (some 2) (.t 15)) (.o 2 17 (.fad (.t 3) 2) (.o 3 18 (.load (some 2) (.t 17)) (.o 4 19 (.call 19 127 [(.t 16), (.t 18)]) (.o 5 20 (.un .not (.t 19)) .done))))))) (.cond (.t 20) (.seq (.reg false (.o 0 4 (.mov (.v (.bool false))) .done)) .ret) .skip)) (.seq (.seq (.reg false (.o 0 21 (.fad (.t 2) 4) (.o 1 22 (.load (some 1) (.t 21)) (.o 2 23 (.fad (.t 3) 4) (.o 3 24 (.load (some 1) (.t 23)) (.o 4 25 (.call 25 60 [(.t 22), (.t 24)]) (.o 5 26 (.un .not (.t 25)) .done))))))) (.cond (.t 26) (.seq (.reg false (.o 0 4 (.mov (.v (.bool false))) .done)) .ret) .skip)) (.seq (.seq (.reg false (.o 0 27 (.fad (.t 2) 5) (.o 1 28 (.load (some 1) (.t 27)) (.o 2 29 (.fad (.t 3) 5) (.o 3 30 (.load (some 1) (.t 29)) (.o 4 31 (.call 31 60 [(.t 28), (.t 30)]) (.o 5 32 (.un .not (.t 31)) .done))))))) (.cond (.t 32) (.seq (.reg false (.o 0 4 (.mov (.v (.bool false))) .done)) .ret) .skip)) (.seq (.seq (.reg false (.o 0 33 (.fad (.t 2) 6) (.o 1 34 (.load none (.t 33)) (.o 2 35 (.fad (.t 3) 6) (.o 3 36 (.load none (.t 35)) (.o 4 37 (.call 37 128 [(.t 34), (.t 36)]) (.o 5 38 (.un .not (.t 37)) .done))))))) (.cond (.t 38) (.seq (.reg false (.o 0 4 (.mov (.v (.bool false))) .done)) .ret) .skip)) (.seq (.seq (.reg false (.o 0 39 (.fad (.t 2) 7) (.o 1 40 (.load none (.t 39)) (.o 2 41 (.fad (.t 3) 7) (.o 3 42 (.load none (.t 41)) (.o 4 43 (.call 43 128 [(.t 40), (.t 42)]) (.o 5 44 (.un .not (.t 43)) .done))))))) (.cond (.t 44) (.seq (.reg false (.o 0 4 (.mov (.v (.bool false))) .done)) .ret) .skip)) (.seq (.seq (.reg false (.o 0 45 (.fad (.t 2) 8) (.o 1 46 (.load none (.t 45)) (.o 2 47 (.fad (.t 3) 8) (.o 3 48 (.load none (.t 47)) (.o 4 49 (.bin .neq (.t 46) (.t 48)) .done)))))) (.cond (.t 49) (.seq (.reg false (.o 0 4 (.mov (.v (.bool false))) .done)) .ret) .skip)) (.seq (.seq (.reg false (.o 0 50 (.fad (.t 2) 9) (.o 1 51 (.load none (.t 50)) (.o 2 52 (.fad (.t 3) 9) (.o 3 53 (.load none (.t 52)) (.o 4 54 (.bin .neq (.t 51) (.t 53)) .done)))))) (.cond (.t 54) (.seq (.reg false (.o 0 4 (.mov (.v (.bool false))) .done)) .ret) .skip)) (.seq (.seq (.reg false (.o 0 55 (.fad (.t 2) 10) (.o 1 56 (.load none (.t 55)) (.o 2 57 (.fad (.t 3) 10) (.o 3 58 (.load none (.t 57)) (.o 4 59 (.bin .neq (.t 56) (.t 58)) .done)))))) (.cond (.t 59) (.seq (.reg false (.o 0 4 (.mov (.v (.bool false))) .done)) .ret) .skip)) (.seq (.seq (.reg false (.o 0 60 (.fad (.t 2) 11) (.o 1 61 (.load none (.t 60)) (.o 2 62 (.fad (.t 3) 11) (.o 3 63 (.load none (.t 62)) (.o 4 64 (.bin .neq (.t 61) (.t 63)) .done)))))) (.cond (.t 64) (.seq (.reg false (.o 0 4 (.mov (.v (.bool false))) .done)) .ret) .skip)) (.seq (.seq (.reg false (.o 0 65 (.fad (.t 2) 12) (.o 1 66 (.load none (.t 65)) (.o 2 67 (.fad (.t 3) 12) (.o 3 68 (.load none (.t 67)) (.o 4 69 (.call 69 59 [(.t 66), (.t 68)]) (.o 5 70 (.un .not (.t 69)) .done))))))) (.cond (.t 70) (.seq (.reg false (.o 0 4 (.mov (.v (.bool false))) .done)) .ret) .skip)) (.seq (.reg false (.o 0 4 (.mov (.v (.bool true))) .done)) .ret))))))))))))))
theorem dg_laws_eqTask : Tryz.f44.body.bind (digC Tryz.prog Tryz.f44.ntmps []) = some c_laws_eqTask := by kernel_rfl
theorem rs_laws_eqTask : resSlots Tryz.prog Tryz.f44 = some [.s 4] := by kernel_rfl
theorem ok_laws_eqTask (a b : Task) (hs : SmallT a) :
    FnOK Tryz.prog 44 [.agg (a.cells.map .d), .agg (b.cells.map .d)] (fun ra _ => ra = [.one (.d (.sc (.bool (decide (a = b)))))]) := by
  refine FnOK.ofK Tryz.func44 (by kernel_rfl) dg_laws_eqTask rs_laws_eqTask rfl rfl ?_
  delta c_laws_eqTask T.o X.i
  have n1 := hs.n.len
  have n2 := hs.n.mem
  have f1 := hs.f.len
  have f2 := hs.f.mem
  have z1 := hs.z.len
  have z2 := hs.z.mem
  have h1 := hs.h
  have s1 := hs.s
  have a1 := hs.a
  refine kSeq (kReg (kBox rfl rfl rfl rfl rfl (kBox rfl rfl rfl rfl rfl (kMovC rfl (kDone (kSeq (kSeq (kReg (kFadP rfl rfl (kLoadP rfl rfl rfl (kFadP rfl rfl (kLoadP rfl rfl rfl (kBin rfl rfl rfl (kDone (kCondIN rfl (fun g0 => kSeq (kReg (kMovC rfl (kDone (kRet (endRetA (ra := [.one (.d _)]) rfl ?_)))))) (fun g0 => kSkip (kSeq (kSeq (kReg (kFadP rfl rfl (kLoadP rfl rfl rfl (kFadP rfl rfl (kLoadP rfl rfl rfl (kBin rfl rfl rfl (kDone (kCondIN rfl (fun g1 => kSeq (kReg (kMovC rfl (kDone (kRet (endRetA (ra := [.one (.d _)]) rfl ?_)))))) (fun g1 => kSkip (kSeq (kSeq (kReg (kFadP rfl rfl (kLoadP rfl rfl rfl (kFadP rfl rfl (kLoadP rfl rfl rfl (kCallD (ok_laws_eqQuestion _ _ _ _ pr pr) ⟨⟨⟨rfl, rfl, trivial⟩, leb⟩, ⟨⟨rfl, rfl, trivial⟩, leb⟩, trivial⟩ rfl rfl rfl rfl rfl (kUn rfl rfl (kDone (kCondN rfl (fun g2 => kSeq (kReg (kMovC rfl (kDone (kRet (endRetA (ra := [.one (.d _)]) rfl ?_)))))) (fun g2 => kSkip (kSeq (kSeq (kReg (kFadP rfl rfl (kLoadP rfl rfl rfl (kFadP rfl rfl (kLoadP rfl rfl rfl (kCallD (ok_laws_eqName _ _ pr pr) ⟨⟨⟨rfl, trivial⟩, leb⟩, ⟨⟨rfl, trivial⟩, leb⟩, trivial⟩ rfl rfl rfl rfl rfl (kUn rfl rfl (kDone (kCondN rfl (fun g3 => kSeq (kReg (kMovC rfl (kDone (kRet (endRetA (ra := [.one (.d _)]) rfl ?_)))))) (fun g3 => kSkip (kSeq (kSeq (kReg (kFadP rfl rfl (kLoadP rfl rfl rfl (kFadP rfl rfl (kLoadP rfl rfl rfl (kCallD (ok_laws_eqName _ _ pr pr) ⟨⟨⟨rfl, trivial⟩, leb⟩, ⟨⟨rfl, trivial⟩, leb⟩, trivial⟩ rfl rfl rfl rfl rfl (kUn rfl rfl (kDone (kCondN rfl (fun g4 => kSeq (kReg (kMovC rfl (kDone (kRet (endRetA (ra := [.one (.d _)]) rfl ?_)))))) (fun g4 => kSkip (kSeq (kSeq (kReg (kFadP rfl rfl (kLoadP rfl rfl rfl (kFadP rfl rfl (kLoadP rfl rfl rfl (kCallD (ok_laws_eqIntS _ _ pr) ⟨rfl, rfl, trivial⟩ rfl rfl rfl rfl rfl (kUn rfl rfl (kDone (kCondN rfl (fun g5 => kSeq (kReg (kMovC rfl (kDone (kRet (endRetA (ra := [.one (.d _)]) rfl ?_)))))) (fun g5 => kSkip (kSeq (kSeq (kReg (kFadP rfl rfl (kLoadP rfl rfl rfl (kFadP rfl rfl (kLoadP rfl rfl rfl (kCallD (ok_laws_eqIntS _ _ pr) ⟨rfl, rfl, trivial⟩ rfl rfl rfl rfl rfl (kUn rfl rfl (kDone (kCondN rfl (fun g6 => kSeq (kReg (kMovC rfl (kDone (kRet (endRetA (ra := [.one (.d _)]) rfl ?_)))))) (fun g6 => kSkip (kSeq (kSeq (kReg (kFadP rfl rfl (kLoadP rfl rfl rfl (kFadP rfl rfl (kLoadP rfl rfl rfl (kBin rfl rfl rfl (kDone (kCondIN rfl (fun g7 => kSeq (kReg (kMovC rfl (kDone (kRet (endRetA (ra := [.one (.d _)]) rfl ?_)))))) (fun g7 => kSkip (kSeq (kSeq (kReg (kFadP rfl rfl (kLoadP rfl rfl rfl (kFadP rfl rfl (kLoadP rfl rfl rfl (kBin rfl rfl rfl (kDone (kCondIN rfl (fun g8 => kSeq (kReg (kMovC rfl (kDone (kRet (endRetA (ra := [.one (.d _)]) rfl ?_)))))) (fun g8 => kSkip (kSeq (kSeq (kReg (kFadP rfl rfl (kLoadP rfl rfl rfl (kFadP rfl rfl (kLoadP rfl rfl rfl (kBin rfl rfl rfl (kDone (kCondIN rfl (fun g9 => kSeq (kReg (kMovC rfl (kDone (kRet (endRetA (ra := [.one (.d _)]) rfl ?_)))))) (fun g9 => kSkip (kSeq (kSeq (kReg (kFadP rfl rfl (kLoadP rfl rfl rfl (kFadP rfl rfl (kLoadP rfl rfl rfl (kBin rfl rfl rfl (kDone (kCondIN rfl (fun g10 => kSeq (kReg (kMovC rfl (kDone (kRet (endRetA (ra := [.one (.d _)]) rfl ?_)))))) (fun g10 => kSkip (kSeq (kSeq (kReg (kFadP rfl rfl (kLoadP rfl rfl rfl (kFadP rfl rfl (kLoadP rfl rfl rfl (kCallD (ok_laws_eqRrS _ _ pr) ⟨rfl, rfl, trivial⟩ rfl rfl rfl rfl rfl (kUn rfl rfl (kDone (kCondN rfl (fun g11 => kSeq (kReg (kMovC rfl (kDone (kRet (endRetA (ra := [.one (.d _)]) rfl ?_)))))) (fun g11 => kSkip (kSeq (kReg (kMovC rfl (kDone (kRet (endRetA (ra := [.one (.d _)]) rfl ?_)))))))))))))))))))))))))))))))))))))))))))))))))))))))))))))))))))))))))))))))))))))))))))))))))))))))))))))))))))))))))))))))))))))))))))))))))))))
  all_goals (refine congrArg (fun z : Bool => [RA.one (RV.d (DV.sc (Value.bool z)))]) ?_; clear n1 n2 f1 f2 z1 z2 h1 s1 a1 hs; cases a; cases b; simp_all)

def c_laws_markByteS : C := (.seq (.reg false (.o 0 4 (.mov (.i 0)) .done)) (.seq (.seq (.reg false (.o 0 5 (.mov (.i 0)) .done)) (.block 0 (.loop (.seq (.seq (.reg false (.o 0 6 (.mov (.t 5)) (.o 1 7 (.mov (.t 0)) (.o 2 8 (.len (.t 7)) (.o 3 9 (.bin .lss (.t 6) (.t 8)) .done))))) (.cond (.t 9) .skip (.exit 0))) (.seq (.block 1 (.seq (.reg false (.o 0 12 (.mov (.t 0)) (.o 1 13 (.mov (.t 5)) (.o 2 14 (.mov (.t 1)) (.o 3 15 (.conv .u8 (.t 14)) (.o 4 16 (.iad 1 (.t 12) (.t 13)) (.op 5 [] none none false (.store none (.t 16) (.t 15)) .done))))))) (.reg false (.o 0 17 (.mov (.t 1)) (.o 1 18 (.bin .add (.t 17) (.i 1)) (.o 2 1 (.mov (.t 18)) .done)))))) (.reg false (.o 0 10 (.mov (.t 5)) (.o 1 11 (.bin .add (.t 10) (.i 1)) (.o 2 5 (.mov (.t 11)) .done))))))))) (.seq (.reg false (.o 0 19 (.mov (.t 1)) (.o 1 4 (.mov (.t 19)) .done))) .ret)))
theorem dg_laws_markByteS : Tryz.f159.body.bind (digC Tryz.prog Tryz.f159.ntmps []) = some c_laws_markByteS := by kernel_rfl
theorem rs_laws_markByteS : resSlots Tryz.prog Tryz.f159 = some [.s 4] := by kernel_rfl
theorem ok_laws_markByteS (a : List UInt8) (k : Int) (h0 : 0 ≤ k) (hk : k + a.length ≤ 9223372036854775807) :
    FnOK Tryz.prog 159 [.one (.arr false true (encB a)), .one (.d (.sc (.int .i64 k)))] (fun ra os => ra = [.one (.d (.sc (.int .i64 (k + a.length))))] ∧ os.a 0 = encB (marks a.length k)) := by
  refine FnOK.ofK Tryz.func159 (by kernel_rfl) dg_laws_markByteS rs_laws_markByteS rfl rfl ?_
  delta c_laws_markByteS T.o X.i
  generalize hgas : [GA.one (.arr false true (encB a)), GA.one (.d (.sc (.int .i64 k)))] = gas
  have hob : (St.init gas).ob 0 = ⟨0, 0, .arr true (encB a)⟩ := by rw [← hgas]; rfl
  have s0 : (St.init gas).sl 0 = .c (.arr 0 0) := by rw [← hgas]; rfl
  have s1 : (St.init gas).sl 1 = .i k := by rw [← hgas]; rfl
  refine kSub (t := ⟨tabSl [(0, .c (.arr 0 0)), (1, .i k)], (St.init gas).ob, []⟩) (.tab rfl ⟨s0 ▸ .refl _, s1 ▸ .refl _, trivial⟩) ?_
  refine kSeq (kReg (kMovC rfl (kDone ?_)))
  refine kSeq (kSeq (kReg (kMovC rfl (kDone (kBlock ?_)))))
  refine kLoop (α := { i : Nat // i ≤ a.length })
    (fun y => ⟨tabSl [(0, .c (.arr 0 0)), (1, .i (k + (y.1 : Int))), (5, .i y.1)], upd (St.init gas).ob 0 ⟨0, y.1, .arr true (encB (marks y.1 k ++ a.drop y.1))⟩, []⟩) (fun y => a.length - y.1) ⟨0, by simp⟩
    (.tab (upd_self (by rw [hob]; rfl)) ⟨.refl _, by simpa using .refl _, .refl _, trivial⟩) ?_
  rintro ⟨i, hi⟩
  simp only
  have hlen : (marks i k ++ a.drop i).length = a.length := by simp [marks_len]; omega
  refine kSeq (kSeq (kReg ?_))
  refine kMovC rfl (kMovC rfl (kLen rfl rfl rfl (kBin rfl rfl rfl (kDone ?_))))
  rw [len_encB, hlen]
  refine kCond rfl (fun h1 => ?_) (fun h1 => ?_)
  · have hlt : i < a.length := by simp at h1; omega
    refine kSkip (kSeq (kBlock (kSeq (kReg ?_))))
    refine kMovC rfl (kMovC rfl (kMovC rfl (kConv rfl (kIadA rfl rfl rfl rfl ?_ ?_))))
    · rw [len_encB, hlen]; omega
    refine kStoreE1 rfl rfl rfl rfl (by simp [encB, DV.esz]) (kDone ?_)
    rw [show (Int.toNat (i : Int)) = i from rfl, setRow_encB _ _ _ (by omega)]
    refine kReg (kMovC rfl (kAdd rfl rfl ?_ (kMovC rfl (kDone (kBk ?_)))))
    · omega
    refine kReg (kMovC rfl (kAdd rfl rfl ?_ (kMovC rfl (kDone (kInv ?_)))))
    · omega
    refine ⟨⟨i + 1, hlt⟩, by simp only; omega, .tab ?_ ⟨.refl _, ?_, .refl _, trivial⟩⟩
    · show _ = upd (upd (St.init gas).ob 0 _) 0 _
      rw [upd_upd, take_set_succ _ _ _ _ hlt (marks_len i k), marks_succ]
      rfl
    · show WkV (.i (k + i + 1)) (.i (k + ((i + 1 : Nat) : Int)))
      rw [show k + ((i + 1 : Nat) : Int) = k + i + 1 by omega]
      exact .refl _
  · refine kExit (kExC (kExI (kExB ?_)))
    have hge : i = a.length := by simp at h1; omega
    subst hge
    refine kSeq (kReg (kMovC rfl (kMovC rfl (kDone (kRet ?_)))))
    rw [← hgas]
    refine endRet (ra := [.one (.d _)]) rfl ⟨⟨⟨rfl, .inl rfl⟩, trivial⟩, .nil, ⟨rfl, fun _ => rfl, rfl⟩, trivial, trivial⟩ ?_
    refine ⟨rfl, ?_⟩
    show encB (marks a.length k ++ a.drop a.length) = _
    simp

def c_laws_markByteSS : C := (.seq (.reg false (.o 0 4 (.mov (.i 0)) .done)) (.seq (.seq (.reg false (.o 0 5 (.mov (.i 0)) .done)) (.block 0 (.loop (.seq (.seq (.reg false (.o 0 6 (.mov (.t 5)) (.o 1 7 (.mov (.t 0)) (.o 2 8 (.len (.t 7)) (.o 3 9 (.bin .lss (.t 6) (.t 8)) .done))))) (.cond (.t 9) .skip (.exit 0))) (.seq (.block 1 (.reg false (.o 0 12 (.mov (.t 0)) (.o 1 13 (.mov (.t 5)) (.o 2 14 (.iad 1 (.t 12) (.t 13)) (.o 3 15 (.load none (.t 14)) (.o 4 16 (.mov (.t 1)) (.o 5 17 (.call 17 159 [(.t 15), (.t 16)]) (.o 6 1 (.mov (.t 17)) .done))))))))) (.reg false (.o 0 10 (.mov (.t 5)) (.o 1 11 (.bin .add (.t 10) (.i 1)) (.o 2 5 (.mov (.t 11)) .done))))))))) (.seq (.reg false (.o 0 18 (.mov (.t 1)) (.o 1 4 (.mov (.t 18)) .done))) .ret)))
theorem dg_laws_markByteSS : Tryz.f113.body.bind (digC Tryz.prog Tryz.f113.ntmps []) = some c_laws_markByteSS := by kernel_rfl
theorem rs_laws_markByteSS : resSlots Tryz.prog Tryz.f113 = some [.s 4] := by kernel_rfl
theorem ok_laws_markByteSS (a : List (List UInt8)) (k : Int) (h0 : 0 ≤ k) (hk : k + a.flatten.length ≤ 9223372036854775807) (hl : a.length ≤ 4194304) :
    FnOK Tryz.prog 113 [.one (.arr false true (encBB a)), .one (.d (.sc (.int .i64 k)))] (fun ra os => ra = [.one (.d (.sc (.int .i64 (k + a.flatten.length))))] ∧ os.a 0 = encBB (markss a k)) := by
  refine FnOK.ofK Tryz.func113 (by kernel_rfl) dg_laws_markByteSS rs_laws_markByteSS rfl rfl ?_
  delta c_laws_markByteSS T.o X.i
  refine kSeq (kReg (kMovC rfl (kDone ?_)))
  refine kSeq (kSeq (kReg (kMovC rfl (kDone (kBlock ?_)))))
  refine kLoop (α := { i : Nat // i ≤ a.length })
    (fun y => ⟨tabSl [(0, .c (.arr 0 0)), (1, .i (k + (a.take y.1).flatten.length)), (5, .i y.1)], upd (St.init [.one (.arr false true (encBB a)), .one (.d (.sc (.int .i64 k)))]).ob 0 ⟨0, y.1, .arr true (encBB (markss (a.take y.1) k ++ a.drop y.1))⟩, []⟩) (fun y => a.length - y.1) ⟨0, by simp⟩
    (.tab (upd_self rfl) ⟨.refl _, by simpa using .refl _, .refl _, trivial⟩) ?_
  rintro ⟨i, hi⟩
  simp only
  have hlen : (markss (a.take i) k).length = i := by rw [markss_len]; simp; omega
  have hlen' : (markss (a.take i) k ++ a.drop i).length = a.length := by simp [hlen]; omega
  refine kSeq (kSeq (kReg ?_))
  refine kMovC rfl (kMovC rfl (kLen rfl rfl rfl (kBin rfl rfl rfl (kDone ?_))))
  rw [len_encBB, hlen']
  refine kCond rfl (fun h1 => ?_) (fun h1 => ?_)
  · have hlt : i < a.length := by simp at h1; omega
    have hget : (markss (a.take i) k ++ a.drop i)[i]'(by omega) = a[i] := by
      rw [List.getElem_append_right (by omega)]; simp [hlen]
    have hat : (encBB (markss (a.take i) k ++ a.drop i)).at i 0 = encB a[i] := by rw [at_encBB _ _ (by omega), hget]
    have hfl : (a.take (i + 1)).flatten.length = (a.take i).flatten.length + a[i].length := by
      rw [← List.take_append_getElem hlt, List.flatten_append, List.length_append]; simp only [List.flatten_cons, List.flatten_nil, List.append_nil]
    have htot : (a.take (i + 1)).flatten.length ≤ a.flatten.length := by
      have := congrArg (fun l => (List.flatten l).length) (List.take_append_drop (i + 1) a)
      simp only [List.flatten_append, List.length_append] at this
      omega
    refine kSkip (kSeq (kBlock (kReg ?_)))
    refine kMovC rfl (kMovC rfl (kIadA rfl rfl rfl rfl ?_ ?_))
    · rw [len_encBB, hlen']; omega
    refine kLoadE rfl rfl (v := .c (.sub 0 0 i i 0)) ?_ (kMovC rfl ?_)
    · show pickCells none (AC.ofCells 0 0 i i 0 (((encBB (markss (a.take i) k ++ a.drop i)).row i).drop 0)) = _
      rw [row_encBB _ _ (by omega)]
      rfl
    refine kCallS (ok_laws_markByteS a[i] (k + (a.take i).flatten.length) (by omega) (by omega)) rfl ⟨⟨rfl, rfl, rfl, rfl, rfl, rfl, hat.symm, rfl⟩, rfl, trivial⟩ ?_ rfl ?_
    · simp [encBB, DV.rows, hlen]; omega
    rintro ra os ⟨rfl, ho⟩
    refine ⟨_, rfl, ?_⟩
    refine kMovC rfl (kDone (kBk ?_))
    refine kReg (kMovC rfl (kAdd rfl rfl ?_ (kMovC rfl (kDone (kInv ?_)))))
    · omega
    refine ⟨⟨i + 1, hlt⟩, by simp only; omega, .tab ?_ ⟨.refl _, ?_, .refl _, trivial⟩⟩
    · refine Eq.trans ?_ (upd_upd _ _ _ _).symm
      refine congrArg (upd _ _) ?_
      show _ = Ob.mk _ _ (OK.arr _ ((encBB (markss (a.take i) k ++ a.drop i)).setCell i 0 (os.a 0)))
      rw [ho, setCell_encBB _ _ _ (by omega), take_set_succ _ _ _ _ hlt hlen, ← List.take_append_getElem hlt, markss_append]
    · show WkV (.i (k + ((a.take i).flatten.length : Int) + a[i].length)) (.i (k + ((a.take (i + 1)).flatten.length : Int)))
      rw [hfl, show k + (((a.take i).flatten.length + a[i].length : Nat) : Int) = k + ((a.take i).flatten.length : Int) + a[i].length by omega]
      exact .refl _
  · refine kExit (kExC (kExI (kExB ?_)))
    have hge : i = a.length := by simp at h1; omega
    subst hge
    refine kSeq (kReg (kMovC rfl (kMovC rfl (kDone (kRet ?_)))))
    refine endRet (ra := [.one (.d _)]) rfl ⟨⟨⟨rfl, .inl rfl⟩, trivial⟩, .nil, ⟨rfl, fun _ => rfl, rfl⟩, trivial, trivial⟩ ?_
    refine ⟨by simp, ?_⟩
    show encBB (markss (a.take a.length) k ++ a.drop a.length) = _
    simp

def c_laws_markName : C := (.seq (.reg false (.o 0 2 (.box 2 (.t 0)) (.o 1 4 (.mov (.i 0)) .done))) (.seq (.reg false (.o 0 5 (.fad (.t 2) 0) (.o 1 6 (.load none (.t 5)) (.o 2 7 (.mov (.t 1)) (.o 3 8 (.call 8 113 [(.t 6), (.t 7)]) (.o 4 1 (.mov (.t 8)) .done)))))) (.seq (.reg false (.o 0 9 (.mov (.t 1)) (.o 1 4 (.mov (.t 9)) .done))) .ret)))
theorem dg_laws_markName : Tryz.f61.body.bind (digC Tryz.prog Tryz.f61.ntmps []) = some c_laws_markName := by kernel_rfl
theorem rs_laws_markName : resSlots Tryz.prog Tryz.f61 = some [.s 4] := by kernel_rfl
theorem ok_laws_markName (a : List (List UInt8)) (k : Int) (h0 : 0 ≤ k) (hk : k + a.flatten.length ≤ 9223372036854775807) (hl : a.length ≤ 4194304) :
    FnOK Tryz.prog 61 [.agg [.arr false true (encBB a)], .one (.d (.sc (.int .i64 k)))] (fun ra os => ra = [.one (.d (.sc (.int .i64 (k + a.flatten.length))))] ∧ os.a 0 = encBB (markss a k)) := by
  refine FnOK.ofK Tryz.func61 (by kernel_rfl) dg_laws_markName rs_laws_markName rfl rfl ?_
  delta c_laws_markName T.o X.i
  refine kSeq (kReg (kBox rfl rfl rfl rfl rfl (kMovC rfl (kDone (kSeq (kReg (kFadP rfl rfl (kLoadP rfl rfl rfl (kMovC rfl ?_)))))))))
  refine kCall false (ok_laws_markByteSS a k h0 hk hl) ⟨⟨_, rfl, .inl rfl⟩, rfl, trivial⟩ rfl nofun (by rintro ra os ⟨rfl, _⟩; exact leb) ?_
  rintro ra os ⟨rfl, ho⟩
  refine kMovC rfl (kDone (kSeq (kReg (kMovC rfl (kMovC rfl (kDone ?_))))))
  refine kRet (endRet (ra := [.one (.d _)]) rfl ?_ ⟨rfl, ho⟩)
  (repeat' first | exact trivial | exact rfl | exact .inl rfl | exact nodupB_sound rfl | exact .inl (Nat.zero_lt_succ _) | exact fun _ => rfl | exact leb | exact ⟨_, rfl, fun _ => rfl⟩ | refine ⟨?_, ?_⟩ | fail)
  rw [show os.a (aid 0 0) = _ from ho]
  rfl

def c_laws_markQuestion : C := (.seq (.reg false (.o 0 2 (.box 2 (.t 0)) (.o 1 4 (.mov (.i 0)) .done))) (.seq (.reg false (.o 0 5 (.fad (.t 2) 0) (.o 1 6 (.load (some 1) (.t 5)) (.o 2 7 (.mov (.t 1)) (.o 3 8 (.call 8 61 [(.t 6), (.t 7)]) (.o 4 1 (.mov (.t 8)) .done)))))) (.seq (.reg false (.o 0 9 (.mov (.t 1)) (.o 1 4 (.mov (.t 9)) .done))) .ret)))
theorem dg_laws_markQuestion : Tryz.f129.body.bind (digC Tryz.prog Tryz.f129.ntmps []) = some c_laws_markQuestion := by kernel_rfl
theorem rs_laws_markQuestion : resSlots Tryz.prog Tryz.f129 = some [.s 4] := by kernel_rfl
theorem ok_laws_markQuestion (a : List (List UInt8)) (t k : Int) (h0 : 0 ≤ k) (hk : k + a.flatten.length ≤ 9223372036854775807) (hl : a.length ≤ 4194304) :
    FnOK Tryz.prog 129 [.agg [.arr false true (encBB a), .d (.sc (.int .i64 t))], .one (.d (.sc (.int .i64 k)))] (fun ra os => ra = [.one (.d (.sc (.int .i64 (k + a.flatten.length))))] ∧ os.a 0 = encBB (markss a k)) := by
  refine FnOK.ofK Tryz.func129 (by kernel_rfl) dg_laws_markQuestion rs_laws_markQuestion rfl rfl ?_
  delta c_laws_markQuestion T.o X.i
  refine kSeq (kReg (kBox rfl rfl rfl rfl rfl (kMovC rfl (kDone (kSeq (kReg (kFadP rfl rfl (kLoadP rfl rfl rfl (kMovC rfl (kCallA (ok_laws_markName _ _ pr pr pr) ⟨⟨⟨⟨_, rfl, .inl rfl⟩, trivial⟩, leb⟩, rfl, trivial⟩ rfl rfl rfl rfl (kMovC rfl (kDone (kSeq (kReg (kMovC rfl (kMovC rfl (kDone (kRet (endRetA (ra := [.one (.d _)]) rfl ?_)))))))))))))))))))
  exact ⟨rfl, rfl⟩

def c_laws_markIntS : C := (.seq (.reg false (.o 0 4 (.mov (.i 0)) .done)) (.seq (.seq (.reg false (.o 0 5 (.mov (.i 0)) .done)) (.block 0 (.loop (.seq (.seq (.reg false (.o 0 6 (.mov (.t 5)) (.o 1 7 (.mov (.t 0)) (.o 2 8 (.len (.t 7)) (.o 3 9 (.bin .lss (.t 6) (.t 8)) .done))))) (.cond (.t 9) .skip (.exit 0))) (.seq (.block 1 (.seq (.reg false (.o 0 12 (.mov (.t 0)) (.o 1 13 (.mov (.t 5)) (.o 2 14 (.mov (.t 1)) (.o 3 15 (.iad 1 (.t 12) (.t 13)) (.op 4 [] none none false (.store none (.t 15) (.t 14)) .done)))))) (.reg false (.o 0 16 (.mov (.t 1)) (.o 1 17 (.bin .add (.t 16) (.i 1)) (.o 2 1 (.mov (.t 17)) .done)))))) (.reg false (.o 0 10 (.mov (.t 5)) (.o 1 11 (.bin .add (.t 10) (.i 1)) (.o 2 5 (.mov (.t 11)) .done))))))))) (.seq (.reg false (.o 0 18 (.mov (.t 1)) (.o 1 4 (.mov (.t 18)) .done))) .ret)))
theorem dg_laws_markIntS : Tryz.f130.body.bind (digC Tryz.prog Tryz.f130.ntmps []) = some c_laws_markIntS := by kernel_rfl
theorem rs_laws_markIntS : resSlots Tryz.prog Tryz.f130 = some [.s 4] := by kernel_rfl
theorem ok_laws_markIntS (a : List Int) (k : Int) (h0 : 0 ≤ k) (hk : k + a.length ≤ 9223372036854775807) :
    FnOK Tryz.prog 130 [.one (.arr false true (encI a)), .one (.d (.sc (.int .i64 k)))] (fun ra os => ra = [.one (.d (.sc (.int .i64 (k + a.length))))] ∧ os.a 0 = encI (marksI a.length k)) := by
  refine FnOK.ofK Tryz.func130 (by kernel_rfl) dg_laws_markIntS rs_laws_markIntS rfl rfl ?_
  delta c_laws_markIntS T.o X.i
  refine kSeq (kReg (kMovC rfl (kDone (kSeq (kSeq (kReg (kMovC rfl (kDone (kBlock ?_)))))))))
  refine kLoop (α := { i : Nat // i ≤ a.length })
    (fun y => ⟨tabSl [(0, .c (.arr 0 0)), (1, .i (k + (y.1 : Int))), (5, .i y.1)], upd (St.init [.one (.arr false true (encI a)), .one (.d (.sc (.int .i64 k)))]).ob 0 ⟨0, y.1, .arr true (encI (marksI y.1 k ++ a.drop y.1))⟩, []⟩) (fun y => a.length - y.1) ⟨0, by simp⟩
    (.tab (upd_self rfl) ⟨.refl _, by simpa using .refl _, .refl _, trivial⟩) ?_
  rintro ⟨i, hi⟩
  simp only
  have hlen : (marksI i k ++ a.drop i).length = a.length := by simp [marksI_len]; omega
  rcases Nat.lt_or_ge i a.length with hlt | hge
  · refine kSeq (kSeq (kReg (kMovC rfl (kMovC rfl (kLenR rfl rfl (kBin rfl rfl rfl (kDone (kCondP rfl (fun g0 => kSkip (kSeq (kBlock (kSeq (kReg (kMovC rfl (kMovC rfl (kMovC rfl (kIadAR rfl rfl rfl rfl (by omega) (kStoreER rfl rfl rfl rfl rfl rfl rfl (by omega) rfl (kDone (kReg (kMovC rfl (kAdd rfl rfl (by omega) (kMovC rfl (kDone (kBk (kReg (kMovC rfl (kAdd rfl rfl (by omega) (kMovC rfl (kDone ?_)))))))))))))))))))))) (fun g0 => (by omega))))))))))
    refine kInv ⟨⟨i + 1, hlt⟩, by simp only; omega, .tab ?_ ⟨.refl _, ?_, .refl _, trivial⟩⟩
    · show _ = upd (upd _ 0 _) 0 _
      rw [upd_upd]
      refine congrArg (upd _ _) ?_
      rw [marksI_succ]
      exact congrArg (fun z => Ob.mk 0 (i + 1) (OK.arr true (encI z))) (take_set_succ _ _ _ _ hlt (marksI_len i k)).symm
    · show WkV (.i (k + i + 1)) (.i (k + ((i + 1 : Nat) : Int)))
      rw [show k + ((i + 1 : Nat) : Int) = k + i + 1 by omega]
      exact .refl _
  · refine kSeq (kSeq (kReg (kMovC rfl (kMovC rfl (kLenR rfl rfl (kBin rfl rfl rfl (kDone (kCondP rfl (fun g0 => (by omega)) (fun g0 => kExit (kExC (kExI (kExB (kSeq (kReg (kMovC rfl (kMovC rfl (kDone (kRet (endRetA (ra := [.one (.d _)]) rfl ?_)))))))))))))))))))
    obtain rfl : i = a.length := by omega
    refine ⟨rfl, ?_⟩
    show encI (marksI a.length k ++ a.drop a.length) = _
    simp

def c_laws_markRrS : C := (.seq (.reg false (.o 0 4 (.mov (.i 0)) .done)) (.seq (.seq (.reg false (.o 0 5 (.mov (.i 0)) .done)) (.block 0 (.loop (.seq (.seq (.reg false (.o 0 6 (.mov (.t 5)) (.o 1 7 (.mov (.t 0)) (.o 2 8 (.len (.t 7)) (.o 3 9 (.bin .lss (.t 6) (.t 8)) .done))))) (.cond (.t 9) .skip (.exit 0))) (.seq (.block 1 (.seq (.reg false (.o 0 12 (.mov (.t 0)) (.o 1 13 (.mov (.t 5)) (.o 2 14 (.iad 7 (.t 12) (.t 13)) (.o 3 15 (.fad (.t 14) 0) (.o 4 16 (.fad (.t 15) 0) (.o 5 17 (.load none (.t 16)) (.o 6 18 (.mov (.t 1)) (.o 7 19 (.call 19 113 [(.t 17), (.t 18)]) (.o 8 1 (.mov (.t 19)) .done)))))))))) (.seq (.reg false (.o 0 20 (.mov (.t 0)) (.o 1 21 (.mov (.t 5)) (.o 2 22 (.mov (.t 1)) (.o 3 23 (.iad 7 (.t 20) (.t 21)) (.o 4 24 (.fad (.t 23) 1) (.op 5 [] none none false (.store none (.t 24) (.t 22)) .done))))))) (.seq (.reg false (.o 0 25 (.mov (.t 1)) (.o 1 26 (.bin .add (.t 25) (.i 1)) (.o 2 1 (.mov (.t 26)) .done)))) (.seq (.reg false (.o 0 27 (.mov (.t 0)) (.o 1 28 (.mov (.t 5)) (.o 2 29 (.mov (.t 1)) (.o 3 30 (.iad 7 (.t 27) (.t 28)) (.o 4 31 (.fad (.t 30) 2) (.op 5 [] none none false (.store none (.t 31) (.t 29)) .done))))))) (.seq (.reg false (.o 0 32 (.mov (.t 1)) (.o 1 33 (.bin .add (.t 32) (.i 1)) (.o 2 1 (.mov (.t 33)) .done)))) (.seq (.reg false (.o 0 34 (.mov (.t 0)) (.o 1 35 (.mov (.t 5)) (.o 2 36 (.mov (.t 1)) (.o 3 37 (.iad 7 (.t 34) (.t 35)) (.o 4 38 (.fad (.t 37) 3) (.op 5 [] none none false (.store none (.t 38) (.t 36)) .done))))))) (.seq (.reg false (.o 0 39 (.mov (.t 1)) (.o 1 40 (.bin .add (.t 39) (.i 1)) (.o 2 1 (.mov (.t 40)) .done)))) (.seq (.reg false (.o 0 41 (.mov (.t 0)) (.o 1 42 (.mov (.t 5)) (.o 2 43 (.iad 7 (.t 41) (.t 42)) (.o 3 44 (.fad (.t 43) 4) (.o 4 45 (.fad (.t 44) 0) (.o 5 46 (.load none (.t 45)) (.o 6 47 (.mov (.t 1)) (.o 7 48 (.call 48 113 [(.t 46), (.t 47)]) (.o 8 1 (.mov (.t 48)) .done)))))))))) (.seq (.reg false (.o 0 49 (.mov (.t 0)) (.o 1 50 (.mov (.t 5)) (.o 2 51 (.iad 7 (.t 49) (.t 50)) (.o 3 52 (.fad (.t 51) 5) (.o 4 53 (.load none (.t 52)) (.o 5 54 (.mov (.t 1)) (.o 6 55 (.call 55 159 [(.t 53), (.t 54)]) (.o 7 1 (.mov (.t 55)) .done))))))))) (.reg false (.o 0 56 (.mov (.t 0)) (.o 1 57 (.mov (.t 5)) (.o 2 58 (.iad 7 (.t 56) (.t 57)) (.o 3 59 (.fad (.t 58) 6) (.o 4 60 (.load none (.t 59)) (.o 5 61 (.mov (.t 1)) (.o 6 62 (.call 62 130 [(.t 60), (.t 61)]) (.o 7 1 (.mov (.t 62)) .done))))))))))))))))))) (.reg false (.o 0 10 (.mov (.t 5)) (.o 1 11 (.bin .add (.t 10) (.i 1)) (.o 2 5 (.mov (.t 11)) .done))))))))) (.seq (.reg false (.o 0 63 (.mov (.t 1)) (.o 1 4 (.mov (.t 63)) .done))) .ret)))
theorem dg_laws_markRrS : Tryz.f62.body.bind (digC Tryz.prog Tryz.f62.ntmps []) = some c_laws_markRrS := by kernel_rfl
theorem rs_laws_markRrS : resSlots Tryz.prog Tryz.f62 = some [.s 4] := by kernel_rfl
theorem ok_laws_markRrS (l : List Rr) (k : Int) (h0 : 0 ≤ k) (hk : k + cntRs l ≤ 9223372036854775807) (hs : SmallRs l) :
    FnOK Tryz.prog 62 [.one (.arr false true (encR l)), .one (.d (.sc (.int .i64 k)))] (fun ra os => ra = [.one (.d (.sc (.int .i64 (k + cntRs l))))] ∧ os.a 0 = encR (markRs l k)) := by
  refine FnOK.ofK Tryz.func62 (by kernel_rfl) dg_laws_markRrS rs_laws_markRrS rfl rfl ?_
  delta c_laws_markRrS T.o X.i
  have h1 := hs.len
  refine kSeq (kReg (kMovC rfl (kDone (kSeq (kSeq (kReg (kMovC rfl (kDone (kBlock ?_)))))))))
  generalize hF : (St.init [.one (.arr false true (encR l)), .one (.d (.sc (.int .i64 k)))]).ob = F
  refine kLoop (α := { i : Nat // i ≤ l.length })
    (fun y => ⟨tabSl [(0, .c (.arr 0 0)), (1, .i (k + (cntRs (l.take y.1) : Int))), (5, .i y.1)], upd F 0 ⟨0, 7 * y.1, .arr true (encR (markRs (l.take y.1) k ++ l.drop y.1))⟩, []⟩) (fun y => l.length - y.1) ⟨0, by simp⟩
    (.tab (by subst hF; exact upd_self rfl) ⟨.refl _, by simpa using .refl _, .refl _, trivial⟩) ?_
  rintro ⟨i, hi⟩
  simp only
  have hlen : (markRs (l.take i) k).length = i := by rw [markRs_len]; simp; omega
  have hlen' : (markRs (l.take i) k ++ l.drop i).length = l.length := by simp [hlen]; omega
  have hle := cntRs_le l i
  have hle2 := cntRs_le l (i + 1)
  rcases Nat.lt_or_ge i l.length with hlt | hge
  · have hbi := hs.mem _ (List.getElem_mem hlt)
    have hsuc := cntRs_take l i hlt
    have hget : (markRs (l.take i) k ++ l.drop i)[i]'(by omega) = l[i] := by
      rw [List.getElem_append_right (by omega)]; simp [hlen]
    have hset := set_self (markRs (l.take i) k ++ l.drop i) i (by omega)
    rw [hget] at hset
    have hfin : ∀ R : Rr, R = markR l[i] (k + cntRs (l.take i)) → (markRs (l.take i) k ++ l.drop i).set i R = markRs (l.take (i + 1)) k ++ l.drop (i + 1) := by
      rintro R rfl
      rw [take_set_succ _ _ _ _ hlt hlen, ← List.take_append_getElem hlt, markRs_append]
    have hc : cntR l[i] = l[i].name.flatten.length + 3 + l[i].to.flatten.length + l[i].text.length + l[i].nums.length := rfl
    clear hget
    revert hset hfin hlen'
    generalize markRs (l.take i) k ++ l.drop i = L
    generalize hr : l[i] = r at hc hbi hsuc
    generalize hK : k + (cntRs (l.take i) : Int) = K
    intro hlen' hset hfin
    have n1 := hbi.n.len
    have t1 := hbi.t.len
    have x1 := hbi.x
    have m1 := hbi.m
    have hiL : i < L.length := by omega
    have hKn : 0 ≤ K := by omega
    have hKm : K + cntR r ≤ 9223372036854775807 := by omega
    refine kSub (t := ⟨tabSl [(0, .c (.arr 0 0)), (1, .i (K)), (5, .i i)], upd F 0 ⟨0, 7 * i, .arr true (encR (L.set i r))⟩, []⟩) (.tab (by rw [hset]) ⟨.refl _, .refl _, .refl _, trivial⟩) ?_
    refine kSeq (kSeq (kReg (kMovC rfl (kMovC rfl (kLen rfl rfl rfl (kBin rfl rfl rfl (kDone ?_)))))))
    rw [len_encR, List.length_set]
    refine kCond rfl (fun h1 => ?_) (fun h1 => by exfalso; simp at h1; omega)
    refine kSkip (kSeq (kBlock ?_))
    refine kSeq (kReg ?_)
    refine kMovC rfl (kMovC rfl (kIadA rfl rfl rfl rfl ?_ ?_))
    · rw [len_encR, List.length_set]; omega
    refine kFadE rfl rfl (kFadE rfl rfl (?_))
    refine kLoadE rfl rfl (v := .c (.sub 0 0 (7 * i) i 0)) ?_ (kMovC rfl ?_)
    · show pickCells none (AC.ofCells 0 0 (7 * i) i 0 (((encR (L.set i ⟨r.name, r.ty, r.ttl, r.addr, r.to, r.text, r.nums⟩)).row i).drop 0)) = _
      rw [row_encRS _ _ _ hiL]
      rfl
    refine kCallS (ok_laws_markByteSS r.name K (by omega) (by omega) n1) rfl ⟨⟨rfl, rfl, rfl, rfl, rfl, rfl, (at_encRS L i 0 ⟨r.name, r.ty, r.ttl, r.addr, r.to, r.text, r.nums⟩ hiL).symm, rfl⟩, rfl, trivial⟩ ?_ rfl ?_
    · simp [encR, DV.rows]; omega
    rintro ra os ⟨rfl, ho⟩
    refine ⟨_, rfl, ?_⟩
    refine kMovC rfl (kDone ?_)
    refine kSub (t := ⟨tabSl [(0, .c (.arr 0 0)), (1, .i (K + (r.name.flatten.length : Int))), (5, .i i)], upd F 0 ⟨0, (7 * i + 1), .arr true (encR (L.set i ⟨markss r.name (K), r.ty, r.ttl, r.addr, r.to, r.text, r.nums⟩))⟩, []⟩) (.tab ?_ ⟨.refl _, .refl _, .refl _, trivial⟩) ?_
    · refine Eq.trans ?_ (upd_upd _ _ _ _).symm
      refine congrArg (upd _ _) ?_
      show _ = Ob.mk _ _ (OK.arr _ ((encR (L.set i ⟨r.name, r.ty, r.ttl, r.addr, r.to, r.text, r.nums⟩)).setCell i 0 (os.a 0)))
      rw [ho, setCell_encRS L i 0 ⟨r.name, r.ty, r.ttl, r.addr, r.to, r.text, r.nums⟩ ⟨markss r.name (K), r.ty, r.ttl, r.addr, r.to, r.text, r.nums⟩ _ hiL rfl]
      try rfl
    refine kSeq (kReg ?_)
    refine kMovC rfl (kMovC rfl (kMovC rfl (kIadA rfl rfl rfl rfl ?_ (kFadE rfl rfl ?_))))
    · rw [len_encR, List.length_set]; omega
    refine kStoreE1 rfl rfl rfl rfl (by simp [encR, DV.esz]) (kDone ?_)
    refine kSub (t := ⟨tabSl [(0, .c (.arr 0 0)), (1, .i (K + (r.name.flatten.length : Int))), (5, .i i)], upd F 0 ⟨0, (7 * i + 2), .arr true (encR (L.set i ⟨markss r.name (K), (K + (r.name.flatten.length : Int)), r.ttl, r.addr, r.to, r.text, r.nums⟩))⟩, []⟩) (.tab ?_ ⟨.refl _, .refl _, .refl _, trivial⟩) ?_
    · refine Eq.trans ?_ (upd_upd _ _ _ _).symm
      refine congrArg (upd _ _) ?_
      show _ = Ob.mk _ _ (OK.arr _ (setRow (encR (L.set i ⟨markss r.name (K), r.ty, r.ttl, r.addr, r.to, r.text, r.nums⟩)) i 1 _))
      rw [setRow_encRS L i 1 ⟨markss r.name (K), r.ty, r.ttl, r.addr, r.to, r.text, r.nums⟩ ⟨markss r.name (K), (K + (r.name.flatten.length : Int)), r.ttl, r.addr, r.to, r.text, r.nums⟩ _ hiL rfl]
      try rfl
    refine kSeq (kReg (kMovC rfl (kAdd rfl rfl (by omega) (kMovC rfl (kDone ?_)))))
    refine kSeq (kReg ?_)
    refine kMovC rfl (kMovC rfl (kMovC rfl (kIadA rfl rfl rfl rfl ?_ (kFadE rfl rfl ?_))))
    · rw [len_encR, List.length_set]; omega
    refine kStoreE1 rfl rfl rfl rfl (by simp [encR, DV.esz]) (kDone ?_)
    refine kSub (t := ⟨tabSl [(0, .c (.arr 0 0)), (1, .i (K + (r.name.flatten.length : Int) + 1)), (5, .i i)], upd F 0 ⟨0, (7 * i + 3), .arr true (encR (L.set i ⟨markss r.name (K), (K + (r.name.flatten.length : Int)), (K + (r.name.flatten.length : Int) + 1), r.addr, r.to, r.text, r.nums⟩))⟩, []⟩) (.tab ?_ ⟨.refl _, .refl _, .refl _, trivial⟩) ?_
    · refine Eq.trans ?_ (upd_upd _ _ _ _).symm
      refine congrArg (upd _ _) ?_
      show _ = Ob.mk _ _ (OK.arr _ (setRow (encR (L.set i ⟨markss r.name (K), (K + (r.name.flatten.length : Int)), r.ttl, r.addr, r.to, r.text, r.nums⟩)) i 2 _))
      rw [setRow_encRS L i 2 ⟨markss r.name (K), (K + (r.name.flatten.length : Int)), r.ttl, r.addr, r.to, r.text, r.nums⟩ ⟨markss r.name (K), (K + (r.name.flatten.length : Int)), (K + (r.name.flatten.length : Int) + 1), r.addr, r.to, r.text, r.nums⟩ _ hiL rfl]
      try rfl
    refine kSeq (kReg (kMovC rfl (kAdd rfl rfl (by omega) (kMovC rfl (kDone ?_)))))
    refine kSeq (kReg ?_)
    refine kMovC rfl (kMovC rfl (kMovC rfl (kIadA rfl rfl rfl rfl ?_ (kFadE rfl rfl ?_))))
    · rw [len_encR, List.length_set]; omega
    refine kStoreE1 rfl rfl rfl rfl (by simp [encR, DV.esz]) (kDone ?_)
    refine kSub (t := ⟨tabSl [(0, .c (.arr 0 0)), (1, .i (K + (r.name.flatten.length : Int) + 1 + 1)), (5, .i i)], upd F 0 ⟨0, (7 * i + 4), .arr true (encR (L.set i ⟨markss r.name (K), (K + (r.name.flatten.length : Int)), (K + (r.name.flatten.length : Int) + 1), (K + (r.name.flatten.length : Int) + 1 + 1), r.to, r.text, r.nums⟩))⟩, []⟩) (.tab ?_ ⟨.refl _, .refl _, .refl _, trivial⟩) ?_
    · refine Eq.trans ?_ (upd_upd _ _ _ _).symm
      refine congrArg (upd _ _) ?_
      show _ = Ob.mk _ _ (OK.arr _ (setRow (encR (L.set i ⟨markss r.name (K), (K + (r.name.flatten.length : Int)), (K + (r.name.flatten.length : Int) + 1), r.addr, r.to, r.text, r.nums⟩)) i 3 _))
      rw [setRow_encRS L i 3 ⟨markss r.name (K), (K + (r.name.flatten.length : Int)), (K + (r.name.flatten.length : Int) + 1), r.addr, r.to, r.text, r.nums⟩ ⟨markss r.name (K), (K + (r.name.flatten.length : Int)), (K + (r.name.flatten.length : Int) + 1), (K + (r.name.flatten.length : Int) + 1 + 1), r.to, r.text, r.nums⟩ _ hiL rfl]
      try rfl
    refine kSeq (kReg (kMovC rfl (kAdd rfl rfl (by omega) (kMovC rfl (kDone ?_)))))
    refine kSeq (kReg ?_)
    refine kMovC rfl (kMovC rfl (kIadA rfl rfl rfl rfl ?_ ?_))
    · rw [len_encR, List.length_set]; omega
    refine kFadE rfl rfl (kFadE rfl rfl (?_))
    refine kLoadE rfl rfl (v := .c (.sub 0 0 (7 * i + 4) i 4)) ?_ (kMovC rfl ?_)
    · show pickCells none (AC.ofCells 0 0 (7 * i + 4) i 4 (((encR (L.set i ⟨markss r.name (K), (K + (r.name.flatten.length : Int)), (K + (r.name.flatten.length : Int) + 1), (K + (r.name.flatten.length : Int) + 1 + 1), r.to, r.text, r.nums⟩)).row i).drop 4)) = _
      rw [row_encRS _ _ _ hiL]
      rfl
    refine kCallS (ok_laws_markByteSS r.to _ (by omega) (by omega) t1) rfl ⟨⟨rfl, rfl, rfl, rfl, rfl, rfl, (at_encRS L i 4 ⟨markss r.name (K), (K + (r.name.flatten.length : Int)), (K + (r.name.flatten.length : Int) + 1), (K + (r.name.flatten.length : Int) + 1 + 1), r.to, r.text, r.nums⟩ hiL).symm, rfl⟩, rfl, trivial⟩ ?_ rfl ?_
    · simp [encR, DV.rows]; omega
    rintro ra os ⟨rfl, ho⟩
    refine ⟨_, rfl, ?_⟩
    refine kMovC rfl (kDone ?_)
    refine kSub (t := ⟨tabSl [(0, .c (.arr 0 0)), (1, .i (K + (r.name.flatten.length : Int) + 1 + 1 + 1 + (r.to.flatten.length : Int))), (5, .i i)], upd F 0 ⟨0, (7 * i + 5), .arr true (encR (L.set i ⟨markss r.name (K), (K + (r.name.flatten.length : Int)), (K + (r.name.flatten.length : Int) + 1), (K + (r.name.flatten.length : Int) + 1 + 1), markss r.to (K + (r.name.flatten.length : Int) + 1 + 1 + 1), r.text, r.nums⟩))⟩, []⟩) (.tab ?_ ⟨.refl _, .refl _, .refl _, trivial⟩) ?_
    · refine Eq.trans ?_ (upd_upd _ _ _ _).symm
      refine congrArg (upd _ _) ?_
      show _ = Ob.mk _ _ (OK.arr _ ((encR (L.set i ⟨markss r.name (K), (K + (r.name.flatten.length : Int)), (K + (r.name.flatten.length : Int) + 1), (K + (r.name.flatten.length : Int) + 1 + 1), r.to, r.text, r.nums⟩)).setCell i 4 (os.a 0)))
      rw [ho, setCell_encRS L i 4 ⟨markss r.name (K), (K + (r.name.flatten.length : Int)), (K + (r.name.flatten.length : Int) + 1), (K + (r.name.flatten.length : Int) + 1 + 1), r.to, r.text, r.nums⟩ ⟨markss r.name (K), (K + (r.name.flatten.length : Int)), (K + (r.name.flatten.length : Int) + 1), (K + (r.name.flatten.length : Int) + 1 + 1), markss r.to (K + (r.name.flatten.length : Int) + 1 + 1 + 1), r.text, r.nums⟩ _ hiL rfl]
      try rfl
    refine kSeq (kReg ?_)
    refine kMovC rfl (kMovC rfl (kIadA rfl rfl rfl rfl ?_ ?_))
    · rw [len_encR, List.length_set]; omega
    refine kFadE rfl rfl (?_)
    refine kLoadE rfl rfl (v := .c (.sub 0 0 (7 * i + 5) i 5)) ?_ (kMovC rfl ?_)
    · show pickCells none (AC.ofCells 0 0 (7 * i + 5) i 5 (((encR (L.set i ⟨markss r.name (K), (K + (r.name.flatten.length : Int)), (K + (r.name.flatten.length : Int) + 1), (K + (r.name.flatten.length : Int) + 1 + 1), markss r.to (K + (r.name.flatten.length : Int) + 1 + 1 + 1), r.text, r.nums⟩)).row i).drop 5)) = _
      rw [row_encRS _ _ _ hiL]
      rfl
    refine kCallS (ok_laws_markByteS r.text _ (by omega) (by omega)) rfl ⟨⟨rfl, rfl, rfl, rfl, rfl, rfl, (at_encRS L i 5 ⟨markss r.name (K), (K + (r.name.flatten.length : Int)), (K + (r.name.flatten.length : Int) + 1), (K + (r.name.flatten.length : Int) + 1 + 1), markss r.to (K + (r.name.flatten.length : Int) + 1 + 1 + 1), r.text, r.nums⟩ hiL).symm, rfl⟩, rfl, trivial⟩ ?_ rfl ?_
    · simp [encR, DV.rows]; omega
    rintro ra os ⟨rfl, ho⟩
    refine ⟨_, rfl, ?_⟩
    refine kMovC rfl (kDone ?_)
    refine kSub (t := ⟨tabSl [(0, .c (.arr 0 0)), (1, .i (K + (r.name.flatten.length : Int) + 1 + 1 + 1 + (r.to.flatten.length : Int) + (r.text.length : Int))), (5, .i i)], upd F 0 ⟨0, (7 * i + 6), .arr true (encR (L.set i ⟨markss r.name (K), (K + (r.name.flatten.length : Int)), (K + (r.name.flatten.length : Int) + 1), (K + (r.name.flatten.length : Int) + 1 + 1), markss r.to (K + (r.name.flatten.length : Int) + 1 + 1 + 1), marks r.text.length (K + (r.name.flatten.length : Int) + 1 + 1 + 1 + (r.to.flatten.length : Int)), r.nums⟩))⟩, []⟩) (.tab ?_ ⟨.refl _, .refl _, .refl _, trivial⟩) ?_
    · refine Eq.trans ?_ (upd_upd _ _ _ _).symm
      refine congrArg (upd _ _) ?_
      show _ = Ob.mk _ _ (OK.arr _ ((encR (L.set i ⟨markss r.name (K), (K + (r.name.flatten.length : Int)), (K + (r.name.flatten.length : Int) + 1), (K + (r.name.flatten.length : Int) + 1 + 1), markss r.to (K + (r.name.flatten.length : Int) + 1 + 1 + 1), r.text, r.nums⟩)).setCell i 5 (os.a 0)))
      rw [ho, setCell_encRS L i 5 ⟨markss r.name (K), (K + (r.name.flatten.length : Int)), (K + (r.name.flatten.length : Int) + 1), (K + (r.name.flatten.length : Int) + 1 + 1), markss r.to (K + (r.name.flatten.length : Int) + 1 + 1 + 1), r.text, r.nums⟩ ⟨markss r.name (K), (K + (r.name.flatten.length : Int)), (K + (r.name.flatten.length : Int) + 1), (K + (r.name.flatten.length : Int) + 1 + 1), markss r.to (K + (r.name.flatten.length : Int) + 1 + 1 + 1), marks r.text.length (K + (r.name.flatten.length : Int) + 1 + 1 + 1 + (r.to.flatten.length : Int)), r.nums⟩ _ hiL rfl]
      try rfl
    refine kReg ?_
    refine kMovC rfl (kMovC rfl (kIadA rfl rfl rfl rfl ?_ ?_))
    · rw [len_encR, List.length_set]; omega
    refine kFadE rfl rfl (?_)
    refine kLoadE rfl rfl (v := .c (.sub 0 0 (7 * i + 6) i 6)) ?_ (kMovC rfl ?_)
    · show pickCells none (AC.ofCells 0 0 (7 * i + 6) i 6 (((encR (L.set i ⟨markss r.name (K), (K + (r.name.flatten.length : Int)), (K + (r.name.flatten.length : Int) + 1), (K + (r.name.flatten.length : Int) + 1 + 1), markss r.to (K + (r.name.flatten.length : Int) + 1 + 1 + 1), marks r.text.length (K + (r.name.flatten.length : Int) + 1 + 1 + 1 + (r.to.flatten.length : Int)), r.nums⟩)).row i).drop 6)) = _
      rw [row_encRS _ _ _ hiL]
      rfl
    refine kCallS (ok_laws_markIntS r.nums _ (by omega) (by omega)) rfl ⟨⟨rfl, rfl, rfl, rfl, rfl, rfl, (at_encRS L i 6 ⟨markss r.name (K), (K + (r.name.flatten.length : Int)), (K + (r.name.flatten.length : Int) + 1), (K + (r.name.flatten.length : Int) + 1 + 1), markss r.to (K + (r.name.flatten.length : Int) + 1 + 1 + 1), marks r.text.length (K + (r.name.flatten.length : Int) + 1 + 1 + 1 + (r.to.flatten.length : Int)), r.nums⟩ hiL).symm, rfl⟩, rfl, trivial⟩ ?_ rfl ?_
    · simp [encR, DV.rows]; omega
    rintro ra os ⟨rfl, ho⟩
    refine ⟨_, rfl, ?_⟩
    refine kMovC rfl (kDone (kBk ?_))
    refine kSub (t := ⟨tabSl [(0, .c (.arr 0 0)), (1, .i (K + (r.name.flatten.length : Int) + 1 + 1 + 1 + (r.to.flatten.length : Int) + (r.text.length : Int) + (r.nums.length : Int))), (5, .i i)], upd F 0 ⟨0, (7 * i + 7), .arr true (encR (L.set i ⟨markss r.name (K), (K + (r.name.flatten.length : Int)), (K + (r.name.flatten.length : Int) + 1), (K + (r.name.flatten.length : Int) + 1 + 1), markss r.to (K + (r.name.flatten.length : Int) + 1 + 1 + 1), marks r.text.length (K + (r.name.flatten.length : Int) + 1 + 1 + 1 + (r.to.flatten.length : Int)), marksI r.nums.length (K + (r.name.flatten.length : Int) + 1 + 1 + 1 + (r.to.flatten.length : Int) + (r.text.length : Int))⟩))⟩, []⟩) (.tab ?_ ⟨.refl _, .refl _, .refl _, trivial⟩) ?_
    · refine Eq.trans ?_ (upd_upd _ _ _ _).symm
      refine congrArg (upd _ _) ?_
      show _ = Ob.mk _ _ (OK.arr _ ((encR (L.set i ⟨markss r.name (K), (K + (r.name.flatten.length : Int)), (K + (r.name.flatten.length : Int) + 1), (K + (r.name.flatten.length : Int) + 1 + 1), markss r.to (K + (r.name.flatten.length : Int) + 1 + 1 + 1), marks r.text.length (K + (r.name.flatten.length : Int) + 1 + 1 + 1 + (r.to.flatten.length : Int)), r.nums⟩)).setCell i 6 (os.a 0)))
      rw [ho, setCell_encRS L i 6 ⟨markss r.name (K), (K + (r.name.flatten.length : Int)), (K + (r.name.flatten.length : Int) + 1), (K + (r.name.flatten.length : Int) + 1 + 1), markss r.to (K + (r.name.flatten.length : Int) + 1 + 1 + 1), marks r.text.length (K + (r.name.flatten.length : Int) + 1 + 1 + 1 + (r.to.flatten.length : Int)), r.nums⟩ ⟨markss r.name (K), (K + (r.name.flatten.length : Int)), (K + (r.name.flatten.length : Int) + 1), (K + (r.name.flatten.length : Int) + 1 + 1), markss r.to (K + (r.name.flatten.length : Int) + 1 + 1 + 1), marks r.text.length (K + (r.name.flatten.length : Int) + 1 + 1 + 1 + (r.to.flatten.length : Int)), marksI r.nums.length (K + (r.name.flatten.length : Int) + 1 + 1 + 1 + (r.to.flatten.length : Int) + (r.text.length : Int))⟩ _ hiL rfl]
      try rfl
    rw [hfin _ (by rw [← hr, ← hK]; rfl)]
    refine kReg (kMovC rfl (kAdd rfl rfl (by omega) (kMovC rfl (kDone (kInv ?_)))))
    refine ⟨⟨i + 1, hlt⟩, by simp only; omega, .tab rfl ⟨.refl _, ?_, .refl _, trivial⟩⟩
    refine Eq.mp (congrArg (fun z => WkV _ (.i z)) ?_) (.refl _)
    show _ = k + ((cntRs (l.take (i + 1)) : Nat) : Int)
    omega
  · refine kSeq (kSeq (kReg (kMovC rfl (kMovC rfl (kLen rfl rfl rfl (kBin rfl rfl rfl (kDone ?_)))))))
    rw [len_encR, hlen']
    refine kCond rfl (fun h1 => by exfalso; simp at h1; omega) (fun h1 => ?_)
    refine kExit (kExC (kExI (kExB ?_)))
    obtain rfl : i = l.length := by omega
    refine kSeq (kReg (kMovC rfl (kMovC rfl (kDone (kRet ?_)))))
    subst hF
    refine endRet (ra := [.one (.d _)]) rfl ⟨⟨⟨rfl, .inl rfl⟩, trivial⟩, .nil, ⟨rfl, fun _ => rfl, rfl⟩, trivial, trivial⟩ ?_
    refine ⟨by simp, ?_⟩
    show encR (markRs (l.take l.length) k ++ l.drop l.length) = _
    simp


def c_laws_markTask : C := (.seq (.reg false (.o 0 2 (.box 2 (.t 0)) (.o 1 4 (.mov (.i 0)) .done))) (.seq (.reg false (.o 0 5 (.fad (.t 2) 2) (.o 1 6 (.load (some 2) (.t 5)) (.o 2 7 (.mov (.t 1)) (.o 3 8 (.call 8 129 [(.t 6), (.t 7)]) (.o 4 1 (.mov (.t 8)) .done)))))) (.seq (.reg false (.o 0 9 (.fad (.t 2) 4) (.o 1 10 (.load (some 1) (.t 9)) (.o 2 11 (.mov (.t 1)) (.o 3 12 (.call 12 61 [(.t 10), (.t 11)]) (.o 4 1 (.mov (.t 12)) .done)))))) (.seq (.reg false (.o 0 13 (.fad (.t 2) 5) (.o 1 14 (.load (some 1) (.t 13)) (.o 2 15 (.mov (.t 1)) (.o 3 16 (.call 16 61 [(.t 14), (.t 15)]) (.o 4 1 (.mov (.t 16)) .done)))))) (.seq (.reg false (.o 0 17 (.fad (.t 2) 6) (.o 1 18 (.load none (.t 17)) (.o 2 19 (.mov (.t 1)) (.o 3 20 (.call 20 130 [(.t 18), (.t 19)]) (.o 4 1 (.mov (.t 20)) .done)))))) (.seq (.reg false (.o 0 21 (.fad (.t 2) 7) (.o 1 22 (.load none (.t 21)) (.o 2 23 (.mov (.t 1)) (.o 3 24 (.call 24 130 [(.t 22), (.t 23)]) (.o 4 1 (.mov (.t 24)) .done)))))) (.seq (.reg false (.o 0 25 (.fad (.t 2) 12) (.o 1 26 (.load none (.t 25)) (.o 2 27 (.mov (.t 1)) (.o 3 28 (.call 28 62 [(.t 26), (.t 27)]) (.o 4 1 (.mov (.t 28)) .done)))))) (.seq (.reg false (.o 0 29 (.mov (.t 1)) (.o 1 4 (.mov (.t 29)) .done))) .ret))))))))
theorem dg_laws_markTask : Tryz.f45.body.bind (digC Tryz.prog Tryz.f45.ntmps []) = some c_laws_markTask := by kernel_rfl
theorem rs_laws_markTask : resSlots Tryz.prog Tryz.f45 = some [.s 4] := by kernel_rfl
theorem ok_laws_markTask (t : Task) (k : Int) (h0 : 0 ≤ k) (hk : k + cntT t ≤ 9223372036854775807) (hs : SmallT t) :
    FnOK Tryz.prog 45 [.agg [.d (.sc (.int .i64 t.state)), .d (.sc (.int .i64 t.id)), .arr false true (encBB t.fname), .d (.sc (.int .i64 t.ftype)), .arr false true (encBB t.name), .arr false true (encBB t.zone), .arr false true (encI t.hints), .arr false true (encI t.servers), .d (.sc (.int .i64 t.turn)), .d (.sc (.int .i64 t.sends)), .d (.sc (.int .i64 t.steps)), .d (.sc (.int .i64 t.code)), .arr false true (encR t.answers)], .one (.d (.sc (.int .i64 k)))] (fun ra os => ra = [.one (.d (.sc (.int .i64 (k + cntT t))))] ∧ outsAre [(2, encBB (markT t k).fname), (4, encBB (markT t k).name), (5, encBB (markT t k).zone), (6, encI (markT t k).hints), (7, encI (markT t k).servers), (12, encR (markT t k).answers)] os) := by
  refine FnOK.ofK Tryz.func45 (by kernel_rfl) dg_laws_markTask rs_laws_markTask rfl rfl ?_
  delta c_laws_markTask T.o X.i
  have n1 := hs.n.len
  have n2 := hs.n.mem
  have f1 := hs.f.len
  have f2 := hs.f.mem
  have z1 := hs.z.len
  have z2 := hs.z.mem
  have h1 := hs.h
  have s1 := hs.s
  have a1 := hs.a
  have hc := cntT_eq t k
  refine kSeq (kReg (kBox rfl rfl rfl rfl rfl (kMovC rfl (kDone (kSeq (kReg (kFadP rfl rfl (kLoadP rfl rfl rfl (kMovC rfl (kCallA (ok_laws_markQuestion _ _ _ pr pr pr) ⟨⟨⟨⟨_, rfl, .inl rfl⟩, rfl, trivial⟩, leb⟩, rfl, trivial⟩ rfl rfl rfl rfl (kMovC rfl (kDone (kSeq (kReg (kFadP rfl rfl (kLoadP rfl rfl rfl (kMovC rfl (kCallA (ok_laws_markName _ _ pr pr pr) ⟨⟨⟨⟨_, rfl, .inl rfl⟩, trivial⟩, leb⟩, rfl, trivial⟩ rfl rfl rfl rfl (kMovC rfl (kDone (kSeq (kReg (kFadP rfl rfl (kLoadP rfl rfl rfl (kMovC rfl (kCallA (ok_laws_markName _ _ pr pr pr) ⟨⟨⟨⟨_, rfl, .inl rfl⟩, trivial⟩, leb⟩, rfl, trivial⟩ rfl rfl rfl rfl (kMovC rfl (kDone (kSeq (kReg (kFadP rfl rfl (kLoadP rfl rfl rfl (kMovC rfl (kCallA (ok_laws_markIntS _ _ pr pr) ⟨⟨_, rfl, .inl rfl⟩, rfl, trivial⟩ rfl rfl rfl rfl (kMovC rfl (kDone (kSeq (kReg (kFadP rfl rfl (kLoadP rfl rfl rfl (kMovC rfl (kCallA (ok_laws_markIntS _ _ pr pr) ⟨⟨_, rfl, .inl rfl⟩, rfl, trivial⟩ rfl rfl rfl rfl (kMovC rfl (kDone (kSeq (kReg (kFadP rfl rfl (kLoadP rfl rfl rfl (kMovC rfl (kCallA (ok_laws_markRrS _ _ pr pr pr) ⟨⟨_, rfl, .inl rfl⟩, rfl, trivial⟩ rfl rfl rfl rfl (kMovC rfl (kDone (kSeq (kReg (kMovC rfl (kMovC rfl (kDone (kRet (endRetA (ra := [.one (.d _)]) rfl ?_)))))))))))))))))))))))))))))))))))))))))))))))))))))))))))
  refine ⟨?_, rfl, rfl, rfl, rfl, rfl, rfl, trivial⟩
  rw [hc]

def c_laws_heldByteS : C := (.seq (.reg false (.o 0 4 (.mov (.i 0)) .done)) (.seq (.seq (.reg false (.o 0 5 (.mov (.i 0)) .done)) (.block 0 (.loop (.seq (.seq (.reg false (.o 0 6 (.mov (.t 5)) (.o 1 7 (.mov (.t 0)) (.o 2 8 (.len (.t 7)) (.o 3 9 (.bin .lss (.t 6) (.t 8)) .done))))) (.cond (.t 9) .skip (.exit 0))) (.seq (.block 1 (.seq (.seq (.reg false (.o 0 12 (.mov (.t 0)) (.o 1 13 (.mov (.t 5)) (.o 2 14 (.iad 1 (.t 12) (.t 13)) (.o 3 15 (.load none (.t 14)) (.o 4 16 (.mov (.t 1)) (.o 5 17 (.conv .u8 (.t 16)) (.o 6 18 (.bin .neq (.t 15) (.t 17)) .done)))))))) (.cond (.t 18) (.seq (.reg false (.o 0 4 (.mov (.i (-1))) .done)) .ret) .skip)) (.reg false (.o 0 19 (.mov (.t 1)) (.o 1 20 (.bin .add (.t 19) (.i 1)) (.o 2 1 (.mov (.t 20)) .done)))))) (.reg false (.o 0 10 (.mov (.t 5)) (.o 1 11 (.bin .add (.t 10) (.i 1)) (.o 2 5 (.mov (.t 11)) .done))))))))) (.seq (.reg false (.o 0 21 (.mov (.t 1)) (.o 1 4 (.mov (.t 21)) .done))) .ret)))
theorem dg_laws_heldByteS : Tryz.f160.body.bind (digC Tryz.prog Tryz.f160.ntmps []) = some c_laws_heldByteS := by kernel_rfl
theorem rs_laws_heldByteS : resSlots Tryz.prog Tryz.f160 = some [.s 4] := by kernel_rfl
theorem ok_laws_heldByteS (n : Nat) (k : Int) (h0 : 0 ≤ k) (hk : k + n ≤ 9223372036854775807) :
    FnOK Tryz.prog 160 [.one (.d (encB (marks n k))), .one (.d (.sc (.int .i64 k)))] (fun ra _ => ra = [.one (.d (.sc (.int .i64 (k + n))))]) := by
  refine FnOK.ofK Tryz.func160 (by kernel_rfl) dg_laws_heldByteS rs_laws_heldByteS rfl rfl ?_
  delta c_laws_heldByteS T.o X.i
  have hm := marks_len n k
  refine kSeq (kReg (kMovC rfl (kDone (kSeq (kSeq (kReg (kMovC rfl (kDone (kBlock ?_)))))))))
  refine kLoop (α := { i : Nat // i ≤ n })
    (fun y => ⟨tabSl [(0, .dv (encB (marks n k))), (1, .i (k + y.1)), (5, .i y.1)], obTab 1 [], []⟩) (fun y => n - y.1) ⟨0, by simp⟩
    .normA ?_
  rintro ⟨i, hi⟩
  simp only
  refine kSeq (kSeq (kReg (kMovC rfl (kMovC rfl (kLenR rfl rfl (kBin rfl rfl rfl (kDone (kCondP rfl (fun g0 => kSkip (kSeq (kBlock (kSeq (kSeq (kReg (kMovC rfl (kMovC rfl (kIadR rfl rfl rfl (by omega) (kLoadD rfl rfl (kMovC rfl (kConv rfl (kBin rfl rfl rfl (kDone (kCondN rfl (fun g1 => kSeq (kReg (kMovC rfl (kDone (kRet (endRetA (ra := [.one (.d _)]) rfl ?_)))))) (fun g1 => kSkip (kReg (kMovC rfl (kAdd rfl rfl (by omega) (kMovC rfl (kDone (kBk (kReg (kMovC rfl (kAdd rfl rfl (by omega) (kMovC rfl (kDone ?_))))))))))))))))))))))))))) (fun g0 => kExit (kExC (kExI (kExB (kSeq (kReg (kMovC rfl (kMovC rfl (kDone (kRet (endRetA (ra := [.one (.d _)]) rfl ?_)))))))))))))))))))
  · rw [marks_get, beq_self_eq_true] at g1; cases g1
  · exact kInv ⟨⟨i + 1, by omega⟩, by simp only; omega, .normA⟩
  · rw [show i = n by omega]

def c_laws_heldByteSS : C := (.seq (.reg false (.o 0 4 (.mov (.i 0)) .done)) (.seq (.seq (.reg false (.o 0 5 (.mov (.i 0)) .done)) (.block 0 (.loop (.seq (.seq (.reg false (.o 0 6 (.mov (.t 5)) (.o 1 7 (.mov (.t 0)) (.o 2 8 (.len (.t 7)) (.o 3 9 (.bin .lss (.t 6) (.t 8)) .done))))) (.cond (.t 9) .skip (.exit 0))) (.seq (.block 1 (.seq (.reg false (.o 0 12 (.mov (.t 0)) (.o 1 13 (.mov (.t 5)) (.o 2 14 (.iad 1 (.t 12) (.t 13)) (.o 3 15 (.load none (.t 14)) (.o 4 16 (.mov (.t 1)) (.o 5 17 (.call 17 160 [(.t 15), (.t 16)]) (.o 6 1 (.mov (.t 17)) .done)))))))) (.seq (.reg false (.o 0 18 (.mov (.t 1)) (.o 1 19 (.bin .lss (.t 18) (.i 0)) .done))) (.cond (.t 19) (.seq (.reg false (.o 0 4 (.mov (.i (-1))) .done)) .ret) .skip)))) (.reg false (.o 0 10 (.mov (.t 5)) (.o 1 11 (.bin .add (.t 10) (.i 1)) (.o 2 5 (.mov (.t 11)) .done))))))))) (.seq (.reg false (.o 0 20 (.mov (.t 1)) (.o 1 4 (.mov (.t 20)) .done))) .ret)))
theorem dg_laws_heldByteSS : Tryz.f114.body.bind (digC Tryz.prog Tryz.f114.ntmps []) = some c_laws_heldByteSS := by kernel_rfl
theorem rs_laws_heldByteSS : resSlots Tryz.prog Tryz.f114 = some [.s 4] := by kernel_rfl
theorem ok_laws_heldByteSS (a : List (List UInt8)) (k : Int) (h0 : 0 ≤ k) (hk : k + a.flatten.length ≤ 9223372036854775807) (hl : a.length ≤ 4194304) :
    FnOK Tryz.prog 114 [.one (.d (encBB (markss a k))), .one (.d (.sc (.int .i64 k)))] (fun ra _ => ra = [.one (.d (.sc (.int .i64 (k + a.flatten.length))))]) := by
  refine FnOK.ofK Tryz.func114 (by kernel_rfl) dg_laws_heldByteSS rs_laws_heldByteSS rfl rfl ?_
  delta c_laws_heldByteSS T.o X.i
  have hm := markss_len a k
  refine kSeq (kReg (kMovC rfl (kDone (kSeq (kSeq (kReg (kMovC rfl (kDone (kBlock ?_)))))))))
  refine kLoop (α := { i : Nat // i ≤ a.length })
    (fun y => ⟨tabSl [(0, .dv (encBB (markss a k))), (1, .i (k + (a.take y.1).flatten.length)), (5, .i y.1)], obTab 1 [], []⟩) (fun y => a.length - y.1) ⟨0, by simp⟩
    .normA ?_
  rintro ⟨i, hi⟩
  simp only
  have hsuc : ∀ h : i < a.length, (a.take (i + 1)).flatten.length = (a.take i).flatten.length + a[i].length := take_flat a i
  have hle := flat_le a i
  have hle2 := flat_le a (i + 1)
  refine kSeq (kSeq (kReg (kMovC rfl (kMovC rfl (kLenR rfl rfl (kBin rfl rfl rfl (kDone (kCondP rfl (fun g0 => kSkip (kSeq (kBlock (kSeq (kReg (kMovC rfl (kMovC rfl (kIadR rfl rfl rfl (by omega) (kLoadD rfl rfl (kMovC rfl ?_)))))))))) (fun g0 => kExit (kExC (kExI (kExB (kSeq (kReg (kMovC rfl (kMovC rfl (kDone (kRet (endRetA (ra := [.one (.d _)]) rfl ?_)))))))))))))))))))
  · have hlt : i < a.length := by omega
    have := hsuc hlt
    rw [markss_get a k i (by omega) hlt]
    refine kCall1 true (ok_laws_heldByteS a[i].length (k + (a.take i).flatten.length) (by omega) (by omega)) ⟨rfl, rfl, trivial⟩ rfl rfl rfl (fun _ => ?_)
    refine kMovC rfl (kDone (kSeq (kReg (kMovC rfl (kBin rfl rfl rfl (kDone (kCondP rfl (fun g0 => kSeq (kReg (kMovC rfl (kDone (kRet (endRetA (ra := [.one (.d _)]) rfl ?_)))))) (fun g0 => kSkip (kBk (kReg (kMovC rfl (kAdd rfl rfl (by omega) (kMovC rfl (kDone ?_))))))))))))))
    · omega
    · exact kInv ⟨⟨i + 1, by omega⟩, by simp only; omega, .normA⟩
  · rw [show i = a.length by omega, List.take_length]

def c_laws_heldName : C := (.seq (.reg false (.o 0 2 (.box 2 (.t 0)) (.o 1 4 (.mov (.i 0)) .done))) (.seq (.reg false (.o 0 5 (.fad (.t 2) 0) (.o 1 6 (.load none (.t 5)) (.o 2 7 (.mov (.t 1)) (.o 3 8 (.call 8 114 [(.t 6), (.t 7)]) (.o 4 1 (.mov (.t 8)) .done)))))) (.seq (.seq (.reg false (.o 0 9 (.mov (.t 1)) (.o 1 10 (.bin .lss (.t 9) (.i 0)) .done))) (.cond (.t 10) (.seq (.reg false (.o 0 4 (.mov (.i (-1))) .done)) .ret) .skip)) (.seq (.reg false (.o 0 11 (.mov (.t 1)) (.o 1 4 (.mov (.t 11)) .done))) .ret))))
theorem dg_laws_heldName : Tryz.f132.body.bind (digC Tryz.prog Tryz.f132.ntmps []) = some c_laws_heldName := by kernel_rfl
theorem rs_laws_heldName : resSlots Tryz.prog Tryz.f132 = some [.s 4] := by kernel_rfl
theorem ok_laws_heldName (a : List (List UInt8)) (k : Int) (h0 : 0 ≤ k) (hk : k + a.flatten.length ≤ 9223372036854775807) (hl : a.length ≤ 4194304) :
    FnOK Tryz.prog 132 [.agg [.d (encBB (markss a k))], .one (.d (.sc (.int .i64 k)))] (fun ra _ => ra = [.one (.d (.sc (.int .i64 (k + a.flatten.length))))]) := by
  refine FnOK.ofK Tryz.func132 (by kernel_rfl) dg_laws_heldName rs_laws_heldName rfl rfl ?_
  delta c_laws_heldName T.o X.i
  refine kSeq (kReg (kBox rfl rfl rfl rfl rfl (kMovC rfl (kDone (kSeq (kReg (kFadP rfl rfl (kLoadP rfl rfl rfl (kMovC rfl (kCall1 true (ok_laws_heldByteSS _ _ (by first | assumption | omega | solve_by_elim [List.getElem_mem]) (by first | assumption | omega | solve_by_elim [List.getElem_mem]) (by first | assumption | omega | solve_by_elim [List.getElem_mem])) ⟨rfl, rfl, trivial⟩ rfl rfl rfl (fun _ => (kMovC rfl (kDone (kSeq (kSeq (kReg (kMovC rfl (kBin rfl rfl rfl (kDone (kCondP rfl (fun g0 => (by omega)) (fun g0 => kSkip (kSeq (kReg (kMovC rfl (kMovC rfl (kDone (kRet (endRetA (ra := [.one (.d _)]) rfl rfl))))))))))))))))))))))))))))

def c_laws_heldQuestion : C := (.seq (.reg false (.o 0 2 (.box 2 (.t 0)) (.o 1 4 (.mov (.i 0)) .done))) (.seq (.reg false (.o 0 5 (.fad (.t 2) 0) (.o 1 6 (.load (some 1) (.t 5)) (.o 2 7 (.mov (.t 1)) (.o 3 8 (.call 8 132 [(.t 6), (.t 7)]) (.o 4 1 (.mov (.t 8)) .done)))))) (.seq (.seq (.reg false (.o 0 9 (.mov (.t 1)) (.o 1 10 (.bin .lss (.t 9) (.i 0)) .done))) (.cond (.t 10) (.seq (.reg false (.o 0 4 (.mov (.i (-1))) .done)) .ret) .skip)) (.seq (.reg false (.o 0 11 (.mov (.t 1)) (.o 1 4 (.mov (.t 11)) .done))) .ret))))
theorem dg_laws_heldQuestion : Tryz.f131.body.bind (digC Tryz.prog Tryz.f131.ntmps []) = some c_laws_heldQuestion := by kernel_rfl
theorem rs_laws_heldQuestion : resSlots Tryz.prog Tryz.f131 = some [.s 4] := by kernel_rfl
theorem ok_laws_heldQuestion (a : List (List UInt8)) (t k : Int) (h0 : 0 ≤ k) (hk : k + a.flatten.length ≤ 9223372036854775807) (hl : a.length ≤ 4194304) :
    FnOK Tryz.prog 131 [.agg [.d (encBB (markss a k)), .d (.sc (.int .i64 t))], .one (.d (.sc (.int .i64 k)))] (fun ra _ => ra = [.one (.d (.sc (.int .i64 (k + a.flatten.length))))]) := by
  refine FnOK.ofK Tryz.func131 (by kernel_rfl) dg_laws_heldQuestion rs_laws_heldQuestion rfl rfl ?_
  delta c_laws_heldQuestion T.o X.i
  refine kSeq (kReg (kBox rfl rfl rfl rfl rfl (kMovC rfl (kDone (kSeq (kReg (kFadP rfl rfl (kLoadP rfl rfl rfl (kMovC rfl (kCallD (ok_laws_heldName _ _ pr pr pr) ⟨⟨⟨rfl, trivial⟩, leb⟩, rfl, trivial⟩ rfl rfl rfl rfl rfl (kMovC rfl (kDone (kSeq (kSeq (kReg (kMovC rfl (kBin rfl rfl rfl (kDone (kCondP rfl (fun g0 => (by omega)) (fun g0 => kSkip (kSeq (kReg (kMovC rfl (kMovC rfl (kDone (kRet (endRetA (ra := [.one (.d _)]) rfl rfl)))))))))))))))))))))))))))

def c_laws_heldIntS : C := (.seq (.reg false (.o 0 4 (.mov (.i 0)) .done)) (.seq (.seq (.reg false (.o 0 5 (.mov (.i 0)) .done)) (.block 0 (.loop (.seq (.seq (.reg false (.o 0 6 (.mov (.t 5)) (.o 1 7 (.mov (.t 0)) (.o 2 8 (.len (.t 7)) (.o 3 9 (.bin .lss (.t 6) (.t 8)) .done))))) (.cond (.t 9) .skip (.exit 0))) (.seq (.block 1 (.seq (.seq (.reg false (.o 0 12 (.mov (.t 0)) (.o 1 13 (.mov (.t 5)) (.o 2 14 (.iad 1 (.t 12) (.t 13)) (.o 3 15 (.load none (.t 14)) (.o 4 16 (.mov (.t 1)) (.o 5 17 (.bin .neq (.t 15) (.t 16)) .done))))))) (.cond (.t 17) (.seq (.reg false (.o 0 4 (.mov (.i (-1))) .done)) .ret) .skip)) (.reg false (.o 0 18 (.mov (.t 1)) (.o 1 19 (.bin .add (.t 18) (.i 1)) (.o 2 1 (.mov (.t 19)) .done)))))) (.reg false (.o 0 10 (.mov (.t 5)) (.o 1 11 (.bin .add (.t 10) (.i 1)) (.o 2 5 (.mov (.t 11)) .done))))))))) (.seq (.reg false (.o 0 20 (.mov (.t 1)) (.o 1 4 (.mov (.t 20)) .done))) .ret)))
theorem dg_laws_heldIntS : Tryz.f133.body.bind (digC Tryz.prog Tryz.f133.ntmps []) = some c_laws_heldIntS := by kernel_rfl
theorem rs_laws_heldIntS : resSlots Tryz.prog Tryz.f133 = some [.s 4] := by kernel_rfl
theorem ok_laws_heldIntS (n : Nat) (k : Int) (h0 : 0 ≤ k) (hk : k + n ≤ 9223372036854775807) :
    FnOK Tryz.prog 133 [.one (.d (encI (marksI n k))), .one (.d (.sc (.int .i64 k)))] (fun ra _ => ra = [.one (.d (.sc (.int .i64 (k + n))))]) := by
  refine FnOK.ofK Tryz.func133 (by kernel_rfl) dg_laws_heldIntS rs_laws_heldIntS rfl rfl ?_
  delta c_laws_heldIntS T.o X.i
  have hm := marksI_len n k
  refine kSeq (kReg (kMovC rfl (kDone (kSeq (kSeq (kReg (kMovC rfl (kDone (kBlock ?_)))))))))
  refine kLoop (α := { i : Nat // i ≤ n })
    (fun y => ⟨tabSl [(0, .dv (encI (marksI n k))), (1, .i (k + y.1)), (5, .i y.1)], obTab 1 [], []⟩) (fun y => n - y.1) ⟨0, by simp⟩
    .normA ?_
  rintro ⟨i, hi⟩
  simp only
  rcases Nat.lt_or_ge i n with hlt | hge
  · have hg := marksI_get n k i (by omega)
    refine kSeq (kSeq (kReg (kMovC rfl (kMovC rfl (kLenR rfl rfl (kBin rfl rfl rfl (kDone (kCondP rfl (fun g0 => kSkip (kSeq (kBlock (kSeq (kSeq (kReg (kMovC rfl (kMovC rfl (kIadR rfl rfl rfl (by omega) (kLoadD rfl rfl (kMovC rfl (kBin rfl rfl rfl (kDone (kCondIN rfl (fun g1 => (by omega)) (fun g1 => kSkip (kReg (kMovC rfl (kAdd rfl rfl (by omega) (kMovC rfl (kDone (kBk (kReg (kMovC rfl (kAdd rfl rfl (by omega) (kMovC rfl (kDone ?_)))))))))))))))))))))))))) (fun g0 => (by omega))))))))))
    exact kInv ⟨⟨i + 1, by omega⟩, by simp only; omega, .normA⟩
  · refine kSeq (kSeq (kReg (kMovC rfl (kMovC rfl (kLenR rfl rfl (kBin rfl rfl rfl (kDone (kCondP rfl (fun g0 => (by omega)) (fun g0 => kExit (kExC (kExI (kExB (kSeq (kReg (kMovC rfl (kMovC rfl (kDone (kRet (endRetA (ra := [.one (.d _)]) rfl ?_)))))))))))))))))))
    rw [show i = n by omega]

def c_laws_heldRrS : C := (.seq (.reg false (.o 0 4 (.mov (.i 0)) .done)) (.seq (.seq (.reg false (.o 0 5 (.mov (.i 0)) .done)) (.block 0 (.loop (.seq (.seq (.reg false (.o 0 6 (.mov (.t 5)) (.o 1 7 (.mov (.t 0)) (.o 2 8 (.len (.t 7)) (.o 3 9 (.bin .lss (.t 6) (.t 8)) .done))))) (.cond (.t 9) .skip (.exit 0))) (.seq (.block 1 (.seq (.reg false (.o 0 12 (.mov (.t 0)) (.o 1 13 (.mov (.t 5)) (.o 2 14 (.iad 7 (.t 12) (.t 13)) (.o 3 15 (.fad (.t 14) 0) (.o 4 16 (.fad (.t 15) 0) (.o 5 17 (.load none (.t 16)) (.o 6 18 (.mov (.t 1)) (.o 7 19 (.call 19 114 [(.t 17), (.t 18)]) (.o 8 1 (.mov (.t 19)) .done)))))))))) (.seq (.seq (.reg false (.o 0 20 (.mov (.t 1)) (.o 1 21 (.bin .lss (.t 20) (.i 0)) .done))) (.cond (.t 21) (.seq (.reg false (.o 0 4 (.mov (.i (-1))) .done)) .ret) .skip)) (.seq (.seq (.reg false (.o 0 22 (.mov (.t 0)) (.o 1 23 (.mov (.t 5)) (.o 2 24 (.iad 7 (.t 22) (.t 23)) (.o 3 25 (.fad (.t 24) 1) (.o 4 26 (.load none (.t 25)) (.o 5 27 (.mov (.t 1)) (.o 6 28 (.bin .neq (.t 26) (.t 27)) .done)))))))) (.cond (.t 28) (.seq (.reg false (.o 0 4 (.mov (.i (-1))) .done)) .ret) .skip)) (.seq (.reg false (.o 0 29 (.mov (.t 1)) (.o 1 30 (.bin .add (.t 29) (.i 1)) (.o 2 1 (.mov (.t 30)) .done)))) (.seq (.seq (.reg false (.o 0 31 (.mov (.t 0)) (.o 1 32 (.mov (.t 5)) (.o 2 33 (.iad 7 (.t 31) (.t 32)) (.o 3 34 (.fad (.t 33) 2) (.o 4 35 (.load none (.t 34)) (.o 5 36 (.mov (.t 1)) (.o 6 37 (.bin .neq (.t 35) (.t 36)) .done)))))))) (.cond (.t 37) (.seq (.reg false (.o 0 4 (.mov (.i (-1))) .done)) .ret) .skip)) (.seq (.reg false (.o 0 38 (.mov (.t 1)) (.o 1 39 (.bin .add (.t 38) (.i 1)) (.o 2 1 (.mov (.t 39)) .done)))) (.seq (.seq (.reg false (.o 0 40 (.mov (.t 0)) (.o 1 41 (.mov (.t 5)) (.o 2 42 (.iad 7 (.t 40) (.t 41)) (.o 3 43 (.fad (.t 42) 3) (.o 4 44 (.load none (.t 43)) (.o 5 45 (.mov (.t 1)) (.o 6 46 (.bin .neq (.t 44) (.t 45)) .done)))))))) (.cond (.t 46) (.seq (.reg false (.o 0 4 (.mov (.i (-1))) .done)) .ret) .skip)) (.seq (.reg false (.o 0 47 (.mov (.t 1)) (.o 1 48 (.bin .add (.t 47) (.i 1)) (.o 2 1 (.mov (.t 48)) .done)))) (.seq (.reg false (.o 0 49 (.mov (.t 0)) (.o 1 50 (.mov (.t 5)) (.o 2 51 (.iad 7 (.t 49) (.t 50)) (.o 3 52 (.fad (.t 51) 4) (.o 4 53 (.fad (.t 52) 0) (.o 5 54 (.load none (.t 53)) (.o 6 55 (.mov (.t 1)) (.o 7 56 (.call 56 114 [(.t 54), (.t 55)]) (.o 8 1 (.mov (.t 56)) .done)))))))))) (.seq (.seq (.reg false (.o 0 57 (.mov (.t 1)) (.o 1 58 (.bin .lss (.t 57) (.i 0)) .done))) (.cond (.t 58) (.seq (.reg false (.o 0 4 (.mov (.i (-1))) .done)) .ret) .skip)) (.seq (.reg false (.o 0 59 (.mov (.t 0)) (.o 1 60 (.mov (.t 5)) (.o 2 61 (.iad 7 (.t 59) (.t 60)) (.o 3 62 (.fad (.t 61) 5) (.o 4 63 (.load none (.t 62)) (.o 5 64 (.mov (.t 1)) (.o 6 65 (.call 65 160 [(.t 63), (.t 64)]) (.o 7 1 (.mov (.t 65)) .done))))))))) (.seq (.seq (.reg false (.o 0 66 (.mov (.t 1)) (.o 1 67 (.bin .lss (.t 66) (.i 0)) .done))) (.cond (.t 67) (.seq (.reg false (.o 0 4 (.mov (.i (-1))) .done)) .ret) .skip)) (.seq (.reg false (.o 0 68 (.mov (.t 0)) (.o 1 69 (.mov (.t 5)) (.o 2 70 (.iad 7 (.t 68) (.t 69)) (.o 3 71 (.fad (.t 70) 6) (.o 4 72 (.load none (.t 71)) (.o 5 73 (.mov (.t 1)) (.o 6 74 (.call 74 133 [(.t 72), (.t 73)]) (.o 7 1 (.mov (.t 74)) .done))))))))) (.seq (.reg false (.o 0 75 (.mov (.t 1)) (.o 1 76 (.bin .lss (.t 75) (.i 0)) .done))) (.cond (.t 76) (.seq (.reg false (.o 0 4 (.mov (.i (-1))) .done)) .ret) .skip)))))))))))))))) (.reg false (.o 0 10 (.mov (.t 5)) (.o 1 11 (.bin .add (.t 10) (.i 1)) (.o 2 5 (.mov (.t 11)) .done))))))))) (.seq (.reg false (.o 0 77 (.mov (.t 1)) (.o 1 4 (.mov (.t 77)) .done))) .ret)))
theorem dg_laws_heldRrS : Tryz.f63.body.bind (digC Tryz.prog Tryz.f63.ntmps []) = some c_laws_heldRrS := by kernel_rfl
theorem rs_laws_heldRrS : resSlots Tryz.prog Tryz.f63 = some [.s 4] := by kernel_rfl
theorem ok_laws_heldRrS (l : List Rr) (k : Int) (h0 : 0 ≤ k) (hk : k + cntRs l ≤ 9223372036854775807) (hs : SmallRs l) :
    FnOK Tryz.prog 63 [.one (.d (encR (markRs l k))), .one (.d (.sc (.int .i64 k)))] (fun ra _ => ra = [.one (.d (.sc (.int .i64 (k + cntRs l))))]) := by
  refine FnOK.ofK Tryz.func63 (by kernel_rfl) dg_laws_heldRrS rs_laws_heldRrS rfl rfl ?_
  delta c_laws_heldRrS T.o X.i
  have hm := markRs_len l k
  have h1 := hs.len
  refine kSeq (kReg (kMovC rfl (kDone (kSeq (kSeq (kReg (kMovC rfl (kDone (kBlock ?_)))))))))
  refine kLoop (α := { i : Nat // i ≤ l.length }) (fun y => ⟨tabSl [(0, .dv (encR (markRs l k))), (1, .i (k + cntRs (l.take y.1))), (5, .i y.1)], obTab 1 [], []⟩) (fun y => l.length - y.1) ⟨0, by simp⟩ .normA ?_
  rintro ⟨i, hi⟩
  simp only
  have hle := cntRs_le l i
  have hle2 := cntRs_le l (i + 1)
  rcases Nat.lt_or_ge i l.length with hlt | hge
  · have hbi := hs.mem _ (List.getElem_mem hlt)
    have n1 := hbi.n.len
    have t1 := hbi.t.len
    have hsuc := cntRs_take l i hlt
    have hrow := markRs_get l k i (by omega) hlt
    have hc : cntR l[i] = cntBB l[i].name + 3 + cntBB l[i].to + l[i].text.length + l[i].nums.length := rfl
    have hcb : cntBB l[i].name = l[i].name.flatten.length := rfl
    have hct : cntBB l[i].to = l[i].to.flatten.length := rfl
    have e1 : (markR l[i] (k + ↑(cntRs (List.take i l)))).ty = k + (cntRs (l.take i) : Int) + (l[i].name.flatten.length : Int) := rfl
    have e2 : (markR l[i] (k + ↑(cntRs (List.take i l)))).ttl = k + (cntRs (l.take i) : Int) + (l[i].name.flatten.length : Int) + 1 := rfl
    have e3 : (markR l[i] (k + ↑(cntRs (List.take i l)))).addr = k + (cntRs (l.take i) : Int) + (l[i].name.flatten.length : Int) + 1 + 1 := rfl
    refine kSeq (kSeq (kReg (kMovC rfl (kMovC rfl (kLenR rfl rfl (kBin rfl rfl rfl (kDone (kCondP rfl (fun g0 => kSkip (kSeq (kBlock (kSeq (kReg (kMovC rfl (kMovC rfl (kIadRW rfl rfl rfl (by omega) hrow (kFadD rfl (kFadD rfl (kLoadD rfl rfl (kMovC rfl (kCallD (ok_laws_heldByteSS _ _ pr pr pr) ⟨rfl, rfl, trivial⟩ rfl rfl rfl rfl rfl (kMovC rfl (kDone (kSeq (kSeq (kReg (kMovC rfl (kBin rfl rfl rfl (kDone (kCondP rfl (fun g1 => (by omega)) (fun g1 => kSkip (kSeq (kSeq (kReg (kMovC rfl (kMovC rfl (kIadRW rfl rfl rfl (by omega) hrow (kFadD rfl (kLoadD rfl rfl (kMovC rfl (kBin rfl rfl rfl (kDone (kCondIN rfl (fun g2 => (by omega)) (fun g2 => kSkip (kSeq (kReg (kMovC rfl (kAdd rfl rfl (by omega) (kMovC rfl (kDone (kSeq (kSeq (kReg (kMovC rfl (kMovC rfl (kIadRW rfl rfl rfl (by omega) hrow (kFadD rfl (kLoadD rfl rfl (kMovC rfl (kBin rfl rfl rfl (kDone (kCondIN rfl (fun g3 => (by omega)) (fun g3 => kSkip (kSeq (kReg (kMovC rfl (kAdd rfl rfl (by omega) (kMovC rfl (kDone (kSeq (kSeq (kReg (kMovC rfl (kMovC rfl (kIadRW rfl rfl rfl (by omega) hrow (kFadD rfl (kLoadD rfl rfl (kMovC rfl (kBin rfl rfl rfl (kDone (kCondIN rfl (fun g4 => (by omega)) (fun g4 => kSkip (kSeq (kReg (kMovC rfl (kAdd rfl rfl (by omega) (kMovC rfl (kDone (kSeq (kReg (kMovC rfl (kMovC rfl (kIadRW rfl rfl rfl (by omega) hrow (kFadD rfl (kFadD rfl (kLoadD rfl rfl (kMovC rfl (kCallD (ok_laws_heldByteSS _ _ pr pr pr) ⟨rfl, rfl, trivial⟩ rfl rfl rfl rfl rfl (kMovC rfl (kDone (kSeq (kSeq (kReg (kMovC rfl (kBin rfl rfl rfl (kDone (kCondP rfl (fun g5 => (by omega)) (fun g5 => kSkip (kSeq (kReg (kMovC rfl (kMovC rfl (kIadRW rfl rfl rfl (by omega) hrow (kFadD rfl (kLoadD rfl rfl (kMovC rfl (kCallD (ok_laws_heldByteS _ _ pr pr) ⟨rfl, rfl, trivial⟩ rfl rfl rfl rfl rfl (kMovC rfl (kDone (kSeq (kSeq (kReg (kMovC rfl (kBin rfl rfl rfl (kDone (kCondP rfl (fun g6 => (by omega)) (fun g6 => kSkip (kSeq (kReg (kMovC rfl (kMovC rfl (kIadRW rfl rfl rfl (by omega) hrow (kFadD rfl (kLoadD rfl rfl (kMovC rfl (kCallD (ok_laws_heldIntS _ _ pr pr) ⟨rfl, rfl, trivial⟩ rfl rfl rfl rfl rfl (kMovC rfl (kDone (kSeq (kReg (kMovC rfl (kBin rfl rfl rfl (kDone (kCondP rfl (fun g7 => (by omega)) (fun g7 => kSkip (kBk (kReg (kMovC rfl (kAdd rfl rfl (by omega) (kMovC rfl (kDone ?_))))))))))))))))))))))))))))))))))))))))))))))))))))))))))))))))))))))))))))))))))))))))))))))))))))))))))))))))))))))))))))))))))))))))))))))) (fun g0 => (by omega))))))))))
    exact kInv ⟨⟨i + 1, by omega⟩, by simp only; omega, .normA⟩
  · refine kSeq (kSeq (kReg (kMovC rfl (kMovC rfl (kLenR rfl rfl (kBin rfl rfl rfl (kDone (kCondP rfl (fun g0 => (by omega)) (fun g0 => kExit (kExC (kExI (kExB (kSeq (kReg (kMovC rfl (kMovC rfl (kDone (kRet (endRetA (ra := [.one (.d _)]) rfl ?_)))))))))))))))))))
    rw [show i = l.length by omega, List.take_length]

theorem ok_laws_heldRrS_nil (k : Int) (h0 : 0 ≤ k) (hk : k ≤ 9223372036854775807) :
    FnOK Tryz.prog 63 [.one (.d (encR [])), .one (.d (.sc (.int .i64 k)))] (fun ra _ => ra = [.one (.d (.sc (.int .i64 k)))]) := by
  have := ok_laws_heldRrS [] k h0 (by simpa using hk) ⟨Nat.zero_le _, nofun⟩
  rw [show k + ((cntRs [] : Nat) : Int) = k by simp] at this
  exact this

end Go.Proofs.YtbmagbgdpmgbmaaGreat.FnExactLostFn
