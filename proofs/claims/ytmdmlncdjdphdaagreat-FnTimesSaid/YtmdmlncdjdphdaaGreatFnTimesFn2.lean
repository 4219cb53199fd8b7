/- What the functions that FnTimes reaches compute, one contract each; each with the bounds that it states. -/
import Derived.Test.YtmdmlncdjdphdaaGreatFnTimesFn1
import Derived.Test.YtmdmlncdjdphdaaGreatProg
import Derived.KernelRfl
set_option maxRecDepth 100000
set_option maxHeartbeats 8000000
set_option linter.unusedVariables false
set_option linter.unusedSimpArgs false
namespace Go.Proofs.YtmdmlncdjdphdaaGreat.FnTimesFn
open Go Hearth Go.Proofs

def c_impl_LabelOk : C := (.g (.o 0 2 (.mov (.v (.bool false))) .done) (.g (.o 0 3 (.mov (.t 0)) (.o 1 4 (.len (.t 3)) (.o 2 5 (.call 5 109 [(.t 4), (.i 1), (.i 15)]) (.o 3 6 (.mov (.t 5)) (.op 4 [] (some 7) (some (6, true)) false (.mov (.t 0)) (.op 5 [] (some 8) (some (6, true)) false (.call 8 243 [(.t 7), (.fn 244)]) (.o 6 9 (.pick (.t 6) (.t 8) (.v (.bool false))) (.o 7 2 (.mov (.t 9)) .done)))))))) .ret))
theorem dg_impl_LabelOk : Tryz.f161.body.bind (digC Tryz.prog Tryz.f161.ntmps []) = some c_impl_LabelOk := by kernel_rfl
theorem rs_impl_LabelOk : resSlots Tryz.prog Tryz.f161 = some [.s 2] := by kernel_rfl
theorem ok_impl_LabelOk (b : List UInt8) (hb : b.length ≤ 4194304) :
    FnOK Tryz.prog 161 [.one (.d (encB b))] (fun ra _ => ra = [.one (.d (.sc (.bool (labelOk b))))]) := by
  refine FnOK.ofK Tryz.func161 (by kernel_rfl) dg_impl_LabelOk rs_impl_LabelOk rfl rfl ?_
  delta c_impl_LabelOk T.o X.i C.g
  refine Kbc (Ka Y (Kdb (Kc (Ka Y (Kq Y Y (Kp (ok_impl_within _ _ _) ⟨Y, Y, Y, trivial⟩ Y Y Y Y Y (Ka Y (kGP Y (fun g0 => Ki Y (Ka Y (Ki Y ?_))) (fun g0 => Kg Y (Kg Y (Kl Y (Ka Y (Ka Y (Kd (Kr (Er (ra := [.one (.d _)]) rfl ?_))))))))))))))))
  · refine Ku true (ok_impl_all_byte (b.map fun b : UInt8 => .sc (.int .u8 b.toNat)) is8 (fun x => okLetter (dec8 x)) (by simp; omega) (fun x hx => by obtain ⟨c, _, rfl⟩ := List.mem_map.1 hx; exact ⟨c, rfl⟩)) ⟨congrArg some (encB_lst b), ⟨rfl, rfl, ⟨_, Tryz.func244, rfl, by kernel_rfl⟩, ?_⟩, trivial⟩ Y Y Y (fun _ => ?_)
    · rintro _ R ⟨x, ⟨c, rfl⟩, rfl, rfl⟩
      have := ok_impl_LabelOk_1 c
      simp only [dec8_enc]
      exact this
    refine Kk Y (Ka Y (Ka Y (Kd (Kr (Er (ra := [.one (.d _)]) rfl ?_)))))
    rw [all_dec8, show labelOk b = b.all okLetter by simp only [labelOk]; rw [decide_eq_true (by omega), decide_eq_true (by omega)]; rfl]
  · rw [show labelOk b = false by simp only [labelOk]; rw [show (decide (1 ≤ b.length) && decide (b.length ≤ 15)) = false by simp; omega]; rfl]

def c_impl_all_Lbyte_1 : C := (.g (.o 0 3 (.mov (.v (.bool false))) .done) (.g (.o 0 4 (.load none (.t 1)) (.o 1 5 (.mov (.t 0)) (.o 2 6 (.callv 6 (.t 4) [(.t 5)]) (.o 3 7 (.un .not (.t 6)) (.o 4 3 (.mov (.t 7)) .done))))) .ret))
theorem dg_impl_all_Lbyte_1 : Tryz.f242.body.bind (digC Tryz.prog Tryz.f242.ntmps []) = some c_impl_all_Lbyte_1 := by kernel_rfl
theorem rs_impl_all_Lbyte_1 : resSlots Tryz.prog Tryz.f242 = some [.s 3] := by kernel_rfl
theorem ok_impl_all_Lbyte_1 (x : DV) (D : DV → Prop) (g : DV → Bool) (hx : D x) :
    FnOK Tryz.prog 242 [.one (.d x), .one (.ptr [.fv false (fcPred D g)])] (fun ra _ => ra = [.one (.d (.sc (.bool (!g x))))]) := by
  refine FnOK.ofK Tryz.func242 (by kernel_rfl) dg_impl_all_Lbyte_1 rs_impl_all_Lbyte_1 rfl rfl ?_
  delta c_impl_all_Lbyte_1 T.o X.i C.g
  refine Kbc (Ka Y (Kd ?_))
  refine Kbc (kLoadC Y Y (Ka Y (kCallv Y ⟨x, hx, rfl, rfl⟩ ⟨Y, trivial⟩ (.inr ?_) rfl ?_ rfl ?_)))
  · rintro _ rfl; rfl
  · rintro _ rfl; exact leb
  rintro _ rfl
  refine Kw Y Y (Ka Y (Kd (Kr ?_)))
  exact endRet (ra := [.one (.d _)]) rfl ⟨⟨⟨rfl, .inl rfl⟩, trivial⟩, .nil, trivial, trivial, trivial⟩ rfl

def c_slices_IndexFunc_LLbyte_Lbyte : C := (.g (.o 0 4 (.mov (.i 0)) .done) (.seq (.g (.o 0 6 (.mov (.t 0)) (.o 1 7 (.len (.t 6)) (.o 2 8 (.mov (.i 0)) .done))) (.block 0 (.loop (.g (.o 0 9 (.bin .lss (.t 8) (.t 7)) .done) (.seq (.cond (.t 9) .skip (.exit 0)) (.seq (.block 1 (.g (.o 0 10 (.mov (.t 8)) (.o 1 5 (.mov (.t 10)) .done)) (.g (.o 0 11 (.mov (.t 1)) (.o 1 12 (.mov (.t 0)) (.o 2 13 (.mov (.t 5)) (.o 3 14 (.iad 1 (.t 12) (.t 13)) (.o 4 15 (.load none (.t 14)) (.o 5 16 (.callv 16 (.t 11) [(.t 15)]) .done)))))) (.cond (.t 16) (.g (.o 0 17 (.mov (.t 5)) (.o 1 4 (.mov (.t 17)) .done)) .ret) .skip)))) (.reg false (.o 0 18 (.bin .add (.t 8) (.i 1)) (.o 1 8 (.mov (.t 18)) .done))))))))) (.g (.o 0 4 (.mov (.i (-1))) .done) .ret)))
theorem dg_slices_IndexFunc_LLbyte_Lbyte : Tryz.f300.body.bind (digC Tryz.prog Tryz.f300.ntmps []) = some c_slices_IndexFunc_LLbyte_Lbyte := by kernel_rfl
theorem rs_slices_IndexFunc_LLbyte_Lbyte : resSlots Tryz.prog Tryz.f300 = some [.s 4] := by kernel_rfl
theorem ok_slices_IndexFunc_LLbyte_Lbyte (l : List DV) (D : DV → Prop) (g : DV → Bool) (hl : (l.length : Int) ≤ 9223372036854775807) (hD : ∀ x ∈ l, D x) :
    FnOK Tryz.prog 300 [.one (.d (lst l)), .one (.fv false (fcPred D g))] (fun ra _ => ra = [.one (.d (.sc (.int .i64 (idxF g l))))]) := by
  refine FnOK.ofK Tryz.func300 (by kernel_rfl) dg_slices_IndexFunc_LLbyte_Lbyte rs_slices_IndexFunc_LLbyte_Lbyte rfl rfl ?_
  delta c_slices_IndexFunc_LLbyte_Lbyte T.o X.i C.g
  refine Kbc (Ka Y (Kd ?_))
  refine Kb (Kbc (Ka Y (kLen Y Y Y (Ka Y (Kd (Kt ?_))))))
  rw [len_lst]
  refine kLoop (α := { i : Nat // i ≤ l.length ∧ ∀ x ∈ l.take i, g x = false })
    (fun y => ⟨tabSl [(0, .dv (lst l)), (1, .c (.fv false (fcPred D g))), (7, .i l.length), (8, .i y.1)], (St.init [.one (.d (lst l)), .one (.fv false (fcPred D g))]).ob, []⟩) (fun y => l.length - y.1) ⟨0, by simp⟩
    (.tab rfl ⟨.refl _, .refl _, .refl _, .refl _, trivial⟩) ?_
  rintro ⟨i, hi, hg⟩
  simp only
  refine Kbc (Kj Y Y Y (Kd ?_))
  refine Kb (kCond Y (fun h1 => ?_) (fun h1 => ?_))
  · have hlt : i < l.length := by simp at h1; omega
    refine Kn (Kb (Kt (Kbc (Ka Y (Ka Y (Kd ?_))))))
    refine Kbc (Ka Y (Ka Y (Ka Y (kIadD Y Y Y Y ?_ ?_))))
    · rw [len_lst]; omega
    rw [show (lst l).row (i : Int).toNat = [l[i]] from row_lst l i hlt]
    refine Ky Y Y (kCallv Y ⟨l[i], hD _ (List.getElem_mem hlt), rfl, rfl⟩ ⟨Y, trivial⟩ (.inr ?_) rfl ?_ rfl ?_)
    · rintro _ rfl; rfl
    · rintro _ rfl; exact leb
    rintro _ rfl
    refine Kd (kCond Y (fun h2 => ?_) (fun h2 => ?_))
    · refine Kbc (Ka Y (Ka Y (Kd (Kr ?_))))
      refine endRet (ra := [.one (.d _)]) rfl ⟨⟨⟨rfl, .inl rfl⟩, trivial⟩, .nil, trivial, trivial, trivial⟩ ?_
      have : l.findIdx? g = some i := by
        rw [List.findIdx?_eq_some_iff_getElem]
        refine ⟨hlt, h2, fun j hj => ?_⟩
        simpa using hg _ (by rw [List.mem_take_iff_getElem]; exact ⟨j, by omega, rfl⟩)
      simp [idxF, this]
    · refine Kn (Kv (Kc (kAdd Y Y ?_ (Ka Y (Kd (kInv ?_))))))
      · omega
      refine ⟨⟨i + 1, hlt, ?_⟩, by simp only; omega, .tab rfl ⟨.refl _, .refl _, .refl _, .refl _, trivial⟩⟩
      intro x hx
      rw [← List.take_append_getElem hlt, List.mem_append] at hx
      rcases hx with hx | hx
      · exact hg x hx
      · simp at hx; rw [hx]; exact h2
  · refine kExit (kExC (kExI (kExB ?_)))
    have hge : i = l.length := by simp at h1; omega
    refine Kbc (Ka Y (Kd (Kr ?_)))
    refine endRet (ra := [.one (.d _)]) rfl ⟨⟨⟨rfl, .inl rfl⟩, trivial⟩, .nil, trivial, trivial, trivial⟩ ?_
    have : l.findIdx? g = none := by
      rw [List.findIdx?_eq_none_iff]
      intro x hx
      rw [hge, List.take_length] at hg
      exact hg x hx
    simp [idxF, this]

def c_slices_ContainsFunc_LLbyte_Lbyte : C := (.g (.o 0 4 (.mov (.v (.bool false))) .done) (.g (.o 0 5 (.mov (.t 0)) (.o 1 6 (.mov (.t 1)) (.o 2 7 (.call 7 300 [(.t 5), (.t 6)]) (.o 3 8 (.bin .geq (.t 7) (.i 0)) (.o 4 4 (.mov (.t 8)) .done))))) .ret))
theorem dg_slices_ContainsFunc_LLbyte_Lbyte : Tryz.f241.body.bind (digC Tryz.prog Tryz.f241.ntmps []) = some c_slices_ContainsFunc_LLbyte_Lbyte := by kernel_rfl
theorem rs_slices_ContainsFunc_LLbyte_Lbyte : resSlots Tryz.prog Tryz.f241 = some [.s 4] := by kernel_rfl
theorem ok_slices_ContainsFunc_LLbyte_Lbyte (l : List DV) (D : DV → Prop) (g : DV → Bool) (hl : (l.length : Int) ≤ 9223372036854775807) (hD : ∀ x ∈ l, D x) :
    FnOK Tryz.prog 241 [.one (.d (lst l)), .one (.fv false (fcPred D g))] (fun ra _ => ra = [.one (.d (.sc (.bool (l.any g))))]) := by
  refine FnOK.ofK Tryz.func241 (by kernel_rfl) dg_slices_ContainsFunc_LLbyte_Lbyte rs_slices_ContainsFunc_LLbyte_Lbyte rfl rfl ?_
  delta c_slices_ContainsFunc_LLbyte_Lbyte T.o X.i C.g
  refine Kbc (Ka Y (Kd ?_))
  refine Kbc (Ka Y (Ka Y ?_))
  refine Ku true (ok_slices_IndexFunc_LLbyte_Lbyte l D g hl hD) ⟨rfl, ⟨fun h => h, fun _ _ h => h⟩, trivial⟩ rfl rfl rfl fun os => ?_
  refine Kj Y Y Y (Ka Y (Kd (Kr ?_)))
  refine endRet (ra := [.one (.d _)]) rfl ⟨⟨⟨rfl, .inl rfl⟩, trivial⟩, .nil, trivial, trivial, trivial⟩ ?_
  have : decide (idxF g l ≥ 0) = l.any g := by
    unfold idxF
    cases h : l.findIdx? g with
    | none =>
      rw [List.findIdx?_eq_none_iff] at h
      have : l.any g = false := by rw [List.any_eq_false]; intro x hx; simp [h x hx]
      rw [this]; rfl
    | some i =>
      rw [List.findIdx?_eq_some_iff_getElem] at h
      obtain ⟨h1, h2, _⟩ := h
      have : l.any g = true := by rw [List.any_eq_true]; exact ⟨_, List.getElem_mem h1, h2⟩
      rw [this]; simp
  rw [this]

def c_impl_all_Lbyte : C := (.g (.o 0 3 (.box 3 (.t 1)) (.o 1 4 (.mov (.v (.bool false))) .done)) (.g (.o 0 5 (.mov (.t 0)) (.o 1 6 (.clo 242 [] [(.t 3)]) (.o 2 7 (.call 7 241 [(.t 5), (.t 6)]) (.o 3 8 (.un .not (.t 7)) (.o 4 4 (.mov (.t 8)) .done))))) .ret))
theorem dg_impl_all_Lbyte : Tryz.f160.body.bind (digC Tryz.prog Tryz.f160.ntmps []) = some c_impl_all_Lbyte := by kernel_rfl
theorem rs_impl_all_Lbyte : resSlots Tryz.prog Tryz.f160 = some [.s 4] := by kernel_rfl
theorem ok_impl_all_Lbyte (l : List DV) (D : DV → Prop) (g : DV → Bool) (hl : (l.length : Int) ≤ 9223372036854775807) (hD : ∀ x ∈ l, D x) :
    FnOK Tryz.prog 160 [.one (.d (lst l)), .one (.fv false (fcPred D g))] (fun ra _ => ra = [.one (.d (.sc (.bool (l.all g))))]) := by
  refine FnOK.ofK Tryz.func160 (by kernel_rfl) dg_impl_all_Lbyte rs_impl_all_Lbyte rfl rfl ?_
  delta c_impl_all_Lbyte T.o X.i C.g
  refine Kbc (kBox Y Y Y Y Y (Ka Y (Kd ?_)))
  refine Kbc (Ka Y (kClo Y Y ?_))
  refine Ku true (ok_slices_ContainsFunc_LLbyte_Lbyte l D (fun x => !g x) hl hD) ⟨rfl, ⟨rfl, ⟨_, Tryz.func242, rfl, by kernel_rfl⟩, _, rfl, ?_⟩, trivial⟩ rfl rfl rfl fun os => ?_
  · rintro l R ⟨x, hx, rfl, rfl⟩
    exact ⟨by rintro _ rfl; rfl, ok_impl_all_Lbyte_1 x D g hx⟩
  refine Kw Y Y (Ka Y (Kd (Kr ?_)))
  refine endRet (ra := [.one (.d _)]) rfl ⟨⟨⟨rfl, .inl rfl⟩, trivial⟩, .nil, trivial, trivial, trivial⟩ ?_
  simp [List.all_eq_not_any_not]

def c_impl_NameOk : C := (.g (.o 0 1 (.box 1 (.t 0)) (.o 1 2 (.mov (.v (.bool false))) .done)) (.g (.o 0 3 (.fad (.t 1) 0) (.o 1 4 (.load none (.t 3)) (.o 2 5 (.len (.t 4)) (.o 3 6 (.bin .leq (.t 5) (.i 6)) (.o 4 7 (.mov (.t 6)) (.op 5 [] (some 8) (some (7, true)) false (.fad (.t 1) 0) (.op 6 [] (some 9) (some (7, true)) false (.load none (.t 8)) (.op 7 [] (some 10) (some (7, true)) false (.call 10 160 [(.t 9), (.fn 161)]) (.o 8 11 (.pick (.t 7) (.t 10) (.v (.bool false))) (.o 9 2 (.mov (.t 11)) .done)))))))))) .ret))
theorem dg_impl_NameOk : Tryz.f71.body.bind (digC Tryz.prog Tryz.f71.ntmps []) = some c_impl_NameOk := by kernel_rfl
theorem rs_impl_NameOk : resSlots Tryz.prog Tryz.f71 = some [.s 2] := by kernel_rfl
theorem ok_impl_NameOk (a : List (List UInt8)) (ha : a.length ≤ 4194304) (hb : ∀ b ∈ a, b.length ≤ 4194304) :
    FnOK Tryz.prog 71 [.agg [.d (encBB a)]] (fun ra _ => ra = [.one (.d (.sc (.bool (nameOk a))))]) := by
  refine FnOK.ofK Tryz.func71 (by kernel_rfl) dg_impl_NameOk rs_impl_NameOk rfl rfl ?_
  delta c_impl_NameOk T.o X.i C.g
  refine Kbc (kBox Y Y Y Y Y (Ka Y (Kdb (Kc (Kf Y Y (Ke Y Y Y (Kq Y Y (Kj Y Y Y (Ka Y (kGP Y (fun g0 => Ki Y (Kf Y Y (Ki Y (Ke Y Y Y (Ki Y ?_))))) (fun g0 => Kg Y (Kg Y (Kg Y (Kl Y (Ka Y (Ka Y (Kd (Kr (Er (ra := [.one (.d _)]) rfl ?_)))))))))))))))))))
  · refine Ku true (ok_impl_all_Lbyte (a.map encB) (fun x => ∃ b : List UInt8, x = encB b ∧ b.length ≤ 4194304) (fun x => labelOk (decB x)) (by simp; omega) (fun x hx => by obtain ⟨c, h, rfl⟩ := List.mem_map.1 hx; exact ⟨c, rfl, hb c h⟩)) ⟨congrArg some (encBB_lst a), ⟨rfl, rfl, ⟨_, Tryz.func161, rfl, by kernel_rfl⟩, ?_⟩, trivial⟩ Y Y Y (fun _ => ?_)
    · rintro _ R ⟨x, ⟨c, rfl, h⟩, rfl, rfl⟩
      have := ok_impl_LabelOk c h
      simp only [decB_enc]
      exact this
    refine Kk Y (Ka Y (Ka Y (Kd (Kr (Er (ra := [.one (.d _)]) rfl ?_)))))
    rw [all_decB, show nameOk a = a.all labelOk by simp only [nameOk]; rw [decide_eq_true (by omega)]; rfl]
  · rw [show nameOk a = false by simp only [nameOk]; rw [decide_eq_false (by omega)]; rfl]

def typeTab : List (Int × ByteArray) := [(1, ⟨#[65]⟩), (2, ⟨#[78, 83]⟩), (5, ⟨#[67, 78, 65, 77, 69]⟩), (6, ⟨#[83, 79, 65]⟩), (12, ⟨#[80, 84, 82]⟩), (16, ⟨#[84, 88, 84]⟩), (49, ⟨#[68, 72, 67, 73, 68]⟩)]
def typeNm (n : Int) : ByteArray := ((typeTab.find? fun e => n == e.1).map (·.2)).getD ByteArray.empty
theorem ok_impl_typeName (n : Int) : FnOK Tryz.prog 180 [.one (.d (.sc (.int .i64 n)))] (fun ra _ => ra = [.one (.d (.sc (.string (typeNm n))))]) := by
  refine FnOK.ofWalk Tryz.func180 rfl (by kernel_rfl) fun w => ?_
  have kk : Tryz.prog.underlying 3 = some (.int .i64) := by kernel_rfl
  have hmm := @Go.RowKit.run_makeMap Tryz.prog
  go_enter Tryz.func180, Tryz.ntmps180
  go_wp2
  have t0 : Tab (w.alloc (.map #[] 0)) w.heap.size [] := ⟨_, _, (MapKept.heap_alloc w _).1, rfl⟩
  have b0 : BelowD w.heap.size w (w.alloc (.map #[] 0)) := ⟨(Go.RowKit.Below.refl _ _).alloc (Nat.le_refl _) _, Nat.le_refl _⟩
  have st : ∀ {w1 w2 : World}, BelowD w.heap.size w w1 → Ext w1 w2 (fun b => b = w.heap.size) → BelowD w.heap.size w w2 := fun h e => ⟨⟨e.os.trans h.1.os, e.tape.trans h.1.tape, e.output.trans h.1.output, Nat.le_trans h.1.size e.size, fun k hk => (e.same k (Nat.lt_of_lt_of_le hk h.1.size) (by omega)).trans (h.1.block k hk)⟩, Nat.le_trans h.2 e.drawn⟩
  refine upon_insert (kt := 3) (et := 9) ?_ kk t0 ?_ (fun w1 t1 e1 => ?_)
  · kernel_rfl
  · rfl
  have b1 := st b0 e1
  go_wp2
  refine upon_insert (kt := 3) (et := 9) ?_ kk t1 ?_ (fun w2 t2 e2 => ?_)
  · kernel_rfl
  · rfl
  have b2 := st b1 e2
  go_wp2
  refine upon_insert (kt := 3) (et := 9) ?_ kk t2 ?_ (fun w3 t3 e3 => ?_)
  · kernel_rfl
  · rfl
  have b3 := st b2 e3
  go_wp2
  refine upon_insert (kt := 3) (et := 9) ?_ kk t3 ?_ (fun w4 t4 e4 => ?_)
  · kernel_rfl
  · rfl
  have b4 := st b3 e4
  go_wp2
  refine upon_insert (kt := 3) (et := 9) ?_ kk t4 ?_ (fun w5 t5 e5 => ?_)
  · kernel_rfl
  · rfl
  have b5 := st b4 e5
  go_wp2
  refine upon_insert (kt := 3) (et := 9) ?_ kk t5 ?_ (fun w6 t6 e6 => ?_)
  · kernel_rfl
  · rfl
  have b6 := st b5 e6
  go_wp2
  refine upon_insert (kt := 3) (et := 9) ?_ kk t6 ?_ (fun w7 t7 e7 => ?_)
  · kernel_rfl
  · rfl
  have b7 := st b6 e7
  go_wp2
  refine upon_find (kt := 3) (et := 9) ?_ kk ?_ t7 ?_
  · kernel_rfl
  · rfl
  go_wp2
  all_goals go_ret
  exact ⟨rfl, b7⟩
theorem typeNm_ok (n : Int) : (!((typeNm n).toList == (⟨#[]⟩ : ByteArray).toList)) = tyOk n := by
  by_cases h1 : n = 1
  · subst h1; rw [ByteArray.toList_eq, ByteArray.toList_eq]; rfl
  by_cases h2 : n = 2
  · subst h2; rw [ByteArray.toList_eq, ByteArray.toList_eq]; rfl
  by_cases h3 : n = 5
  · subst h3; rw [ByteArray.toList_eq, ByteArray.toList_eq]; rfl
  by_cases h4 : n = 6
  · subst h4; rw [ByteArray.toList_eq, ByteArray.toList_eq]; rfl
  by_cases h5 : n = 12
  · subst h5; rw [ByteArray.toList_eq, ByteArray.toList_eq]; rfl
  by_cases h6 : n = 16
  · subst h6; rw [ByteArray.toList_eq, ByteArray.toList_eq]; rfl
  by_cases h7 : n = 49
  · subst h7; rw [ByteArray.toList_eq, ByteArray.toList_eq]; rfl
  have e : ∀ m : Int, n ≠ m → (n == m) = false := fun m h => by simpa using h
  have : typeNm n = ByteArray.empty := by
    unfold typeNm typeTab
    simp only [List.find?_cons, e 1 h1, e 2 h2, e 5 h3, e 6 h4, e 12 h5, e 16 h6, e 49 h7, List.find?_nil]
    rfl
  rw [this]
  simp only [tyOk, e 1 h1, e 2 h2, e 5 h3, e 6 h4, e 12 h5, e 16 h6, e 49 h7]
  rw [ByteArray.toList_eq, ByteArray.toList_eq]; rfl

def c_impl_TypeOk : C := (.g (.o 0 2 (.mov (.v (.bool false))) .done) (.g (.o 0 3 (.mov (.t 0)) (.o 1 4 (.call 4 180 [(.t 3)]) (.o 2 5 (.bin .neq (.t 4) (.v (.string ⟨#[]⟩))) (.o 3 2 (.mov (.t 5)) .done)))) .ret))
theorem dg_impl_TypeOk : Tryz.f89.body.bind (digC Tryz.prog Tryz.f89.ntmps []) = some c_impl_TypeOk := by kernel_rfl
theorem rs_impl_TypeOk : resSlots Tryz.prog Tryz.f89 = some [.s 2] := by kernel_rfl
theorem ok_impl_TypeOk (n : Int) : FnOK Tryz.prog 89 [.one (.d (.sc (.int .i64 n)))] (fun ra _ => ra = [.one (.d (.sc (.bool (tyOk n))))]) := by
  rw [← typeNm_ok]
  refine FnOK.ofK Tryz.func89 (by kernel_rfl) dg_impl_TypeOk rs_impl_TypeOk rfl rfl ?_
  delta c_impl_TypeOk T.o X.i C.g
  refine Kbc (Ka Y (Kdb (Kc (Ka Y (Kp (ok_impl_typeName _) ⟨Y, trivial⟩ Y Y Y Y Y (Kj Y Y Y (Ka Y (Kd (Kr (Er (ra := [.one (.d _)]) rfl rfl))))))))))

def c_impl_isWord : C := (.g (.o 0 2 (.mov (.v (.bool false))) .done) (.g (.o 0 3 (.mov (.t 0)) (.o 1 4 (.call 4 109 [(.t 3), (.i 0), (.i 4294967295)]) (.o 2 2 (.mov (.t 4)) .done))) .ret))
theorem dg_impl_isWord : Tryz.f192.body.bind (digC Tryz.prog Tryz.f192.ntmps []) = some c_impl_isWord := by kernel_rfl
theorem rs_impl_isWord : resSlots Tryz.prog Tryz.f192 = some [.s 2] := by kernel_rfl
theorem ok_impl_isWord (n : Int) : FnOK Tryz.prog 192 [.one (.d (.sc (.int .i64 n)))] (fun ra _ => ra = [.one (.d (.sc (.bool (isW n))))]) := by
  refine FnOK.ofK Tryz.func192 (by kernel_rfl) dg_impl_isWord rs_impl_isWord rfl rfl ?_
  delta c_impl_isWord T.o X.i C.g
  refine Kbc (Ka Y (Kdb (Kc (Ka Y (Kp (ok_impl_within _ _ _) ⟨Y, Y, Y, trivial⟩ Y Y Y Y Y (Ka Y (Kd (Kr (Er (ra := [.one (.d _)]) rfl ?_)))))))))
  rw [show isW n = decide (0 ≤ n ∧ n ≤ 4294967295) by unfold isW; rw [Bool.eq_iff_iff]; simp; omega]

def c_impl_hasTo : C := (.g (.o 0 2 (.mov (.v (.bool false))) .done) (.g (.o 0 3 (.mov (.t 0)) (.o 1 4 (.bin .eql (.t 3) (.i 2)) (.o 2 5 (.mov (.t 4)) (.op 3 [] (some 6) (some (5, false)) false (.mov (.t 0)) (.op 4 [] (some 7) (some (5, false)) false (.bin .eql (.t 6) (.i 5)) (.o 5 8 (.pick (.t 5) (.v (.bool true)) (.t 7)) (.o 6 9 (.mov (.t 8)) (.op 7 [] (some 10) (some (9, false)) false (.mov (.t 0)) (.op 8 [] (some 11) (some (9, false)) false (.bin .eql (.t 10) (.i 6)) (.o 9 12 (.pick (.t 9) (.v (.bool true)) (.t 11)) (.o 10 13 (.mov (.t 12)) (.op 11 [] (some 14) (some (13, false)) false (.mov (.t 0)) (.op 12 [] (some 15) (some (13, false)) false (.bin .eql (.t 14) (.i 12)) (.o 13 16 (.pick (.t 13) (.v (.bool true)) (.t 15)) (.o 14 2 (.mov (.t 16)) .done))))))))))))))) .ret))
theorem dg_impl_hasTo : Tryz.f239.body.bind (digC Tryz.prog Tryz.f239.ntmps []) = some c_impl_hasTo := by kernel_rfl
theorem rs_impl_hasTo : resSlots Tryz.prog Tryz.f239 = some [.s 2] := by kernel_rfl
theorem ok_impl_hasTo (n : Int) : FnOK Tryz.prog 239 [.one (.d (.sc (.int .i64 n)))] (fun ra _ => ra = [.one (.d (.sc (.bool (hasTo n))))]) := by
  refine FnOK.ofK Tryz.func239 (by kernel_rfl) dg_impl_hasTo rs_impl_hasTo rfl rfl ?_
  delta c_impl_hasTo T.o X.i C.g
  refine Kbc (Ka Y (Kdb (Kc (Ka Y (Kj Y Y Y (Ka Y (kGP Y (fun g0 => Kg Y (Kg Y (Kk Y (Ka Y (Ka Y (Kg Y (Kg Y (Kk Y (Ka Y (Ka Y (Kg Y (Kg Y (Kk Y (Ka Y (Ka Y (Kd (Kr (Er (ra := [.one (.d _)]) rfl ?_)))))))))))))))))) (fun g0 => Ki Y (Ka Y (Ki Y (Kj Y Y Y (Kl Y (Ka Y (Ka Y (kGP Y (fun g1 => Kg Y (Kg Y (Kk Y (Ka Y (Ka Y (Kg Y (Kg Y (Kk Y (Ka Y (Ka Y (Kd (Kr (Er (ra := [.one (.d _)]) rfl ?_))))))))))))) (fun g1 => Ki Y (Ka Y (Ki Y (Kj Y Y Y (Kl Y (Ka Y (Ka Y (kGP Y (fun g2 => Kg Y (Kg Y (Kk Y (Ka Y (Ka Y (Kd (Kr (Er (ra := [.one (.d _)]) rfl ?_)))))))) (fun g2 => Ki Y (Ka Y (Ki Y (Kj Y Y Y (Kl Y (Ka Y (Ka Y (Kd (Kr (Er (ra := [.one (.d _)]) rfl ?_)))))))))))))))))))))))))))))))))
  all_goals simp_all [hasTo]

def c_impl_hasText : C := (.g (.o 0 2 (.mov (.v (.bool false))) .done) (.g (.o 0 3 (.mov (.t 0)) (.o 1 4 (.bin .eql (.t 3) (.i 16)) (.o 2 5 (.mov (.t 4)) (.op 3 [] (some 6) (some (5, false)) false (.mov (.t 0)) (.op 4 [] (some 7) (some (5, false)) false (.bin .eql (.t 6) (.i 49)) (.o 5 8 (.pick (.t 5) (.v (.bool true)) (.t 7)) (.o 6 2 (.mov (.t 8)) .done))))))) .ret))
theorem dg_impl_hasText : Tryz.f240.body.bind (digC Tryz.prog Tryz.f240.ntmps []) = some c_impl_hasText := by kernel_rfl
theorem rs_impl_hasText : resSlots Tryz.prog Tryz.f240 = some [.s 2] := by kernel_rfl
theorem ok_impl_hasText (n : Int) : FnOK Tryz.prog 240 [.one (.d (.sc (.int .i64 n)))] (fun ra _ => ra = [.one (.d (.sc (.bool (hasText n))))]) := by
  refine FnOK.ofK Tryz.func240 (by kernel_rfl) dg_impl_hasText rs_impl_hasText rfl rfl ?_
  delta c_impl_hasText T.o X.i C.g
  refine Kbc (Ka Y (Kdb (Kc (Ka Y (Kj Y Y Y (Ka Y (kGP Y (fun g0 => Kg Y (Kg Y (Kk Y (Ka Y (Ka Y (Kd (Kr (Er (ra := [.one (.d _)]) rfl ?_)))))))) (fun g0 => Ki Y (Ka Y (Ki Y (Kj Y Y Y (Kl Y (Ka Y (Ka Y (Kd (Kr (Er (ra := [.one (.d _)]) rfl ?_)))))))))))))))))
  all_goals simp_all [hasText]

def c_impl_RrOk : C := (.g (.o 0 1 (.box 1 (.t 0)) (.o 1 2 (.mov (.v (.bool false))) .done)) (.seq (.g (.o 0 7 (.fad (.t 1) 0) (.o 1 8 (.load (some 1) (.t 7)) (.o 2 9 (.call 9 71 [(.t 8)]) (.o 3 10 (.un .not (.t 9)) (.o 4 11 (.mov (.t 10)) (.op 5 [] (some 12) (some (11, false)) false (.fad (.t 1) 1) (.op 6 [] (some 13) (some (11, false)) false (.load none (.t 12)) (.op 7 [] (some 14) (some (11, false)) false (.call 14 89 [(.t 13)]) (.op 8 [] (some 15) (some (11, false)) false (.un .not (.t 14)) (.o 9 16 (.pick (.t 11) (.v (.bool true)) (.t 15)) (.o 10 17 (.mov (.t 16)) (.op 11 [] (some 18) (some (17, false)) false (.fad (.t 1) 2) (.op 12 [] (some 19) (some (17, false)) false (.load none (.t 18)) (.op 13 [] (some 20) (some (17, false)) false (.call 20 109 [(.t 19), (.i 0), (.i 100000)]) (.op 14 [] (some 21) (some (17, false)) false (.un .not (.t 20)) (.o 15 22 (.pick (.t 17) (.v (.bool true)) (.t 21)) .done)))))))))))))))) (.cond (.t 22) (.g (.o 0 2 (.mov (.v (.bool false))) .done) .ret) .skip)) (.g (.o 0 23 (.fad (.t 1) 6) (.o 1 24 (.load none (.t 23)) (.o 2 25 (.len (.t 24)) (.o 3 26 (.bin .eql (.t 25) (.i 0)) (.o 4 3 (.mov (.t 26)) .done))))) (.seq (.g (.o 0 27 (.fad (.t 1) 1) (.o 1 28 (.load none (.t 27)) (.o 2 29 (.bin .eql (.t 28) (.i 6)) .done))) (.cond (.t 29) (.reg false (.o 0 30 (.fad (.t 1) 6) (.o 1 31 (.load none (.t 30)) (.o 2 32 (.len (.t 31)) (.o 3 33 (.bin .eql (.t 32) (.i 2)) (.o 4 34 (.mov (.t 33)) (.op 5 [] (some 35) (some (34, true)) false (.fad (.t 1) 6) (.op 6 [] (some 36) (some (34, true)) false (.load none (.t 35)) (.op 7 [] (some 37) (some (34, true)) false (.iad 1 (.t 36) (.i 0)) (.op 8 [] (some 38) (some (34, true)) false (.load none (.t 37)) (.op 9 [] (some 39) (some (34, true)) false (.call 39 192 [(.t 38)]) (.o 10 40 (.pick (.t 34) (.t 39) (.v (.bool false))) (.o 11 41 (.mov (.t 40)) (.op 12 [] (some 42) (some (41, true)) false (.fad (.t 1) 6) (.op 13 [] (some 43) (some (41, true)) false (.load none (.t 42)) (.op 14 [] (some 44) (some (41, true)) false (.iad 1 (.t 43) (.i 1)) (.op 15 [] (some 45) (some (41, true)) false (.load none (.t 44)) (.op 16 [] (some 46) (some (41, true)) false (.call 46 109 [(.t 45), (.i 0), (.i 100000)]) (.o 17 47 (.pick (.t 41) (.t 46) (.v (.bool false))) (.o 18 3 (.mov (.t 47)) .done)))))))))))))))))))) .skip)) (.g (.o 0 48 (.fad (.t 1) 3) (.o 1 49 (.load none (.t 48)) (.o 2 50 (.bin .eql (.t 49) (.i 0)) (.o 3 51 (.mov (.t 50)) (.op 4 [] (some 52) (some (51, false)) false (.fad (.t 1) 1) (.op 5 [] (some 53) (some (51, false)) false (.load none (.t 52)) (.op 6 [] (some 54) (some (51, false)) false (.bin .eql (.t 53) (.i 1)) (.op 7 [] (some 55) (some (51, false)) false (.mov (.t 54)) (.op 8 [] (some 56) (some (55, true)) false (.fad (.t 1) 3) (.op 9 [] (some 57) (some (55, true)) false (.load none (.t 56)) (.op 10 [] (some 58) (some (55, true)) false (.call 58 192 [(.t 57)]) (.op 11 [] (some 59) (some (51, false)) false (.pick (.t 55) (.t 58) (.v (.bool false))) (.o 12 60 (.pick (.t 51) (.v (.bool true)) (.t 59)) (.o 13 4 (.mov (.t 60)) .done)))))))))))))) (.g (.o 0 61 (.fad (.t 1) 4) (.o 1 62 (.fad (.t 61) 0) (.o 2 63 (.load none (.t 62)) (.o 3 64 (.len (.t 63)) (.o 4 65 (.bin .eql (.t 64) (.i 0)) (.o 5 66 (.mov (.t 65)) (.op 6 [] (some 67) (some (66, false)) false (.fad (.t 1) 1) (.op 7 [] (some 68) (some (66, false)) false (.load none (.t 67)) (.op 8 [] (some 69) (some (66, false)) false (.call 69 239 [(.t 68)]) (.op 9 [] (some 70) (some (66, false)) false (.mov (.t 69)) (.op 10 [] (some 71) (some (70, true)) false (.fad (.t 1) 4) (.op 11 [] (some 72) (some (70, true)) false (.load (some 1) (.t 71)) (.op 12 [] (some 73) (some (70, true)) false (.call 73 71 [(.t 72)]) (.op 13 [] (some 74) (some (66, false)) false (.pick (.t 70) (.t 73) (.v (.bool false))) (.o 14 75 (.pick (.t 66) (.v (.bool true)) (.t 74)) (.o 15 5 (.mov (.t 75)) .done)))))))))))))))) (.g (.o 0 76 (.fad (.t 1) 5) (.o 1 77 (.load none (.t 76)) (.o 2 78 (.len (.t 77)) (.o 3 79 (.bin .eql (.t 78) (.i 0)) (.o 4 80 (.mov (.t 79)) (.op 5 [] (some 81) (some (80, false)) false (.fad (.t 1) 1) (.op 6 [] (some 82) (some (80, false)) false (.load none (.t 81)) (.op 7 [] (some 83) (some (80, false)) false (.call 83 240 [(.t 82)]) (.op 8 [] (some 84) (some (80, false)) false (.mov (.t 83)) (.op 9 [] (some 85) (some (84, true)) false (.fad (.t 1) 5) (.op 10 [] (some 86) (some (84, true)) false (.load none (.t 85)) (.op 11 [] (some 87) (some (84, true)) false (.len (.t 86)) (.op 12 [] (some 88) (some (84, true)) false (.bin .leq (.t 87) (.i 40)) (.op 13 [] (some 89) (some (80, false)) false (.pick (.t 84) (.t 88) (.v (.bool false))) (.o 14 90 (.pick (.t 80) (.v (.bool true)) (.t 89)) (.o 15 6 (.mov (.t 90)) .done)))))))))))))))) (.g (.o 0 91 (.mov (.t 3)) (.o 1 92 (.mov (.t 91)) (.op 2 [] (some 93) (some (92, true)) false (.mov (.t 4)) (.o 3 94 (.pick (.t 92) (.t 93) (.v (.bool false))) (.o 4 95 (.mov (.t 94)) (.op 5 [] (some 96) (some (95, true)) false (.mov (.t 5)) (.o 6 97 (.pick (.t 95) (.t 96) (.v (.bool false))) (.o 7 98 (.mov (.t 97)) (.op 8 [] (some 99) (some (98, true)) false (.mov (.t 6)) (.o 9 100 (.pick (.t 98) (.t 99) (.v (.bool false))) (.o 10 2 (.mov (.t 100)) .done))))))))))) .ret))))))))
theorem dg_impl_RrOk : Tryz.f159.body.bind (digC Tryz.prog Tryz.f159.ntmps []) = some c_impl_RrOk := by kernel_rfl
theorem rs_impl_RrOk : resSlots Tryz.prog Tryz.f159 = some [.s 2] := by kernel_rfl
theorem ok_impl_RrOk (r : Rr) (hs : SmallR r) :
    FnOK Tryz.prog 159 [.agg (r.cells.map .d)] (fun ra _ => ra = [.one (.d (.sc (.bool (rrOk r))))]) := by
  refine FnOK.ofK Tryz.func159 (by kernel_rfl) dg_impl_RrOk rs_impl_RrOk rfl rfl ?_
  delta c_impl_RrOk T.o X.i C.g
  have n1 := hs.n.len
  have n2 := hs.n.mem
  have t1 := hs.t.len
  have t2 := hs.t.mem
  have x1 := hs.x
  have m1 := hs.m
  refine Kbc (kBox Y Y Y Y Y (Ka Y (Kd ?_)))
  by_cases h0 : nameOk r.name = true ∧ tyOk r.ty = true ∧ (0 ≤ r.ttl ∧ r.ttl ≤ 100000)
  case neg =>
    rw [show rrOk r = false by simp only [rrOk]; revert h0; cases nameOk r.name <;> cases tyOk r.ty <;> simp <;> intros <;> omega]
    refine Kb ?_
    cases h1 : nameOk r.name
    case false => refine kSeq (kReg (kFadP rfl rfl (kLoadP rfl rfl rfl (kCallD (ok_impl_NameOk _ pr pr) ⟨⟨⟨rfl, trivial⟩, leb⟩, trivial⟩ rfl rfl rfl rfl rfl (kUn rfl rfl (kMovC rfl (kGN rfl (fun g0 => kGF rfl (kGF rfl (kGF rfl (kGF rfl (kPickT rfl (kMovC rfl (kMovC rfl (kGF rfl (kGF rfl (kGF rfl (kGF rfl (kPickT rfl (kMovC rfl (kDone (kCondT rfl (kSeq (kReg (kMovC rfl (kDone (kRet (endRetA (ra := [.one (.d _)]) rfl rfl))))))))))))))))))))) (fun g0 => (by (simp [*] at g0))))))))))
    cases h2 : tyOk r.ty
    case false => refine kSeq (kReg (kFadP rfl rfl (kLoadP rfl rfl rfl (kCallD (ok_impl_NameOk _ pr pr) ⟨⟨⟨rfl, trivial⟩, leb⟩, trivial⟩ rfl rfl rfl rfl rfl (kUn rfl rfl (kMovC rfl (kGN rfl (fun g0 => (by (simp [*] at g0))) (fun g0 => kGT rfl (kFadP rfl rfl (kGT rfl (kLoadP rfl rfl rfl (kGT rfl (kCallD (ok_impl_TypeOk _) ⟨rfl, trivial⟩ rfl rfl rfl rfl rfl (kGT rfl (kUn rfl rfl (kPickF rfl (kMovC rfl (kMovC rfl (kGN rfl (fun g1 => kGF rfl (kGF rfl (kGF rfl (kGF rfl (kPickT rfl (kMovC rfl (kDone (kCondT rfl (kSeq (kReg (kMovC rfl (kDone (kRet (endRetA (ra := [.one (.d _)]) rfl rfl)))))))))))))) (fun g1 => (by (simp [*] at g1))))))))))))))))))))))
    have h3 : ¬ (0 ≤ r.ttl ∧ r.ttl ≤ 100000) := fun h => h0 ⟨h1, h2, h⟩
    refine Kbc (Kf Y Y (Ke Y Y Y (Kp (ok_impl_NameOk _ pr pr) ⟨⟨⟨Y, trivial⟩, leb⟩, trivial⟩ Y Y Y Y Y (Kw Y Y (Ka Y (kGN Y (fun g0 => (by (simp [*] at g0))) (fun g0 => Ki Y (Kf Y Y (Ki Y (Ke Y Y Y (Ki Y (Kp (ok_impl_TypeOk _) ⟨Y, trivial⟩ Y Y Y Y Y (Ki Y (Kw Y Y (Kl Y (Ka Y (Ka Y (kGN Y (fun g1 => (by (simp [*] at g1))) (fun g1 => Ki Y (Kf Y Y (Ki Y (Ke Y Y Y (Ki Y (Kp (ok_impl_within _ _ _) ⟨Y, Y, Y, trivial⟩ Y Y Y Y Y (Ki Y (Kw Y Y (Kl Y (Ka Y (Kd (kCondN Y (fun g2 => Kbc (Ka Y (Kd (Kr (Er (ra := [.one (.d _)]) rfl rfl))))) (fun g2 => (by (simp [*] at g2)))))))))))))))))))))))))))))))))
  obtain ⟨h1, h2, h3⟩ := h0
  rw [show rrOk r = dataOk r by simp only [rrOk]; rw [h1, h2, decide_eq_true h3.1, decide_eq_true h3.2]; rfl]
  refine Kb (kCut ⟨tabSl [(1, .c (.ptr (rid 1 0) 1 0))], obTab 1 [(rid 1 0, ⟨1, 0, .box (r.cells.map .d)⟩)], []⟩ ?_ (fun x hc => ?_))
  case refine_2 =>
    refine Kbc (Kf Y Y (Ke Y Y Y (Kp (ok_impl_NameOk _ pr pr) ⟨⟨⟨Y, trivial⟩, leb⟩, trivial⟩ Y Y Y Y Y (Kw Y Y (Ka Y (kGN Y (fun g0 => (by (simp [*] at g0))) (fun g0 => Ki Y (Kf Y Y (Ki Y (Ke Y Y Y (Ki Y (Kp (ok_impl_TypeOk _) ⟨Y, trivial⟩ Y Y Y Y Y (Ki Y (Kw Y Y (Kl Y (Ka Y (Ka Y (kGN Y (fun g1 => (by (simp [*] at g1))) (fun g1 => Ki Y (Kf Y Y (Ki Y (Ke Y Y Y (Ki Y (Kp (ok_impl_within _ _ _) ⟨Y, Y, Y, trivial⟩ Y Y Y Y Y (Ki Y (Kw Y Y (Kl Y (Ka Y (Kd (kCondN Y (fun g2 => (by (simp [*] at g2))) (fun g2 => Kn (hc _ .normA))))))))))))))))))))))))))))))))
  refine Kb (kCut ⟨tabSl [(1, .c (.ptr (rid 1 0) 1 0)), (3, .b (((r.nums.length : Int) == 0)))], obTab 1 [(rid 1 0, ⟨1, 0, .box (r.cells.map .d)⟩)], []⟩ ?_ (fun x hc => ?_))
  case refine_2 => refine kReg (kFadP rfl rfl (kLoadP rfl rfl rfl (kLenR rfl rfl (kBin rfl rfl rfl (kMovC rfl (kDone (hc _ .normA)))))))
  refine Kb (kCut ⟨tabSl [(1, .c (.ptr (rid 1 0) 1 0)), (3, .b ((if r.ty == 6 then numsOk r.nums else ((r.nums.length : Int) == 0))))], obTab 1 [(rid 1 0, ⟨1, 0, .box (r.cells.map .d)⟩)], []⟩ ?_ (fun x hc => ?_))
  case refine_2 =>
    refine Kbc (Kf Y Y (Ke Y Y Y (Kj Y Y Y (Kd (Km Y (fun g0 => Kc (Kf Y Y (Ke Y Y Y (Kq Y Y (Kj Y Y Y (Ka Y (kGP Y (fun g1 => Ki Y (Kf Y Y (Ki Y (Ke Y Y Y (Ki Y (kIadR Y Y Y om (Ki Y (Ky Y Y (Ki Y (Kp (ok_impl_isWord _) ⟨Y, trivial⟩ Y Y Y Y Y (Kk Y (Ka Y (Ka Y (kGS Y (fun g2 => Ki Y (Kf Y Y (Ki Y (Ke Y Y Y (Ki Y (kIadR Y Y Y om (Ki Y (Ky Y Y (Ki Y (Kp (ok_impl_within _ _ _) ⟨Y, Y, Y, trivial⟩ Y Y Y Y Y (Kk Y (Ka Y (Ka Y (Kd (hc _ .normA))))))))))))))) (fun g2 => Kg Y (Kg Y (Kg Y (Kg Y (Kg Y (Kl Y (Ka Y (Ka Y (Kd (hc _ .normA)))))))))))))))))))))))) (fun g1 => Kg Y (Kg Y (Kg Y (Kg Y (Kg Y (Kl Y (Ka Y (Ka Y (Kg Y (Kg Y (Kg Y (Kg Y (Kg Y (Kl Y (Ka Y (Ka Y (Kd (hc _ .normA))))))))))))))))))))))))) (fun g0 => Kn (hc _ .normA)))))))
  refine Kb (kCut ⟨tabSl [(1, .c (.ptr (rid 1 0) 1 0)), (3, .b ((if r.ty == 6 then numsOk r.nums else ((r.nums.length : Int) == 0)))), (4, .b ((if r.ty == 1 then isW r.addr else r.addr == 0)))], obTab 1 [(rid 1 0, ⟨1, 0, .box (r.cells.map .d)⟩)], []⟩ ?_ (fun x hc => ?_))
  case refine_2 =>
    refine Kc (Kf Y Y (Ke Y Y Y (Kj Y Y Y (Ka Y (kGP Y (fun g0 => Kg Y (Kg Y (Kg Y (Kg Y (kGU Y (kGU Y (kGU Y (Kg Y (Kk Y (Ka Y (Ka Y (Kd (hc _ .normA))))))))))))) (fun g0 => Ki Y (Kf Y Y (Ki Y (Ke Y Y Y (Ki Y (Kj Y Y Y (Ki Y (Ka Y (kGP Y (fun g1 => Ki Y (Kf Y Y (Ki Y (Ke Y Y Y (Ki Y (Kp (ok_impl_isWord _) ⟨Y, trivial⟩ Y Y Y Y Y (Ki Y (Kk Y (Ka Y (Kl Y (Ka Y (Ka Y (Kd (hc _ .normA)))))))))))))) (fun g1 => Kg Y (Kg Y (Kg Y (Ki Y (Kl Y (Ka Y (Kl Y (Ka Y (Ka Y (Kd (hc _ .normA)))))))))))))))))))))))))
  refine Kb (kCut ⟨tabSl [(1, .c (.ptr (rid 1 0) 1 0)), (3, .b ((if r.ty == 6 then numsOk r.nums else ((r.nums.length : Int) == 0)))), (4, .b ((if r.ty == 1 then isW r.addr else r.addr == 0))), (5, .b ((if hasTo r.ty then nameOk r.to else ((r.to.length : Int) == 0))))], obTab 1 [(rid 1 0, ⟨1, 0, .box (r.cells.map .d)⟩)], []⟩ ?_ (fun x hc => ?_))
  case refine_2 =>
    refine Kc (Kf Y Y (Kf Y Y (Ke Y Y Y (Kq Y Y (Kj Y Y Y (Ka Y (kGP Y (fun g0 => Kg Y (Kg Y (Kg Y (Kg Y (kGU Y (kGU Y (kGU Y (Kg Y (Kk Y (Ka Y (Ka Y (Kd (hc _ .normA))))))))))))) (fun g0 => Ki Y (Kf Y Y (Ki Y (Ke Y Y Y (Ki Y (Kp (ok_impl_hasTo _) ⟨Y, trivial⟩ Y Y Y Y Y (Ki Y (Ka Y (kGS Y (fun g1 => Ki Y (Kf Y Y (Ki Y (Ke Y Y Y (Ki Y (Kp (ok_impl_NameOk _ pr pr) ⟨⟨⟨Y, trivial⟩, leb⟩, trivial⟩ Y Y Y Y Y (Ki Y (Kk Y (Ka Y (Kl Y (Ka Y (Ka Y (Kd (hc _ .normA)))))))))))))) (fun g1 => Kg Y (Kg Y (Kg Y (Ki Y (Kl Y (Ka Y (Kl Y (Ka Y (Ka Y (Kd (hc _ .normA)))))))))))))))))))))))))))
  refine Kb (kCut ⟨tabSl [(1, .c (.ptr (rid 1 0) 1 0)), (3, .b ((if r.ty == 6 then numsOk r.nums else ((r.nums.length : Int) == 0)))), (4, .b ((if r.ty == 1 then isW r.addr else r.addr == 0))), (5, .b ((if hasTo r.ty then nameOk r.to else ((r.to.length : Int) == 0)))), (6, .b ((if hasText r.ty then decide ((r.text.length : Int) ≤ 40) else ((r.text.length : Int) == 0))))], obTab 1 [(rid 1 0, ⟨1, 0, .box (r.cells.map .d)⟩)], []⟩ ?_ (fun x hc => ?_))
  case refine_2 =>
    refine Kc (Kf Y Y (Ke Y Y Y (Kq Y Y (Kj Y Y Y (Ka Y (kGP Y (fun g0 => Kg Y (Kg Y (Kg Y (Kg Y (kGU Y (kGU Y (kGU Y (kGU Y (Kg Y (Kk Y (Ka Y (Ka Y (Kd (hc _ .normA)))))))))))))) (fun g0 => Ki Y (Kf Y Y (Ki Y (Ke Y Y Y (Ki Y (Kp (ok_impl_hasText _) ⟨Y, trivial⟩ Y Y Y Y Y (Ki Y (Ka Y (kGS Y (fun g1 => Ki Y (Kf Y Y (Ki Y (Ke Y Y Y (Ki Y (Kq Y Y (Ki Y (Kj Y Y Y (Ki Y (Kk Y (Ka Y (Kl Y (Ka Y (Ka Y (Kd (hc _ .normA)))))))))))))))) (fun g1 => Kg Y (Kg Y (Kg Y (Kg Y (Ki Y (Kl Y (Ka Y (Kl Y (Ka Y (Ka Y (Kd (hc _ .normA)))))))))))))))))))))))))))
  refine Kbc (Ka Y (Ka Y (kGS Y (fun g0 => Ki Y (Ka Y (Kk Y (Ka Y (Ka Y (kGS Y (fun g1 => Ki Y (Ka Y (Kk Y (Ka Y (Ka Y (kGS Y (fun g2 => Ki Y (Ka Y (Kk Y (Ka Y (Ka Y (Kd (Kr (Er (ra := [.one (.d _)]) rfl ?_)))))))) (fun g2 => Kg Y (Kl Y (Ka Y (Ka Y (Kd (Kr (Er (ra := [.one (.d _)]) rfl ?_))))))))))))) (fun g1 => Kg Y (Kl Y (Ka Y (Ka Y (Kg Y (Kl Y (Ka Y (Ka Y (Kd (Kr (Er (ra := [.one (.d _)]) rfl ?_))))))))))))))))) (fun g0 => Kg Y (Kl Y (Ka Y (Ka Y (Kg Y (Kl Y (Ka Y (Ka Y (Kg Y (Kl Y (Ka Y (Ka Y (Kd (Kr (Er (ra := [.one (.d _)]) rfl ?_))))))))))))))))))
  all_goals simp only [dataOk, *, Bool.true_and, Bool.false_and, Bool.and_true, Bool.and_false]

def c_impl_all_impl_Rr_1 : C := (.g (.o 0 2 (.box 2 (.t 0)) (.o 1 3 (.mov (.v (.bool false))) .done)) (.g (.o 0 4 (.load none (.t 1)) (.o 1 5 (.load (some 7) (.t 2)) (.o 2 6 (.callv 6 (.t 4) [(.t 5)]) (.o 3 7 (.un .not (.t 6)) (.o 4 3 (.mov (.t 7)) .done))))) .ret))
theorem dg_impl_all_impl_Rr_1 : Tryz.f238.body.bind (digC Tryz.prog Tryz.f238.ntmps []) = some c_impl_all_impl_Rr_1 := by kernel_rfl
theorem rs_impl_all_impl_Rr_1 : resSlots Tryz.prog Tryz.f238 = some [.s 3] := by kernel_rfl
theorem ok_impl_all_impl_Rr_1 (x : Rr) (D : Rr → Prop) (g : Rr → Bool) (hx : D x) :
    FnOK Tryz.prog 238 [.agg (x.cells.map .d), .one (.ptr [.fv false (fcAgg D Rr.cells g)])] (fun ra _ => ra = [.one (.d (.sc (.bool (!g x))))]) := by
  refine FnOK.ofK Tryz.func238 (by kernel_rfl) dg_impl_all_impl_Rr_1 rs_impl_all_impl_Rr_1 rfl rfl ?_
  delta c_impl_all_impl_Rr_1 T.o X.i C.g
  refine Kbc (kBox Y Y Y Y Y (Ka Y (Kdb (Kc (kLoadC Y Y (Ke Y Y Y ?_))))))
  refine kCallv Y ⟨x, hx, rfl, rfl⟩ ⟨⟨⟨Y, Y, Y, Y, Y, Y, Y, trivial⟩, leb⟩, trivial⟩ (.inr ?_) rfl ?_ rfl ?_
  · rintro _ rfl; rfl
  · rintro _ rfl; exact leb
  rintro _ rfl
  refine Kw Y Y (Ka Y (Kd (Kr (Er (ra := [.one (.d _)]) rfl rfl))))

def c_slices_IndexFunc_Limpl_Rr_impl_Rr : C := (.g (.o 0 4 (.mov (.i 0)) .done) (.seq (.g (.o 0 6 (.mov (.t 0)) (.o 1 7 (.len (.t 6)) (.o 2 8 (.mov (.i 0)) .done))) (.block 0 (.loop (.g (.o 0 9 (.bin .lss (.t 8) (.t 7)) .done) (.seq (.cond (.t 9) .skip (.exit 0)) (.seq (.block 1 (.g (.o 0 10 (.mov (.t 8)) (.o 1 5 (.mov (.t 10)) .done)) (.g (.o 0 11 (.mov (.t 1)) (.o 1 12 (.mov (.t 0)) (.o 2 13 (.mov (.t 5)) (.o 3 14 (.iad 7 (.t 12) (.t 13)) (.o 4 15 (.load (some 7) (.t 14)) (.o 5 16 (.callv 16 (.t 11) [(.t 15)]) .done)))))) (.cond (.t 16) (.g (.o 0 17 (.mov (.t 5)) (.o 1 4 (.mov (.t 17)) .done)) .ret) .skip)))) (.reg false (.o 0 18 (.bin .add (.t 8) (.i 1)) (.o 1 8 (.mov (.t 18)) .done))))))))) (.g (.o 0 4 (.mov (.i (-1))) .done) .ret)))
theorem dg_slices_IndexFunc_Limpl_Rr_impl_Rr : Tryz.f270.body.bind (digC Tryz.prog Tryz.f270.ntmps []) = some c_slices_IndexFunc_Limpl_Rr_impl_Rr := by kernel_rfl
theorem rs_slices_IndexFunc_Limpl_Rr_impl_Rr : resSlots Tryz.prog Tryz.f270 = some [.s 4] := by kernel_rfl
theorem ok_slices_IndexFunc_Limpl_Rr_impl_Rr (l : List Rr) (D : Rr → Prop) (g : Rr → Bool) (hl : l.length ≤ 4194304) (hD : ∀ x ∈ l, D x) :
    FnOK Tryz.prog 270 [.one (.d (encR l)), .one (.fv false (fcAgg D Rr.cells g))] (fun ra _ => ra = [.one (.d (.sc (.int .i64 (idx g l))))]) := by
  refine FnOK.ofK Tryz.func270 (by kernel_rfl) dg_slices_IndexFunc_Limpl_Rr_impl_Rr rs_slices_IndexFunc_Limpl_Rr_impl_Rr rfl rfl ?_
  delta c_slices_IndexFunc_Limpl_Rr_impl_Rr T.o X.i C.g
  refine Kbc (Ka Y (Kdb (Kbc (Ka Y (Kq Y Y (Ka Y (Kd (Kt ?_))))))))
  refine kLoop (α := { i : Nat // i ≤ l.length ∧ ∀ x ∈ l.take i, g x = false })
    (fun y => ⟨tabSl [(0, .dv (encR l)), (1, .c (.fv false (fcAgg D Rr.cells g))), (7, .i l.length), (8, .i y.1)], obTab 1 [], []⟩) (fun y => l.length - y.1) ⟨0, by simp⟩
    .normA ?_
  rintro ⟨i, hi, hg⟩
  simp only
  rcases Nat.lt_or_ge i l.length with hlt | hge
  · refine Kbc (Kj Y Y Y (Kdb (Km Y (fun g0 => Kn (Kb (Kt (Kbc (Ka Y (Ka Y (Kdb (Kc (Ka Y (Ka Y (Ka Y (kIadR Y Y Y om (Ky Y Y ?_))))))))))))) (fun g0 => om))))
    refine kCallv Y ⟨l[i], hD _ (List.getElem_mem hlt), rfl, rfl⟩ ⟨⟨⟨Y, Y, Y, Y, Y, Y, Y, trivial⟩, leb⟩, trivial⟩ (.inr ?_) rfl ?_ rfl ?_
    · rintro _ rfl; rfl
    · rintro _ rfl; exact leb
    rintro _ rfl
    refine Kd (kCond Y (fun g0 => Kbc (Ka Y (Ka Y (Kd (Kr (Er (ra := [.one (.d _)]) rfl ?_)))))) (fun g0 => Kn (Kv (Kc (kAdd Y Y om (Ka Y (Kd ?_)))))))
    · have : l.findIdx? g = some i := by
        rw [List.findIdx?_eq_some_iff_getElem]
        refine ⟨hlt, by assumption, fun j hj => ?_⟩
        simpa using hg _ (by rw [List.mem_take_iff_getElem]; exact ⟨j, by omega, rfl⟩)
      simp [idx, this]
    · refine kInv ⟨⟨i + 1, hlt, ?_⟩, by simp only; omega, .normA⟩
      intro x hx
      rw [← List.take_append_getElem hlt, List.mem_append] at hx
      rcases hx with hx | hx
      · exact hg x hx
      · simp at hx; rw [hx]; assumption
  · refine Kbc (Kj Y Y Y (Kdb (Km Y (fun g0 => om) (fun g0 => kExit (kExC (kExI (kExB (Kbc (Ka Y (Kd (Kr (Er (ra := [.one (.d _)]) rfl ?_))))))))))))
    have : l.findIdx? g = none := by
      rw [List.findIdx?_eq_none_iff]
      intro x hx
      rw [show i = l.length by omega, List.take_length] at hg
      exact hg x hx
    simp [idx, this]

def c_slices_ContainsFunc_Limpl_Rr_impl_Rr : C := (.g (.o 0 4 (.mov (.v (.bool false))) .done) (.g (.o 0 5 (.mov (.t 0)) (.o 1 6 (.mov (.t 1)) (.o 2 7 (.call 7 270 [(.t 5), (.t 6)]) (.o 3 8 (.bin .geq (.t 7) (.i 0)) (.o 4 4 (.mov (.t 8)) .done))))) .ret))
theorem dg_slices_ContainsFunc_Limpl_Rr_impl_Rr : Tryz.f197.body.bind (digC Tryz.prog Tryz.f197.ntmps []) = some c_slices_ContainsFunc_Limpl_Rr_impl_Rr := by kernel_rfl
theorem rs_slices_ContainsFunc_Limpl_Rr_impl_Rr : resSlots Tryz.prog Tryz.f197 = some [.s 4] := by kernel_rfl
theorem ok_slices_ContainsFunc_Limpl_Rr_impl_Rr (l : List Rr) (D : Rr → Prop) (g : Rr → Bool) (hl : l.length ≤ 4194304) (hD : ∀ x ∈ l, D x) :
    FnOK Tryz.prog 197 [.one (.d (encR l)), .one (.fv false (fcAgg D Rr.cells g))] (fun ra _ => ra = [.one (.d (.sc (.bool (l.any g))))]) := by
  refine FnOK.ofK Tryz.func197 (by kernel_rfl) dg_slices_ContainsFunc_Limpl_Rr_impl_Rr rs_slices_ContainsFunc_Limpl_Rr_impl_Rr rfl rfl ?_
  delta c_slices_ContainsFunc_Limpl_Rr_impl_Rr T.o X.i C.g
  refine Kbc (Ka Y (Kdb (Kc (Ka Y (Ka Y ?_)))))
  refine Ku true (ok_slices_IndexFunc_Limpl_Rr_impl_Rr l D g hl hD) ⟨rfl, ⟨fun h => h, fun _ _ h => h⟩, trivial⟩ rfl rfl rfl fun os => ?_
  rw [← idx_ge g l]
  refine Kj Y Y Y (Ka Y (Kd (Kr (Er (ra := [.one (.d _)]) rfl rfl))))

def c_impl_all_impl_Rr : C := (.g (.o 0 3 (.box 3 (.t 1)) (.o 1 4 (.mov (.v (.bool false))) .done)) (.g (.o 0 5 (.mov (.t 0)) (.o 1 6 (.clo 238 [] [(.t 3)]) (.o 2 7 (.call 7 197 [(.t 5), (.t 6)]) (.o 3 8 (.un .not (.t 7)) (.o 4 4 (.mov (.t 8)) .done))))) .ret))
theorem dg_impl_all_impl_Rr : Tryz.f158.body.bind (digC Tryz.prog Tryz.f158.ntmps []) = some c_impl_all_impl_Rr := by kernel_rfl
theorem rs_impl_all_impl_Rr : resSlots Tryz.prog Tryz.f158 = some [.s 4] := by kernel_rfl
theorem ok_impl_all_impl_Rr (l : List Rr) (D : Rr → Prop) (g : Rr → Bool) (hl : l.length ≤ 4194304) (hD : ∀ x ∈ l, D x) :
    FnOK Tryz.prog 158 [.one (.d (encR l)), .one (.fv false (fcAgg D Rr.cells g))] (fun ra _ => ra = [.one (.d (.sc (.bool (l.all g))))]) := by
  refine FnOK.ofK Tryz.func158 (by kernel_rfl) dg_impl_all_impl_Rr rs_impl_all_impl_Rr rfl rfl ?_
  delta c_impl_all_impl_Rr T.o X.i C.g
  refine Kbc (kBox Y Y Y Y Y (Ka Y (Kdb (Kc (Ka Y (kClo Y Y ?_))))))
  refine Ku true (ok_slices_ContainsFunc_Limpl_Rr_impl_Rr l D (fun x => !g x) hl hD) ⟨rfl, ⟨rfl, ⟨_, Tryz.func238, rfl, by kernel_rfl⟩, _, rfl, ?_⟩, trivial⟩ rfl rfl rfl fun os => ?_
  · rintro _ R ⟨x, hx, rfl, rfl⟩
    exact ⟨by rintro _ rfl; rfl, ok_impl_all_impl_Rr_1 x D g hx⟩
  rw [List.all_eq_not_any_not]
  refine Kw Y Y (Ka Y (Kd (Kr (Er (ra := [.one (.d _)]) rfl rfl))))

def c_impl_areRrs : C := (.g (.o 0 2 (.mov (.v (.bool false))) .done) (.g (.o 0 3 (.mov (.t 0)) (.o 1 4 (.len (.t 3)) (.o 2 5 (.bin .leq (.t 4) (.i 12)) (.o 3 6 (.mov (.t 5)) (.op 4 [] (some 7) (some (6, true)) false (.mov (.t 0)) (.op 5 [] (some 8) (some (6, true)) false (.call 8 158 [(.t 7), (.fn 159)]) (.o 6 9 (.pick (.t 6) (.t 8) (.v (.bool false))) (.o 7 2 (.mov (.t 9)) .done)))))))) .ret))
theorem dg_impl_areRrs : Tryz.f112.body.bind (digC Tryz.prog Tryz.f112.ntmps []) = some c_impl_areRrs := by kernel_rfl
theorem rs_impl_areRrs : resSlots Tryz.prog Tryz.f112 = some [.s 2] := by kernel_rfl
theorem ok_impl_areRrs (l : List Rr) (hs : SmallRs l) :
    FnOK Tryz.prog 112 [.one (.d (encR l))] (fun ra _ => ra = [.one (.d (.sc (.bool (rrsOk l))))]) := by
  refine FnOK.ofK Tryz.func112 (by kernel_rfl) dg_impl_areRrs rs_impl_areRrs rfl rfl ?_
  delta c_impl_areRrs T.o X.i C.g
  have h1 := hs.len
  refine Kbc (Ka Y (Kdb (Kc (Ka Y (Kq Y Y (Kj Y Y Y (Ka Y (kGP Y (fun g0 => Ki Y (Ka Y (Ki Y ?_))) (fun g0 => Kg Y (Kg Y (Kl Y (Ka Y (Ka Y (Kd (Kr (Er (ra := [.one (.d _)]) rfl ?_))))))))))))))))
  · refine Kp (ok_impl_all_impl_Rr l SmallR rrOk h1 hs.mem) ⟨rfl, ⟨rfl, rfl, ⟨_, Tryz.func159, rfl, by kernel_rfl⟩, ?_⟩, trivial⟩ Y Y Y Y Y ?_
    · rintro _ R ⟨x, h, rfl, rfl⟩
      exact ok_impl_RrOk x h
    refine Kk Y (Ka Y (Ka Y (Kd (Kr (Er (ra := [.one (.d _)]) rfl ?_)))))
    rw [show rrsOk l = l.all rrOk by simp only [rrsOk]; rw [decide_eq_true (by omega)]; rfl]
  · rw [show rrsOk l = false by simp only [rrsOk]; rw [decide_eq_false (by omega)]; rfl]

theorem ok_bytes_Compare (a b : List UInt8) : FnOK Tryz.prog 226 [.one (.d (encB a)), .one (.d (encB b))] (fun ra _ => ra = [.one (.d (.sc (.int .i64 (cmpB a b))))]) := by
  refine FnOK.ofWalkB Tryz.func226 rfl (by kernel_rfl) fun w va vb h1 h2 => ?_
  have hc := run_compare (P := Tryz.prog) (w := w) (va := va) (vb := vb) Tryz.func291 (by kernel_rfl) rfl (by kernel_rfl) (by kernel_rfl) h1 h2
  go_enter Tryz.func226, Tryz.ntmps226
  go_wp2
  all_goals go_ret
  exact ⟨rfl, Go.RowKit.Below.refl _ _, by first | exact Nat.le_refl _ | exact Nat.le_succ _ | (simp only [Go.World.drew, Go.World.drewN]; omega)⟩

def c_cmp_isNaN_int : C := (.g (.o 0 2 (.mov (.v (.bool false))) .done) (.g (.o 0 3 (.mov (.t 0)) (.o 1 4 (.mov (.t 0)) (.o 2 5 (.bin .neq (.t 3) (.t 4)) (.o 3 2 (.mov (.t 5)) .done)))) .ret))
theorem dg_cmp_isNaN_int : Tryz.f290.body.bind (digC Tryz.prog Tryz.f290.ntmps []) = some c_cmp_isNaN_int := by kernel_rfl
theorem rs_cmp_isNaN_int : resSlots Tryz.prog Tryz.f290 = some [.s 2] := by kernel_rfl
theorem ok_cmp_isNaN_int (a : Int) :
    FnOK Tryz.prog 290 [.one (.d (.sc (.int .i64 a)))] (fun ra _ => ra = [.one (.d (.sc (.bool false)))]) := by
  refine FnOK.ofK Tryz.func290 (by kernel_rfl) dg_cmp_isNaN_int rs_cmp_isNaN_int rfl rfl ?_
  delta c_cmp_isNaN_int T.o X.i C.g
  refine Kbc (Ka Y (Kdb (Kc (Ka Y (Ka Y (Kj Y Y Y (Ka Y (Kd (Kr (Er (ra := [.one (.d _)]) rfl ?_))))))))))
  rw [show (a != a) = false by simp]

def c_cmp_Compare_int : C := (.g (.o 0 4 (.mov (.i 0)) .done) (.g (.o 0 7 (.mov (.t 0)) (.o 1 8 (.call 8 290 [(.t 7)]) (.o 2 5 (.mov (.t 8)) .done))) (.g (.o 0 9 (.mov (.t 1)) (.o 1 10 (.call 10 290 [(.t 9)]) (.o 2 6 (.mov (.t 10)) .done))) (.seq (.g (.o 0 11 (.mov (.t 5)) .done) (.cond (.t 11) (.seq (.g (.o 0 12 (.mov (.t 6)) .done) (.cond (.t 12) (.g (.o 0 4 (.mov (.i 0)) .done) .ret) .skip)) (.g (.o 0 4 (.mov (.i (-1))) .done) .ret)) .skip)) (.seq (.g (.o 0 13 (.mov (.t 6)) .done) (.cond (.t 13) (.g (.o 0 4 (.mov (.i 1)) .done) .ret) .skip)) (.seq (.g (.o 0 14 (.mov (.t 0)) (.o 1 15 (.mov (.t 1)) (.o 2 16 (.bin .lss (.t 14) (.t 15)) .done))) (.cond (.t 16) (.g (.o 0 4 (.mov (.i (-1))) .done) .ret) .skip)) (.seq (.g (.o 0 17 (.mov (.t 0)) (.o 1 18 (.mov (.t 1)) (.o 2 19 (.bin .gtr (.t 17) (.t 18)) .done))) (.cond (.t 19) (.g (.o 0 4 (.mov (.i 1)) .done) .ret) .skip)) (.g (.o 0 4 (.mov (.i 0)) .done) .ret))))))))
theorem dg_cmp_Compare_int : Tryz.f225.body.bind (digC Tryz.prog Tryz.f225.ntmps []) = some c_cmp_Compare_int := by kernel_rfl
theorem rs_cmp_Compare_int : resSlots Tryz.prog Tryz.f225 = some [.s 4] := by kernel_rfl
theorem ok_cmp_Compare_int (a b : Int) :
    FnOK Tryz.prog 225 [.one (.d (.sc (.int .i64 a))), .one (.d (.sc (.int .i64 b)))] (fun ra _ => ra = [.one (.d (.sc (.int .i64 (cmpI a b))))]) := by
  refine FnOK.ofK Tryz.func225 (by kernel_rfl) dg_cmp_Compare_int rs_cmp_Compare_int rfl rfl ?_
  delta c_cmp_Compare_int T.o X.i C.g
  refine Kbc (Ka Y (Kdb (Kc (Ka Y (Kp (ok_cmp_isNaN_int _) ⟨Y, trivial⟩ Y Y Y Y Y (Ka Y (Kdb (Kc (Ka Y (Kp (ok_cmp_isNaN_int _) ⟨Y, trivial⟩ Y Y Y Y Y (Ka Y (Kdb (Kbc (Ka Y (Kd (kCondF Y (Kn (Kb (Kbc (Ka Y (Kd (kCondF Y (Kn (Kb (Kbc (Ka Y (Ka Y (Kj Y Y Y (Kd (Km Y (fun g0 => Kbc (Ka Y (Kd (Kr (Er (ra := [.one (.d _)]) rfl ?_))))) (fun g0 => Kn (Kb (Kbc (Ka Y (Ka Y (Kj Y Y Y (Kd (Km Y (fun g1 => Kbc (Ka Y (Kd (Kr (Er (ra := [.one (.d _)]) rfl ?_))))) (fun g1 => Kn (Kbc (Ka Y (Kd (Kr (Er (ra := [.one (.d _)]) rfl ?_))))))))))))))))))))))))))))))))))))))))))))
  all_goals (refine congrArg (fun z : Int => [RA.one (RV.d (DV.sc (Value.int IntKind.i64 z)))]) ?_; unfold cmpI; split <;> first | omega | (split <;> omega))

def c_impl_Name_compare : C := (.g (.o 0 2 (.box 2 (.t 0)) (.o 1 3 (.box 3 (.t 1)) (.o 2 4 (.mov (.i 0)) .done))) (.seq (.g (.o 0 5 (.mov (.i 1)) .done) (.block 0 (.loop (.seq (.g (.o 0 7 (.mov (.t 5)) (.o 1 8 (.fad (.t 2) 0) (.o 2 9 (.load none (.t 8)) (.o 3 10 (.len (.t 9)) (.o 4 11 (.fad (.t 3) 0) (.o 5 12 (.load none (.t 11)) (.o 6 13 (.len (.t 12)) (.o 7 14 (.mm false (.t 10) (.t 13)) (.o 8 15 (.bin .leq (.t 7) (.t 14)) .done))))))))) (.cond (.t 15) .skip (.exit 0))) (.seq (.block 1 (.seq (.reg true (.op 0 [] (some 18) none true (.fad (.t 2) 0) (.op 1 [] (some 19) none true (.load none (.t 18)) (.op 2 [] (some 20) none true (.fad (.t 2) 0) (.op 3 [] (some 21) none true (.load none (.t 20)) (.op 4 [] (some 22) none true (.len (.t 21)) (.op 5 [] (some 23) none true (.mov (.t 5)) (.op 6 [] (some 24) none true (.bin .sub (.t 22) (.t 23)) (.op 7 [] (some 25) none true (.iad 1 (.t 19) (.t 24)) (.op 8 [] (some 26) none true (.load none (.t 25)) (.op 9 [] (some 27) none true (.fad (.t 3) 0) (.op 10 [] (some 28) none true (.load none (.t 27)) (.op 11 [] (some 29) none true (.fad (.t 3) 0) (.op 12 [] (some 30) none true (.load none (.t 29)) (.op 13 [] (some 31) none true (.len (.t 30)) (.op 14 [] (some 32) none true (.mov (.t 5)) (.op 15 [] (some 33) none true (.bin .sub (.t 31) (.t 32)) (.op 16 [] (some 34) none true (.iad 1 (.t 28) (.t 33)) (.op 17 [] (some 35) none true (.load none (.t 34)) (.op 18 [8, 1, 3, 17, 10, 12] (some 36) none false (.call 36 226 [(.t 26), (.t 35)]) (.op 19 [] (some 6) none true (.mov (.t 36)) .done))))))))))))))))))))) (.g (.o 0 37 (.mov (.t 6)) (.o 1 38 (.bin .neq (.t 37) (.i 0)) .done)) (.cond (.t 38) (.g (.o 0 39 (.mov (.t 6)) (.o 1 4 (.mov (.t 39)) .done)) .ret) .skip)))) (.reg false (.o 0 16 (.mov (.t 5)) (.o 1 17 (.bin .add (.t 16) (.i 1)) (.o 2 5 (.mov (.t 17)) .done))))))))) (.g (.o 0 40 (.fad (.t 2) 0) (.o 1 41 (.load none (.t 40)) (.o 2 42 (.len (.t 41)) (.o 3 43 (.fad (.t 3) 0) (.o 4 44 (.load none (.t 43)) (.o 5 45 (.len (.t 44)) (.o 6 46 (.call 46 225 [(.t 42), (.t 45)]) (.o 7 4 (.mov (.t 46)) .done)))))))) .ret)))
theorem dg_impl_Name_compare : Tryz.f221.body.bind (digC Tryz.prog Tryz.f221.ntmps []) = some c_impl_Name_compare := by kernel_rfl
theorem rs_impl_Name_compare : resSlots Tryz.prog Tryz.f221 = some [.s 4] := by kernel_rfl
theorem ok_impl_Name_compare (a b : List (List UInt8)) (ha : a.length ≤ 4194304) (hb : b.length ≤ 4194304) :
    FnOK Tryz.prog 221 [.agg [.d (encBB a)], .agg [.d (encBB b)]] (fun ra _ => ra = [.one (.d (.sc (.int .i64 (cmpN a b))))]) := by
  refine FnOK.ofK Tryz.func221 (by kernel_rfl) dg_impl_Name_compare rs_impl_Name_compare rfl rfl ?_
  delta c_impl_Name_compare T.o X.i C.g
  refine Kbc (kBox Y Y Y Y Y (kBox Y Y Y Y Y (Ka Y (Kdb (Kbc (Ka Y (Kd (Kt ?_))))))))
  refine kLoop (α := { k : Nat // k ≤ a.length ∧ k ≤ b.length ∧ cmpN a b = cmpL (a.reverse.drop k) (b.reverse.drop k) })
    (fun y => ⟨tabSl [(2, .c (.ptr (rid 2 0) 1 0)), (3, .c (.ptr (rid 3 0) 1 0)), (5, .i (y.1 + 1))], obTab 1 [(rid 2 0, ⟨1, 0, .box [.d (encBB a)]⟩), (rid 3 0, ⟨1, 0, .box [.d (encBB b)]⟩)], []⟩) (fun y => a.length - y.1) ⟨0, by simp [cmpN]⟩
    .normA ?_
  rintro ⟨k, h1, h2, h3⟩
  simp only
  rcases Nat.lt_or_ge k a.length with hla | hga
  · rcases Nat.lt_or_ge k b.length with hlb | hgb
    · have hst := cmpL_step a b k hla hlb (a.length - (k + 1) : Int).toNat (b.length - (k + 1) : Int).toNat (by omega) (by omega)
      refine Kb (Kbc (Ka Y (Kf Y Y (Ke Y Y Y (Kq Y Y (Kf Y Y (Ke Y Y Y (Kq Y Y (kMmMin Y Y (Kj Y Y Y (Kd (Km Y (fun g0 => Kn (Kb (Kt (Kb (kRegD (Kf Y Y (Ke Y Y Y (Kf Y Y (Ke Y Y Y (Kq Y Y (Ka Y (kDif Y Y om (kIadT Y Y om (Ky Y Y (Kf Y Y (Ke Y Y Y (Kf Y Y (Ke Y Y Y (Kq Y Y (Ka Y (kDif Y Y om (kIadT Y Y om (Ky Y Y (Ks Y Y (Kp (ok_bytes_Compare _ _) ⟨Y, Y, trivial⟩ Y Y Y Y Y (Ka Y (Kd (kH (Kbc (Ka Y (Kj Y Y Y (Kd (kCondIN Y (fun g1 => Kbc (Ka Y (Ka Y (Kd (Kr (Er (ra := [.one (.d _)]) rfl ?_)))))) (fun g1 => Kn (Kv (Kc (Ka Y (kAdd Y Y om (Ka Y (Kd ?_)))))))))))))))))))))))))))))))))))))))) (fun g0 => om)))))))))))))
      · rw [h3, hst, if_neg (by assumption)]
      · refine kInv ⟨⟨k + 1, hla, hlb, ?_⟩, by simp only; omega, .normA⟩
        rw [h3, hst, if_pos (by assumption)]
    · rw [cmpL_end a b k h1 h2 (by omega)] at h3
      refine Kb (Kbc (Ka Y (Kf Y Y (Ke Y Y Y (Kq Y Y (Kf Y Y (Ke Y Y Y (Kq Y Y (kMmMin Y Y (Kj Y Y Y (Kd (Km Y (fun g0 => om) (fun g0 => kExit (kExC (kExI (kExB (Kbc (Kf Y Y (Ke Y Y Y (Kq Y Y (Kf Y Y (Ke Y Y Y (Kq Y Y (Kp (ok_cmp_Compare_int _ _) ⟨Y, Y, trivial⟩ Y Y Y Y Y (Ka Y (Kd (Kr (Er (ra := [.one (.d _)]) rfl ?_))))))))))))))))))))))))))))
      all_goals (rw [h3]; refine congrArg (fun z : Int => [RA.one (RV.d (DV.sc (Value.int IntKind.i64 z)))]) ?_; unfold cmpI; split <;> (repeat' split) <;> omega)
  · rw [cmpL_end a b k h1 h2 (by omega)] at h3
    refine Kb (Kbc (Ka Y (Kf Y Y (Ke Y Y Y (Kq Y Y (Kf Y Y (Ke Y Y Y (Kq Y Y (kMmMin Y Y (Kj Y Y Y (Kd (Km Y (fun g0 => om) (fun g0 => kExit (kExC (kExI (kExB (Kbc (Kf Y Y (Ke Y Y Y (Kq Y Y (Kf Y Y (Ke Y Y Y (Kq Y Y (Kp (ok_cmp_Compare_int _ _) ⟨Y, Y, trivial⟩ Y Y Y Y Y (Ka Y (Kd (Kr (Er (ra := [.one (.d _)]) rfl ?_))))))))))))))))))))))))))))
    all_goals (rw [h3]; refine congrArg (fun z : Int => [RA.one (RV.d (DV.sc (Value.int IntKind.i64 z)))]) ?_; unfold cmpI; split <;> (repeat' split) <;> omega)

def c_impl_Name_is : C := (.g (.o 0 2 (.box 2 (.t 0)) (.o 1 3 (.box 3 (.t 1)) (.o 2 4 (.mov (.v (.bool false))) .done))) (.g (.o 0 5 (.load (some 1) (.t 2)) (.o 1 6 (.load (some 1) (.t 3)) (.o 2 7 (.call 7 221 [(.t 5), (.t 6)]) (.o 3 8 (.bin .eql (.t 7) (.i 0)) (.o 4 4 (.mov (.t 8)) .done))))) .ret))
theorem dg_impl_Name_is : Tryz.f131.body.bind (digC Tryz.prog Tryz.f131.ntmps []) = some c_impl_Name_is := by kernel_rfl
theorem rs_impl_Name_is : resSlots Tryz.prog Tryz.f131 = some [.s 4] := by kernel_rfl
theorem ok_impl_Name_is (a b : List (List UInt8)) (ha : a.length ≤ 4194304) (hb : b.length ≤ 4194304) :
    FnOK Tryz.prog 131 [.agg [.d (encBB a)], .agg [.d (encBB b)]] (fun ra _ => ra = [.one (.d (.sc (.bool (decide (a = b)))))]) := by
  refine FnOK.ofK Tryz.func131 (by kernel_rfl) dg_impl_Name_is rs_impl_Name_is rfl rfl ?_
  delta c_impl_Name_is T.o X.i C.g
  rw [← cmpN_zero]
  refine Kbc (kBox Y Y Y Y Y (kBox Y Y Y Y Y (Ka Y (Kdb (Kc (Ke Y Y Y (Ke Y Y Y (Kp (ok_impl_Name_compare _ _ pr pr) ⟨⟨⟨Y, trivial⟩, leb⟩, ⟨⟨Y, trivial⟩, leb⟩, trivial⟩ Y Y Y Y Y (Kj Y Y Y (Ka Y (Kd (Kr (Er (ra := [.one (.d _)]) rfl rfl)))))))))))))

def c_impl_two : C := (.g (.o 0 2 (.mov (.n 1)) .done) (.g (.o 0 3 (.mov (.t 0)) (.o 1 4 (.bin .shr (.t 3) (.v (.int .u64 8))) (.o 2 5 (.conv .u8 (.t 4)) (.o 3 6 (.mov (.t 0)) (.o 4 7 (.conv .u8 (.t 6)) (.o 5 8 (.lit 8 1 [(.v (.int .u8 0))] 2 [(0, 1, (.t 5)), (1, 1, (.t 7))]) (.o 6 2 (.mov (.t 8)) .done))))))) .ret))
theorem dg_impl_two : Tryz.f212.body.bind (digC Tryz.prog Tryz.f212.ntmps []) = some c_impl_two := by kernel_rfl
theorem rs_impl_two : resSlots Tryz.prog Tryz.f212 = some [.s 2] := by kernel_rfl
theorem ok_impl_two (n : Int) :
    FnOK Tryz.prog 212 [.one (.d (.sc (.int .i64 n)))] (fun ra _ => ra = [.one (.own true (encB (w2 n)))]) := by
  refine FnOK.ofK Tryz.func212 (by kernel_rfl) dg_impl_two rs_impl_two rfl rfl ?_
  delta c_impl_two T.o X.i C.g
  refine Kbc (Ka Y (Kdb (Kc (Ka Y (kShr (m := 8) Y Y Y (kConvU8 Y (Ka Y (kConvU8 Y (kLit Y Y Y Y (Ka Y (Kd (Kr (Er (ra := [.one (.own true _)]) rfl rfl)))))))))))))

def c_impl_four : C := (.g (.o 0 2 (.mov (.n 1)) .done) (.g (.o 0 3 (.mov (.t 0)) (.o 1 4 (.bin .shr (.t 3) (.v (.int .u64 16))) (.o 2 5 (.call 5 212 [(.t 4)]) (.o 3 6 (.mov (.t 0)) (.o 4 7 (.call 7 212 [(.t 6)]) (.o 5 8 (.app 8 1 1 (.t 5) (.t 7)) (.o 6 2 (.mov (.t 8)) .done))))))) .ret))
theorem dg_impl_four : Tryz.f292.body.bind (digC Tryz.prog Tryz.f292.ntmps []) = some c_impl_four := by kernel_rfl
theorem rs_impl_four : resSlots Tryz.prog Tryz.f292 = some [.s 2] := by kernel_rfl
theorem ok_impl_four (n : Int) :
    FnOK Tryz.prog 292 [.one (.d (.sc (.int .i64 n)))] (fun ra _ => ra = [.one (.own true (encB (w4 n)))]) := by
  refine FnOK.ofK Tryz.func292 (by kernel_rfl) dg_impl_four rs_impl_four rfl rfl ?_
  delta c_impl_four T.o X.i C.g
  rw [← w4_two]
  have hl : ∀ m, (w2 m).length = 2 := fun _ => rfl
  have l1 := hl (sr n 16)
  have l2 := hl n
  refine Kbc (Ka Y (Kdb (Kc (Ka Y (kShr (m := 16) Y Y Y (Ku true (ok_impl_two _) ⟨Y, trivial⟩ Y Y Y (fun _ => (Ka Y (Ku true (ok_impl_two _) ⟨Y, trivial⟩ Y Y Y (fun _ => (kAppR Y Y Y Y Y Y Y Y om (Ka Y (Kd (Kr (Er (ra := [.one (.own true _)]) rfl rfl)))))))))))))))

def c_impl_Name_wire : C := (.g (.o 0 1 (.box 1 (.t 0)) (.o 1 2 (.mov (.n 1)) .done)) (.g (.o 0 6 (.lit 6 1 [(.v (.int .u8 0))] 0 []) (.o 1 3 (.mov (.t 6)) .done)) (.seq (.g (.o 0 7 (.fad (.t 1) 0) (.o 1 8 (.load none (.t 7)) (.o 2 9 (.len (.t 8)) (.o 3 10 (.mov (.i 0)) .done)))) (.block 0 (.loop (.g (.o 0 11 (.bin .lss (.t 10) (.t 9)) .done) (.seq (.cond (.t 11) .skip (.exit 0)) (.seq (.block 1 (.g (.o 0 12 (.iad 1 (.t 8) (.t 10)) (.o 1 13 (.load none (.t 12)) (.o 2 5 (.mov (.t 13)) .done))) (.reg false (.o 0 14 (.mov (.t 3)) (.o 1 15 (.mov (.t 5)) (.o 2 16 (.len (.t 15)) (.o 3 17 (.conv .u8 (.t 16)) (.o 4 18 (.lit 18 1 [(.v (.int .u8 0))] 1 [(0, 1, (.t 17))]) (.o 5 19 (.app 19 1 1 (.t 14) (.t 18)) (.o 6 20 (.mov (.t 5)) (.o 7 21 (.app 21 1 1 (.t 19) (.t 20)) (.o 8 3 (.mov (.t 21)) .done)))))))))))) (.reg false (.o 0 22 (.bin .add (.t 10) (.i 1)) (.o 1 10 (.mov (.t 22)) .done))))))))) (.g (.o 0 23 (.mov (.t 3)) (.o 1 24 (.lit 24 1 [(.v (.int .u8 0))] 1 [(0, 1, (.v (.int .u8 0)))]) (.o 2 25 (.app 25 1 1 (.t 23) (.t 24)) (.o 3 2 (.mov (.t 25)) .done)))) .ret))))
theorem dg_impl_Name_wire : Tryz.f214.body.bind (digC Tryz.prog Tryz.f214.ntmps []) = some c_impl_Name_wire := by kernel_rfl
theorem rs_impl_Name_wire : resSlots Tryz.prog Tryz.f214 = some [.s 2] := by kernel_rfl
theorem ok_impl_Name_wire (a : List (List UInt8)) (hs : SmallBB a) :
    FnOK Tryz.prog 214 [.agg [.d (encBB a)]] (fun ra _ => ra = [.one (.own true (encB (wireN a)))]) := by
  refine FnOK.ofK Tryz.func214 (by kernel_rfl) dg_impl_Name_wire rs_impl_Name_wire rfl rfl ?_
  delta c_impl_Name_wire T.o X.i C.g
  have h1 := hs.len
  have h2 := hs.flat
  refine Kbc (kBox Y Y Y Y Y (Ka Y (Kdb (Kc (kLit Y Y Y Y (Ka Y (Kdb (Kbc (Kf Y Y (Ke Y Y Y (Kq Y Y (Ka Y (Kd (Kt ?_))))))))))))))
  refine kLoop (α := { i : Nat // i ≤ a.length }) (fun y => ⟨tabSl [(3, .c (.arr (rid 6 0) 1)), (8, .dv (encBB a)), (9, .i a.length), (10, .i y.1)], obTab 1 [(rid 6 0, ⟨1, 0, .arr true (encB (wireL (a.take y.1)))⟩)], []⟩) (fun y => a.length - y.1) ⟨0, by simp⟩ .normA ?_
  rintro ⟨i, hi⟩
  simp only
  have hl := wireL_le a i
  rcases Nat.lt_or_ge i a.length with hlt | hge
  · have hst := wireL_take a i hlt
    have hm := hs.mem _ (List.getElem_mem hlt)
    have hlen : (wireL (a.take i) ++ [u8 a[i].length]).length = (wireL (a.take i)).length + 1 := by simp
    refine Kbc (Kj Y Y Y (Kdb (Km Y (fun g0 => Kn (Kb (Kt (Kbc (kIadR Y Y Y om (Ky Y Y (Ka Y (Kd (Kc (Ka Y (Ka Y (Kq Y Y (kConvU8 Y (kLit Y Y Y Y (kAppR1 Y Y Y Y Y Y Y Y om (Ka Y (kAppR Y Y Y (src_encB _ _) rfl rfl rfl rfl om (Ka Y (Kd (Kv (Kc (kAdd Y Y om (Ka Y (Kd ?_)))))))))))))))))))))))) (fun g0 => om))))
    refine kInv ⟨⟨i + 1, by omega⟩, by simp only; omega, ?_⟩
    simp only [hst]
    exact .normA
  · have he : wireN a = wireL (a.take i) ++ [0] := by rw [show i = a.length by omega, List.take_length]; rfl
    rw [he]
    refine Kbc (Kj Y Y Y (Kdb (Km Y (fun g0 => om) (fun g0 => kExit (kExC (kExI (kExB (Kbc (Ka Y (kLit Y Y Y Y (kAppR1 (z := (0 : UInt8)) rfl rfl rfl rfl rfl rfl rfl rfl om (Ka Y (Kd (Kr (Er (ra := [.one (.own true _)]) rfl rfl)))))))))))))))

def c_impl_Rr_data : C := (.g (.o 0 1 (.box 1 (.t 0)) (.o 1 2 (.mov (.n 1)) .done)) (.seq (.block 0 (.g (.o 0 7 (.fad (.t 1) 1) (.o 1 8 (.load none (.t 7)) (.o 2 9 (.bin .eql (.t 8) (.i 1)) (.o 3 6 (.mov (.t 9)) .done)))) (.cond (.t 6) (.g (.o 0 10 (.fad (.t 1) 3) (.o 1 11 (.load none (.t 10)) (.o 2 12 (.call 12 292 [(.t 11)]) (.o 3 2 (.mov (.t 12)) .done)))) .ret) (.g (.o 0 14 (.fad (.t 1) 1) (.o 1 15 (.load none (.t 14)) (.o 2 16 (.call 16 239 [(.t 15)]) (.o 3 13 (.mov (.t 16)) .done)))) (.cond (.t 13) (.g (.o 0 17 (.fad (.t 1) 4) (.o 1 18 (.load (some 1) (.t 17)) (.o 2 19 (.call 19 214 [(.t 18)]) (.o 3 3 (.mov (.t 19)) .done)))) (.seq (.g (.o 0 20 (.fad (.t 1) 6) (.o 1 21 (.load none (.t 20)) (.o 2 22 (.len (.t 21)) (.o 3 23 (.mov (.i 0)) .done)))) (.block 1 (.loop (.g (.o 0 24 (.bin .lss (.t 23) (.t 22)) .done) (.seq (.cond (.t 24) .skip (.exit 1)) (.seq (.block 2 (.g (.o 0 25 (.iad 1 (.t 21) (.t 23)) (.o 1 26 (.load none (.t 25)) (.o 2 5 (.mov (.t 26)) .done))) (.reg false (.o 0 27 (.mov (.t 3)) (.o 1 28 (.mov (.t 5)) (.o 2 29 (.call 29 292 [(.t 28)]) (.o 3 30 (.app 30 1 1 (.t 27) (.t 29)) (.o 4 3 (.mov (.t 30)) .done)))))))) (.reg false (.o 0 31 (.bin .add (.t 23) (.i 1)) (.o 1 23 (.mov (.t 31)) .done))))))))) (.g (.o 0 32 (.mov (.t 3)) (.o 1 2 (.mov (.t 32)) .done)) .ret))) .skip))))) (.g (.o 0 33 (.fad (.t 1) 5) (.o 1 34 (.load none (.t 33)) (.o 2 35 (.len (.t 34)) (.o 3 36 (.conv .u8 (.t 35)) (.o 4 37 (.lit 37 1 [(.v (.int .u8 0))] 1 [(0, 1, (.t 36))]) (.o 5 38 (.fad (.t 1) 5) (.o 6 39 (.load none (.t 38)) (.o 7 40 (.app 40 1 1 (.t 37) (.t 39)) (.o 8 2 (.mov (.t 40)) .done))))))))) .ret)))
theorem dg_impl_Rr_data : Tryz.f227.body.bind (digC Tryz.prog Tryz.f227.ntmps []) = some c_impl_Rr_data := by kernel_rfl
theorem rs_impl_Rr_data : resSlots Tryz.prog Tryz.f227 = some [.s 2] := by kernel_rfl
theorem ok_impl_Rr_data (r : Rr) (hs : SmallR r) :
    FnOK Tryz.prog 227 [.agg (r.cells.map .d)] (fun ra _ => ra = [.one (.own true (encB (rdata r)))]) := by
  refine FnOK.ofK Tryz.func227 (by kernel_rfl) dg_impl_Rr_data rs_impl_Rr_data rfl rfl ?_
  delta c_impl_Rr_data T.o X.i C.g
  have ht := hs.t
  have t1 := hs.t.len
  have t2 := hs.t.flat
  have x1 := hs.x
  have m1 := hs.m
  by_cases h1 : r.ty = 1
  · rw [rdata_A h1]
    refine Kbc (kBox Y Y Y Y Y (Ka Y (Kdb (Kt (Kbc (Kf Y Y (Ke Y Y Y (Kj Y Y Y (Ka Y (Kd (Km Y (fun g0 => Kbc (Kf Y Y (Ke Y Y Y (Ku true (ok_impl_four _) ⟨Y, trivial⟩ Y Y Y (fun _ => (Ka Y (Kd (Kr (Er (ra := [.one (.own true _)]) rfl rfl))))))))) (fun g0 => om))))))))))))
  cases h2 : hasTo r.ty
  · rw [rdata_text h1 h2]
    refine Kbc (kBox Y Y Y Y Y (Ka Y (Kdb (Kt (Kbc (Kf Y Y (Ke Y Y Y (Kj Y Y Y (Ka Y (Kd (Km Y (fun g0 => om) (fun g0 => Kbc (Kf Y Y (Ke Y Y Y (Kp (ok_impl_hasTo _) ⟨Y, trivial⟩ Y Y Y Y Y (Ka Y (Kd (kCond Y (fun g1 => (by (simp [*] at g1))) (fun g1 => Kn (Kv (Kbc (Kf Y Y (Ke Y Y Y (Kq Y Y (kConvU8 Y (kLit Y Y Y Y (Kf Y Y (Ke Y Y Y (kApp1R Y Y (src_encB _ _) rfl rfl rfl rfl rfl om (Ka Y (Kd (Kr (Er (ra := [.one (.own true _)]) rfl rfl)))))))))))))))))))))))))))))))))
  · rw [rdata_to h1 h2]
    refine Kbc (kBox Y Y Y Y Y (Ka Y (Kdb (Kt (Kbc (Kf Y Y (Ke Y Y Y (Kj Y Y Y (Ka Y (Kd (Km Y (fun g0 => om) (fun g0 => Kbc (Kf Y Y (Ke Y Y Y (Kp (ok_impl_hasTo _) ⟨Y, trivial⟩ Y Y Y Y Y (Ka Y (Kd (kCond Y (fun g1 => Kbc (Kf Y Y (Ke Y Y Y (Ku true (ok_impl_Name_wire _ pr) ⟨⟨⟨Y, trivial⟩, leb⟩, trivial⟩ Y Y Y (fun _ => (Ka Y (Kdb (Kbc (Kf Y Y (Ke Y Y Y (Kq Y Y (Ka Y (Kd (Kt ?_)))))))))))))) (fun g1 => (by (simp [*] at g1)))))))))))))))))))))
    refine kLoop (α := { i : Nat // i ≤ r.nums.length }) (fun y => ⟨tabSl [(3, .c (.arr (rid 19 0) 1)), (21, .dv (Hearth.encI r.nums)), (22, .i r.nums.length), (23, .i y.1)], obTab 1 [(rid 19 0, ⟨1, 0, .arr true (encB (wireN r.to ++ (r.nums.take y.1).flatMap w4))⟩)], []⟩) (fun y => r.nums.length - y.1) ⟨0, by simp⟩ (by simp only [List.take_zero, List.flatMap_nil, List.append_nil]; exact .normA) ?_
    rintro ⟨i, hi⟩
    simp only
    have hl : (wireN r.to ++ (r.nums.take i).flatMap w4).length ≤ 33554432 := by
      rw [List.length_append, wireN_len, w4s_len, List.length_take]; omega
    have hl4 : ∀ n, (w4 n).length = 4 := w4_len
    rcases Nat.lt_or_ge i r.nums.length with hlt | hge
    · have hst : wireN r.to ++ (r.nums.take (i + 1)).flatMap w4 = wireN r.to ++ (r.nums.take i).flatMap w4 ++ w4 r.nums[i] := by rw [flatMap_take _ _ _ hlt, List.append_assoc]
      have h4 := hl4 r.nums[i]
      refine Kbc (Kj Y Y Y (Kdb (Km Y (fun g0 => Kn (Kb (Kt (Kbc (kIadR Y Y Y om (Ky Y Y (Ka Y (Kd (Kc (Ka Y (Ka Y (Ku true (ok_impl_four _) ⟨Y, trivial⟩ Y Y Y (fun _ => (kAppR Y Y Y Y Y Y Y Y om (Ka Y (Kd (Kv (Kc (kAdd Y Y om (Ka Y (Kd ?_))))))))))))))))))))) (fun g0 => om))))
      refine kInv ⟨⟨i + 1, by omega⟩, by simp only; omega, ?_⟩
      simp only [hst]
      exact .normA
    · rw [show i = r.nums.length by omega, List.take_length]
      refine Kbc (Kj Y Y Y (Kdb (Km Y (fun g0 => om) (fun g0 => kExit (kExC (kExI (kExB (Kbc (Ka Y (Ka Y (Kd (Kr (Er (ra := [.one (.own true _)]) rfl rfl)))))))))))))

def c_cmp_Or_int : C := (.g (.o 0 2 (.mov (.i 0)) .done) (.g (.o 0 3 (.mov (.i 0)) .done) (.seq (.g (.o 0 6 (.mov (.t 0)) (.o 1 7 (.len (.t 6)) (.o 2 8 (.mov (.i 0)) .done))) (.block 0 (.loop (.g (.o 0 9 (.bin .lss (.t 8) (.t 7)) .done) (.seq (.cond (.t 9) .skip (.exit 0)) (.seq (.block 1 (.g (.o 0 10 (.iad 1 (.t 6) (.t 8)) (.o 1 11 (.load none (.t 10)) (.o 2 5 (.mov (.t 11)) .done))) (.g (.o 0 12 (.mov (.t 5)) (.o 1 13 (.mov (.t 3)) (.o 2 14 (.bin .neq (.t 12) (.t 13)) .done))) (.cond (.t 14) (.g (.o 0 15 (.mov (.t 5)) (.o 1 2 (.mov (.t 15)) .done)) .ret) .skip)))) (.reg false (.o 0 16 (.bin .add (.t 8) (.i 1)) (.o 1 8 (.mov (.t 16)) .done))))))))) (.g (.o 0 17 (.mov (.t 3)) (.o 1 2 (.mov (.t 17)) .done)) .ret))))
theorem dg_cmp_Or_int : Tryz.f224.body.bind (digC Tryz.prog Tryz.f224.ntmps []) = some c_cmp_Or_int := by kernel_rfl
theorem rs_cmp_Or_int : resSlots Tryz.prog Tryz.f224 = some [.s 2] := by kernel_rfl
theorem ok_cmp_Or_int (l : List Int) (h : l.length ≤ 4194304) :
    FnOK Tryz.prog 224 [.one (.d (Hearth.encI l))] (fun ra _ => ra = [.one (.d (.sc (.int .i64 (orL l))))]) := by
  refine FnOK.ofK Tryz.func224 (by kernel_rfl) dg_cmp_Or_int rs_cmp_Or_int rfl rfl ?_
  delta c_cmp_Or_int T.o X.i C.g
  refine Kbc (Ka Y (Kdb (Kc (Ka Y (Kdb (Kbc (Ka Y (Kq Y Y (Ka Y (Kd (Kt ?_)))))))))))
  refine kLoop (α := { i : Nat // i ≤ l.length ∧ orL l = orL (l.drop i) }) (fun y => ⟨tabSl [(3, .i 0), (6, .dv (Hearth.encI l)), (7, .i l.length), (8, .i y.1)], obTab 1 [], []⟩) (fun y => l.length - y.1) ⟨0, by simp⟩ .normA ?_
  rintro ⟨i, hi, hr⟩
  simp only
  rcases Nat.lt_or_ge i l.length with hlt | hge
  · have hst := orL_drop l i hlt
    refine Kbc (Kj Y Y Y (Kdb (Km Y (fun g0 => Kn (Kb (Kt (Kbc (kIadR Y Y Y om (Ky Y Y (Ka Y (Kdb (Kc (Ka Y (Ka Y (Kj Y Y Y (Kd (kCondIN Y (fun g1 => Kbc (Ka Y (Ka Y (Kd (Kr (Er (ra := [.one (.d _)]) rfl ?_)))))) (fun g1 => Kn (Kv (Kc (kAdd Y Y om (Ka Y (Kd ?_)))))))))))))))))))) (fun g0 => om))))
    · rw [hr, hst, if_neg (by assumption)]
    · exact kInv ⟨⟨i + 1, by omega, by rw [hr, hst, if_pos (by assumption)]⟩, by simp only; omega, .normA⟩
  · have hst : orL l = 0 := by rw [hr, List.drop_eq_nil_of_le hge]; rfl
    rw [hst]
    refine Kbc (Kj Y Y Y (Kdb (Km Y (fun g0 => om) (fun g0 => kExit (kExC (kExI (kExB (Kbc (Ka Y (Ka Y (Kd (Kr (Er (ra := [.one (.d _)]) rfl rfl)))))))))))))
theorem ok_cmp_Or_int3 (a b c : Int) :
    FnOK Tryz.prog 224 [.one (.d (.sl 1 [[.sc (.int .i64 a)], [.sc (.int .i64 b)], [.sc (.int .i64 c)]]))] (fun ra _ => ra = [.one (.d (.sc (.int .i64 (orL [a, b, c]))))]) := ok_cmp_Or_int [a, b, c] (by simp)
theorem ok_cmp_Or_int2 (a b : Int) :
    FnOK Tryz.prog 224 [.one (.d (.sl 1 [[.sc (.int .i64 a)], [.sc (.int .i64 b)]]))] (fun ra _ => ra = [.one (.d (.sc (.int .i64 (orL [a, b]))))]) := ok_cmp_Or_int [a, b] (by simp)

def c_impl_Rr_compare : C := (.g (.o 0 2 (.box 2 (.t 0)) (.o 1 3 (.box 3 (.t 1)) (.o 2 4 (.mov (.i 0)) .done))) (.seq (.reg true (.op 0 [] (some 5) none true (.fad (.t 2) 0) (.op 1 [] (some 6) none true (.load (some 1) (.t 5)) (.op 2 [] (some 7) none true (.fad (.t 3) 0) (.op 3 [] (some 8) none true (.load (some 1) (.t 7)) (.op 5 [] (some 10) none true (.fad (.t 2) 1) (.op 6 [] (some 11) none true (.load none (.t 10)) (.op 7 [] (some 12) none true (.fad (.t 3) 1) (.op 8 [] (some 13) none true (.load none (.t 12)) (.op 10 [] (some 15) none true (.load (some 7) (.t 2)) (.op 12 [] (some 17) none true (.load (some 7) (.t 3)) (.op 4 [1, 3] (some 9) none false (.call 9 221 [(.t 6), (.t 8)]) (.op 9 [6, 8, 1, 3] (some 14) none false (.call 14 225 [(.t 11), (.t 13)]) (.op 11 [10, 6, 8, 1, 3] (some 16) none false (.call 16 227 [(.t 15)]) (.op 13 [12, 10, 6, 8, 1, 3] (some 18) none false (.call 18 227 [(.t 17)]) (.op 14 [10, 6, 8, 1, 3, 12] (some 19) none false (.call 19 226 [(.t 16), (.t 18)]) (.op 15 [1, 3, 6, 8, 10, 12] (some 20) none false (.lit 20 1 [(.i 0)] 3 [(0, 1, (.t 9)), (1, 1, (.t 14)), (2, 1, (.t 19))]) (.op 16 [1, 3, 6, 8, 10, 12] (some 21) none false (.call 21 224 [(.t 20)]) (.op 17 [] (some 4) none true (.mov (.t 21)) .done))))))))))))))))))) .ret))
theorem dg_impl_Rr_compare : Tryz.f133.body.bind (digC Tryz.prog Tryz.f133.ntmps []) = some c_impl_Rr_compare := by kernel_rfl
theorem rs_impl_Rr_compare : resSlots Tryz.prog Tryz.f133 = some [.s 4] := by kernel_rfl
theorem ok_impl_Rr_compare (a b : Rr) (ha : SmallR a) (hb : SmallR b) :
    FnOK Tryz.prog 133 [.agg (a.cells.map .d), .agg (b.cells.map .d)] (fun ra _ => ra = [.one (.d (.sc (.int .i64 (cmpR a b))))]) := by
  refine FnOK.ofK Tryz.func133 (by kernel_rfl) dg_impl_Rr_compare rs_impl_Rr_compare rfl rfl ?_
  delta c_impl_Rr_compare T.o X.i C.g
  have n1 := ha.n.len
  have n2 := hb.n.len
  have r1 := rdata_le ha
  have r2 := rdata_le hb
  rw [cmpR_or]
  refine Kbc (kBox Y Y Y Y Y (kBox Y Y Y Y Y (Ka Y (Kdb (kRegD (Kf Y Y (Ke Y Y Y (Kf Y Y (Ke Y Y Y (Kf Y Y (Ke Y Y Y (Kf Y Y (Ke Y Y Y (Ke Y Y Y (Ke Y Y Y (Kx Y Y (Kp (ok_impl_Name_compare _ _ pr pr) ⟨⟨⟨Y, trivial⟩, leb⟩, ⟨⟨Y, trivial⟩, leb⟩, trivial⟩ Y Y Y Y Y (Kx Y Y (Kp (ok_cmp_Compare_int _ _) ⟨Y, Y, trivial⟩ Y Y Y Y Y (Kx Y Y (Ku true (ok_impl_Rr_data _ pr) ⟨⟨⟨Y, Y, Y, Y, Y, Y, Y, trivial⟩, leb⟩, trivial⟩ Y Y Y (fun _ => (Ks Y Y (Ku true (ok_impl_Rr_data _ pr) ⟨⟨⟨Y, Y, Y, Y, Y, Y, Y, trivial⟩, leb⟩, trivial⟩ Y Y Y (fun _ => (Ks Y Y (Kp (ok_bytes_Compare _ _) ⟨Y, Y, trivial⟩ Y Y Y Y Y (Ks Y Y (kLit Y Y Y Y (Ks Y Y (Kp (ok_cmp_Or_int3 _ _ _) ⟨Y, trivial⟩ Y Y Y Y Y (Ka Y (Kd (kH (Kr (Er (ra := [.one (.d _)]) rfl rfl))))))))))))))))))))))))))))))))))))

def c_impl_isSet : C := (.g (.o 0 2 (.mov (.v (.bool false))) .done) (.seq (.g (.o 0 5 (.mov (.t 0)) (.o 1 6 (.len (.t 5)) (.o 2 7 (.bin .eql (.t 6) (.i 0)) (.o 3 8 (.mov (.t 7)) (.op 4 [] (some 9) (some (8, false)) false (.mov (.t 0)) (.op 5 [] (some 10) (some (8, false)) false (.call 10 112 [(.t 9)]) (.op 6 [] (some 11) (some (8, false)) false (.un .not (.t 10)) (.o 7 12 (.pick (.t 8) (.v (.bool true)) (.t 11)) .done)))))))) (.cond (.t 12) (.g (.o 0 2 (.mov (.v (.bool false))) .done) .ret) .skip)) (.seq (.g (.o 0 13 (.mov (.t 0)) (.o 1 14 (.len (.t 13)) (.o 2 15 (.mov (.i 0)) .done))) (.block 0 (.loop (.g (.o 0 16 (.bin .lss (.t 15) (.t 14)) .done) (.seq (.cond (.t 16) .skip (.exit 0)) (.seq (.block 1 (.g (.o 0 17 (.mov (.t 15)) (.o 1 18 (.iad 7 (.t 13) (.t 15)) (.o 2 19 (.load (some 7) (.t 18)) (.o 3 4 (.alloc 4 [(.n 1), (.i 0), (.i 0), (.i 0), (.n 1), (.n 1), (.n 1)]) (.o 4 3 (.mov (.t 17)) (.op 5 [] none none false (.store (some 7) (.t 4) (.t 19)) .done)))))) (.seq (.reg true (.op 0 [] (some 20) none true (.fad (.t 4) 0) (.op 1 [] (some 21) none true (.load (some 1) (.t 20)) (.op 2 [] (some 22) none true (.mov (.t 0)) (.op 3 [] (some 23) none true (.iad 7 (.t 22) (.i 0)) (.op 4 [] (some 24) none true (.fad (.t 23) 0) (.op 5 [] (some 25) none true (.load (some 1) (.t 24)) (.op 6 [1, 5] (some 26) none false (.call 26 131 [(.t 21), (.t 25)]) (.op 7 [] (some 27) none true (.un .not (.t 26)) (.op 8 [] (some 28) none true (.mov (.t 27)) (.op 9 [] (some 29) (some (28, false)) true (.fad (.t 4) 1) (.op 10 [] (some 30) (some (28, false)) true (.load none (.t 29)) (.op 11 [] (some 31) (some (28, false)) true (.mov (.t 0)) (.op 12 [] (some 32) (some (28, false)) true (.iad 7 (.t 31) (.i 0)) (.op 13 [] (some 33) (some (28, false)) true (.fad (.t 32) 1) (.op 14 [] (some 34) (some (28, false)) true (.load none (.t 33)) (.op 15 [] (some 35) (some (28, false)) true (.bin .neq (.t 30) (.t 34)) (.op 16 [] (some 36) none true (.pick (.t 28) (.v (.bool true)) (.t 35)) (.op 17 [] (some 37) none true (.mov (.t 36)) (.op 18 [] (some 38) (some (37, false)) true (.fad (.t 4) 2) (.op 19 [] (some 39) (some (37, false)) true (.load none (.t 38)) (.op 20 [] (some 40) (some (37, false)) true (.mov (.t 0)) (.op 21 [] (some 41) (some (37, false)) true (.iad 7 (.t 40) (.i 0)) (.op 22 [] (some 42) (some (37, false)) true (.fad (.t 41) 2) (.op 23 [] (some 43) (some (37, false)) true (.load none (.t 42)) (.op 24 [] (some 44) (some (37, false)) true (.bin .neq (.t 39) (.t 43)) (.op 25 [] (some 45) none true (.pick (.t 37) (.v (.bool true)) (.t 44)) (.op 26 [] (some 46) none true (.mov (.t 45)) (.op 27 [] (some 47) (some (46, false)) true (.mov (.t 3)) (.op 28 [] (some 48) (some (46, false)) true (.bin .gtr (.t 47) (.i 0)) (.op 29 [] (some 49) (some (46, false)) true (.mov (.t 48)) (.op 30 [] (some 50) (some (49, true)) true (.mov (.t 0)) (.op 31 [] (some 51) (some (49, true)) true (.mov (.t 3)) (.op 32 [] (some 52) (some (49, true)) true (.bin .sub (.t 51) (.i 1)) (.op 33 [] (some 53) (some (49, true)) true (.iad 7 (.t 50) (.t 52)) (.op 34 [] (some 54) (some (49, true)) true (.load (some 7) (.t 53)) (.op 35 [] (some 55) (some (49, true)) true (.load (some 7) (.t 4)) (.op 36 [34, 19, 23, 35, 10, 14, 1, 5] (some 56) (some (49, true)) false (.call 56 133 [(.t 54), (.t 55)]) (.op 37 [] (some 57) (some (49, true)) true (.bin .geq (.t 56) (.i 0)) (.op 38 [] (some 58) (some (46, false)) true (.pick (.t 49) (.t 57) (.v (.bool false))) (.op 39 [] (some 59) none true (.pick (.t 46) (.v (.bool true)) (.t 58)) .done))))))))))))))))))))))))))))))))))))))))) (.cond (.t 59) (.g (.o 0 2 (.mov (.v (.bool false))) .done) .ret) .skip)))) (.reg false (.o 0 60 (.bin .add (.t 15) (.i 1)) (.o 1 15 (.mov (.t 60)) .done))))))))) (.g (.o 0 2 (.mov (.v (.bool true))) .done) .ret))))
theorem dg_impl_isSet : Tryz.f149.body.bind (digC Tryz.prog Tryz.f149.ntmps []) = some c_impl_isSet := by kernel_rfl
theorem rs_impl_isSet : resSlots Tryz.prog Tryz.f149 = some [.s 2] := by kernel_rfl
theorem ok_impl_isSet (l : List Rr) (hs : SmallRs l) :
    FnOK Tryz.prog 149 [.one (.d (encR l))] (fun ra _ => ra = [.one (.d (.sc (.bool (isSetR l))))]) := by
  refine FnOK.ofK Tryz.func149 (by kernel_rfl) dg_impl_isSet rs_impl_isSet rfl rfl ?_
  delta c_impl_isSet T.o X.i C.g
  have h1 := hs.len
  have hm := hs.mem
  by_cases a1 : 0 < l.length
  case neg =>
    rw [show isSetR l = false by rw [Bool.eq_false_iff]; intro h; have := isSetR_len h; omega]
    refine Kbc (Ka Y (Kdb (Kbc (Ka Y (Kq Y Y (Kj Y Y Y (Ka Y (kGP Y (fun g0 => Kg Y (Kg Y (Kg Y (Kk Y (Ka Y (Kd (kCondT Y (Kbc (Ka Y (Kd (Kr (Er (ra := [.one (.d _)]) rfl rfl)))))))))))) (fun g0 => om)))))))))
  cases a2 : rrsOk l
  · rw [show isSetR l = false by unfold isSetR; rw [a2]; simp]
    refine Kbc (Ka Y (Kdb (Kbc (Ka Y (Kq Y Y (Kj Y Y Y (Ka Y (kGP Y (fun g0 => om) (fun g0 => Ki Y (Ka Y (Ki Y (Kp (ok_impl_areRrs _ prx) ⟨Y, trivial⟩ Y Y Y Y Y (Ki Y (Kw Y Y (Kl Y (Ka Y (Kd (kCondN Y (fun g1 => Kbc (Ka Y (Kd (Kr (Er (ra := [.one (.d _)]) rfl rfl))))) (fun g1 => (by (simp [*] at g1)))))))))))))))))))))
  refine Kbc (Ka Y (Kdb (Kbc (Ka Y (Kq Y Y (Kj Y Y Y (Ka Y (kGP Y (fun g0 => om) (fun g0 => Ki Y (Ka Y (Ki Y (Kp (ok_impl_areRrs _ prx) ⟨Y, trivial⟩ Y Y Y Y Y (Ki Y (Kw Y Y (Kl Y (Ka Y (Kd (kCondN Y (fun g1 => (by (simp [*] at g1))) (fun g1 => Kn (Kb (Kbc (Ka Y (Kq Y Y (Ka Y (Kd (Kt ?_))))))))))))))))))))))))))
  refine kLoop (α := { i : Nat // i ≤ l.length ∧ (List.range i).all (setAt l) = true }) (fun y => ⟨tabSl [(0, .dv (encR l)), (13, .dv (encR l)), (14, .i l.length), (15, .i y.1)], obTab 1 [], []⟩) (fun y => l.length - y.1) ⟨0, by simp⟩ .normA ?_
  rintro ⟨i, hi, hz⟩
  simp only
  rcases Nat.lt_or_ge i l.length with hlt | hge
  · have hbi := hm _ (List.getElem_mem hlt)
    have hb0 := hm _ (List.getElem_mem a1)
    have n1 := hbi.n.len
    have n2 := hbi.n.mem
    have m1 := hb0.n.len
    have m2 := hb0.n.mem
    have hq := setAt_eq hlt a1
    refine Kbc (Kj Y Y Y (Kdb (Km Y (fun g0 => Kn (Kb (Kt (Kbc (Ka Y (kIadR Y Y Y prl (Ky Y Y (kAlloc Y Y (Ka Y (kMem [(20480, ⟨2, 0, .box [.nil 1, .d _, .d _, .d _, .nil 1, .nil 1, .nil 1]⟩)] [(4, .c (.ptr 20480 2 0)), (19, .g [.d _, .d _, .d _, .d _, .d _, .d _, .d _])] [] ⟨Y, trivial⟩ ⟨Y, Y, trivial⟩ Y (Ko Y Y Y Y (Kdb (kRegD (Kf Y Y (Ke Y Y Y (Ka Y (kIadR (m := 0) Y Y Y prl (kFadD Y (Ky Y Y (Ks Y Y (Kp (ok_impl_Name_is _ _ prx prx) ⟨⟨⟨Y, trivial⟩, leb⟩, ⟨⟨Y, trivial⟩, leb⟩, trivial⟩ Y Y Y Y Y (Kw Y Y (Ka Y (kGN Y (fun g1 => Kg Y (Kg Y (Kg Y (Kg Y (Kg Y (Kg Y (Kg Y (Kk Y (Ka Y (kMem [(20480, ⟨2, 0, .box [.d _, .d _, .d _, .d _, .d _, .d _, .d _]⟩)] [(36, .c (.d _)), (4, .c (.ptr 20480 2 0)), (0, .c (.d _)), (3, .c (.d _))] [] ⟨Y, trivial⟩ ⟨Y, Y, Y, Y, trivial⟩ Y (Ka Y (Kg Y (Kg Y (Kg Y (Kg Y (Kg Y (Kg Y (Kg Y (Kk Y (Ka Y (Ka Y (Kg Y (Kg Y (kMem [(20480, ⟨2, 0, .box [.d _, .d _, .d _, .d _, .d _, .d _, .d _]⟩)] [(48, .c (.un)), (0, .c (.d _)), (3, .c (.d _)), (4, .c (.ptr 20480 2 0)), (46, .c (.d _))] [] ⟨Y, trivial⟩ ⟨Y, Y, Y, Y, Y, trivial⟩ Y (Kg Y (kGU Y (kGU Y (kGU Y (kGU Y (kGU Y (kGU Y (Ks Y Y (kGU Y (kGU Y (Kg Y (Kk Y (Ka Y (Kd (kH (kCondT Y (Kbc (Ka Y (Kd (Kr (Er (ra := [.one (.d _)]) rfl ?_))))))))))))))))))))))))))))))))))))))))))))) (fun g1 => Ki Y (Kf Y Y (Ki Y (Ke Y Y Y (Ki Y (Ka Y (Ki Y (kIadR (m := 0) Y Y Y prl (Ki Y (kFadD Y (Ki Y (Ky Y Y (Ki Y (Kj Y Y Y (kMem [(20480, ⟨2, 0, .box [.d _, .d _, .d _, .d _, .d _, .d _, .d _]⟩)] [(28, .c (.d _)), (35, .c (.d _)), (4, .c (.ptr 20480 2 0)), (0, .c (.d _)), (3, .c (.d _))] [20480] ⟨Y, trivial⟩ ⟨Y, Y, Y, Y, Y, trivial⟩ Y (Kl Y (Ka Y (Ka Y (kGIN Y (fun g2 => Kg Y (Kg Y (Kg Y (Kg Y (Kg Y (Kg Y (Kg Y (Kk Y (Ka Y (Ka Y (kMem [(20480, ⟨2, 0, .box [.d _, .d _, .d _, .d _, .d _, .d _, .d _]⟩)] [(3, .c (.d _)), (0, .c (.d _)), (4, .c (.ptr 20480 2 0)), (46, .c (.d _))] [20480] ⟨Y, trivial⟩ ⟨Y, Y, Y, Y, trivial⟩ Y (Kg Y (Kg Y (Kg Y (kGU Y (kGU Y (kGU Y (kGU Y (kGU Y (kGU Y (Ks Y Y (kGU Y (kGU Y (Kg Y (Kk Y (Ka Y (Kd (kH (kCondT Y (Kbc (Ka Y (Kd (Kr (Er (ra := [.one (.d _)]) rfl ?_)))))))))))))))))))))))))))))))))) (fun g2 => Ki Y (Kf Y Y (Ki Y (Ke Y Y Y (Ki Y (Ka Y (Ki Y (kIadR (m := 0) Y Y Y prl (Ki Y (kFadD Y (Ki Y (Ky Y Y (Ki Y (Kj Y Y Y (Kl Y (Ka Y (kMem [(20480, ⟨2, 0, .box [.d _, .d _, .d _, .d _, .d _, .d _, .d _]⟩)] [(45, .c (.d _)), (3, .c (.d _)), (0, .c (.d _)), (4, .c (.ptr 20480 2 0))] [20480, 20480] ⟨Y, trivial⟩ ⟨Y, Y, Y, Y, trivial⟩ Y (Ka Y (kGIN Y (fun g3 => Kg Y (Kg Y (Kg Y (kGU Y (kGU Y (kGU Y (kGU Y (kGU Y (kGU Y (Ks Y Y (kGU Y (kGU Y (Kg Y (Kk Y (Ka Y (Kd (kH (kCondT Y (Kbc (Ka Y (Kd (Kr (Er (ra := [.one (.d _)]) rfl ?_))))))))))))))))))))))) (fun g3 => Ki Y (Ka Y (Ki Y (Kj Y Y Y (Ki Y (Ka Y (kGP Y (fun g4 => Ki Y (Ka Y (Ki Y (Ka Y (Ki Y (kDif Y Y om (Ki Y (kIadT Y Y prl (Ki Y (Ky Y Y (Ki Y (Ke Y Y Y (Ks Y Y (Ki Y (Kp (ok_impl_Rr_compare _ _ prx prx) ⟨⟨⟨Y, Y, Y, Y, Y, Y, Y, trivial⟩, leb⟩, ⟨⟨Y, Y, Y, Y, Y, Y, Y, trivial⟩, leb⟩, trivial⟩ Y Y Y Y Y (Ki Y (Kj Y Y Y (Ki Y (Kk Y (Ka Y (Kl Y (Ka Y (Kd (kH (Km Y (fun g5 => Kbc (Ka Y (Kd (Kr (Er (ra := [.one (.d _)]) rfl ?_))))) (fun g5 => Kn (Kv (Kc (kAdd Y Y om (Ka Y (Kd ?_))))))))))))))))))))))))))))))) (fun g4 => Kg Y (Kg Y (Kg Y (Kg Y (Kg Y (Kg Y (Ks Y Y (Kg Y (Kg Y (Ki Y (Kl Y (Ka Y (Kl Y (Ka Y (Kd (kH (kCondF Y (Kn (Kv (Kc (kAdd Y Y om (Ka Y (Kd ?_)))))))))))))))))))))))))))))))))))))))))))))))))))))))))))))))))))))))))))))))))))))))))))) (fun g0 => om))))
    all_goals first
      | (refine congrArg (fun z : Bool => [RA.one (RV.d (DV.sc (Value.bool z)))]) (set_no hlt (Bool.eq_false_iff.2 fun h => ?_)).symm
         rw [hq] at h
         simp only [Bool.and_eq_true, decide_eq_true_eq] at h
         obtain ⟨⟨⟨k1, k2⟩, k3⟩, k4⟩ := h
         first
           | (rw [prevB_pos (by omega) hlt (by omega), decide_eq_true_eq] at k4; omega)
           | (simp_all; done)
           | (simp_all; omega))
      | (have e1 : prevB l i = true := by
           first
             | (rw [prevB_pos (by omega) hlt (by omega)]; exact decide_eq_true (by omega))
             | (have : i = 0 := by omega
                subst this; exact prevB_zero)
         have hz' : setAt l i = true := by rw [hq, e1]; simp_all
         exact kInv ⟨⟨i + 1, by omega, range_all hz hz'⟩, by simp only; omega, .normA⟩)
  · refine Kbc (Kj Y Y Y (Kdb (Km Y (fun g0 => om) (fun g0 => kExit (kExC (kExI (kExB (Kbc (Ka Y (Kd (Kr (Er (ra := [.one (.d _)]) rfl ?_))))))))))))
    obtain rfl : i = l.length := by omega
    rw [show isSetR l = true by unfold isSetR; rw [a2, hz, decide_eq_true a1]; rfl]

def c_impl_Cache_slotOk : C := (.g (.o 0 2 (.box 2 (.t 0)) (.o 1 3 (.box 3 (.t 1)) (.o 2 4 (.mov (.v (.bool false))) .done))) (.seq (.g (.o 0 5 (.fad (.t 3) 0) (.o 1 6 (.load (some 1) (.t 5)) (.o 2 7 (.call 7 71 [(.t 6)]) (.o 3 8 (.un .not (.t 7)) (.o 4 9 (.mov (.t 8)) (.op 5 [] (some 10) (some (9, false)) false (.fad (.t 3) 1) (.op 6 [] (some 11) (some (9, false)) false (.load none (.t 10)) (.op 7 [] (some 12) (some (9, false)) false (.call 12 89 [(.t 11)]) (.op 8 [] (some 13) (some (9, false)) false (.un .not (.t 12)) (.o 9 14 (.pick (.t 9) (.v (.bool true)) (.t 13)) (.o 10 15 (.mov (.t 14)) (.op 11 [] (some 16) (some (15, false)) false (.fad (.t 3) 2) (.op 12 [] (some 17) (some (15, false)) false (.load none (.t 16)) (.op 13 [] (some 18) (some (15, false)) false (.call 18 109 [(.t 17), (.i 1), (.i 3)]) (.op 14 [] (some 19) (some (15, false)) false (.un .not (.t 18)) (.o 15 20 (.pick (.t 15) (.v (.bool true)) (.t 19)) (.o 16 21 (.mov (.t 20)) (.op 17 [] (some 22) (some (21, false)) false (.fad (.t 3) 4) (.op 18 [] (some 23) (some (21, false)) false (.load none (.t 22)) (.op 19 [] (some 24) (some (21, false)) false (.call 24 109 [(.t 23), (.i 0), (.i 3)]) (.op 20 [] (some 25) (some (21, false)) false (.un .not (.t 24)) (.o 21 26 (.pick (.t 21) (.v (.bool true)) (.t 25)) (.o 22 27 (.mov (.t 26)) (.op 23 [] (some 28) (some (27, false)) false (.fad (.t 3) 5) (.op 24 [] (some 29) (some (27, false)) false (.load none (.t 28)) (.op 25 [] (some 30) (some (27, false)) false (.fad (.t 2) 0) (.op 26 [] (some 31) (some (27, false)) false (.load none (.t 30)) (.op 27 [] (some 32) (some (27, false)) false (.bin .add (.t 31) (.i 1)) (.op 28 [] (some 33) (some (27, false)) false (.fad (.t 2) 0) (.op 29 [] (some 34) (some (27, false)) false (.load none (.t 33)) (.op 30 [] (some 35) (some (27, false)) false (.bin .add (.t 34) (.i 1000)) (.op 31 [] (some 36) (some (27, false)) false (.call 36 109 [(.t 29), (.t 32), (.t 35)]) (.op 32 [] (some 37) (some (27, false)) false (.un .not (.t 36)) (.o 33 38 (.pick (.t 27) (.v (.bool true)) (.t 37)) (.o 34 39 (.mov (.t 38)) (.op 35 [] (some 40) (some (39, false)) false (.fad (.t 3) 6) (.op 36 [] (some 41) (some (39, false)) false (.load none (.t 40)) (.op 37 [] (some 42) (some (39, false)) false (.fad (.t 2) 1) (.op 38 [] (some 43) (some (39, false)) false (.load none (.t 42)) (.op 39 [] (some 44) (some (39, false)) false (.call 44 109 [(.t 41), (.i 1), (.t 43)]) (.op 40 [] (some 45) (some (39, false)) false (.un .not (.t 44)) (.o 41 46 (.pick (.t 39) (.v (.bool true)) (.t 45)) .done)))))))))))))))))))))))))))))))))))))))))) (.cond (.t 46) (.g (.o 0 4 (.mov (.v (.bool false))) .done) .ret) .skip)) (.seq (.g (.o 0 47 (.fad (.t 3) 2) (.o 1 48 (.load none (.t 47)) (.o 2 49 (.bin .neq (.t 48) (.i 1)) .done))) (.cond (.t 49) (.g (.o 0 50 (.fad (.t 3) 3) (.o 1 51 (.load none (.t 50)) (.o 2 52 (.len (.t 51)) (.o 3 53 (.bin .eql (.t 52) (.i 0)) (.o 4 4 (.mov (.t 53)) .done))))) .ret) .skip)) (.seq (.reg true (.op 0 [] (some 54) none true (.fad (.t 3) 3) (.op 1 [] (some 55) none true (.load none (.t 54)) (.op 2 [1] (some 56) none false (.call 56 149 [(.t 55)]) (.op 3 [] (some 57) none true (.mov (.t 56)) (.op 4 [] (some 58) (some (57, true)) true (.fad (.t 3) 3) (.op 5 [] (some 59) (some (57, true)) true (.load none (.t 58)) (.op 6 [] (some 60) (some (57, true)) true (.iad 7 (.t 59) (.i 0)) (.op 7 [] (some 61) (some (57, true)) true (.fad (.t 60) 0) (.op 8 [] (some 62) (some (57, true)) true (.load (some 1) (.t 61)) (.op 9 [] (some 63) (some (57, true)) true (.fad (.t 3) 0) (.op 10 [] (some 64) (some (57, true)) true (.load (some 1) (.t 63)) (.op 11 [8, 5, 1, 10] (some 65) (some (57, true)) false (.call 65 131 [(.t 62), (.t 64)]) (.op 12 [] (some 66) none true (.pick (.t 57) (.t 65) (.v (.bool false))) (.op 13 [] (some 67) none true (.mov (.t 66)) (.op 14 [] (some 68) (some (67, true)) true (.fad (.t 3) 3) (.op 15 [] (some 69) (some (67, true)) true (.load none (.t 68)) (.op 16 [] (some 70) (some (67, true)) true (.iad 7 (.t 69) (.i 0)) (.op 17 [] (some 71) (some (67, true)) true (.fad (.t 70) 1) (.op 18 [] (some 72) (some (67, true)) true (.load none (.t 71)) (.op 19 [] (some 73) (some (67, true)) true (.fad (.t 3) 1) (.op 20 [] (some 74) (some (67, true)) true (.load none (.t 73)) (.op 21 [] (some 75) (some (67, true)) true (.bin .eql (.t 72) (.t 74)) (.op 22 [] (some 76) none true (.pick (.t 67) (.t 75) (.v (.bool false))) (.op 23 [] (some 4) none true (.mov (.t 76)) .done))))))))))))))))))))))))) .ret))))
theorem dg_impl_Cache_slotOk : Tryz.f141.body.bind (digC Tryz.prog Tryz.f141.ntmps []) = some c_impl_Cache_slotOk := by kernel_rfl
theorem rs_impl_Cache_slotOk : resSlots Tryz.prog Tryz.f141 = some [.s 4] := by kernel_rfl
theorem ok_impl_Cache_slotOk (c : Cache) (s : Slot) (hs : SmallS s) (hc : 0 ≤ c.now ∧ c.now ≤ 1000000) :
    FnOK Tryz.prog 141 [.agg (c.cells.map .d), .agg (s.cells.map .d)] (fun ra _ => ra = [.one (.d (.sc (.bool (slotOk c.now c.turn s))))]) := by
  refine FnOK.ofK Tryz.func141 (by kernel_rfl) dg_impl_Cache_slotOk rs_impl_Cache_slotOk rfl rfl ?_
  delta c_impl_Cache_slotOk T.o X.i C.g
  have n1 := hs.n.len
  have n2 := hs.n.mem
  have r1 := hs.r
  have r2 := hs.r.len
  by_cases h0 : nameOk s.name = true ∧ tyOk s.ty = true ∧ (1 ≤ s.kind ∧ s.kind ≤ 3) ∧ (0 ≤ s.rank ∧ s.rank ≤ 3) ∧ (c.now + 1 ≤ s.til ∧ s.til ≤ c.now + 1000) ∧ (1 ≤ s.used ∧ s.used ≤ c.turn)
  case neg =>
    rw [show slotOk c.now c.turn s = false by
      rw [Bool.eq_false_iff]; intro h
      unfold slotOk at h
      simp only [Bool.and_eq_true, decide_eq_true_eq] at h
      exact h0 ⟨h.1.1.1.1.1.1, h.1.1.1.1.1.2, h.1.1.1.1.2, h.1.1.1.2, h.1.1.2, h.1.2⟩]
    cases k1 : nameOk s.name
    case false => refine kSeq (kReg (kBox rfl rfl rfl rfl rfl (kBox rfl rfl rfl rfl rfl (kMovC rfl (kDone (kSeq (kSeq (kReg (kFadP rfl rfl (kLoadP rfl rfl rfl (kCallD (ok_impl_NameOk _ prx prx) ⟨⟨⟨rfl, trivial⟩, leb⟩, trivial⟩ rfl rfl rfl rfl rfl (kUn rfl rfl (kMovC rfl (kGN rfl (fun g0 => (kGF rfl (kGF rfl (kGF rfl (kGF rfl (kPickT rfl (kMovC rfl (kMovC rfl (kGF rfl (kGF rfl (kGF rfl (kGF rfl (kPickT rfl (kMovC rfl (kMovC rfl (kGF rfl (kGF rfl (kGF rfl (kGF rfl (kPickT rfl (kMovC rfl (kMovC rfl (kGF rfl (kGF rfl (kGF rfl (kGF rfl (kGF rfl (kGF rfl (kGF rfl (kGF rfl (kGF rfl (kGF rfl (kPickT rfl (kMovC rfl (kMovC rfl (kGF rfl (kGF rfl (kGF rfl (kGF rfl (kGF rfl (kGF rfl (kPickT rfl (kMovC rfl (kDone (kCondT rfl (kSeq (kReg (kMovC rfl (kDone (kRet (endRetA (ra := [.one (.d _)]) rfl rfl))))))))))))))))))))))))))))))))))))))))))))))))))) (fun g0 => (by (simp [*] at g0)))))))))))))))))
    cases k2 : tyOk s.ty
    case false => refine kSeq (kReg (kBox rfl rfl rfl rfl rfl (kBox rfl rfl rfl rfl rfl (kMovC rfl (kDone (kSeq (kSeq (kReg (kFadP rfl rfl (kLoadP rfl rfl rfl (kCallD (ok_impl_NameOk _ prx prx) ⟨⟨⟨rfl, trivial⟩, leb⟩, trivial⟩ rfl rfl rfl rfl rfl (kUn rfl rfl (kMovC rfl (kGN rfl (fun g0 => (by (simp [*] at g0))) (fun g0 => (kGT rfl (kFadP rfl rfl (kGT rfl (kLoadP rfl rfl rfl (kGT rfl (kCallD (ok_impl_TypeOk _) ⟨rfl, trivial⟩ rfl rfl rfl rfl rfl (kGT rfl (kUn rfl rfl (kPickF rfl (kMovC rfl (kMovC rfl (kGN rfl (fun g1 => kGF rfl (kGF rfl (kGF rfl (kGF rfl (kPickT rfl (kMovC rfl (kMovC rfl (kGF rfl (kGF rfl (kGF rfl (kGF rfl (kPickT rfl (kMovC rfl (kMovC rfl (kGF rfl (kGF rfl (kGF rfl (kGF rfl (kGF rfl (kGF rfl (kGF rfl (kGF rfl (kGF rfl (kGF rfl (kPickT rfl (kMovC rfl (kMovC rfl (kGF rfl (kGF rfl (kGF rfl (kGF rfl (kGF rfl (kGF rfl (kPickT rfl (kMovC rfl (kDone (kCondT rfl (kSeq (kReg (kMovC rfl (kDone (kRet (endRetA (ra := [.one (.d _)]) rfl rfl))))))))))))))))))))))))))))))))))))))))))) (fun g1 => (by (simp [*] at g1))))))))))))))))))))))))))))))
    by_cases k3 : 1 ≤ s.kind ∧ s.kind ≤ 3
    case neg => refine kSeq (kReg (kBox rfl rfl rfl rfl rfl (kBox rfl rfl rfl rfl rfl (kMovC rfl (kDone (kSeq (kSeq (kReg (kFadP rfl rfl (kLoadP rfl rfl rfl (kCallD (ok_impl_NameOk _ prx prx) ⟨⟨⟨rfl, trivial⟩, leb⟩, trivial⟩ rfl rfl rfl rfl rfl (kUn rfl rfl (kMovC rfl (kGN rfl (fun g0 => (by (simp [*] at g0))) (fun g0 => (kGT rfl (kFadP rfl rfl (kGT rfl (kLoadP rfl rfl rfl (kGT rfl (kCallD (ok_impl_TypeOk _) ⟨rfl, trivial⟩ rfl rfl rfl rfl rfl (kGT rfl (kUn rfl rfl (kPickF rfl (kMovC rfl (kMovC rfl (kGN rfl (fun g1 => (by (simp [*] at g1))) (fun g1 => kGT rfl (kFadP rfl rfl (kGT rfl (kLoadP rfl rfl rfl (kGT rfl (kCallD (ok_impl_within _ _ _) ⟨rfl, rfl, rfl, trivial⟩ rfl rfl rfl rfl rfl (kGT rfl (kUn rfl rfl (kPickF rfl (kMovC rfl (kMovC rfl (kGN rfl (fun g2 => kGF rfl (kGF rfl (kGF rfl (kGF rfl (kPickT rfl (kMovC rfl (kMovC rfl (kGF rfl (kGF rfl (kGF rfl (kGF rfl (kGF rfl (kGF rfl (kGF rfl (kGF rfl (kGF rfl (kGF rfl (kPickT rfl (kMovC rfl (kMovC rfl (kGF rfl (kGF rfl (kGF rfl (kGF rfl (kGF rfl (kGF rfl (kPickT rfl (kMovC rfl (kDone (kCondT rfl (kSeq (kReg (kMovC rfl (kDone (kRet (endRetA (ra := [.one (.d _)]) rfl rfl)))))))))))))))))))))))))))))))))))) (fun g2 => (by (simp [*] at g2))))))))))))))))))))))))))))))))))))))))))
    by_cases k4 : 0 ≤ s.rank ∧ s.rank ≤ 3
    case neg => refine kSeq (kReg (kBox rfl rfl rfl rfl rfl (kBox rfl rfl rfl rfl rfl (kMovC rfl (kDone (kSeq (kSeq (kReg (kFadP rfl rfl (kLoadP rfl rfl rfl (kCallD (ok_impl_NameOk _ prx prx) ⟨⟨⟨rfl, trivial⟩, leb⟩, trivial⟩ rfl rfl rfl rfl rfl (kUn rfl rfl (kMovC rfl (kGN rfl (fun g0 => (by (simp [*] at g0))) (fun g0 => (kGT rfl (kFadP rfl rfl (kGT rfl (kLoadP rfl rfl rfl (kGT rfl (kCallD (ok_impl_TypeOk _) ⟨rfl, trivial⟩ rfl rfl rfl rfl rfl (kGT rfl (kUn rfl rfl (kPickF rfl (kMovC rfl (kMovC rfl (kGN rfl (fun g1 => (by (simp [*] at g1))) (fun g1 => kGT rfl (kFadP rfl rfl (kGT rfl (kLoadP rfl rfl rfl (kGT rfl (kCallD (ok_impl_within _ _ _) ⟨rfl, rfl, rfl, trivial⟩ rfl rfl rfl rfl rfl (kGT rfl (kUn rfl rfl (kPickF rfl (kMovC rfl (kMovC rfl (kGN rfl (fun g2 => (by (simp [*] at g2))) (fun g2 => kGT rfl (kFadP rfl rfl (kGT rfl (kLoadP rfl rfl rfl (kGT rfl (kCallD (ok_impl_within _ _ _) ⟨rfl, rfl, rfl, trivial⟩ rfl rfl rfl rfl rfl (kGT rfl (kUn rfl rfl (kPickF rfl (kMovC rfl (kMovC rfl (kGN rfl (fun g3 => (kGF rfl (kGF rfl (kGF rfl (kGF rfl (kGF rfl (kGF rfl (kGF rfl (kGF rfl (kGF rfl (kGF rfl (kPickT rfl (kMovC rfl (kMovC rfl (kGF rfl (kGF rfl (kGF rfl (kGF rfl (kGF rfl (kGF rfl (kPickT rfl (kMovC rfl (kDone (kCondT rfl (kSeq (kReg (kMovC rfl (kDone (kRet (endRetA (ra := [.one (.d _)]) rfl rfl)))))))))))))))))))))))))))))) (fun g3 => (by (simp [*] at g3))))))))))))))))))))))))))))))))))))))))))))))))))))))
    by_cases k5 : c.now + 1 ≤ s.til ∧ s.til ≤ c.now + 1000
    case neg => refine kSeq (kReg (kBox rfl rfl rfl rfl rfl (kBox rfl rfl rfl rfl rfl (kMovC rfl (kDone (kSeq (kSeq (kReg (kFadP rfl rfl (kLoadP rfl rfl rfl (kCallD (ok_impl_NameOk _ prx prx) ⟨⟨⟨rfl, trivial⟩, leb⟩, trivial⟩ rfl rfl rfl rfl rfl (kUn rfl rfl (kMovC rfl (kGN rfl (fun g0 => (by (simp [*] at g0))) (fun g0 => (kGT rfl (kFadP rfl rfl (kGT rfl (kLoadP rfl rfl rfl (kGT rfl (kCallD (ok_impl_TypeOk _) ⟨rfl, trivial⟩ rfl rfl rfl rfl rfl (kGT rfl (kUn rfl rfl (kPickF rfl (kMovC rfl (kMovC rfl (kGN rfl (fun g1 => (by (simp [*] at g1))) (fun g1 => kGT rfl (kFadP rfl rfl (kGT rfl (kLoadP rfl rfl rfl (kGT rfl (kCallD (ok_impl_within _ _ _) ⟨rfl, rfl, rfl, trivial⟩ rfl rfl rfl rfl rfl (kGT rfl (kUn rfl rfl (kPickF rfl (kMovC rfl (kMovC rfl (kGN rfl (fun g2 => (by (simp [*] at g2))) (fun g2 => kGT rfl (kFadP rfl rfl (kGT rfl (kLoadP rfl rfl rfl (kGT rfl (kCallD (ok_impl_within _ _ _) ⟨rfl, rfl, rfl, trivial⟩ rfl rfl rfl rfl rfl (kGT rfl (kUn rfl rfl (kPickF rfl (kMovC rfl (kMovC rfl (kGN rfl (fun g3 => (by (simp [*] at g3))) (fun g3 => (kGT rfl (kFadP rfl rfl (kGT rfl (kLoadP rfl rfl rfl (kGT rfl (kFadP rfl rfl (kGT rfl (kLoadP rfl rfl rfl (kGT rfl (kAdd rfl rfl (by omega) (kGT rfl (kFadP rfl rfl (kGT rfl (kLoadP rfl rfl rfl (kGT rfl (kAdd rfl rfl (by omega) (kGT rfl (kCallD (ok_impl_within _ _ _) ⟨rfl, rfl, rfl, trivial⟩ rfl rfl rfl rfl rfl (kGT rfl (kUn rfl rfl (kPickF rfl (kMovC rfl (kMovC rfl (kGN rfl (fun g4 => kGF rfl (kGF rfl (kGF rfl (kGF rfl (kGF rfl (kGF rfl (kPickT rfl (kMovC rfl (kDone (kCondT rfl (kSeq (kReg (kMovC rfl (kDone (kRet (endRetA (ra := [.one (.d _)]) rfl rfl)))))))))))))))) (fun g4 => (by (simp [*] at g4)))))))))))))))))))))))))))))))))))))))))))))))))))))))))))))))))))))))))))))))
    have k6 : ¬ (1 ≤ s.used ∧ s.used ≤ c.turn) := fun h => h0 ⟨k1, k2, k3, k4, k5, h⟩
    refine Kbc (kBox Y Y Y Y Y (kBox Y Y Y Y Y (Ka Y (Kdb (Kbc (Kf Y Y (Ke Y Y Y (Kp (ok_impl_NameOk _ prx prx) ⟨⟨⟨Y, trivial⟩, leb⟩, trivial⟩ Y Y Y Y Y (Kw Y Y (Ka Y (kGN Y (fun g0 => (by (simp [*] at g0))) (fun g0 => (Ki Y (Kf Y Y (Ki Y (Ke Y Y Y (Ki Y (Kp (ok_impl_TypeOk _) ⟨Y, trivial⟩ Y Y Y Y Y (Ki Y (Kw Y Y (Kl Y (Ka Y (Ka Y (kGN Y (fun g1 => (by (simp [*] at g1))) (fun g1 => Ki Y (Kf Y Y (Ki Y (Ke Y Y Y (Ki Y (Kp (ok_impl_within _ _ _) ⟨Y, Y, Y, trivial⟩ Y Y Y Y Y (Ki Y (Kw Y Y (Kl Y (Ka Y (Ka Y (kGN Y (fun g2 => (by (simp [*] at g2))) (fun g2 => Ki Y (Kf Y Y (Ki Y (Ke Y Y Y (Ki Y (Kp (ok_impl_within _ _ _) ⟨Y, Y, Y, trivial⟩ Y Y Y Y Y (Ki Y (Kw Y Y (Kl Y (Ka Y (Ka Y (kGN Y (fun g3 => (by (simp [*] at g3))) (fun g3 => (Ki Y (Kf Y Y (Ki Y (Ke Y Y Y (Ki Y (Kf Y Y (Ki Y (Ke Y Y Y (Ki Y (kAdd Y Y om (Ki Y (Kf Y Y (Ki Y (Ke Y Y Y (Ki Y (kAdd Y Y om (Ki Y (Kp (ok_impl_within _ _ _) ⟨Y, Y, Y, trivial⟩ Y Y Y Y Y (Ki Y (Kw Y Y (Kl Y (Ka Y (Ka Y (kGN Y (fun g4 => (by (simp [*] at g4))) (fun g4 => Ki Y (Kf Y Y (Ki Y (Ke Y Y Y (Ki Y (Kf Y Y (Ki Y (Ke Y Y Y (Ki Y (Kp (ok_impl_within _ _ _) ⟨Y, Y, Y, trivial⟩ Y Y Y Y Y (Ki Y (Kw Y Y (Kl Y (Ka Y (Kd (kCondN Y (fun g5 => Kbc (Ka Y (Kd (Kr (Er (ra := [.one (.d _)]) rfl rfl))))) (fun g5 => (by (simp [*] at g5))))))))))))))))))))))))))))))))))))))))))))))))))))))))))))))))))))))))))))))))))))))))))))
  obtain ⟨k1, k2, k3, k4, k5, k6⟩ := h0
  rw [show slotOk c.now c.turn s = hitOk s by unfold slotOk; rw [k1, k2, decide_eq_true k3, decide_eq_true k4, decide_eq_true k5, decide_eq_true k6]; rfl]
  have hps : isSetR s.rrs = true → 0 < s.rrs.length := fun h => (isSetR_len h).1
  by_cases hk : s.kind = 1
  case neg =>
    rw [show hitOk s = decide ((s.rrs.length : Int) = 0) by unfold hitOk; rw [if_neg hk]; exact decide_eq_decide.2 (by omega)]
    refine Kbc (kBox Y Y Y Y Y (kBox Y Y Y Y Y (Ka Y (Kdb (Kbc (Kf Y Y (Ke Y Y Y (Kp (ok_impl_NameOk _ prx prx) ⟨⟨⟨Y, trivial⟩, leb⟩, trivial⟩ Y Y Y Y Y (Kw Y Y (Ka Y (kGN Y (fun g0 => (by (simp [*] at g0))) (fun g0 => (Ki Y (Kf Y Y (Ki Y (Ke Y Y Y (Ki Y (Kp (ok_impl_TypeOk _) ⟨Y, trivial⟩ Y Y Y Y Y (Ki Y (Kw Y Y (Kl Y (Ka Y (Ka Y (kGN Y (fun g1 => (by (simp [*] at g1))) (fun g1 => Ki Y (Kf Y Y (Ki Y (Ke Y Y Y (Ki Y (Kp (ok_impl_within _ _ _) ⟨Y, Y, Y, trivial⟩ Y Y Y Y Y (Ki Y (Kw Y Y (Kl Y (Ka Y (Ka Y (kGN Y (fun g2 => (by (simp [*] at g2))) (fun g2 => Ki Y (Kf Y Y (Ki Y (Ke Y Y Y (Ki Y (Kp (ok_impl_within _ _ _) ⟨Y, Y, Y, trivial⟩ Y Y Y Y Y (Ki Y (Kw Y Y (Kl Y (Ka Y (Ka Y (kGN Y (fun g3 => (by (simp [*] at g3))) (fun g3 => (Ki Y (Kf Y Y (Ki Y (Ke Y Y Y (Ki Y (Kf Y Y (Ki Y (Ke Y Y Y (Ki Y (kAdd Y Y om (Ki Y (Kf Y Y (Ki Y (Ke Y Y Y (Ki Y (kAdd Y Y om (Ki Y (Kp (ok_impl_within _ _ _) ⟨Y, Y, Y, trivial⟩ Y Y Y Y Y (Ki Y (Kw Y Y (Kl Y (Ka Y (Ka Y (kGN Y (fun g4 => (by (simp [*] at g4))) (fun g4 => Ki Y (Kf Y Y (Ki Y (Ke Y Y Y (Ki Y (Kf Y Y (Ki Y (Ke Y Y Y (Ki Y (Kp (ok_impl_within _ _ _) ⟨Y, Y, Y, trivial⟩ Y Y Y Y Y (Ki Y (Kw Y Y (Kl Y (Ka Y (Kd (kCondN Y (fun g5 => (by (simp [*] at g5))) (fun g5 => Kn (Kb (Kbc (Kf Y Y (Ke Y Y Y (Kj Y Y Y (Kd (kCondIN Y (fun g6 => Kbc (Kf Y Y (Ke Y Y Y (Kq Y Y (Kj Y Y Y (Ka Y (Kd (Kr (Er (ra := [.one (.d _)]) rfl rfl))))))))) (fun g6 => om))))))))))))))))))))))))))))))))))))))))))))))))))))))))))))))))))))))))))))))))))))))))))))))))))
  cases hq : isSetR s.rrs
  · rw [show hitOk s = false by unfold hitOk; rw [if_pos hk, hq]; rfl]
    refine Kbc (kBox Y Y Y Y Y (kBox Y Y Y Y Y (Ka Y (Kdb (Kbc (Kf Y Y (Ke Y Y Y (Kp (ok_impl_NameOk _ prx prx) ⟨⟨⟨Y, trivial⟩, leb⟩, trivial⟩ Y Y Y Y Y (Kw Y Y (Ka Y (kGN Y (fun g0 => (by (simp [*] at g0))) (fun g0 => (Ki Y (Kf Y Y (Ki Y (Ke Y Y Y (Ki Y (Kp (ok_impl_TypeOk _) ⟨Y, trivial⟩ Y Y Y Y Y (Ki Y (Kw Y Y (Kl Y (Ka Y (Ka Y (kGN Y (fun g1 => (by (simp [*] at g1))) (fun g1 => Ki Y (Kf Y Y (Ki Y (Ke Y Y Y (Ki Y (Kp (ok_impl_within _ _ _) ⟨Y, Y, Y, trivial⟩ Y Y Y Y Y (Ki Y (Kw Y Y (Kl Y (Ka Y (Ka Y (kGN Y (fun g2 => (by (simp [*] at g2))) (fun g2 => Ki Y (Kf Y Y (Ki Y (Ke Y Y Y (Ki Y (Kp (ok_impl_within _ _ _) ⟨Y, Y, Y, trivial⟩ Y Y Y Y Y (Ki Y (Kw Y Y (Kl Y (Ka Y (Ka Y (kGN Y (fun g3 => (by (simp [*] at g3))) (fun g3 => (Ki Y (Kf Y Y (Ki Y (Ke Y Y Y (Ki Y (Kf Y Y (Ki Y (Ke Y Y Y (Ki Y (kAdd Y Y om (Ki Y (Kf Y Y (Ki Y (Ke Y Y Y (Ki Y (kAdd Y Y om (Ki Y (Kp (ok_impl_within _ _ _) ⟨Y, Y, Y, trivial⟩ Y Y Y Y Y (Ki Y (Kw Y Y (Kl Y (Ka Y (Ka Y (kGN Y (fun g4 => (by (simp [*] at g4))) (fun g4 => Ki Y (Kf Y Y (Ki Y (Ke Y Y Y (Ki Y (Kf Y Y (Ki Y (Ke Y Y Y (Ki Y (Kp (ok_impl_within _ _ _) ⟨Y, Y, Y, trivial⟩ Y Y Y Y Y (Ki Y (Kw Y Y (Kl Y (Ka Y (Kd (kCondN Y (fun g5 => (by (simp [*] at g5))) (fun g5 => Kn (Kb (Kbc (Kf Y Y (Ke Y Y Y (Kj Y Y Y (Kd (kCondIN Y (fun g6 => om) (fun g6 => Kn (Kb (kRegD (Kf Y Y (Ke Y Y Y (Ks Y Y (Kp (ok_impl_isSet _ prx) ⟨Y, trivial⟩ Y Y Y Y Y (Ka Y (kGS Y (fun g7 => (by (simp [*] at g7))) (fun g7 => Kg Y (Kg Y (Kg Y (Kg Y (Kg Y (Kg Y (Kg Y (Ks Y Y (Kg Y (Kl Y (Ka Y (Ka Y (Kg Y (Kg Y (Kg Y (Kg Y (Kg Y (Kg Y (Kg Y (Kg Y (Kl Y (Ka Y (Ka Y (Kd (kH (Kr (Er (ra := [.one (.d _)]) rfl rfl)))))))))))))))))))))))))))))))))))))))))))))))))))))))))))))))))))))))))))))))))))))))))))))))))))))))))))))))))))))))))))))))))))))
  have hp := hps hq
  have hb0 := r1.mem _ (List.getElem_mem hp)
  have m1 := hb0.n.len
  have m2 := hb0.n.mem
  have e0 : s.rrs.getD 0 emptyR = s.rrs[0] := by rw [List.getD_eq_getElem?_getD, List.getElem?_eq_getElem hp]; rfl
  rw [show hitOk s = (decide (s.rrs[0].name = s.name) && decide (s.rrs[0].ty = s.ty)) by unfold hitOk; rw [if_pos hk, hq, e0]; rfl]
  refine Kbc (kBox Y Y Y Y Y (kBox Y Y Y Y Y (Ka Y (Kdb (Kbc (Kf Y Y (Ke Y Y Y (Kp (ok_impl_NameOk _ prx prx) ⟨⟨⟨Y, trivial⟩, leb⟩, trivial⟩ Y Y Y Y Y (Kw Y Y (Ka Y (kGN Y (fun g0 => (by (simp [*] at g0))) (fun g0 => (Ki Y (Kf Y Y (Ki Y (Ke Y Y Y (Ki Y (Kp (ok_impl_TypeOk _) ⟨Y, trivial⟩ Y Y Y Y Y (Ki Y (Kw Y Y (Kl Y (Ka Y (Ka Y (kGN Y (fun g1 => (by (simp [*] at g1))) (fun g1 => Ki Y (Kf Y Y (Ki Y (Ke Y Y Y (Ki Y (Kp (ok_impl_within _ _ _) ⟨Y, Y, Y, trivial⟩ Y Y Y Y Y (Ki Y (Kw Y Y (Kl Y (Ka Y (Ka Y (kGN Y (fun g2 => (by (simp [*] at g2))) (fun g2 => Ki Y (Kf Y Y (Ki Y (Ke Y Y Y (Ki Y (Kp (ok_impl_within _ _ _) ⟨Y, Y, Y, trivial⟩ Y Y Y Y Y (Ki Y (Kw Y Y (Kl Y (Ka Y (Ka Y (kGN Y (fun g3 => (by (simp [*] at g3))) (fun g3 => (Ki Y (Kf Y Y (Ki Y (Ke Y Y Y (Ki Y (Kf Y Y (Ki Y (Ke Y Y Y (Ki Y (kAdd Y Y om (Ki Y (Kf Y Y (Ki Y (Ke Y Y Y (Ki Y (kAdd Y Y om (Ki Y (Kp (ok_impl_within _ _ _) ⟨Y, Y, Y, trivial⟩ Y Y Y Y Y (Ki Y (Kw Y Y (Kl Y (Ka Y (Ka Y (kGN Y (fun g4 => (by (simp [*] at g4))) (fun g4 => Ki Y (Kf Y Y (Ki Y (Ke Y Y Y (Ki Y (Kf Y Y (Ki Y (Ke Y Y Y (Ki Y (Kp (ok_impl_within _ _ _) ⟨Y, Y, Y, trivial⟩ Y Y Y Y Y (Ki Y (Kw Y Y (Kl Y (Ka Y (Kd (kCondN Y (fun g5 => (by (simp [*] at g5))) (fun g5 => Kn (Kb (Kbc (Kf Y Y (Ke Y Y Y (Kj Y Y Y (Kd (kCondIN Y (fun g6 => om) (fun g6 => Kn (Kb (kRegD (Kf Y Y (Ke Y Y Y (Ks Y Y (Kp (ok_impl_isSet _ prx) ⟨Y, trivial⟩ Y Y Y Y Y (Ka Y (kGS Y (fun g7 => Ki Y (Kf Y Y (Ki Y (Ke Y Y Y (Ki Y (kIadR (m := 0) Y Y Y prl (Ki Y (kFadD Y (Ki Y (Ky Y Y (Ki Y (Kf Y Y (Ki Y (Ke Y Y Y (Ks Y Y (Ki Y (Kp (ok_impl_Name_is _ _ prx prx) ⟨⟨⟨Y, trivial⟩, leb⟩, ⟨⟨Y, trivial⟩, leb⟩, trivial⟩ Y Y Y Y Y (Kk Y (Ka Y (Ka Y (kGP Y (fun g8 => Ki Y (Kf Y Y (Ki Y (Ke Y Y Y (Ki Y (kIadR (m := 0) Y Y Y prl (Ki Y (kFadD Y (Ki Y (Ky Y Y (Ki Y (Kf Y Y (Ki Y (Ke Y Y Y (Ki Y (Kj Y Y Y (Kk Y (Ka Y (Ka Y (Kd (kH (Kr (Er (ra := [.one (.d _)]) rfl ?_))))))))))))))))))))))) (fun g8 => Kg Y (Kg Y (Kg Y (Kg Y (Kg Y (Kg Y (Kg Y (Kg Y (Kl Y (Ka Y (Ka Y (Kd (kH (Kr (Er (ra := [.one (.d _)]) rfl ?_)))))))))))))))))))))))))))))))))))) (fun g7 => (by (simp [*] at g7)))))))))))))))))))))))))))))))))))))))))))))))))))))))))))))))))))))))))))))))))))))))))))))))))))))))))))))
  · rw [decide_eq_true (by assumption : s.rrs[0].name = s.name), Bool.true_and]
    rfl
  · rw [decide_eq_false (by assumption : ¬ s.rrs[0].name = s.name), Bool.false_and]

def c_impl_all_impl_Slot_1 : C := (.g (.o 0 2 (.box 2 (.t 0)) (.o 1 3 (.mov (.v (.bool false))) .done)) (.g (.o 0 4 (.load none (.t 1)) (.o 1 5 (.load (some 7) (.t 2)) (.o 2 6 (.callv 6 (.t 4) [(.t 5)]) (.o 3 7 (.un .not (.t 6)) (.o 4 3 (.mov (.t 7)) .done))))) .ret))
theorem dg_impl_all_impl_Slot_1 : Tryz.f230.body.bind (digC Tryz.prog Tryz.f230.ntmps []) = some c_impl_all_impl_Slot_1 := by kernel_rfl
theorem rs_impl_all_impl_Slot_1 : resSlots Tryz.prog Tryz.f230 = some [.s 3] := by kernel_rfl
theorem ok_impl_all_impl_Slot_1 (x : Slot) (D : Slot → Prop) (g : Slot → Bool) (hx : D x) :
    FnOK Tryz.prog 230 [.agg (x.cells.map .d), .one (.ptr [.fv false (fcAgg D Slot.cells g)])] (fun ra _ => ra = [.one (.d (.sc (.bool (!g x))))]) := by
  refine FnOK.ofK Tryz.func230 (by kernel_rfl) dg_impl_all_impl_Slot_1 rs_impl_all_impl_Slot_1 rfl rfl ?_
  delta c_impl_all_impl_Slot_1 T.o X.i C.g
  refine Kbc (kBox Y Y Y Y Y (Ka Y (Kdb (Kc (kLoadC Y Y (Ke Y Y Y ?_))))))
  refine kCallv Y ⟨x, hx, rfl, rfl⟩ ⟨⟨⟨Y, Y, Y, Y, Y, Y, Y, trivial⟩, leb⟩, trivial⟩ (.inr ?_) rfl ?_ rfl ?_
  · rintro _ rfl; rfl
  · rintro _ rfl; exact leb
  rintro _ rfl
  refine Kw Y Y (Ka Y (Kd (Kr (Er (ra := [.one (.d _)]) rfl rfl))))

def c_slices_IndexFunc_Limpl_Slot_impl_Slot : C := (.g (.o 0 4 (.mov (.i 0)) .done) (.seq (.g (.o 0 6 (.mov (.t 0)) (.o 1 7 (.len (.t 6)) (.o 2 8 (.mov (.i 0)) .done))) (.block 0 (.loop (.g (.o 0 9 (.bin .lss (.t 8) (.t 7)) .done) (.seq (.cond (.t 9) .skip (.exit 0)) (.seq (.block 1 (.g (.o 0 10 (.mov (.t 8)) (.o 1 5 (.mov (.t 10)) .done)) (.g (.o 0 11 (.mov (.t 1)) (.o 1 12 (.mov (.t 0)) (.o 2 13 (.mov (.t 5)) (.o 3 14 (.iad 7 (.t 12) (.t 13)) (.o 4 15 (.load (some 7) (.t 14)) (.o 5 16 (.callv 16 (.t 11) [(.t 15)]) .done)))))) (.cond (.t 16) (.g (.o 0 17 (.mov (.t 5)) (.o 1 4 (.mov (.t 17)) .done)) .ret) .skip)))) (.reg false (.o 0 18 (.bin .add (.t 8) (.i 1)) (.o 1 8 (.mov (.t 18)) .done))))))))) (.g (.o 0 4 (.mov (.i (-1))) .done) .ret)))
theorem dg_slices_IndexFunc_Limpl_Slot_impl_Slot : Tryz.f231.body.bind (digC Tryz.prog Tryz.f231.ntmps []) = some c_slices_IndexFunc_Limpl_Slot_impl_Slot := by kernel_rfl
theorem rs_slices_IndexFunc_Limpl_Slot_impl_Slot : resSlots Tryz.prog Tryz.f231 = some [.s 4] := by kernel_rfl
theorem ok_slices_IndexFunc_Limpl_Slot_impl_Slot (l : List Slot) (D : Slot → Prop) (g : Slot → Bool) (hl : l.length ≤ 4194304) (hD : ∀ x ∈ l, D x) :
    FnOK Tryz.prog 231 [.one (.d (encS l)), .one (.fv false (fcAgg D Slot.cells g))] (fun ra _ => ra = [.one (.d (.sc (.int .i64 (idx g l))))]) := by
  refine FnOK.ofK Tryz.func231 (by kernel_rfl) dg_slices_IndexFunc_Limpl_Slot_impl_Slot rs_slices_IndexFunc_Limpl_Slot_impl_Slot rfl rfl ?_
  delta c_slices_IndexFunc_Limpl_Slot_impl_Slot T.o X.i C.g
  refine Kbc (Ka Y (Kdb (Kbc (Ka Y (Kq Y Y (Ka Y (Kd (Kt ?_))))))))
  refine kLoop (α := { i : Nat // i ≤ l.length ∧ ∀ x ∈ l.take i, g x = false })
    (fun y => ⟨tabSl [(0, .dv (encS l)), (1, .c (.fv false (fcAgg D Slot.cells g))), (7, .i l.length), (8, .i y.1)], obTab 1 [], []⟩) (fun y => l.length - y.1) ⟨0, by simp⟩
    .normA ?_
  rintro ⟨i, hi, hg⟩
  simp only
  rcases Nat.lt_or_ge i l.length with hlt | hge
  · refine Kbc (Kj Y Y Y (Kdb (Km Y (fun g0 => Kn (Kb (Kt (Kbc (Ka Y (Ka Y (Kdb (Kc (Ka Y (Ka Y (Ka Y (kIadR Y Y Y prl (Ky Y Y ?_))))))))))))) (fun g0 => om))))
    refine kCallv Y ⟨l[i], hD _ (List.getElem_mem hlt), rfl, rfl⟩ ⟨⟨⟨Y, Y, Y, Y, Y, Y, Y, trivial⟩, leb⟩, trivial⟩ (.inr ?_) rfl ?_ rfl ?_
    · rintro _ rfl; rfl
    · rintro _ rfl; exact leb
    rintro _ rfl
    refine Kd (kCond Y (fun g0 => Kbc (Ka Y (Ka Y (Kd (Kr (Er (ra := [.one (.d _)]) rfl ?_)))))) (fun g0 => Kn (Kv (Kc (kAdd Y Y om (Ka Y (Kd ?_)))))))
    · have : l.findIdx? g = some i := by
        rw [List.findIdx?_eq_some_iff_getElem]
        refine ⟨hlt, by assumption, fun j hj => ?_⟩
        simpa using hg _ (by rw [List.mem_take_iff_getElem]; exact ⟨j, by omega, rfl⟩)
      simp [idx, this]
    · refine kInv ⟨⟨i + 1, hlt, ?_⟩, by simp only; omega, .normA⟩
      intro x hx
      rw [← List.take_append_getElem hlt, List.mem_append] at hx
      rcases hx with hx | hx
      · exact hg x hx
      · simp at hx; rw [hx]; assumption
  · refine Kbc (Kj Y Y Y (Kdb (Km Y (fun g0 => om) (fun g0 => kExit (kExC (kExI (kExB (Kbc (Ka Y (Kd (Kr (Er (ra := [.one (.d _)]) rfl ?_))))))))))))
    have : l.findIdx? g = none := by
      rw [List.findIdx?_eq_none_iff]
      intro x hx
      rw [show i = l.length by omega, List.take_length] at hg
      exact hg x hx
    simp [idx, this]

def c_slices_ContainsFunc_Limpl_Slot_impl_Slot : C := (.g (.o 0 4 (.mov (.v (.bool false))) .done) (.g (.o 0 5 (.mov (.t 0)) (.o 1 6 (.mov (.t 1)) (.o 2 7 (.call 7 231 [(.t 5), (.t 6)]) (.o 3 8 (.bin .geq (.t 7) (.i 0)) (.o 4 4 (.mov (.t 8)) .done))))) .ret))
theorem dg_slices_ContainsFunc_Limpl_Slot_impl_Slot : Tryz.f143.body.bind (digC Tryz.prog Tryz.f143.ntmps []) = some c_slices_ContainsFunc_Limpl_Slot_impl_Slot := by kernel_rfl
theorem rs_slices_ContainsFunc_Limpl_Slot_impl_Slot : resSlots Tryz.prog Tryz.f143 = some [.s 4] := by kernel_rfl
theorem ok_slices_ContainsFunc_Limpl_Slot_impl_Slot (l : List Slot) (D : Slot → Prop) (g : Slot → Bool) (hl : l.length ≤ 4194304) (hD : ∀ x ∈ l, D x) :
    FnOK Tryz.prog 143 [.one (.d (encS l)), .one (.fv false (fcAgg D Slot.cells g))] (fun ra _ => ra = [.one (.d (.sc (.bool (l.any g))))]) := by
  refine FnOK.ofK Tryz.func143 (by kernel_rfl) dg_slices_ContainsFunc_Limpl_Slot_impl_Slot rs_slices_ContainsFunc_Limpl_Slot_impl_Slot rfl rfl ?_
  delta c_slices_ContainsFunc_Limpl_Slot_impl_Slot T.o X.i C.g
  refine Kbc (Ka Y (Kdb (Kc (Ka Y (Ka Y ?_)))))
  refine Ku true (ok_slices_IndexFunc_Limpl_Slot_impl_Slot l D g hl hD) ⟨rfl, ⟨fun h => h, fun _ _ h => h⟩, trivial⟩ rfl rfl rfl fun os => ?_
  rw [← idx_ge g l]
  refine Kj Y Y Y (Ka Y (Kd (Kr (Er (ra := [.one (.d _)]) rfl rfl))))

def c_impl_all_impl_Slot : C := (.g (.o 0 3 (.box 3 (.t 1)) (.o 1 4 (.mov (.v (.bool false))) .done)) (.g (.o 0 5 (.mov (.t 0)) (.o 1 6 (.clo 230 [] [(.t 3)]) (.o 2 7 (.call 7 143 [(.t 5), (.t 6)]) (.o 3 8 (.un .not (.t 7)) (.o 4 4 (.mov (.t 8)) .done))))) .ret))
theorem dg_impl_all_impl_Slot : Tryz.f140.body.bind (digC Tryz.prog Tryz.f140.ntmps []) = some c_impl_all_impl_Slot := by kernel_rfl
theorem rs_impl_all_impl_Slot : resSlots Tryz.prog Tryz.f140 = some [.s 4] := by kernel_rfl
theorem ok_impl_all_impl_Slot (l : List Slot) (D : Slot → Prop) (g : Slot → Bool) (hl : l.length ≤ 4194304) (hD : ∀ x ∈ l, D x) :
    FnOK Tryz.prog 140 [.one (.d (encS l)), .one (.fv false (fcAgg D Slot.cells g))] (fun ra _ => ra = [.one (.d (.sc (.bool (l.all g))))]) := by
  refine FnOK.ofK Tryz.func140 (by kernel_rfl) dg_impl_all_impl_Slot rs_impl_all_impl_Slot rfl rfl ?_
  delta c_impl_all_impl_Slot T.o X.i C.g
  refine Kbc (kBox Y Y Y Y Y (Ka Y (Kdb (Kc (Ka Y (kClo Y Y ?_))))))
  refine Ku true (ok_slices_ContainsFunc_Limpl_Slot_impl_Slot l D (fun x => !g x) hl hD) ⟨rfl, ⟨rfl, ⟨_, Tryz.func230, rfl, by kernel_rfl⟩, _, rfl, ?_⟩, trivial⟩ rfl rfl rfl fun os => ?_
  · rintro _ R ⟨x, hx, rfl, rfl⟩
    exact ⟨by rintro _ rfl; rfl, ok_impl_all_impl_Slot_1 x D g hx⟩
  rw [List.all_eq_not_any_not]
  refine Kw Y Y (Ka Y (Kd (Kr (Er (ra := [.one (.d _)]) rfl rfl))))

def c_impl_Slot_compare : C := (.g (.o 0 2 (.box 2 (.t 0)) (.o 1 3 (.box 3 (.t 1)) (.o 2 4 (.mov (.i 0)) .done))) (.seq (.reg true (.op 0 [] (some 5) none true (.fad (.t 2) 0) (.op 1 [] (some 6) none true (.load (some 1) (.t 5)) (.op 2 [] (some 7) none true (.fad (.t 3) 0) (.op 3 [] (some 8) none true (.load (some 1) (.t 7)) (.op 5 [] (some 10) none true (.fad (.t 2) 1) (.op 6 [] (some 11) none true (.load none (.t 10)) (.op 7 [] (some 12) none true (.fad (.t 3) 1) (.op 8 [] (some 13) none true (.load none (.t 12)) (.op 4 [1, 3] (some 9) none false (.call 9 221 [(.t 6), (.t 8)]) (.op 9 [6, 8, 1, 3] (some 14) none false (.call 14 225 [(.t 11), (.t 13)]) (.op 10 [1, 3, 6, 8] (some 15) none false (.lit 15 1 [(.i 0)] 2 [(0, 1, (.t 9)), (1, 1, (.t 14))]) (.op 11 [1, 3, 6, 8] (some 16) none false (.call 16 224 [(.t 15)]) (.op 12 [] (some 4) none true (.mov (.t 16)) .done)))))))))))))) .ret))
theorem dg_impl_Slot_compare : Tryz.f142.body.bind (digC Tryz.prog Tryz.f142.ntmps []) = some c_impl_Slot_compare := by kernel_rfl
theorem rs_impl_Slot_compare : resSlots Tryz.prog Tryz.f142 = some [.s 4] := by kernel_rfl
theorem ok_impl_Slot_compare (a b : Slot) (ha : SmallS a) (hb : SmallS b) :
    FnOK Tryz.prog 142 [.agg (a.cells.map .d), .agg (b.cells.map .d)] (fun ra _ => ra = [.one (.d (.sc (.int .i64 (cmpS a b))))]) := by
  refine FnOK.ofK Tryz.func142 (by kernel_rfl) dg_impl_Slot_compare rs_impl_Slot_compare rfl rfl ?_
  delta c_impl_Slot_compare T.o X.i C.g
  have n1 := ha.n.len
  have n2 := ha.n.mem
  have m1 := hb.n.len
  have m2 := hb.n.mem
  rw [cmpS_or]
  refine Kbc (kBox Y Y Y Y Y (kBox Y Y Y Y Y (Ka Y (Kdb (kRegD (Kf Y Y (Ke Y Y Y (Kf Y Y (Ke Y Y Y (Kf Y Y (kMem [(12288, ⟨1, 0, .box [.d _, .d _, .d _, .d _, .d _, .d _, .d _]⟩), (16384, ⟨1, 0, .box [.d _, .d _, .d _, .d _, .d _, .d _, .d _]⟩)] [(10, .c (.ptr 12288 1 1)), (3, .c (.ptr 16384 1 0)), (12, .c (.un)), (6, .g [.d _]), (8, .g [.d _]), (11, .c (.un)), (13, .c (.un)), (9, .c (.un)), (14, .c (.un)), (15, .c (.un)), (16, .c (.un))] [16384, 12288] ⟨Y, Y, trivial⟩ ⟨Y, Y, Y, Y, Y, Y, Y, Y, Y, Y, Y, trivial⟩ Y (Ke Y Y Y (Kf Y Y (Ke Y Y Y (Kx Y Y (Kp (ok_impl_Name_compare _ _ prx prx) ⟨⟨⟨Y, trivial⟩, leb⟩, ⟨⟨Y, trivial⟩, leb⟩, trivial⟩ Y Y Y Y Y (Ks Y Y (Kp (ok_cmp_Compare_int _ _) ⟨Y, Y, trivial⟩ Y Y Y Y Y (Ks Y Y (kLitD Y Y Y Y (Ks Y Y (Kp (ok_cmp_Or_int2 _ _) ⟨Y, trivial⟩ Y Y Y Y Y (Ka Y (Kd (kH (Kr (Er (ra := [.one (.d _)]) rfl rfl)))))))))))))))))))))))))))

def c_impl_CacheOk_1 : C := (.g (.o 0 2 (.box 2 (.t 0)) (.o 1 3 (.mov (.v (.bool false))) .done)) (.g (.o 0 4 (.fad (.t 2) 6) (.o 1 5 (.load none (.t 4)) (.o 2 6 (.fad (.t 1) 6) (.o 3 7 (.load none (.t 6)) (.o 4 8 (.bin .eql (.t 5) (.t 7)) (.o 5 3 (.mov (.t 8)) .done)))))) .ret))
theorem dg_impl_CacheOk_1 : Tryz.f144.body.bind (digC Tryz.prog Tryz.f144.ntmps []) = some c_impl_CacheOk_1 := by kernel_rfl
theorem rs_impl_CacheOk_1 : resSlots Tryz.prog Tryz.f144 = some [.s 3] := by kernel_rfl
theorem ok_impl_CacheOk_1 (x s : Slot) :
    FnOK Tryz.prog 144 [.agg (x.cells.map .d), .one (.ptr (s.cells.map .d))] (fun ra _ => ra = [.one (.d (.sc (.bool (x.used == s.used))))]) := by
  refine FnOK.ofK Tryz.func144 (by kernel_rfl) dg_impl_CacheOk_1 rs_impl_CacheOk_1 rfl rfl ?_
  delta c_impl_CacheOk_1 T.o X.i C.g
  refine Kbc (kBox Y Y Y Y Y (Ka Y (Kdb (Kc (Kf Y Y (Ke Y Y Y (kFadC Y (kLoadC Y Y (Kj Y Y Y (Ka Y (Kd (Kr (Er (ra := [.one (.d _)]) rfl rfl)))))))))))))

def c_impl_CacheOk : C := (.g (.o 0 1 (.box 1 (.t 0)) (.o 1 2 (.mov (.v (.bool false))) .done)) (.seq (.g (.o 0 5 (.fad (.t 1) 0) (.o 1 6 (.load none (.t 5)) (.o 2 7 (.call 7 109 [(.t 6), (.i 0), (.i 1000000)]) (.o 3 8 (.un .not (.t 7)) (.o 4 9 (.mov (.t 8)) (.op 5 [] (some 10) (some (9, false)) false (.fad (.t 1) 1) (.op 6 [] (some 11) (some (9, false)) false (.load none (.t 10)) (.op 7 [] (some 12) (some (9, false)) false (.call 12 109 [(.t 11), (.i 0), (.i 1000000)]) (.op 8 [] (some 13) (some (9, false)) false (.un .not (.t 12)) (.o 9 14 (.pick (.t 9) (.v (.bool true)) (.t 13)) (.o 10 15 (.mov (.t 14)) (.op 11 [] (some 16) (some (15, false)) false (.fad (.t 1) 2) (.op 12 [] (some 17) (some (15, false)) false (.load none (.t 16)) (.op 13 [] (some 18) (some (15, false)) false (.len (.t 17)) (.op 14 [] (some 19) (some (15, false)) false (.bin .gtr (.t 18) (.i 8)) (.o 15 20 (.pick (.t 15) (.v (.bool true)) (.t 19)) (.o 16 21 (.mov (.t 20)) (.op 17 [] (some 22) (some (21, false)) false (.fad (.t 1) 2) (.op 18 [] (some 23) (some (21, false)) false (.load none (.t 22)) (.op 19 [] (some 24) (some (21, false)) false (.load (some 3) (.t 1)) (.op 20 [] (some 25) (some (21, false)) false (.clo 141 [(.t 24)] []) (.op 21 [] (some 26) (some (21, false)) false (.call 26 140 [(.t 23), (.t 25)]) (.op 22 [] (some 27) (some (21, false)) false (.un .not (.t 26)) (.o 23 28 (.pick (.t 21) (.v (.bool true)) (.t 27)) .done)))))))))))))))))))))))) (.cond (.t 28) (.g (.o 0 2 (.mov (.v (.bool false))) .done) .ret) .skip)) (.seq (.g (.o 0 29 (.fad (.t 1) 2) (.o 1 30 (.load none (.t 29)) (.o 2 31 (.len (.t 30)) (.o 3 32 (.mov (.i 0)) .done)))) (.block 0 (.loop (.g (.o 0 33 (.bin .lss (.t 32) (.t 31)) .done) (.seq (.cond (.t 33) .skip (.exit 0)) (.seq (.block 1 (.g (.o 0 34 (.mov (.t 32)) (.o 1 35 (.iad 7 (.t 30) (.t 32)) (.o 2 36 (.load (some 7) (.t 35)) (.o 3 4 (.alloc 4 [(.n 1), (.i 0), (.i 0), (.n 7), (.i 0), (.i 0), (.i 0)]) (.o 4 3 (.mov (.t 34)) (.op 5 [] none none false (.store (some 7) (.t 4) (.t 36)) .done)))))) (.seq (.reg true (.op 0 [] (some 37) none true (.mov (.t 3)) (.op 1 [] (some 38) none true (.bin .gtr (.t 37) (.i 0)) (.op 2 [] (some 39) none true (.mov (.t 38)) (.op 3 [] (some 40) (some (39, true)) true (.fad (.t 1) 2) (.op 4 [] (some 41) (some (39, true)) true (.load none (.t 40)) (.op 5 [] (some 42) (some (39, true)) true (.mov (.t 3)) (.op 6 [] (some 43) (some (39, true)) true (.bin .sub (.t 42) (.i 1)) (.op 7 [] (some 44) (some (39, true)) true (.iad 7 (.t 41) (.t 43)) (.op 8 [] (some 45) (some (39, true)) true (.load (some 7) (.t 44)) (.op 9 [] (some 46) (some (39, true)) true (.load (some 7) (.t 4)) (.op 10 [8, 4, 9] (some 47) (some (39, true)) false (.call 47 142 [(.t 45), (.t 46)]) (.op 11 [] (some 48) (some (39, true)) true (.bin .geq (.t 47) (.i 0)) (.op 12 [] (some 49) none true (.pick (.t 39) (.t 48) (.v (.bool false))) (.op 13 [] (some 50) none true (.mov (.t 49)) (.op 14 [] (some 51) (some (50, false)) true (.fad (.t 1) 2) (.op 15 [] (some 52) (some (50, false)) true (.load none (.t 51)) (.op 16 [] (some 53) (some (50, false)) true (.mov (.t 3)) (.op 17 [] (some 54) (some (50, false)) true (.cut 7 (.t 52) none (some (.t 53))) (.op 18 [] (some 55) (some (50, false)) true (.clo 144 [] [(.t 4)]) (.op 19 [15, 8, 9, 4] (some 56) (some (50, false)) false (.call 56 143 [(.t 54), (.t 55)]) (.op 20 [] (some 57) none true (.pick (.t 50) (.v (.bool true)) (.t 56)) .done)))))))))))))))))))))) (.cond (.t 57) (.g (.o 0 2 (.mov (.v (.bool false))) .done) .ret) .skip)))) (.reg false (.o 0 58 (.bin .add (.t 32) (.i 1)) (.o 1 32 (.mov (.t 58)) .done))))))))) (.g (.o 0 2 (.mov (.v (.bool true))) .done) .ret))))
theorem dg_impl_CacheOk : Tryz.f56.body.bind (digC Tryz.prog Tryz.f56.ntmps []) = some c_impl_CacheOk := by kernel_rfl
theorem rs_impl_CacheOk : resSlots Tryz.prog Tryz.f56 = some [.s 2] := by kernel_rfl
theorem ok_impl_CacheOk (c : Cache) (hs : SmallSs c.slots) :
    FnOK Tryz.prog 56 [.agg (c.cells.map .d)] (fun ra _ => ra = [.one (.d (.sc (.bool (cacheOk c))))]) := by
  refine FnOK.ofK Tryz.func56 (by kernel_rfl) dg_impl_CacheOk rs_impl_CacheOk rfl rfl ?_
  delta c_impl_CacheOk T.o X.i C.g
  have h1 := hs.len
  have hm := hs.mem
  by_cases h0 : (0 ≤ c.now ∧ c.now ≤ 1000000) ∧ (0 ≤ c.turn ∧ c.turn ≤ 1000000) ∧ c.slots.length ≤ 8
  case neg =>
    rw [show cacheOk c = false by
      rw [Bool.eq_false_iff]; intro h
      unfold cacheOk at h
      simp only [Bool.and_eq_true, decide_eq_true_eq] at h
      exact h0 ⟨h.1.1.1.1, h.1.1.1.2, h.1.1.2⟩]
    by_cases k1 : 0 ≤ c.now ∧ c.now ≤ 1000000
    case neg => refine kSeq (kReg (kBox rfl rfl rfl rfl rfl (kMovC rfl (kDone (kSeq (kSeq (kReg (kFadP rfl rfl (kLoadP rfl rfl rfl (kCallD (ok_impl_within _ _ _) ⟨rfl, rfl, rfl, trivial⟩ rfl rfl rfl rfl rfl (kUn rfl rfl (kMovC rfl (kGN rfl (fun g0 => kGF rfl (kGF rfl (kMem [(8192, ⟨1, 0, .box [.d _, .d _, .d _]⟩)] ((11, .c (.un)) :: (12, .c (.un)) :: (9, .c (.d _)) :: (13, .c (.un)) :: (14, .c (.un)) :: (1, .c (.ptr 8192 1 0)) :: (16, .c (.un)) :: (17, .c (.un)) :: (18, .c (.un)) :: (15, .c (.un)) :: (19, .c (.un)) :: (20, .c (.un)) :: (22, .c (.un)) :: (24, .c (.un)) :: (23, .c (.un)) :: (25, .c (.un)) :: (26, .c (.un)) :: (21, .c (.un)) :: (27, .c (.un)) :: []) [] ⟨rfl, trivial⟩ ⟨rfl, rfl, rfl, rfl, rfl, rfl, rfl, rfl, rfl, rfl, rfl, rfl, rfl, rfl, rfl, rfl, rfl, rfl, rfl, trivial⟩ rfl (kGF rfl (kGF rfl (kPickT rfl (kMovC rfl (kMovC rfl (kGF rfl (kGF rfl (kGF rfl (kGF rfl (kPickT rfl (kMovC rfl (kMovC rfl (kGF rfl (kGF rfl (kMem [(8192, ⟨1, 0, .box [.d _, .d _, .d _]⟩)] [(1, .c (.ptr 8192 1 0)), (24, .c (.un)), (23, .c (.un)), (25, .c (.un)), (26, .c (.un)), (21, .c (.d _)), (27, .c (.un))] [] ⟨rfl, trivial⟩ ⟨rfl, rfl, rfl, rfl, rfl, rfl, rfl, trivial⟩ rfl (kGF rfl (kGF rfl (kGF rfl (kGF rfl (kPickT rfl (kMovC rfl (kDone (kCondT rfl (kSeq (kReg (kMovC rfl (kDone (kRet (endRetA (ra := [.one (.d _)]) rfl rfl)))))))))))))))))))))))))))))))) (fun g0 => (by (simp [*] at g0))))))))))))))))
    by_cases k2 : 0 ≤ c.turn ∧ c.turn ≤ 1000000
    case neg => refine kSeq (kReg (kBox rfl rfl rfl rfl rfl (kMovC rfl (kDone (kSeq (kSeq (kReg (kFadP rfl rfl (kLoadP rfl rfl rfl (kCallD (ok_impl_within _ _ _) ⟨rfl, rfl, rfl, trivial⟩ rfl rfl rfl rfl rfl (kUn rfl rfl (kMovC rfl (kGN rfl (fun g0 => (by (simp [*] at g0))) (fun g0 => kGT rfl (kFadP rfl rfl (kGT rfl (kLoadP rfl rfl rfl (kMem [(8192, ⟨1, 0, .box [.d _, .d _, .d _]⟩)] ((11, .c (.d _)) :: (12, .c (.un)) :: (9, .c (.d _)) :: (13, .c (.un)) :: (14, .c (.un)) :: (1, .c (.ptr 8192 1 0)) :: (16, .c (.un)) :: (17, .c (.un)) :: (18, .c (.un)) :: (15, .c (.un)) :: (19, .c (.un)) :: (20, .c (.un)) :: (22, .c (.un)) :: (24, .c (.un)) :: (23, .c (.un)) :: (25, .c (.un)) :: (26, .c (.un)) :: (21, .c (.un)) :: (27, .c (.un)) :: []) [] ⟨rfl, trivial⟩ ⟨rfl, rfl, rfl, rfl, rfl, rfl, rfl, rfl, rfl, rfl, rfl, rfl, rfl, rfl, rfl, rfl, rfl, rfl, rfl, trivial⟩ rfl (kGT rfl (kCallD (ok_impl_within _ _ _) ⟨rfl, rfl, rfl, trivial⟩ rfl rfl rfl rfl rfl (kGT rfl (kUn rfl rfl (kPickF rfl (kMovC rfl (kMovC rfl (kGN rfl (fun g1 => kGF rfl (kGF rfl (kGF rfl (kGF rfl (kPickT rfl (kMovC rfl (kMovC rfl (kGF rfl (kMem [(8192, ⟨1, 0, .box [.d _, .d _, .d _]⟩)] [(22, .c (.un)), (1, .c (.ptr 8192 1 0)), (24, .c (.un)), (23, .c (.un)), (25, .c (.un)), (26, .c (.un)), (21, .c (.d _)), (27, .c (.un))] [] ⟨rfl, trivial⟩ ⟨rfl, rfl, rfl, rfl, rfl, rfl, rfl, rfl, trivial⟩ rfl (kGF rfl (kGF rfl (kGF rfl (kGF rfl (kGF rfl (kPickT rfl (kMovC rfl (kDone (kCondT rfl (kSeq (kReg (kMovC rfl (kDone (kRet (endRetA (ra := [.one (.d _)]) rfl rfl)))))))))))))))))))))))) (fun g1 => (by (simp [*] at g1)))))))))))))))))))))))))))))
    have k3 : ¬ c.slots.length ≤ 8 := fun h => h0 ⟨k1, k2, h⟩
    refine Kbc (kBox Y Y Y Y Y (Ka Y (Kdb (Kbc (Kf Y Y (Ke Y Y Y (Kp (ok_impl_within _ _ _) ⟨Y, Y, Y, trivial⟩ Y Y Y Y Y (Kw Y Y (Ka Y (kGN Y (fun g0 => (by (simp [*] at g0))) (fun g0 => Ki Y (Kf Y Y (Ki Y (Ke Y Y Y (kMem [(8192, ⟨1, 0, .box [.d _, .d _, .d _]⟩)] ((11, .c (.d _)) :: (12, .c (.un)) :: (9, .c (.d _)) :: (13, .c (.un)) :: (14, .c (.un)) :: (1, .c (.ptr 8192 1 0)) :: (16, .c (.un)) :: (17, .c (.un)) :: (18, .c (.un)) :: (15, .c (.un)) :: (19, .c (.un)) :: (20, .c (.un)) :: (22, .c (.un)) :: (24, .c (.un)) :: (23, .c (.un)) :: (25, .c (.un)) :: (26, .c (.un)) :: (21, .c (.un)) :: (27, .c (.un)) :: []) [] ⟨Y, trivial⟩ ⟨Y, Y, Y, Y, Y, Y, Y, Y, Y, Y, Y, Y, Y, Y, Y, Y, Y, Y, Y, trivial⟩ Y (Ki Y (Kp (ok_impl_within _ _ _) ⟨Y, Y, Y, trivial⟩ Y Y Y Y Y (Ki Y (Kw Y Y (Kl Y (Ka Y (Ka Y (kGN Y (fun g1 => (by (simp [*] at g1))) (fun g1 => Ki Y (Kf Y Y (Ki Y (Ke Y Y Y (Ki Y (Kq Y Y (Ki Y (Kj Y Y Y (Kl Y (Ka Y (Ka Y (kMem [(8192, ⟨1, 0, .box [.d _, .d _, .d _]⟩)] [(1, .c (.ptr 8192 1 0)), (22, .c (.un)), (24, .c (.un)), (23, .c (.un)), (25, .c (.un)), (26, .c (.un)), (21, .c (.d _)), (27, .c (.un))] [] ⟨Y, trivial⟩ ⟨Y, Y, Y, Y, Y, Y, Y, Y, trivial⟩ Y (kGP Y (fun g2 => Kg Y (Kg Y (Kg Y (Kg Y (Kg Y (Kg Y (Kk Y (Ka Y (Kd (kCondT Y (Kbc (Ka Y (Kd (Kr (Er (ra := [.one (.d _)]) rfl rfl))))))))))))))) (fun g2 => om)))))))))))))))))))))))))))))))))))))
  obtain ⟨k1, k2, k3⟩ := h0
  refine Kbc (kBox Y Y Y Y Y (Ka Y (Kdb (Kbc (Kf Y Y (Ke Y Y Y (Kp (ok_impl_within _ _ _) ⟨Y, Y, Y, trivial⟩ Y Y Y Y Y (Kw Y Y (Ka Y (kGN Y (fun g0 => (by (simp [*] at g0))) (fun g0 => Ki Y (Kf Y Y (Ki Y (Ke Y Y Y (kMem [(8192, ⟨1, 0, .box [.d _, .d _, .d _]⟩)] ((11, .c (.d _)) :: (12, .c (.un)) :: (9, .c (.d _)) :: (13, .c (.un)) :: (14, .c (.un)) :: (1, .c (.ptr 8192 1 0)) :: (16, .c (.un)) :: (17, .c (.un)) :: (18, .c (.un)) :: (15, .c (.un)) :: (19, .c (.un)) :: (20, .c (.un)) :: (22, .c (.un)) :: (24, .c (.un)) :: (23, .c (.un)) :: (25, .c (.un)) :: (26, .c (.un)) :: (21, .c (.un)) :: (27, .c (.un)) :: []) [] ⟨Y, trivial⟩ ⟨Y, Y, Y, Y, Y, Y, Y, Y, Y, Y, Y, Y, Y, Y, Y, Y, Y, Y, Y, trivial⟩ Y (Ki Y (Kp (ok_impl_within _ _ _) ⟨Y, Y, Y, trivial⟩ Y Y Y Y Y (Ki Y (Kw Y Y (Kl Y (Ka Y (Ka Y (kGN Y (fun g1 => (by (simp [*] at g1))) (fun g1 => Ki Y (Kf Y Y (Ki Y (Ke Y Y Y (Ki Y (Kq Y Y (Ki Y (Kj Y Y Y (Kl Y (Ka Y (Ka Y (kMem [(8192, ⟨1, 0, .box [.d _, .d _, .d _]⟩)] [(1, .c (.ptr 8192 1 0)), (22, .c (.un)), (24, .c (.un)), (23, .c (.un)), (25, .c (.un)), (26, .c (.un)), (21, .c (.d _)), (27, .c (.un))] [] ⟨Y, trivial⟩ ⟨Y, Y, Y, Y, Y, Y, Y, Y, trivial⟩ Y (kGP Y (fun g2 => om) (fun g2 => Ki Y (Kf Y Y (Ki Y (Ke Y Y Y (Ki Y (Ke Y Y Y (Ki Y (kClo Y Y (Ki Y ?_)))))))))))))))))))))))))))))))))))))))))))))
  refine Ku true (ok_impl_all_impl_Slot c.slots SmallS (slotOk c.now c.turn) h1 hm) ⟨rfl, ⟨rfl, ⟨_, Tryz.func141, rfl, by kernel_rfl⟩, _, rfl, ?_⟩, trivial⟩ Y Y Y (fun os => ?_)
  · rintro _ R ⟨x, h, rfl, rfl⟩
    exact ⟨by rintro _ rfl; rfl, ok_impl_Cache_slotOk c x h k1⟩
  cases a3 : c.slots.all (slotOk c.now c.turn)
  · rw [show cacheOk c = false by unfold cacheOk; rw [a3]; simp]
    refine Ki Y (Kw Y Y (Kl Y (Ka Y (Kd (kCondT Y (Kbc (Ka Y (Kd (Kr (Er (ra := [.one (.d _)]) rfl rfl))))))))))
  refine Ki Y (Kw Y Y (Kl Y (Ka Y (Kd (kCondF Y (Kn (Kb (Kbc (Kf Y Y (kMem [(8192, ⟨1, 0, .box [.d _, .d _, .d _]⟩)] [(29, .c (.ptr 8192 1 2)), (30, .c (.un))] [] ⟨Y, trivial⟩ ⟨Y, Y, trivial⟩ Y (Ke Y Y Y (Kq Y Y (Ka Y (Kd (Kt ?_)))))))))))))))
  refine kLoop (α := { i : Nat // i ≤ c.slots.length ∧ (List.range i).all (sAt c.slots) = true }) (fun y => ⟨tabSl [(1, .c (.ptr (rid 1 0) 1 0)), (30, .dv (encS c.slots)), (31, .i c.slots.length), (32, .i y.1)], obTab 1 [(rid 1 0, ⟨1, 0, .box (c.cells.map .d)⟩)], []⟩) (fun y => c.slots.length - y.1) ⟨0, by simp⟩ .normA ?_
  rintro ⟨i, hi, hz⟩
  simp only
  rcases Nat.lt_or_ge i c.slots.length with hlt | hge
  · have hbi := hm _ (List.getElem_mem hlt)
    have hq := sAt_eq hlt
    refine Kbc (Kj Y Y Y (Kdb (Km Y (fun g0 => Kn (Kb (Kt (Kbc (Ka Y (kIadR Y Y Y prl (Ky Y Y (kAlloc Y Y (Ka Y (kMem [(20480, ⟨2, 0, .box [.nil 1, .d _, .d _, .nil 7, .d _, .d _, .d _]⟩)] [(4, .c (.ptr 20480 2 0)), (36, .g [.d _, .d _, .d _, .d _, .d _, .d _, .d _])] [] ⟨Y, trivial⟩ ⟨Y, Y, trivial⟩ Y (Ko Y Y Y Y (Kdb (kRegD (Ka Y (Kj Y Y Y (Ka Y (kGP Y (fun g1 => Ki Y (Kf Y Y (Ki Y (Ke Y Y Y (Ki Y (Ka Y (Ki Y (kDif Y Y om (Ki Y (kIadT Y Y prl (kMem [(20480, ⟨2, 0, .box [.d _, .d _, .d _, .d _, .d _, .d _, .d _]⟩), (8192, ⟨1, 0, .box [.d _, .d _, .d _]⟩)] [(4, .c (.ptr 20480 2 0)), (39, .c (.d _)), (1, .c (.ptr 8192 1 0)), (3, .c (.d _))] [8192] ⟨Y, Y, trivial⟩ ⟨Y, Y, Y, Y, trivial⟩ Y (Ki Y (Ky Y Y (Ki Y (Ke Y Y Y (Ks Y Y (Ki Y (Kp (ok_impl_Slot_compare _ _ prx prx) ⟨⟨⟨Y, Y, Y, Y, Y, Y, Y, trivial⟩, leb⟩, ⟨⟨Y, Y, Y, Y, Y, Y, Y, trivial⟩, leb⟩, trivial⟩ Y Y Y Y Y (Ki Y (Kj Y Y Y (Kk Y (Ka Y (Ka Y (kGP Y (fun g2 => Kg Y (Kg Y (Kg Y (Kg Y (Kg Y (Ks Y Y (Kg Y (Kk Y (Ka Y (Kd (kH (kCondT Y (Kbc (Ka Y (Kd (Kr (Er (ra := [.one (.d _)]) rfl ?_))))))))))))))))) (fun g2 => Ki Y (Kf Y Y (Ki Y (Ke Y Y Y (Ki Y (Ka Y (Ki Y (kCutH Y Y Y om (Ki Y (kClo Y Y (Ks Y Y (Ki Y ?_)))))))))))))))))))))))))))))))))))) (fun g1 => Kg Y (Kg Y (Kg Y (Kg Y (Kg Y (Kg Y (kMem [(20480, ⟨2, 0, .box [.d _, .d _, .d _, .d _, .d _, .d _, .d _]⟩), (8192, ⟨1, 0, .box [.d _, .d _, .d _]⟩)] [(4, .c (.ptr 20480 2 0)), (45, .c (.un)), (39, .c (.d _)), (1, .c (.ptr 8192 1 0)), (3, .c (.d _))] [] ⟨Y, Y, trivial⟩ ⟨Y, Y, Y, Y, Y, trivial⟩ Y (Kg Y (Ks Y Y (Kg Y (Kg Y (Kl Y (Ka Y (Ka Y (Ki Y (Kf Y Y (Ki Y (Ke Y Y Y (Ki Y (Ka Y (Ki Y (kCutH Y Y Y om (Ki Y (kClo Y Y (Ks Y Y (Ki Y ?_))))))))))))))))))))))))))))))))))))))))))) (fun g0 => om))))
    · rw [cache_no hlt (by rw [hq, prevS_pos (by omega) hlt (by omega), decide_eq_false (by omega)]; rfl)]
    · refine Ku true (ok_slices_ContainsFunc_Limpl_Slot_impl_Slot (c.slots.take i) SmallS (fun o => o.used == c.slots[i].used) (by simp; omega) (fun x hx => hm x (List.mem_of_mem_take hx))) ⟨rfl, ⟨rfl, ⟨_, Tryz.func144, rfl, by kernel_rfl⟩, _, rfl, ?_⟩, trivial⟩ Y Y Y (fun os => ?_)
      · rintro _ R ⟨x, hx, rfl, rfl⟩
        exact ⟨by rintro _ rfl; rfl, ok_impl_CacheOk_1 x c.slots[i]⟩
      cases hu : (c.slots.take i).any fun o => o.used == c.slots[i].used
      · refine Kl Y (Ka Y (Kd (kH (kCondF Y (Kn (Kv (Kc (kAdd Y Y om (Ka Y (Kd ?_))))))))))
        refine kInv ⟨⟨i + 1, by omega, range_all hz (by rw [hq, hu, prevS_pos om hlt om, decide_eq_true om]; rfl)⟩, by simp only; omega, .normA⟩
      · refine Kl Y (Ka Y (Kd (kH (kCondT Y (Kbc (Ka Y (Kd (Kr (Er (ra := [.one (.d _)]) rfl ?_)))))))))
        rw [cache_no hlt (by rw [hq, hu]; simp)]
    · refine Ku true (ok_slices_ContainsFunc_Limpl_Slot_impl_Slot (c.slots.take i) SmallS (fun o => o.used == c.slots[i].used) (by simp; omega) (fun x hx => hm x (List.mem_of_mem_take hx))) ⟨rfl, ⟨rfl, ⟨_, Tryz.func144, rfl, by kernel_rfl⟩, _, rfl, ?_⟩, trivial⟩ Y Y Y (fun os => ?_)
      · rintro _ R ⟨x, hx, rfl, rfl⟩
        exact ⟨by rintro _ rfl; rfl, ok_impl_CacheOk_1 x c.slots[i]⟩
      cases hu : (c.slots.take i).any fun o => o.used == c.slots[i].used
      · refine Kl Y (Ka Y (Kd (kH (kCondF Y (Kn (Kv (Kc (kAdd Y Y om (Ka Y (Kd ?_))))))))))
        refine kInv ⟨⟨i + 1, by omega, range_all hz (by rw [hq, hu, show prevS c.slots i = true from (by cases (show i = 0 by omega); exact prevS_zero)]; rfl)⟩, by simp only; omega, .normA⟩
      · refine Kl Y (Ka Y (Kd (kH (kCondT Y (Kbc (Ka Y (Kd (Kr (Er (ra := [.one (.d _)]) rfl ?_)))))))))
        rw [cache_no hlt (by rw [hq, hu]; simp)]
  · rw [show cacheOk c = true by unfold cacheOk; rw [a3, decide_eq_true k1, decide_eq_true k2, decide_eq_true k3, show (List.range c.slots.length).all (sAt c.slots) = true by rw [show c.slots.length = i by omega]; exact hz]; rfl]
    refine Kbc (Kj Y Y Y (Kdb (Km Y (fun g0 => om) (fun g0 => kExit (kExC (kExI (kExB (Kbc (Ka Y (Kd (Kr (Er (ra := [.one (.d _)]) rfl rfl))))))))))))

def c_impl_Cache_tick : C := (.g (.o 0 2 (.box 2 (.t 0)) (.o 1 4 (.alloc 4 [(.i 0), (.i 0), (.n 7)]) .done)) (.g (.o 0 8 (.mov (.t 1)) (.o 1 9 (.fad (.t 2) 1) (.o 2 10 (.load none (.t 9)) (.o 3 11 (.build [(.i 0), (.i 0), (.n 7)] [(0, 1, (.t 8)), (1, 1, (.t 10))]) (.o 4 5 (.alloc 5 [(.i 0), (.i 0), (.n 7)]) (.op 5 [] none none false (.store (some 3) (.t 5) (.t 11)) .done)))))) (.seq (.g (.o 0 12 (.fad (.t 2) 2) (.o 1 13 (.load none (.t 12)) (.o 2 14 (.len (.t 13)) (.o 3 15 (.mov (.i 0)) .done)))) (.block 0 (.loop (.g (.o 0 16 (.bin .lss (.t 15) (.t 14)) .done) (.seq (.cond (.t 16) .skip (.exit 0)) (.seq (.block 1 (.g (.o 0 17 (.iad 7 (.t 13) (.t 15)) (.o 1 18 (.load (some 7) (.t 17)) (.o 2 7 (.alloc 7 [(.n 1), (.i 0), (.i 0), (.n 7), (.i 0), (.i 0), (.i 0)]) (.op 3 [] none none false (.store (some 7) (.t 7) (.t 18)) .done)))) (.g (.o 0 19 (.fad (.t 7) 5) (.o 1 20 (.load none (.t 19)) (.o 2 21 (.mov (.t 1)) (.o 3 22 (.bin .gtr (.t 20) (.t 21)) .done)))) (.cond (.t 22) (.reg false (.o 0 23 (.fad (.t 5) 2) (.o 1 24 (.load none (.t 23)) (.o 2 25 (.load (some 7) (.t 7)) (.o 3 26 (.lit 26 7 [(.n 1), (.i 0), (.i 0), (.n 7), (.i 0), (.i 0), (.i 0)] 1 [(0, 7, (.t 25))]) (.o 4 27 (.app 27 7 88 (.t 24) (.t 26)) (.o 5 28 (.fad (.t 5) 2) (.op 6 [] none none false (.store none (.t 28) (.t 27)) .done)))))))) .skip)))) (.reg false (.o 0 29 (.bin .add (.t 15) (.i 1)) (.o 1 15 (.mov (.t 29)) .done))))))))) (.g (.o 0 30 (.load (some 3) (.t 5)) (.op 1 [] none none false (.store (some 3) (.t 4) (.t 30)) .done)) .ret))))
theorem dg_impl_Cache_tick : Tryz.f139.body.bind (digC Tryz.prog Tryz.f139.ntmps []) = some c_impl_Cache_tick := by kernel_rfl
theorem rs_impl_Cache_tick : resSlots Tryz.prog Tryz.f139 = some [.m 4 (some 3)] := by kernel_rfl
theorem ok_impl_Cache_tick (c : Cache) (now : Int) (hs : SmallSs c.slots) :
    FnOK Tryz.prog 139 [.agg (c.cells.map .d), .one (.d (.sc (.int .i64 now)))] (fun ra _ => ra = [.agg [.d (.sc (.int .i64 now)), .d (.sc (.int .i64 c.turn)), .d (encS (tickS c.slots now))]]) := by
  refine FnOK.ofK Tryz.func139 (by kernel_rfl) dg_impl_Cache_tick rs_impl_Cache_tick rfl rfl ?_
  delta c_impl_Cache_tick T.o X.i C.g
  have h1 := hs.len
  have hm := hs.mem
  refine Kbc (kBox Y Y Y Y Y (kAlloc Y Y (Kdb (Kc (Ka Y (Kf Y Y (Ke Y Y Y (kBuildG Y (kAlloc Y Y (kMem [(24576, ⟨1, 0, .box [.d _, .d _, .nil 7]⟩)] [(5, .c (.ptr 24576 1 0)), (11, .g [.d _, .d _, .nil 7])] [] ⟨Y, trivial⟩ ⟨Y, Y, trivial⟩ Y (Ko Y Y Y Y (Kdb (Kbc (Kf Y Y (Ke Y Y Y (Kq Y Y (Ka Y (Kd (Kt ?_)))))))))))))))))))
  refine kSub (Sub.nilBox (id := rid 5 0) (id2 := rid 5000 0) (j := 2) rfl rfl rfl (by decide) (by decide)) ?_
  refine kLoop (α := { i : Nat // i ≤ c.slots.length }) (fun y => ⟨tabSl [(1, .i now), (4, .c (.ptr (rid 4 0) 1 0)), (5, .c (.ptr (rid 5 0) 1 0)), (13, .dv (encS c.slots)), (14, .i c.slots.length), (15, .i y.1)], obTab 1 [(rid 4 0, ⟨1, 0, .box [.d (.sc (.int .i64 0)), .d (.sc (.int .i64 0)), .nil 7]⟩), (rid 5 0, ⟨1, 0, .box [.d (.sc (.int .i64 now)), .d (.sc (.int .i64 c.turn)), .arr (rid 5000 0) 1]⟩), (rid 5000 0, ⟨1, 0, .arr false (encS (tickS (c.slots.take y.1) now))⟩)], []⟩) (fun y => c.slots.length - y.1) ⟨0, by simp⟩ .normA ?_
  rintro ⟨i, hi⟩
  simp only
  have hle := tickS_len c.slots now i
  rcases Nat.lt_or_ge i c.slots.length with hlt | hge
  · by_cases hy : now < c.slots[i].til
    · have hst := tickS_take_yes hlt hy
      refine Kbc (Kj Y Y Y (Kdb (Km Y (fun g0 => Kn (Kb (Kt (Kbc (kIadR Y Y Y prl (Ky Y Y (kAlloc Y Y (kMem [(32768, ⟨2, 0, .box [.nil 1, .d _, .d _, .nil 7, .d _, .d _, .d _]⟩)] [(7, .c (.ptr 32768 2 0)), (18, .g [.d _, .d _, .d _, .d _, .d _, .d _, .d _])] [] ⟨Y, trivial⟩ ⟨Y, Y, trivial⟩ Y (Ko Y Y Y Y (Kdb (Kc (Kf Y Y (Ke Y Y Y (Ka Y (Kj Y Y Y (Kd (Km Y (fun g1 => Kc (Kf Y Y (Ke Y Y Y (Ke Y Y Y (kMem [(20484096, ⟨1, 0, .arr false _⟩), (24576, ⟨1, 0, .box [.d _, .d _, .arr 20484096 1]⟩)] [(25, .g [.d _, .d _, .d _, .d _, .d _, .d _, .d _]), (24, .c (.arr 20484096 1)), (5, .c (.ptr 24576 1 0))] [] ⟨Y, Y, trivial⟩ ⟨Y, Y, Y, trivial⟩ Y (kLitG Y Y Y Y (kAppSlot Y Y Y Y Y Y Y prl (Kf Y Y (Ko Y Y Y Y (Kd (Kv (Kc (kAdd Y Y om (Ka Y (Kd ?_))))))))))))))) (fun g1 => om)))))))))))))))))) (fun g0 => om))))
      refine kInv ⟨⟨i + 1, by omega⟩, by simp only; omega, ?_⟩
      simp only [hst]
      exact .normA
    · have hst := tickS_take_no hlt hy
      refine Kbc (Kj Y Y Y (Kdb (Km Y (fun g0 => Kn (Kb (Kt (Kbc (kIadR Y Y Y prl (Ky Y Y (kAlloc Y Y (kMem [(32768, ⟨2, 0, .box [.nil 1, .d _, .d _, .nil 7, .d _, .d _, .d _]⟩)] [(7, .c (.ptr 32768 2 0)), (18, .g [.d _, .d _, .d _, .d _, .d _, .d _, .d _])] [] ⟨Y, trivial⟩ ⟨Y, Y, trivial⟩ Y (Ko Y Y Y Y (Kdb (Kc (Kf Y Y (Ke Y Y Y (Ka Y (Kj Y Y Y (Kd (Km Y (fun g1 => om) (fun g1 => Kn (Kv (Kc (kAdd Y Y om (Ka Y (Kd ?_))))))))))))))))))))))) (fun g0 => om))))
      refine kInv ⟨⟨i + 1, by omega⟩, by simp only; omega, ?_⟩
      simp only [hst]
      exact .normA
  · refine Kbc (Kj Y Y Y (Kdb (Km Y (fun g0 => om) (fun g0 => kExit (kExC (kExI (kExB (Kbc (Ke Y Y Y (kMem [(20480, ⟨1, 0, .box [.d _, .d _, .nil 7]⟩), (20484096, ⟨1, 0, .arr false _⟩)] [(4, .c (.ptr 20480 1 0)), (30, .g [.d _, .d _, .arr 20484096 1])] [] ⟨Y, Y, trivial⟩ ⟨Y, Y, trivial⟩ Y (Ko Y Y Y Y (Kd (kMem [(20480, ⟨1, 0, .box [.d _, .d _, .arr 20484096 1]⟩), (20484096, ⟨1, 0, .arr false _⟩)] [(4, .c (.ptr 20480 1 0))] [] ⟨Y, Y, trivial⟩ ⟨Y, trivial⟩ Y (Kr (Er (ra := [.agg [(.d _), (.d _), (.d _)]]) rfl ?_)))))))))))))))
    rw [show i = c.slots.length by omega, List.take_length]

def c_bytes_Clone : C := (.g (.o 0 2 (.mov (.n 1)) .done) (.seq (.g (.o 0 3 (.mov (.t 0)) (.o 1 4 (.eqn false (.t 3)) .done)) (.cond (.t 4) (.g (.o 0 2 (.mov (.n 1)) .done) .ret) .skip)) (.g (.o 0 5 (.lit 5 1 [(.v (.int .u8 0))] 0 []) (.o 1 6 (.mov (.t 0)) (.o 2 7 (.app 7 1 1 (.t 5) (.t 6)) (.o 3 2 (.mov (.t 7)) .done)))) .ret)))
theorem dg_bytes_Clone : Tryz.f233.body.bind (digC Tryz.prog Tryz.f233.ntmps []) = some c_bytes_Clone := by kernel_rfl
theorem rs_bytes_Clone : resSlots Tryz.prog Tryz.f233 = some [.s 2] := by kernel_rfl
theorem ok_bytes_Clone (b : List UInt8) (hb : b.length ≤ 140737488355328) :
    FnOK Tryz.prog 233 [.one (.d (encB b))] (fun ra _ => ra = [.one (.own true (encB b))]) := by
  refine FnOK.ofK Tryz.func233 (by kernel_rfl) dg_bytes_Clone rs_bytes_Clone rfl rfl ?_
  delta c_bytes_Clone T.o X.i C.g
  refine Kbc (Ka Y (Kd ?_))
  refine Kb (Kbc (Ka Y (kEqn Y Y Y fun n hn => Kd ?_)))
  refine kCond Y (fun h => ?_) (fun h => ?_)
  · refine Kbc (Ka Y (Kd (Kr ?_)))
    refine endRet (ra := [.one (.own true (.sl 1 []))]) rfl ⟨⟨rfl, trivial⟩, nodupB_sound rfl, trivial, trivial⟩ ?_
    have : b = [] := by
      rw [len_encB] at hn
      cases b with
      | nil => rfl
      | cons x l => have := hn (by simp); simp [this] at h
    rw [this]; rfl
  · refine Kn (Kbc ?_)
    refine kLit Y Y Y Y (Ka Y ?_)
    refine kApp (cy := .d (encB b)) rfl rfl rfl (src_encB _ b) rfl rfl ⟨rfl, rfl, Nat.zero_lt_one⟩ Y ?_ (Ka Y (Kd (Kr ?_)))
    · show ((DV.sl 1 (chunk 1 0 [])).len + (encB b).len) * 1 ≤ _ ∧ _
      rw [len_encB]; simp [DV.len, chunk]; omega
    refine endRet (ra := [.one (.own true _)]) rfl ⟨⟨⟨⟨_, rfl, fun _ => rfl⟩, .inl (Nat.zero_lt_succ _)⟩, trivial⟩, nodupB_sound rfl, trivial, trivial⟩ ?_
    exact congrArg (fun x => [RA.one (RV.own true x)]) (app_nil_encB b)

def c_impl_Name_copied : C := (.g (.o 0 1 (.box 1 (.t 0)) (.o 1 2 (.alloc 2 [(.n 1)]) .done)) (.g (.o 0 6 (.build [(.n 1)] []) (.o 1 3 (.alloc 3 [(.n 1)]) (.op 2 [] none none false (.store (some 1) (.t 3) (.t 6)) .done))) (.seq (.g (.o 0 7 (.fad (.t 1) 0) (.o 1 8 (.load none (.t 7)) (.o 2 9 (.len (.t 8)) (.o 3 10 (.mov (.i 0)) .done)))) (.block 0 (.loop (.g (.o 0 11 (.bin .lss (.t 10) (.t 9)) .done) (.seq (.cond (.t 11) .skip (.exit 0)) (.seq (.block 1 (.g (.o 0 12 (.iad 1 (.t 8) (.t 10)) (.o 1 13 (.load none (.t 12)) (.o 2 5 (.mov (.t 13)) .done))) (.reg true (.op 0 [] (some 14) none true (.fad (.t 3) 0) (.op 1 [] (some 15) none true (.load none (.t 14)) (.op 2 [] (some 16) none true (.mov (.t 5)) (.o 3 17 (.call 17 233 [(.t 16)]) (.o 4 18 (.lit 18 1 [(.n 1)] 1 [(0, 1, (.t 17))]) (.op 5 [1] (some 19) none false (.app 19 1 24 (.t 15) (.t 18)) (.op 6 [] (some 20) none true (.fad (.t 3) 0) (.op 7 [1] none none false (.store none (.t 20) (.t 19)) .done))))))))))) (.reg false (.o 0 21 (.bin .add (.t 10) (.i 1)) (.o 1 10 (.mov (.t 21)) .done))))))))) (.g (.o 0 22 (.load (some 1) (.t 3)) (.op 1 [] none none false (.store (some 1) (.t 2) (.t 22)) .done)) .ret))))
theorem dg_impl_Name_copied : Tryz.f151.body.bind (digC Tryz.prog Tryz.f151.ntmps []) = some c_impl_Name_copied := by kernel_rfl
theorem rs_impl_Name_copied : resSlots Tryz.prog Tryz.f151 = some [.m 2 (some 1)] := by kernel_rfl
theorem ok_impl_Name_copied (a : List (List UInt8)) (ha : a.length ≤ 4194304) (hb : ∀ b ∈ a, b.length ≤ 4194304) :
    FnOK Tryz.prog 151 [.agg [.d (encBB a)]] (fun ra _ => ra = [.agg [.own true (encBB a)]]) := by
  refine FnOK.ofK Tryz.func151 (by kernel_rfl) dg_impl_Name_copied rs_impl_Name_copied rfl rfl ?_
  delta c_impl_Name_copied T.o X.i C.g
  refine Kbc (kBox Y Y Y Y Y (kAlloc Y Y (Kd ?_)))
  refine Kbc (kBuild Y (kAlloc Y Y (Ko Y Y Y Y (Kd ?_))))
  refine Kb (Kbc (Kf Y Y (Ke Y Y Y (kLen Y Y Y (Ka Y (Kd (Kt ?_)))))))
  rw [len_encBB]
  refine kSub (Sub.nilBox (id := rid 3 0) (id2 := rid 5000 0) (j := 0) rfl rfl rfl (by decide) (by decide)) ?_
  refine kLoop (α := { i : Nat // i ≤ a.length })
    (fun y => ⟨tabSl [(1, .c (.ptr (rid 1 0) 1 0)), (2, .c (.ptr (rid 2 0) 1 0)), (3, .c (.ptr (rid 3 0) 1 0)), (8, .dv (encBB a)), (9, .i a.length), (10, .i y.1)],
      obTab 1 [(rid 1 0, ⟨1, 0, .box [.d (encBB a)]⟩), (rid 2 0, ⟨1, 0, .box [.nil 1]⟩), (rid 3 0, ⟨1, 0, .box [.arr (rid 5000 0) 1]⟩), (rid 5000 0, ⟨1, 0, .arr true (encBB (a.take y.1))⟩)], []⟩) (fun y => a.length - y.1) ⟨0, by simp⟩
    (.norm ?_ ?_) ?_
  · repeat' first | exact trivial | exact rfl | exact .inl rfl | refine ⟨_, rfl, ?_⟩ | refine ⟨?_, ?_⟩ | fail
  · repeat' first | exact trivial | exact rfl | exact .inl rfl | refine ⟨_, rfl, ?_⟩ | refine ⟨?_, ?_⟩ | fail
  rintro ⟨i, hi⟩
  simp only at hi ⊢
  refine Kbc (Kj Y Y Y (Kdb ?_))
  refine kCond Y (fun h1 => ?_) (fun h1 => ?_)
  · have hlt : i < a.length := by simp at h1; omega
    refine Kn (Kb (Kt (Kbc ?_)))
    refine kIadD Y Y Y Y ?_ ?_
    · rw [len_encBB]; omega
    rw [show (encBB a).row (i : Int).toNat = [encB a[i]] from row_encBB a i hlt]
    refine Ky Y Y (Ka Y (Kd (kRegD (Kf Y Y (Ke Y Y Y (Ka Y ?_))))))
    refine Ku false (ok_bytes_Clone a[i] (Nat.le_trans (hb _ (List.getElem_mem hlt)) om)) ⟨Y, trivial⟩ rfl rfl rfl fun os => ?_
    refine kLit Y Y Y Y (Ks Y Y ?_)
    refine kApp Y Y Y Y Y Y ⟨rfl, rfl, Nat.zero_lt_one⟩ Y ?_ ?_
    · show ((encBB (a.take i)).len + (DV.sl 1 [[encB a[i]]]).len) * 24 ≤ _ ∧ (encBB (a.take i)).len + (DV.sl 1 [[encB a[i]]]).len ≤ _
      rw [len_encBB, List.length_take]; simp [DV.len, DV.rows]; omega
    refine Kf Y Y (Ks Y Y (Ko Y Y Y Y (Kd (kH (Kv (Kc (kAdd Y Y om (Ka Y (Kd ?_)))))))))
    refine kInv ⟨⟨i + 1, hlt⟩, by simp only; omega, .norm ?_ ?_⟩
    · repeat' first | exact trivial | exact rfl | exact .inl rfl | refine ⟨_, rfl, ?_⟩ | refine ⟨?_, ?_⟩ | fail
    · repeat' first | exact trivial | exact rfl | exact .inl rfl | refine ⟨_, rfl, ?_⟩ | refine ⟨?_, ?_⟩ | fail
      rw [← List.take_append_getElem hlt, ← app_encBB]
      rfl
  · refine kExit (kExC (kExI (kExB (Kbc (Ke Y Y Y (Ko Y Y Y Y (Kd ?_)))))))
    have hge : i = a.length := by simp at h1; omega
    subst hge
    refine Kr (endRet (ra := [.agg [.own true _]]) rfl ⟨⟨⟨⟨⟨⟨_, rfl, fun _ => rfl⟩, .inl Nat.zero_lt_one⟩, trivial⟩, leb⟩, trivial⟩, nodupB_sound rfl, ⟨trivial, trivial⟩, trivial⟩ ?_)
    rw [List.take_length]

def c_slices_Clone_Lint_int : C := (.g (.o 0 2 (.mov (.n 1)) .done) (.seq (.g (.o 0 3 (.mov (.t 0)) (.o 1 4 (.eqn false (.t 3)) .done)) (.cond (.t 4) (.g (.o 0 2 (.mov (.n 1)) .done) .ret) .skip)) (.g (.o 0 5 (.lit 5 1 [(.i 0)] 0 []) (.o 1 6 (.mov (.t 0)) (.o 2 7 (.app 7 1 8 (.t 5) (.t 6)) (.o 3 2 (.mov (.t 7)) .done)))) .ret)))
theorem dg_slices_Clone_Lint_int : Tryz.f188.body.bind (digC Tryz.prog Tryz.f188.ntmps []) = some c_slices_Clone_Lint_int := by kernel_rfl
theorem rs_slices_Clone_Lint_int : resSlots Tryz.prog Tryz.f188 = some [.s 2] := by kernel_rfl
theorem ok_slices_Clone_Lint_int (b : List Int) (hb : b.length ≤ 4194304) :
    FnOK Tryz.prog 188 [.one (.d (Hearth.encI b))] (fun ra _ => ra = [.one (.own true (Hearth.encI b))]) := by
  refine FnOK.ofK Tryz.func188 (by kernel_rfl) dg_slices_Clone_Lint_int rs_slices_Clone_Lint_int rfl rfl ?_
  delta c_slices_Clone_Lint_int T.o X.i C.g
  refine Kbc (Ka Y (Kd ?_))
  refine Kb (Kbc (Ka Y (kEqn Y Y Y fun n hn => Kd ?_)))
  refine kCond Y (fun h => ?_) (fun h => ?_)
  · refine Kbc (Ka Y (Kd (Kr ?_)))
    refine endRet (ra := [.one (.own true (.sl 1 []))]) rfl ⟨⟨rfl, trivial⟩, nodupB_sound rfl, trivial, trivial⟩ ?_
    have : b = [] := by
      rw [len_encI] at hn
      cases b with
      | nil => rfl
      | cons x l => have := hn (by simp); simp [this] at h
    rw [this]; rfl
  · refine Kn (Kbc ?_)
    refine kLit Y Y Y Y (Ka Y ?_)
    refine kApp (cy := .d (Hearth.encI b)) rfl rfl rfl (src_encI _ b) rfl rfl ⟨rfl, rfl, Nat.zero_lt_one⟩ Y ?_ (Ka Y (Kd (Kr ?_)))
    · show ((DV.sl 1 (chunk 1 0 [])).len + (Hearth.encI b).len) * 8 ≤ _ ∧ _
      rw [len_encI]; simp [DV.len, chunk]; omega
    refine endRet (ra := [.one (.own true _)]) rfl ⟨⟨⟨⟨_, rfl, fun _ => rfl⟩, .inl (Nat.zero_lt_succ _)⟩, trivial⟩, nodupB_sound rfl, trivial, trivial⟩ ?_
    exact congrArg (fun x => [RA.one (RV.own true x)]) (app_nil_encI b)

def c_impl_Rr_copied : C := (.g (.o 0 1 (.box 1 (.t 0)) (.o 1 2 (.alloc 2 [(.n 1), (.i 0), (.i 0), (.i 0), (.n 1), (.n 1), (.n 1)]) .done)) (.seq (.reg true (.op 0 [] (some 3) none true (.fad (.t 1) 0) (.op 1 [] (some 4) none true (.load (some 1) (.t 3)) (.op 3 [] (some 6) none true (.fad (.t 1) 4) (.op 4 [] (some 7) none true (.load (some 1) (.t 6)) (.op 6 [] (some 9) none true (.fad (.t 1) 5) (.op 7 [] (some 10) none true (.load none (.t 9)) (.op 9 [] (some 12) none true (.fad (.t 1) 6) (.op 10 [] (some 13) none true (.load none (.t 12)) (.op 2 [1] (some 5) none false (.call 5 151 [(.t 4)]) (.op 12 [] (some 15) none true (.fad (.t 1) 0) (.op 5 [4, 1] (some 8) none false (.call 8 151 [(.t 7)]) (.op 8 [7, 4, 1] (some 11) none false (.call 11 233 [(.t 10)]) (.op 11 [10, 7, 4, 1] (some 14) none false (.call 14 188 [(.t 13)]) (.op 13 [1, 4, 7, 10] none none false (.store (some 1) (.t 15) (.t 5)) (.op 14 [] (some 16) none true (.fad (.t 1) 4) (.op 15 [1, 4, 7, 10] none none false (.store (some 1) (.t 16) (.t 8)) (.op 16 [] (some 17) none true (.fad (.t 1) 5) (.op 17 [1, 4, 7, 10] none none false (.store none (.t 17) (.t 11)) (.op 18 [] (some 18) none true (.fad (.t 1) 6) (.op 19 [1, 4, 7, 10] none none false (.store none (.t 18) (.t 14)) .done))))))))))))))))))))) (.g (.o 0 19 (.load (some 7) (.t 1)) (.op 1 [] none none false (.store (some 7) (.t 2) (.t 19)) .done)) .ret)))
theorem dg_impl_Rr_copied : Tryz.f172.body.bind (digC Tryz.prog Tryz.f172.ntmps []) = some c_impl_Rr_copied := by kernel_rfl
theorem rs_impl_Rr_copied : resSlots Tryz.prog Tryz.f172 = some [.m 2 (some 7)] := by kernel_rfl
theorem ok_impl_Rr_copied (r : Rr) (hs : SmallR r) :
    FnOK Tryz.prog 172 [.agg (r.cells.map .d)] (fun ra _ => ra = [.agg [.own true (encBB r.name), .d (.sc (.int .i64 r.ty)), .d (.sc (.int .i64 r.ttl)), .d (.sc (.int .i64 r.addr)), .own true (encBB r.to), .own true (encB r.text), .own true (Hearth.encI r.nums)]]) := by
  refine FnOK.ofK Tryz.func172 (by kernel_rfl) dg_impl_Rr_copied rs_impl_Rr_copied rfl rfl ?_
  delta c_impl_Rr_copied T.o X.i C.g
  have n1 := hs.n.len
  have n2 := hs.n.mem
  have t1 := hs.t.len
  have t2 := hs.t.mem
  have x1 := hs.x
  have m1 := hs.m
  refine Kb (kCut ⟨tabSl [(1, .c (.ptr (rid 1 0) 1 0)), (2, .c (.ptr (rid 2 0) 1 0))], obTab 1 [(rid 1 0, ⟨1, 0, .box (r.cells.map .d)⟩), (rid 2 0, ⟨1, 0, .box [.nil 1, .d (.sc (.int .i64 0)), .d (.sc (.int .i64 0)), .d (.sc (.int .i64 0)), .nil 1, .nil 1, .nil 1]⟩)], []⟩ ?_ (fun x hc => ?_))
  case refine_2 => refine kReg (kBox rfl rfl rfl rfl rfl (kAlloc rfl rfl (kDone (hc _ .normA))))
  refine Kb (kCut ⟨tabSl [(1, .c (.ptr (rid 1 0) 1 0)), (2, .c (.ptr (rid 2 0) 1 0))], obTab 1 [(rid 1 0, ⟨1, 0, .box [.arr (rid 5 0) 1, .d (.sc (.int .i64 r.ty)), .d (.sc (.int .i64 r.ttl)), .d (.sc (.int .i64 r.addr)), .arr (rid 8 0) 1, .arr (rid 11 0) 1, .arr (rid 14 0) 1]⟩), (rid 2 0, ⟨1, 0, .box [.nil 1, .d (.sc (.int .i64 0)), .d (.sc (.int .i64 0)), .d (.sc (.int .i64 0)), .nil 1, .nil 1, .nil 1]⟩), (rid 5 0, ⟨1, 0, .arr true (encBB r.name)⟩), (rid 8 0, ⟨1, 0, .arr true (encBB r.to)⟩), (rid 11 0, ⟨1, 0, .arr true (encB r.text)⟩), (rid 14 0, ⟨1, 0, .arr true (Hearth.encI r.nums)⟩)], []⟩ ?_ (fun x hc => ?_))
  case refine_2 => refine kRegD (kFadP rfl rfl (kLoadP rfl rfl rfl (kFadP rfl rfl (kLoadP rfl rfl rfl (kFadP rfl rfl (kLoadP rfl rfl rfl (kFadP rfl rfl (kLoadP rfl rfl rfl (kRelK rfl rfl (kCall1 true (ok_impl_Name_copied _ pr pr) ⟨⟨⟨rfl, trivial⟩, leb⟩, trivial⟩ rfl rfl rfl (fun _ => (kFadP rfl rfl (kRelK rfl rfl (kCall1 true (ok_impl_Name_copied _ pr pr) ⟨⟨⟨rfl, trivial⟩, leb⟩, trivial⟩ rfl rfl rfl (fun _ => (kRelK rfl rfl (kCall1 true (ok_bytes_Clone _ pr) ⟨rfl, trivial⟩ rfl rfl rfl (fun _ => (kRelF rfl rfl (kCall1 true (ok_slices_Clone_Lint_int _ pr) ⟨rfl, trivial⟩ rfl rfl rfl (fun _ => (kRelF rfl rfl (kStoreP rfl rfl rfl rfl (kFadP rfl rfl (kRelF rfl rfl (kStoreP rfl rfl rfl rfl (kFadP rfl rfl (kRelF rfl rfl (kStoreP rfl rfl rfl rfl (kFadP rfl rfl (kRelF rfl rfl (kStoreP rfl rfl rfl rfl (kDone (kH (kMem [(8192, ⟨1, 0, .box [.arr 24576 2, .d _, .d _, .d _, .arr 36864 2, .arr 49152 2, .arr 61440 2]⟩), (12288, ⟨1, 0, .box [.nil 1, .d _, .d _, .d _, .nil 1, .nil 1, .nil 1]⟩), (24576, ⟨2, 0, .arr true _⟩), (36864, ⟨2, 0, .arr true _⟩), (49152, ⟨2, 0, .arr true _⟩), (61440, ⟨2, 0, .arr true _⟩)] [(1, .c (.ptr 8192 1 0)), (2, .c (.ptr 12288 1 0))] [] ⟨rfl, rfl, rfl, rfl, rfl, rfl, trivial⟩ ⟨rfl, rfl, trivial⟩ rfl (hc _ .normA))))))))))))))))))))))))))))))))))))
  refine Kb (kCut ⟨tabSl [(2, .c (.ptr (rid 2 0) 1 0))], obTab 1 [(rid 2 0, ⟨1, 0, .box [.arr (rid 5 0) 1, .d (.sc (.int .i64 r.ty)), .d (.sc (.int .i64 r.ttl)), .d (.sc (.int .i64 r.addr)), .arr (rid 8 0) 1, .arr (rid 11 0) 1, .arr (rid 14 0) 1]⟩), (rid 5 0, ⟨1, 0, .arr true (encBB r.name)⟩), (rid 8 0, ⟨1, 0, .arr true (encBB r.to)⟩), (rid 11 0, ⟨1, 0, .arr true (encB r.text)⟩), (rid 14 0, ⟨1, 0, .arr true (Hearth.encI r.nums)⟩)], []⟩ ?_ (fun x hc => ?_))
  case refine_2 => refine kReg (kLoadP rfl rfl rfl (kStoreP rfl rfl rfl rfl (kDone (hc _ .normA))))
  refine (Kr (Er (ra := [.agg [(.own true _), (.d _), (.d _), (.d _), (.own true _), (.own true _), (.own true _)]]) rfl rfl))

def c_impl_copyRrs : C := (.g (.o 0 2 (.mov (.n 7)) .done) (.g (.o 0 6 (.lit 6 7 [(.n 1), (.i 0), (.i 0), (.i 0), (.n 1), (.n 1), (.n 1)] 0 []) (.o 1 3 (.mov (.t 6)) .done)) (.seq (.g (.o 0 7 (.mov (.t 0)) (.o 1 8 (.len (.t 7)) (.o 2 9 (.mov (.i 0)) .done))) (.block 0 (.loop (.g (.o 0 10 (.bin .lss (.t 9) (.t 8)) .done) (.seq (.cond (.t 10) .skip (.exit 0)) (.seq (.block 1 (.g (.o 0 11 (.iad 7 (.t 7) (.t 9)) (.o 1 12 (.load (some 7) (.t 11)) (.o 2 5 (.alloc 5 [(.n 1), (.i 0), (.i 0), (.i 0), (.n 1), (.n 1), (.n 1)]) (.op 3 [] none none false (.store (some 7) (.t 5) (.t 12)) .done)))) (.reg false (.o 0 13 (.mov (.t 3)) (.o 1 14 (.load (some 7) (.t 5)) (.o 2 15 (.call 15 172 [(.t 14)]) (.o 3 16 (.lit 16 7 [(.n 1), (.i 0), (.i 0), (.i 0), (.n 1), (.n 1), (.n 1)] 1 [(0, 7, (.t 15))]) (.o 4 17 (.app 17 7 120 (.t 13) (.t 16)) (.o 5 3 (.mov (.t 17)) .done))))))))) (.reg false (.o 0 18 (.bin .add (.t 9) (.i 1)) (.o 1 9 (.mov (.t 18)) .done))))))))) (.g (.o 0 19 (.mov (.t 3)) (.o 1 2 (.mov (.t 19)) .done)) .ret))))
theorem dg_impl_copyRrs : Tryz.f81.body.bind (digC Tryz.prog Tryz.f81.ntmps []) = some c_impl_copyRrs := by kernel_rfl
theorem rs_impl_copyRrs : resSlots Tryz.prog Tryz.f81 = some [.s 2] := by kernel_rfl
theorem ok_impl_copyRrs (l : List Rr) (hs : SmallRs l) :
    FnOK Tryz.prog 81 [.one (.d (encR l))] (fun ra _ => ra = [.one (.own true (encR l))]) := by
  refine FnOK.ofK Tryz.func81 (by kernel_rfl) dg_impl_copyRrs rs_impl_copyRrs rfl rfl ?_
  delta c_impl_copyRrs T.o X.i C.g
  have h1 := hs.len
  refine Kbc (Ka Y (Kdb (Kc (kLit Y Y Y Y (Ka Y (Kdb (Kbc (Ka Y (Kq Y Y (Ka Y (Kd (Kt ?_))))))))))))
  refine kLoop (α := { i : Nat // i ≤ l.length }) (fun y => ⟨tabSl [(3, .c (.arr (rid 6 0) 1)), (7, .dv (encR l)), (8, .i l.length), (9, .i y.1)], obTab 1 [(rid 6 0, ⟨1, 0, .arr true (encR (l.take y.1))⟩)], []⟩) (fun y => l.length - y.1) ⟨0, by simp⟩ .normA ?_
  rintro ⟨i, hi⟩
  simp only
  have hlen : (l.take i).length = i := by simp; omega
  rcases Nat.lt_or_ge i l.length with hlt | hge
  · have hbi := hs.mem _ (List.getElem_mem hlt)
    refine Kbc (Kj Y Y Y (Kdb (Km Y (fun g0 => Kn (Kb (Kt (Kbc (kIadR Y Y Y om (Ky Y Y (kAlloc Y Y (Ko Y Y Y Y (Kd (Kc (Ka Y (Ke Y Y Y (Ku true (ok_impl_Rr_copied _ pr) ⟨⟨⟨Y, Y, Y, Y, Y, Y, Y, trivial⟩, leb⟩, trivial⟩ Y Y Y (fun _ => (kLit Y Y Y Y (kAppRec Y Y Y Y Y Y Y om (Ka Y (Kd (Kv (Kc (kAdd Y Y om (Ka Y (Kd ?_))))))))))))))))))))))) (fun g0 => om))))
    exact kInv ⟨⟨i + 1, by omega⟩, by simp only; omega, .normA⟩
  · refine Kbc (Kj Y Y Y (Kdb (Km Y (fun g0 => om) (fun g0 => kExit (kExC (kExI (kExB (Kbc (Ka Y (Ka Y (Kd (Kr (Er (ra := [.one (.own true _)]) rfl ?_)))))))))))))
    rw [show i = l.length by omega, List.take_length]

def c_impl_Cache_copied : C := (.g (.o 0 1 (.box 1 (.t 0)) (.o 1 2 (.alloc 2 [(.i 0), (.i 0), (.n 7)]) .done)) (.g (.o 0 6 (.fad (.t 1) 0) (.o 1 7 (.load none (.t 6)) (.o 2 8 (.fad (.t 1) 1) (.o 3 9 (.load none (.t 8)) (.o 4 10 (.build [(.i 0), (.i 0), (.n 7)] [(0, 1, (.t 7)), (1, 1, (.t 9))]) (.o 5 3 (.alloc 3 [(.i 0), (.i 0), (.n 7)]) (.op 6 [] none none false (.store (some 3) (.t 3) (.t 10)) .done))))))) (.seq (.g (.o 0 11 (.fad (.t 1) 2) (.o 1 12 (.load none (.t 11)) (.o 2 13 (.len (.t 12)) (.o 3 14 (.mov (.i 0)) .done)))) (.block 0 (.loop (.g (.o 0 15 (.bin .lss (.t 14) (.t 13)) .done) (.seq (.cond (.t 15) .skip (.exit 0)) (.seq (.block 1 (.g (.o 0 16 (.iad 7 (.t 12) (.t 14)) (.o 1 17 (.load (some 7) (.t 16)) (.o 2 5 (.alloc 5 [(.n 1), (.i 0), (.i 0), (.n 7), (.i 0), (.i 0), (.i 0)]) (.op 3 [] none none false (.store (some 7) (.t 5) (.t 17)) .done)))) (.seq (.reg true (.op 0 [] (some 18) none true (.fad (.t 5) 0) (.op 1 [] (some 19) none true (.load (some 1) (.t 18)) (.op 3 [] (some 21) none true (.fad (.t 5) 3) (.op 4 [] (some 22) none true (.load none (.t 21)) (.op 2 [1] (some 20) none false (.call 20 151 [(.t 19)]) (.op 6 [] (some 24) none true (.fad (.t 5) 0) (.op 5 [4, 1] (some 23) none false (.call 23 81 [(.t 22)]) (.op 7 [1, 4] none none false (.store (some 1) (.t 24) (.t 20)) (.op 8 [] (some 25) none true (.fad (.t 5) 3) (.op 9 [1, 4] none none false (.store none (.t 25) (.t 23)) .done))))))))))) (.reg false (.o 0 26 (.fad (.t 3) 2) (.o 1 27 (.load none (.t 26)) (.o 2 28 (.load (some 7) (.t 5)) (.o 3 29 (.lit 29 7 [(.n 1), (.i 0), (.i 0), (.n 7), (.i 0), (.i 0), (.i 0)] 1 [(0, 7, (.t 28))]) (.o 4 30 (.app 30 7 88 (.t 27) (.t 29)) (.o 5 31 (.fad (.t 3) 2) (.op 6 [] none none false (.store none (.t 31) (.t 30)) .done))))))))))) (.reg false (.o 0 32 (.bin .add (.t 14) (.i 1)) (.o 1 14 (.mov (.t 32)) .done))))))))) (.g (.o 0 33 (.load (some 3) (.t 3)) (.op 1 [] none none false (.store (some 3) (.t 2) (.t 33)) .done)) .ret))))
theorem dg_impl_Cache_copied : Tryz.f91.body.bind (digC Tryz.prog Tryz.f91.ntmps []) = some c_impl_Cache_copied := by kernel_rfl
theorem rs_impl_Cache_copied : resSlots Tryz.prog Tryz.f91 = some [.m 2 (some 3)] := by kernel_rfl
theorem ok_impl_Cache_copied (c : Cache) (hs : SmallSs c.slots) :
    FnOK Tryz.prog 91 [.agg (c.cells.map .d)] (fun ra _ => ra = [.agg [.d (.sc (.int .i64 c.now)), .d (.sc (.int .i64 c.turn)), .own true (encS c.slots)]]) := by
  refine FnOK.ofK Tryz.func91 (by kernel_rfl) dg_impl_Cache_copied rs_impl_Cache_copied rfl rfl ?_
  delta c_impl_Cache_copied T.o X.i C.g
  have h1 := hs.len
  have hm := hs.mem
  refine Kbc (kBox Y Y Y Y Y (kAlloc Y Y (Kdb (Kc (Kf Y Y (Ke Y Y Y (Kf Y Y (Ke Y Y Y (kBuildG Y (kAlloc Y Y (kMem [(16384, ⟨1, 0, .box [.d _, .d _, .nil 7]⟩)] [(3, .c (.ptr 16384 1 0)), (10, .g [.d _, .d _, .nil 7])] [] ⟨Y, trivial⟩ ⟨Y, Y, trivial⟩ Y (Ko Y Y Y Y (Kdb (Kbc (Kf Y Y (Ke Y Y Y (Kq Y Y (Ka Y (Kd (Kt ?_))))))))))))))))))))
  refine kSub (Sub.nilBox (id := rid 3 0) (id2 := rid 5000 0) (j := 2) rfl rfl rfl (by decide) (by decide)) ?_
  refine kLoop (α := { i : Nat // i ≤ c.slots.length }) (fun y => ⟨tabSl [(1, .c (.ptr (rid 1 0) 1 0)), (2, .c (.ptr (rid 2 0) 1 0)), (3, .c (.ptr (rid 3 0) 1 0)), (12, .dv (encS c.slots)), (13, .i c.slots.length), (14, .i y.1)], obTab 1 [(rid 1 0, ⟨1, 0, .box (c.cells.map .d)⟩), (rid 2 0, ⟨1, 0, .box [.d (.sc (.int .i64 0)), .d (.sc (.int .i64 0)), .nil 7]⟩), (rid 3 0, ⟨1, 0, .box [.d (.sc (.int .i64 c.now)), .d (.sc (.int .i64 c.turn)), .arr (rid 5000 0) 1]⟩), (rid 5000 0, ⟨1, 0, .arr true (encS (c.slots.take y.1))⟩)], []⟩) (fun y => c.slots.length - y.1) ⟨0, by simp⟩ .normA ?_
  rintro ⟨i, hi⟩
  simp only
  have hlen : (c.slots.take i).length = i := by simp; omega
  rcases Nat.lt_or_ge i c.slots.length with hlt | hge
  · have hbi := hm _ (List.getElem_mem hlt)
    have n1 := hbi.n.len
    have n2 := hbi.n.mem
    have r1 := hbi.r
    refine Kbc (Kj Y Y Y (Kdb (Km Y (fun g0 => Kn (Kb (Kt (Kbc (kIadR Y Y Y prl (Ky Y Y (kAlloc Y Y (kMem [(24576, ⟨2, 0, .box [.nil 1, .d _, .d _, .nil 7, .d _, .d _, .d _]⟩)] [(5, .c (.ptr 24576 2 0)), (17, .g [.d _, .d _, .d _, .d _, .d _, .d _, .d _])] [] ⟨Y, trivial⟩ ⟨Y, Y, trivial⟩ Y (Ko Y Y Y Y (Kdb (kRegD (Kf Y Y (Ke Y Y Y (Kf Y Y (Ke Y Y Y (Kx Y Y (Ku true (ok_impl_Name_copied _ prx prx) ⟨⟨⟨Y, trivial⟩, leb⟩, trivial⟩ Y Y Y (fun _ => (Kf Y Y (Ks Y Y (Ku true (ok_impl_copyRrs _ prx) ⟨Y, trivial⟩ Y Y Y (fun _ => (Ks Y Y (Ko Y Y Y Y (Kf Y Y (Ks Y Y (Ko Y Y Y Y (Kd (kH (Kc (Kf Y Y (Ke Y Y Y (Ke Y Y Y (kLitG Y Y Y Y (kAppSlot Y Y Y Y Y Y Y prl (Kf Y Y (kMem [(16384, ⟨1, 0, .box [.d _, .d _, .arr 20484096 1]⟩), (20484096, ⟨2, 0, .arr true _⟩)] [(31, .c (.ptr 16384 1 2)), (30, .c (.arr 20484096 2))] [] ⟨Y, Y, trivial⟩ ⟨Y, Y, trivial⟩ Y (Ko Y Y Y Y (Kd (Kv (Kc (kAdd Y Y om (Ka Y (Kd ?_)))))))))))))))))))))))))))))))))))))))))))) (fun g0 => om))))
    exact kInv ⟨⟨i + 1, by omega⟩, by simp only; omega, .normA⟩
  · refine Kbc (Kj Y Y Y (Kdb (Km Y (fun g0 => om) (fun g0 => kExit (kExC (kExI (kExB (Kbc (Ke Y Y Y (kMem [(12288, ⟨1, 0, .box [.d _, .d _, .nil 7]⟩), (20484096, ⟨1, 0, .arr true _⟩)] [(2, .c (.ptr 12288 1 0)), (33, .g [.d _, .d _, .arr 20484096 1])] [] ⟨Y, Y, trivial⟩ ⟨Y, Y, trivial⟩ Y (Ko Y Y Y Y (Kd (kMem [(12288, ⟨1, 0, .box [.d _, .d _, .arr 20484096 1]⟩), (20484096, ⟨1, 0, .arr true _⟩)] [(2, .c (.ptr 12288 1 0))] [] ⟨Y, Y, trivial⟩ ⟨Y, trivial⟩ Y (Kr (Er (ra := [.agg [(.d _), (.d _), (.own true _)]]) rfl ?_)))))))))))))))
    rw [show i = c.slots.length by omega, List.take_length]

def c_impl_CacheTick : C := (.g (.o 0 2 (.box 2 (.t 0)) (.o 1 4 (.alloc 4 [(.i 0), (.i 0), (.n 7)]) (.o 2 5 (.mov (.i 0)) .done))) (.seq (.g (.o 0 7 (.load (some 3) (.t 2)) (.o 1 8 (.call 8 56 [(.t 7)]) (.o 2 9 (.un .not (.t 8)) (.o 3 10 (.mov (.t 9)) (.op 4 [] (some 11) (some (10, false)) false (.mov (.t 1)) (.op 5 [] (some 12) (some (10, false)) false (.fad (.t 2) 0) (.op 6 [] (some 13) (some (10, false)) false (.load none (.t 12)) (.op 7 [] (some 14) (some (10, false)) false (.call 14 109 [(.t 11), (.t 13), (.i 1000000)]) (.op 8 [] (some 15) (some (10, false)) false (.un .not (.t 14)) (.o 9 16 (.pick (.t 10) (.v (.bool true)) (.t 15)) .done)))))))))) (.cond (.t 16) (.g (.o 0 17 (.build [(.i 0), (.i 0), (.n 7)] []) (.op 1 [] none none false (.store (some 3) (.t 4) (.t 17)) (.o 2 5 (.mov (.i 0)) .done))) .ret) .skip)) (.g (.o 0 18 (.load (some 3) (.t 2)) (.o 1 19 (.mov (.t 1)) (.o 2 20 (.call 20 139 [(.t 18), (.t 19)]) (.o 3 6 (.alloc 6 [(.i 0), (.i 0), (.n 7)]) (.op 4 [] none none false (.store (some 3) (.t 6) (.t 20)) .done))))) (.seq (.reg true (.op 0 [] (some 21) none true (.load (some 3) (.t 6)) (.op 2 [] (some 23) none true (.fad (.t 2) 2) (.op 3 [] (some 24) none true (.load none (.t 23)) (.op 4 [] (some 25) none true (.len (.t 24)) (.op 5 [] (some 26) none true (.fad (.t 6) 2) (.op 6 [] (some 27) none true (.load none (.t 26)) (.op 7 [] (some 28) none true (.len (.t 27)) (.op 8 [] (some 29) none true (.bin .sub (.t 25) (.t 28)) (.op 1 [0] (some 22) none false (.call 22 91 [(.t 21)]) (.op 9 [0] none none false (.store (some 3) (.t 4) (.t 22)) (.op 10 [] (some 5) none true (.mov (.t 29)) .done)))))))))))) .ret))))
theorem dg_impl_CacheTick : Tryz.f55.body.bind (digC Tryz.prog Tryz.f55.ntmps []) = some c_impl_CacheTick := by kernel_rfl
theorem rs_impl_CacheTick : resSlots Tryz.prog Tryz.f55 = some [.m 4 (some 3), .s 5] := by kernel_rfl
theorem ok_impl_CacheTick (c : Cache) (now : Int) (hs : SmallSs c.slots) :
    FnOK Tryz.prog 55 [.agg (c.cells.map .d), .one (.d (.sc (.int .i64 now)))] (fun ra _ => ra = [.agg [.d (.sc (.int .i64 (tickN c now).now)), .d (.sc (.int .i64 (tickN c now).turn)), .own true (encS (tickN c now).slots)], .one (.d (.sc (.int .i64 (tickK c now))))]) := by
  refine FnOK.ofK Tryz.func55 (by kernel_rfl) dg_impl_CacheTick rs_impl_CacheTick rfl rfl ?_
  delta c_impl_CacheTick T.o X.i C.g
  have h1 := hs.len
  have hm := hs.mem
  have ht : SmallSs (⟨now, c.turn, tickS c.slots now⟩ : Cache).slots := hs.filter _
  have ht2 : (tickS c.slots now).length ≤ c.slots.length := List.length_filter_le _ _
  by_cases hok : tickOk c now = true
  case neg =>
    rw [show tickN c now = zeroC by unfold tickN; rw [if_neg hok], show tickK c now = 0 by unfold tickK; rw [if_neg hok]]
    cases k1 : cacheOk c
    · refine Kbc (kBox Y Y Y Y Y (kAlloc Y Y (Ka Y (Kdb (Kbc (Ke Y Y Y (Kp (ok_impl_CacheOk _ prx) ⟨⟨⟨Y, Y, Y, trivial⟩, leb⟩, trivial⟩ Y Y Y Y Y (Kw Y Y (Ka Y (kGN Y (fun g0 => Kg Y (kMem [(12288, ⟨1, 0, .box [.d _, .d _, .d _]⟩)] [(2, .c (.ptr 12288 1 0)), (12, .c (.un)), (11, .c (.un)), (13, .c (.un)), (14, .c (.un)), (10, .c (.d _)), (15, .c (.un))] [] ⟨Y, trivial⟩ ⟨Y, Y, Y, Y, Y, Y, Y, trivial⟩ Y (Kg Y (Kg Y (Kg Y (Kg Y (Kk Y (Ka Y (Kd (kCondT Y (Kbc (kMem [(20480, ⟨1, 0, .box [.d _, .d _, .nil 7]⟩)] [(4, .c (.ptr 20480 1 0)), (17, .c (.un))] [] ⟨Y, trivial⟩ ⟨Y, Y, trivial⟩ Y (kBuildG Y (kMem [(20480, ⟨1, 0, .box [.d _, .d _, .nil 7]⟩)] [(4, .c (.ptr 20480 1 0)), (17, .g [.d _, .d _, .nil 7])] [] ⟨Y, trivial⟩ ⟨Y, Y, trivial⟩ Y (Ko Y Y Y Y (Ka Y (Kd (kMem [(20480, ⟨1, 0, .box [.d _, .d _, .nil 7]⟩)] [(4, .c (.ptr 20480 1 0)), (5, .c (.d _))] [] ⟨Y, trivial⟩ ⟨Y, Y, trivial⟩ Y (Kr (Er (ra := [.agg [(.d _), (.d _), (.own true _)], .one (.d _)]) rfl rfl)))))))))))))))))))) (fun g0 => (by (simp [*] at g0)))))))))))))
    have k2 : ¬ (c.now ≤ now ∧ now ≤ 1000000) := fun h => hok (by unfold tickOk; rw [k1, decide_eq_true h]; rfl)
    refine Kbc (kBox Y Y Y Y Y (kAlloc Y Y (Ka Y (Kdb (Kbc (Ke Y Y Y (Kp (ok_impl_CacheOk _ prx) ⟨⟨⟨Y, Y, Y, trivial⟩, leb⟩, trivial⟩ Y Y Y Y Y (Kw Y Y (Ka Y (kGN Y (fun g0 => (by (simp [*] at g0))) (fun g0 => Ki Y (Ka Y (kMem [(12288, ⟨1, 0, .box [.d _, .d _, .d _]⟩)] [(2, .c (.ptr 12288 1 0)), (12, .c (.un)), (11, .c (.d _)), (13, .c (.un)), (14, .c (.un)), (10, .c (.d _)), (15, .c (.un))] [] ⟨Y, trivial⟩ ⟨Y, Y, Y, Y, Y, Y, Y, trivial⟩ Y (Ki Y (Kf Y Y (Ki Y (Ke Y Y Y (Ki Y (Kp (ok_impl_within _ _ _) ⟨Y, Y, Y, trivial⟩ Y Y Y Y Y (Ki Y (Kw Y Y (Kl Y (Ka Y (Kd (kCondN Y (fun g1 => Kbc (kMem [(20480, ⟨1, 0, .box [.d _, .d _, .nil 7]⟩)] [(4, .c (.ptr 20480 1 0)), (17, .c (.un))] [] ⟨Y, trivial⟩ ⟨Y, Y, trivial⟩ Y (kBuildG Y (kMem [(20480, ⟨1, 0, .box [.d _, .d _, .nil 7]⟩)] [(4, .c (.ptr 20480 1 0)), (17, .g [.d _, .d _, .nil 7])] [] ⟨Y, trivial⟩ ⟨Y, Y, trivial⟩ Y (Ko Y Y Y Y (Ka Y (Kd (kMem [(20480, ⟨1, 0, .box [.d _, .d _, .nil 7]⟩)] [(4, .c (.ptr 20480 1 0)), (5, .c (.d _))] [] ⟨Y, trivial⟩ ⟨Y, Y, trivial⟩ Y (Kr (Er (ra := [.agg [(.d _), (.d _), (.own true _)], .one (.d _)]) rfl rfl)))))))))) (fun g1 => (by (simp [*] at g1))))))))))))))))))))))))))))
  rw [show tickN c now = ⟨now, c.turn, tickS c.slots now⟩ by unfold tickN; rw [if_pos hok], show tickK c now = (c.slots.length : Int) - (tickS c.slots now).length by unfold tickK; rw [if_pos hok]]
  unfold tickOk at hok
  simp only [Bool.and_eq_true, decide_eq_true_eq] at hok
  obtain ⟨k1, k2⟩ := hok
  refine Kbc (kBox Y Y Y Y Y (kAlloc Y Y (Ka Y (Kdb (Kbc (Ke Y Y Y (Kp (ok_impl_CacheOk _ prx) ⟨⟨⟨Y, Y, Y, trivial⟩, leb⟩, trivial⟩ Y Y Y Y Y (Kw Y Y (Ka Y (kGN Y (fun g0 => (by (simp [*] at g0))) (fun g0 => Ki Y (Ka Y (kMem [(12288, ⟨1, 0, .box [.d _, .d _, .d _]⟩)] [(2, .c (.ptr 12288 1 0)), (12, .c (.un)), (11, .c (.d _)), (13, .c (.un)), (14, .c (.un)), (10, .c (.d _)), (15, .c (.un))] [] ⟨Y, trivial⟩ ⟨Y, Y, Y, Y, Y, Y, Y, trivial⟩ Y (Ki Y (Kf Y Y (Ki Y (Ke Y Y Y (Ki Y (Kp (ok_impl_within _ _ _) ⟨Y, Y, Y, trivial⟩ Y Y Y Y Y (Ki Y (Kw Y Y (Kl Y (Ka Y (Kd (kCondN Y (fun g1 => (by (simp [*] at g1))) (fun g1 => Kn (Kbc (Ke Y Y Y (Ka Y (kCallD2 (ok_impl_Cache_tick _ _ prx) ⟨⟨⟨Y, Y, Y, trivial⟩, leb⟩, rfl, trivial⟩ Y Y Y Y (kAlloc Y Y (kMem [(28672, ⟨1, 0, .box [.d _, .d _, .nil 7]⟩)] [(6, .c (.ptr 28672 1 0)), (20, .g [.d _, .d _, .d _])] [] ⟨Y, trivial⟩ ⟨Y, Y, trivial⟩ Y (Ko Y Y Y Y (Kdb (kRegD (Ke Y Y Y (Kf Y Y (Ke Y Y Y (Kq Y Y (Kf Y Y (Ke Y Y Y (Kq Y Y (kMem [(20480, ⟨1, 0, .box [.d _, .d _, .nil 7]⟩)] [(25, .c (.d _)), (28, .c (.d _)), (21, .g [.d _, .d _, .d _]), (4, .c (.ptr 20480 1 0)), (22, .c (.un)), (29, .c (.un))] [28672, 12288, 28672] ⟨Y, trivial⟩ ⟨Y, Y, Y, Y, Y, Y, trivial⟩ Y (kDif Y Y om (Kx Y Y ?_)))))))))))))))))))))))))))))))))))))))))))))
  refine Ku true (ok_impl_Cache_copied ⟨now, c.turn, tickS c.slots now⟩ ht) ⟨⟨⟨Y, Y, Y, trivial⟩, leb⟩, trivial⟩ Y Y Y (fun _ => ?_)
  refine kMem [(20480, ⟨1, 0, .box [.d _, .d _, .nil 7]⟩), (94210, ⟨1, 0, .arr true _⟩)] [(4, .c (.ptr 20480 1 0)), (22, .g [.d _, .d _, .arr 94210 1]), (29, .c (.d _))] [28672, 12288, 28672] ⟨Y, Y, trivial⟩ ⟨Y, Y, Y, trivial⟩ Y (Kx Y Y (Ko Y Y Y Y (Ka Y (Kd (kH (kMem [(20480, ⟨1, 0, .box [.d _, .d _, .arr 94210 1]⟩), (94210, ⟨1, 0, .arr true _⟩)] [(4, .c (.ptr 20480 1 0)), (5, .c (.d _))] [] ⟨Y, Y, trivial⟩ ⟨Y, Y, trivial⟩ Y (Kr (Er (ra := [.agg [(.d _), (.d _), (.own true _)], .one (.d _)]) rfl rfl))))))))

def c_spec_TypeOk : C := (.g (.o 0 2 (.mov (.v (.bool false))) .done) (.seq (.g (.o 0 3 (.mov (.t 0)) .done) (.block 0 (.seq (.g (.o 0 5 (.bin .eql (.t 3) (.i 1)) (.o 1 4 (.mov (.t 5)) .done)) (.cond (.t 4) .skip (.g (.o 0 6 (.bin .eql (.t 3) (.i 2)) (.o 1 4 (.mov (.t 6)) .done)) (.cond (.t 4) .skip (.g (.o 0 7 (.bin .eql (.t 3) (.i 5)) (.o 1 4 (.mov (.t 7)) .done)) (.cond (.t 4) .skip (.g (.o 0 8 (.bin .eql (.t 3) (.i 6)) (.o 1 4 (.mov (.t 8)) .done)) (.cond (.t 4) .skip (.g (.o 0 9 (.bin .eql (.t 3) (.i 12)) (.o 1 4 (.mov (.t 9)) .done)) (.cond (.t 4) .skip (.g (.o 0 10 (.bin .eql (.t 3) (.i 16)) (.o 1 4 (.mov (.t 10)) .done)) (.cond (.t 4) .skip (.reg false (.o 0 11 (.bin .eql (.t 3) (.i 49)) (.o 1 4 (.mov (.t 11)) .done))))))))))))))) (.cond (.t 4) (.g (.o 0 2 (.mov (.v (.bool true))) .done) .ret) .skip)))) (.g (.o 0 2 (.mov (.v (.bool false))) .done) .ret)))
theorem dg_spec_TypeOk : Tryz.f48.body.bind (digC Tryz.prog Tryz.f48.ntmps []) = some c_spec_TypeOk := by kernel_rfl
theorem rs_spec_TypeOk : resSlots Tryz.prog Tryz.f48 = some [.s 2] := by kernel_rfl
theorem ok_spec_TypeOk (n : Int) : FnOK Tryz.prog 48 [.one (.d (.sc (.int .i64 n)))] (fun ra _ => ra = [.one (.d (.sc (.bool (tyOk n))))]) := by
  refine FnOK.ofK Tryz.func48 (by kernel_rfl) dg_spec_TypeOk rs_spec_TypeOk rfl rfl ?_
  delta c_spec_TypeOk T.o X.i C.g
  refine Kbc (Ka Y (Kdb (Kbc (Ka Y (Kd (Kt (Kb (Kbc (Kj Y Y Y (Ka Y (Kd (Km Y (fun g0 => Kn (Km Y (fun g1 => Kbc (Ka Y (Kd (Kr (Er (ra := [.one (.d _)]) rfl ?_))))) (fun g1 => om))) (fun g0 => Kbc (Kj Y Y Y (Ka Y (Kd (Km Y (fun g2 => Kn (Km Y (fun g3 => Kbc (Ka Y (Kd (Kr (Er (ra := [.one (.d _)]) rfl ?_))))) (fun g3 => om))) (fun g2 => Kbc (Kj Y Y Y (Ka Y (Kd (Km Y (fun g4 => Kn (Km Y (fun g5 => Kbc (Ka Y (Kd (Kr (Er (ra := [.one (.d _)]) rfl ?_))))) (fun g5 => om))) (fun g4 => Kbc (Kj Y Y Y (Ka Y (Kd (Km Y (fun g6 => Kn (Km Y (fun g7 => Kbc (Ka Y (Kd (Kr (Er (ra := [.one (.d _)]) rfl ?_))))) (fun g7 => om))) (fun g6 => Kbc (Kj Y Y Y (Ka Y (Kd (Km Y (fun g8 => Kn (Km Y (fun g9 => Kbc (Ka Y (Kd (Kr (Er (ra := [.one (.d _)]) rfl ?_))))) (fun g9 => om))) (fun g8 => Kbc (Kj Y Y Y (Ka Y (Kd (Km Y (fun g10 => Kn (Km Y (fun g11 => Kbc (Ka Y (Kd (Kr (Er (ra := [.one (.d _)]) rfl ?_))))) (fun g11 => om))) (fun g10 => Kc (Kj Y Y Y (Ka Y (Kd (Km Y (fun g12 => Kbc (Ka Y (Kd (Kr (Er (ra := [.one (.d _)]) rfl ?_))))) (fun g12 => Kn (Kv (Kbc (Ka Y (Kd (Kr (Er (ra := [.one (.d _)]) rfl ?_)))))))))))))))))))))))))))))))))))))))))))))))))
  all_goals simp_all [tyOk]

def c_spec_l3texted : C := (.g (.o 0 2 (.mov (.v (.bool false))) .done) (.g (.o 0 3 (.mov (.t 0)) (.o 1 4 (.bin .eql (.t 3) (.i 16)) (.o 2 5 (.mov (.t 4)) (.op 3 [] (some 6) (some (5, false)) false (.mov (.t 0)) (.op 4 [] (some 7) (some (5, false)) false (.bin .eql (.t 6) (.i 49)) (.o 5 8 (.pick (.t 5) (.v (.bool true)) (.t 7)) (.o 6 2 (.mov (.t 8)) .done))))))) .ret))
theorem dg_spec_l3texted : Tryz.f246.body.bind (digC Tryz.prog Tryz.f246.ntmps []) = some c_spec_l3texted := by kernel_rfl
theorem rs_spec_l3texted : resSlots Tryz.prog Tryz.f246 = some [.s 2] := by kernel_rfl
theorem ok_spec_l3texted (n : Int) : FnOK Tryz.prog 246 [.one (.d (.sc (.int .i64 n)))] (fun ra _ => ra = [.one (.d (.sc (.bool (hasText n))))]) := by
  refine FnOK.ofK Tryz.func246 (by kernel_rfl) dg_spec_l3texted rs_spec_l3texted rfl rfl ?_
  delta c_spec_l3texted T.o X.i C.g
  refine Kbc (Ka Y (Kdb (Kc (Ka Y (Kj Y Y Y (Ka Y (kGP Y (fun g0 => Kg Y (Kg Y (Kk Y (Ka Y (Ka Y (Kd (Kr (Er (ra := [.one (.d _)]) rfl ?_)))))))) (fun g0 => Ki Y (Ka Y (Ki Y (Kj Y Y Y (Kl Y (Ka Y (Ka Y (Kd (Kr (Er (ra := [.one (.d _)]) rfl ?_)))))))))))))))))
  all_goals simp_all [hasText]

def c_spec_l3data : C := (.g (.o 0 1 (.box 1 (.t 0)) (.o 1 2 (.mov (.v (.bool false))) .done)) (.seq (.g (.o 0 3 (.fad (.t 1) 1) (.o 1 4 (.load none (.t 3)) (.o 2 5 (.bin .eql (.t 4) (.i 1)) .done))) (.cond (.t 5) (.g (.o 0 6 (.fad (.t 1) 3) (.o 1 7 (.load none (.t 6)) (.o 2 8 (.bin .lss (.t 7) (.i 0)) (.o 3 9 (.mov (.t 8)) (.op 4 [] (some 10) (some (9, false)) false (.fad (.t 1) 3) (.op 5 [] (some 11) (some (9, false)) false (.load none (.t 10)) (.op 6 [] (some 12) (some (9, false)) false (.bin .geq (.t 11) (.i 4294967296)) (.o 7 13 (.pick (.t 9) (.v (.bool true)) (.t 12)) .done)))))))) (.cond (.t 13) (.g (.o 0 2 (.mov (.v (.bool false))) .done) .ret) .skip)) (.g (.o 0 14 (.fad (.t 1) 3) (.o 1 15 (.load none (.t 14)) (.o 2 16 (.bin .neq (.t 15) (.i 0)) .done))) (.cond (.t 16) (.g (.o 0 2 (.mov (.v (.bool false))) .done) .ret) .skip)))) (.seq (.g (.o 0 17 (.fad (.t 1) 1) (.o 1 18 (.load none (.t 17)) (.o 2 19 (.call 19 245 [(.t 18)]) .done))) (.cond (.t 19) (.g (.o 0 20 (.fad (.t 1) 4) (.o 1 21 (.load (some 1) (.t 20)) (.o 2 22 (.call 22 47 [(.t 21)]) (.o 3 23 (.un .not (.t 22)) .done)))) (.cond (.t 23) (.g (.o 0 2 (.mov (.v (.bool false))) .done) .ret) .skip)) (.g (.o 0 24 (.fad (.t 1) 4) (.o 1 25 (.fad (.t 24) 0) (.o 2 26 (.load none (.t 25)) (.o 3 27 (.len (.t 26)) (.o 4 28 (.bin .gtr (.t 27) (.i 0)) .done))))) (.cond (.t 28) (.g (.o 0 2 (.mov (.v (.bool false))) .done) .ret) .skip)))) (.seq (.g (.o 0 29 (.fad (.t 1) 1) (.o 1 30 (.load none (.t 29)) (.o 2 31 (.call 31 246 [(.t 30)]) .done))) (.cond (.t 31) (.g (.o 0 32 (.fad (.t 1) 5) (.o 1 33 (.load none (.t 32)) (.o 2 34 (.len (.t 33)) (.o 3 35 (.bin .gtr (.t 34) (.i 40)) .done)))) (.cond (.t 35) (.g (.o 0 2 (.mov (.v (.bool false))) .done) .ret) .skip)) (.g (.o 0 36 (.fad (.t 1) 5) (.o 1 37 (.load none (.t 36)) (.o 2 38 (.len (.t 37)) (.o 3 39 (.bin .gtr (.t 38) (.i 0)) .done)))) (.cond (.t 39) (.g (.o 0 2 (.mov (.v (.bool false))) .done) .ret) .skip)))) (.seq (.g (.o 0 40 (.fad (.t 1) 1) (.o 1 41 (.load none (.t 40)) (.o 2 42 (.bin .neq (.t 41) (.i 6)) .done))) (.cond (.t 42) (.g (.o 0 43 (.fad (.t 1) 6) (.o 1 44 (.load none (.t 43)) (.o 2 45 (.len (.t 44)) (.o 3 46 (.bin .eql (.t 45) (.i 0)) (.o 4 2 (.mov (.t 46)) .done))))) .ret) .skip)) (.seq (.g (.o 0 47 (.fad (.t 1) 6) (.o 1 48 (.load none (.t 47)) (.o 2 49 (.len (.t 48)) (.o 3 50 (.bin .neq (.t 49) (.i 2)) (.o 4 51 (.mov (.t 50)) (.op 5 [] (some 52) (some (51, false)) false (.fad (.t 1) 6) (.op 6 [] (some 53) (some (51, false)) false (.load none (.t 52)) (.op 7 [] (some 54) (some (51, false)) false (.iad 1 (.t 53) (.i 0)) (.op 8 [] (some 55) (some (51, false)) false (.load none (.t 54)) (.op 9 [] (some 56) (some (51, false)) false (.bin .lss (.t 55) (.i 0)) (.o 10 57 (.pick (.t 51) (.v (.bool true)) (.t 56)) (.o 11 58 (.mov (.t 57)) (.op 12 [] (some 59) (some (58, false)) false (.fad (.t 1) 6) (.op 13 [] (some 60) (some (58, false)) false (.load none (.t 59)) (.op 14 [] (some 61) (some (58, false)) false (.iad 1 (.t 60) (.i 0)) (.op 15 [] (some 62) (some (58, false)) false (.load none (.t 61)) (.op 16 [] (some 63) (some (58, false)) false (.bin .geq (.t 62) (.i 4294967296)) (.o 17 64 (.pick (.t 58) (.v (.bool true)) (.t 63)) .done)))))))))))))))))) (.cond (.t 64) (.g (.o 0 2 (.mov (.v (.bool false))) .done) .ret) .skip)) (.g (.o 0 65 (.fad (.t 1) 6) (.o 1 66 (.load none (.t 65)) (.o 2 67 (.iad 1 (.t 66) (.i 1)) (.o 3 68 (.load none (.t 67)) (.o 4 69 (.bin .geq (.t 68) (.i 0)) (.o 5 70 (.mov (.t 69)) (.op 6 [] (some 71) (some (70, true)) false (.fad (.t 1) 6) (.op 7 [] (some 72) (some (70, true)) false (.load none (.t 71)) (.op 8 [] (some 73) (some (70, true)) false (.iad 1 (.t 72) (.i 1)) (.op 9 [] (some 74) (some (70, true)) false (.load none (.t 73)) (.op 10 [] (some 75) (some (70, true)) false (.bin .leq (.t 74) (.i 100000)) (.o 11 76 (.pick (.t 70) (.t 75) (.v (.bool false))) (.o 12 2 (.mov (.t 76)) .done))))))))))))) .ret)))))))
theorem dg_spec_l3data : Tryz.f164.body.bind (digC Tryz.prog Tryz.f164.ntmps []) = some c_spec_l3data := by kernel_rfl
theorem rs_spec_l3data : resSlots Tryz.prog Tryz.f164 = some [.s 2] := by kernel_rfl
theorem ok_spec_l3data (r : Rr) (hs : SmallR r) :
    FnOK Tryz.prog 164 [.agg (r.cells.map .d)] (fun ra _ => ra = [.one (.d (.sc (.bool (dataOk r))))]) := by
  refine FnOK.ofK Tryz.func164 (by kernel_rfl) dg_spec_l3data rs_spec_l3data rfl rfl ?_
  delta c_spec_l3data T.o X.i C.g
  have t1 := hs.t.len
  have t2 := hs.t.mem
  have x1 := hs.x
  have m1 := hs.m
  refine Kbc (kBox Y Y Y Y Y (Ka Y (Kd ?_)))
  by_cases hA : (r.ty = 1 ∧ 0 ≤ r.addr ∧ r.addr < 4294967296) ∨ (r.ty ≠ 1 ∧ r.addr = 0)
  case neg =>
    have e : (if r.ty == 1 then isW r.addr else r.addr == 0) = false := by
      by_cases h : r.ty = 1
      · simp [h, isW]; omega
      · simp [h]; omega
    rw [show dataOk r = false by simp only [dataOk, e, Bool.and_false, Bool.false_and]]
    refine Kb ?_
    refine Kbc (Kf Y Y (Ke Y Y Y (Kj Y Y Y (Kd (Km Y (fun g0 => Kbc (Kf Y Y (Ke Y Y Y (Kj Y Y Y (Ka Y (kGP Y (fun g1 => Kg Y (Kg Y (Kg Y (Kk Y (Ka Y (Kd (kCondT Y (Kbc (Ka Y (Kd (Kr (Er (ra := [.one (.d _)]) rfl rfl)))))))))))) (fun g1 => Ki Y (Kf Y Y (Ki Y (Ke Y Y Y (Ki Y (Kj Y Y Y (Kl Y (Ka Y (Kd (Km Y (fun g2 => Kbc (Ka Y (Kd (Kr (Er (ra := [.one (.d _)]) rfl rfl))))) (fun g2 => om))))))))))))))))) (fun g0 => Kbc (Kf Y Y (Ke Y Y Y (Kj Y Y Y (Kd (kCondIN Y (fun g3 => Kbc (Ka Y (Kd (Kr (Er (ra := [.one (.d _)]) rfl rfl))))) (fun g3 => om))))))))))))
  have eA : (if r.ty == 1 then isW r.addr else r.addr == 0) = true := by
    rcases hA with ⟨h, _, _⟩ | ⟨h, h'⟩
    · simp [h, isW]; omega
    · simp [h, h']
  refine Kb (kCut ⟨tabSl [(1, .c (.ptr (rid 1 0) 1 0))], obTab 1 [(rid 1 0, ⟨1, 0, .box (r.cells.map .d)⟩)], []⟩ ?_ (fun x hc => ?_))
  case refine_2 =>
    refine Kbc (Kf Y Y (Ke Y Y Y (Kj Y Y Y (Kd (Km Y (fun g0 => Kbc (Kf Y Y (Ke Y Y Y (Kj Y Y Y (Ka Y (kGP Y (fun g1 => om) (fun g1 => Ki Y (Kf Y Y (Ki Y (Ke Y Y Y (Ki Y (Kj Y Y Y (Kl Y (Ka Y (Kd (Km Y (fun g2 => om) (fun g2 => Kn (hc _ .normA)))))))))))))))))) (fun g0 => Kbc (Kf Y Y (Ke Y Y Y (Kj Y Y Y (Kd (kCondIN Y (fun g3 => om) (fun g3 => Kn (hc _ .normA)))))))))))))
  by_cases eB : (if hasTo r.ty then nameOk r.to else ((r.to.length : Int) == 0)) = true
  case neg =>
    rw [show dataOk r = false by simp only [dataOk, Bool.eq_false_iff.2 eB, Bool.and_false, Bool.false_and]]
    refine Kb ?_
    cases hT : hasTo r.ty
    case false =>
      have hN : ¬ (r.to.length : Int) = 0 := by simpa [hT] using eB
      have hN' : ¬ r.to.length = 0 := by omega
      refine Kbc (Kf Y Y (Ke Y Y Y (Kp (ok_spec_l3named _) ⟨Y, trivial⟩ Y Y Y Y Y (Kd (kCond Y (fun g0 => (by (simp [*] at g0))) (fun g0 => Kbc (Kf Y Y (Kf Y Y (Ke Y Y Y (Kq Y Y (Kj Y Y Y (Kd (Km Y (fun g1 => Kbc (Ka Y (Kd (Kr (Er (ra := [.one (.d _)]) rfl rfl))))) (fun g1 => om))))))))))))))
    case true =>
      have hN : nameOk r.to = false := by simpa [hT] using eB
      refine Kbc (Kf Y Y (Ke Y Y Y (Kp (ok_spec_l3named _) ⟨Y, trivial⟩ Y Y Y Y Y (Kd (kCond Y (fun g0 => Kbc (Kf Y Y (Ke Y Y Y (Kp (ok_spec_NameOk _ pr pr) ⟨⟨⟨Y, trivial⟩, leb⟩, trivial⟩ Y Y Y Y Y (Kw Y Y (Kd (kCondN Y (fun g1 => Kbc (Ka Y (Kd (Kr (Er (ra := [.one (.d _)]) rfl rfl))))) (fun g1 => (by (simp [*] at g1)))))))))) (fun g0 => (by (simp [*] at g0))))))))
  refine Kb (kCut ⟨tabSl [(1, .c (.ptr (rid 1 0) 1 0))], obTab 1 [(rid 1 0, ⟨1, 0, .box (r.cells.map .d)⟩)], []⟩ ?_ (fun x hc => ?_))
  case refine_2 =>
    cases hT : hasTo r.ty
    case false =>
      have hN : (r.to.length : Int) = 0 := by rw [hT] at eB; simpa using eB
      have hN' : r.to.length = 0 := by omega
      clear hN
      refine Kbc (Kf Y Y (Ke Y Y Y (Kp (ok_spec_l3named _) ⟨Y, trivial⟩ Y Y Y Y Y (Kd (kCond Y (fun g0 => (by (simp [*] at g0))) (fun g0 => Kbc (Kf Y Y (Kf Y Y (Ke Y Y Y (Kq Y Y (Kj Y Y Y (Kd (Km Y (fun g1 => om) (fun g1 => Kn (hc _ .normA)))))))))))))))
    case true =>
      have hN : nameOk r.to = true := by simpa [hT] using eB
      refine Kbc (Kf Y Y (Ke Y Y Y (Kp (ok_spec_l3named _) ⟨Y, trivial⟩ Y Y Y Y Y (Kd (kCond Y (fun g0 => Kbc (Kf Y Y (Ke Y Y Y (Kp (ok_spec_NameOk _ pr pr) ⟨⟨⟨Y, trivial⟩, leb⟩, trivial⟩ Y Y Y Y Y (Kw Y Y (Kd (kCondN Y (fun g1 => (by (simp [*] at g1))) (fun g1 => Kn (hc _ .normA))))))))) (fun g0 => (by (simp [*] at g0))))))))
  by_cases eC : (if hasText r.ty then decide ((r.text.length : Int) ≤ 40) else ((r.text.length : Int) == 0)) = true
  case neg =>
    rw [show dataOk r = false by simp only [dataOk, Bool.eq_false_iff.2 eC, Bool.and_false]]
    refine Kb ?_
    cases hT : hasText r.ty
    case false =>
      have hN' : ¬ r.text.length = 0 := by rw [hT] at eC; simp at eC; simpa using eC
      refine Kbc (Kf Y Y (Ke Y Y Y (Kp (ok_spec_l3texted _) ⟨Y, trivial⟩ Y Y Y Y Y (Kd (kCond Y (fun g0 => (by (simp [*] at g0))) (fun g0 => Kbc (Kf Y Y (Ke Y Y Y (Kq Y Y (Kj Y Y Y (Kd (Km Y (fun g1 => Kbc (Ka Y (Kd (Kr (Er (ra := [.one (.d _)]) rfl rfl))))) (fun g1 => om)))))))))))))
    case true =>
      have hN' : ¬ r.text.length ≤ 40 := by rw [hT] at eC; simp at eC; omega
      refine Kbc (Kf Y Y (Ke Y Y Y (Kp (ok_spec_l3texted _) ⟨Y, trivial⟩ Y Y Y Y Y (Kd (kCond Y (fun g0 => Kbc (Kf Y Y (Ke Y Y Y (Kq Y Y (Kj Y Y Y (Kd (Km Y (fun g1 => Kbc (Ka Y (Kd (Kr (Er (ra := [.one (.d _)]) rfl rfl))))) (fun g1 => om)))))))) (fun g0 => (by (simp [*] at g0))))))))
  refine Kb (kCut ⟨tabSl [(1, .c (.ptr (rid 1 0) 1 0))], obTab 1 [(rid 1 0, ⟨1, 0, .box (r.cells.map .d)⟩)], []⟩ ?_ (fun x hc => ?_))
  case refine_2 =>
    cases hT : hasText r.ty
    case false =>
      have hN' : r.text.length = 0 := by rw [hT] at eC; simp at eC; rw [eC]; rfl
      refine Kbc (Kf Y Y (Ke Y Y Y (Kp (ok_spec_l3texted _) ⟨Y, trivial⟩ Y Y Y Y Y (Kd (kCond Y (fun g0 => (by (simp [*] at g0))) (fun g0 => Kbc (Kf Y Y (Ke Y Y Y (Kq Y Y (Kj Y Y Y (Kd (Km Y (fun g1 => om) (fun g1 => Kn (hc _ .normA))))))))))))))
    case true =>
      have hN' : r.text.length ≤ 40 := by rw [hT] at eC; simp at eC; omega
      refine Kbc (Kf Y Y (Ke Y Y Y (Kp (ok_spec_l3texted _) ⟨Y, trivial⟩ Y Y Y Y Y (Kd (kCond Y (fun g0 => Kbc (Kf Y Y (Ke Y Y Y (Kq Y Y (Kj Y Y Y (Kd (Km Y (fun g1 => om) (fun g1 => Kn (hc _ .normA))))))))) (fun g0 => (by (simp [*] at g0))))))))
  rw [show dataOk r = (if r.ty == 6 then numsOk r.nums else ((r.nums.length : Int) == 0)) by simp only [dataOk, eA, eB, eC, Bool.and_true]]
  clear eA eB eC hA
  refine Kb (Kbc (Kf Y Y (Ke Y Y Y (Kj Y Y Y (Kd (kCondIN Y (fun g0 => Kbc (Kf Y Y (Ke Y Y Y (Kq Y Y (Kj Y Y Y (Ka Y (Kd (Kr (Er (ra := [.one (.d _)]) rfl ?_))))))))) (fun g0 => Kn (Kb (Kbc (Kf Y Y (Ke Y Y Y (Kq Y Y (Kj Y Y Y (Ka Y (kGIN Y (fun g1 => Kg Y (Kg Y (Kg Y (Kg Y (Kg Y (Kk Y (Ka Y (Ka Y (Kg Y (Kg Y (Kg Y (Kg Y (Kg Y (Kk Y (Ka Y (Kd (kCondT Y (Kbc (Ka Y (Kd (Kr (Er (ra := [.one (.d _)]) rfl ?_)))))))))))))))))))))) (fun g1 => Ki Y (Kf Y Y (Ki Y (Ke Y Y Y (Ki Y (kIadR (m := 0) Y Y Y om (Ki Y (Ky Y Y (Ki Y (Kj Y Y Y (Kl Y (Ka Y (Ka Y (kGP Y (fun g2 => Kg Y (Kg Y (Kg Y (Kg Y (Kg Y (Kk Y (Ka Y (Kd (kCondT Y (Kbc (Ka Y (Kd (Kr (Er (ra := [.one (.d _)]) rfl ?_)))))))))))))) (fun g2 => Ki Y (Kf Y Y (Ki Y (Ke Y Y Y (Ki Y (kIadR (m := 0) Y Y Y om (Ki Y (Ky Y Y (Ki Y (Kj Y Y Y (Kl Y (Ka Y (Kd (Km Y (fun g3 => Kbc (Ka Y (Kd (Kr (Er (ra := [.one (.d _)]) rfl ?_))))) (fun g3 => Kn (Kbc (Kf Y Y (Ke Y Y Y (kIadR (m := 1) Y Y Y om (Ky Y Y (Kj Y Y Y (Ka Y (kGP Y (fun g4 => Ki Y (Kf Y Y (Ki Y (Ke Y Y Y (Ki Y (kIadR (m := 1) Y Y Y om (Ki Y (Ky Y Y (Ki Y (Kj Y Y Y (Kk Y (Ka Y (Ka Y (Kd (Kr (Er (ra := [.one (.d _)]) rfl ?_)))))))))))))))) (fun g4 => Kg Y (Kg Y (Kg Y (Kg Y (Kg Y (Kl Y (Ka Y (Ka Y (Kd (Kr (Er (ra := [.one (.d _)]) rfl ?_)))))))))))))))))))))))))))))))))))))))))))))))))))))))))))))))
  all_goals first
    | (simp [*]; done)
    | (rw [if_pos (by simpa using (by assumption : r.ty = 6)), numsOk, dif_pos (by assumption)]
       simp only [isW]
       refine congrArg (fun b : Bool => [RA.one (RV.d (DV.sc (Value.bool b)))]) ?_
       rw [Bool.eq_iff_iff]
       simp
       omega)

def c_spec_RrOk : C := (.g (.o 0 1 (.box 1 (.t 0)) (.o 1 2 (.mov (.v (.bool false))) .done)) (.g (.o 0 3 (.fad (.t 1) 0) (.o 1 4 (.load (some 1) (.t 3)) (.o 2 5 (.call 5 47 [(.t 4)]) (.o 3 6 (.mov (.t 5)) (.op 4 [] (some 7) (some (6, true)) false (.fad (.t 1) 1) (.op 5 [] (some 8) (some (6, true)) false (.load none (.t 7)) (.op 6 [] (some 9) (some (6, true)) false (.call 9 48 [(.t 8)]) (.o 7 10 (.pick (.t 6) (.t 9) (.v (.bool false))) (.o 8 11 (.mov (.t 10)) (.op 9 [] (some 12) (some (11, true)) false (.fad (.t 1) 2) (.op 10 [] (some 13) (some (11, true)) false (.load none (.t 12)) (.op 11 [] (some 14) (some (11, true)) false (.bin .geq (.t 13) (.i 0)) (.o 12 15 (.pick (.t 11) (.t 14) (.v (.bool false))) (.o 13 16 (.mov (.t 15)) (.op 14 [] (some 17) (some (16, true)) false (.fad (.t 1) 2) (.op 15 [] (some 18) (some (16, true)) false (.load none (.t 17)) (.op 16 [] (some 19) (some (16, true)) false (.bin .leq (.t 18) (.i 100000)) (.o 17 20 (.pick (.t 16) (.t 19) (.v (.bool false))) (.o 18 21 (.mov (.t 20)) (.op 19 [] (some 22) (some (21, true)) false (.load (some 7) (.t 1)) (.op 20 [] (some 23) (some (21, true)) false (.call 23 164 [(.t 22)]) (.o 21 24 (.pick (.t 21) (.t 23) (.v (.bool false))) (.o 22 2 (.mov (.t 24)) .done))))))))))))))))))))))) .ret))
theorem dg_spec_RrOk : Tryz.f73.body.bind (digC Tryz.prog Tryz.f73.ntmps []) = some c_spec_RrOk := by kernel_rfl
theorem rs_spec_RrOk : resSlots Tryz.prog Tryz.f73 = some [.s 2] := by kernel_rfl
theorem ok_spec_RrOk (r : Rr) (hs : SmallR r) :
    FnOK Tryz.prog 73 [.agg (r.cells.map .d)] (fun ra _ => ra = [.one (.d (.sc (.bool (rrOk r))))]) := by
  refine FnOK.ofK Tryz.func73 (by kernel_rfl) dg_spec_RrOk rs_spec_RrOk rfl rfl ?_
  delta c_spec_RrOk T.o X.i C.g
  have n1 := hs.n.len
  have n2 := hs.n.mem
  refine Kbc (kBox Y Y Y Y Y (Ka Y (Kdb (Kc (Kf Y Y (Ke Y Y Y (Kp (ok_spec_NameOk _ pr pr) ⟨⟨⟨Y, trivial⟩, leb⟩, trivial⟩ Y Y Y Y Y (Ka Y (kGS Y (fun g0 => Ki Y (Kf Y Y (Ki Y (Ke Y Y Y (Ki Y (Kp (ok_spec_TypeOk _) ⟨Y, trivial⟩ Y Y Y Y Y (Kk Y (Ka Y (Ka Y (kGS Y (fun g1 => Ki Y (Kf Y Y (Ki Y (Ke Y Y Y (Ki Y (Kj Y Y Y (Kk Y (Ka Y (Ka Y (kGP Y (fun g2 => Ki Y (Kf Y Y (Ki Y (Ke Y Y Y (Ki Y (Kj Y Y Y (Kk Y (Ka Y (Ka Y (kGP Y (fun g3 => Ki Y (Ke Y Y Y (Ki Y (Kp (ok_spec_l3data _ pr) ⟨⟨⟨Y, Y, Y, Y, Y, Y, Y, trivial⟩, leb⟩, trivial⟩ Y Y Y Y Y (Kk Y (Ka Y (Ka Y (Kd (Kr (Er (ra := [.one (.d _)]) rfl ?_)))))))))) (fun g3 => Kg Y (Kg Y (Kl Y (Ka Y (Ka Y (Kd (Kr (Er (ra := [.one (.d _)]) rfl ?_)))))))))))))))))) (fun g2 => Kg Y (Kg Y (Kg Y (Kl Y (Ka Y (Ka Y (Kg Y (Kg Y (Kl Y (Ka Y (Ka Y (Kd (Kr (Er (ra := [.one (.d _)]) rfl ?_)))))))))))))))))))))))) (fun g1 => Kg Y (Kg Y (Kg Y (Kl Y (Ka Y (Ka Y (Kg Y (Kg Y (Kg Y (Kl Y (Ka Y (Ka Y (Kg Y (Kg Y (Kl Y (Ka Y (Ka Y (Kd (Kr (Er (ra := [.one (.d _)]) rfl ?_)))))))))))))))))))))))))))))) (fun g0 => Kg Y (Kg Y (Kg Y (Kl Y (Ka Y (Ka Y (Kg Y (Kg Y (Kg Y (Kl Y (Ka Y (Ka Y (Kg Y (Kg Y (Kg Y (Kl Y (Ka Y (Ka Y (Kg Y (Kg Y (Kl Y (Ka Y (Ka Y (Kd (Kr (Er (ra := [.one (.d _)]) rfl ?_)))))))))))))))))))))))))))))))))))
  all_goals (simp only [rrOk, *]; first | rfl | (simp; done) | (simp; omega))

def c_spec_l3num : C := (.g (.o 0 4 (.mov (.i 0)) .done) (.seq (.g (.o 0 5 (.mov (.t 0)) (.o 1 6 (.mov (.t 1)) (.o 2 7 (.bin .lss (.t 5) (.t 6)) .done))) (.cond (.t 7) (.g (.o 0 4 (.mov (.i (-1))) .done) .ret) .skip)) (.seq (.g (.o 0 8 (.mov (.t 0)) (.o 1 9 (.mov (.t 1)) (.o 2 10 (.bin .gtr (.t 8) (.t 9)) .done))) (.cond (.t 10) (.g (.o 0 4 (.mov (.i 1)) .done) .ret) .skip)) (.g (.o 0 4 (.mov (.i 0)) .done) .ret))))
theorem dg_spec_l3num : Tryz.f165.body.bind (digC Tryz.prog Tryz.f165.ntmps []) = some c_spec_l3num := by kernel_rfl
theorem rs_spec_l3num : resSlots Tryz.prog Tryz.f165 = some [.s 4] := by kernel_rfl
theorem ok_spec_l3num (a b : Int) :
    FnOK Tryz.prog 165 [.one (.d (.sc (.int .i64 a))), .one (.d (.sc (.int .i64 b)))] (fun ra _ => ra = [.one (.d (.sc (.int .i64 (cmpI a b))))]) := by
  refine FnOK.ofK Tryz.func165 (by kernel_rfl) dg_spec_l3num rs_spec_l3num rfl rfl ?_
  delta c_spec_l3num T.o X.i C.g
  refine Kbc (Ka Y (Kdb (Kbc (Ka Y (Ka Y (Kj Y Y Y (Kd (Km Y (fun g0 => Kbc (Ka Y (Kd (Kr (Er (ra := [.one (.d _)]) rfl ?_))))) (fun g0 => Kn (Kb (Kbc (Ka Y (Ka Y (Kj Y Y Y (Kd (Km Y (fun g1 => Kbc (Ka Y (Kd (Kr (Er (ra := [.one (.d _)]) rfl ?_))))) (fun g1 => Kn (Kbc (Ka Y (Kd (Kr (Er (ra := [.one (.d _)]) rfl ?_))))))))))))))))))))))
  all_goals (refine congrArg (fun z : Int => [RA.one (RV.d (DV.sc (Value.int IntKind.i64 z)))]) ?_; unfold cmpI; split <;> first | omega | (split <;> omega))

def c_spec_Put32 : C := (.g (.o 0 4 (.mov (.n 1)) .done) (.g (.o 0 6 (.lit 6 1 [(.v (.int .u8 0))] 0 []) (.o 1 7 (.mov (.t 0)) (.o 2 8 (.app 8 1 1 (.t 6) (.t 7)) (.o 3 5 (.mov (.t 8)) .done)))) (.seq (.g (.o 0 9 (.mov (.t 1)) (.o 1 10 (.bin .lss (.t 9) (.i 0)) (.o 2 11 (.mov (.t 10)) (.op 3 [] (some 12) (some (11, false)) false (.mov (.t 1)) (.op 4 [] (some 13) (some (11, false)) false (.bin .geq (.t 12) (.i 4294967296)) (.o 5 14 (.pick (.t 11) (.v (.bool true)) (.t 13)) .done)))))) (.cond (.t 14) (.g (.o 0 15 (.mov (.t 5)) (.o 1 4 (.mov (.t 15)) .done)) .ret) .skip)) (.g (.o 0 16 (.mov (.t 5)) (.o 1 17 (.mov (.t 1)) (.o 2 18 (.bin .shr (.t 17) (.v (.int .u64 24))) (.o 3 19 (.conv .u8 (.t 18)) (.o 4 20 (.mov (.t 1)) (.o 5 21 (.bin .shr (.t 20) (.v (.int .u64 16))) (.o 6 22 (.conv .u8 (.t 21)) (.o 7 23 (.mov (.t 1)) (.o 8 24 (.bin .shr (.t 23) (.v (.int .u64 8))) (.o 9 25 (.conv .u8 (.t 24)) (.o 10 26 (.mov (.t 1)) (.o 11 27 (.conv .u8 (.t 26)) (.o 12 28 (.lit 28 1 [(.v (.int .u8 0))] 4 [(0, 1, (.t 19)), (1, 1, (.t 22)), (2, 1, (.t 25)), (3, 1, (.t 27))]) (.o 13 29 (.app 29 1 1 (.t 16) (.t 28)) (.o 14 4 (.mov (.t 29)) .done))))))))))))))) .ret))))
theorem dg_spec_Put32 : Tryz.f247.body.bind (digC Tryz.prog Tryz.f247.ntmps []) = some c_spec_Put32 := by kernel_rfl
theorem rs_spec_Put32 : resSlots Tryz.prog Tryz.f247 = some [.s 4] := by kernel_rfl
theorem ok_spec_Put32 (b : List UInt8) (n : Int) (hb : b.length ≤ 16777216) (h0 : 0 ≤ n) (h1 : n < 4294967296) :
    FnOK Tryz.prog 247 [.one (.d (encB b)), .one (.d (.sc (.int .i64 n)))] (fun ra _ => ra = [.one (.own true (encB (b ++ w4 n)))]) := by
  refine FnOK.ofK Tryz.func247 (by kernel_rfl) dg_spec_Put32 rs_spec_Put32 rfl rfl ?_
  delta c_spec_Put32 T.o X.i C.g
  refine Kbc (Ka Y (Kdb (Kc (kLit Y Y Y Y (Ka Y (kAppN Y Y Y (src_encB _ _) rfl rfl rfl rfl om (Ka Y (Kdb (Kbc (Ka Y (Kj Y Y Y (Ka Y (kGP Y (fun g0 => om) (fun g0 => Ki Y (Ka Y (Ki Y (Kj Y Y Y (Kl Y (Ka Y (Kd (Km Y (fun g1 => om) (fun g1 => Kn (Kbc (Ka Y (Ka Y (kShr (m := 24) Y Y Y (kConvU8 Y (Ka Y (kShr (m := 16) Y Y Y (kConvU8 Y (Ka Y (kShr (m := 8) Y Y Y (kConvU8 Y (Ka Y (kConvU8 Y (kLit Y Y Y Y (kAppR4 Y Y Y Y Y Y Y Y om (Ka Y (Kd (Kr (Er (ra := [.one (.own true _)]) rfl rfl)))))))))))))))))))))))))))))))))))))))))
theorem ok_spec_Put32_nil (n : Int) (h0 : 0 ≤ n) (h1 : n < 4294967296) :
    FnOK Tryz.prog 247 [.one (.d (.sl 1 [])), .one (.d (.sc (.int .i64 n)))] (fun ra _ => ra = [.one (.own true (encB (w4 n)))]) := ok_spec_Put32 [] n (Nat.zero_le _) h0 h1

def c_spec_l2put : C := (.g (.o 0 3 (.box 3 (.t 1)) (.o 1 4 (.mov (.n 1)) .done)) (.seq (.g (.o 0 5 (.mov (.i 0)) .done) (.block 0 (.loop (.seq (.g (.o 0 6 (.mov (.t 5)) (.o 1 7 (.fad (.t 3) 0) (.o 2 8 (.load none (.t 7)) (.o 3 9 (.len (.t 8)) (.o 4 10 (.bin .lss (.t 6) (.t 9)) .done))))) (.cond (.t 10) .skip (.exit 0))) (.seq (.block 1 (.reg true (.op 0 [] (some 13) none true (.mov (.t 0)) (.op 1 [] (some 14) none true (.fad (.t 3) 0) (.op 2 [] (some 15) none true (.load none (.t 14)) (.op 3 [] (some 16) none true (.mov (.t 5)) (.op 4 [] (some 17) none true (.iad 1 (.t 15) (.t 16)) (.op 5 [] (some 18) none true (.load none (.t 17)) (.op 6 [] (some 19) none true (.len (.t 18)) (.op 7 [] (some 20) none true (.conv .u8 (.t 19)) (.op 10 [] (some 23) none true (.fad (.t 3) 0) (.op 11 [] (some 24) none true (.load none (.t 23)) (.op 12 [] (some 25) none true (.mov (.t 5)) (.op 13 [] (some 26) none true (.iad 1 (.t 24) (.t 25)) (.op 14 [] (some 27) none true (.load none (.t 26)) (.op 8 [5, 2] (some 21) none false (.lit 21 1 [(.v (.int .u8 0))] 1 [(0, 1, (.t 20))]) (.op 9 [5, 2] (some 22) none false (.app 22 1 1 (.t 13) (.t 21)) (.op 15 [5, 14, 11] (some 28) none false (.app 28 1 1 (.t 22) (.t 27)) (.op 16 [] (some 0) none true (.mov (.t 28)) .done))))))))))))))))))) (.reg false (.o 0 11 (.mov (.t 5)) (.o 1 12 (.bin .add (.t 11) (.i 1)) (.o 2 5 (.mov (.t 12)) .done))))))))) (.g (.o 0 29 (.mov (.t 0)) (.o 1 30 (.lit 30 1 [(.v (.int .u8 0))] 1 [(0, 1, (.v (.int .u8 0)))]) (.o 2 31 (.app 31 1 1 (.t 29) (.t 30)) (.o 3 4 (.mov (.t 31)) .done)))) .ret)))
theorem dg_spec_l2put : Tryz.f155.body.bind (digC Tryz.prog Tryz.f155.ntmps []) = some c_spec_l2put := by kernel_rfl
theorem rs_spec_l2put : resSlots Tryz.prog Tryz.f155 = some [.s 4] := by kernel_rfl
theorem ok_spec_l2put (b : List UInt8) (a : List (List UInt8)) (hs : SmallBB a) (hb : b.length ≤ 16777216) :
    FnOK Tryz.prog 155 [.one (.arr true true (encB b)), .agg [.d (encBB a)]] (fun ra _ => ra = [.one (.own true (encB (b ++ wireN a)))]) := by
  refine FnOK.ofK Tryz.func155 (by kernel_rfl) dg_spec_l2put rs_spec_l2put rfl rfl ?_
  delta c_spec_l2put T.o X.i C.g
  have h1 := hs.len
  have h2 := hs.flat
  refine Kbc (kBox Y Y Y Y Y (Ka Y (Kdb (Kbc (Ka Y (Kd (Kt ?_)))))))
  refine kLoop (α := { i : Nat // i ≤ a.length }) (fun y => ⟨tabSl [(0, .c (.arr 0 1)), (3, .c (.ptr (rid 3 0) 1 0)), (5, .i y.1)], obTab 1 [(0, ⟨1, 0, .arr true (encB (b ++ wireL (a.take y.1)))⟩), (rid 3 0, ⟨1, 0, .box [.d (encBB a)]⟩)], []⟩) (fun y => a.length - y.1) ⟨0, by simp⟩ (by simp only [List.take_zero, wireL, List.flatMap_nil, List.append_nil]; exact .normA) ?_
  rintro ⟨i, hi⟩
  simp only
  have hl := wireL_le a i
  have hl2 : (b ++ wireL (a.take i)).length = b.length + (wireL (a.take i)).length := by simp
  rcases Nat.lt_or_ge i a.length with hlt | hge
  · have hst : b ++ wireL (a.take (i + 1)) = b ++ wireL (a.take i) ++ [u8 a[i].length] ++ a[i] := by rw [wireL_take a i hlt]; simp
    have hm := hs.mem _ (List.getElem_mem hlt)
    have hlen : (b ++ wireL (a.take i) ++ [u8 a[i].length]).length = (b ++ wireL (a.take i)).length + 1 := by simp only [List.length_append, List.length_cons, List.length_nil]
    refine Kb (Kbc (Ka Y (Kf Y Y (Ke Y Y Y (Kq Y Y (Kj Y Y Y (Kd (Km Y (fun g0 => Kn (Kb (Kt (kRegD (Ka Y (Kf Y Y (Ke Y Y Y (Ka Y (kIadR Y Y Y om (Ky Y Y (Kq Y Y (kConvU8 Y (Kf Y Y (Ke Y Y Y (Ka Y (kIadR Y Y Y om (Ky Y Y (Kx Y Y (kLit Y Y Y Y (Kx Y Y (kAppR1 Y Y Y Y Y Y Y Y om (Ks Y Y (kAppR Y Y Y (src_encB _ _) rfl rfl rfl rfl om (Ka Y (Kd (kH (Kv (Kc (Ka Y (kAdd Y Y om (Ka Y (Kd ?_)))))))))))))))))))))))))))))))) (fun g0 => om)))))))))
    refine kInv ⟨⟨i + 1, by omega⟩, by simp only; omega, ?_⟩
    simp only [hst]
    exact .normA
  · have he : b ++ wireN a = b ++ wireL (a.take i) ++ [0] := by rw [show i = a.length by omega, List.take_length]; simp [wireN]
    rw [he]
    refine Kb (Kbc (Ka Y (Kf Y Y (Ke Y Y Y (Kq Y Y (Kj Y Y Y (Kd (Km Y (fun g0 => om) (fun g0 => kExit (kExC (kExI (kExB (Kbc (Ka Y (kLit Y Y Y Y (kAppR1 (z := (0 : UInt8)) rfl rfl rfl rfl rfl rfl rfl rfl om (Ka Y (Kd (Kr (Er (ra := [.one (.own true _)]) rfl rfl))))))))))))))))))))
theorem ok_spec_l2put_nil (a : List (List UInt8)) (hs : SmallBB a) :
    FnOK Tryz.prog 155 [.one (.arr true true (.sl 1 [])), .agg [.d (encBB a)]] (fun ra _ => ra = [.one (.own true (encB (wireN a)))]) := ok_spec_l2put [] a hs (Nat.zero_le _)

def c_spec_l3put : C := (.g (.o 0 1 (.box 1 (.t 0)) (.o 1 2 (.mov (.n 1)) .done)) (.seq (.block 0 (.g (.o 0 4 (.fad (.t 1) 1) (.o 1 5 (.load none (.t 4)) (.o 2 6 (.bin .eql (.t 5) (.i 1)) (.o 3 3 (.mov (.t 6)) .done)))) (.cond (.t 3) (.g (.o 0 7 (.fad (.t 1) 3) (.o 1 8 (.load none (.t 7)) (.o 2 9 (.call 9 247 [(.n 1), (.t 8)]) (.o 3 2 (.mov (.t 9)) .done)))) .ret) (.g (.o 0 11 (.fad (.t 1) 1) (.o 1 12 (.load none (.t 11)) (.o 2 13 (.bin .eql (.t 12) (.i 6)) (.o 3 10 (.mov (.t 13)) .done)))) (.cond (.t 10) (.seq (.reg true (.op 0 [] (some 14) none true (.fad (.t 1) 4) (.op 1 [] (some 15) none true (.load (some 1) (.t 14)) (.op 3 [] (some 17) none true (.fad (.t 1) 6) (.op 4 [] (some 18) none true (.load none (.t 17)) (.op 5 [] (some 19) none true (.iad 1 (.t 18) (.i 0)) (.op 6 [] (some 20) none true (.load none (.t 19)) (.op 8 [] (some 22) none true (.fad (.t 1) 6) (.op 9 [] (some 23) none true (.load none (.t 22)) (.op 10 [] (some 24) none true (.iad 1 (.t 23) (.i 1)) (.op 11 [] (some 25) none true (.load none (.t 24)) (.op 2 [1] (some 16) none false (.call 16 155 [(.n 1), (.t 15)]) (.op 7 [1, 6, 4] (some 21) none false (.call 21 247 [(.t 16), (.t 20)]) (.op 12 [1, 6, 4, 11, 9] (some 26) none false (.call 26 247 [(.t 21), (.t 25)]) (.op 13 [] (some 2) none true (.mov (.t 26)) .done))))))))))))))) .ret) (.g (.o 0 28 (.fad (.t 1) 1) (.o 1 29 (.load none (.t 28)) (.o 2 30 (.call 30 245 [(.t 29)]) (.o 3 27 (.mov (.t 30)) .done)))) (.cond (.t 27) (.g (.o 0 31 (.fad (.t 1) 4) (.o 1 32 (.load (some 1) (.t 31)) (.o 2 33 (.call 33 155 [(.n 1), (.t 32)]) (.o 3 2 (.mov (.t 33)) .done)))) .ret) .skip))))))) (.g (.o 0 34 (.fad (.t 1) 5) (.o 1 35 (.load none (.t 34)) (.o 2 36 (.len (.t 35)) (.o 3 37 (.conv .u8 (.t 36)) (.o 4 38 (.lit 38 1 [(.v (.int .u8 0))] 1 [(0, 1, (.t 37))]) (.o 5 39 (.fad (.t 1) 5) (.o 6 40 (.load none (.t 39)) (.o 7 41 (.app 41 1 1 (.t 38) (.t 40)) (.o 8 2 (.mov (.t 41)) .done))))))))) .ret)))
theorem dg_spec_l3put : Tryz.f167.body.bind (digC Tryz.prog Tryz.f167.ntmps []) = some c_spec_l3put := by kernel_rfl
theorem rs_spec_l3put : resSlots Tryz.prog Tryz.f167 = some [.s 2] := by kernel_rfl
theorem ok_spec_l3put (r : Rr) (hs : SmallR r) (hk : rrOk r = true) :
    FnOK Tryz.prog 167 [.agg (r.cells.map .d)] (fun ra _ => ra = [.one (.own true (encB (rdata r)))]) := by
  refine FnOK.ofK Tryz.func167 (by kernel_rfl) dg_spec_l3put rs_spec_l3put rfl rfl ?_
  delta c_spec_l3put T.o X.i C.g
  have ht := hs.t
  have t1 := hs.t.len
  have t2 := hs.t.flat
  have x1 := hs.x
  have m1 := hs.m
  by_cases h1 : r.ty = 1
  · rw [rdata_A h1]
    have ha := rdata_ad hk h1
    refine Kbc (kBox Y Y Y Y Y (Ka Y (Kdb (Kt (Kbc (Kf Y Y (Ke Y Y Y (Kj Y Y Y (Ka Y (Kd (Km Y (fun g0 => Kbc (Kf Y Y (Ke Y Y Y (Ku true (ok_spec_Put32_nil _ pr pr) ⟨Y, Y, trivial⟩ Y Y Y (fun _ => (Ka Y (Kd (Kr (Er (ra := [.one (.own true _)]) rfl rfl))))))))) (fun g0 => om))))))))))))
  by_cases h6 : r.ty = 6
  · obtain ⟨h2, h3, h4, h5⟩ := rdata_soa hk h6
    rw [h5]
    have w1 := wireN_len r.to
    have w2 : (wireN r.to ++ w4 (r.nums[0]'(by omega))).length = (wireN r.to).length + 4 := by rw [List.length_append, w4_len]
    refine Kbc (kBox Y Y Y Y Y (Ka Y (Kdb (Kt (Kbc (Kf Y Y (Ke Y Y Y (Kj Y Y Y (Ka Y (Kd (Km Y (fun g0 => om) (fun g0 => Kbc (Kf Y Y (Ke Y Y Y (Kj Y Y Y (Ka Y (Kd (Km Y (fun g1 => Kb (kRegD (Kf Y Y (Ke Y Y Y (Kf Y Y (Ke Y Y Y (kIadR (m := 0) Y Y Y om (Ky Y Y (Kf Y Y (Ke Y Y Y (kIadR (m := 1) Y Y Y om (Ky Y Y (Kx Y Y (Ku true (ok_spec_l2put_nil _ pr) ⟨⟨rfl, rfl⟩, ⟨⟨Y, trivial⟩, leb⟩, trivial⟩ Y Y Y (fun _ => (Kx Y Y (Ku true (ok_spec_Put32 _ _ pr pr pr) ⟨Y, Y, trivial⟩ Y Y Y (fun _ => (Ks Y Y (Ku true (ok_spec_Put32 _ _ pr pr pr) ⟨Y, Y, trivial⟩ Y Y Y (fun _ => (Ka Y (Kd (kH (Kr (Er (ra := [.one (.own true _)]) rfl rfl)))))))))))))))))))))))))) (fun g1 => om)))))))))))))))))))
  have hn := rdata_nm hk h6
  cases h2 : hasTo r.ty
  · rw [rdata_text h1 h2]
    refine Kbc (kBox Y Y Y Y Y (Ka Y (Kdb (Kt (Kbc (Kf Y Y (Ke Y Y Y (Kj Y Y Y (Ka Y (Kd (Km Y (fun g0 => om) (fun g0 => Kbc (Kf Y Y (Ke Y Y Y (Kj Y Y Y (Ka Y (Kd (Km Y (fun g1 => om) (fun g1 => Kbc (Kf Y Y (Ke Y Y Y (Kp (ok_spec_l3named _) ⟨Y, trivial⟩ Y Y Y Y Y (Ka Y (Kd (kCond Y (fun g2 => (by (simp [*] at g2))) (fun g2 => Kn (Kv (Kbc (Kf Y Y (Ke Y Y Y (Kq Y Y (kConvU8 Y (kLit Y Y Y Y (Kf Y Y (Ke Y Y Y (kApp1R Y Y (src_encB _ _) rfl rfl rfl rfl rfl om (Ka Y (Kd (Kr (Er (ra := [.one (.own true _)]) rfl rfl))))))))))))))))))))))))))))))))))))))))
  · rw [rdata_to h1 h2, hn, List.flatMap_nil, List.append_nil]
    refine Kbc (kBox Y Y Y Y Y (Ka Y (Kdb (Kt (Kbc (Kf Y Y (Ke Y Y Y (Kj Y Y Y (Ka Y (Kd (Km Y (fun g0 => om) (fun g0 => Kbc (Kf Y Y (Ke Y Y Y (Kj Y Y Y (Ka Y (Kd (Km Y (fun g1 => om) (fun g1 => Kbc (Kf Y Y (Ke Y Y Y (Kp (ok_spec_l3named _) ⟨Y, trivial⟩ Y Y Y Y Y (Ka Y (Kd (kCond Y (fun g2 => Kbc (Kf Y Y (Ke Y Y Y (Ku true (ok_spec_l2put_nil _ pr) ⟨⟨rfl, rfl⟩, ⟨⟨Y, trivial⟩, leb⟩, trivial⟩ Y Y Y (fun _ => (Ka Y (Kd (Kr (Er (ra := [.one (.own true _)]) rfl rfl))))))))) (fun g2 => (by (simp [*] at g2))))))))))))))))))))))))))))

def c_spec_l3cmp : C := (.g (.o 0 2 (.box 2 (.t 0)) (.o 1 3 (.box 3 (.t 1)) (.o 2 4 (.mov (.i 0)) .done))) (.g (.o 0 6 (.fad (.t 2) 0) (.o 1 7 (.load (some 1) (.t 6)) (.o 2 8 (.fad (.t 3) 0) (.o 3 9 (.load (some 1) (.t 8)) (.o 4 10 (.call 10 77 [(.t 7), (.t 9)]) (.o 5 5 (.mov (.t 10)) .done)))))) (.seq (.g (.o 0 11 (.mov (.t 5)) (.o 1 12 (.bin .eql (.t 11) (.i 0)) .done)) (.cond (.t 12) (.reg false (.o 0 13 (.fad (.t 2) 1) (.o 1 14 (.load none (.t 13)) (.o 2 15 (.fad (.t 3) 1) (.o 3 16 (.load none (.t 15)) (.o 4 17 (.call 17 165 [(.t 14), (.t 16)]) (.o 5 5 (.mov (.t 17)) .done))))))) .skip)) (.seq (.g (.o 0 18 (.mov (.t 5)) (.o 1 19 (.bin .eql (.t 18) (.i 0)) .done)) (.cond (.t 19) (.reg true (.op 0 [] (some 20) none true (.load (some 7) (.t 2)) (.op 2 [] (some 22) none true (.load (some 7) (.t 3)) (.op 1 [0] (some 21) none false (.call 21 167 [(.t 20)]) (.op 3 [2, 0] (some 23) none false (.call 23 167 [(.t 22)]) (.op 4 [0, 2] (some 24) none false (.call 24 166 [(.t 21), (.t 23)]) (.op 5 [] (some 5) none true (.mov (.t 24)) .done))))))) .skip)) (.g (.o 0 25 (.mov (.t 5)) (.o 1 4 (.mov (.t 25)) .done)) .ret)))))
theorem dg_spec_l3cmp : Tryz.f75.body.bind (digC Tryz.prog Tryz.f75.ntmps []) = some c_spec_l3cmp := by kernel_rfl
theorem rs_spec_l3cmp : resSlots Tryz.prog Tryz.f75 = some [.s 4] := by kernel_rfl
theorem ok_spec_l3cmp (a b : Rr) (ha : SmallR a) (hb : SmallR b) (ka : rrOk a = true) (kb : rrOk b = true) :
    FnOK Tryz.prog 75 [.agg (a.cells.map .d), .agg (b.cells.map .d)] (fun ra _ => ra = [.one (.d (.sc (.int .i64 (cmpR a b))))]) := by
  refine FnOK.ofK Tryz.func75 (by kernel_rfl) dg_spec_l3cmp rs_spec_l3cmp rfl rfl ?_
  delta c_spec_l3cmp T.o X.i C.g
  have n1 := ha.n.len
  have n2 := hb.n.len
  by_cases h1 : cmpN a.name b.name = 0
  · by_cases h2 : cmpI a.ty b.ty = 0
    · rw [show cmpR a b = cmpB (rdata a) (rdata b) by unfold cmpR; rw [if_pos h1, if_pos h2]]
      refine Kbc (kBox Y Y Y Y Y (kBox Y Y Y Y Y (Ka Y (Kdb (Kc (Kf Y Y (Ke Y Y Y (Kf Y Y (Ke Y Y Y (Kp (ok_spec_l2cmp _ _ pr pr) ⟨⟨⟨Y, trivial⟩, leb⟩, ⟨⟨Y, trivial⟩, leb⟩, trivial⟩ Y Y Y Y Y (Ka Y (Kdb (Kbc (Ka Y (Kj Y Y Y (Kd (Km Y (fun g0 => Kc (Kf Y Y (Ke Y Y Y (Kf Y Y (Ke Y Y Y (Kp (ok_spec_l3num _ _) ⟨Y, Y, trivial⟩ Y Y Y Y Y (Ka Y (Kdb (Kbc (Ka Y (Kj Y Y Y (Kd (Km Y (fun g1 => kRegD (Ke Y Y Y (Ke Y Y Y (Kx Y Y (Ku true (ok_spec_l3put _ pr pr) ⟨⟨⟨Y, Y, Y, Y, Y, Y, Y, trivial⟩, leb⟩, trivial⟩ Y Y Y (fun _ => (Ks Y Y (Ku true (ok_spec_l3put _ pr pr) ⟨⟨⟨Y, Y, Y, Y, Y, Y, Y, trivial⟩, leb⟩, trivial⟩ Y Y Y (fun _ => (Ks Y Y (Kp (ok_spec_l2bytes _ _) ⟨Y, Y, trivial⟩ Y Y Y Y Y (Ka Y (Kd (kH (Kbc (Ka Y (Ka Y (Kd (Kr (Er (ra := [.one (.d _)]) rfl rfl)))))))))))))))))))) (fun g1 => om)))))))))))))) (fun g0 => om))))))))))))))))))
    · rw [show cmpR a b = cmpI a.ty b.ty by unfold cmpR; rw [if_pos h1, if_neg h2]]
      refine Kbc (kBox Y Y Y Y Y (kBox Y Y Y Y Y (Ka Y (Kdb (Kc (Kf Y Y (Ke Y Y Y (Kf Y Y (Ke Y Y Y (Kp (ok_spec_l2cmp _ _ pr pr) ⟨⟨⟨Y, trivial⟩, leb⟩, ⟨⟨Y, trivial⟩, leb⟩, trivial⟩ Y Y Y Y Y (Ka Y (Kdb (Kbc (Ka Y (Kj Y Y Y (Kd (Km Y (fun g0 => Kc (Kf Y Y (Ke Y Y Y (Kf Y Y (Ke Y Y Y (Kp (ok_spec_l3num _ _) ⟨Y, Y, trivial⟩ Y Y Y Y Y (Ka Y (Kdb (Kbc (Ka Y (Kj Y Y Y (Kd (Km Y (fun g1 => om) (fun g1 => Kn (Kbc (Ka Y (Ka Y (Kd (Kr (Er (ra := [.one (.d _)]) rfl rfl)))))))))))))))))))) (fun g0 => om))))))))))))))))))
  · rw [show cmpR a b = cmpN a.name b.name by unfold cmpR; rw [if_neg h1]]
    refine Kbc (kBox Y Y Y Y Y (kBox Y Y Y Y Y (Ka Y (Kdb (Kc (Kf Y Y (Ke Y Y Y (Kf Y Y (Ke Y Y Y (Kp (ok_spec_l2cmp _ _ pr pr) ⟨⟨⟨Y, trivial⟩, leb⟩, ⟨⟨Y, trivial⟩, leb⟩, trivial⟩ Y Y Y Y Y (Ka Y (Kdb (Kbc (Ka Y (Kj Y Y Y (Kd (Km Y (fun g0 => om) (fun g0 => Kn (Kb (Kbc (Ka Y (Kj Y Y Y (Kd (Km Y (fun g1 => om) (fun g1 => Kn (Kbc (Ka Y (Ka Y (Kd (Kr (Er (ra := [.one (.d _)]) rfl rfl)))))))))))))))))))))))))))))))

def c_spec_l10set : C := (.g (.o 0 2 (.mov (.v (.bool false))) .done) (.seq (.g (.o 0 4 (.mov (.t 0)) (.o 1 5 (.len (.t 4)) (.o 2 6 (.bin .lss (.t 5) (.i 1)) (.o 3 7 (.mov (.t 6)) (.op 4 [] (some 8) (some (7, false)) false (.mov (.t 0)) (.op 5 [] (some 9) (some (7, false)) false (.len (.t 8)) (.op 6 [] (some 10) (some (7, false)) false (.bin .gtr (.t 9) (.i 12)) (.o 7 11 (.pick (.t 7) (.v (.bool true)) (.t 10)) .done)))))))) (.cond (.t 11) (.g (.o 0 2 (.mov (.v (.bool false))) .done) .ret) .skip)) (.seq (.g (.o 0 3 (.mov (.i 0)) .done) (.block 0 (.loop (.seq (.g (.o 0 12 (.mov (.t 3)) (.o 1 13 (.mov (.t 0)) (.o 2 14 (.len (.t 13)) (.o 3 15 (.bin .lss (.t 12) (.t 14)) .done)))) (.cond (.t 15) .skip (.exit 0))) (.seq (.block 1 (.seq (.reg true (.op 0 [] (some 18) none true (.mov (.t 0)) (.op 1 [] (some 19) none true (.mov (.t 3)) (.op 2 [] (some 20) none true (.iad 7 (.t 18) (.t 19)) (.op 3 [] (some 21) none true (.load (some 7) (.t 20)) (.op 4 [3] (some 22) none false (.call 22 73 [(.t 21)]) (.op 5 [] (some 23) none true (.un .not (.t 22)) (.op 6 [] (some 24) none true (.mov (.t 23)) (.op 7 [] (some 25) (some (24, false)) true (.mov (.t 0)) (.op 8 [] (some 26) (some (24, false)) true (.mov (.t 3)) (.op 9 [] (some 27) (some (24, false)) true (.iad 7 (.t 25) (.t 26)) (.op 10 [] (some 28) (some (24, false)) true (.fad (.t 27) 0) (.op 11 [] (some 29) (some (24, false)) true (.load (some 1) (.t 28)) (.op 12 [] (some 30) (some (24, false)) true (.mov (.t 0)) (.op 13 [] (some 31) (some (24, false)) true (.iad 7 (.t 30) (.i 0)) (.op 14 [] (some 32) (some (24, false)) true (.fad (.t 31) 0) (.op 15 [] (some 33) (some (24, false)) true (.load (some 1) (.t 32)) (.op 16 [11, 3, 15] (some 34) (some (24, false)) false (.call 34 77 [(.t 29), (.t 33)]) (.op 17 [] (some 35) (some (24, false)) true (.bin .neq (.t 34) (.i 0)) (.op 18 [] (some 36) none true (.pick (.t 24) (.v (.bool true)) (.t 35)) (.op 19 [] (some 37) none true (.mov (.t 36)) (.op 20 [] (some 38) (some (37, false)) true (.mov (.t 0)) (.op 21 [] (some 39) (some (37, false)) true (.mov (.t 3)) (.op 22 [] (some 40) (some (37, false)) true (.iad 7 (.t 38) (.t 39)) (.op 23 [] (some 41) (some (37, false)) true (.fad (.t 40) 1) (.op 24 [] (some 42) (some (37, false)) true (.load none (.t 41)) (.op 25 [] (some 43) (some (37, false)) true (.mov (.t 0)) (.op 26 [] (some 44) (some (37, false)) true (.iad 7 (.t 43) (.i 0)) (.op 27 [] (some 45) (some (37, false)) true (.fad (.t 44) 1) (.op 28 [] (some 46) (some (37, false)) true (.load none (.t 45)) (.op 29 [] (some 47) (some (37, false)) true (.bin .neq (.t 42) (.t 46)) (.op 30 [] (some 48) none true (.pick (.t 37) (.v (.bool true)) (.t 47)) (.op 31 [] (some 49) none true (.mov (.t 48)) (.op 32 [] (some 50) (some (49, false)) true (.mov (.t 0)) (.op 33 [] (some 51) (some (49, false)) true (.mov (.t 3)) (.op 34 [] (some 52) (some (49, false)) true (.iad 7 (.t 50) (.t 51)) (.op 35 [] (some 53) (some (49, false)) true (.fad (.t 52) 2) (.op 36 [] (some 54) (some (49, false)) true (.load none (.t 53)) (.op 37 [] (some 55) (some (49, false)) true (.mov (.t 0)) (.op 38 [] (some 56) (some (49, false)) true (.iad 7 (.t 55) (.i 0)) (.op 39 [] (some 57) (some (49, false)) true (.fad (.t 56) 2) (.op 40 [] (some 58) (some (49, false)) true (.load none (.t 57)) (.op 41 [] (some 59) (some (49, false)) true (.bin .neq (.t 54) (.t 58)) (.op 42 [] (some 60) none true (.pick (.t 49) (.v (.bool true)) (.t 59)) (.op 43 [] (some 61) none true (.mov (.t 60)) (.op 44 [] (some 62) (some (61, false)) true (.mov (.t 3)) (.op 45 [] (some 63) (some (61, false)) true (.bin .gtr (.t 62) (.i 0)) (.op 46 [] (some 64) (some (61, false)) true (.mov (.t 63)) (.op 47 [] (some 65) (some (64, true)) true (.mov (.t 0)) (.op 48 [] (some 66) (some (64, true)) true (.mov (.t 3)) (.op 49 [] (some 67) (some (64, true)) true (.bin .sub (.t 66) (.i 1)) (.op 50 [] (some 68) (some (64, true)) true (.iad 7 (.t 65) (.t 67)) (.op 51 [] (some 69) (some (64, true)) true (.load (some 7) (.t 68)) (.op 52 [] (some 70) (some (64, true)) true (.mov (.t 0)) (.op 53 [] (some 71) (some (64, true)) true (.mov (.t 3)) (.op 54 [] (some 72) (some (64, true)) true (.iad 7 (.t 70) (.t 71)) (.op 55 [] (some 73) (some (64, true)) true (.load (some 7) (.t 72)) (.op 56 [51, 36, 40, 55, 24, 28, 11, 15] (some 74) (some (64, true)) false (.call 74 75 [(.t 69), (.t 73)]) (.op 57 [] (some 75) (some (64, true)) true (.bin .geq (.t 74) (.i 0)) (.op 58 [] (some 76) (some (61, false)) true (.pick (.t 64) (.t 75) (.v (.bool false))) (.op 59 [] (some 77) none true (.pick (.t 61) (.v (.bool true)) (.t 76)) .done))))))))))))))))))))))))))))))))))))))))))))))))))))))))))))) (.cond (.t 77) (.g (.o 0 2 (.mov (.v (.bool false))) .done) .ret) .skip))) (.reg false (.o 0 16 (.mov (.t 3)) (.o 1 17 (.bin .add (.t 16) (.i 1)) (.o 2 3 (.mov (.t 17)) .done))))))))) (.g (.o 0 2 (.mov (.v (.bool true))) .done) .ret))))
theorem dg_spec_l10set : Tryz.f146.body.bind (digC Tryz.prog Tryz.f146.ntmps []) = some c_spec_l10set := by kernel_rfl
theorem rs_spec_l10set : resSlots Tryz.prog Tryz.f146 = some [.s 2] := by kernel_rfl
theorem ok_spec_l10set (l : List Rr) (hs : SmallRs l) :
    FnOK Tryz.prog 146 [.one (.d (encR l))] (fun ra _ => ra = [.one (.d (.sc (.bool (isSetR l))))]) := by
  refine FnOK.ofK Tryz.func146 (by kernel_rfl) dg_spec_l10set rs_spec_l10set rfl rfl ?_
  delta c_spec_l10set T.o X.i C.g
  have h1 := hs.len
  have hm := hs.mem
  by_cases a1 : 0 < l.length ∧ l.length ≤ 12
  case neg =>
    rw [show isSetR l = false by rw [Bool.eq_false_iff]; intro h; have := isSetR_len h; omega]
    refine Kbc (Ka Y (Kdb (Kbc (Ka Y (Kq Y Y (Kj Y Y Y (Ka Y (kGP Y (fun g0 => Kg Y (Kg Y (Kg Y (Kk Y (Ka Y (Kd (kCondT Y (Kbc (Ka Y (Kd (Kr (Er (ra := [.one (.d _)]) rfl rfl)))))))))))) (fun g0 => Ki Y (Ka Y (Ki Y (Kq Y Y (Ki Y (Kj Y Y Y (Kl Y (Ka Y (Kd (Km Y (fun g1 => Kbc (Ka Y (Kd (Kr (Er (ra := [.one (.d _)]) rfl rfl))))) (fun g1 => om)))))))))))))))))))
  obtain ⟨a2, a3⟩ := a1
  refine Kbc (Ka Y (Kdb (Kbc (Ka Y (Kq Y Y (Kj Y Y Y (Ka Y (kGP Y (fun g0 => om) (fun g0 => Ki Y (Ka Y (Ki Y (Kq Y Y (Ki Y (Kj Y Y Y (Kl Y (Ka Y (Kd (Km Y (fun g1 => om) (fun g1 => Kn (Kb (Kbc (Ka Y (Kd (Kt ?_))))))))))))))))))))))))
  refine kLoop (α := { i : Nat // i ≤ l.length ∧ (l.take i).all rrOk = true ∧ (List.range i).all (setAt l) = true }) (fun y => ⟨tabSl [(0, .dv (encR l)), (3, .i y.1)], obTab 1 [], []⟩) (fun y => l.length - y.1) ⟨0, by simp⟩ .normA ?_
  rintro ⟨i, hi, hr, hz⟩
  simp only
  rcases Nat.lt_or_ge i l.length with hlt | hge
  · have hbi := hm _ (List.getElem_mem hlt)
    have hb0 := hm _ (List.getElem_mem a2)
    have n1 := hbi.n.len
    have n2 := hbi.n.mem
    have m1 := hb0.n.len
    have m2 := hb0.n.mem
    have hcz := cmpN_zero l[i].name l[0].name
    have hq := setAt_eq hlt a2
    cases hk : rrOk l[i]
    · rw [set_no2 hlt hk]
      refine Kb (Kbc (Ka Y (Ka Y (Kq Y Y (Kj Y Y Y (Kd (Km Y (fun g0 => Kn (Kb (Kt (Kb (kRegD (Ka Y (Ka Y (kIadR Y Y Y prl (Ky Y Y (Ks Y Y (Kp (ok_spec_RrOk _ prx) ⟨⟨⟨Y, Y, Y, Y, Y, Y, Y, trivial⟩, leb⟩, trivial⟩ Y Y Y Y Y (Kw Y Y (Ka Y (kGN Y (fun g1 => Kg Y (Kg Y (Kg Y (Kg Y (Kg Y (Kg Y (Kg Y (Kg Y (Kg Y (Ks Y Y (Kg Y (Kg Y (Kk Y (Ka Y (Ka Y (Kg Y (Kg Y (Kg Y (Kg Y (Kg Y (Kg Y (Kg Y (Kg Y (Kg Y (Kg Y (Kk Y (Ka Y (Ka Y (Kg Y (Kg Y (Kg Y (Kg Y (Kg Y (Kg Y (Kg Y (Kg Y (Kg Y (Kg Y (Kk Y (Ka Y (Ka Y (Kg Y (Kg Y (Kg Y (kGU Y (kGU Y (kGU Y (kGU Y (kGU Y (kGU Y (kGU Y (kGU Y (kGU Y (Ks Y Y (kGU Y (kGU Y (Kg Y (Kk Y (Ka Y (Kd (kH (kCondT Y (Kbc (Ka Y (Kd (Kr (Er (ra := [.one (.d _)]) rfl rfl))))))))))))))))))))))))))))))))))))))))))))))))))))))))))))))))))) (fun g1 => (by (simp [*] at g1))))))))))))))))) (fun g0 => om))))))))
    have kp : rrOk (l[((i : Int) - 1).toNat]'(by omega)) = true := by
      rcases Nat.eq_zero_or_pos i with h0 | h0
      · have e : ((i : Int) - 1).toNat = i := by omega
        simp only [e]; exact hk
      · have e : ((i : Int) - 1).toNat = i - 1 := by omega
        simp only [e]
        exact List.all_eq_true.1 hr _ (by rw [List.mem_take_iff_getElem]; exact ⟨i - 1, by omega, rfl⟩)
    refine Kb (Kbc (Ka Y (Ka Y (Kq Y Y (Kj Y Y Y (Kd (Km Y (fun g0 => Kn (Kb (Kt (Kb (kRegD (Ka Y (Ka Y (kIadR Y Y Y prl (Ky Y Y (Ks Y Y (Kp (ok_spec_RrOk _ prx) ⟨⟨⟨Y, Y, Y, Y, Y, Y, Y, trivial⟩, leb⟩, trivial⟩ Y Y Y Y Y (Kw Y Y (Ka Y (kGN Y (fun g1 => (by (simp [*] at g1))) (fun g1 => Ki Y (Ka Y (Ki Y (Ka Y (Ki Y (kIadR Y Y Y prl (Ki Y (kFadD Y (Ki Y (Ky Y Y (Ki Y (Ka Y (Ki Y (kIadR (m := 0) Y Y Y prl (Ki Y (kFadD Y (Ki Y (Ky Y Y (Ks Y Y (Ki Y (Kp (ok_spec_l2cmp _ _ prx prx) ⟨⟨⟨Y, trivial⟩, leb⟩, ⟨⟨Y, trivial⟩, leb⟩, trivial⟩ Y Y Y Y Y (Ki Y (Kj Y Y Y (Kl Y (Ka Y (Ka Y (kGIN Y (fun g2 => Kg Y (Kg Y (Kg Y (Kg Y (Kg Y (Kg Y (Kg Y (Kg Y (Kg Y (Kg Y (Kk Y (Ka Y (Ka Y (Kg Y (Kg Y (Kg Y (Kg Y (Kg Y (Kg Y (Kg Y (Kg Y (Kg Y (Kg Y (Kk Y (Ka Y (Ka Y (Kg Y (Kg Y (Kg Y (kGU Y (kGU Y (kGU Y (kGU Y (kGU Y (kGU Y (kGU Y (kGU Y (kGU Y (Ks Y Y (kGU Y (kGU Y (Kg Y (Kk Y (Ka Y (Kd (kH (kCondT Y (Kbc (Ka Y (Kd (Kr (Er (ra := [.one (.d _)]) rfl ?_)))))))))))))))))))))))))))))))))))))))))))))))))))) (fun g2 => Ki Y (Ka Y (Ki Y (Ka Y (Ki Y (kIadR Y Y Y prl (Ki Y (kFadD Y (Ki Y (Ky Y Y (Ki Y (Ka Y (Ki Y (kIadR (m := 0) Y Y Y prl (Ki Y (kFadD Y (Ki Y (Ky Y Y (Ki Y (Kj Y Y Y (Kl Y (Ka Y (Ka Y (kGIN Y (fun g3 => Kg Y (Kg Y (Kg Y (Kg Y (Kg Y (Kg Y (Kg Y (Kg Y (Kg Y (Kg Y (Kk Y (Ka Y (Ka Y (Kg Y (Kg Y (Kg Y (kGU Y (kGU Y (kGU Y (kGU Y (kGU Y (kGU Y (kGU Y (kGU Y (kGU Y (Ks Y Y (kGU Y (kGU Y (Kg Y (Kk Y (Ka Y (Kd (kH (kCondT Y (Kbc (Ka Y (Kd (Kr (Er (ra := [.one (.d _)]) rfl ?_))))))))))))))))))))))))))))))))))))))) (fun g3 => Ki Y (Ka Y (Ki Y (Ka Y (Ki Y (kIadR Y Y Y prl (Ki Y (kFadD Y (Ki Y (Ky Y Y (Ki Y (Ka Y (Ki Y (kIadR (m := 0) Y Y Y prl (Ki Y (kFadD Y (Ki Y (Ky Y Y (Ki Y (Kj Y Y Y (Kl Y (Ka Y (Ka Y (kGIN Y (fun g4 => Kg Y (Kg Y (Kg Y (kGU Y (kGU Y (kGU Y (kGU Y (kGU Y (kGU Y (kGU Y (kGU Y (kGU Y (Ks Y Y (kGU Y (kGU Y (Kg Y (Kk Y (Ka Y (Kd (kH (kCondT Y (Kbc (Ka Y (Kd (Kr (Er (ra := [.one (.d _)]) rfl ?_)))))))))))))))))))))))))) (fun g4 => Ki Y (Ka Y (Ki Y (Kj Y Y Y (Ki Y (Ka Y (kGP Y (fun g5 => Ki Y (Ka Y (Ki Y (Ka Y (Ki Y (kDif Y Y om (Ki Y (kIadT Y Y prl (Ki Y (Ky Y Y (Ki Y (Ka Y (Ki Y (Ka Y (Ki Y (kIadR Y Y Y prl (Ki Y (Ky Y Y (Ks Y Y (Ki Y (Kp (ok_spec_l3cmp _ _ prx prx prx prx) ⟨⟨⟨Y, Y, Y, Y, Y, Y, Y, trivial⟩, leb⟩, ⟨⟨Y, Y, Y, Y, Y, Y, Y, trivial⟩, leb⟩, trivial⟩ Y Y Y Y Y (Ki Y (Kj Y Y Y (Ki Y (Kk Y (Ka Y (Kl Y (Ka Y (Kd (kH (Km Y (fun g6 => Kbc (Ka Y (Kd (Kr (Er (ra := [.one (.d _)]) rfl ?_))))) (fun g6 => Kn (Kv (Kc (Ka Y (kAdd Y Y om (Ka Y (Kd ?_)))))))))))))))))))))))))))))))))))))) (fun g5 => Kg Y (Kg Y (Kg Y (Kg Y (Kg Y (Kg Y (Kg Y (Kg Y (Kg Y (Ks Y Y (Kg Y (Kg Y (Ki Y (Kl Y (Ka Y (Kl Y (Ka Y (Kd (kH (kCondF Y (Kn (Kv (Kc (Ka Y (kAdd Y Y om (Ka Y (Kd ?_))))))))))))))))))))))))))))))))))))))))))))))))))))))))))))))))))))))))))))))))))))))))))))))))))))))))))))))))))))))))))) (fun g0 => om))))))))
    all_goals first
      | (refine congrArg (fun z : Bool => [RA.one (RV.d (DV.sc (Value.bool z)))]) (set_no hlt (Bool.eq_false_iff.2 fun h => ?_)).symm
         rw [hq] at h
         simp only [Bool.and_eq_true, decide_eq_true_eq] at h
         obtain ⟨⟨⟨k1, k2⟩, k3⟩, k4⟩ := h
         first
           | (rw [prevB_pos (by omega) hlt (by omega), decide_eq_true_eq] at k4; omega)
           | (simp_all; done)
           | (simp_all; omega))
      | (have e1 : prevB l i = true := by
           first
             | (rw [prevB_pos (by omega) hlt (by omega)]; exact decide_eq_true (by omega))
             | (have : i = 0 := by omega
                subst this; exact prevB_zero)
         have hz' : setAt l i = true := by rw [hq, e1]; simp_all
         exact kInv ⟨⟨i + 1, by omega, all_take_succ _ hlt hr hk, range_all hz hz'⟩, by simp only; omega, .normA⟩)
  · refine Kb (Kbc (Ka Y (Ka Y (Kq Y Y (Kj Y Y Y (Kd (Km Y (fun g0 => om) (fun g0 => kExit (kExC (kExI (kExB (Kbc (Ka Y (Kd (Kr (Er (ra := [.one (.d _)]) rfl ?_))))))))))))))))
    obtain rfl : i = l.length := by omega
    rw [List.take_length] at hr
    rw [set_yes a2 a3 hr hz]

end Go.Proofs.YtmdmlncdjdphdaaGreat.FnTimesFn
