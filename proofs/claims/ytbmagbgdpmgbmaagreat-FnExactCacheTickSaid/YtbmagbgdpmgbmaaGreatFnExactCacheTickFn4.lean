/- What the functions that FnExactCacheTick reaches compute, one contract each; each with the bounds that it states. -/
import Derived.Test.YtbmagbgdpmgbmaaGreatFnExactCacheTickFn3
import Derived.Test.YtbmagbgdpmgbmaaGreatProg
import Derived.KernelRfl
set_option maxRecDepth 100000
set_option maxHeartbeats 8000000
set_option linter.unusedVariables false
set_option linter.unusedSimpArgs false
namespace Go.Proofs.YtbmagbgdpmgbmaaGreat.FnExactCacheTickFn
open Go Hearth Go.Proofs

def c_impl_CacheTick : C := (.seq (.reg false (.o 0 2 (.box 2 (.t 0)) (.o 1 4 (.alloc 4 [(.i 0), (.i 0), (.n 7)]) (.o 2 5 (.mov (.i 0)) .done)))) (.seq (.seq (.reg false (.o 0 7 (.load (some 3) (.t 2)) (.o 1 8 (.call 8 109 [(.t 7)]) (.o 2 9 (.un .not (.t 8)) (.o 3 10 (.mov (.t 9)) (.op 4 [] (some 11) (some (10, false)) false (.mov (.t 1)) (.op 5 [] (some 12) (some (10, false)) false (.fad (.t 2) 0) (.op 6 [] (some 13) (some (10, false)) false (.load none (.t 12)) (.op 7 [] (some 14) (some (10, false)) false (.call 14 147 [(.t 11), (.t 13), (.i 1000000)]) (.op 8 [] (some 15) (some (10, false)) false (.un .not (.t 14)) (.o 9 16 (.pick (.t 10) (.v (.bool true)) (.t 15)) .done))))))))))) (.cond (.t 16) (.seq (.reg false (.o 0 17 (.build [(.i 0), (.i 0), (.n 7)] []) (.op 1 [] none none false (.store (some 3) (.t 4) (.t 17)) (.o 2 5 (.mov (.i 0)) .done)))) .ret) .skip)) (.seq (.reg false (.o 0 18 (.load (some 3) (.t 2)) (.o 1 19 (.mov (.t 1)) (.o 2 20 (.call 20 148 [(.t 18), (.t 19)]) (.o 3 6 (.alloc 6 [(.i 0), (.i 0), (.n 7)]) (.op 4 [] none none false (.store (some 3) (.t 6) (.t 20)) .done)))))) (.seq (.reg true (.op 0 [] (some 21) none true (.load (some 3) (.t 6)) (.op 2 [] (some 23) none true (.fad (.t 2) 2) (.op 3 [] (some 24) none true (.load none (.t 23)) (.op 4 [] (some 25) none true (.len (.t 24)) (.op 5 [] (some 26) none true (.fad (.t 6) 2) (.op 6 [] (some 27) none true (.load none (.t 26)) (.op 7 [] (some 28) none true (.len (.t 27)) (.op 8 [] (some 29) none true (.bin .sub (.t 25) (.t 28)) (.op 1 [0] (some 22) none false (.call 22 149 [(.t 21)]) (.op 9 [0] none none false (.store (some 3) (.t 4) (.t 22)) (.op 10 [] (some 5) none true (.mov (.t 29)) .done)))))))))))) .ret))))
theorem dg_impl_CacheTick : Tryz.f53.body.bind (digC Tryz.prog Tryz.f53.ntmps []) = some c_impl_CacheTick := by kernel_rfl
theorem rs_impl_CacheTick : resSlots Tryz.prog Tryz.f53 = some [.m 4 (some 3), .s 5] := by kernel_rfl
theorem ok_impl_CacheTick (c : Cache) (now : Int) (hs : SmallSs c.slots) :
    FnOK Tryz.prog 53 [.agg (c.cells.map .d), .one (.d (.sc (.int .i64 now)))] (fun ra _ => ra = [.agg [.d (.sc (.int .i64 (tickN c now).now)), .d (.sc (.int .i64 (tickN c now).turn)), .own true (encS (tickN c now).slots)], .one (.d (.sc (.int .i64 (tickK c now))))]) := by
  refine FnOK.ofK Tryz.func53 (by kernel_rfl) dg_impl_CacheTick rs_impl_CacheTick rfl rfl ?_
  delta c_impl_CacheTick T.o X.i
  have h1 := hs.len
  have hm := hs.mem
  have ht : SmallSs (⟨now, c.turn, tickS c.slots now⟩ : Cache).slots := hs.filter _
  have ht2 : (tickS c.slots now).length ≤ c.slots.length := List.length_filter_le _ _
  by_cases hok : tickOk c now = true
  case neg =>
    rw [show tickN c now = zeroC by unfold tickN; rw [if_neg hok], show tickK c now = 0 by unfold tickK; rw [if_neg hok]]
    cases k1 : cacheOk c
    · refine kSeq (kReg (kBox rfl rfl rfl rfl rfl (kAlloc rfl rfl (kMovC rfl (kDone (kSeq (kSeq (kReg (kLoadP rfl rfl rfl (kCallD (ok_impl_CacheOk _ (by first | assumption | omega | solve_by_elim [List.getElem_mem] | (simp only [szOut] at *; omega) | exact rfl | exact leb | exact rrOk_small (by assumption) | exact zoneOk_small (by assumption) | exact SmallBB.ok (by assumption) | exact (SmallBB.ok (by assumption)).len | exact (SmallBB.ok (by assumption)).mem | exact SmallBB.bent (by assumption))) ⟨⟨⟨rfl, rfl, rfl, trivial⟩, leb⟩, trivial⟩ rfl rfl rfl rfl rfl (kUn rfl rfl (kMovC rfl (kGN rfl (fun g0 => kGF rfl (kMem [(12288, ⟨1, 0, .box [.d _, .d _, .d _]⟩)] [(2, .c (.ptr 12288 1 0)), (12, .c (.un)), (11, .c (.un)), (13, .c (.un)), (14, .c (.un)), (10, .c (.d _)), (15, .c (.un))] [] ⟨rfl, trivial⟩ ⟨rfl, rfl, rfl, rfl, rfl, rfl, rfl, trivial⟩ rfl (kGF rfl (kGF rfl (kGF rfl (kGF rfl (kPickT rfl (kMovC rfl (kDone (kCondT rfl (kSeq (kReg (kMem [(20480, ⟨1, 0, .box [.d _, .d _, .nil 7]⟩)] [(4, .c (.ptr 20480 1 0)), (17, .c (.un))] [] ⟨rfl, trivial⟩ ⟨rfl, rfl, trivial⟩ rfl (kBuildG rfl (kMem [(20480, ⟨1, 0, .box [.d _, .d _, .nil 7]⟩)] [(4, .c (.ptr 20480 1 0)), (17, .g [.d _, .d _, .nil 7])] [] ⟨rfl, trivial⟩ ⟨rfl, rfl, trivial⟩ rfl (kStoreP rfl rfl rfl rfl (kMovC rfl (kDone (kMem [(20480, ⟨1, 0, .box [.d _, .d _, .nil 7]⟩)] [(4, .c (.ptr 20480 1 0)), (5, .c (.d _))] [] ⟨rfl, trivial⟩ ⟨rfl, rfl, trivial⟩ rfl (kRet (endRetA (ra := [.agg [(.d _), (.d _), (.own true _)], .one (.d _)]) rfl rfl))))))))))))))))))))) (fun g0 => (by (simp [*] at g0))))))))))))))))
    have k2 : ¬ (c.now ≤ now ∧ now ≤ 1000000) := fun h => hok (by unfold tickOk; rw [k1, decide_eq_true h]; rfl)
    refine kSeq (kReg (kBox rfl rfl rfl rfl rfl (kAlloc rfl rfl (kMovC rfl (kDone (kSeq (kSeq (kReg (kLoadP rfl rfl rfl (kCallD (ok_impl_CacheOk _ (by first | assumption | omega | solve_by_elim [List.getElem_mem] | (simp only [szOut] at *; omega) | exact rfl | exact leb | exact rrOk_small (by assumption) | exact zoneOk_small (by assumption) | exact SmallBB.ok (by assumption) | exact (SmallBB.ok (by assumption)).len | exact (SmallBB.ok (by assumption)).mem | exact SmallBB.bent (by assumption))) ⟨⟨⟨rfl, rfl, rfl, trivial⟩, leb⟩, trivial⟩ rfl rfl rfl rfl rfl (kUn rfl rfl (kMovC rfl (kGN rfl (fun g0 => (by (simp [*] at g0))) (fun g0 => kGT rfl (kMovC rfl (kMem [(12288, ⟨1, 0, .box [.d _, .d _, .d _]⟩)] [(2, .c (.ptr 12288 1 0)), (12, .c (.un)), (11, .c (.d _)), (13, .c (.un)), (14, .c (.un)), (10, .c (.d _)), (15, .c (.un))] [] ⟨rfl, trivial⟩ ⟨rfl, rfl, rfl, rfl, rfl, rfl, rfl, trivial⟩ rfl (kGT rfl (kFadP rfl rfl (kGT rfl (kLoadP rfl rfl rfl (kGT rfl (kCallD (ok_impl_within _ _ _) ⟨rfl, rfl, rfl, trivial⟩ rfl rfl rfl rfl rfl (kGT rfl (kUn rfl rfl (kPickF rfl (kMovC rfl (kDone (kCondN rfl (fun g1 => kSeq (kReg (kMem [(20480, ⟨1, 0, .box [.d _, .d _, .nil 7]⟩)] [(4, .c (.ptr 20480 1 0)), (17, .c (.un))] [] ⟨rfl, trivial⟩ ⟨rfl, rfl, trivial⟩ rfl (kBuildG rfl (kMem [(20480, ⟨1, 0, .box [.d _, .d _, .nil 7]⟩)] [(4, .c (.ptr 20480 1 0)), (17, .g [.d _, .d _, .nil 7])] [] ⟨rfl, trivial⟩ ⟨rfl, rfl, trivial⟩ rfl (kStoreP rfl rfl rfl rfl (kMovC rfl (kDone (kMem [(20480, ⟨1, 0, .box [.d _, .d _, .nil 7]⟩)] [(4, .c (.ptr 20480 1 0)), (5, .c (.d _))] [] ⟨rfl, trivial⟩ ⟨rfl, rfl, trivial⟩ rfl (kRet (endRetA (ra := [.agg [(.d _), (.d _), (.own true _)], .one (.d _)]) rfl rfl))))))))))) (fun g1 => (by (simp [*] at g1)))))))))))))))))))))))))))))))
  rw [show tickN c now = ⟨now, c.turn, tickS c.slots now⟩ by unfold tickN; rw [if_pos hok], show tickK c now = (c.slots.length : Int) - (tickS c.slots now).length by unfold tickK; rw [if_pos hok]]
  unfold tickOk at hok
  simp only [Bool.and_eq_true, decide_eq_true_eq] at hok
  obtain ⟨k1, k2⟩ := hok
  refine kSeq (kReg (kBox rfl rfl rfl rfl rfl (kAlloc rfl rfl (kMovC rfl (kDone (kSeq (kSeq (kReg (kLoadP rfl rfl rfl (kCallD (ok_impl_CacheOk _ (by first | assumption | omega | solve_by_elim [List.getElem_mem] | (simp only [szOut] at *; omega) | exact rfl | exact leb | exact rrOk_small (by assumption) | exact zoneOk_small (by assumption) | exact SmallBB.ok (by assumption) | exact (SmallBB.ok (by assumption)).len | exact (SmallBB.ok (by assumption)).mem | exact SmallBB.bent (by assumption))) ⟨⟨⟨rfl, rfl, rfl, trivial⟩, leb⟩, trivial⟩ rfl rfl rfl rfl rfl (kUn rfl rfl (kMovC rfl (kGN rfl (fun g0 => (by (simp [*] at g0))) (fun g0 => kGT rfl (kMovC rfl (kMem [(12288, ⟨1, 0, .box [.d _, .d _, .d _]⟩)] [(2, .c (.ptr 12288 1 0)), (12, .c (.un)), (11, .c (.d _)), (13, .c (.un)), (14, .c (.un)), (10, .c (.d _)), (15, .c (.un))] [] ⟨rfl, trivial⟩ ⟨rfl, rfl, rfl, rfl, rfl, rfl, rfl, trivial⟩ rfl (kGT rfl (kFadP rfl rfl (kGT rfl (kLoadP rfl rfl rfl (kGT rfl (kCallD (ok_impl_within _ _ _) ⟨rfl, rfl, rfl, trivial⟩ rfl rfl rfl rfl rfl (kGT rfl (kUn rfl rfl (kPickF rfl (kMovC rfl (kDone (kCondN rfl (fun g1 => (by (simp [*] at g1))) (fun g1 => kSkip (kSeq (kReg (kLoadP rfl rfl rfl (kMovC rfl (kCallD2 (ok_impl_Cache_tick _ _ (by first | assumption | omega | solve_by_elim [List.getElem_mem] | (simp only [szOut] at *; omega) | exact rfl | exact leb | exact rrOk_small (by assumption) | exact zoneOk_small (by assumption) | exact SmallBB.ok (by assumption) | exact (SmallBB.ok (by assumption)).len | exact (SmallBB.ok (by assumption)).mem | exact SmallBB.bent (by assumption))) ⟨⟨⟨rfl, rfl, rfl, trivial⟩, leb⟩, rfl, trivial⟩ rfl rfl rfl rfl (kAlloc rfl rfl (kMem [(28672, ⟨1, 0, .box [.d _, .d _, .nil 7]⟩)] [(6, .c (.ptr 28672 1 0)), (20, .g [.d _, .d _, .d _])] [] ⟨rfl, trivial⟩ ⟨rfl, rfl, trivial⟩ rfl (kStoreP rfl rfl rfl rfl (kDone (kSeq (kRegD (kLoadP rfl rfl rfl (kFadP rfl rfl (kLoadP rfl rfl rfl (kLenR rfl rfl (kFadP rfl rfl (kLoadP rfl rfl rfl (kLenR rfl rfl (kMem [(20480, ⟨1, 0, .box [.d _, .d _, .nil 7]⟩)] [(25, .c (.d _)), (28, .c (.d _)), (21, .g [.d _, .d _, .d _]), (4, .c (.ptr 20480 1 0)), (22, .c (.un)), (29, .c (.un))] [28672, 12288, 28672] ⟨rfl, trivial⟩ ⟨rfl, rfl, rfl, rfl, rfl, rfl, trivial⟩ rfl (kDif rfl rfl (by omega) (kRelK rfl rfl ?_))))))))))))))))))))))))))))))))))))))))))))))))))
  refine kCall1 true (ok_impl_Cache_copied ⟨now, c.turn, tickS c.slots now⟩ ht) ⟨⟨⟨rfl, rfl, rfl, trivial⟩, leb⟩, trivial⟩ rfl rfl rfl (fun _ => ?_)
  refine kMem [(20480, ⟨1, 0, .box [.d _, .d _, .nil 7]⟩), (94210, ⟨1, 0, .arr true _⟩)] [(4, .c (.ptr 20480 1 0)), (22, .g [.d _, .d _, .arr 94210 1]), (29, .c (.d _))] [28672, 12288, 28672] ⟨rfl, rfl, trivial⟩ ⟨rfl, rfl, rfl, trivial⟩ rfl (kRelK rfl rfl (kStoreP rfl rfl rfl rfl (kMovC rfl (kDone (kH (kMem [(20480, ⟨1, 0, .box [.d _, .d _, .arr 94210 1]⟩), (94210, ⟨1, 0, .arr true _⟩)] [(4, .c (.ptr 20480 1 0)), (5, .c (.d _))] [] ⟨rfl, rfl, trivial⟩ ⟨rfl, rfl, trivial⟩ rfl (kRet (endRetA (ra := [.agg [(.d _), (.d _), (.own true _)], .one (.d _)]) rfl rfl))))))))

def c_laws_eqByteS : C := (.seq (.reg false (.o 0 4 (.mov (.v (.bool false))) .done)) (.seq (.seq (.reg false (.o 0 6 (.mov (.t 0)) (.o 1 7 (.len (.t 6)) (.o 2 8 (.mov (.t 1)) (.o 3 9 (.len (.t 8)) (.o 4 10 (.bin .neq (.t 7) (.t 9)) .done)))))) (.cond (.t 10) (.seq (.reg false (.o 0 4 (.mov (.v (.bool false))) .done)) .ret) .skip)) (.seq (.seq (.reg false (.o 0 5 (.mov (.i 0)) .done)) (.block 0 (.loop (.seq (.seq (.reg false (.o 0 11 (.mov (.t 5)) (.o 1 12 (.mov (.t 0)) (.o 2 13 (.len (.t 12)) (.o 3 14 (.bin .lss (.t 11) (.t 13)) .done))))) (.cond (.t 14) .skip (.exit 0))) (.seq (.block 1 (.seq (.reg true (.op 0 [] (some 17) none true (.mov (.t 0)) (.op 1 [] (some 18) none true (.mov (.t 5)) (.op 2 [] (some 19) none true (.iad 1 (.t 17) (.t 18)) (.op 3 [] (some 20) none true (.load none (.t 19)) (.op 4 [] (some 21) none true (.mov (.t 1)) (.op 5 [] (some 22) none true (.mov (.t 5)) (.op 6 [] (some 23) none true (.iad 1 (.t 21) (.t 22)) (.op 7 [] (some 24) none true (.load none (.t 23)) (.op 8 [] (some 25) none true (.bin .neq (.t 20) (.t 24)) .done)))))))))) (.cond (.t 25) (.seq (.reg false (.o 0 4 (.mov (.v (.bool false))) .done)) .ret) .skip))) (.reg false (.o 0 15 (.mov (.t 5)) (.o 1 16 (.bin .add (.t 15) (.i 1)) (.o 2 5 (.mov (.t 16)) .done))))))))) (.seq (.reg false (.o 0 4 (.mov (.v (.bool true))) .done)) .ret))))
theorem dg_laws_eqByteS : Tryz.f243.body.bind (digC Tryz.prog Tryz.f243.ntmps []) = some c_laws_eqByteS := by kernel_rfl
theorem rs_laws_eqByteS : resSlots Tryz.prog Tryz.f243 = some [.s 4] := by kernel_rfl
theorem ok_laws_eqByteS (a b : List UInt8) (ha : a.length ≤ 4194304) :
    FnOK Tryz.prog 243 [.one (.d (encB a)), .one (.d (encB b))] (fun ra _ => ra = [.one (.d (.sc (.bool (decide (a = b)))))]) := by
  refine FnOK.ofK Tryz.func243 (by kernel_rfl) dg_laws_eqByteS rs_laws_eqByteS rfl rfl ?_
  delta c_laws_eqByteS T.o X.i
  refine kSeq (kReg (kMovC rfl (kDone ?_)))
  refine kSeq (kSeq (kReg ?_))
  refine kMovC rfl (kLen rfl rfl rfl (kMovC rfl (kLen rfl rfl rfl (kBin rfl rfl rfl (kDone ?_)))))
  refine kCond rfl (fun h => ?_) (fun h => ?_)
  · refine kSeq (kReg (kMovC rfl (kDone (kRet ?_))))
    refine endRet (ra := [.one (.d _)]) rfl ⟨⟨⟨rfl, .inl rfl⟩, trivial⟩, .nil, trivial, trivial, trivial⟩ ?_
    have : a ≠ b := by rintro rfl; simp at h
    simp [this]
  refine kSkip (kSeq (kSeq (kReg (kMovC rfl (kDone ?_)))))
  have hl : a.length = b.length := by simp [len_encB] at h; omega
  refine kBlock ?_
  refine kLoop (α := { i : Nat // i ≤ a.length ∧ a.take i = b.take i })
    (fun y => ⟨tabSl [(0, .dv (encB a)), (1, .dv (encB b)), (5, .i y.1)], (St.init [.one (.d (encB a)), .one (.d (encB b))]).ob, []⟩) (fun y => a.length - y.1) ⟨0, by simp⟩ (.tab rfl ⟨.refl _, .refl _, .refl _, trivial⟩) ?_
  rintro ⟨i, hi, he⟩
  refine kSeq (kSeq (kReg ?_))
  refine kMovC rfl (kMovC rfl (kLen rfl rfl rfl (kBin rfl rfl rfl (kDone ?_))))
  refine kCond rfl (fun h1 => ?_) (fun h1 => ?_)
  · have hlt : i < a.length := by simp [len_encB] at h1; omega
    refine kSkip (kSeq (kBlock (kSeq (kRegD ?_))))
    refine kMovC rfl (kMovC rfl (kIadD rfl rfl rfl rfl ?_ ?_))
    · simp [len_encB]; omega
    rw [show (encB a).row (i : Int).toNat = _ from row_encB a i hlt]
    refine kLoadD rfl rfl ?_
    refine kMovC rfl (kMovC rfl (kIadD rfl rfl rfl rfl ?_ ?_))
    · simp [len_encB]; omega
    rw [show (encB b).row (i : Int).toNat = _ from row_encB b i (by omega)]
    refine kLoadD rfl rfl ?_
    refine kBin rfl rfl rfl (kDone (kH ?_))
    refine kCond rfl (fun h2 => ?_) (fun h2 => ?_)
    · refine kSeq (kReg (kMovC rfl (kDone (kRet ?_))))
      refine endRet (ra := [.one (.d _)]) rfl ⟨⟨⟨rfl, .inl rfl⟩, trivial⟩, .nil, trivial, trivial, trivial⟩ ?_
      have : a ≠ b := by rintro rfl; simp at h2
      simp [this]
    · refine kSkip (kBk (kReg (kMovC rfl (kAdd rfl rfl ?_ (kMovC rfl (kDone (kInv ?_)))))))
      · simp only; omega
      · have h3 : a[i] = b[i] := by
          simp at h2
          exact UInt8.toNat_inj.1 (by omega)
        refine ⟨⟨i + 1, hlt, ?_⟩, ?_, .tab rfl ⟨.refl _, .refl _, .refl _, trivial⟩⟩
        · rw [List.take_add_one, List.take_add_one, he, List.getElem?_eq_getElem hlt, List.getElem?_eq_getElem (by omega), h3]
        · simp only; omega
  · refine kExit (kExC (kExI (kExB ?_)))
    have hge : i = a.length := by simp [len_encB] at h1; omega
    refine kSeq (kReg (kMovC rfl (kDone (kRet ?_))))
    refine endRet (ra := [.one (.d _)]) rfl ⟨⟨⟨rfl, .inl rfl⟩, trivial⟩, .nil, trivial, trivial, trivial⟩ ?_
    have : a = b := by
      rw [hge, List.take_length] at he
      rw [he, hl, List.take_length]
    simp [this]

def c_laws_eqByteSS : C := (.seq (.reg false (.o 0 4 (.mov (.v (.bool false))) .done)) (.seq (.seq (.reg false (.o 0 6 (.mov (.t 0)) (.o 1 7 (.len (.t 6)) (.o 2 8 (.mov (.t 1)) (.o 3 9 (.len (.t 8)) (.o 4 10 (.bin .neq (.t 7) (.t 9)) .done)))))) (.cond (.t 10) (.seq (.reg false (.o 0 4 (.mov (.v (.bool false))) .done)) .ret) .skip)) (.seq (.seq (.reg false (.o 0 5 (.mov (.i 0)) .done)) (.block 0 (.loop (.seq (.seq (.reg false (.o 0 11 (.mov (.t 5)) (.o 1 12 (.mov (.t 0)) (.o 2 13 (.len (.t 12)) (.o 3 14 (.bin .lss (.t 11) (.t 13)) .done))))) (.cond (.t 14) .skip (.exit 0))) (.seq (.block 1 (.seq (.reg true (.op 0 [] (some 17) none true (.mov (.t 0)) (.op 1 [] (some 18) none true (.mov (.t 5)) (.op 2 [] (some 19) none true (.iad 1 (.t 17) (.t 18)) (.op 3 [] (some 20) none true (.load none (.t 19)) (.op 4 [] (some 21) none true (.mov (.t 1)) (.op 5 [] (some 22) none true (.mov (.t 5)) (.op 6 [] (some 23) none true (.iad 1 (.t 21) (.t 22)) (.op 7 [] (some 24) none true (.load none (.t 23)) (.op 8 [3, 7] (some 25) none false (.call 25 243 [(.t 20), (.t 24)]) (.op 9 [] (some 26) none true (.un .not (.t 25)) .done))))))))))) (.cond (.t 26) (.seq (.reg false (.o 0 4 (.mov (.v (.bool false))) .done)) .ret) .skip))) (.reg false (.o 0 15 (.mov (.t 5)) (.o 1 16 (.bin .add (.t 15) (.i 1)) (.o 2 5 (.mov (.t 16)) .done))))))))) (.seq (.reg false (.o 0 4 (.mov (.v (.bool true))) .done)) .ret))))
theorem dg_laws_eqByteSS : Tryz.f158.body.bind (digC Tryz.prog Tryz.f158.ntmps []) = some c_laws_eqByteSS := by kernel_rfl
theorem rs_laws_eqByteSS : resSlots Tryz.prog Tryz.f158 = some [.s 4] := by kernel_rfl
theorem ok_laws_eqByteSS (a b : List (List UInt8)) (ha : a.length ≤ 4194304) (ha2 : ∀ x ∈ a, x.length ≤ 4194304) :
    FnOK Tryz.prog 158 [.one (.d (encBB a)), .one (.d (encBB b))] (fun ra _ => ra = [.one (.d (.sc (.bool (decide (a = b)))))]) := by
  refine FnOK.ofK Tryz.func158 (by kernel_rfl) dg_laws_eqByteSS rs_laws_eqByteSS rfl rfl ?_
  delta c_laws_eqByteSS T.o X.i
  refine kSeq (kReg (kMovC rfl (kDone (kSeq (kSeq (kReg (kMovC rfl (kLenR rfl rfl (kMovC rfl (kLenR rfl rfl (kBin rfl rfl rfl (kDone (kCondN rfl (fun g0 => kSeq (kReg (kMovC rfl (kDone (kRet (endRetA (ra := [.one (.d _)]) rfl ?_)))))) (fun g0 => kSkip (kSeq (kSeq (kReg (kMovC rfl (kDone (kBlock ?_))))))))))))))))))))
  · rw [decide_eq_false (by rintro rfl; simp_all)]
  have hab : a.length = b.length := by simp at *; omega
  refine kLoop (α := { i : Nat // i ≤ a.length ∧ a.take i = b.take i })
    (fun y => ⟨tabSl [(0, .dv (encBB a)), (1, .dv (encBB b)), (5, .i y.1)], obTab 1 [], []⟩) (fun y => a.length - y.1) ⟨0, by simp⟩
    .normA ?_
  rintro ⟨i, hi, he⟩
  simp only
  refine kSeq (kSeq (kReg (kMovC rfl (kMovC rfl (kLenR rfl rfl (kBin rfl rfl rfl (kDone (kCondP rfl (fun g0 => kSkip (kSeq (kBlock (kSeq (kRegD (kMovC rfl (kMovC rfl (kIadR rfl rfl rfl (by omega) (kLoadD rfl rfl (kMovC rfl (kMovC rfl (kIadR rfl rfl rfl (by omega) (kLoadD rfl rfl (kRelF rfl rfl (kCallD (ok_laws_eqByteS _ _ (by first | assumption | omega | solve_by_elim [List.getElem_mem])) ⟨rfl, rfl, trivial⟩ rfl rfl rfl rfl rfl (kUn rfl rfl (kDone (kH (kCondN rfl (fun g1 => kSeq (kReg (kMovC rfl (kDone (kRet (endRetA (ra := [.one (.d _)]) rfl ?_)))))) (fun g1 => kSkip (kBk (kReg (kMovC rfl (kAdd rfl rfl (by omega) (kMovC rfl (kDone ?_)))))))))))))))))))))))))) (fun g0 => kExit (kExC (kExI (kExB (kSeq (kReg (kMovC rfl (kDone (kRet (endRetA (ra := [.one (.d _)]) rfl ?_))))))))))))))))))
  · rw [decide_eq_false]
    rintro rfl
    simp_all
  · refine kInv ⟨⟨i + 1, by omega, ?_⟩, by simp only; omega, .normA⟩
    rw [← List.take_append_getElem (by omega), ← List.take_append_getElem (by omega), he]
    simp_all
  · have hge : i = a.length := by omega
    rw [hge, List.take_length, hab, List.take_length] at he
    rw [he, decide_eq_true rfl]

def c_laws_eqName : C := (.seq (.reg false (.o 0 2 (.box 2 (.t 0)) (.o 1 3 (.box 3 (.t 1)) (.o 2 4 (.mov (.v (.bool false))) .done)))) (.seq (.seq (.reg false (.o 0 5 (.fad (.t 2) 0) (.o 1 6 (.load none (.t 5)) (.o 2 7 (.fad (.t 3) 0) (.o 3 8 (.load none (.t 7)) (.o 4 9 (.call 9 158 [(.t 6), (.t 8)]) (.o 5 10 (.un .not (.t 9)) .done))))))) (.cond (.t 10) (.seq (.reg false (.o 0 4 (.mov (.v (.bool false))) .done)) .ret) .skip)) (.seq (.reg false (.o 0 4 (.mov (.v (.bool true))) .done)) .ret)))
theorem dg_laws_eqName : Tryz.f60.body.bind (digC Tryz.prog Tryz.f60.ntmps []) = some c_laws_eqName := by kernel_rfl
theorem rs_laws_eqName : resSlots Tryz.prog Tryz.f60 = some [.s 4] := by kernel_rfl
theorem ok_laws_eqName (a b : List (List UInt8)) (ha : a.length ≤ 4194304) (ha2 : ∀ x ∈ a, x.length ≤ 4194304) :
    FnOK Tryz.prog 60 [.agg [.d (encBB a)], .agg [.d (encBB b)]] (fun ra _ => ra = [.one (.d (.sc (.bool (decide (a = b)))))]) := by
  refine FnOK.ofK Tryz.func60 (by kernel_rfl) dg_laws_eqName rs_laws_eqName rfl rfl ?_
  delta c_laws_eqName T.o X.i
  refine kSeq (kReg (kBox rfl rfl rfl rfl rfl (kBox rfl rfl rfl rfl rfl (kMovC rfl (kDone (kSeq (kSeq (kReg (kFadP rfl rfl (kLoadP rfl rfl rfl (kFadP rfl rfl (kLoadP rfl rfl rfl (kCallD (ok_laws_eqByteSS _ _ (by first | assumption | omega | solve_by_elim [List.getElem_mem]) (by first | assumption | omega | solve_by_elim [List.getElem_mem])) ⟨rfl, rfl, trivial⟩ rfl rfl rfl rfl rfl (kUn rfl rfl (kDone (kCondN rfl (fun g0 => kSeq (kReg (kMovC rfl (kDone (kRet (endRetA (ra := [.one (.d _)]) rfl ?_)))))) (fun g0 => kSkip (kSeq (kReg (kMovC rfl (kDone (kRet (endRetA (ra := [.one (.d _)]) rfl ?_)))))))))))))))))))))))
  all_goals simp_all

def c_laws_eqIntS : C := (.seq (.reg false (.o 0 4 (.mov (.v (.bool false))) .done)) (.seq (.seq (.reg false (.o 0 6 (.mov (.t 0)) (.o 1 7 (.len (.t 6)) (.o 2 8 (.mov (.t 1)) (.o 3 9 (.len (.t 8)) (.o 4 10 (.bin .neq (.t 7) (.t 9)) .done)))))) (.cond (.t 10) (.seq (.reg false (.o 0 4 (.mov (.v (.bool false))) .done)) .ret) .skip)) (.seq (.seq (.reg false (.o 0 5 (.mov (.i 0)) .done)) (.block 0 (.loop (.seq (.seq (.reg false (.o 0 11 (.mov (.t 5)) (.o 1 12 (.mov (.t 0)) (.o 2 13 (.len (.t 12)) (.o 3 14 (.bin .lss (.t 11) (.t 13)) .done))))) (.cond (.t 14) .skip (.exit 0))) (.seq (.block 1 (.seq (.reg true (.op 0 [] (some 17) none true (.mov (.t 0)) (.op 1 [] (some 18) none true (.mov (.t 5)) (.op 2 [] (some 19) none true (.iad 1 (.t 17) (.t 18)) (.op 3 [] (some 20) none true (.load none (.t 19)) (.op 4 [] (some 21) none true (.mov (.t 1)) (.op 5 [] (some 22) none true (.mov (.t 5)) (.op 6 [] (some 23) none true (.iad 1 (.t 21) (.t 22)) (.op 7 [] (some 24) none true (.load none (.t 23)) (.op 8 [] (some 25) none true (.bin .neq (.t 20) (.t 24)) .done)))))))))) (.cond (.t 25) (.seq (.reg false (.o 0 4 (.mov (.v (.bool false))) .done)) .ret) .skip))) (.reg false (.o 0 15 (.mov (.t 5)) (.o 1 16 (.bin .add (.t 15) (.i 1)) (.o 2 5 (.mov (.t 16)) .done))))))))) (.seq (.reg false (.o 0 4 (.mov (.v (.bool true))) .done)) .ret))))
theorem dg_laws_eqIntS : Tryz.f128.body.bind (digC Tryz.prog Tryz.f128.ntmps []) = some c_laws_eqIntS := by kernel_rfl
theorem rs_laws_eqIntS : resSlots Tryz.prog Tryz.f128 = some [.s 4] := by kernel_rfl
theorem ok_laws_eqIntS (a b : List Int) (ha : a.length ≤ 4194304) :
    FnOK Tryz.prog 128 [.one (.d (encI a)), .one (.d (encI b))] (fun ra _ => ra = [.one (.d (.sc (.bool (decide (a = b)))))]) := by
  refine FnOK.ofK Tryz.func128 (by kernel_rfl) dg_laws_eqIntS rs_laws_eqIntS rfl rfl ?_
  delta c_laws_eqIntS T.o X.i
  refine kSeq (kReg (kMovC rfl (kDone (kSeq (kSeq (kReg (kMovC rfl (kLenR rfl rfl (kMovC rfl (kLenR rfl rfl (kBin rfl rfl rfl (kDone (kCondIN rfl (fun g0 => kSeq (kReg (kMovC rfl (kDone (kRet (endRetA (ra := [.one (.d _)]) rfl ?_)))))) (fun g0 => kSkip (kSeq (kSeq (kReg (kMovC rfl (kDone (kBlock ?_))))))))))))))))))))
  · rw [decide_eq_false (by rintro rfl; simp_all)]
  have hab : a.length = b.length := by omega
  refine kLoop (α := { i : Nat // i ≤ a.length ∧ a.take i = b.take i })
    (fun y => ⟨tabSl [(0, .dv (encI a)), (1, .dv (encI b)), (5, .i y.1)], obTab 1 [], []⟩) (fun y => a.length - y.1) ⟨0, by simp⟩
    .normA ?_
  rintro ⟨i, hi, he⟩
  simp only
  refine kSeq (kSeq (kReg (kMovC rfl (kMovC rfl (kLenR rfl rfl (kBin rfl rfl rfl (kDone (kCondP rfl (fun g0 => kSkip (kSeq (kBlock (kSeq (kRegD (kMovC rfl (kMovC rfl (kIadR rfl rfl rfl (by omega) (kLoadD rfl rfl (kMovC rfl (kMovC rfl (kIadR rfl rfl rfl (by omega) (kLoadD rfl rfl (kBin rfl rfl rfl (kDone (kH (kCondIN rfl (fun g1 => kSeq (kReg (kMovC rfl (kDone (kRet (endRetA (ra := [.one (.d _)]) rfl ?_)))))) (fun g1 => kSkip (kBk (kReg (kMovC rfl (kAdd rfl rfl (by omega) (kMovC rfl (kDone ?_)))))))))))))))))))))))) (fun g0 => kExit (kExC (kExI (kExB (kSeq (kReg (kMovC rfl (kDone (kRet (endRetA (ra := [.one (.d _)]) rfl ?_))))))))))))))))))
  · rw [decide_eq_false]
    rintro rfl
    simp_all
  · refine kInv ⟨⟨i + 1, by omega, ?_⟩, by simp only; omega, .normA⟩
    rw [← List.take_append_getElem (by omega), ← List.take_append_getElem (by omega), he]
    simp_all
  · have hge : i = a.length := by omega
    rw [hge, List.take_length, hab, List.take_length] at he
    rw [he, decide_eq_true rfl]

def c_laws_eqRr : C := (.seq (.reg false (.o 0 2 (.box 2 (.t 0)) (.o 1 3 (.box 3 (.t 1)) (.o 2 4 (.mov (.v (.bool false))) .done)))) (.seq (.seq (.reg false (.o 0 5 (.fad (.t 2) 0) (.o 1 6 (.load (some 1) (.t 5)) (.o 2 7 (.fad (.t 3) 0) (.o 3 8 (.load (some 1) (.t 7)) (.o 4 9 (.call 9 60 [(.t 6), (.t 8)]) (.o 5 10 (.un .not (.t 9)) .done))))))) (.cond (.t 10) (.seq (.reg false (.o 0 4 (.mov (.v (.bool false))) .done)) .ret) .skip)) (.seq (.seq (.reg false (.o 0 11 (.fad (.t 2) 1) (.o 1 12 (.load none (.t 11)) (.o 2 13 (.fad (.t 3) 1) (.o 3 14 (.load none (.t 13)) (.o 4 15 (.bin .neq (.t 12) (.t 14)) .done)))))) (.cond (.t 15) (.seq (.reg false (.o 0 4 (.mov (.v (.bool false))) .done)) .ret) .skip)) (.seq (.seq (.reg false (.o 0 16 (.fad (.t 2) 2) (.o 1 17 (.load none (.t 16)) (.o 2 18 (.fad (.t 3) 2) (.o 3 19 (.load none (.t 18)) (.o 4 20 (.bin .neq (.t 17) (.t 19)) .done)))))) (.cond (.t 20) (.seq (.reg false (.o 0 4 (.mov (.v (.bool false))) .done)) .ret) .skip)) (.seq (.seq (.reg false (.o 0 21 (.fad (.t 2) 3) (.o 1 22 (.load none (.t 21)) (.o 2 23 (.fad (.t 3) 3) (.o 3 24 (.load none (.t 23)) (.o 4 25 (.bin .neq (.t 22) (.t 24)) .done)))))) (.cond (.t 25) (.seq (.reg false (.o 0 4 (.mov (.v (.bool false))) .done)) .ret) .skip)) (.seq (.seq (.reg false (.o 0 26 (.fad (.t 2) 4) (.o 1 27 (.load (some 1) (.t 26)) (.o 2 28 (.fad (.t 3) 4) (.o 3 29 (.load (some 1) (.t 28)) (.o 4 30 (.call 30 60 [(.t 27), (.t 29)]) (.o 5 31 (.un .not (.t 30)) .done))))))) (.cond (.t 31) (.seq (.reg false (.o 0 4 (.mov (.v (.bool false))) .done)) .ret) .skip)) (.seq (.seq (.reg false (.o 0 32 (.fad (.t 2) 5) (.o 1 33 (.load none (.t 32)) (.o 2 34 (.fad (.t 3) 5) (.o 3 35 (.load none (.t 34)) (.o 4 36 (.call 36 243 [(.t 33), (.t 35)]) (.o 5 37 (.un .not (.t 36)) .done))))))) (.cond (.t 37) (.seq (.reg false (.o 0 4 (.mov (.v (.bool false))) .done)) .ret) .skip)) (.seq (.seq (.reg false (.o 0 38 (.fad (.t 2) 6) (.o 1 39 (.load none (.t 38)) (.o 2 40 (.fad (.t 3) 6) (.o 3 41 (.load none (.t 40)) (.o 4 42 (.call 42 128 [(.t 39), (.t 41)]) (.o 5 43 (.un .not (.t 42)) .done))))))) (.cond (.t 43) (.seq (.reg false (.o 0 4 (.mov (.v (.bool false))) .done)) .ret) .skip)) (.seq (.reg false (.o 0 4 (.mov (.v (.bool true))) .done)) .ret)))))))))
theorem dg_laws_eqRr : Tryz.f157.body.bind (digC Tryz.prog Tryz.f157.ntmps []) = some c_laws_eqRr := by kernel_rfl
theorem rs_laws_eqRr : resSlots Tryz.prog Tryz.f157 = some [.s 4] := by kernel_rfl
theorem ok_laws_eqRr (a b : Rr) (hs : SmallR a) :
    FnOK Tryz.prog 157 [.agg (a.cells.map .d), .agg (b.cells.map .d)] (fun ra _ => ra = [.one (.d (.sc (.bool (decide (a = b)))))]) := by
  refine FnOK.ofK Tryz.func157 (by kernel_rfl) dg_laws_eqRr rs_laws_eqRr rfl rfl ?_
  delta c_laws_eqRr T.o X.i
  have n1 := hs.n.len
  have n2 := hs.n.mem
  have t1 := hs.t.len
  have t2 := hs.t.mem
  have x1 := hs.x
  have m1 := hs.m
  refine kSeq (kReg (kBox rfl rfl rfl rfl rfl (kBox rfl rfl rfl rfl rfl (kMovC rfl (kDone (kSeq (kSeq (kReg (kFadP rfl rfl (kLoadP rfl rfl rfl (kFadP rfl rfl (kLoadP rfl rfl rfl (kCallD (ok_laws_eqName _ _ pr pr) ⟨⟨⟨rfl, trivial⟩, leb⟩, ⟨⟨rfl, trivial⟩, leb⟩, trivial⟩ rfl rfl rfl rfl rfl (kUn rfl rfl (kDone (kCondN rfl (fun g0 => kSeq (kReg (kMovC rfl (kDone (kRet (endRetA (ra := [.one (.d _)]) rfl ?_)))))) (fun g0 => kSkip (kSeq (kSeq (kReg (kFadP rfl rfl (kLoadP rfl rfl rfl (kFadP rfl rfl (kLoadP rfl rfl rfl (kBin rfl rfl rfl (kDone (kCondIN rfl (fun g1 => kSeq (kReg (kMovC rfl (kDone (kRet (endRetA (ra := [.one (.d _)]) rfl ?_)))))) (fun g1 => kSkip (kSeq (kSeq (kReg (kFadP rfl rfl (kLoadP rfl rfl rfl (kFadP rfl rfl (kLoadP rfl rfl rfl (kBin rfl rfl rfl (kDone (kCondIN rfl (fun g2 => kSeq (kReg (kMovC rfl (kDone (kRet (endRetA (ra := [.one (.d _)]) rfl ?_)))))) (fun g2 => kSkip (kSeq (kSeq (kReg (kFadP rfl rfl (kLoadP rfl rfl rfl (kFadP rfl rfl (kLoadP rfl rfl rfl (kBin rfl rfl rfl (kDone (kCondIN rfl (fun g3 => kSeq (kReg (kMovC rfl (kDone (kRet (endRetA (ra := [.one (.d _)]) rfl ?_)))))) (fun g3 => kSkip (kSeq (kSeq (kReg (kFadP rfl rfl (kLoadP rfl rfl rfl (kFadP rfl rfl (kLoadP rfl rfl rfl (kCallD (ok_laws_eqName _ _ pr pr) ⟨⟨⟨rfl, trivial⟩, leb⟩, ⟨⟨rfl, trivial⟩, leb⟩, trivial⟩ rfl rfl rfl rfl rfl (kUn rfl rfl (kDone (kCondN rfl (fun g4 => kSeq (kReg (kMovC rfl (kDone (kRet (endRetA (ra := [.one (.d _)]) rfl ?_)))))) (fun g4 => kSkip (kSeq (kSeq (kReg (kFadP rfl rfl (kLoadP rfl rfl rfl (kFadP rfl rfl (kLoadP rfl rfl rfl (kCallD (ok_laws_eqByteS _ _ pr) ⟨rfl, rfl, trivial⟩ rfl rfl rfl rfl rfl (kUn rfl rfl (kDone (kCondN rfl (fun g5 => kSeq (kReg (kMovC rfl (kDone (kRet (endRetA (ra := [.one (.d _)]) rfl ?_)))))) (fun g5 => kSkip (kSeq (kSeq (kReg (kFadP rfl rfl (kLoadP rfl rfl rfl (kFadP rfl rfl (kLoadP rfl rfl rfl (kCallD (ok_laws_eqIntS _ _ pr) ⟨rfl, rfl, trivial⟩ rfl rfl rfl rfl rfl (kUn rfl rfl (kDone (kCondN rfl (fun g6 => kSeq (kReg (kMovC rfl (kDone (kRet (endRetA (ra := [.one (.d _)]) rfl ?_)))))) (fun g6 => kSkip (kSeq (kReg (kMovC rfl (kDone (kRet (endRetA (ra := [.one (.d _)]) rfl ?_))))))))))))))))))))))))))))))))))))))))))))))))))))))))))))))))))))))))))))))))))))))))))))
  all_goals (refine congrArg (fun z : Bool => [RA.one (RV.d (DV.sc (Value.bool z)))]) ?_; clear n1 n2 t1 t2 x1 m1 hs; cases a; cases b; simp_all)

def c_laws_eqRrS : C := (.seq (.reg false (.o 0 4 (.mov (.v (.bool false))) .done)) (.seq (.seq (.reg false (.o 0 6 (.mov (.t 0)) (.o 1 7 (.len (.t 6)) (.o 2 8 (.mov (.t 1)) (.o 3 9 (.len (.t 8)) (.o 4 10 (.bin .neq (.t 7) (.t 9)) .done)))))) (.cond (.t 10) (.seq (.reg false (.o 0 4 (.mov (.v (.bool false))) .done)) .ret) .skip)) (.seq (.seq (.reg false (.o 0 5 (.mov (.i 0)) .done)) (.block 0 (.loop (.seq (.seq (.reg false (.o 0 11 (.mov (.t 5)) (.o 1 12 (.mov (.t 0)) (.o 2 13 (.len (.t 12)) (.o 3 14 (.bin .lss (.t 11) (.t 13)) .done))))) (.cond (.t 14) .skip (.exit 0))) (.seq (.block 1 (.seq (.reg true (.op 0 [] (some 17) none true (.mov (.t 0)) (.op 1 [] (some 18) none true (.mov (.t 5)) (.op 2 [] (some 19) none true (.iad 7 (.t 17) (.t 18)) (.op 3 [] (some 20) none true (.load (some 7) (.t 19)) (.op 4 [] (some 21) none true (.mov (.t 1)) (.op 5 [] (some 22) none true (.mov (.t 5)) (.op 6 [] (some 23) none true (.iad 7 (.t 21) (.t 22)) (.op 7 [] (some 24) none true (.load (some 7) (.t 23)) (.op 8 [3, 7] (some 25) none false (.call 25 157 [(.t 20), (.t 24)]) (.op 9 [] (some 26) none true (.un .not (.t 25)) .done))))))))))) (.cond (.t 26) (.seq (.reg false (.o 0 4 (.mov (.v (.bool false))) .done)) .ret) .skip))) (.reg false (.o 0 15 (.mov (.t 5)) (.o 1 16 (.bin .add (.t 15) (.i 1)) (.o 2 5 (.mov (.t 16)) .done))))))))) (.seq (.reg false (.o 0 4 (.mov (.v (.bool true))) .done)) .ret))))
theorem dg_laws_eqRrS : Tryz.f59.body.bind (digC Tryz.prog Tryz.f59.ntmps []) = some c_laws_eqRrS := by kernel_rfl
theorem rs_laws_eqRrS : resSlots Tryz.prog Tryz.f59 = some [.s 4] := by kernel_rfl
theorem ok_laws_eqRrS (a b : List Rr) (hs : SmallRs a) :
    FnOK Tryz.prog 59 [.one (.d (encR a)), .one (.d (encR b))] (fun ra _ => ra = [.one (.d (.sc (.bool (decide (a = b)))))]) := by
  refine FnOK.ofK Tryz.func59 (by kernel_rfl) dg_laws_eqRrS rs_laws_eqRrS rfl rfl ?_
  delta c_laws_eqRrS T.o X.i
  have ha := hs.len
  refine kSeq (kReg (kMovC rfl (kDone (kSeq (kSeq (kReg (kMovC rfl (kLenR rfl rfl (kMovC rfl (kLenR rfl rfl (kBin rfl rfl rfl (kDone (kCondIN rfl (fun g0 => kSeq (kReg (kMovC rfl (kDone (kRet (endRetA (ra := [.one (.d _)]) rfl ?_)))))) (fun g0 => kSkip (kSeq (kSeq (kReg (kMovC rfl (kDone (kBlock ?_))))))))))))))))))))
  · rw [decide_eq_false (by rintro rfl; simp_all)]
  have hab : a.length = b.length := by omega
  refine kLoop (α := { i : Nat // i ≤ a.length ∧ a.take i = b.take i })
    (fun y => ⟨tabSl [(0, .dv (encR a)), (1, .dv (encR b)), (5, .i y.1)], obTab 1 [], []⟩) (fun y => a.length - y.1) ⟨0, by simp⟩
    .normA ?_
  rintro ⟨i, hi, he⟩
  simp only
  rcases Nat.lt_or_ge i a.length with hlt | hge
  · have hbi := hs.mem _ (List.getElem_mem hlt)
    refine kSeq (kSeq (kReg (kMovC rfl (kMovC rfl (kLenR rfl rfl (kBin rfl rfl rfl (kDone (kCondP rfl (fun g0 => kSkip (kSeq (kBlock (kSeq (kRegD (kMovC rfl (kMovC rfl (kIadR rfl rfl rfl (by omega) (kLoadD rfl rfl (kMovC rfl (kMovC rfl (kIadR rfl rfl rfl (by omega) (kLoadD rfl rfl (kRelF rfl rfl (kCallD (ok_laws_eqRr _ _ pr) ⟨⟨⟨rfl, rfl, rfl, rfl, rfl, rfl, rfl, trivial⟩, leb⟩, ⟨⟨rfl, rfl, rfl, rfl, rfl, rfl, rfl, trivial⟩, leb⟩, trivial⟩ rfl rfl rfl rfl rfl (kUn rfl rfl (kDone (kH (kCondN rfl (fun g1 => kSeq (kReg (kMovC rfl (kDone (kRet (endRetA (ra := [.one (.d _)]) rfl ?_)))))) (fun g1 => kSkip (kBk (kReg (kMovC rfl (kAdd rfl rfl (by omega) (kMovC rfl (kDone ?_)))))))))))))))))))))))))) (fun g0 => (by omega))))))))))
    · rw [decide_eq_false]
      rintro rfl
      simp_all
    · refine kInv ⟨⟨i + 1, by omega, ?_⟩, by simp only; omega, .normA⟩
      rw [← List.take_append_getElem (by omega), ← List.take_append_getElem (by omega), he]
      simp_all
  · refine kSeq (kSeq (kReg (kMovC rfl (kMovC rfl (kLenR rfl rfl (kBin rfl rfl rfl (kDone (kCondP rfl (fun g0 => (by omega)) (fun g0 => kExit (kExC (kExI (kExB (kSeq (kReg (kMovC rfl (kDone (kRet (endRetA (ra := [.one (.d _)]) rfl ?_))))))))))))))))))
    have hge : i = a.length := by omega
    rw [hge, List.take_length, hab, List.take_length] at he
    rw [he, decide_eq_true rfl]

def c_laws_eqSlot : C := (.seq (.reg false (.o 0 2 (.box 2 (.t 0)) (.o 1 3 (.box 3 (.t 1)) (.o 2 4 (.mov (.v (.bool false))) .done)))) (.seq (.seq (.reg false (.o 0 5 (.fad (.t 2) 0) (.o 1 6 (.load (some 1) (.t 5)) (.o 2 7 (.fad (.t 3) 0) (.o 3 8 (.load (some 1) (.t 7)) (.o 4 9 (.call 9 60 [(.t 6), (.t 8)]) (.o 5 10 (.un .not (.t 9)) .done))))))) (.cond (.t 10) (.seq (.reg false (.o 0 4 (.mov (.v (.bool false))) .done)) .ret) .skip)) (.seq (.seq (.reg false (.o 0 11 (.fad (.t 2) 1) (.o 1 12 (.load none (.t 11)) (.o 2 13 (.fad (.t 3) 1) (.o 3 14 (.load none (.t 13)) (.o 4 15 (.bin .neq (.t 12) (.t 14)) .done)))))) (.cond (.t 15) (.seq (.reg false (.o 0 4 (.mov (.v (.bool false))) .done)) .ret) .skip)) (.seq (.seq (.reg false (.o 0 16 (.fad (.t 2) 2) (.o 1 17 (.load none (.t 16)) (.o 2 18 (.fad (.t 3) 2) (.o 3 19 (.load none (.t 18)) (.o 4 20 (.bin .neq (.t 17) (.t 19)) .done)))))) (.cond (.t 20) (.seq (.reg false (.o 0 4 (.mov (.v (.bool false))) .done)) .ret) .skip)) (.seq (.seq (.reg false (.o 0 21 (.fad (.t 2) 3) (.o 1 22 (.load none (.t 21)) (.o 2 23 (.fad (.t 3) 3) (.o 3 24 (.load none (.t 23)) (.o 4 25 (.call 25 59 [(.t 22), (.t 24)]) (.o 5 26 (.un .not (.t 25)) .done))))))) (.cond (.t 26) (.seq (.reg false (.o 0 4 (.mov (.v (.bool false))) .done)) .ret) .skip)) (.seq (.seq (.reg false (.o 0 27 (.fad (.t 2) 4) (.o 1 28 (.load none (.t 27)) (.o 2 29 (.fad (.t 3) 4) (.o 3 30 (.load none (.t 29)) (.o 4 31 (.bin .neq (.t 28) (.t 30)) .done)))))) (.cond (.t 31) (.seq (.reg false (.o 0 4 (.mov (.v (.bool false))) .done)) .ret) .skip)) (.seq (.seq (.reg false (.o 0 32 (.fad (.t 2) 5) (.o 1 33 (.load none (.t 32)) (.o 2 34 (.fad (.t 3) 5) (.o 3 35 (.load none (.t 34)) (.o 4 36 (.bin .neq (.t 33) (.t 35)) .done)))))) (.cond (.t 36) (.seq (.reg false (.o 0 4 (.mov (.v (.bool false))) .done)) .ret) .skip)) (.seq (.seq (.reg false (.o 0 37 (.fad (.t 2) 6) (.o 1 38 (.load none (.t 37)) (.o 2 39 (.fad (.t 3) 6) (.o 3 40 (.load none (.t 39)) (.o 4 41 (.bin .neq (.t 38) (.t 40)) .done)))))) (.cond (.t 41) (.seq (.reg false (.o 0 4 (.mov (.v (.bool false))) .done)) .ret) .skip)) (.seq (.reg false (.o 0 4 (.mov (.v (.bool true))) .done)) .ret)))))))))
theorem dg_laws_eqSlot : Tryz.f223.body.bind (digC Tryz.prog Tryz.f223.ntmps []) = some c_laws_eqSlot := by kernel_rfl
theorem rs_laws_eqSlot : resSlots Tryz.prog Tryz.f223 = some [.s 4] := by kernel_rfl
theorem ok_laws_eqSlot (a b : Slot) (hs : SmallS a) :
    FnOK Tryz.prog 223 [.agg (a.cells.map .d), .agg (b.cells.map .d)] (fun ra _ => ra = [.one (.d (.sc (.bool (decide (a = b)))))]) := by
  refine FnOK.ofK Tryz.func223 (by kernel_rfl) dg_laws_eqSlot rs_laws_eqSlot rfl rfl ?_
  delta c_laws_eqSlot T.o X.i
  have n1 := hs.n.len
  have n2 := hs.n.mem
  have r1 := hs.r
  refine kSeq (kReg (kBox rfl rfl rfl rfl rfl (kBox rfl rfl rfl rfl rfl (kMovC rfl (kDone (kSeq (kSeq (kReg (kFadP rfl rfl (kLoadP rfl rfl rfl (kFadP rfl rfl (kLoadP rfl rfl rfl (kCallD (ok_laws_eqName _ _ (by first | assumption | omega | solve_by_elim [List.getElem_mem] | (simp only [szOut] at *; omega) | exact rfl | exact leb | exact rrOk_small (by assumption) | exact zoneOk_small (by assumption) | exact SmallBB.ok (by assumption) | exact (SmallBB.ok (by assumption)).len | exact (SmallBB.ok (by assumption)).mem | exact SmallBB.bent (by assumption)) (by first | assumption | omega | solve_by_elim [List.getElem_mem] | (simp only [szOut] at *; omega) | exact rfl | exact leb | exact rrOk_small (by assumption) | exact zoneOk_small (by assumption) | exact SmallBB.ok (by assumption) | exact (SmallBB.ok (by assumption)).len | exact (SmallBB.ok (by assumption)).mem | exact SmallBB.bent (by assumption))) ⟨⟨⟨rfl, trivial⟩, leb⟩, ⟨⟨rfl, trivial⟩, leb⟩, trivial⟩ rfl rfl rfl rfl rfl (kUn rfl rfl (kDone (kCondN rfl (fun g0 => kSeq (kReg (kMovC rfl (kDone (kRet (endRetA (ra := [.one (.d _)]) rfl ?_)))))) (fun g0 => kSkip (kSeq (kSeq (kReg (kMem [(12288, ⟨1, 0, .box [.d _, .d _, .d _, .d _, .d _, .d _, .d _]⟩), (16384, ⟨1, 0, .box [.d _, .d _, .d _, .d _, .d _, .d _, .d _]⟩)] [(2, .c (.ptr 12288 1 0)), (11, .c (.un)), (3, .c (.ptr 16384 1 0)), (13, .c (.un)), (12, .c (.un)), (14, .c (.un))] [] ⟨rfl, rfl, trivial⟩ ⟨rfl, rfl, rfl, rfl, rfl, rfl, trivial⟩ rfl (kFadP rfl rfl (kLoadP rfl rfl rfl (kFadP rfl rfl (kLoadP rfl rfl rfl (kBin rfl rfl rfl (kDone (kCondIN rfl (fun g1 => kSeq (kReg (kMovC rfl (kDone (kRet (endRetA (ra := [.one (.d _)]) rfl ?_)))))) (fun g1 => kSkip (kSeq (kSeq (kReg (kFadP rfl rfl (kLoadP rfl rfl rfl (kFadP rfl rfl (kLoadP rfl rfl rfl (kBin rfl rfl rfl (kDone (kCondIN rfl (fun g2 => kSeq (kReg (kMovC rfl (kDone (kRet (endRetA (ra := [.one (.d _)]) rfl ?_)))))) (fun g2 => kSkip (kSeq (kSeq (kReg (kMem [(12288, ⟨1, 0, .box [.d _, .d _, .d _, .d _, .d _, .d _, .d _]⟩), (16384, ⟨1, 0, .box [.d _, .d _, .d _, .d _, .d _, .d _, .d _]⟩)] [(2, .c (.ptr 12288 1 0)), (21, .c (.un)), (3, .c (.ptr 16384 1 0)), (23, .c (.un)), (22, .c (.un)), (24, .c (.un)), (25, .c (.un))] [] ⟨rfl, rfl, trivial⟩ ⟨rfl, rfl, rfl, rfl, rfl, rfl, rfl, trivial⟩ rfl (kFadP rfl rfl (kLoadP rfl rfl rfl (kFadP rfl rfl (kLoadP rfl rfl rfl (kCallD (ok_laws_eqRrS _ _ (by first | assumption | omega | solve_by_elim [List.getElem_mem] | (simp only [szOut] at *; omega) | exact rfl | exact leb | exact rrOk_small (by assumption) | exact zoneOk_small (by assumption) | exact SmallBB.ok (by assumption) | exact (SmallBB.ok (by assumption)).len | exact (SmallBB.ok (by assumption)).mem | exact SmallBB.bent (by assumption))) ⟨rfl, rfl, trivial⟩ rfl rfl rfl rfl rfl (kUn rfl rfl (kDone (kCondN rfl (fun g3 => kSeq (kReg (kMovC rfl (kDone (kRet (endRetA (ra := [.one (.d _)]) rfl ?_)))))) (fun g3 => kSkip (kSeq (kSeq (kReg (kFadP rfl rfl (kLoadP rfl rfl rfl (kFadP rfl rfl (kMem [(16384, ⟨1, 0, .box [.d _, .d _, .d _, .d _, .d _, .d _, .d _]⟩)] [(29, .c (.ptr 16384 1 4)), (28, .c (.d _)), (30, .c (.un))] [] ⟨rfl, trivial⟩ ⟨rfl, rfl, rfl, trivial⟩ rfl (kLoadP rfl rfl rfl (kBin rfl rfl rfl (kDone (kCondIN rfl (fun g4 => kSeq (kReg (kMovC rfl (kDone (kRet (endRetA (ra := [.one (.d _)]) rfl ?_)))))) (fun g4 => kSkip (kSeq (kSeq (kReg (kFadP rfl rfl (kLoadP rfl rfl rfl (kFadP rfl rfl (kLoadP rfl rfl rfl (kBin rfl rfl rfl (kDone (kCondIN rfl (fun g5 => kSeq (kReg (kMovC rfl (kDone (kRet (endRetA (ra := [.one (.d _)]) rfl ?_)))))) (fun g5 => kSkip (kSeq (kSeq (kReg (kFadP rfl rfl (kLoadP rfl rfl rfl (kMem [(16384, ⟨1, 0, .box [.d _, .d _, .d _, .d _, .d _, .d _, .d _]⟩)] [(3, .c (.ptr 16384 1 0)), (39, .c (.un)), (38, .c (.d _)), (40, .c (.un))] [] ⟨rfl, trivial⟩ ⟨rfl, rfl, rfl, rfl, trivial⟩ rfl (kFadP rfl rfl (kLoadP rfl rfl rfl (kBin rfl rfl rfl (kDone (kCondIN rfl (fun g6 => kSeq (kReg (kMovC rfl (kDone (kRet (endRetA (ra := [.one (.d _)]) rfl ?_)))))) (fun g6 => kSkip (kSeq (kReg (kMovC rfl (kDone (kRet (endRetA (ra := [.one (.d _)]) rfl ?_))))))))))))))))))))))))))))))))))))))))))))))))))))))))))))))))))))))))))))))))))))))))))))))
  all_goals (refine congrArg (fun z : Bool => [RA.one (RV.d (DV.sc (Value.bool z)))]) ?_; clear n1 n2 r1 hs; cases a; cases b; simp_all)

def c_laws_eqSlotS : C := (.seq (.reg false (.o 0 4 (.mov (.v (.bool false))) .done)) (.seq (.seq (.reg false (.o 0 6 (.mov (.t 0)) (.o 1 7 (.len (.t 6)) (.o 2 8 (.mov (.t 1)) (.o 3 9 (.len (.t 8)) (.o 4 10 (.bin .neq (.t 7) (.t 9)) .done)))))) (.cond (.t 10) (.seq (.reg false (.o 0 4 (.mov (.v (.bool false))) .done)) .ret) .skip)) (.seq (.seq (.reg false (.o 0 5 (.mov (.i 0)) .done)) (.block 0 (.loop (.seq (.seq (.reg false (.o 0 11 (.mov (.t 5)) (.o 1 12 (.mov (.t 0)) (.o 2 13 (.len (.t 12)) (.o 3 14 (.bin .lss (.t 11) (.t 13)) .done))))) (.cond (.t 14) .skip (.exit 0))) (.seq (.block 1 (.seq (.reg true (.op 0 [] (some 17) none true (.mov (.t 0)) (.op 1 [] (some 18) none true (.mov (.t 5)) (.op 2 [] (some 19) none true (.iad 7 (.t 17) (.t 18)) (.op 3 [] (some 20) none true (.load (some 7) (.t 19)) (.op 4 [] (some 21) none true (.mov (.t 1)) (.op 5 [] (some 22) none true (.mov (.t 5)) (.op 6 [] (some 23) none true (.iad 7 (.t 21) (.t 22)) (.op 7 [] (some 24) none true (.load (some 7) (.t 23)) (.op 8 [3, 7] (some 25) none false (.call 25 223 [(.t 20), (.t 24)]) (.op 9 [] (some 26) none true (.un .not (.t 25)) .done))))))))))) (.cond (.t 26) (.seq (.reg false (.o 0 4 (.mov (.v (.bool false))) .done)) .ret) .skip))) (.reg false (.o 0 15 (.mov (.t 5)) (.o 1 16 (.bin .add (.t 15) (.i 1)) (.o 2 5 (.mov (.t 16)) .done))))))))) (.seq (.reg false (.o 0 4 (.mov (.v (.bool true))) .done)) .ret))))
theorem dg_laws_eqSlotS : Tryz.f111.body.bind (digC Tryz.prog Tryz.f111.ntmps []) = some c_laws_eqSlotS := by kernel_rfl
theorem rs_laws_eqSlotS : resSlots Tryz.prog Tryz.f111 = some [.s 4] := by kernel_rfl
theorem ok_laws_eqSlotS (a b : List Slot) (hs : SmallSs a) :
    FnOK Tryz.prog 111 [.one (.d (encS a)), .one (.d (encS b))] (fun ra _ => ra = [.one (.d (.sc (.bool (decide (a = b)))))]) := by
  refine FnOK.ofK Tryz.func111 (by kernel_rfl) dg_laws_eqSlotS rs_laws_eqSlotS rfl rfl ?_
  delta c_laws_eqSlotS T.o X.i
  have ha := hs.len
  refine kSeq (kReg (kMovC rfl (kDone (kSeq (kSeq (kReg (kMovC rfl (kLenR rfl rfl (kMovC rfl (kLenR rfl rfl (kBin rfl rfl rfl (kDone (kCondIN rfl (fun g0 => kSeq (kReg (kMovC rfl (kDone (kRet (endRetA (ra := [.one (.d _)]) rfl ?_)))))) (fun g0 => kSkip (kSeq (kSeq (kReg (kMovC rfl (kDone (kBlock ?_))))))))))))))))))))
  · rw [decide_eq_false (by rintro rfl; simp_all)]
  have hab : a.length = b.length := by omega
  refine kLoop (α := { i : Nat // i ≤ a.length ∧ a.take i = b.take i })
    (fun y => ⟨tabSl [(0, .dv (encS a)), (1, .dv (encS b)), (5, .i y.1)], obTab 1 [], []⟩) (fun y => a.length - y.1) ⟨0, by simp⟩
    .normA ?_
  rintro ⟨i, hi, he⟩
  simp only
  rcases Nat.lt_or_ge i a.length with hlt | hge
  · have hbi := hs.mem _ (List.getElem_mem hlt)
    have n1 := hbi.n.len
    have n2 := hbi.n.mem
    have r1 := hbi.r
    refine kSeq (kSeq (kReg (kMovC rfl (kMovC rfl (kLenR rfl rfl (kBin rfl rfl rfl (kDone (kCondP rfl (fun g0 => kSkip (kSeq (kBlock (kSeq (kRegD (kMovC rfl (kMovC rfl (kIadR rfl rfl rfl (by first | omega | (simp only [List.length_append, List.length_cons, List.length_nil]; omega)) (kLoadD rfl rfl (kMovC rfl (kMovC rfl (kIadR rfl rfl rfl (by first | omega | (simp only [List.length_append, List.length_cons, List.length_nil]; omega)) (kLoadD rfl rfl (kRelF rfl rfl (kCallD (ok_laws_eqSlot _ _ (by first | assumption | omega | solve_by_elim [List.getElem_mem] | (simp only [szOut] at *; omega) | exact rfl | exact leb | exact rrOk_small (by assumption) | exact zoneOk_small (by assumption) | exact SmallBB.ok (by assumption) | exact (SmallBB.ok (by assumption)).len | exact (SmallBB.ok (by assumption)).mem | exact SmallBB.bent (by assumption))) ⟨⟨⟨rfl, rfl, rfl, rfl, rfl, rfl, rfl, trivial⟩, leb⟩, ⟨⟨rfl, rfl, rfl, rfl, rfl, rfl, rfl, trivial⟩, leb⟩, trivial⟩ rfl rfl rfl rfl rfl (kUn rfl rfl (kDone (kH (kCondN rfl (fun g1 => kSeq (kReg (kMovC rfl (kDone (kRet (endRetA (ra := [.one (.d _)]) rfl ?_)))))) (fun g1 => kSkip (kBk (kReg (kMovC rfl (kAdd rfl rfl (by omega) (kMovC rfl (kDone ?_)))))))))))))))))))))))))) (fun g0 => (by omega))))))))))
    · rw [decide_eq_false]
      rintro rfl
      simp_all
    · refine kInv ⟨⟨i + 1, by omega, ?_⟩, by simp only; omega, .normA⟩
      rw [← List.take_append_getElem (by omega), ← List.take_append_getElem (by omega), he]
      simp_all
  · refine kSeq (kSeq (kReg (kMovC rfl (kMovC rfl (kLenR rfl rfl (kBin rfl rfl rfl (kDone (kCondP rfl (fun g0 => (by omega)) (fun g0 => kExit (kExC (kExI (kExB (kSeq (kReg (kMovC rfl (kDone (kRet (endRetA (ra := [.one (.d _)]) rfl ?_))))))))))))))))))
    have hge : i = a.length := by omega
    rw [hge, List.take_length, hab, List.take_length] at he
    rw [he, decide_eq_true rfl]

def c_laws_eqCache : C := (.seq (.reg false (.o 0 2 (.box 2 (.t 0)) (.o 1 3 (.box 3 (.t 1)) (.o 2 4 (.mov (.v (.bool false))) .done)))) (.seq (.seq (.reg false (.o 0 5 (.fad (.t 2) 0) (.o 1 6 (.load none (.t 5)) (.o 2 7 (.fad (.t 3) 0) (.o 3 8 (.load none (.t 7)) (.o 4 9 (.bin .neq (.t 6) (.t 8)) .done)))))) (.cond (.t 9) (.seq (.reg false (.o 0 4 (.mov (.v (.bool false))) .done)) .ret) .skip)) (.seq (.seq (.reg false (.o 0 10 (.fad (.t 2) 1) (.o 1 11 (.load none (.t 10)) (.o 2 12 (.fad (.t 3) 1) (.o 3 13 (.load none (.t 12)) (.o 4 14 (.bin .neq (.t 11) (.t 13)) .done)))))) (.cond (.t 14) (.seq (.reg false (.o 0 4 (.mov (.v (.bool false))) .done)) .ret) .skip)) (.seq (.seq (.reg false (.o 0 15 (.fad (.t 2) 2) (.o 1 16 (.load none (.t 15)) (.o 2 17 (.fad (.t 3) 2) (.o 3 18 (.load none (.t 17)) (.o 4 19 (.call 19 111 [(.t 16), (.t 18)]) (.o 5 20 (.un .not (.t 19)) .done))))))) (.cond (.t 20) (.seq (.reg false (.o 0 4 (.mov (.v (.bool false))) .done)) .ret) .skip)) (.seq (.reg false (.o 0 4 (.mov (.v (.bool true))) .done)) .ret)))))
theorem dg_laws_eqCache : Tryz.f36.body.bind (digC Tryz.prog Tryz.f36.ntmps []) = some c_laws_eqCache := by kernel_rfl
theorem rs_laws_eqCache : resSlots Tryz.prog Tryz.f36 = some [.s 4] := by kernel_rfl
theorem ok_laws_eqCache (a b : Cache) (hs : SmallSs a.slots) :
    FnOK Tryz.prog 36 [.agg (a.cells.map .d), .agg (b.cells.map .d)] (fun ra _ => ra = [.one (.d (.sc (.bool (decide (a = b)))))]) := by
  refine FnOK.ofK Tryz.func36 (by kernel_rfl) dg_laws_eqCache rs_laws_eqCache rfl rfl ?_
  delta c_laws_eqCache T.o X.i
  refine kSeq (kReg (kBox rfl rfl rfl rfl rfl (kBox rfl rfl rfl rfl rfl (kMovC rfl (kDone (kSeq (kSeq (kReg (kFadP rfl rfl (kLoadP rfl rfl rfl (kFadP rfl rfl (kLoadP rfl rfl rfl (kBin rfl rfl rfl (kDone (kCondIN rfl (fun g0 => kSeq (kReg (kMovC rfl (kDone (kRet (endRetA (ra := [.one (.d _)]) rfl ?_)))))) (fun g0 => kSkip (kSeq (kSeq (kReg (kMem [(12288, ⟨1, 0, .box [.d _, .d _, .d _]⟩), (16384, ⟨1, 0, .box [.d _, .d _, .d _]⟩)] [(2, .c (.ptr 12288 1 0)), (10, .c (.un)), (3, .c (.ptr 16384 1 0)), (12, .c (.un)), (11, .c (.un)), (13, .c (.un))] [] ⟨rfl, rfl, trivial⟩ ⟨rfl, rfl, rfl, rfl, rfl, rfl, trivial⟩ rfl (kFadP rfl rfl (kLoadP rfl rfl rfl (kFadP rfl rfl (kLoadP rfl rfl rfl (kBin rfl rfl rfl (kDone (kCondIN rfl (fun g1 => kSeq (kReg (kMovC rfl (kDone (kRet (endRetA (ra := [.one (.d _)]) rfl ?_)))))) (fun g1 => kSkip (kSeq (kSeq (kReg (kFadP rfl rfl (kLoadP rfl rfl rfl (kFadP rfl rfl (kLoadP rfl rfl rfl (kCallD (ok_laws_eqSlotS _ _ (by first | assumption | omega | solve_by_elim [List.getElem_mem] | (simp only [szOut] at *; omega) | exact rfl | exact leb | exact rrOk_small (by assumption) | exact zoneOk_small (by assumption) | exact SmallBB.ok (by assumption) | exact (SmallBB.ok (by assumption)).len | exact (SmallBB.ok (by assumption)).mem | exact SmallBB.bent (by assumption))) ⟨rfl, rfl, trivial⟩ rfl rfl rfl rfl rfl (kUn rfl rfl (kDone (kCondN rfl (fun g2 => kSeq (kReg (kMovC rfl (kDone (kRet (endRetA (ra := [.one (.d _)]) rfl ?_)))))) (fun g2 => kSkip (kSeq (kReg (kMovC rfl (kDone (kRet (endRetA (ra := [.one (.d _)]) rfl ?_))))))))))))))))))))))))))))))))))))))))))))))
  all_goals (refine congrArg (fun z : Bool => [RA.one (RV.d (DV.sc (Value.bool z)))]) ?_; clear hs; cases a; cases b; simp_all)

def c_laws_markByteS : C := (.seq (.reg false (.o 0 4 (.mov (.i 0)) .done)) (.seq (.seq (.reg false (.o 0 5 (.mov (.i 0)) .done)) (.block 0 (.loop (.seq (.seq (.reg false (.o 0 6 (.mov (.t 5)) (.o 1 7 (.mov (.t 0)) (.o 2 8 (.len (.t 7)) (.o 3 9 (.bin .lss (.t 6) (.t 8)) .done))))) (.cond (.t 9) .skip (.exit 0))) (.seq (.block 1 (.seq (.reg false (.o 0 12 (.mov (.t 0)) (.o 1 13 (.mov (.t 5)) (.o 2 14 (.mov (.t 1)) (.o 3 15 (.conv .u8 (.t 14)) (.o 4 16 (.iad 1 (.t 12) (.t 13)) (.op 5 [] none none false (.store none (.t 16) (.t 15)) .done))))))) (.reg false (.o 0 17 (.mov (.t 1)) (.o 1 18 (.bin .add (.t 17) (.i 1)) (.o 2 1 (.mov (.t 18)) .done)))))) (.reg false (.o 0 10 (.mov (.t 5)) (.o 1 11 (.bin .add (.t 10) (.i 1)) (.o 2 5 (.mov (.t 11)) .done))))))))) (.seq (.reg false (.o 0 19 (.mov (.t 1)) (.o 1 4 (.mov (.t 19)) .done))) .ret)))
theorem dg_laws_markByteS : Tryz.f159.body.bind (digC Tryz.prog Tryz.f159.ntmps []) = some c_laws_markByteS := by kernel_rfl
theorem rs_laws_markByteS : resSlots Tryz.prog Tryz.f159 = some [.s 4] := by kernel_rfl
theorem ok_laws_markByteS (a : List UInt8) (k : Int) (h0 : 0 ≤ k) (hk : k + a.length ≤ 9223372036854775807) :
    FnOK Tryz.prog 159 [.one (.arr false true (encB a)), .one (.d (.sc (.int .i64 k)))] (fun ra os => ra = [.one (.d (.sc (.int .i64 (k + a.length))))] ∧ os.a 0 = encB (marks a.length k)) := by
  refine FnOK.ofK Tryz.func159 (by kernel_rfl) dg_laws_markByteS rs_laws_markByteS rfl rfl ?_
  delta c_laws_markByteS T.o X.i
  generalize hgas : [GA.one (.arr false true (encB a)), GA.one (.d (.sc (.int .i64 k)))] = gas
  have hob : (St.init gas).ob 0 = ⟨0, 0, .arr true (encB a)⟩ := by rw [← hgas]; rfl
  have s0 : (St.init gas).sl 0 = .c (.arr 0 0) := by rw [← hgas]; rfl
  have s1 : (St.init gas).sl 1 = .i k := by rw [← hgas]; rfl
  refine kSub (t := ⟨tabSl [(0, .c (.arr 0 0)), (1, .i k)], (St.init gas).ob, []⟩) (.tab rfl ⟨s0 ▸ .refl _, s1 ▸ .refl _, trivial⟩) ?_
  refine kSeq (kReg (kMovC rfl (kDone ?_)))
  refine kSeq (kSeq (kReg (kMovC rfl (kDone (kBlock ?_)))))
  refine kLoop (α := { i : Nat // i ≤ a.length })
    (fun y => ⟨tabSl [(0, .c (.arr 0 0)), (1, .i (k + (y.1 : Int))), (5, .i y.1)], upd (St.init gas).ob 0 ⟨0, y.1, .arr true (encB (marks y.1 k ++ a.drop y.1))⟩, []⟩) (fun y => a.length - y.1) ⟨0, by simp⟩
    (.tab (upd_self (by rw [hob]; rfl)) ⟨.refl _, by simpa using .refl _, .refl _, trivial⟩) ?_
  rintro ⟨i, hi⟩
  simp only
  have hlen : (marks i k ++ a.drop i).length = a.length := by simp [marks_len]; omega
  refine kSeq (kSeq (kReg ?_))
  refine kMovC rfl (kMovC rfl (kLen rfl rfl rfl (kBin rfl rfl rfl (kDone ?_))))
  rw [len_encB, hlen]
  refine kCond rfl (fun h1 => ?_) (fun h1 => ?_)
  · have hlt : i < a.length := by simp at h1; omega
    refine kSkip (kSeq (kBlock (kSeq (kReg ?_))))
    refine kMovC rfl (kMovC rfl (kMovC rfl (kConv rfl (kIadA rfl rfl rfl rfl ?_ ?_))))
    · rw [len_encB, hlen]; omega
    refine kStoreE1 rfl rfl rfl rfl (by simp [encB, DV.esz]) (kDone ?_)
    rw [show (Int.toNat (i : Int)) = i from rfl, setRow_encB _ _ _ (by omega)]
    refine kReg (kMovC rfl (kAdd rfl rfl ?_ (kMovC rfl (kDone (kBk ?_)))))
    · omega
    refine kReg (kMovC rfl (kAdd rfl rfl ?_ (kMovC rfl (kDone (kInv ?_)))))
    · omega
    refine ⟨⟨i + 1, hlt⟩, by simp only; omega, .tab ?_ ⟨.refl _, ?_, .refl _, trivial⟩⟩
    · show _ = upd (upd (St.init gas).ob 0 _) 0 _
      rw [upd_upd, take_set_succ _ _ _ _ hlt (marks_len i k), marks_succ]
      rfl
    · show WkV (.i (k + i + 1)) (.i (k + ((i + 1 : Nat) : Int)))
      rw [show k + ((i + 1 : Nat) : Int) = k + i + 1 by omega]
      exact .refl _
  · refine kExit (kExC (kExI (kExB ?_)))
    have hge : i = a.length := by simp at h1; omega
    subst hge
    refine kSeq (kReg (kMovC rfl (kMovC rfl (kDone (kRet ?_)))))
    rw [← hgas]
    refine endRet (ra := [.one (.d _)]) rfl ⟨⟨⟨rfl, .inl rfl⟩, trivial⟩, .nil, ⟨rfl, fun _ => rfl, rfl⟩, trivial, trivial⟩ ?_
    refine ⟨rfl, ?_⟩
    show encB (marks a.length k ++ a.drop a.length) = _
    simp

def c_laws_markByteSS : C := (.seq (.reg false (.o 0 4 (.mov (.i 0)) .done)) (.seq (.seq (.reg false (.o 0 5 (.mov (.i 0)) .done)) (.block 0 (.loop (.seq (.seq (.reg false (.o 0 6 (.mov (.t 5)) (.o 1 7 (.mov (.t 0)) (.o 2 8 (.len (.t 7)) (.o 3 9 (.bin .lss (.t 6) (.t 8)) .done))))) (.cond (.t 9) .skip (.exit 0))) (.seq (.block 1 (.reg false (.o 0 12 (.mov (.t 0)) (.o 1 13 (.mov (.t 5)) (.o 2 14 (.iad 1 (.t 12) (.t 13)) (.o 3 15 (.load none (.t 14)) (.o 4 16 (.mov (.t 1)) (.o 5 17 (.call 17 159 [(.t 15), (.t 16)]) (.o 6 1 (.mov (.t 17)) .done))))))))) (.reg false (.o 0 10 (.mov (.t 5)) (.o 1 11 (.bin .add (.t 10) (.i 1)) (.o 2 5 (.mov (.t 11)) .done))))))))) (.seq (.reg false (.o 0 18 (.mov (.t 1)) (.o 1 4 (.mov (.t 18)) .done))) .ret)))
theorem dg_laws_markByteSS : Tryz.f113.body.bind (digC Tryz.prog Tryz.f113.ntmps []) = some c_laws_markByteSS := by kernel_rfl
theorem rs_laws_markByteSS : resSlots Tryz.prog Tryz.f113 = some [.s 4] := by kernel_rfl
theorem ok_laws_markByteSS (a : List (List UInt8)) (k : Int) (h0 : 0 ≤ k) (hk : k + a.flatten.length ≤ 9223372036854775807) (hl : a.length ≤ 4194304) :
    FnOK Tryz.prog 113 [.one (.arr false true (encBB a)), .one (.d (.sc (.int .i64 k)))] (fun ra os => ra = [.one (.d (.sc (.int .i64 (k + a.flatten.length))))] ∧ os.a 0 = encBB (markss a k)) := by
  refine FnOK.ofK Tryz.func113 (by kernel_rfl) dg_laws_markByteSS rs_laws_markByteSS rfl rfl ?_
  delta c_laws_markByteSS T.o X.i
  refine kSeq (kReg (kMovC rfl (kDone ?_)))
  refine kSeq (kSeq (kReg (kMovC rfl (kDone (kBlock ?_)))))
  refine kLoop (α := { i : Nat // i ≤ a.length })
    (fun y => ⟨tabSl [(0, .c (.arr 0 0)), (1, .i (k + (a.take y.1).flatten.length)), (5, .i y.1)], upd (St.init [.one (.arr false true (encBB a)), .one (.d (.sc (.int .i64 k)))]).ob 0 ⟨0, y.1, .arr true (encBB (markss (a.take y.1) k ++ a.drop y.1))⟩, []⟩) (fun y => a.length - y.1) ⟨0, by simp⟩
    (.tab (upd_self rfl) ⟨.refl _, by simpa using .refl _, .refl _, trivial⟩) ?_
  rintro ⟨i, hi⟩
  simp only
  have hlen : (markss (a.take i) k).length = i := by rw [markss_len]; simp; omega
  have hlen' : (markss (a.take i) k ++ a.drop i).length = a.length := by simp [hlen]; omega
  refine kSeq (kSeq (kReg ?_))
  refine kMovC rfl (kMovC rfl (kLen rfl rfl rfl (kBin rfl rfl rfl (kDone ?_))))
  rw [len_encBB, hlen']
  refine kCond rfl (fun h1 => ?_) (fun h1 => ?_)
  · have hlt : i < a.length := by simp at h1; omega
    have hget : (markss (a.take i) k ++ a.drop i)[i]'(by omega) = a[i] := by
      rw [List.getElem_append_right (by omega)]; simp [hlen]
    have hat : (encBB (markss (a.take i) k ++ a.drop i)).at i 0 = encB a[i] := by rw [at_encBB _ _ (by omega), hget]
    have hfl : (a.take (i + 1)).flatten.length = (a.take i).flatten.length + a[i].length := by
      rw [← List.take_append_getElem hlt, List.flatten_append, List.length_append]; simp only [List.flatten_cons, List.flatten_nil, List.append_nil]
    have htot : (a.take (i + 1)).flatten.length ≤ a.flatten.length := by
      have := congrArg (fun l => (List.flatten l).length) (List.take_append_drop (i + 1) a)
      simp only [List.flatten_append, List.length_append] at this
      omega
    refine kSkip (kSeq (kBlock (kReg ?_)))
    refine kMovC rfl (kMovC rfl (kIadA rfl rfl rfl rfl ?_ ?_))
    · rw [len_encBB, hlen']; omega
    refine kLoadE rfl rfl (v := .c (.sub 0 0 i i 0)) ?_ (kMovC rfl ?_)
    · show pickCells none (AC.ofCells 0 0 i i 0 (((encBB (markss (a.take i) k ++ a.drop i)).row i).drop 0)) = _
      rw [row_encBB _ _ (by omega)]
      rfl
    refine kCallS (ok_laws_markByteS a[i] (k + (a.take i).flatten.length) (by omega) (by omega)) rfl ⟨⟨rfl, rfl, rfl, rfl, rfl, rfl, hat.symm, rfl⟩, rfl, trivial⟩ ?_ rfl ?_
    · simp [encBB, DV.rows, hlen]; omega
    rintro ra os ⟨rfl, ho⟩
    refine ⟨_, rfl, ?_⟩
    refine kMovC rfl (kDone (kBk ?_))
    refine kReg (kMovC rfl (kAdd rfl rfl ?_ (kMovC rfl (kDone (kInv ?_)))))
    · omega
    refine ⟨⟨i + 1, hlt⟩, by simp only; omega, .tab ?_ ⟨.refl _, ?_, .refl _, trivial⟩⟩
    · refine Eq.trans ?_ (upd_upd _ _ _ _).symm
      refine congrArg (upd _ _) ?_
      show _ = Ob.mk _ _ (OK.arr _ ((encBB (markss (a.take i) k ++ a.drop i)).setCell i 0 (os.a 0)))
      rw [ho, setCell_encBB _ _ _ (by omega), take_set_succ _ _ _ _ hlt hlen, ← List.take_append_getElem hlt, markss_append]
    · show WkV (.i (k + ((a.take i).flatten.length : Int) + a[i].length)) (.i (k + ((a.take (i + 1)).flatten.length : Int)))
      rw [hfl, show k + (((a.take i).flatten.length + a[i].length : Nat) : Int) = k + ((a.take i).flatten.length : Int) + a[i].length by omega]
      exact .refl _
  · refine kExit (kExC (kExI (kExB ?_)))
    have hge : i = a.length := by simp at h1; omega
    subst hge
    refine kSeq (kReg (kMovC rfl (kMovC rfl (kDone (kRet ?_)))))
    refine endRet (ra := [.one (.d _)]) rfl ⟨⟨⟨rfl, .inl rfl⟩, trivial⟩, .nil, ⟨rfl, fun _ => rfl, rfl⟩, trivial, trivial⟩ ?_
    refine ⟨by simp, ?_⟩
    show encBB (markss (a.take a.length) k ++ a.drop a.length) = _
    simp

def c_laws_markIntS : C := (.seq (.reg false (.o 0 4 (.mov (.i 0)) .done)) (.seq (.seq (.reg false (.o 0 5 (.mov (.i 0)) .done)) (.block 0 (.loop (.seq (.seq (.reg false (.o 0 6 (.mov (.t 5)) (.o 1 7 (.mov (.t 0)) (.o 2 8 (.len (.t 7)) (.o 3 9 (.bin .lss (.t 6) (.t 8)) .done))))) (.cond (.t 9) .skip (.exit 0))) (.seq (.block 1 (.seq (.reg false (.o 0 12 (.mov (.t 0)) (.o 1 13 (.mov (.t 5)) (.o 2 14 (.mov (.t 1)) (.o 3 15 (.iad 1 (.t 12) (.t 13)) (.op 4 [] none none false (.store none (.t 15) (.t 14)) .done)))))) (.reg false (.o 0 16 (.mov (.t 1)) (.o 1 17 (.bin .add (.t 16) (.i 1)) (.o 2 1 (.mov (.t 17)) .done)))))) (.reg false (.o 0 10 (.mov (.t 5)) (.o 1 11 (.bin .add (.t 10) (.i 1)) (.o 2 5 (.mov (.t 11)) .done))))))))) (.seq (.reg false (.o 0 18 (.mov (.t 1)) (.o 1 4 (.mov (.t 18)) .done))) .ret)))
theorem dg_laws_markIntS : Tryz.f130.body.bind (digC Tryz.prog Tryz.f130.ntmps []) = some c_laws_markIntS := by kernel_rfl
theorem rs_laws_markIntS : resSlots Tryz.prog Tryz.f130 = some [.s 4] := by kernel_rfl
theorem ok_laws_markIntS (a : List Int) (k : Int) (h0 : 0 ≤ k) (hk : k + a.length ≤ 9223372036854775807) :
    FnOK Tryz.prog 130 [.one (.arr false true (encI a)), .one (.d (.sc (.int .i64 k)))] (fun ra os => ra = [.one (.d (.sc (.int .i64 (k + a.length))))] ∧ os.a 0 = encI (marksI a.length k)) := by
  refine FnOK.ofK Tryz.func130 (by kernel_rfl) dg_laws_markIntS rs_laws_markIntS rfl rfl ?_
  delta c_laws_markIntS T.o X.i
  refine kSeq (kReg (kMovC rfl (kDone (kSeq (kSeq (kReg (kMovC rfl (kDone (kBlock ?_)))))))))
  refine kLoop (α := { i : Nat // i ≤ a.length })
    (fun y => ⟨tabSl [(0, .c (.arr 0 0)), (1, .i (k + (y.1 : Int))), (5, .i y.1)], upd (St.init [.one (.arr false true (encI a)), .one (.d (.sc (.int .i64 k)))]).ob 0 ⟨0, y.1, .arr true (encI (marksI y.1 k ++ a.drop y.1))⟩, []⟩) (fun y => a.length - y.1) ⟨0, by simp⟩
    (.tab (upd_self rfl) ⟨.refl _, by simpa using .refl _, .refl _, trivial⟩) ?_
  rintro ⟨i, hi⟩
  simp only
  have hlen : (marksI i k ++ a.drop i).length = a.length := by simp [marksI_len]; omega
  rcases Nat.lt_or_ge i a.length with hlt | hge
  · refine kSeq (kSeq (kReg (kMovC rfl (kMovC rfl (kLenR rfl rfl (kBin rfl rfl rfl (kDone (kCondP rfl (fun g0 => kSkip (kSeq (kBlock (kSeq (kReg (kMovC rfl (kMovC rfl (kMovC rfl (kIadAR rfl rfl rfl rfl (by omega) (kStoreER rfl rfl rfl rfl rfl rfl rfl (by omega) rfl (kDone (kReg (kMovC rfl (kAdd rfl rfl (by omega) (kMovC rfl (kDone (kBk (kReg (kMovC rfl (kAdd rfl rfl (by omega) (kMovC rfl (kDone ?_)))))))))))))))))))))) (fun g0 => (by omega))))))))))
    refine kInv ⟨⟨i + 1, hlt⟩, by simp only; omega, .tab ?_ ⟨.refl _, ?_, .refl _, trivial⟩⟩
    · show _ = upd (upd _ 0 _) 0 _
      rw [upd_upd]
      refine congrArg (upd _ _) ?_
      rw [marksI_succ]
      exact congrArg (fun z => Ob.mk 0 (i + 1) (OK.arr true (encI z))) (take_set_succ _ _ _ _ hlt (marksI_len i k)).symm
    · show WkV (.i (k + i + 1)) (.i (k + ((i + 1 : Nat) : Int)))
      rw [show k + ((i + 1 : Nat) : Int) = k + i + 1 by omega]
      exact .refl _
  · refine kSeq (kSeq (kReg (kMovC rfl (kMovC rfl (kLenR rfl rfl (kBin rfl rfl rfl (kDone (kCondP rfl (fun g0 => (by omega)) (fun g0 => kExit (kExC (kExI (kExB (kSeq (kReg (kMovC rfl (kMovC rfl (kDone (kRet (endRetA (ra := [.one (.d _)]) rfl ?_)))))))))))))))))))
    obtain rfl : i = a.length := by omega
    refine ⟨rfl, ?_⟩
    show encI (marksI a.length k ++ a.drop a.length) = _
    simp

def c_laws_markRrS : C := (.seq (.reg false (.o 0 4 (.mov (.i 0)) .done)) (.seq (.seq (.reg false (.o 0 5 (.mov (.i 0)) .done)) (.block 0 (.loop (.seq (.seq (.reg false (.o 0 6 (.mov (.t 5)) (.o 1 7 (.mov (.t 0)) (.o 2 8 (.len (.t 7)) (.o 3 9 (.bin .lss (.t 6) (.t 8)) .done))))) (.cond (.t 9) .skip (.exit 0))) (.seq (.block 1 (.seq (.reg false (.o 0 12 (.mov (.t 0)) (.o 1 13 (.mov (.t 5)) (.o 2 14 (.iad 7 (.t 12) (.t 13)) (.o 3 15 (.fad (.t 14) 0) (.o 4 16 (.fad (.t 15) 0) (.o 5 17 (.load none (.t 16)) (.o 6 18 (.mov (.t 1)) (.o 7 19 (.call 19 113 [(.t 17), (.t 18)]) (.o 8 1 (.mov (.t 19)) .done)))))))))) (.seq (.reg false (.o 0 20 (.mov (.t 0)) (.o 1 21 (.mov (.t 5)) (.o 2 22 (.mov (.t 1)) (.o 3 23 (.iad 7 (.t 20) (.t 21)) (.o 4 24 (.fad (.t 23) 1) (.op 5 [] none none false (.store none (.t 24) (.t 22)) .done))))))) (.seq (.reg false (.o 0 25 (.mov (.t 1)) (.o 1 26 (.bin .add (.t 25) (.i 1)) (.o 2 1 (.mov (.t 26)) .done)))) (.seq (.reg false (.o 0 27 (.mov (.t 0)) (.o 1 28 (.mov (.t 5)) (.o 2 29 (.mov (.t 1)) (.o 3 30 (.iad 7 (.t 27) (.t 28)) (.o 4 31 (.fad (.t 30) 2) (.op 5 [] none none false (.store none (.t 31) (.t 29)) .done))))))) (.seq (.reg false (.o 0 32 (.mov (.t 1)) (.o 1 33 (.bin .add (.t 32) (.i 1)) (.o 2 1 (.mov (.t 33)) .done)))) (.seq (.reg false (.o 0 34 (.mov (.t 0)) (.o 1 35 (.mov (.t 5)) (.o 2 36 (.mov (.t 1)) (.o 3 37 (.iad 7 (.t 34) (.t 35)) (.o 4 38 (.fad (.t 37) 3) (.op 5 [] none none false (.store none (.t 38) (.t 36)) .done))))))) (.seq (.reg false (.o 0 39 (.mov (.t 1)) (.o 1 40 (.bin .add (.t 39) (.i 1)) (.o 2 1 (.mov (.t 40)) .done)))) (.seq (.reg false (.o 0 41 (.mov (.t 0)) (.o 1 42 (.mov (.t 5)) (.o 2 43 (.iad 7 (.t 41) (.t 42)) (.o 3 44 (.fad (.t 43) 4) (.o 4 45 (.fad (.t 44) 0) (.o 5 46 (.load none (.t 45)) (.o 6 47 (.mov (.t 1)) (.o 7 48 (.call 48 113 [(.t 46), (.t 47)]) (.o 8 1 (.mov (.t 48)) .done)))))))))) (.seq (.reg false (.o 0 49 (.mov (.t 0)) (.o 1 50 (.mov (.t 5)) (.o 2 51 (.iad 7 (.t 49) (.t 50)) (.o 3 52 (.fad (.t 51) 5) (.o 4 53 (.load none (.t 52)) (.o 5 54 (.mov (.t 1)) (.o 6 55 (.call 55 159 [(.t 53), (.t 54)]) (.o 7 1 (.mov (.t 55)) .done))))))))) (.reg false (.o 0 56 (.mov (.t 0)) (.o 1 57 (.mov (.t 5)) (.o 2 58 (.iad 7 (.t 56) (.t 57)) (.o 3 59 (.fad (.t 58) 6) (.o 4 60 (.load none (.t 59)) (.o 5 61 (.mov (.t 1)) (.o 6 62 (.call 62 130 [(.t 60), (.t 61)]) (.o 7 1 (.mov (.t 62)) .done))))))))))))))))))) (.reg false (.o 0 10 (.mov (.t 5)) (.o 1 11 (.bin .add (.t 10) (.i 1)) (.o 2 5 (.mov (.t 11)) .done))))))))) (.seq (.reg false (.o 0 63 (.mov (.t 1)) (.o 1 4 (.mov (.t 63)) .done))) .ret)))
theorem dg_laws_markRrS : Tryz.f62.body.bind (digC Tryz.prog Tryz.f62.ntmps []) = some c_laws_markRrS := by kernel_rfl
theorem rs_laws_markRrS : resSlots Tryz.prog Tryz.f62 = some [.s 4] := by kernel_rfl
theorem ok_laws_markRrS (l : List Rr) (k : Int) (h0 : 0 ≤ k) (hk : k + cntRs l ≤ 9223372036854775807) (hs : SmallRs l) :
    FnOK Tryz.prog 62 [.one (.arr false true (encR l)), .one (.d (.sc (.int .i64 k)))] (fun ra os => ra = [.one (.d (.sc (.int .i64 (k + cntRs l))))] ∧ os.a 0 = encR (markRs l k)) := by
  refine FnOK.ofK Tryz.func62 (by kernel_rfl) dg_laws_markRrS rs_laws_markRrS rfl rfl ?_
  delta c_laws_markRrS T.o X.i
  have h1 := hs.len
  refine kSeq (kReg (kMovC rfl (kDone (kSeq (kSeq (kReg (kMovC rfl (kDone (kBlock ?_)))))))))
  generalize hF : (St.init [.one (.arr false true (encR l)), .one (.d (.sc (.int .i64 k)))]).ob = F
  refine kLoop (α := { i : Nat // i ≤ l.length })
    (fun y => ⟨tabSl [(0, .c (.arr 0 0)), (1, .i (k + (cntRs (l.take y.1) : Int))), (5, .i y.1)], upd F 0 ⟨0, 7 * y.1, .arr true (encR (markRs (l.take y.1) k ++ l.drop y.1))⟩, []⟩) (fun y => l.length - y.1) ⟨0, by simp⟩
    (.tab (by subst hF; exact upd_self rfl) ⟨.refl _, by simpa using .refl _, .refl _, trivial⟩) ?_
  rintro ⟨i, hi⟩
  simp only
  have hlen : (markRs (l.take i) k).length = i := by rw [markRs_len]; simp; omega
  have hlen' : (markRs (l.take i) k ++ l.drop i).length = l.length := by simp [hlen]; omega
  have hle := cntRs_le l i
  have hle2 := cntRs_le l (i + 1)
  rcases Nat.lt_or_ge i l.length with hlt | hge
  · have hbi := hs.mem _ (List.getElem_mem hlt)
    have hsuc := cntRs_take l i hlt
    have hget : (markRs (l.take i) k ++ l.drop i)[i]'(by omega) = l[i] := by
      rw [List.getElem_append_right (by omega)]; simp [hlen]
    have hset := set_self (markRs (l.take i) k ++ l.drop i) i (by omega)
    rw [hget] at hset
    have hfin : ∀ R : Rr, R = markR l[i] (k + cntRs (l.take i)) → (markRs (l.take i) k ++ l.drop i).set i R = markRs (l.take (i + 1)) k ++ l.drop (i + 1) := by
      rintro R rfl
      rw [take_set_succ _ _ _ _ hlt hlen, ← List.take_append_getElem hlt, markRs_append]
    have hc : cntR l[i] = l[i].name.flatten.length + 3 + l[i].to.flatten.length + l[i].text.length + l[i].nums.length := rfl
    clear hget
    revert hset hfin hlen'
    generalize markRs (l.take i) k ++ l.drop i = L
    generalize hr : l[i] = r at hc hbi hsuc
    generalize hK : k + (cntRs (l.take i) : Int) = K
    intro hlen' hset hfin
    have n1 := hbi.n.len
    have t1 := hbi.t.len
    have x1 := hbi.x
    have m1 := hbi.m
    have hiL : i < L.length := by omega
    have hKn : 0 ≤ K := by omega
    have hKm : K + cntR r ≤ 9223372036854775807 := by omega
    refine kSub (t := ⟨tabSl [(0, .c (.arr 0 0)), (1, .i (K)), (5, .i i)], upd F 0 ⟨0, 7 * i, .arr true (encR (L.set i r))⟩, []⟩) (.tab (by rw [hset]) ⟨.refl _, .refl _, .refl _, trivial⟩) ?_
    refine kSeq (kSeq (kReg (kMovC rfl (kMovC rfl (kLen rfl rfl rfl (kBin rfl rfl rfl (kDone ?_)))))))
    rw [len_encR, List.length_set]
    refine kCond rfl (fun h1 => ?_) (fun h1 => by exfalso; simp at h1; omega)
    refine kSkip (kSeq (kBlock ?_))
    refine kSeq (kReg ?_)
    refine kMovC rfl (kMovC rfl (kIadA rfl rfl rfl rfl ?_ ?_))
    · rw [len_encR, List.length_set]; omega
    refine kFadE rfl rfl (kFadE rfl rfl (?_))
    refine kLoadE rfl rfl (v := .c (.sub 0 0 (7 * i) i 0)) ?_ (kMovC rfl ?_)
    · show pickCells none (AC.ofCells 0 0 (7 * i) i 0 (((encR (L.set i ⟨r.name, r.ty, r.ttl, r.addr, r.to, r.text, r.nums⟩)).row i).drop 0)) = _
      rw [row_encRS _ _ _ hiL]
      rfl
    refine kCallS (ok_laws_markByteSS r.name K (by omega) (by omega) n1) rfl ⟨⟨rfl, rfl, rfl, rfl, rfl, rfl, (at_encRS L i 0 ⟨r.name, r.ty, r.ttl, r.addr, r.to, r.text, r.nums⟩ hiL).symm, rfl⟩, rfl, trivial⟩ ?_ rfl ?_
    · simp [encR, DV.rows]; omega
    rintro ra os ⟨rfl, ho⟩
    refine ⟨_, rfl, ?_⟩
    refine kMovC rfl (kDone ?_)
    refine kSub (t := ⟨tabSl [(0, .c (.arr 0 0)), (1, .i (K + (r.name.flatten.length : Int))), (5, .i i)], upd F 0 ⟨0, (7 * i + 1), .arr true (encR (L.set i ⟨markss r.name (K), r.ty, r.ttl, r.addr, r.to, r.text, r.nums⟩))⟩, []⟩) (.tab ?_ ⟨.refl _, .refl _, .refl _, trivial⟩) ?_
    · refine Eq.trans ?_ (upd_upd _ _ _ _).symm
      refine congrArg (upd _ _) ?_
      show _ = Ob.mk _ _ (OK.arr _ ((encR (L.set i ⟨r.name, r.ty, r.ttl, r.addr, r.to, r.text, r.nums⟩)).setCell i 0 (os.a 0)))
      rw [ho, setCell_encRS L i 0 ⟨r.name, r.ty, r.ttl, r.addr, r.to, r.text, r.nums⟩ ⟨markss r.name (K), r.ty, r.ttl, r.addr, r.to, r.text, r.nums⟩ _ hiL rfl]
      try rfl
    refine kSeq (kReg ?_)
    refine kMovC rfl (kMovC rfl (kMovC rfl (kIadA rfl rfl rfl rfl ?_ (kFadE rfl rfl ?_))))
    · rw [len_encR, List.length_set]; omega
    refine kStoreE1 rfl rfl rfl rfl (by simp [encR, DV.esz]) (kDone ?_)
    refine kSub (t := ⟨tabSl [(0, .c (.arr 0 0)), (1, .i (K + (r.name.flatten.length : Int))), (5, .i i)], upd F 0 ⟨0, (7 * i + 2), .arr true (encR (L.set i ⟨markss r.name (K), (K + (r.name.flatten.length : Int)), r.ttl, r.addr, r.to, r.text, r.nums⟩))⟩, []⟩) (.tab ?_ ⟨.refl _, .refl _, .refl _, trivial⟩) ?_
    · refine Eq.trans ?_ (upd_upd _ _ _ _).symm
      refine congrArg (upd _ _) ?_
      show _ = Ob.mk _ _ (OK.arr _ (setRow (encR (L.set i ⟨markss r.name (K), r.ty, r.ttl, r.addr, r.to, r.text, r.nums⟩)) i 1 _))
      rw [setRow_encRS L i 1 ⟨markss r.name (K), r.ty, r.ttl, r.addr, r.to, r.text, r.nums⟩ ⟨markss r.name (K), (K + (r.name.flatten.length : Int)), r.ttl, r.addr, r.to, r.text, r.nums⟩ _ hiL rfl]
      try rfl
    refine kSeq (kReg (kMovC rfl (kAdd rfl rfl (by omega) (kMovC rfl (kDone ?_)))))
    refine kSeq (kReg ?_)
    refine kMovC rfl (kMovC rfl (kMovC rfl (kIadA rfl rfl rfl rfl ?_ (kFadE rfl rfl ?_))))
    · rw [len_encR, List.length_set]; omega
    refine kStoreE1 rfl rfl rfl rfl (by simp [encR, DV.esz]) (kDone ?_)
    refine kSub (t := ⟨tabSl [(0, .c (.arr 0 0)), (1, .i (K + (r.name.flatten.length : Int) + 1)), (5, .i i)], upd F 0 ⟨0, (7 * i + 3), .arr true (encR (L.set i ⟨markss r.name (K), (K + (r.name.flatten.length : Int)), (K + (r.name.flatten.length : Int) + 1), r.addr, r.to, r.text, r.nums⟩))⟩, []⟩) (.tab ?_ ⟨.refl _, .refl _, .refl _, trivial⟩) ?_
    · refine Eq.trans ?_ (upd_upd _ _ _ _).symm
      refine congrArg (upd _ _) ?_
      show _ = Ob.mk _ _ (OK.arr _ (setRow (encR (L.set i ⟨markss r.name (K), (K + (r.name.flatten.length : Int)), r.ttl, r.addr, r.to, r.text, r.nums⟩)) i 2 _))
      rw [setRow_encRS L i 2 ⟨markss r.name (K), (K + (r.name.flatten.length : Int)), r.ttl, r.addr, r.to, r.text, r.nums⟩ ⟨markss r.name (K), (K + (r.name.flatten.length : Int)), (K + (r.name.flatten.length : Int) + 1), r.addr, r.to, r.text, r.nums⟩ _ hiL rfl]
      try rfl
    refine kSeq (kReg (kMovC rfl (kAdd rfl rfl (by omega) (kMovC rfl (kDone ?_)))))
    refine kSeq (kReg ?_)
    refine kMovC rfl (kMovC rfl (kMovC rfl (kIadA rfl rfl rfl rfl ?_ (kFadE rfl rfl ?_))))
    · rw [len_encR, List.length_set]; omega
    refine kStoreE1 rfl rfl rfl rfl (by simp [encR, DV.esz]) (kDone ?_)
    refine kSub (t := ⟨tabSl [(0, .c (.arr 0 0)), (1, .i (K + (r.name.flatten.length : Int) + 1 + 1)), (5, .i i)], upd F 0 ⟨0, (7 * i + 4), .arr true (encR (L.set i ⟨markss r.name (K), (K + (r.name.flatten.length : Int)), (K + (r.name.flatten.length : Int) + 1), (K + (r.name.flatten.length : Int) + 1 + 1), r.to, r.text, r.nums⟩))⟩, []⟩) (.tab ?_ ⟨.refl _, .refl _, .refl _, trivial⟩) ?_
    · refine Eq.trans ?_ (upd_upd _ _ _ _).symm
      refine congrArg (upd _ _) ?_
      show _ = Ob.mk _ _ (OK.arr _ (setRow (encR (L.set i ⟨markss r.name (K), (K + (r.name.flatten.length : Int)), (K + (r.name.flatten.length : Int) + 1), r.addr, r.to, r.text, r.nums⟩)) i 3 _))
      rw [setRow_encRS L i 3 ⟨markss r.name (K), (K + (r.name.flatten.length : Int)), (K + (r.name.flatten.length : Int) + 1), r.addr, r.to, r.text, r.nums⟩ ⟨markss r.name (K), (K + (r.name.flatten.length : Int)), (K + (r.name.flatten.length : Int) + 1), (K + (r.name.flatten.length : Int) + 1 + 1), r.to, r.text, r.nums⟩ _ hiL rfl]
      try rfl
    refine kSeq (kReg (kMovC rfl (kAdd rfl rfl (by omega) (kMovC rfl (kDone ?_)))))
    refine kSeq (kReg ?_)
    refine kMovC rfl (kMovC rfl (kIadA rfl rfl rfl rfl ?_ ?_))
    · rw [len_encR, List.length_set]; omega
    refine kFadE rfl rfl (kFadE rfl rfl (?_))
    refine kLoadE rfl rfl (v := .c (.sub 0 0 (7 * i + 4) i 4)) ?_ (kMovC rfl ?_)
    · show pickCells none (AC.ofCells 0 0 (7 * i + 4) i 4 (((encR (L.set i ⟨markss r.name (K), (K + (r.name.flatten.length : Int)), (K + (r.name.flatten.length : Int) + 1), (K + (r.name.flatten.length : Int) + 1 + 1), r.to, r.text, r.nums⟩)).row i).drop 4)) = _
      rw [row_encRS _ _ _ hiL]
      rfl
    refine kCallS (ok_laws_markByteSS r.to _ (by omega) (by omega) t1) rfl ⟨⟨rfl, rfl, rfl, rfl, rfl, rfl, (at_encRS L i 4 ⟨markss r.name (K), (K + (r.name.flatten.length : Int)), (K + (r.name.flatten.length : Int) + 1), (K + (r.name.flatten.length : Int) + 1 + 1), r.to, r.text, r.nums⟩ hiL).symm, rfl⟩, rfl, trivial⟩ ?_ rfl ?_
    · simp [encR, DV.rows]; omega
    rintro ra os ⟨rfl, ho⟩
    refine ⟨_, rfl, ?_⟩
    refine kMovC rfl (kDone ?_)
    refine kSub (t := ⟨tabSl [(0, .c (.arr 0 0)), (1, .i (K + (r.name.flatten.length : Int) + 1 + 1 + 1 + (r.to.flatten.length : Int))), (5, .i i)], upd F 0 ⟨0, (7 * i + 5), .arr true (encR (L.set i ⟨markss r.name (K), (K + (r.name.flatten.length : Int)), (K + (r.name.flatten.length : Int) + 1), (K + (r.name.flatten.length : Int) + 1 + 1), markss r.to (K + (r.name.flatten.length : Int) + 1 + 1 + 1), r.text, r.nums⟩))⟩, []⟩) (.tab ?_ ⟨.refl _, .refl _, .refl _, trivial⟩) ?_
    · refine Eq.trans ?_ (upd_upd _ _ _ _).symm
      refine congrArg (upd _ _) ?_
      show _ = Ob.mk _ _ (OK.arr _ ((encR (L.set i ⟨markss r.name (K), (K + (r.name.flatten.length : Int)), (K + (r.name.flatten.length : Int) + 1), (K + (r.name.flatten.length : Int) + 1 + 1), r.to, r.text, r.nums⟩)).setCell i 4 (os.a 0)))
      rw [ho, setCell_encRS L i 4 ⟨markss r.name (K), (K + (r.name.flatten.length : Int)), (K + (r.name.flatten.length : Int) + 1), (K + (r.name.flatten.length : Int) + 1 + 1), r.to, r.text, r.nums⟩ ⟨markss r.name (K), (K + (r.name.flatten.length : Int)), (K + (r.name.flatten.length : Int) + 1), (K + (r.name.flatten.length : Int) + 1 + 1), markss r.to (K + (r.name.flatten.length : Int) + 1 + 1 + 1), r.text, r.nums⟩ _ hiL rfl]
      try rfl
    refine kSeq (kReg ?_)
    refine kMovC rfl (kMovC rfl (kIadA rfl rfl rfl rfl ?_ ?_))
    · rw [len_encR, List.length_set]; omega
    refine kFadE rfl rfl (?_)
    refine kLoadE rfl rfl (v := .c (.sub 0 0 (7 * i + 5) i 5)) ?_ (kMovC rfl ?_)
    · show pickCells none (AC.ofCells 0 0 (7 * i + 5) i 5 (((encR (L.set i ⟨markss r.name (K), (K + (r.name.flatten.length : Int)), (K + (r.name.flatten.length : Int) + 1), (K + (r.name.flatten.length : Int) + 1 + 1), markss r.to (K + (r.name.flatten.length : Int) + 1 + 1 + 1), r.text, r.nums⟩)).row i).drop 5)) = _
      rw [row_encRS _ _ _ hiL]
      rfl
    refine kCallS (ok_laws_markByteS r.text _ (by omega) (by omega)) rfl ⟨⟨rfl, rfl, rfl, rfl, rfl, rfl, (at_encRS L i 5 ⟨markss r.name (K), (K + (r.name.flatten.length : Int)), (K + (r.name.flatten.length : Int) + 1), (K + (r.name.flatten.length : Int) + 1 + 1), markss r.to (K + (r.name.flatten.length : Int) + 1 + 1 + 1), r.text, r.nums⟩ hiL).symm, rfl⟩, rfl, trivial⟩ ?_ rfl ?_
    · simp [encR, DV.rows]; omega
    rintro ra os ⟨rfl, ho⟩
    refine ⟨_, rfl, ?_⟩
    refine kMovC rfl (kDone ?_)
    refine kSub (t := ⟨tabSl [(0, .c (.arr 0 0)), (1, .i (K + (r.name.flatten.length : Int) + 1 + 1 + 1 + (r.to.flatten.length : Int) + (r.text.length : Int))), (5, .i i)], upd F 0 ⟨0, (7 * i + 6), .arr true (encR (L.set i ⟨markss r.name (K), (K + (r.name.flatten.length : Int)), (K + (r.name.flatten.length : Int) + 1), (K + (r.name.flatten.length : Int) + 1 + 1), markss r.to (K + (r.name.flatten.length : Int) + 1 + 1 + 1), marks r.text.length (K + (r.name.flatten.length : Int) + 1 + 1 + 1 + (r.to.flatten.length : Int)), r.nums⟩))⟩, []⟩) (.tab ?_ ⟨.refl _, .refl _, .refl _, trivial⟩) ?_
    · refine Eq.trans ?_ (upd_upd _ _ _ _).symm
      refine congrArg (upd _ _) ?_
      show _ = Ob.mk _ _ (OK.arr _ ((encR (L.set i ⟨markss r.name (K), (K + (r.name.flatten.length : Int)), (K + (r.name.flatten.length : Int) + 1), (K + (r.name.flatten.length : Int) + 1 + 1), markss r.to (K + (r.name.flatten.length : Int) + 1 + 1 + 1), r.text, r.nums⟩)).setCell i 5 (os.a 0)))
      rw [ho, setCell_encRS L i 5 ⟨markss r.name (K), (K + (r.name.flatten.length : Int)), (K + (r.name.flatten.length : Int) + 1), (K + (r.name.flatten.length : Int) + 1 + 1), markss r.to (K + (r.name.flatten.length : Int) + 1 + 1 + 1), r.text, r.nums⟩ ⟨markss r.name (K), (K + (r.name.flatten.length : Int)), (K + (r.name.flatten.length : Int) + 1), (K + (r.name.flatten.length : Int) + 1 + 1), markss r.to (K + (r.name.flatten.length : Int) + 1 + 1 + 1), marks r.text.length (K + (r.name.flatten.length : Int) + 1 + 1 + 1 + (r.to.flatten.length : Int)), r.nums⟩ _ hiL rfl]
      try rfl
    refine kReg ?_
    refine kMovC rfl (kMovC rfl (kIadA rfl rfl rfl rfl ?_ ?_))
    · rw [len_encR, List.length_set]; omega
    refine kFadE rfl rfl (?_)
    refine kLoadE rfl rfl (v := .c (.sub 0 0 (7 * i + 6) i 6)) ?_ (kMovC rfl ?_)
    · show pickCells none (AC.ofCells 0 0 (7 * i + 6) i 6 (((encR (L.set i ⟨markss r.name (K), (K + (r.name.flatten.length : Int)), (K + (r.name.flatten.length : Int) + 1), (K + (r.name.flatten.length : Int) + 1 + 1), markss r.to (K + (r.name.flatten.length : Int) + 1 + 1 + 1), marks r.text.length (K + (r.name.flatten.length : Int) + 1 + 1 + 1 + (r.to.flatten.length : Int)), r.nums⟩)).row i).drop 6)) = _
      rw [row_encRS _ _ _ hiL]
      rfl
    refine kCallS (ok_laws_markIntS r.nums _ (by omega) (by omega)) rfl ⟨⟨rfl, rfl, rfl, rfl, rfl, rfl, (at_encRS L i 6 ⟨markss r.name (K), (K + (r.name.flatten.length : Int)), (K + (r.name.flatten.length : Int) + 1), (K + (r.name.flatten.length : Int) + 1 + 1), markss r.to (K + (r.name.flatten.length : Int) + 1 + 1 + 1), marks r.text.length (K + (r.name.flatten.length : Int) + 1 + 1 + 1 + (r.to.flatten.length : Int)), r.nums⟩ hiL).symm, rfl⟩, rfl, trivial⟩ ?_ rfl ?_
    · simp [encR, DV.rows]; omega
    rintro ra os ⟨rfl, ho⟩
    refine ⟨_, rfl, ?_⟩
    refine kMovC rfl (kDone (kBk ?_))
    refine kSub (t := ⟨tabSl [(0, .c (.arr 0 0)), (1, .i (K + (r.name.flatten.length : Int) + 1 + 1 + 1 + (r.to.flatten.length : Int) + (r.text.length : Int) + (r.nums.length : Int))), (5, .i i)], upd F 0 ⟨0, (7 * i + 7), .arr true (encR (L.set i ⟨markss r.name (K), (K + (r.name.flatten.length : Int)), (K + (r.name.flatten.length : Int) + 1), (K + (r.name.flatten.length : Int) + 1 + 1), markss r.to (K + (r.name.flatten.length : Int) + 1 + 1 + 1), marks r.text.length (K + (r.name.flatten.length : Int) + 1 + 1 + 1 + (r.to.flatten.length : Int)), marksI r.nums.length (K + (r.name.flatten.length : Int) + 1 + 1 + 1 + (r.to.flatten.length : Int) + (r.text.length : Int))⟩))⟩, []⟩) (.tab ?_ ⟨.refl _, .refl _, .refl _, trivial⟩) ?_
    · refine Eq.trans ?_ (upd_upd _ _ _ _).symm
      refine congrArg (upd _ _) ?_
      show _ = Ob.mk _ _ (OK.arr _ ((encR (L.set i ⟨markss r.name (K), (K + (r.name.flatten.length : Int)), (K + (r.name.flatten.length : Int) + 1), (K + (r.name.flatten.length : Int) + 1 + 1), markss r.to (K + (r.name.flatten.length : Int) + 1 + 1 + 1), marks r.text.length (K + (r.name.flatten.length : Int) + 1 + 1 + 1 + (r.to.flatten.length : Int)), r.nums⟩)).setCell i 6 (os.a 0)))
      rw [ho, setCell_encRS L i 6 ⟨markss r.name (K), (K + (r.name.flatten.length : Int)), (K + (r.name.flatten.length : Int) + 1), (K + (r.name.flatten.length : Int) + 1 + 1), markss r.to (K + (r.name.flatten.length : Int) + 1 + 1 + 1), marks r.text.length (K + (r.name.flatten.length : Int) + 1 + 1 + 1 + (r.to.flatten.length : Int)), r.nums⟩ ⟨markss r.name (K), (K + (r.name.flatten.length : Int)), (K + (r.name.flatten.length : Int) + 1), (K + (r.name.flatten.length : Int) + 1 + 1), markss r.to (K + (r.name.flatten.length : Int) + 1 + 1 + 1), marks r.text.length (K + (r.name.flatten.length : Int) + 1 + 1 + 1 + (r.to.flatten.length : Int)), marksI r.nums.length (K + (r.name.flatten.length : Int) + 1 + 1 + 1 + (r.to.flatten.length : Int) + (r.text.length : Int))⟩ _ hiL rfl]
      try rfl
    rw [hfin _ (by rw [← hr, ← hK]; rfl)]
    refine kReg (kMovC rfl (kAdd rfl rfl (by omega) (kMovC rfl (kDone (kInv ?_)))))
    refine ⟨⟨i + 1, hlt⟩, by simp only; omega, .tab rfl ⟨.refl _, ?_, .refl _, trivial⟩⟩
    refine Eq.mp (congrArg (fun z => WkV _ (.i z)) ?_) (.refl _)
    show _ = k + ((cntRs (l.take (i + 1)) : Nat) : Int)
    omega
  · refine kSeq (kSeq (kReg (kMovC rfl (kMovC rfl (kLen rfl rfl rfl (kBin rfl rfl rfl (kDone ?_)))))))
    rw [len_encR, hlen']
    refine kCond rfl (fun h1 => by exfalso; simp at h1; omega) (fun h1 => ?_)
    refine kExit (kExC (kExI (kExB ?_)))
    obtain rfl : i = l.length := by omega
    refine kSeq (kReg (kMovC rfl (kMovC rfl (kDone (kRet ?_)))))
    subst hF
    refine endRet (ra := [.one (.d _)]) rfl ⟨⟨⟨rfl, .inl rfl⟩, trivial⟩, .nil, ⟨rfl, fun _ => rfl, rfl⟩, trivial, trivial⟩ ?_
    refine ⟨by simp, ?_⟩
    show encR (markRs (l.take l.length) k ++ l.drop l.length) = _
    simp


def c_laws_markSlotS : C := (.seq (.reg false (.o 0 4 (.mov (.i 0)) .done)) (.seq (.seq (.reg false (.o 0 5 (.mov (.i 0)) .done)) (.block 0 (.loop (.seq (.seq (.reg false (.o 0 6 (.mov (.t 5)) (.o 1 7 (.mov (.t 0)) (.o 2 8 (.len (.t 7)) (.o 3 9 (.bin .lss (.t 6) (.t 8)) .done))))) (.cond (.t 9) .skip (.exit 0))) (.seq (.block 1 (.seq (.reg false (.o 0 12 (.mov (.t 0)) (.o 1 13 (.mov (.t 5)) (.o 2 14 (.iad 7 (.t 12) (.t 13)) (.o 3 15 (.fad (.t 14) 0) (.o 4 16 (.fad (.t 15) 0) (.o 5 17 (.load none (.t 16)) (.o 6 18 (.mov (.t 1)) (.o 7 19 (.call 19 113 [(.t 17), (.t 18)]) (.o 8 1 (.mov (.t 19)) .done)))))))))) (.seq (.reg false (.o 0 20 (.mov (.t 0)) (.o 1 21 (.mov (.t 5)) (.o 2 22 (.mov (.t 1)) (.o 3 23 (.iad 7 (.t 20) (.t 21)) (.o 4 24 (.fad (.t 23) 1) (.op 5 [] none none false (.store none (.t 24) (.t 22)) .done))))))) (.seq (.reg false (.o 0 25 (.mov (.t 1)) (.o 1 26 (.bin .add (.t 25) (.i 1)) (.o 2 1 (.mov (.t 26)) .done)))) (.seq (.reg false (.o 0 27 (.mov (.t 0)) (.o 1 28 (.mov (.t 5)) (.o 2 29 (.mov (.t 1)) (.o 3 30 (.iad 7 (.t 27) (.t 28)) (.o 4 31 (.fad (.t 30) 2) (.op 5 [] none none false (.store none (.t 31) (.t 29)) .done))))))) (.seq (.reg false (.o 0 32 (.mov (.t 1)) (.o 1 33 (.bin .add (.t 32) (.i 1)) (.o 2 1 (.mov (.t 33)) .done)))) (.seq (.reg false (.o 0 34 (.mov (.t 0)) (.o 1 35 (.mov (.t 5)) (.o 2 36 (.iad 7 (.t 34) (.t 35)) (.o 3 37 (.fad (.t 36) 3) (.o 4 38 (.load none (.t 37)) (.o 5 39 (.mov (.t 1)) (.o 6 40 (.call 40 62 [(.t 38), (.t 39)]) (.o 7 1 (.mov (.t 40)) .done))))))))) (.seq (.reg false (.o 0 41 (.mov (.t 0)) (.o 1 42 (.mov (.t 5)) (.o 2 43 (.mov (.t 1)) (.o 3 44 (.iad 7 (.t 41) (.t 42)) (.o 4 45 (.fad (.t 44) 4) (.op 5 [] none none false (.store none (.t 45) (.t 43)) .done))))))) (.seq (.reg false (.o 0 46 (.mov (.t 1)) (.o 1 47 (.bin .add (.t 46) (.i 1)) (.o 2 1 (.mov (.t 47)) .done)))) (.seq (.reg false (.o 0 48 (.mov (.t 0)) (.o 1 49 (.mov (.t 5)) (.o 2 50 (.mov (.t 1)) (.o 3 51 (.iad 7 (.t 48) (.t 49)) (.o 4 52 (.fad (.t 51) 5) (.op 5 [] none none false (.store none (.t 52) (.t 50)) .done))))))) (.seq (.reg false (.o 0 53 (.mov (.t 1)) (.o 1 54 (.bin .add (.t 53) (.i 1)) (.o 2 1 (.mov (.t 54)) .done)))) (.seq (.reg false (.o 0 55 (.mov (.t 0)) (.o 1 56 (.mov (.t 5)) (.o 2 57 (.mov (.t 1)) (.o 3 58 (.iad 7 (.t 55) (.t 56)) (.o 4 59 (.fad (.t 58) 6) (.op 5 [] none none false (.store none (.t 59) (.t 57)) .done))))))) (.reg false (.o 0 60 (.mov (.t 1)) (.o 1 61 (.bin .add (.t 60) (.i 1)) (.o 2 1 (.mov (.t 61)) .done)))))))))))))))) (.reg false (.o 0 10 (.mov (.t 5)) (.o 1 11 (.bin .add (.t 10) (.i 1)) (.o 2 5 (.mov (.t 11)) .done))))))))) (.seq (.reg false (.o 0 62 (.mov (.t 1)) (.o 1 4 (.mov (.t 62)) .done))) .ret)))
theorem dg_laws_markSlotS : Tryz.f112.body.bind (digC Tryz.prog Tryz.f112.ntmps []) = some c_laws_markSlotS := by kernel_rfl
theorem rs_laws_markSlotS : resSlots Tryz.prog Tryz.f112 = some [.s 4] := by kernel_rfl
theorem ok_laws_markSlotS (l : List (Slot)) (k : Int) (h0 : 0 ≤ k) (hk : k + cntL cntS l ≤ 9223372036854775807) (hs : SmallSs l) :
    FnOK Tryz.prog 112 [.one (.arr false true (encS l)), .one (.d (.sc (.int .i64 k)))] (fun ra os => ra = [.one (.d (.sc (.int .i64 (k + cntL cntS l))))] ∧ os.a 0 = encS (markL cntS markS l k)) := by
  refine FnOK.ofK Tryz.func112 (by kernel_rfl) dg_laws_markSlotS rs_laws_markSlotS rfl rfl ?_
  delta c_laws_markSlotS T.o X.i
  have h1 := hs.len
  refine kSeq (kReg (kMovC rfl (kDone (kSeq (kSeq (kReg (kMovC rfl (kDone (kBlock ?_)))))))))
  generalize hF : (St.init [.one (.arr false true (encS l)), .one (.d (.sc (.int .i64 k)))]).ob = F
  refine kLoop (α := { i : Nat // i ≤ l.length })
    (fun y => ⟨tabSl [(0, .c (.arr 0 0)), (1, .i (k + (cntL cntS (l.take y.1) : Int))), (5, .i y.1)], upd F 0 ⟨0, 7 * y.1, .arr true (encS (markL cntS markS (l.take y.1) k ++ l.drop y.1))⟩, []⟩) (fun y => l.length - y.1) ⟨0, by simp⟩
    (.tab (by subst hF; exact upd_self rfl) ⟨.refl _, by simpa using .refl _, .refl _, trivial⟩) ?_
  rintro ⟨i, hi⟩
  simp only
  have hlen : (markL cntS markS (l.take i) k).length = i := by rw [markL_len]; simp; omega
  have hlen' : (markL cntS markS (l.take i) k ++ l.drop i).length = l.length := by simp [hlen]; omega
  have hle := cntL_le cntS l i
  have hle2 := cntL_le cntS l (i + 1)
  rcases Nat.lt_or_ge i l.length with hlt | hge
  · have hbi := hs.mem _ (List.getElem_mem hlt)
    have hsuc := cntL_take cntS l i hlt
    have hget : (markL cntS markS (l.take i) k ++ l.drop i)[i]'(by omega) = l[i] := by
      rw [List.getElem_append_right (by omega)]; simp [hlen]
    have hset := set_selfL (markL cntS markS (l.take i) k ++ l.drop i) i (by omega)
    rw [hget] at hset
    have hfin : ∀ R : Slot, R = markS l[i] (k + cntL cntS (l.take i)) → (markL cntS markS (l.take i) k ++ l.drop i).set i R = markL cntS markS (l.take (i + 1)) k ++ l.drop (i + 1) := by
      rintro R rfl
      rw [take_set_succ _ _ _ _ hlt hlen, ← List.take_append_getElem hlt, markL_append]
    have hc : cntS l[i] = l[i].name.flatten.length + 5 + cntRs l[i].rrs := rfl
    clear hget
    revert hset hfin hlen'
    generalize markL cntS markS (l.take i) k ++ l.drop i = L
    generalize hr : l[i] = r at hc hbi hsuc
    generalize hK : k + (cntL cntS (l.take i) : Int) = K
    intro hlen' hset hfin
    have n1 := hbi.n.len
    have n2 := hbi.n.mem
    have r1 := hbi.r
    have hiL : i < L.length := by omega
    have hKn : 0 ≤ K := by omega
    have hKm : K + cntS r ≤ 9223372036854775807 := by omega
    refine kSub (t := ⟨tabSl [(0, .c (.arr 0 0)), (1, .i (K)), (5, .i i)], upd F 0 ⟨0, 7 * i, .arr true (encS (L.set i r))⟩, []⟩) (.tab (by rw [hset]) ⟨.refl _, .refl _, .refl _, trivial⟩) ?_
    refine kSeq (kSeq (kReg (kMovC rfl (kMovC rfl (kLen rfl rfl rfl (kBin rfl rfl rfl (kDone ?_)))))))
    rw [len_encL, List.length_set]
    refine kCond rfl (fun h1 => ?_) (fun h1 => by exfalso; simp at h1; omega)
    refine kSkip (kSeq (kBlock ?_))
    refine kSeq (kReg ?_)
    refine kMovC rfl (kMovC rfl (kIadA rfl rfl rfl rfl ?_ ?_))
    · rw [len_encL, List.length_set]; omega
    refine kFadE rfl rfl (kFadE rfl rfl (?_))
    refine kLoadE rfl rfl (v := .c (.sub 0 0 (7 * i) i 0)) ?_ (kMovC rfl ?_)
    · show pickCells none (AC.ofCells 0 0 (7 * i) i 0 (((encS (L.set i ⟨r.name, r.ty, r.kind, r.rrs, r.rank, r.til, r.used⟩)).row i).drop 0)) = _
      rw [row_encLS 7 Slot.cells _ _ _ hiL]
      rfl
    refine kCallS (ok_laws_markByteSS r.name _ (by omega) (by omega) n1) rfl ⟨⟨rfl, rfl, rfl, rfl, rfl, rfl, (at_encLS 7 Slot.cells L i 0 ⟨r.name, r.ty, r.kind, r.rrs, r.rank, r.til, r.used⟩ hiL).symm, rfl⟩, rfl, trivial⟩ ?_ rfl ?_
    · simp [encL, DV.rows]; omega
    rintro ra os ⟨rfl, ho⟩
    refine ⟨_, rfl, ?_⟩
    refine kMovC rfl (kDone ?_)
    refine kSub (t := ⟨tabSl [(0, .c (.arr 0 0)), (1, .i (K + (r.name.flatten.length : Int))), (5, .i i)], upd F 0 ⟨0, (7 * i + 1), .arr true (encS (L.set i ⟨markss r.name (K), r.ty, r.kind, r.rrs, r.rank, r.til, r.used⟩))⟩, []⟩) (.tab ?_ ⟨.refl _, .refl _, .refl _, trivial⟩) ?_
    · refine Eq.trans ?_ (upd_upd _ _ _ _).symm
      refine congrArg (upd _ _) ?_
      show _ = Ob.mk _ _ (OK.arr _ ((encS (L.set i ⟨r.name, r.ty, r.kind, r.rrs, r.rank, r.til, r.used⟩)).setCell i 0 (os.a 0)))
      rw [ho, setCell_encLS 7 Slot.cells L i 0 ⟨r.name, r.ty, r.kind, r.rrs, r.rank, r.til, r.used⟩ ⟨markss r.name (K), r.ty, r.kind, r.rrs, r.rank, r.til, r.used⟩ _ hiL rfl]
      try rfl
    refine kSeq (kReg ?_)
    refine kMovC rfl (kMovC rfl (kMovC rfl (kIadA rfl rfl rfl rfl ?_ (kFadE rfl rfl ?_))))
    · rw [len_encL, List.length_set]; omega
    refine kStoreE1 rfl rfl rfl rfl (by simp [encL, DV.esz]) (kDone ?_)
    refine kSub (t := ⟨tabSl [(0, .c (.arr 0 0)), (1, .i (K + (r.name.flatten.length : Int))), (5, .i i)], upd F 0 ⟨0, (7 * i + 2), .arr true (encS (L.set i ⟨markss r.name (K), (K + (r.name.flatten.length : Int)), r.kind, r.rrs, r.rank, r.til, r.used⟩))⟩, []⟩) (.tab ?_ ⟨.refl _, .refl _, .refl _, trivial⟩) ?_
    · refine Eq.trans ?_ (upd_upd _ _ _ _).symm
      refine congrArg (upd _ _) ?_
      show _ = Ob.mk _ _ (OK.arr _ (setRow (encS (L.set i ⟨markss r.name (K), r.ty, r.kind, r.rrs, r.rank, r.til, r.used⟩)) i 1 _))
      rw [setRow_encLS 7 Slot.cells L i 1 ⟨markss r.name (K), r.ty, r.kind, r.rrs, r.rank, r.til, r.used⟩ ⟨markss r.name (K), (K + (r.name.flatten.length : Int)), r.kind, r.rrs, r.rank, r.til, r.used⟩ _ hiL rfl]
      try rfl
    refine kSeq (kReg ?_)
    refine kMovC rfl (kAdd rfl rfl (by omega) (kMovC rfl (kDone ?_)))
    refine kSeq (kReg ?_)
    refine kMovC rfl (kMovC rfl (kMovC rfl (kIadA rfl rfl rfl rfl ?_ (kFadE rfl rfl ?_))))
    · rw [len_encL, List.length_set]; omega
    refine kStoreE1 rfl rfl rfl rfl (by simp [encL, DV.esz]) (kDone ?_)
    refine kSub (t := ⟨tabSl [(0, .c (.arr 0 0)), (1, .i (K + (r.name.flatten.length : Int) + 1)), (5, .i i)], upd F 0 ⟨0, (7 * i + 3), .arr true (encS (L.set i ⟨markss r.name (K), (K + (r.name.flatten.length : Int)), (K + (r.name.flatten.length : Int) + 1), r.rrs, r.rank, r.til, r.used⟩))⟩, []⟩) (.tab ?_ ⟨.refl _, .refl _, .refl _, trivial⟩) ?_
    · refine Eq.trans ?_ (upd_upd _ _ _ _).symm
      refine congrArg (upd _ _) ?_
      show _ = Ob.mk _ _ (OK.arr _ (setRow (encS (L.set i ⟨markss r.name (K), (K + (r.name.flatten.length : Int)), r.kind, r.rrs, r.rank, r.til, r.used⟩)) i 2 _))
      rw [setRow_encLS 7 Slot.cells L i 2 ⟨markss r.name (K), (K + (r.name.flatten.length : Int)), r.kind, r.rrs, r.rank, r.til, r.used⟩ ⟨markss r.name (K), (K + (r.name.flatten.length : Int)), (K + (r.name.flatten.length : Int) + 1), r.rrs, r.rank, r.til, r.used⟩ _ hiL rfl]
      try rfl
    refine kSeq (kReg ?_)
    refine kMovC rfl (kAdd rfl rfl (by omega) (kMovC rfl (kDone ?_)))
    refine kSeq (kReg ?_)
    refine kMovC rfl (kMovC rfl (kIadA rfl rfl rfl rfl ?_ ?_))
    · rw [len_encL, List.length_set]; omega
    refine kFadE rfl rfl (?_)
    refine kLoadE rfl rfl (v := .c (.sub 0 0 (7 * i + 3) i 3)) ?_ (kMovC rfl ?_)
    · show pickCells none (AC.ofCells 0 0 (7 * i + 3) i 3 (((encS (L.set i ⟨markss r.name (K), (K + (r.name.flatten.length : Int)), (K + (r.name.flatten.length : Int) + 1), r.rrs, r.rank, r.til, r.used⟩)).row i).drop 3)) = _
      rw [row_encLS 7 Slot.cells _ _ _ hiL]
      rfl
    refine kCallS (ok_laws_markRrS r.rrs _ (by omega) (by omega) r1) rfl ⟨⟨rfl, rfl, rfl, rfl, rfl, rfl, (at_encLS 7 Slot.cells L i 3 ⟨markss r.name (K), (K + (r.name.flatten.length : Int)), (K + (r.name.flatten.length : Int) + 1), r.rrs, r.rank, r.til, r.used⟩ hiL).symm, rfl⟩, rfl, trivial⟩ ?_ rfl ?_
    · simp [encL, DV.rows]; omega
    rintro ra os ⟨rfl, ho⟩
    refine ⟨_, rfl, ?_⟩
    refine kMovC rfl (kDone ?_)
    refine kSub (t := ⟨tabSl [(0, .c (.arr 0 0)), (1, .i (K + (r.name.flatten.length : Int) + 1 + 1 + (cntRs r.rrs : Int))), (5, .i i)], upd F 0 ⟨0, (7 * i + 4), .arr true (encS (L.set i ⟨markss r.name (K), (K + (r.name.flatten.length : Int)), (K + (r.name.flatten.length : Int) + 1), markRs r.rrs (K + (r.name.flatten.length : Int) + 1 + 1), r.rank, r.til, r.used⟩))⟩, []⟩) (.tab ?_ ⟨.refl _, .refl _, .refl _, trivial⟩) ?_
    · refine Eq.trans ?_ (upd_upd _ _ _ _).symm
      refine congrArg (upd _ _) ?_
      show _ = Ob.mk _ _ (OK.arr _ ((encS (L.set i ⟨markss r.name (K), (K + (r.name.flatten.length : Int)), (K + (r.name.flatten.length : Int) + 1), r.rrs, r.rank, r.til, r.used⟩)).setCell i 3 (os.a 0)))
      rw [ho, setCell_encLS 7 Slot.cells L i 3 ⟨markss r.name (K), (K + (r.name.flatten.length : Int)), (K + (r.name.flatten.length : Int) + 1), r.rrs, r.rank, r.til, r.used⟩ ⟨markss r.name (K), (K + (r.name.flatten.length : Int)), (K + (r.name.flatten.length : Int) + 1), markRs r.rrs (K + (r.name.flatten.length : Int) + 1 + 1), r.rank, r.til, r.used⟩ _ hiL rfl]
      try rfl
    refine kSeq (kReg ?_)
    refine kMovC rfl (kMovC rfl (kMovC rfl (kIadA rfl rfl rfl rfl ?_ (kFadE rfl rfl ?_))))
    · rw [len_encL, List.length_set]; omega
    refine kStoreE1 rfl rfl rfl rfl (by simp [encL, DV.esz]) (kDone ?_)
    refine kSub (t := ⟨tabSl [(0, .c (.arr 0 0)), (1, .i (K + (r.name.flatten.length : Int) + 1 + 1 + (cntRs r.rrs : Int))), (5, .i i)], upd F 0 ⟨0, (7 * i + 5), .arr true (encS (L.set i ⟨markss r.name (K), (K + (r.name.flatten.length : Int)), (K + (r.name.flatten.length : Int) + 1), markRs r.rrs (K + (r.name.flatten.length : Int) + 1 + 1), (K + (r.name.flatten.length : Int) + 1 + 1 + (cntRs r.rrs : Int)), r.til, r.used⟩))⟩, []⟩) (.tab ?_ ⟨.refl _, .refl _, .refl _, trivial⟩) ?_
    · refine Eq.trans ?_ (upd_upd _ _ _ _).symm
      refine congrArg (upd _ _) ?_
      show _ = Ob.mk _ _ (OK.arr _ (setRow (encS (L.set i ⟨markss r.name (K), (K + (r.name.flatten.length : Int)), (K + (r.name.flatten.length : Int) + 1), markRs r.rrs (K + (r.name.flatten.length : Int) + 1 + 1), r.rank, r.til, r.used⟩)) i 4 _))
      rw [setRow_encLS 7 Slot.cells L i 4 ⟨markss r.name (K), (K + (r.name.flatten.length : Int)), (K + (r.name.flatten.length : Int) + 1), markRs r.rrs (K + (r.name.flatten.length : Int) + 1 + 1), r.rank, r.til, r.used⟩ ⟨markss r.name (K), (K + (r.name.flatten.length : Int)), (K + (r.name.flatten.length : Int) + 1), markRs r.rrs (K + (r.name.flatten.length : Int) + 1 + 1), (K + (r.name.flatten.length : Int) + 1 + 1 + (cntRs r.rrs : Int)), r.til, r.used⟩ _ hiL rfl]
      try rfl
    refine kSeq (kReg ?_)
    refine kMovC rfl (kAdd rfl rfl (by omega) (kMovC rfl (kDone ?_)))
    refine kSeq (kReg ?_)
    refine kMovC rfl (kMovC rfl (kMovC rfl (kIadA rfl rfl rfl rfl ?_ (kFadE rfl rfl ?_))))
    · rw [len_encL, List.length_set]; omega
    refine kStoreE1 rfl rfl rfl rfl (by simp [encL, DV.esz]) (kDone ?_)
    refine kSub (t := ⟨tabSl [(0, .c (.arr 0 0)), (1, .i (K + (r.name.flatten.length : Int) + 1 + 1 + (cntRs r.rrs : Int) + 1)), (5, .i i)], upd F 0 ⟨0, (7 * i + 6), .arr true (encS (L.set i ⟨markss r.name (K), (K + (r.name.flatten.length : Int)), (K + (r.name.flatten.length : Int) + 1), markRs r.rrs (K + (r.name.flatten.length : Int) + 1 + 1), (K + (r.name.flatten.length : Int) + 1 + 1 + (cntRs r.rrs : Int)), (K + (r.name.flatten.length : Int) + 1 + 1 + (cntRs r.rrs : Int) + 1), r.used⟩))⟩, []⟩) (.tab ?_ ⟨.refl _, .refl _, .refl _, trivial⟩) ?_
    · refine Eq.trans ?_ (upd_upd _ _ _ _).symm
      refine congrArg (upd _ _) ?_
      show _ = Ob.mk _ _ (OK.arr _ (setRow (encS (L.set i ⟨markss r.name (K), (K + (r.name.flatten.length : Int)), (K + (r.name.flatten.length : Int) + 1), markRs r.rrs (K + (r.name.flatten.length : Int) + 1 + 1), (K + (r.name.flatten.length : Int) + 1 + 1 + (cntRs r.rrs : Int)), r.til, r.used⟩)) i 5 _))
      rw [setRow_encLS 7 Slot.cells L i 5 ⟨markss r.name (K), (K + (r.name.flatten.length : Int)), (K + (r.name.flatten.length : Int) + 1), markRs r.rrs (K + (r.name.flatten.length : Int) + 1 + 1), (K + (r.name.flatten.length : Int) + 1 + 1 + (cntRs r.rrs : Int)), r.til, r.used⟩ ⟨markss r.name (K), (K + (r.name.flatten.length : Int)), (K + (r.name.flatten.length : Int) + 1), markRs r.rrs (K + (r.name.flatten.length : Int) + 1 + 1), (K + (r.name.flatten.length : Int) + 1 + 1 + (cntRs r.rrs : Int)), (K + (r.name.flatten.length : Int) + 1 + 1 + (cntRs r.rrs : Int) + 1), r.used⟩ _ hiL rfl]
      try rfl
    refine kSeq (kReg ?_)
    refine kMovC rfl (kAdd rfl rfl (by omega) (kMovC rfl (kDone ?_)))
    refine kSeq (kReg ?_)
    refine kMovC rfl (kMovC rfl (kMovC rfl (kIadA rfl rfl rfl rfl ?_ (kFadE rfl rfl ?_))))
    · rw [len_encL, List.length_set]; omega
    refine kStoreE1 rfl rfl rfl rfl (by simp [encL, DV.esz]) (kDone ?_)
    refine kSub (t := ⟨tabSl [(0, .c (.arr 0 0)), (1, .i (K + (r.name.flatten.length : Int) + 1 + 1 + (cntRs r.rrs : Int) + 1 + 1)), (5, .i i)], upd F 0 ⟨0, (7 * i + 7), .arr true (encS (L.set i ⟨markss r.name (K), (K + (r.name.flatten.length : Int)), (K + (r.name.flatten.length : Int) + 1), markRs r.rrs (K + (r.name.flatten.length : Int) + 1 + 1), (K + (r.name.flatten.length : Int) + 1 + 1 + (cntRs r.rrs : Int)), (K + (r.name.flatten.length : Int) + 1 + 1 + (cntRs r.rrs : Int) + 1), (K + (r.name.flatten.length : Int) + 1 + 1 + (cntRs r.rrs : Int) + 1 + 1)⟩))⟩, []⟩) (.tab ?_ ⟨.refl _, .refl _, .refl _, trivial⟩) ?_
    · refine Eq.trans ?_ (upd_upd _ _ _ _).symm
      refine congrArg (upd _ _) ?_
      show _ = Ob.mk _ _ (OK.arr _ (setRow (encS (L.set i ⟨markss r.name (K), (K + (r.name.flatten.length : Int)), (K + (r.name.flatten.length : Int) + 1), markRs r.rrs (K + (r.name.flatten.length : Int) + 1 + 1), (K + (r.name.flatten.length : Int) + 1 + 1 + (cntRs r.rrs : Int)), (K + (r.name.flatten.length : Int) + 1 + 1 + (cntRs r.rrs : Int) + 1), r.used⟩)) i 6 _))
      rw [setRow_encLS 7 Slot.cells L i 6 ⟨markss r.name (K), (K + (r.name.flatten.length : Int)), (K + (r.name.flatten.length : Int) + 1), markRs r.rrs (K + (r.name.flatten.length : Int) + 1 + 1), (K + (r.name.flatten.length : Int) + 1 + 1 + (cntRs r.rrs : Int)), (K + (r.name.flatten.length : Int) + 1 + 1 + (cntRs r.rrs : Int) + 1), r.used⟩ ⟨markss r.name (K), (K + (r.name.flatten.length : Int)), (K + (r.name.flatten.length : Int) + 1), markRs r.rrs (K + (r.name.flatten.length : Int) + 1 + 1), (K + (r.name.flatten.length : Int) + 1 + 1 + (cntRs r.rrs : Int)), (K + (r.name.flatten.length : Int) + 1 + 1 + (cntRs r.rrs : Int) + 1), (K + (r.name.flatten.length : Int) + 1 + 1 + (cntRs r.rrs : Int) + 1 + 1)⟩ _ hiL rfl]
      try rfl
    refine kReg ?_
    refine kMovC rfl (kAdd rfl rfl (by omega) (kMovC rfl (kDone (kBk ?_))))
    rw [hfin _ (by rw [← hr, ← hK]; rfl)]
    refine kReg (kMovC rfl (kAdd rfl rfl (by omega) (kMovC rfl (kDone (kInv ?_)))))
    refine ⟨⟨i + 1, hlt⟩, by simp only; omega, .tab rfl ⟨.refl _, ?_, .refl _, trivial⟩⟩
    refine Eq.mp (congrArg (fun z => WkV _ (.i z)) ?_) (.refl _)
    show _ = k + ((cntL cntS (l.take (i + 1)) : Nat) : Int)
    omega
  · refine kSeq (kSeq (kReg (kMovC rfl (kMovC rfl (kLen rfl rfl rfl (kBin rfl rfl rfl (kDone ?_)))))))
    rw [len_encL, hlen']
    refine kCond rfl (fun h1 => by exfalso; simp at h1; omega) (fun h1 => ?_)
    refine kExit (kExC (kExI (kExB ?_)))
    obtain rfl : i = l.length := by omega
    refine kSeq (kReg (kMovC rfl (kMovC rfl (kDone (kRet ?_)))))
    subst hF
    refine endRet (ra := [.one (.d _)]) rfl ⟨⟨⟨rfl, .inl rfl⟩, trivial⟩, .nil, ⟨rfl, fun _ => rfl, rfl⟩, trivial, trivial⟩ ?_
    refine ⟨by simp, ?_⟩
    show encS (markL cntS markS (l.take l.length) k ++ l.drop l.length) = _
    simp

def c_laws_markCache : C := (.seq (.reg false (.o 0 2 (.box 2 (.t 0)) (.o 1 4 (.mov (.i 0)) .done))) (.seq (.reg false (.o 0 5 (.fad (.t 2) 2) (.o 1 6 (.load none (.t 5)) (.o 2 7 (.mov (.t 1)) (.o 3 8 (.call 8 112 [(.t 6), (.t 7)]) (.o 4 1 (.mov (.t 8)) .done)))))) (.seq (.reg false (.o 0 9 (.mov (.t 1)) (.o 1 4 (.mov (.t 9)) .done))) .ret)))
theorem dg_laws_markCache : Tryz.f37.body.bind (digC Tryz.prog Tryz.f37.ntmps []) = some c_laws_markCache := by kernel_rfl
theorem rs_laws_markCache : resSlots Tryz.prog Tryz.f37 = some [.s 4] := by kernel_rfl
theorem ok_laws_markCache (a : Cache) (k : Int) (h0 : 0 ≤ k) (hk : k + cntSs a.slots ≤ 9223372036854775807) (hs : SmallSs a.slots) :
    FnOK Tryz.prog 37 [.agg [.d (.sc (.int .i64 a.now)), .d (.sc (.int .i64 a.turn)), .arr false true (encS a.slots)], .one (.d (.sc (.int .i64 k)))] (fun ra os => ra = [.one (.d (.sc (.int .i64 (k + cntSs a.slots))))] ∧ outsAre [(2, encS (markSs a.slots k))] os) := by
  refine FnOK.ofK Tryz.func37 (by kernel_rfl) dg_laws_markCache rs_laws_markCache rfl rfl ?_
  delta c_laws_markCache T.o X.i
  refine kSeq (kReg (kBox rfl rfl rfl rfl rfl (kMovC rfl (kDone (kSeq (kReg (kFadP rfl rfl (kLoadP rfl rfl rfl (kMovC rfl (kCallA (ok_laws_markSlotS _ _ (by first | assumption | omega | solve_by_elim [List.getElem_mem] | (simp only [szOut] at *; omega) | exact rfl | exact leb | exact rrOk_small (by assumption) | exact zoneOk_small (by assumption) | exact SmallBB.ok (by assumption) | exact (SmallBB.ok (by assumption)).len | exact (SmallBB.ok (by assumption)).mem | exact SmallBB.bent (by assumption)) (by first | assumption | omega | solve_by_elim [List.getElem_mem] | (simp only [szOut] at *; omega) | exact rfl | exact leb | exact rrOk_small (by assumption) | exact zoneOk_small (by assumption) | exact SmallBB.ok (by assumption) | exact (SmallBB.ok (by assumption)).len | exact (SmallBB.ok (by assumption)).mem | exact SmallBB.bent (by assumption)) (by first | assumption | omega | solve_by_elim [List.getElem_mem] | (simp only [szOut] at *; omega) | exact rfl | exact leb | exact rrOk_small (by assumption) | exact zoneOk_small (by assumption) | exact SmallBB.ok (by assumption) | exact (SmallBB.ok (by assumption)).len | exact (SmallBB.ok (by assumption)).mem | exact SmallBB.bent (by assumption))) ⟨⟨_, rfl, .inl rfl⟩, rfl, trivial⟩ rfl rfl rfl rfl (kMovC rfl (kDone (kSeq (kReg (kMovC rfl (kMovC rfl (kDone (kRet (endRetA (ra := [.one (.d _)]) rfl ?_)))))))))))))))))))
  exact ⟨rfl, rfl, trivial⟩

def c_laws_heldByteS : C := (.seq (.reg false (.o 0 4 (.mov (.i 0)) .done)) (.seq (.seq (.reg false (.o 0 5 (.mov (.i 0)) .done)) (.block 0 (.loop (.seq (.seq (.reg false (.o 0 6 (.mov (.t 5)) (.o 1 7 (.mov (.t 0)) (.o 2 8 (.len (.t 7)) (.o 3 9 (.bin .lss (.t 6) (.t 8)) .done))))) (.cond (.t 9) .skip (.exit 0))) (.seq (.block 1 (.seq (.seq (.reg false (.o 0 12 (.mov (.t 0)) (.o 1 13 (.mov (.t 5)) (.o 2 14 (.iad 1 (.t 12) (.t 13)) (.o 3 15 (.load none (.t 14)) (.o 4 16 (.mov (.t 1)) (.o 5 17 (.conv .u8 (.t 16)) (.o 6 18 (.bin .neq (.t 15) (.t 17)) .done)))))))) (.cond (.t 18) (.seq (.reg false (.o 0 4 (.mov (.i (-1))) .done)) .ret) .skip)) (.reg false (.o 0 19 (.mov (.t 1)) (.o 1 20 (.bin .add (.t 19) (.i 1)) (.o 2 1 (.mov (.t 20)) .done)))))) (.reg false (.o 0 10 (.mov (.t 5)) (.o 1 11 (.bin .add (.t 10) (.i 1)) (.o 2 5 (.mov (.t 11)) .done))))))))) (.seq (.reg false (.o 0 21 (.mov (.t 1)) (.o 1 4 (.mov (.t 21)) .done))) .ret)))
theorem dg_laws_heldByteS : Tryz.f160.body.bind (digC Tryz.prog Tryz.f160.ntmps []) = some c_laws_heldByteS := by kernel_rfl
theorem rs_laws_heldByteS : resSlots Tryz.prog Tryz.f160 = some [.s 4] := by kernel_rfl
theorem ok_laws_heldByteS (n : Nat) (k : Int) (h0 : 0 ≤ k) (hk : k + n ≤ 9223372036854775807) :
    FnOK Tryz.prog 160 [.one (.d (encB (marks n k))), .one (.d (.sc (.int .i64 k)))] (fun ra _ => ra = [.one (.d (.sc (.int .i64 (k + n))))]) := by
  refine FnOK.ofK Tryz.func160 (by kernel_rfl) dg_laws_heldByteS rs_laws_heldByteS rfl rfl ?_
  delta c_laws_heldByteS T.o X.i
  have hm := marks_len n k
  refine kSeq (kReg (kMovC rfl (kDone (kSeq (kSeq (kReg (kMovC rfl (kDone (kBlock ?_)))))))))
  refine kLoop (α := { i : Nat // i ≤ n })
    (fun y => ⟨tabSl [(0, .dv (encB (marks n k))), (1, .i (k + y.1)), (5, .i y.1)], obTab 1 [], []⟩) (fun y => n - y.1) ⟨0, by simp⟩
    .normA ?_
  rintro ⟨i, hi⟩
  simp only
  refine kSeq (kSeq (kReg (kMovC rfl (kMovC rfl (kLenR rfl rfl (kBin rfl rfl rfl (kDone (kCondP rfl (fun g0 => kSkip (kSeq (kBlock (kSeq (kSeq (kReg (kMovC rfl (kMovC rfl (kIadR rfl rfl rfl (by omega) (kLoadD rfl rfl (kMovC rfl (kConv rfl (kBin rfl rfl rfl (kDone (kCondN rfl (fun g1 => kSeq (kReg (kMovC rfl (kDone (kRet (endRetA (ra := [.one (.d _)]) rfl ?_)))))) (fun g1 => kSkip (kReg (kMovC rfl (kAdd rfl rfl (by omega) (kMovC rfl (kDone (kBk (kReg (kMovC rfl (kAdd rfl rfl (by omega) (kMovC rfl (kDone ?_))))))))))))))))))))))))))) (fun g0 => kExit (kExC (kExI (kExB (kSeq (kReg (kMovC rfl (kMovC rfl (kDone (kRet (endRetA (ra := [.one (.d _)]) rfl ?_)))))))))))))))))))
  · rw [marks_get, beq_self_eq_true] at g1; cases g1
  · exact kInv ⟨⟨i + 1, by omega⟩, by simp only; omega, .normA⟩
  · rw [show i = n by omega]

def c_laws_heldByteSS : C := (.seq (.reg false (.o 0 4 (.mov (.i 0)) .done)) (.seq (.seq (.reg false (.o 0 5 (.mov (.i 0)) .done)) (.block 0 (.loop (.seq (.seq (.reg false (.o 0 6 (.mov (.t 5)) (.o 1 7 (.mov (.t 0)) (.o 2 8 (.len (.t 7)) (.o 3 9 (.bin .lss (.t 6) (.t 8)) .done))))) (.cond (.t 9) .skip (.exit 0))) (.seq (.block 1 (.seq (.reg false (.o 0 12 (.mov (.t 0)) (.o 1 13 (.mov (.t 5)) (.o 2 14 (.iad 1 (.t 12) (.t 13)) (.o 3 15 (.load none (.t 14)) (.o 4 16 (.mov (.t 1)) (.o 5 17 (.call 17 160 [(.t 15), (.t 16)]) (.o 6 1 (.mov (.t 17)) .done)))))))) (.seq (.reg false (.o 0 18 (.mov (.t 1)) (.o 1 19 (.bin .lss (.t 18) (.i 0)) .done))) (.cond (.t 19) (.seq (.reg false (.o 0 4 (.mov (.i (-1))) .done)) .ret) .skip)))) (.reg false (.o 0 10 (.mov (.t 5)) (.o 1 11 (.bin .add (.t 10) (.i 1)) (.o 2 5 (.mov (.t 11)) .done))))))))) (.seq (.reg false (.o 0 20 (.mov (.t 1)) (.o 1 4 (.mov (.t 20)) .done))) .ret)))
theorem dg_laws_heldByteSS : Tryz.f114.body.bind (digC Tryz.prog Tryz.f114.ntmps []) = some c_laws_heldByteSS := by kernel_rfl
theorem rs_laws_heldByteSS : resSlots Tryz.prog Tryz.f114 = some [.s 4] := by kernel_rfl
theorem ok_laws_heldByteSS (a : List (List UInt8)) (k : Int) (h0 : 0 ≤ k) (hk : k + a.flatten.length ≤ 9223372036854775807) (hl : a.length ≤ 4194304) :
    FnOK Tryz.prog 114 [.one (.d (encBB (markss a k))), .one (.d (.sc (.int .i64 k)))] (fun ra _ => ra = [.one (.d (.sc (.int .i64 (k + a.flatten.length))))]) := by
  refine FnOK.ofK Tryz.func114 (by kernel_rfl) dg_laws_heldByteSS rs_laws_heldByteSS rfl rfl ?_
  delta c_laws_heldByteSS T.o X.i
  have hm := markss_len a k
  refine kSeq (kReg (kMovC rfl (kDone (kSeq (kSeq (kReg (kMovC rfl (kDone (kBlock ?_)))))))))
  refine kLoop (α := { i : Nat // i ≤ a.length })
    (fun y => ⟨tabSl [(0, .dv (encBB (markss a k))), (1, .i (k + (a.take y.1).flatten.length)), (5, .i y.1)], obTab 1 [], []⟩) (fun y => a.length - y.1) ⟨0, by simp⟩
    .normA ?_
  rintro ⟨i, hi⟩
  simp only
  have hsuc : ∀ h : i < a.length, (a.take (i + 1)).flatten.length = (a.take i).flatten.length + a[i].length := take_flat a i
  have hle := flat_le a i
  have hle2 := flat_le a (i + 1)
  refine kSeq (kSeq (kReg (kMovC rfl (kMovC rfl (kLenR rfl rfl (kBin rfl rfl rfl (kDone (kCondP rfl (fun g0 => kSkip (kSeq (kBlock (kSeq (kReg (kMovC rfl (kMovC rfl (kIadR rfl rfl rfl (by omega) (kLoadD rfl rfl (kMovC rfl ?_)))))))))) (fun g0 => kExit (kExC (kExI (kExB (kSeq (kReg (kMovC rfl (kMovC rfl (kDone (kRet (endRetA (ra := [.one (.d _)]) rfl ?_)))))))))))))))))))
  · have hlt : i < a.length := by omega
    have := hsuc hlt
    rw [markss_get a k i (by omega) hlt]
    refine kCall1 true (ok_laws_heldByteS a[i].length (k + (a.take i).flatten.length) (by omega) (by omega)) ⟨rfl, rfl, trivial⟩ rfl rfl rfl (fun _ => ?_)
    refine kMovC rfl (kDone (kSeq (kReg (kMovC rfl (kBin rfl rfl rfl (kDone (kCondP rfl (fun g0 => kSeq (kReg (kMovC rfl (kDone (kRet (endRetA (ra := [.one (.d _)]) rfl ?_)))))) (fun g0 => kSkip (kBk (kReg (kMovC rfl (kAdd rfl rfl (by omega) (kMovC rfl (kDone ?_))))))))))))))
    · omega
    · exact kInv ⟨⟨i + 1, by omega⟩, by simp only; omega, .normA⟩
  · rw [show i = a.length by omega, List.take_length]

def c_laws_heldIntS : C := (.seq (.reg false (.o 0 4 (.mov (.i 0)) .done)) (.seq (.seq (.reg false (.o 0 5 (.mov (.i 0)) .done)) (.block 0 (.loop (.seq (.seq (.reg false (.o 0 6 (.mov (.t 5)) (.o 1 7 (.mov (.t 0)) (.o 2 8 (.len (.t 7)) (.o 3 9 (.bin .lss (.t 6) (.t 8)) .done))))) (.cond (.t 9) .skip (.exit 0))) (.seq (.block 1 (.seq (.seq (.reg false (.o 0 12 (.mov (.t 0)) (.o 1 13 (.mov (.t 5)) (.o 2 14 (.iad 1 (.t 12) (.t 13)) (.o 3 15 (.load none (.t 14)) (.o 4 16 (.mov (.t 1)) (.o 5 17 (.bin .neq (.t 15) (.t 16)) .done))))))) (.cond (.t 17) (.seq (.reg false (.o 0 4 (.mov (.i (-1))) .done)) .ret) .skip)) (.reg false (.o 0 18 (.mov (.t 1)) (.o 1 19 (.bin .add (.t 18) (.i 1)) (.o 2 1 (.mov (.t 19)) .done)))))) (.reg false (.o 0 10 (.mov (.t 5)) (.o 1 11 (.bin .add (.t 10) (.i 1)) (.o 2 5 (.mov (.t 11)) .done))))))))) (.seq (.reg false (.o 0 20 (.mov (.t 1)) (.o 1 4 (.mov (.t 20)) .done))) .ret)))
theorem dg_laws_heldIntS : Tryz.f133.body.bind (digC Tryz.prog Tryz.f133.ntmps []) = some c_laws_heldIntS := by kernel_rfl
theorem rs_laws_heldIntS : resSlots Tryz.prog Tryz.f133 = some [.s 4] := by kernel_rfl
theorem ok_laws_heldIntS (n : Nat) (k : Int) (h0 : 0 ≤ k) (hk : k + n ≤ 9223372036854775807) :
    FnOK Tryz.prog 133 [.one (.d (encI (marksI n k))), .one (.d (.sc (.int .i64 k)))] (fun ra _ => ra = [.one (.d (.sc (.int .i64 (k + n))))]) := by
  refine FnOK.ofK Tryz.func133 (by kernel_rfl) dg_laws_heldIntS rs_laws_heldIntS rfl rfl ?_
  delta c_laws_heldIntS T.o X.i
  have hm := marksI_len n k
  refine kSeq (kReg (kMovC rfl (kDone (kSeq (kSeq (kReg (kMovC rfl (kDone (kBlock ?_)))))))))
  refine kLoop (α := { i : Nat // i ≤ n })
    (fun y => ⟨tabSl [(0, .dv (encI (marksI n k))), (1, .i (k + y.1)), (5, .i y.1)], obTab 1 [], []⟩) (fun y => n - y.1) ⟨0, by simp⟩
    .normA ?_
  rintro ⟨i, hi⟩
  simp only
  rcases Nat.lt_or_ge i n with hlt | hge
  · have hg := marksI_get n k i (by omega)
    refine kSeq (kSeq (kReg (kMovC rfl (kMovC rfl (kLenR rfl rfl (kBin rfl rfl rfl (kDone (kCondP rfl (fun g0 => kSkip (kSeq (kBlock (kSeq (kSeq (kReg (kMovC rfl (kMovC rfl (kIadR rfl rfl rfl (by omega) (kLoadD rfl rfl (kMovC rfl (kBin rfl rfl rfl (kDone (kCondIN rfl (fun g1 => (by omega)) (fun g1 => kSkip (kReg (kMovC rfl (kAdd rfl rfl (by omega) (kMovC rfl (kDone (kBk (kReg (kMovC rfl (kAdd rfl rfl (by omega) (kMovC rfl (kDone ?_)))))))))))))))))))))))))) (fun g0 => (by omega))))))))))
    exact kInv ⟨⟨i + 1, by omega⟩, by simp only; omega, .normA⟩
  · refine kSeq (kSeq (kReg (kMovC rfl (kMovC rfl (kLenR rfl rfl (kBin rfl rfl rfl (kDone (kCondP rfl (fun g0 => (by omega)) (fun g0 => kExit (kExC (kExI (kExB (kSeq (kReg (kMovC rfl (kMovC rfl (kDone (kRet (endRetA (ra := [.one (.d _)]) rfl ?_)))))))))))))))))))
    rw [show i = n by omega]

def c_laws_heldRrS : C := (.seq (.reg false (.o 0 4 (.mov (.i 0)) .done)) (.seq (.seq (.reg false (.o 0 5 (.mov (.i 0)) .done)) (.block 0 (.loop (.seq (.seq (.reg false (.o 0 6 (.mov (.t 5)) (.o 1 7 (.mov (.t 0)) (.o 2 8 (.len (.t 7)) (.o 3 9 (.bin .lss (.t 6) (.t 8)) .done))))) (.cond (.t 9) .skip (.exit 0))) (.seq (.block 1 (.seq (.reg false (.o 0 12 (.mov (.t 0)) (.o 1 13 (.mov (.t 5)) (.o 2 14 (.iad 7 (.t 12) (.t 13)) (.o 3 15 (.fad (.t 14) 0) (.o 4 16 (.fad (.t 15) 0) (.o 5 17 (.load none (.t 16)) (.o 6 18 (.mov (.t 1)) (.o 7 19 (.call 19 114 [(.t 17), (.t 18)]) (.o 8 1 (.mov (.t 19)) .done)))))))))) (.seq (.seq (.reg false (.o 0 20 (.mov (.t 1)) (.o 1 21 (.bin .lss (.t 20) (.i 0)) .done))) (.cond (.t 21) (.seq (.reg false (.o 0 4 (.mov (.i (-1))) .done)) .ret) .skip)) (.seq (.seq (.reg false (.o 0 22 (.mov (.t 0)) (.o 1 23 (.mov (.t 5)) (.o 2 24 (.iad 7 (.t 22) (.t 23)) (.o 3 25 (.fad (.t 24) 1) (.o 4 26 (.load none (.t 25)) (.o 5 27 (.mov (.t 1)) (.o 6 28 (.bin .neq (.t 26) (.t 27)) .done)))))))) (.cond (.t 28) (.seq (.reg false (.o 0 4 (.mov (.i (-1))) .done)) .ret) .skip)) (.seq (.reg false (.o 0 29 (.mov (.t 1)) (.o 1 30 (.bin .add (.t 29) (.i 1)) (.o 2 1 (.mov (.t 30)) .done)))) (.seq (.seq (.reg false (.o 0 31 (.mov (.t 0)) (.o 1 32 (.mov (.t 5)) (.o 2 33 (.iad 7 (.t 31) (.t 32)) (.o 3 34 (.fad (.t 33) 2) (.o 4 35 (.load none (.t 34)) (.o 5 36 (.mov (.t 1)) (.o 6 37 (.bin .neq (.t 35) (.t 36)) .done)))))))) (.cond (.t 37) (.seq (.reg false (.o 0 4 (.mov (.i (-1))) .done)) .ret) .skip)) (.seq (.reg false (.o 0 38 (.mov (.t 1)) (.o 1 39 (.bin .add (.t 38) (.i 1)) (.o 2 1 (.mov (.t 39)) .done)))) (.seq (.seq (.reg false (.o 0 40 (.mov (.t 0)) (.o 1 41 (.mov (.t 5)) (.o 2 42 (.iad 7 (.t 40) (.t 41)) (.o 3 43 (.fad (.t 42) 3) (.o 4 44 (.load none (.t 43)) (.o 5 45 (.mov (.t 1)) (.o 6 46 (.bin .neq (.t 44) (.t 45)) .done)))))))) (.cond (.t 46) (.seq (.reg false (.o 0 4 (.mov (.i (-1))) .done)) .ret) .skip)) (.seq (.reg false (.o 0 47 (.mov (.t 1)) (.o 1 48 (.bin .add (.t 47) (.i 1)) (.o 2 1 (.mov (.t 48)) .done)))) (.seq (.reg false (.o 0 49 (.mov (.t 0)) (.o 1 50 (.mov (.t 5)) (.o 2 51 (.iad 7 (.t 49) (.t 50)) (.o 3 52 (.fad (.t 51) 4) (.o 4 53 (.fad (.t 52) 0) (.o 5 54 (.load none (.t 53)) (.o 6 55 (.mov (.t 1)) (.o 7 56 (.call 56 114 [(.t 54), (.t 55)]) (.o 8 1 (.mov (.t 56)) .done)))))))))) (.seq (.seq (.reg false (.o 0 57 (.mov (.t 1)) (.o 1 58 (.bin .lss (.t 57) (.i 0)) .done))) (.cond (.t 58) (.seq (.reg false (.o 0 4 (.mov (.i (-1))) .done)) .ret) .skip)) (.seq (.reg false (.o 0 59 (.mov (.t 0)) (.o 1 60 (.mov (.t 5)) (.o 2 61 (.iad 7 (.t 59) (.t 60)) (.o 3 62 (.fad (.t 61) 5) (.o 4 63 (.load none (.t 62)) (.o 5 64 (.mov (.t 1)) (.o 6 65 (.call 65 160 [(.t 63), (.t 64)]) (.o 7 1 (.mov (.t 65)) .done))))))))) (.seq (.seq (.reg false (.o 0 66 (.mov (.t 1)) (.o 1 67 (.bin .lss (.t 66) (.i 0)) .done))) (.cond (.t 67) (.seq (.reg false (.o 0 4 (.mov (.i (-1))) .done)) .ret) .skip)) (.seq (.reg false (.o 0 68 (.mov (.t 0)) (.o 1 69 (.mov (.t 5)) (.o 2 70 (.iad 7 (.t 68) (.t 69)) (.o 3 71 (.fad (.t 70) 6) (.o 4 72 (.load none (.t 71)) (.o 5 73 (.mov (.t 1)) (.o 6 74 (.call 74 133 [(.t 72), (.t 73)]) (.o 7 1 (.mov (.t 74)) .done))))))))) (.seq (.reg false (.o 0 75 (.mov (.t 1)) (.o 1 76 (.bin .lss (.t 75) (.i 0)) .done))) (.cond (.t 76) (.seq (.reg false (.o 0 4 (.mov (.i (-1))) .done)) .ret) .skip)))))))))))))))) (.reg false (.o 0 10 (.mov (.t 5)) (.o 1 11 (.bin .add (.t 10) (.i 1)) (.o 2 5 (.mov (.t 11)) .done))))))))) (.seq (.reg false (.o 0 77 (.mov (.t 1)) (.o 1 4 (.mov (.t 77)) .done))) .ret)))
theorem dg_laws_heldRrS : Tryz.f63.body.bind (digC Tryz.prog Tryz.f63.ntmps []) = some c_laws_heldRrS := by kernel_rfl
theorem rs_laws_heldRrS : resSlots Tryz.prog Tryz.f63 = some [.s 4] := by kernel_rfl
theorem ok_laws_heldRrS (l : List Rr) (k : Int) (h0 : 0 ≤ k) (hk : k + cntRs l ≤ 9223372036854775807) (hs : SmallRs l) :
    FnOK Tryz.prog 63 [.one (.d (encR (markRs l k))), .one (.d (.sc (.int .i64 k)))] (fun ra _ => ra = [.one (.d (.sc (.int .i64 (k + cntRs l))))]) := by
  refine FnOK.ofK Tryz.func63 (by kernel_rfl) dg_laws_heldRrS rs_laws_heldRrS rfl rfl ?_
  delta c_laws_heldRrS T.o X.i
  have hm := markRs_len l k
  have h1 := hs.len
  refine kSeq (kReg (kMovC rfl (kDone (kSeq (kSeq (kReg (kMovC rfl (kDone (kBlock ?_)))))))))
  refine kLoop (α := { i : Nat // i ≤ l.length }) (fun y => ⟨tabSl [(0, .dv (encR (markRs l k))), (1, .i (k + cntRs (l.take y.1))), (5, .i y.1)], obTab 1 [], []⟩) (fun y => l.length - y.1) ⟨0, by simp⟩ .normA ?_
  rintro ⟨i, hi⟩
  simp only
  have hle := cntRs_le l i
  have hle2 := cntRs_le l (i + 1)
  rcases Nat.lt_or_ge i l.length with hlt | hge
  · have hbi := hs.mem _ (List.getElem_mem hlt)
    have n1 := hbi.n.len
    have t1 := hbi.t.len
    have hsuc := cntRs_take l i hlt
    have hrow := markRs_get l k i (by omega) hlt
    have hc : cntR l[i] = cntBB l[i].name + 3 + cntBB l[i].to + l[i].text.length + l[i].nums.length := rfl
    have hcb : cntBB l[i].name = l[i].name.flatten.length := rfl
    have hct : cntBB l[i].to = l[i].to.flatten.length := rfl
    have e1 : (markR l[i] (k + ↑(cntRs (List.take i l)))).ty = k + (cntRs (l.take i) : Int) + (l[i].name.flatten.length : Int) := rfl
    have e2 : (markR l[i] (k + ↑(cntRs (List.take i l)))).ttl = k + (cntRs (l.take i) : Int) + (l[i].name.flatten.length : Int) + 1 := rfl
    have e3 : (markR l[i] (k + ↑(cntRs (List.take i l)))).addr = k + (cntRs (l.take i) : Int) + (l[i].name.flatten.length : Int) + 1 + 1 := rfl
    refine kSeq (kSeq (kReg (kMovC rfl (kMovC rfl (kLenR rfl rfl (kBin rfl rfl rfl (kDone (kCondP rfl (fun g0 => kSkip (kSeq (kBlock (kSeq (kReg (kMovC rfl (kMovC rfl (kIadRW rfl rfl rfl (by omega) hrow (kFadD rfl (kFadD rfl (kLoadD rfl rfl (kMovC rfl (kCallD (ok_laws_heldByteSS _ _ pr pr pr) ⟨rfl, rfl, trivial⟩ rfl rfl rfl rfl rfl (kMovC rfl (kDone (kSeq (kSeq (kReg (kMovC rfl (kBin rfl rfl rfl (kDone (kCondP rfl (fun g1 => (by omega)) (fun g1 => kSkip (kSeq (kSeq (kReg (kMovC rfl (kMovC rfl (kIadRW rfl rfl rfl (by omega) hrow (kFadD rfl (kLoadD rfl rfl (kMovC rfl (kBin rfl rfl rfl (kDone (kCondIN rfl (fun g2 => (by omega)) (fun g2 => kSkip (kSeq (kReg (kMovC rfl (kAdd rfl rfl (by omega) (kMovC rfl (kDone (kSeq (kSeq (kReg (kMovC rfl (kMovC rfl (kIadRW rfl rfl rfl (by omega) hrow (kFadD rfl (kLoadD rfl rfl (kMovC rfl (kBin rfl rfl rfl (kDone (kCondIN rfl (fun g3 => (by omega)) (fun g3 => kSkip (kSeq (kReg (kMovC rfl (kAdd rfl rfl (by omega) (kMovC rfl (kDone (kSeq (kSeq (kReg (kMovC rfl (kMovC rfl (kIadRW rfl rfl rfl (by omega) hrow (kFadD rfl (kLoadD rfl rfl (kMovC rfl (kBin rfl rfl rfl (kDone (kCondIN rfl (fun g4 => (by omega)) (fun g4 => kSkip (kSeq (kReg (kMovC rfl (kAdd rfl rfl (by omega) (kMovC rfl (kDone (kSeq (kReg (kMovC rfl (kMovC rfl (kIadRW rfl rfl rfl (by omega) hrow (kFadD rfl (kFadD rfl (kLoadD rfl rfl (kMovC rfl (kCallD (ok_laws_heldByteSS _ _ pr pr pr) ⟨rfl, rfl, trivial⟩ rfl rfl rfl rfl rfl (kMovC rfl (kDone (kSeq (kSeq (kReg (kMovC rfl (kBin rfl rfl rfl (kDone (kCondP rfl (fun g5 => (by omega)) (fun g5 => kSkip (kSeq (kReg (kMovC rfl (kMovC rfl (kIadRW rfl rfl rfl (by omega) hrow (kFadD rfl (kLoadD rfl rfl (kMovC rfl (kCallD (ok_laws_heldByteS _ _ pr pr) ⟨rfl, rfl, trivial⟩ rfl rfl rfl rfl rfl (kMovC rfl (kDone (kSeq (kSeq (kReg (kMovC rfl (kBin rfl rfl rfl (kDone (kCondP rfl (fun g6 => (by omega)) (fun g6 => kSkip (kSeq (kReg (kMovC rfl (kMovC rfl (kIadRW rfl rfl rfl (by omega) hrow (kFadD rfl (kLoadD rfl rfl (kMovC rfl (kCallD (ok_laws_heldIntS _ _ pr pr) ⟨rfl, rfl, trivial⟩ rfl rfl rfl rfl rfl (kMovC rfl (kDone (kSeq (kReg (kMovC rfl (kBin rfl rfl rfl (kDone (kCondP rfl (fun g7 => (by omega)) (fun g7 => kSkip (kBk (kReg (kMovC rfl (kAdd rfl rfl (by omega) (kMovC rfl (kDone ?_))))))))))))))))))))))))))))))))))))))))))))))))))))))))))))))))))))))))))))))))))))))))))))))))))))))))))))))))))))))))))))))))))))))))))))))) (fun g0 => (by omega))))))))))
    exact kInv ⟨⟨i + 1, by omega⟩, by simp only; omega, .normA⟩
  · refine kSeq (kSeq (kReg (kMovC rfl (kMovC rfl (kLenR rfl rfl (kBin rfl rfl rfl (kDone (kCondP rfl (fun g0 => (by omega)) (fun g0 => kExit (kExC (kExI (kExB (kSeq (kReg (kMovC rfl (kMovC rfl (kDone (kRet (endRetA (ra := [.one (.d _)]) rfl ?_)))))))))))))))))))
    rw [show i = l.length by omega, List.take_length]

theorem ok_laws_heldRrS_nil (k : Int) (h0 : 0 ≤ k) (hk : k ≤ 9223372036854775807) :
    FnOK Tryz.prog 63 [.one (.d (encR [])), .one (.d (.sc (.int .i64 k)))] (fun ra _ => ra = [.one (.d (.sc (.int .i64 k)))]) := by
  have := ok_laws_heldRrS [] k h0 (by simpa using hk) ⟨Nat.zero_le _, nofun⟩
  rw [show k + ((cntRs [] : Nat) : Int) = k by simp] at this
  exact this

def c_laws_heldSlotS : C := (.seq (.reg false (.o 0 4 (.mov (.i 0)) .done)) (.seq (.seq (.reg false (.o 0 5 (.mov (.i 0)) .done)) (.block 0 (.loop (.seq (.seq (.reg false (.o 0 6 (.mov (.t 5)) (.o 1 7 (.mov (.t 0)) (.o 2 8 (.len (.t 7)) (.o 3 9 (.bin .lss (.t 6) (.t 8)) .done))))) (.cond (.t 9) .skip (.exit 0))) (.seq (.block 1 (.seq (.reg false (.o 0 12 (.mov (.t 0)) (.o 1 13 (.mov (.t 5)) (.o 2 14 (.iad 7 (.t 12) (.t 13)) (.o 3 15 (.fad (.t 14) 0) (.o 4 16 (.fad (.t 15) 0) (.o 5 17 (.load none (.t 16)) (.o 6 18 (.mov (.t 1)) (.o 7 19 (.call 19 114 [(.t 17), (.t 18)]) (.o 8 1 (.mov (.t 19)) .done)))))))))) (.seq (.seq (.reg false (.o 0 20 (.mov (.t 1)) (.o 1 21 (.bin .lss (.t 20) (.i 0)) .done))) (.cond (.t 21) (.seq (.reg false (.o 0 4 (.mov (.i (-1))) .done)) .ret) .skip)) (.seq (.seq (.reg false (.o 0 22 (.mov (.t 0)) (.o 1 23 (.mov (.t 5)) (.o 2 24 (.iad 7 (.t 22) (.t 23)) (.o 3 25 (.fad (.t 24) 1) (.o 4 26 (.load none (.t 25)) (.o 5 27 (.mov (.t 1)) (.o 6 28 (.bin .neq (.t 26) (.t 27)) .done)))))))) (.cond (.t 28) (.seq (.reg false (.o 0 4 (.mov (.i (-1))) .done)) .ret) .skip)) (.seq (.reg false (.o 0 29 (.mov (.t 1)) (.o 1 30 (.bin .add (.t 29) (.i 1)) (.o 2 1 (.mov (.t 30)) .done)))) (.seq (.seq (.reg false (.o 0 31 (.mov (.t 0)) (.o 1 32 (.mov (.t 5)) (.o 2 33 (.iad 7 (.t 31) (.t 32)) (.o 3 34 (.fad (.t 33) 2) (.o 4 35 (.load none (.t 34)) (.o 5 36 (.mov (.t 1)) (.o 6 37 (.bin .neq (.t 35) (.t 36)) .done)))))))) (.cond (.t 37) (.seq (.reg false (.o 0 4 (.mov (.i (-1))) .done)) .ret) .skip)) (.seq (.reg false (.o 0 38 (.mov (.t 1)) (.o 1 39 (.bin .add (.t 38) (.i 1)) (.o 2 1 (.mov (.t 39)) .done)))) (.seq (.reg false (.o 0 40 (.mov (.t 0)) (.o 1 41 (.mov (.t 5)) (.o 2 42 (.iad 7 (.t 40) (.t 41)) (.o 3 43 (.fad (.t 42) 3) (.o 4 44 (.load none (.t 43)) (.o 5 45 (.mov (.t 1)) (.o 6 46 (.call 46 63 [(.t 44), (.t 45)]) (.o 7 1 (.mov (.t 46)) .done))))))))) (.seq (.seq (.reg false (.o 0 47 (.mov (.t 1)) (.o 1 48 (.bin .lss (.t 47) (.i 0)) .done))) (.cond (.t 48) (.seq (.reg false (.o 0 4 (.mov (.i (-1))) .done)) .ret) .skip)) (.seq (.seq (.reg false (.o 0 49 (.mov (.t 0)) (.o 1 50 (.mov (.t 5)) (.o 2 51 (.iad 7 (.t 49) (.t 50)) (.o 3 52 (.fad (.t 51) 4) (.o 4 53 (.load none (.t 52)) (.o 5 54 (.mov (.t 1)) (.o 6 55 (.bin .neq (.t 53) (.t 54)) .done)))))))) (.cond (.t 55) (.seq (.reg false (.o 0 4 (.mov (.i (-1))) .done)) .ret) .skip)) (.seq (.reg false (.o 0 56 (.mov (.t 1)) (.o 1 57 (.bin .add (.t 56) (.i 1)) (.o 2 1 (.mov (.t 57)) .done)))) (.seq (.seq (.reg false (.o 0 58 (.mov (.t 0)) (.o 1 59 (.mov (.t 5)) (.o 2 60 (.iad 7 (.t 58) (.t 59)) (.o 3 61 (.fad (.t 60) 5) (.o 4 62 (.load none (.t 61)) (.o 5 63 (.mov (.t 1)) (.o 6 64 (.bin .neq (.t 62) (.t 63)) .done)))))))) (.cond (.t 64) (.seq (.reg false (.o 0 4 (.mov (.i (-1))) .done)) .ret) .skip)) (.seq (.reg false (.o 0 65 (.mov (.t 1)) (.o 1 66 (.bin .add (.t 65) (.i 1)) (.o 2 1 (.mov (.t 66)) .done)))) (.seq (.seq (.reg false (.o 0 67 (.mov (.t 0)) (.o 1 68 (.mov (.t 5)) (.o 2 69 (.iad 7 (.t 67) (.t 68)) (.o 3 70 (.fad (.t 69) 6) (.o 4 71 (.load none (.t 70)) (.o 5 72 (.mov (.t 1)) (.o 6 73 (.bin .neq (.t 71) (.t 72)) .done)))))))) (.cond (.t 73) (.seq (.reg false (.o 0 4 (.mov (.i (-1))) .done)) .ret) .skip)) (.reg false (.o 0 74 (.mov (.t 1)) (.o 1 75 (.bin .add (.t 74) (.i 1)) (.o 2 1 (.mov (.t 75)) .done)))))))))))))))))) (.reg false (.o 0 10 (.mov (.t 5)) (.o 1 11 (.bin .add (.t 10) (.i 1)) (.o 2 5 (.mov (.t 11)) .done))))))))) (.seq (.reg false (.o 0 76 (.mov (.t 1)) (.o 1 4 (.mov (.t 76)) .done))) .ret)))
theorem dg_laws_heldSlotS : Tryz.f150.body.bind (digC Tryz.prog Tryz.f150.ntmps []) = some c_laws_heldSlotS := by kernel_rfl
theorem rs_laws_heldSlotS : resSlots Tryz.prog Tryz.f150 = some [.s 4] := by kernel_rfl
theorem ok_laws_heldSlotS (l : List (Slot)) (k : Int) (h0 : 0 ≤ k) (hk : k + cntL cntS l ≤ 9223372036854775807) (hs : SmallSs l) :
    FnOK Tryz.prog 150 [.one (.d (encS (markL cntS markS l k))), .one (.d (.sc (.int .i64 k)))] (fun ra _ => ra = [.one (.d (.sc (.int .i64 (k + cntL cntS l))))]) := by
  refine FnOK.ofK Tryz.func150 (by kernel_rfl) dg_laws_heldSlotS rs_laws_heldSlotS rfl rfl ?_
  delta c_laws_heldSlotS T.o X.i
  have hm := markL_len cntS markS l k
  have h1 := hs.len
  refine kSeq (kReg (kMovC rfl (kDone (kSeq (kSeq (kReg (kMovC rfl (kDone (kBlock ?_)))))))))
  refine kLoop (α := { i : Nat // i ≤ l.length }) (fun y => ⟨tabSl [(0, .dv (encS (markL cntS markS l k))), (1, .i (k + cntL cntS (l.take y.1))), (5, .i y.1)], obTab 1 [], []⟩) (fun y => l.length - y.1) ⟨0, by simp⟩ .normA ?_
  rintro ⟨i, hi⟩
  simp only
  have hle := cntL_le cntS l i
  have hle2 := cntL_le cntS l (i + 1)
  rcases Nat.lt_or_ge i l.length with hlt | hge
  · have hbi := hs.mem _ (List.getElem_mem hlt)
    have n1 := hbi.n.len
    have n2 := hbi.n.mem
    have r1 := hbi.r
    have hsuc := cntL_take cntS l i hlt
    have hrow := markL_get cntS markS l k i (by omega) hlt
    have hc : cntS l[i] = l[i].name.flatten.length + 5 + cntRs l[i].rrs := rfl
    have hb0 : cntBB l[i].name = l[i].name.flatten.length := rfl
    have e1 : (markS l[i] (k + ↑(cntL cntS (List.take i l)))).ty = k + (cntL cntS (l.take i) : Int) + (l[i].name.flatten.length : Int) := rfl
    have e2 : (markS l[i] (k + ↑(cntL cntS (List.take i l)))).kind = k + (cntL cntS (l.take i) : Int) + (l[i].name.flatten.length : Int) + 1 := rfl
    have e3 : (markS l[i] (k + ↑(cntL cntS (List.take i l)))).rank = k + (cntL cntS (l.take i) : Int) + (l[i].name.flatten.length : Int) + 1 + 1 + (cntRs l[i].rrs : Int) := rfl
    have e4 : (markS l[i] (k + ↑(cntL cntS (List.take i l)))).til = k + (cntL cntS (l.take i) : Int) + (l[i].name.flatten.length : Int) + 1 + 1 + (cntRs l[i].rrs : Int) + 1 := rfl
    have e5 : (markS l[i] (k + ↑(cntL cntS (List.take i l)))).used = k + (cntL cntS (l.take i) : Int) + (l[i].name.flatten.length : Int) + 1 + 1 + (cntRs l[i].rrs : Int) + 1 + 1 := rfl
    refine kSeq (kSeq (kReg (kMovC rfl (kMovC rfl (kLenR rfl rfl (kBin rfl rfl rfl (kDone (kCondP rfl (fun g0 => kSkip (kSeq (kBlock (kSeq (kReg (kMovC rfl (kMovC rfl (kIadRW rfl rfl rfl (by first | omega | (simp only [List.length_append, List.length_cons, List.length_nil]; omega)) hrow (kFadD rfl (kFadD rfl (kLoadD rfl rfl (kMovC rfl (kCallD (ok_laws_heldByteSS _ _ (by first | assumption | omega | solve_by_elim [List.getElem_mem] | (simp only [szOut] at *; omega) | exact rfl | exact leb | exact rrOk_small (by assumption) | exact zoneOk_small (by assumption) | exact SmallBB.ok (by assumption) | exact (SmallBB.ok (by assumption)).len | exact (SmallBB.ok (by assumption)).mem | exact SmallBB.bent (by assumption)) (by first | assumption | omega | solve_by_elim [List.getElem_mem] | (simp only [szOut] at *; omega) | exact rfl | exact leb | exact rrOk_small (by assumption) | exact zoneOk_small (by assumption) | exact SmallBB.ok (by assumption) | exact (SmallBB.ok (by assumption)).len | exact (SmallBB.ok (by assumption)).mem | exact SmallBB.bent (by assumption)) (by first | assumption | omega | solve_by_elim [List.getElem_mem] | (simp only [szOut] at *; omega) | exact rfl | exact leb | exact rrOk_small (by assumption) | exact zoneOk_small (by assumption) | exact SmallBB.ok (by assumption) | exact (SmallBB.ok (by assumption)).len | exact (SmallBB.ok (by assumption)).mem | exact SmallBB.bent (by assumption))) ⟨rfl, rfl, trivial⟩ rfl rfl rfl rfl rfl (kMovC rfl (kDone (kSeq (kSeq (kReg (kMovC rfl (kBin rfl rfl rfl (kDone (kCondP rfl (fun g1 => (by omega)) (fun g1 => kSkip (kSeq (kSeq (kReg (kMovC rfl (kMovC rfl (kIadRW rfl rfl rfl (by first | omega | (simp only [List.length_append, List.length_cons, List.length_nil]; omega)) hrow (kFadD rfl (kLoadD rfl rfl (kMovC rfl (kBin rfl rfl rfl (kDone (kCondIN rfl (fun g2 => (by omega)) (fun g2 => kSkip (kSeq (kReg (kMovC rfl (kAdd rfl rfl (by omega) (kMovC rfl (kDone (kSeq (kSeq (kReg (kMovC rfl (kMovC rfl (kIadRW rfl rfl rfl (by first | omega | (simp only [List.length_append, List.length_cons, List.length_nil]; omega)) hrow (kFadD rfl (kLoadD rfl rfl (kMovC rfl (kBin rfl rfl rfl (kDone (kCondIN rfl (fun g3 => (by omega)) (fun g3 => kSkip (kSeq (kReg (kMovC rfl (kAdd rfl rfl (by omega) (kMovC rfl (kDone (kSeq (kReg (kMovC rfl (kMovC rfl (kIadRW rfl rfl rfl (by first | omega | (simp only [List.length_append, List.length_cons, List.length_nil]; omega)) hrow (kFadD rfl (kLoadD rfl rfl (kMovC rfl (kCallD (ok_laws_heldRrS _ _ (by first | assumption | omega | solve_by_elim [List.getElem_mem] | (simp only [szOut] at *; omega) | exact rfl | exact leb | exact rrOk_small (by assumption) | exact zoneOk_small (by assumption) | exact SmallBB.ok (by assumption) | exact (SmallBB.ok (by assumption)).len | exact (SmallBB.ok (by assumption)).mem | exact SmallBB.bent (by assumption)) (by first | assumption | omega | solve_by_elim [List.getElem_mem] | (simp only [szOut] at *; omega) | exact rfl | exact leb | exact rrOk_small (by assumption) | exact zoneOk_small (by assumption) | exact SmallBB.ok (by assumption) | exact (SmallBB.ok (by assumption)).len | exact (SmallBB.ok (by assumption)).mem | exact SmallBB.bent (by assumption)) (by first | assumption | omega | solve_by_elim [List.getElem_mem] | (simp only [szOut] at *; omega) | exact rfl | exact leb | exact rrOk_small (by assumption) | exact zoneOk_small (by assumption) | exact SmallBB.ok (by assumption) | exact (SmallBB.ok (by assumption)).len | exact (SmallBB.ok (by assumption)).mem | exact SmallBB.bent (by assumption))) ⟨rfl, rfl, trivial⟩ rfl rfl rfl rfl rfl (kMovC rfl (kDone (kSeq (kSeq (kReg (kMovC rfl (kBin rfl rfl rfl (kDone (kCondP rfl (fun g4 => (by omega)) (fun g4 => kSkip (kSeq (kSeq (kReg (kMovC rfl (kMovC rfl (kIadRW rfl rfl rfl (by first | omega | (simp only [List.length_append, List.length_cons, List.length_nil]; omega)) hrow (kFadD rfl (kLoadD rfl rfl (kMovC rfl (kBin rfl rfl rfl (kDone (kCondIN rfl (fun g5 => (by omega)) (fun g5 => kSkip (kSeq (kReg (kMovC rfl (kAdd rfl rfl (by omega) (kMovC rfl (kDone (kSeq (kSeq (kReg (kMovC rfl (kMovC rfl (kIadRW rfl rfl rfl (by first | omega | (simp only [List.length_append, List.length_cons, List.length_nil]; omega)) hrow (kFadD rfl (kLoadD rfl rfl (kMovC rfl (kBin rfl rfl rfl (kDone (kCondIN rfl (fun g6 => (by omega)) (fun g6 => kSkip (kSeq (kReg (kMovC rfl (kAdd rfl rfl (by omega) (kMovC rfl (kDone (kSeq (kSeq (kReg (kMovC rfl (kMovC rfl (kIadRW rfl rfl rfl (by first | omega | (simp only [List.length_append, List.length_cons, List.length_nil]; omega)) hrow (kFadD rfl (kLoadD rfl rfl (kMovC rfl (kBin rfl rfl rfl (kDone (kCondIN rfl (fun g7 => (by omega)) (fun g7 => kSkip (kReg (kMovC rfl (kAdd rfl rfl (by omega) (kMovC rfl (kDone (kBk (kReg (kMovC rfl (kAdd rfl rfl (by omega) (kMovC rfl (kDone ?_)))))))))))))))))))))))))))))))))))))))))))))))))))))))))))))))))))))))))))))))))))))))))))))))))))))))))))))))))))))))))))))))))))))))))))))) (fun g0 => (by omega))))))))))
    exact kInv ⟨⟨i + 1, by omega⟩, by simp only; omega, .normA⟩
  · refine kSeq (kSeq (kReg (kMovC rfl (kMovC rfl (kLenR rfl rfl (kBin rfl rfl rfl (kDone (kCondP rfl (fun g0 => (by omega)) (fun g0 => kExit (kExC (kExI (kExB (kSeq (kReg (kMovC rfl (kMovC rfl (kDone (kRet (endRetA (ra := [.one (.d _)]) rfl ?_)))))))))))))))))))
    rw [show i = l.length by omega, List.take_length]

def c_laws_heldCache : C := (.seq (.reg false (.o 0 2 (.box 2 (.t 0)) (.o 1 4 (.mov (.i 0)) .done))) (.seq (.reg false (.o 0 5 (.fad (.t 2) 2) (.o 1 6 (.load none (.t 5)) (.o 2 7 (.mov (.t 1)) (.o 3 8 (.call 8 150 [(.t 6), (.t 7)]) (.o 4 1 (.mov (.t 8)) .done)))))) (.seq (.seq (.reg false (.o 0 9 (.mov (.t 1)) (.o 1 10 (.bin .lss (.t 9) (.i 0)) .done))) (.cond (.t 10) (.seq (.reg false (.o 0 4 (.mov (.i (-1))) .done)) .ret) .skip)) (.seq (.reg false (.o 0 11 (.mov (.t 1)) (.o 1 4 (.mov (.t 11)) .done))) .ret))))
theorem dg_laws_heldCache : Tryz.f54.body.bind (digC Tryz.prog Tryz.f54.ntmps []) = some c_laws_heldCache := by kernel_rfl
theorem rs_laws_heldCache : resSlots Tryz.prog Tryz.f54 = some [.s 4] := by kernel_rfl
theorem ok_laws_heldCache (a : Cache) (k : Int) (h0 : 0 ≤ k) (hk : k + cntSs a.slots ≤ 9223372036854775807) (hs : SmallSs a.slots) :
    FnOK Tryz.prog 54 [.agg [.d (.sc (.int .i64 a.now)), .d (.sc (.int .i64 a.turn)), .d (encS (markSs a.slots k))], .one (.d (.sc (.int .i64 k)))] (fun ra _ => ra = [.one (.d (.sc (.int .i64 (k + cntSs a.slots))))]) := by
  refine FnOK.ofK Tryz.func54 (by kernel_rfl) dg_laws_heldCache rs_laws_heldCache rfl rfl ?_
  delta c_laws_heldCache T.o X.i
  refine kSeq (kReg (kBox rfl rfl rfl rfl rfl (kMovC rfl (kDone (kSeq (kReg (kFadP rfl rfl (kLoadP rfl rfl rfl (kMovC rfl (kCallD (ok_laws_heldSlotS _ _ (by first | assumption | omega | solve_by_elim [List.getElem_mem] | (simp only [szOut] at *; omega) | exact rfl | exact leb | exact rrOk_small (by assumption) | exact zoneOk_small (by assumption) | exact SmallBB.ok (by assumption) | exact (SmallBB.ok (by assumption)).len | exact (SmallBB.ok (by assumption)).mem | exact SmallBB.bent (by assumption)) (by first | assumption | omega | solve_by_elim [List.getElem_mem] | (simp only [szOut] at *; omega) | exact rfl | exact leb | exact rrOk_small (by assumption) | exact zoneOk_small (by assumption) | exact SmallBB.ok (by assumption) | exact (SmallBB.ok (by assumption)).len | exact (SmallBB.ok (by assumption)).mem | exact SmallBB.bent (by assumption)) (by first | assumption | omega | solve_by_elim [List.getElem_mem] | (simp only [szOut] at *; omega) | exact rfl | exact leb | exact rrOk_small (by assumption) | exact zoneOk_small (by assumption) | exact SmallBB.ok (by assumption) | exact (SmallBB.ok (by assumption)).len | exact (SmallBB.ok (by assumption)).mem | exact SmallBB.bent (by assumption))) ⟨rfl, rfl, trivial⟩ rfl rfl rfl rfl rfl (kMovC rfl (kDone (kSeq (kSeq (kReg (kMovC rfl (kBin rfl rfl rfl (kDone (kCondP rfl (fun g0 => (by omega)) (fun g0 => kSkip (kSeq (kReg (kMovC rfl (kMovC rfl (kDone (kRet (endRetA (ra := [.one (.d _)]) rfl rfl)))))))))))))))))))))))))))

def c_laws_FnExactCacheTick : C := (.seq (.reg false (.o 0 2 (.box 2 (.t 0)) (.o 1 4 (.mov (.v (.bool false))) .done))) (.seq (.reg false (.o 0 5 (.mov (.i 1048576)) .done)) (.seq (.reg false (.o 0 16 (.load (some 3) (.t 2)) (.o 1 17 (.mov (.t 5)) (.o 2 18 (.call 18 31 [(.t 16), (.t 17)]) (.o 3 5 (.mov (.t 18)) .done))))) (.seq (.seq (.reg false (.o 0 19 (.mov (.t 5)) (.o 1 20 (.bin .lss (.t 19) (.i 0)) .done))) (.cond (.t 20) (.seq (.reg false (.o 0 4 (.mov (.v (.bool true))) .done)) .ret) .skip)) (.seq (.reg false (.o 0 22 (.load (some 3) (.t 2)) (.o 1 23 (.call 23 33 [(.t 22)]) (.o 2 24 (.mov (.t 1)) (.o 3 25 (.call 25 52 [(.t 23), (.t 24)]) (.o 4 21 (.mov (.t 25)) (.o 5 26 (.ext (.t 21) 0) (.o 6 27 (.ext (.t 21) 1) (.o 7 6 (.alloc 6 [(.i 0), (.i 0), (.n 7)]) (.op 8 [] none none false (.store (some 3) (.t 6) (.t 26)) (.o 9 7 (.mov (.t 27)) .done))))))))))) (.seq (.reg false (.o 0 28 (.load (some 3) (.t 2)) (.o 1 29 (.call 29 33 [(.t 28)]) (.o 2 8 (.alloc 8 [(.i 0), (.i 0), (.n 7)]) (.op 3 [] none none false (.store (some 3) (.t 8) (.t 29)) .done))))) (.seq (.reg false (.o 0 31 (.load (some 3) (.t 8)) (.o 1 32 (.mov (.t 1)) (.o 2 33 (.call 33 53 [(.t 31), (.t 32)]) (.o 3 30 (.mov (.t 33)) (.o 4 34 (.ext (.t 30) 0) (.o 5 35 (.ext (.t 30) 1) (.o 6 9 (.alloc 9 [(.i 0), (.i 0), (.n 7)]) (.op 7 [] none none false (.store (some 3) (.t 9) (.t 34)) (.o 8 10 (.mov (.t 35)) .done)))))))))) (.seq (.seq (.reg false (.o 0 36 (.load (some 3) (.t 9)) (.o 1 37 (.load (some 3) (.t 6)) (.o 2 38 (.call 38 36 [(.t 36), (.t 37)]) (.o 3 39 (.un .not (.t 38)) (.o 4 40 (.mov (.t 39)) (.op 5 [] (some 41) (some (40, false)) false (.mov (.t 10)) (.op 6 [] (some 42) (some (40, false)) false (.mov (.t 7)) (.op 7 [] (some 43) (some (40, false)) false (.bin .neq (.t 41) (.t 42)) (.o 8 44 (.pick (.t 40) (.v (.bool true)) (.t 43)) .done)))))))))) (.cond (.t 44) (.seq (.reg false (.o 0 4 (.mov (.v (.bool false))) .done)) .ret) .skip)) (.seq (.seq (.reg true (.op 0 [] (some 45) none true (.load (some 3) (.t 8)) (.op 1 [] (some 46) none true (.load (some 3) (.t 2)) (.op 2 [1] (some 47) none false (.call 47 33 [(.t 46)]) (.op 3 [0, 1] (some 48) none false (.call 48 36 [(.t 45), (.t 47)]) (.op 4 [] (some 49) none true (.un .not (.t 48)) .done)))))) (.cond (.t 49) (.seq (.reg false (.o 0 4 (.mov (.v (.bool false))) .done)) .ret) .skip)) (.seq (.reg false (.o 0 11 (.mov (.i 1)) .done)) (.seq (.reg false (.o 0 50 (.load (some 3) (.t 8)) (.o 1 51 (.mov (.t 11)) (.o 2 52 (.call 52 37 [(.t 50), (.t 51)]) (.o 3 11 (.mov (.t 52)) .done))))) (.seq (.seq (.reg false (.o 0 53 (.mov (.t 11)) (.o 1 54 (.bin .lss (.t 53) (.i 0)) (.o 2 55 (.mov (.t 54)) (.op 3 [] (some 56) (some (55, false)) false (.load (some 3) (.t 9)) (.op 4 [] (some 57) (some (55, false)) false (.load (some 3) (.t 6)) (.op 5 [] (some 58) (some (55, false)) false (.call 58 36 [(.t 56), (.t 57)]) (.op 6 [] (some 59) (some (55, false)) false (.un .not (.t 58)) (.o 7 60 (.pick (.t 55) (.v (.bool true)) (.t 59)) (.o 8 61 (.mov (.t 60)) (.op 9 [] (some 62) (some (61, false)) false (.mov (.t 10)) (.op 10 [] (some 63) (some (61, false)) false (.mov (.t 7)) (.op 11 [] (some 64) (some (61, false)) false (.bin .neq (.t 62) (.t 63)) (.o 12 65 (.pick (.t 61) (.v (.bool true)) (.t 64)) .done)))))))))))))) (.cond (.t 65) (.seq (.reg false (.o 0 4 (.mov (.v (.bool false))) .done)) .ret) .skip)) (.seq (.reg false (.o 0 12 (.mov (.i 1)) .done)) (.seq (.reg false (.o 0 66 (.load (some 3) (.t 9)) (.o 1 67 (.mov (.t 12)) (.o 2 68 (.call 68 37 [(.t 66), (.t 67)]) (.o 3 12 (.mov (.t 68)) .done))))) (.seq (.reg false (.o 0 13 (.mov (.i 1)) .done)) (.seq (.reg false (.o 0 69 (.load (some 3) (.t 9)) (.o 1 70 (.mov (.t 13)) (.o 2 71 (.call 71 54 [(.t 69), (.t 70)]) (.o 3 13 (.mov (.t 71)) .done))))) (.seq (.seq (.reg false (.o 0 72 (.mov (.t 13)) (.o 1 73 (.bin .lss (.t 72) (.i 0)) .done))) (.cond (.t 73) (.seq (.reg false (.o 0 4 (.mov (.v (.bool false))) .done)) .ret) .skip)) (.seq (.seq (.reg false (.o 0 74 (.mov (.t 13)) (.o 1 75 (.mov (.t 12)) (.o 2 76 (.bin .neq (.t 74) (.t 75)) .done)))) (.cond (.t 76) (.seq (.reg false (.o 0 4 (.mov (.v (.bool false))) .done)) .ret) .skip)) (.seq (.reg false (.o 0 78 (.load (some 3) (.t 2)) (.o 1 79 (.call 79 33 [(.t 78)]) (.o 2 80 (.mov (.t 1)) (.o 3 81 (.call 81 53 [(.t 79), (.t 80)]) (.o 4 77 (.mov (.t 81)) (.o 5 82 (.ext (.t 77) 0) (.o 6 83 (.ext (.t 77) 1) (.o 7 14 (.alloc 14 [(.i 0), (.i 0), (.n 7)]) (.op 8 [] none none false (.store (some 3) (.t 14) (.t 82)) (.o 9 15 (.mov (.t 83)) .done))))))))))) (.seq (.seq (.reg false (.o 0 84 (.load (some 3) (.t 14)) (.o 1 85 (.load (some 3) (.t 6)) (.o 2 86 (.call 86 36 [(.t 84), (.t 85)]) (.o 3 87 (.un .not (.t 86)) (.o 4 88 (.mov (.t 87)) (.op 5 [] (some 89) (some (88, false)) false (.mov (.t 15)) (.op 6 [] (some 90) (some (88, false)) false (.mov (.t 7)) (.op 7 [] (some 91) (some (88, false)) false (.bin .neq (.t 89) (.t 90)) (.o 8 92 (.pick (.t 88) (.v (.bool true)) (.t 91)) .done)))))))))) (.cond (.t 92) (.seq (.reg false (.o 0 4 (.mov (.v (.bool false))) .done)) .ret) .skip)) (.seq (.reg false (.o 0 13 (.mov (.i 1)) .done)) (.seq (.reg false (.o 0 93 (.load (some 3) (.t 9)) (.o 1 94 (.mov (.t 13)) (.o 2 95 (.call 95 54 [(.t 93), (.t 94)]) (.o 3 13 (.mov (.t 95)) .done))))) (.seq (.seq (.reg false (.o 0 96 (.mov (.t 13)) (.o 1 97 (.bin .lss (.t 96) (.i 0)) .done))) (.cond (.t 97) (.seq (.reg false (.o 0 4 (.mov (.v (.bool false))) .done)) .ret) .skip)) (.seq (.seq (.reg false (.o 0 98 (.mov (.t 13)) (.o 1 99 (.mov (.t 12)) (.o 2 100 (.bin .neq (.t 98) (.t 99)) .done)))) (.cond (.t 100) (.seq (.reg false (.o 0 4 (.mov (.v (.bool false))) .done)) .ret) .skip)) (.seq (.reg false (.o 0 4 (.mov (.v (.bool true))) .done)) .ret)))))))))))))))))))))))))
theorem dg_laws_FnExactCacheTick : Tryz.f9.body.bind (digC Tryz.prog Tryz.f9.ntmps []) = some c_laws_FnExactCacheTick := by kernel_rfl
theorem rs_laws_FnExactCacheTick : resSlots Tryz.prog Tryz.f9 = some [.s 4] := by kernel_rfl
theorem ok_laws_FnExactCacheTick (c : Cache) (now : Int) (hb : BigSs c.slots) :
    FnOK Tryz.prog 9 [.agg (c.cells.map .d), .one (.d (.sc (.int .i64 now)))] (fun ra _ => ra = [.one (.d (.sc (.bool true)))]) := by
  refine FnOK.ofK Tryz.func9 (by kernel_rfl) dg_laws_FnExactCacheTick rs_laws_FnExactCacheTick rfl rfl ?_
  delta c_laws_FnExactCacheTick T.o X.i
  have hstop := trivial
  refine kSeq (kReg (kBox rfl rfl rfl rfl rfl (kMovC rfl (kDone (kSeq (kReg (kMovC rfl (kDone (kSeq (kReg (kLoadP rfl rfl rfl (kMovC rfl (kCallD (ok_laws_szCache _ _ (by first | assumption | omega | solve_by_elim [List.getElem_mem] | (simp only [szOut] at *; omega) | exact rfl | exact leb | exact rrOk_small (by assumption) | exact zoneOk_small (by assumption) | exact SmallBB.ok (by assumption) | exact (SmallBB.ok (by assumption)).len | exact (SmallBB.ok (by assumption)).mem | exact SmallBB.bent (by assumption)) (by first | assumption | omega | solve_by_elim [List.getElem_mem] | (simp only [szOut] at *; omega) | exact rfl | exact leb | exact rrOk_small (by assumption) | exact zoneOk_small (by assumption) | exact SmallBB.ok (by assumption) | exact (SmallBB.ok (by assumption)).len | exact (SmallBB.ok (by assumption)).mem | exact SmallBB.bent (by assumption)) (by first | assumption | omega | solve_by_elim [List.getElem_mem] | (simp only [szOut] at *; omega) | exact rfl | exact leb | exact rrOk_small (by assumption) | exact zoneOk_small (by assumption) | exact SmallBB.ok (by assumption) | exact (SmallBB.ok (by assumption)).len | exact (SmallBB.ok (by assumption)).mem | exact SmallBB.bent (by assumption))) ⟨⟨⟨rfl, rfl, rfl, trivial⟩, leb⟩, rfl, trivial⟩ rfl rfl rfl rfl rfl (kMovC rfl (kDone (kSeq (kSeq (kReg (kMovC rfl (kBin rfl rfl rfl (kDone (kCondP rfl (fun g0 => kSeq (kReg (kMovC rfl (kDone (kRet (endRetA (ra := [.one (.d _)]) rfl rfl)))))) (fun g0 => kSkip (kSeq (kReg (kLoadP rfl rfl rfl ?_))))))))))))))))))))))))))
  clear hstop
  have c1 := szOut_ok g0
  have hs : SmallSs c.slots := .ofCost (by omega)
  have hn : SmallSs (tickN c now).slots := by
    unfold tickN
    split
    · exact hs.filter _
    · exact .nil
  have k1 : (cntSs c.slots : Int) ≤ 8388608 := by have := cntSs_cost c.slots; omega
  have k2 : (cntSs (tickN c now).slots : Int) ≤ cntSs c.slots := by
    refine Int.ofNat_le.2 ?_
    unfold tickN
    split
    · exact cntSs_tick _ _
    · exact Nat.zero_le _
  refine kCall1 true (ok_laws_toCache _ (by first | assumption | omega | solve_by_elim [List.getElem_mem] | (simp only [szOut] at *; omega) | exact rfl | exact leb | exact rrOk_small (by assumption) | exact zoneOk_small (by assumption) | exact SmallBB.ok (by assumption) | exact (SmallBB.ok (by assumption)).len | exact (SmallBB.ok (by assumption)).mem | exact SmallBB.bent (by assumption))) ⟨⟨⟨rfl, rfl, rfl, trivial⟩, leb⟩, trivial⟩ rfl rfl rfl (fun _ => (kMem [(98306, ⟨1, 0, .arr true _⟩)] [(1, .c (.d _)), (23, .g [.d _, .d _, .arr 98306 1]), (24, .c (.un)), (25, .c (.un)), (21, .c (.un)), (6, .c (.un)), (26, .c (.un)), (27, .c (.un))] [] ⟨rfl, trivial⟩ ⟨rfl, rfl, rfl, rfl, rfl, rfl, rfl, rfl, trivial⟩ rfl (kMovC rfl (kCall1 true (ok_spec_CacheTick _ _ (by first | assumption | omega | solve_by_elim [List.getElem_mem] | (simp only [szOut] at *; omega) | exact rfl | exact leb | exact rrOk_small (by assumption) | exact zoneOk_small (by assumption) | exact SmallBB.ok (by assumption) | exact (SmallBB.ok (by assumption)).len | exact (SmallBB.ok (by assumption)).mem | exact SmallBB.bent (by assumption))) ⟨⟨⟨rfl, rfl, rfl, trivial⟩, leb⟩, rfl, trivial⟩ rfl rfl rfl (fun _ => (kMovT rfl (kExtC rfl rfl (kExtC rfl rfl (kAlloc rfl rfl (kMem [(28672, ⟨1, 0, .box [.d _, .d _, .nil 7]⟩), (106498, ⟨1, 0, .arr true _⟩)] [(6, .c (.ptr 28672 1 0)), (26, .g [.d _, .d _, .arr 106498 1]), (27, .c (.d _))] [] ⟨rfl, rfl, trivial⟩ ⟨rfl, rfl, rfl, trivial⟩ rfl (kStoreP rfl rfl rfl rfl (kMovC rfl (kDone (kSeq (kReg (kLoadP rfl rfl rfl (kCall1 true (ok_laws_toCache _ (by first | assumption | omega | solve_by_elim [List.getElem_mem] | (simp only [szOut] at *; omega) | exact rfl | exact leb | exact rrOk_small (by assumption) | exact zoneOk_small (by assumption) | exact SmallBB.ok (by assumption) | exact (SmallBB.ok (by assumption)).len | exact (SmallBB.ok (by assumption)).mem | exact SmallBB.bent (by assumption))) ⟨⟨⟨rfl, rfl, rfl, trivial⟩, leb⟩, trivial⟩ rfl rfl rfl (fun _ => (kAlloc rfl rfl (kMem [(36864, ⟨1, 0, .box [.d _, .d _, .nil 7]⟩), (122882, ⟨1, 0, .arr true _⟩)] [(8, .c (.ptr 36864 1 0)), (29, .g [.d _, .d _, .arr 122882 1])] [] ⟨rfl, rfl, trivial⟩ ⟨rfl, rfl, trivial⟩ rfl (kStoreP rfl rfl rfl rfl (kDone (kSeq (kReg (kLoadP rfl rfl rfl (kMovC rfl (kCall1 true (ok_impl_CacheTick _ _ (by first | assumption | omega | solve_by_elim [List.getElem_mem] | (simp only [szOut] at *; omega) | exact rfl | exact leb | exact rrOk_small (by assumption) | exact zoneOk_small (by assumption) | exact SmallBB.ok (by assumption) | exact (SmallBB.ok (by assumption)).len | exact (SmallBB.ok (by assumption)).mem | exact SmallBB.bent (by assumption))) ⟨⟨⟨rfl, rfl, rfl, trivial⟩, leb⟩, rfl, trivial⟩ rfl rfl rfl (fun _ => (kMovT rfl (kExtC rfl rfl (kExtC rfl rfl (kAlloc rfl rfl (kMem [(40960, ⟨1, 0, .box [.d _, .d _, .nil 7]⟩), (139266, ⟨1, 0, .arr true _⟩)] [(9, .c (.ptr 40960 1 0)), (34, .g [.d _, .d _, .arr 139266 1]), (35, .c (.d _))] [] ⟨rfl, rfl, trivial⟩ ⟨rfl, rfl, rfl, trivial⟩ rfl (kStoreP rfl rfl rfl rfl (kMovC rfl (kDone (kSeq (kSeq (kReg (kLoadP rfl rfl rfl (kLoadP rfl rfl rfl (kCallD (ok_laws_eqCache _ _ (by first | assumption | omega | solve_by_elim [List.getElem_mem] | (simp only [szOut] at *; omega) | exact rfl | exact leb | exact rrOk_small (by assumption) | exact zoneOk_small (by assumption) | exact SmallBB.ok (by assumption) | exact (SmallBB.ok (by assumption)).len | exact (SmallBB.ok (by assumption)).mem | exact SmallBB.bent (by assumption))) ⟨⟨⟨rfl, rfl, rfl, trivial⟩, leb⟩, ⟨⟨rfl, rfl, rfl, trivial⟩, leb⟩, trivial⟩ rfl rfl rfl rfl rfl (kUn rfl rfl (kMovC rfl (kGN rfl (fun g0 => (by (simp at g0))) (fun g0 => kGT rfl (kMovC rfl (kGT rfl (kMovC rfl (kGT rfl (kBin rfl rfl rfl (kPickF rfl (kMovC rfl (kDone (kCondIN rfl (fun g1 => (by omega)) (fun g1 => kSkip (kSeq (kSeq (kRegD (kMem [(36864, ⟨1, 0, .box [.d _, .d _, .arr 122882 1]⟩), (12288, ⟨1, 0, .box [.d _, .d _, .d _]⟩), (122882, ⟨1, 0, .arr true _⟩)] [(8, .c (.ptr 36864 1 0)), (2, .c (.ptr 12288 1 0)), (46, .c (.un)), (45, .c (.un)), (47, .c (.un)), (48, .c (.un))] [] ⟨rfl, rfl, rfl, trivial⟩ ⟨rfl, rfl, rfl, rfl, rfl, rfl, trivial⟩ rfl (kLoadP rfl rfl rfl (kLoadP rfl rfl rfl (kRelK rfl rfl (kCall1 true (ok_laws_toCache _ (by first | assumption | omega | solve_by_elim [List.getElem_mem] | (simp only [szOut] at *; omega) | exact rfl | exact leb | exact rrOk_small (by assumption) | exact zoneOk_small (by assumption) | exact SmallBB.ok (by assumption) | exact (SmallBB.ok (by assumption)).len | exact (SmallBB.ok (by assumption)).mem | exact SmallBB.bent (by assumption))) ⟨⟨⟨rfl, rfl, rfl, trivial⟩, leb⟩, trivial⟩ rfl rfl rfl (fun _ => (kRelF rfl rfl (kCallD (ok_laws_eqCache _ _ (by first | assumption | omega | solve_by_elim [List.getElem_mem] | (simp only [szOut] at *; omega) | exact rfl | exact leb | exact rrOk_small (by assumption) | exact zoneOk_small (by assumption) | exact SmallBB.ok (by assumption) | exact (SmallBB.ok (by assumption)).len | exact (SmallBB.ok (by assumption)).mem | exact SmallBB.bent (by assumption))) ⟨⟨⟨rfl, rfl, rfl, trivial⟩, leb⟩, ⟨⟨rfl, rfl, rfl, trivial⟩, leb⟩, trivial⟩ rfl rfl rfl rfl rfl (kUn rfl rfl (kDone (kH (kCondN rfl (fun g2 => (by (simp at g2))) (fun g2 => kSkip (kSeq (kReg (kMovC rfl (kDone (kSeq (kReg (kLoadP rfl rfl rfl (kMovC rfl (kCallM (ok_laws_markCache _ _ (by first | assumption | omega | solve_by_elim [List.getElem_mem] | (simp only [szOut] at *; omega) | exact rfl | exact leb | exact rrOk_small (by assumption) | exact zoneOk_small (by assumption) | exact SmallBB.ok (by assumption) | exact (SmallBB.ok (by assumption)).len | exact (SmallBB.ok (by assumption)).mem | exact SmallBB.bent (by assumption)) (by first | assumption | omega | solve_by_elim [List.getElem_mem] | (simp only [szOut] at *; omega) | exact rfl | exact leb | exact rrOk_small (by assumption) | exact zoneOk_small (by assumption) | exact SmallBB.ok (by assumption) | exact (SmallBB.ok (by assumption)).len | exact (SmallBB.ok (by assumption)).mem | exact SmallBB.bent (by assumption)) (by first | assumption | omega | solve_by_elim [List.getElem_mem] | (simp only [szOut] at *; omega) | exact rfl | exact leb | exact rrOk_small (by assumption) | exact zoneOk_small (by assumption) | exact SmallBB.ok (by assumption) | exact (SmallBB.ok (by assumption)).len | exact (SmallBB.ok (by assumption)).mem | exact SmallBB.bent (by assumption))) ⟨⟨⟨rfl, rfl, ⟨_, rfl, .inl rfl⟩, trivial⟩, leb⟩, rfl, trivial⟩ rfl rfl rfl (kMovC rfl (kDone (kSeq (kSeq (kReg (kMovC rfl (kBin rfl rfl rfl (kMovC rfl (kGT rfl (kLoadP rfl rfl rfl (kMem [(28672, ⟨1, 0, .box [.d _, .d _, .arr 106498 1]⟩), (139266, ⟨1, 0, .arr true _⟩), (106498, ⟨1, 0, .arr true _⟩)] [(6, .c (.ptr 28672 1 0)), (56, .g [.d _, .d _, .arr 139266 1]), (57, .c (.un)), (58, .c (.un)), (55, .c (.d _)), (59, .c (.un)), (60, .c (.un)), (10, .c (.d _)), (7, .c (.d _)), (62, .c (.un)), (63, .c (.un)), (61, .c (.un)), (64, .c (.un))] [] ⟨rfl, rfl, rfl, trivial⟩ ⟨rfl, rfl, rfl, rfl, rfl, rfl, rfl, rfl, rfl, rfl, rfl, rfl, rfl, trivial⟩ rfl (kGT rfl (kLoadP rfl rfl rfl (kGT rfl (kCallD (ok_laws_eqCache _ _ (by first | assumption | omega | solve_by_elim [List.getElem_mem] | (simp only [szOut] at *; omega) | exact rfl | exact leb | exact rrOk_small (by assumption) | exact zoneOk_small (by assumption) | exact SmallBB.ok (by assumption) | exact (SmallBB.ok (by assumption)).len | exact (SmallBB.ok (by assumption)).mem | exact SmallBB.bent (by assumption))) ⟨⟨⟨rfl, rfl, rfl, trivial⟩, leb⟩, ⟨⟨rfl, rfl, rfl, trivial⟩, leb⟩, trivial⟩ rfl rfl rfl rfl rfl (kGT rfl (kUn rfl rfl (kPickF rfl (kMovC rfl (kMovC rfl (kGN rfl (fun g3 => (by (simp at g3))) (fun g3 => kGT rfl (kMovC rfl (kGT rfl (kMovC rfl (kGT rfl (kBin rfl rfl rfl (kPickF rfl (kMovC rfl (kDone (kCondIN rfl (fun g4 => (by omega)) (fun g4 => kSkip (kSeq (kReg (kMovC rfl (kDone (kSeq (kReg (kMem [(40960, ⟨1, 0, .box [.d _, .d _, .arr 139266 1]⟩), (139266, ⟨1, 0, .arr true _⟩)] [(9, .c (.ptr 40960 1 0)), (12, .c (.d _)), (66, .c (.un)), (67, .c (.un)), (68, .c (.un))] [] ⟨rfl, rfl, trivial⟩ ⟨rfl, rfl, rfl, rfl, rfl, trivial⟩ rfl (kLoadP rfl rfl rfl (kMovC rfl (kCallM (ok_laws_markCache _ _ (by first | assumption | omega | solve_by_elim [List.getElem_mem] | (simp only [szOut] at *; omega) | exact rfl | exact leb | exact rrOk_small (by assumption) | exact zoneOk_small (by assumption) | exact SmallBB.ok (by assumption) | exact (SmallBB.ok (by assumption)).len | exact (SmallBB.ok (by assumption)).mem | exact SmallBB.bent (by assumption)) (by first | assumption | omega | solve_by_elim [List.getElem_mem] | (simp only [szOut] at *; omega) | exact rfl | exact leb | exact rrOk_small (by assumption) | exact zoneOk_small (by assumption) | exact SmallBB.ok (by assumption) | exact (SmallBB.ok (by assumption)).len | exact (SmallBB.ok (by assumption)).mem | exact SmallBB.bent (by assumption)) (by first | assumption | omega | solve_by_elim [List.getElem_mem] | (simp only [szOut] at *; omega) | exact rfl | exact leb | exact rrOk_small (by assumption) | exact zoneOk_small (by assumption) | exact SmallBB.ok (by assumption) | exact (SmallBB.ok (by assumption)).len | exact (SmallBB.ok (by assumption)).mem | exact SmallBB.bent (by assumption))) ⟨⟨⟨rfl, rfl, ⟨_, rfl, .inl rfl⟩, trivial⟩, leb⟩, rfl, trivial⟩ rfl rfl rfl (kMovC rfl (kDone (kSeq (kReg (kMovC rfl (kDone (kSeq (kReg (kLoadP rfl rfl rfl (kMovC rfl (kCallD (ok_laws_heldCache _ _ (by first | assumption | omega | solve_by_elim [List.getElem_mem] | (simp only [szOut] at *; omega) | exact rfl | exact leb | exact rrOk_small (by assumption) | exact zoneOk_small (by assumption) | exact SmallBB.ok (by assumption) | exact (SmallBB.ok (by assumption)).len | exact (SmallBB.ok (by assumption)).mem | exact SmallBB.bent (by assumption)) (by first | assumption | omega | solve_by_elim [List.getElem_mem] | (simp only [szOut] at *; omega) | exact rfl | exact leb | exact rrOk_small (by assumption) | exact zoneOk_small (by assumption) | exact SmallBB.ok (by assumption) | exact (SmallBB.ok (by assumption)).len | exact (SmallBB.ok (by assumption)).mem | exact SmallBB.bent (by assumption)) (by first | assumption | omega | solve_by_elim [List.getElem_mem] | (simp only [szOut] at *; omega) | exact rfl | exact leb | exact rrOk_small (by assumption) | exact zoneOk_small (by assumption) | exact SmallBB.ok (by assumption) | exact (SmallBB.ok (by assumption)).len | exact (SmallBB.ok (by assumption)).mem | exact SmallBB.bent (by assumption))) ⟨⟨⟨rfl, rfl, rfl, trivial⟩, leb⟩, rfl, trivial⟩ rfl rfl rfl rfl rfl (kMovC rfl (kDone (kSeq (kSeq (kReg (kMovC rfl (kBin rfl rfl rfl (kDone (kCondF rfl (kSkip (kSeq (kSeq (kReg (kMovC rfl (kMovC rfl (kBin rfl rfl rfl (kDone (kCondIN rfl (fun g5 => (by omega)) (fun g5 => kSkip (kSeq (kReg (kMem [(12288, ⟨1, 0, .box [.d _, .d _, .d _]⟩)] [(2, .c (.ptr 12288 1 0)), (78, .c (.un)), (1, .c (.d _)), (79, .c (.un)), (80, .c (.un)), (81, .c (.un)), (77, .c (.un)), (14, .c (.un)), (82, .c (.un)), (83, .c (.un))] [] ⟨rfl, trivial⟩ ⟨rfl, rfl, rfl, rfl, rfl, rfl, rfl, rfl, rfl, rfl, trivial⟩ rfl (kLoadP rfl rfl rfl (kCall1 true (ok_laws_toCache _ (by first | assumption | omega | solve_by_elim [List.getElem_mem] | (simp only [szOut] at *; omega) | exact rfl | exact leb | exact rrOk_small (by assumption) | exact zoneOk_small (by assumption) | exact SmallBB.ok (by assumption) | exact (SmallBB.ok (by assumption)).len | exact (SmallBB.ok (by assumption)).mem | exact SmallBB.bent (by assumption))) ⟨⟨⟨rfl, rfl, rfl, trivial⟩, leb⟩, trivial⟩ rfl rfl rfl (fun _ => (kMovC rfl (kCall1 true (ok_impl_CacheTick _ _ (by first | assumption | omega | solve_by_elim [List.getElem_mem] | (simp only [szOut] at *; omega) | exact rfl | exact leb | exact rrOk_small (by assumption) | exact zoneOk_small (by assumption) | exact SmallBB.ok (by assumption) | exact (SmallBB.ok (by assumption)).len | exact (SmallBB.ok (by assumption)).mem | exact SmallBB.bent (by assumption))) ⟨⟨⟨rfl, rfl, rfl, trivial⟩, leb⟩, rfl, trivial⟩ rfl rfl rfl (fun _ => (kMovT rfl (kExtC rfl rfl (kExtC rfl rfl (kAlloc rfl rfl (kMem [(61440, ⟨1, 0, .box [.d _, .d _, .nil 7]⟩), (335874, ⟨1, 0, .arr true _⟩)] [(14, .c (.ptr 61440 1 0)), (82, .g [.d _, .d _, .arr 335874 1]), (83, .c (.d _))] [] ⟨rfl, rfl, trivial⟩ ⟨rfl, rfl, rfl, trivial⟩ rfl (kStoreP rfl rfl rfl rfl (kMovC rfl (kDone (kSeq (kSeq (kReg (kLoadP rfl rfl rfl (kLoadP rfl rfl rfl (kCallD (ok_laws_eqCache _ _ (by first | assumption | omega | solve_by_elim [List.getElem_mem] | (simp only [szOut] at *; omega) | exact rfl | exact leb | exact rrOk_small (by assumption) | exact zoneOk_small (by assumption) | exact SmallBB.ok (by assumption) | exact (SmallBB.ok (by assumption)).len | exact (SmallBB.ok (by assumption)).mem | exact SmallBB.bent (by assumption))) ⟨⟨⟨rfl, rfl, rfl, trivial⟩, leb⟩, ⟨⟨rfl, rfl, rfl, trivial⟩, leb⟩, trivial⟩ rfl rfl rfl rfl rfl (kUn rfl rfl (kMovC rfl (kGN rfl (fun g6 => (by (simp at g6))) (fun g6 => kGT rfl (kMovC rfl (kGT rfl (kMovC rfl (kGT rfl (kBin rfl rfl rfl (kPickF rfl (kMovC rfl (kDone (kCondIN rfl (fun g7 => (by omega)) (fun g7 => kSkip (kSeq (kReg (kMovC rfl (kDone (kSeq (kReg (kMem [(40960, ⟨1, 0, .box [.d _, .d _, .arr 139266 1]⟩), (139266, ⟨1, 1, .arr true _⟩)] [(9, .c (.ptr 40960 1 0)), (13, .c (.d _)), (93, .c (.un)), (94, .c (.un)), (95, .c (.un))] [] ⟨rfl, rfl, trivial⟩ ⟨rfl, rfl, rfl, rfl, rfl, trivial⟩ rfl (kLoadP rfl rfl rfl (kMovC rfl (kCallD (ok_laws_heldCache _ _ (by first | assumption | omega | solve_by_elim [List.getElem_mem] | (simp only [szOut] at *; omega) | exact rfl | exact leb | exact rrOk_small (by assumption) | exact zoneOk_small (by assumption) | exact SmallBB.ok (by assumption) | exact (SmallBB.ok (by assumption)).len | exact (SmallBB.ok (by assumption)).mem | exact SmallBB.bent (by assumption)) (by first | assumption | omega | solve_by_elim [List.getElem_mem] | (simp only [szOut] at *; omega) | exact rfl | exact leb | exact rrOk_small (by assumption) | exact zoneOk_small (by assumption) | exact SmallBB.ok (by assumption) | exact (SmallBB.ok (by assumption)).len | exact (SmallBB.ok (by assumption)).mem | exact SmallBB.bent (by assumption)) (by first | assumption | omega | solve_by_elim [List.getElem_mem] | (simp only [szOut] at *; omega) | exact rfl | exact leb | exact rrOk_small (by assumption) | exact zoneOk_small (by assumption) | exact SmallBB.ok (by assumption) | exact (SmallBB.ok (by assumption)).len | exact (SmallBB.ok (by assumption)).mem | exact SmallBB.bent (by assumption))) ⟨⟨⟨rfl, rfl, rfl, trivial⟩, leb⟩, rfl, trivial⟩ rfl rfl rfl rfl rfl (kMovC rfl (kDone (kSeq (kSeq (kReg (kMovC rfl (kBin rfl rfl rfl (kDone (kCondF rfl (kSkip (kSeq (kSeq (kReg (kMovC rfl (kMovC rfl (kBin rfl rfl rfl (kDone (kCondIN rfl (fun g8 => (by omega)) (fun g8 => kSkip (kSeq (kReg (kMovC rfl (kDone (kRet (endRetA (ra := [.one (.d _)]) rfl rfl)))))))))))))))))))))))))))))))))))))))))))))))))))))))))))))))))))))))))))))))))))))))))))))))))))))))))))))))))))))))))))))))))))))))))))))))))))))))))))))))))))))))))))))))))))))))))))))))))))))))))))))))))))))))))))))))))

end Go.Proofs.YtbmagbgdpmgbmaaGreat.FnExactCacheTickFn
