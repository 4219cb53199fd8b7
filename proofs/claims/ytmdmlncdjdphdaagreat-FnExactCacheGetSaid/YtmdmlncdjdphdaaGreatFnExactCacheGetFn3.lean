/- What the functions that FnExactCacheGet reaches compute, one contract each; each with the bounds that it states. -/
import Derived.Test.YtmdmlncdjdphdaaGreatFnExactCacheGetFn2
import Derived.Test.YtmdmlncdjdphdaaGreatProg
import Derived.KernelRfl
set_option maxRecDepth 100000
set_option maxHeartbeats 8000000
set_option linter.unusedVariables false
set_option linter.unusedSimpArgs false
namespace Go.Proofs.YtmdmlncdjdphdaaGreat.FnExactCacheGetFn
open Go Hearth Go.Proofs

def c_impl_CacheOk : C := (.g (.o 0 1 (.box 1 (.t 0)) (.o 1 2 (.mov (.v (.bool false))) .done)) (.seq (.g (.o 0 5 (.fad (.t 1) 0) (.o 1 6 (.load none (.t 5)) (.o 2 7 (.call 7 109 [(.t 6), (.i 0), (.i 1000000)]) (.o 3 8 (.un .not (.t 7)) (.o 4 9 (.mov (.t 8)) (.op 5 [] (some 10) (some (9, false)) false (.fad (.t 1) 1) (.op 6 [] (some 11) (some (9, false)) false (.load none (.t 10)) (.op 7 [] (some 12) (some (9, false)) false (.call 12 109 [(.t 11), (.i 0), (.i 1000000)]) (.op 8 [] (some 13) (some (9, false)) false (.un .not (.t 12)) (.o 9 14 (.pick (.t 9) (.v (.bool true)) (.t 13)) (.o 10 15 (.mov (.t 14)) (.op 11 [] (some 16) (some (15, false)) false (.fad (.t 1) 2) (.op 12 [] (some 17) (some (15, false)) false (.load none (.t 16)) (.op 13 [] (some 18) (some (15, false)) false (.len (.t 17)) (.op 14 [] (some 19) (some (15, false)) false (.bin .gtr (.t 18) (.i 8)) (.o 15 20 (.pick (.t 15) (.v (.bool true)) (.t 19)) (.o 16 21 (.mov (.t 20)) (.op 17 [] (some 22) (some (21, false)) false (.fad (.t 1) 2) (.op 18 [] (some 23) (some (21, false)) false (.load none (.t 22)) (.op 19 [] (some 24) (some (21, false)) false (.load (some 3) (.t 1)) (.op 20 [] (some 25) (some (21, false)) false (.clo 141 [(.t 24)] []) (.op 21 [] (some 26) (some (21, false)) false (.call 26 140 [(.t 23), (.t 25)]) (.op 22 [] (some 27) (some (21, false)) false (.un .not (.t 26)) (.o 23 28 (.pick (.t 21) (.v (.bool true)) (.t 27)) .done)))))))))))))))))))))))) (.cond (.t 28) (.g (.o 0 2 (.mov (.v (.bool false))) .done) .ret) .skip)) (.seq (.g (.o 0 29 (.fad (.t 1) 2) (.o 1 30 (.load none (.t 29)) (.o 2 31 (.len (.t 30)) (.o 3 32 (.mov (.i 0)) .done)))) (.block 0 (.loop (.g (.o 0 33 (.bin .lss (.t 32) (.t 31)) .done) (.seq (.cond (.t 33) .skip (.exit 0)) (.seq (.block 1 (.g (.o 0 34 (.mov (.t 32)) (.o 1 35 (.iad 7 (.t 30) (.t 32)) (.o 2 36 (.load (some 7) (.t 35)) (.o 3 4 (.alloc 4 [(.n 1), (.i 0), (.i 0), (.n 7), (.i 0), (.i 0), (.i 0)]) (.o 4 3 (.mov (.t 34)) (.op 5 [] none none false (.store (some 7) (.t 4) (.t 36)) .done)))))) (.seq (.reg true (.op 0 [] (some 37) none true (.mov (.t 3)) (.op 1 [] (some 38) none true (.bin .gtr (.t 37) (.i 0)) (.op 2 [] (some 39) none true (.mov (.t 38)) (.op 3 [] (some 40) (some (39, true)) true (.fad (.t 1) 2) (.op 4 [] (some 41) (some (39, true)) true (.load none (.t 40)) (.op 5 [] (some 42) (some (39, true)) true (.mov (.t 3)) (.op 6 [] (some 43) (some (39, true)) true (.bin .sub (.t 42) (.i 1)) (.op 7 [] (some 44) (some (39, true)) true (.iad 7 (.t 41) (.t 43)) (.op 8 [] (some 45) (some (39, true)) true (.load (some 7) (.t 44)) (.op 9 [] (some 46) (some (39, true)) true (.load (some 7) (.t 4)) (.op 10 [8, 4, 9] (some 47) (some (39, true)) false (.call 47 142 [(.t 45), (.t 46)]) (.op 11 [] (some 48) (some (39, true)) true (.bin .geq (.t 47) (.i 0)) (.op 12 [] (some 49) none true (.pick (.t 39) (.t 48) (.v (.bool false))) (.op 13 [] (some 50) none true (.mov (.t 49)) (.op 14 [] (some 51) (some (50, false)) true (.fad (.t 1) 2) (.op 15 [] (some 52) (some (50, false)) true (.load none (.t 51)) (.op 16 [] (some 53) (some (50, false)) true (.mov (.t 3)) (.op 17 [] (some 54) (some (50, false)) true (.cut 7 (.t 52) none (some (.t 53))) (.op 18 [] (some 55) (some (50, false)) true (.clo 144 [] [(.t 4)]) (.op 19 [15, 8, 9, 4] (some 56) (some (50, false)) false (.call 56 143 [(.t 54), (.t 55)]) (.op 20 [] (some 57) none true (.pick (.t 50) (.v (.bool true)) (.t 56)) .done)))))))))))))))))))))) (.cond (.t 57) (.g (.o 0 2 (.mov (.v (.bool false))) .done) .ret) .skip)))) (.reg false (.o 0 58 (.bin .add (.t 32) (.i 1)) (.o 1 32 (.mov (.t 58)) .done))))))))) (.g (.o 0 2 (.mov (.v (.bool true))) .done) .ret))))
theorem dg_impl_CacheOk : Tryz.f56.body.bind (digC Tryz.prog Tryz.f56.ntmps []) = some c_impl_CacheOk := by kernel_rfl
theorem rs_impl_CacheOk : resSlots Tryz.prog Tryz.f56 = some [.s 2] := by kernel_rfl
theorem ok_impl_CacheOk (c : Cache) (hs : SmallSs c.slots) :
    FnOK Tryz.prog 56 [.agg (c.cells.map .d)] (fun ra _ => ra = [.one (.d (.sc (.bool (cacheOk c))))]) := by
  refine FnOK.ofK Tryz.func56 (by kernel_rfl) dg_impl_CacheOk rs_impl_CacheOk rfl rfl ?_
  delta c_impl_CacheOk T.o X.i C.g
  have h1 := hs.len
  have hm := hs.mem
  by_cases h0 : (0 ≤ c.now ∧ c.now ≤ 1000000) ∧ (0 ≤ c.turn ∧ c.turn ≤ 1000000) ∧ c.slots.length ≤ 8
  case neg =>
    rw [show cacheOk c = false by
      rw [Bool.eq_false_iff]; intro h
      unfold cacheOk at h
      simp only [Bool.and_eq_true, decide_eq_true_eq] at h
      exact h0 ⟨h.1.1.1.1, h.1.1.1.2, h.1.1.2⟩]
    by_cases k1 : 0 ≤ c.now ∧ c.now ≤ 1000000
    case neg => refine kSeq (kReg (kBox rfl rfl rfl rfl rfl (kMovC rfl (kDone (kSeq (kSeq (kReg (kFadP rfl rfl (kLoadP rfl rfl rfl (kCallD (ok_impl_within _ _ _) ⟨rfl, rfl, rfl, trivial⟩ rfl rfl rfl rfl rfl (kUn rfl rfl (kMovC rfl (kGN rfl (fun g0 => kGF rfl (kGF rfl (kMem [(8192, ⟨1, 0, .box [.d _, .d _, .d _]⟩)] ((11, .c (.un)) :: (12, .c (.un)) :: (9, .c (.d _)) :: (13, .c (.un)) :: (14, .c (.un)) :: (1, .c (.ptr 8192 1 0)) :: (16, .c (.un)) :: (17, .c (.un)) :: (18, .c (.un)) :: (15, .c (.un)) :: (19, .c (.un)) :: (20, .c (.un)) :: (22, .c (.un)) :: (24, .c (.un)) :: (23, .c (.un)) :: (25, .c (.un)) :: (26, .c (.un)) :: (21, .c (.un)) :: (27, .c (.un)) :: []) [] ⟨rfl, trivial⟩ ⟨rfl, rfl, rfl, rfl, rfl, rfl, rfl, rfl, rfl, rfl, rfl, rfl, rfl, rfl, rfl, rfl, rfl, rfl, rfl, trivial⟩ rfl (kGF rfl (kGF rfl (kPickT rfl (kMovC rfl (kMovC rfl (kGF rfl (kGF rfl (kGF rfl (kGF rfl (kPickT rfl (kMovC rfl (kMovC rfl (kGF rfl (kGF rfl (kMem [(8192, ⟨1, 0, .box [.d _, .d _, .d _]⟩)] [(1, .c (.ptr 8192 1 0)), (24, .c (.un)), (23, .c (.un)), (25, .c (.un)), (26, .c (.un)), (21, .c (.d _)), (27, .c (.un))] [] ⟨rfl, trivial⟩ ⟨rfl, rfl, rfl, rfl, rfl, rfl, rfl, trivial⟩ rfl (kGF rfl (kGF rfl (kGF rfl (kGF rfl (kPickT rfl (kMovC rfl (kDone (kCondT rfl (kSeq (kReg (kMovC rfl (kDone (kRet (endRetA (ra := [.one (.d _)]) rfl rfl)))))))))))))))))))))))))))))))) (fun g0 => (by (simp [*] at g0))))))))))))))))
    by_cases k2 : 0 ≤ c.turn ∧ c.turn ≤ 1000000
    case neg => refine kSeq (kReg (kBox rfl rfl rfl rfl rfl (kMovC rfl (kDone (kSeq (kSeq (kReg (kFadP rfl rfl (kLoadP rfl rfl rfl (kCallD (ok_impl_within _ _ _) ⟨rfl, rfl, rfl, trivial⟩ rfl rfl rfl rfl rfl (kUn rfl rfl (kMovC rfl (kGN rfl (fun g0 => (by (simp [*] at g0))) (fun g0 => kGT rfl (kFadP rfl rfl (kGT rfl (kLoadP rfl rfl rfl (kMem [(8192, ⟨1, 0, .box [.d _, .d _, .d _]⟩)] ((11, .c (.d _)) :: (12, .c (.un)) :: (9, .c (.d _)) :: (13, .c (.un)) :: (14, .c (.un)) :: (1, .c (.ptr 8192 1 0)) :: (16, .c (.un)) :: (17, .c (.un)) :: (18, .c (.un)) :: (15, .c (.un)) :: (19, .c (.un)) :: (20, .c (.un)) :: (22, .c (.un)) :: (24, .c (.un)) :: (23, .c (.un)) :: (25, .c (.un)) :: (26, .c (.un)) :: (21, .c (.un)) :: (27, .c (.un)) :: []) [] ⟨rfl, trivial⟩ ⟨rfl, rfl, rfl, rfl, rfl, rfl, rfl, rfl, rfl, rfl, rfl, rfl, rfl, rfl, rfl, rfl, rfl, rfl, rfl, trivial⟩ rfl (kGT rfl (kCallD (ok_impl_within _ _ _) ⟨rfl, rfl, rfl, trivial⟩ rfl rfl rfl rfl rfl (kGT rfl (kUn rfl rfl (kPickF rfl (kMovC rfl (kMovC rfl (kGN rfl (fun g1 => kGF rfl (kGF rfl (kGF rfl (kGF rfl (kPickT rfl (kMovC rfl (kMovC rfl (kGF rfl (kMem [(8192, ⟨1, 0, .box [.d _, .d _, .d _]⟩)] [(22, .c (.un)), (1, .c (.ptr 8192 1 0)), (24, .c (.un)), (23, .c (.un)), (25, .c (.un)), (26, .c (.un)), (21, .c (.d _)), (27, .c (.un))] [] ⟨rfl, trivial⟩ ⟨rfl, rfl, rfl, rfl, rfl, rfl, rfl, rfl, trivial⟩ rfl (kGF rfl (kGF rfl (kGF rfl (kGF rfl (kGF rfl (kPickT rfl (kMovC rfl (kDone (kCondT rfl (kSeq (kReg (kMovC rfl (kDone (kRet (endRetA (ra := [.one (.d _)]) rfl rfl)))))))))))))))))))))))) (fun g1 => (by (simp [*] at g1)))))))))))))))))))))))))))))
    have k3 : ¬ c.slots.length ≤ 8 := fun h => h0 ⟨k1, k2, h⟩
    refine Kbc (kBox Y Y Y Y Y (Ka Y (Kdb (Kbc (Kf Y Y (Ke Y Y Y (Kp (ok_impl_within _ _ _) ⟨Y, Y, Y, trivial⟩ Y Y Y Y Y (Kw Y Y (Ka Y (kGN Y (fun g0 => (by (simp [*] at g0))) (fun g0 => Ki Y (Kf Y Y (Ki Y (Ke Y Y Y (kMem [(8192, ⟨1, 0, .box [.d _, .d _, .d _]⟩)] ((11, .c (.d _)) :: (12, .c (.un)) :: (9, .c (.d _)) :: (13, .c (.un)) :: (14, .c (.un)) :: (1, .c (.ptr 8192 1 0)) :: (16, .c (.un)) :: (17, .c (.un)) :: (18, .c (.un)) :: (15, .c (.un)) :: (19, .c (.un)) :: (20, .c (.un)) :: (22, .c (.un)) :: (24, .c (.un)) :: (23, .c (.un)) :: (25, .c (.un)) :: (26, .c (.un)) :: (21, .c (.un)) :: (27, .c (.un)) :: []) [] ⟨Y, trivial⟩ ⟨Y, Y, Y, Y, Y, Y, Y, Y, Y, Y, Y, Y, Y, Y, Y, Y, Y, Y, Y, trivial⟩ Y (Ki Y (Kp (ok_impl_within _ _ _) ⟨Y, Y, Y, trivial⟩ Y Y Y Y Y (Ki Y (Kw Y Y (Kl Y (Ka Y (Ka Y (kGN Y (fun g1 => (by (simp [*] at g1))) (fun g1 => Ki Y (Kf Y Y (Ki Y (Ke Y Y Y (Ki Y (Kq Y Y (Ki Y (Kj Y Y Y (Kl Y (Ka Y (Ka Y (kMem [(8192, ⟨1, 0, .box [.d _, .d _, .d _]⟩)] [(1, .c (.ptr 8192 1 0)), (22, .c (.un)), (24, .c (.un)), (23, .c (.un)), (25, .c (.un)), (26, .c (.un)), (21, .c (.d _)), (27, .c (.un))] [] ⟨Y, trivial⟩ ⟨Y, Y, Y, Y, Y, Y, Y, Y, trivial⟩ Y (kGP Y (fun g2 => Kg Y (Kg Y (Kg Y (Kg Y (Kg Y (Kg Y (Kk Y (Ka Y (Kd (kCondT Y (Kbc (Ka Y (Kd (Kr (Er (ra := [.one (.d _)]) rfl rfl))))))))))))))) (fun g2 => om)))))))))))))))))))))))))))))))))))))
  obtain ⟨k1, k2, k3⟩ := h0
  refine Kbc (kBox Y Y Y Y Y (Ka Y (Kdb (Kbc (Kf Y Y (Ke Y Y Y (Kp (ok_impl_within _ _ _) ⟨Y, Y, Y, trivial⟩ Y Y Y Y Y (Kw Y Y (Ka Y (kGN Y (fun g0 => (by (simp [*] at g0))) (fun g0 => Ki Y (Kf Y Y (Ki Y (Ke Y Y Y (kMem [(8192, ⟨1, 0, .box [.d _, .d _, .d _]⟩)] ((11, .c (.d _)) :: (12, .c (.un)) :: (9, .c (.d _)) :: (13, .c (.un)) :: (14, .c (.un)) :: (1, .c (.ptr 8192 1 0)) :: (16, .c (.un)) :: (17, .c (.un)) :: (18, .c (.un)) :: (15, .c (.un)) :: (19, .c (.un)) :: (20, .c (.un)) :: (22, .c (.un)) :: (24, .c (.un)) :: (23, .c (.un)) :: (25, .c (.un)) :: (26, .c (.un)) :: (21, .c (.un)) :: (27, .c (.un)) :: []) [] ⟨Y, trivial⟩ ⟨Y, Y, Y, Y, Y, Y, Y, Y, Y, Y, Y, Y, Y, Y, Y, Y, Y, Y, Y, trivial⟩ Y (Ki Y (Kp (ok_impl_within _ _ _) ⟨Y, Y, Y, trivial⟩ Y Y Y Y Y (Ki Y (Kw Y Y (Kl Y (Ka Y (Ka Y (kGN Y (fun g1 => (by (simp [*] at g1))) (fun g1 => Ki Y (Kf Y Y (Ki Y (Ke Y Y Y (Ki Y (Kq Y Y (Ki Y (Kj Y Y Y (Kl Y (Ka Y (Ka Y (kMem [(8192, ⟨1, 0, .box [.d _, .d _, .d _]⟩)] [(1, .c (.ptr 8192 1 0)), (22, .c (.un)), (24, .c (.un)), (23, .c (.un)), (25, .c (.un)), (26, .c (.un)), (21, .c (.d _)), (27, .c (.un))] [] ⟨Y, trivial⟩ ⟨Y, Y, Y, Y, Y, Y, Y, Y, trivial⟩ Y (kGP Y (fun g2 => om) (fun g2 => Ki Y (Kf Y Y (Ki Y (Ke Y Y Y (Ki Y (Ke Y Y Y (Ki Y (kClo Y Y (Ki Y ?_)))))))))))))))))))))))))))))))))))))))))))))
  refine Ku true (ok_impl_all_impl_Slot c.slots SmallS (slotOk c.now c.turn) h1 hm) ⟨rfl, ⟨rfl, ⟨_, Tryz.func141, rfl, by kernel_rfl⟩, _, rfl, ?_⟩, trivial⟩ Y Y Y (fun os => ?_)
  · rintro _ R ⟨x, h, rfl, rfl⟩
    exact ⟨by rintro _ rfl; rfl, ok_impl_Cache_slotOk c x h k1⟩
  cases a3 : c.slots.all (slotOk c.now c.turn)
  · rw [show cacheOk c = false by unfold cacheOk; rw [a3]; simp]
    refine Ki Y (Kw Y Y (Kl Y (Ka Y (Kd (kCondT Y (Kbc (Ka Y (Kd (Kr (Er (ra := [.one (.d _)]) rfl rfl))))))))))
  refine Ki Y (Kw Y Y (Kl Y (Ka Y (Kd (kCondF Y (Kn (Kb (Kbc (Kf Y Y (kMem [(8192, ⟨1, 0, .box [.d _, .d _, .d _]⟩)] [(29, .c (.ptr 8192 1 2)), (30, .c (.un))] [] ⟨Y, trivial⟩ ⟨Y, Y, trivial⟩ Y (Ke Y Y Y (Kq Y Y (Ka Y (Kd (Kt ?_)))))))))))))))
  refine kLoop (α := { i : Nat // i ≤ c.slots.length ∧ (List.range i).all (sAt c.slots) = true }) (fun y => ⟨tabSl [(1, .c (.ptr (rid 1 0) 1 0)), (30, .dv (encS c.slots)), (31, .i c.slots.length), (32, .i y.1)], obTab 1 [(rid 1 0, ⟨1, 0, .box (c.cells.map .d)⟩)], []⟩) (fun y => c.slots.length - y.1) ⟨0, by simp⟩ .normA ?_
  rintro ⟨i, hi, hz⟩
  simp only
  rcases Nat.lt_or_ge i c.slots.length with hlt | hge
  · have hbi := hm _ (List.getElem_mem hlt)
    have hq := sAt_eq hlt
    refine Kbc (Kj Y Y Y (Kdb (Km Y (fun g0 => Kn (Kb (Kt (Kbc (Ka Y (kIadR Y Y Y prl (Ky Y Y (kAlloc Y Y (Ka Y (kMem [(20480, ⟨2, 0, .box [.nil 1, .d _, .d _, .nil 7, .d _, .d _, .d _]⟩)] [(4, .c (.ptr 20480 2 0)), (36, .g [.d _, .d _, .d _, .d _, .d _, .d _, .d _])] [] ⟨Y, trivial⟩ ⟨Y, Y, trivial⟩ Y (Ko Y Y Y Y (Kdb (kRegD (Ka Y (Kj Y Y Y (Ka Y (kGP Y (fun g1 => Ki Y (Kf Y Y (Ki Y (Ke Y Y Y (Ki Y (Ka Y (Ki Y (kDif Y Y om (Ki Y (kIadT Y Y prl (kMem [(20480, ⟨2, 0, .box [.d _, .d _, .d _, .d _, .d _, .d _, .d _]⟩), (8192, ⟨1, 0, .box [.d _, .d _, .d _]⟩)] [(4, .c (.ptr 20480 2 0)), (39, .c (.d _)), (1, .c (.ptr 8192 1 0)), (3, .c (.d _))] [8192] ⟨Y, Y, trivial⟩ ⟨Y, Y, Y, Y, trivial⟩ Y (Ki Y (Ky Y Y (Ki Y (Ke Y Y Y (Ks Y Y (Ki Y (Kp (ok_impl_Slot_compare _ _ prx prx) ⟨⟨⟨Y, Y, Y, Y, Y, Y, Y, trivial⟩, leb⟩, ⟨⟨Y, Y, Y, Y, Y, Y, Y, trivial⟩, leb⟩, trivial⟩ Y Y Y Y Y (Ki Y (Kj Y Y Y (Kk Y (Ka Y (Ka Y (kGP Y (fun g2 => Kg Y (Kg Y (Kg Y (Kg Y (Kg Y (Ks Y Y (Kg Y (Kk Y (Ka Y (Kd (kH (kCondT Y (Kbc (Ka Y (Kd (Kr (Er (ra := [.one (.d _)]) rfl ?_))))))))))))))))) (fun g2 => Ki Y (Kf Y Y (Ki Y (Ke Y Y Y (Ki Y (Ka Y (Ki Y (kCutH Y Y Y om (Ki Y (kClo Y Y (Ks Y Y (Ki Y ?_)))))))))))))))))))))))))))))))))))) (fun g1 => Kg Y (Kg Y (Kg Y (Kg Y (Kg Y (Kg Y (kMem [(20480, ⟨2, 0, .box [.d _, .d _, .d _, .d _, .d _, .d _, .d _]⟩), (8192, ⟨1, 0, .box [.d _, .d _, .d _]⟩)] [(4, .c (.ptr 20480 2 0)), (45, .c (.un)), (39, .c (.d _)), (1, .c (.ptr 8192 1 0)), (3, .c (.d _))] [] ⟨Y, Y, trivial⟩ ⟨Y, Y, Y, Y, Y, trivial⟩ Y (Kg Y (Ks Y Y (Kg Y (Kg Y (Kl Y (Ka Y (Ka Y (Ki Y (Kf Y Y (Ki Y (Ke Y Y Y (Ki Y (Ka Y (Ki Y (kCutH Y Y Y om (Ki Y (kClo Y Y (Ks Y Y (Ki Y ?_))))))))))))))))))))))))))))))))))))))))))) (fun g0 => om))))
    · rw [cache_no hlt (by rw [hq, prevS_pos (by omega) hlt (by omega), decide_eq_false (by omega)]; rfl)]
    · refine Ku true (ok_slices_ContainsFunc_Limpl_Slot_impl_Slot (c.slots.take i) SmallS (fun o => o.used == c.slots[i].used) (by simp; omega) (fun x hx => hm x (List.mem_of_mem_take hx))) ⟨rfl, ⟨rfl, ⟨_, Tryz.func144, rfl, by kernel_rfl⟩, _, rfl, ?_⟩, trivial⟩ Y Y Y (fun os => ?_)
      · rintro _ R ⟨x, hx, rfl, rfl⟩
        exact ⟨by rintro _ rfl; rfl, ok_impl_CacheOk_1 x c.slots[i]⟩
      cases hu : (c.slots.take i).any fun o => o.used == c.slots[i].used
      · refine Kl Y (Ka Y (Kd (kH (kCondF Y (Kn (Kv (Kc (kAdd Y Y om (Ka Y (Kd ?_))))))))))
        refine kInv ⟨⟨i + 1, by omega, range_all hz (by rw [hq, hu, prevS_pos om hlt om, decide_eq_true om]; rfl)⟩, by simp only; omega, .normA⟩
      · refine Kl Y (Ka Y (Kd (kH (kCondT Y (Kbc (Ka Y (Kd (Kr (Er (ra := [.one (.d _)]) rfl ?_)))))))))
        rw [cache_no hlt (by rw [hq, hu]; simp)]
    · refine Ku true (ok_slices_ContainsFunc_Limpl_Slot_impl_Slot (c.slots.take i) SmallS (fun o => o.used == c.slots[i].used) (by simp; omega) (fun x hx => hm x (List.mem_of_mem_take hx))) ⟨rfl, ⟨rfl, ⟨_, Tryz.func144, rfl, by kernel_rfl⟩, _, rfl, ?_⟩, trivial⟩ Y Y Y (fun os => ?_)
      · rintro _ R ⟨x, hx, rfl, rfl⟩
        exact ⟨by rintro _ rfl; rfl, ok_impl_CacheOk_1 x c.slots[i]⟩
      cases hu : (c.slots.take i).any fun o => o.used == c.slots[i].used
      · refine Kl Y (Ka Y (Kd (kH (kCondF Y (Kn (Kv (Kc (kAdd Y Y om (Ka Y (Kd ?_))))))))))
        refine kInv ⟨⟨i + 1, by omega, range_all hz (by rw [hq, hu, show prevS c.slots i = true from (by cases (show i = 0 by omega); exact prevS_zero)]; rfl)⟩, by simp only; omega, .normA⟩
      · refine Kl Y (Ka Y (Kd (kH (kCondT Y (Kbc (Ka Y (Kd (Kr (Er (ra := [.one (.d _)]) rfl ?_)))))))))
        rw [cache_no hlt (by rw [hq, hu]; simp)]
  · rw [show cacheOk c = true by unfold cacheOk; rw [a3, decide_eq_true k1, decide_eq_true k2, decide_eq_true k3, show (List.range c.slots.length).all (sAt c.slots) = true by rw [show c.slots.length = i by omega]; exact hz]; rfl]
    refine Kbc (Kj Y Y Y (Kdb (Km Y (fun g0 => om) (fun g0 => kExit (kExC (kExI (kExB (Kbc (Ka Y (Kd (Kr (Er (ra := [.one (.d _)]) rfl rfl))))))))))))

def c_impl_Cache_find_1 : C := (.g (.o 0 3 (.box 3 (.t 0)) (.o 1 4 (.mov (.v (.bool false))) .done)) (.g (.o 0 5 (.fad (.t 3) 1) (.o 1 6 (.load none (.t 5)) (.o 2 7 (.load none (.t 1)) (.o 3 8 (.bin .eql (.t 6) (.t 7)) (.o 4 9 (.mov (.t 8)) (.op 5 [] (some 10) (some (9, true)) false (.fad (.t 3) 0) (.op 6 [] (some 11) (some (9, true)) false (.load (some 1) (.t 10)) (.op 7 [] (some 12) (some (9, true)) false (.load (some 1) (.t 2)) (.op 8 [] (some 13) (some (9, true)) false (.call 13 131 [(.t 11), (.t 12)]) (.o 9 14 (.pick (.t 9) (.t 13) (.v (.bool false))) (.o 10 4 (.mov (.t 14)) .done))))))))))) .ret))
theorem dg_impl_Cache_find_1 : Tryz.f251.body.bind (digC Tryz.prog Tryz.f251.ntmps []) = some c_impl_Cache_find_1 := by kernel_rfl
theorem rs_impl_Cache_find_1 : resSlots Tryz.prog Tryz.f251 = some [.s 4] := by kernel_rfl
theorem ok_impl_Cache_find_1 (s : Slot) (n : List (List UInt8)) (t : Int) (hs : SmallS s) (hn : n.length ≤ 4194304) :
    FnOK Tryz.prog 251 [.agg (s.cells.map .d), .one (.ptr [.d (.sc (.int .i64 t))]), .one (.ptr [.d (encBB n)])] (fun ra _ => ra = [.one (.d (.sc (.bool (decide (s.name = n) && s.ty == t))))]) := by
  refine FnOK.ofK Tryz.func251 (by kernel_rfl) dg_impl_Cache_find_1 rs_impl_Cache_find_1 rfl rfl ?_
  delta c_impl_Cache_find_1 T.o X.i C.g
  have hml := hs.n.len
  refine Kbc (kBox Y Y Y Y Y (Ka Y (Kdb (Kc (Kf Y Y (Ke Y Y Y (kLoadC Y Y (Kj Y Y Y (Ka Y (kGP Y (fun g0 => Ki Y (Kf Y Y (Ki Y (Ke Y Y Y (Ki Y (kLoadC Y Y (Ki Y (Kp (ok_impl_Name_is _ _ prx prx) ⟨⟨⟨Y, trivial⟩, leb⟩, ⟨⟨Y, trivial⟩, leb⟩, trivial⟩ Y Y Y Y Y (Kk Y (Ka Y (Ka Y (Kd (Kr (Er (ra := [.one (.d _)]) rfl ?_)))))))))))))) (fun g0 => Kg Y (Kg Y (Kg Y (Kg Y (Kl Y (Ka Y (Ka Y (Kd (Kr (Er (ra := [.one (.d _)]) rfl ?_))))))))))))))))))))
  · rw [show (s.ty == t) = true by simp [*], Bool.and_true]
  · rw [show (s.ty == t) = false by simp [*], Bool.and_false]

def c_impl_Cache_find : C := (.g (.o 0 3 (.box 3 (.t 0)) (.o 1 4 (.box 4 (.t 1)) (.o 2 5 (.box 5 (.t 2)) (.o 3 6 (.mov (.i 0)) .done)))) (.g (.o 0 7 (.fad (.t 3) 2) (.o 1 8 (.load none (.t 7)) (.o 2 9 (.clo 251 [] [(.t 5), (.t 4)]) (.o 3 10 (.call 10 231 [(.t 8), (.t 9)]) (.o 4 6 (.mov (.t 10)) .done))))) .ret))
theorem dg_impl_Cache_find : Tryz.f181.body.bind (digC Tryz.prog Tryz.f181.ntmps []) = some c_impl_Cache_find := by kernel_rfl
theorem rs_impl_Cache_find : resSlots Tryz.prog Tryz.f181 = some [.s 6] := by kernel_rfl
theorem ok_impl_Cache_find (c : Cache) (n : List (List UInt8)) (t : Int) (hs : SmallSs c.slots) (hn : n.length ≤ 4194304) :
    FnOK Tryz.prog 181 [.agg (c.cells.map .d), .agg [.d (encBB n)], .one (.d (.sc (.int .i64 t)))] (fun ra _ => ra = [.one (.d (.sc (.int .i64 (findS c.slots n t))))]) := by
  refine FnOK.ofK Tryz.func181 (by kernel_rfl) dg_impl_Cache_find rs_impl_Cache_find rfl rfl ?_
  delta c_impl_Cache_find T.o X.i C.g
  have h1 := hs.len
  refine Kbc (kBox Y Y Y Y Y (kBox Y Y Y Y Y (kBox Y Y Y Y Y (Ka Y (Kdb (Kc (Kf Y Y (Ke Y Y Y (kClo Y Y ?_)))))))))
  refine Kp (ok_slices_IndexFunc_Limpl_Slot_impl_Slot c.slots SmallS (fun s => decide (s.name = n) && s.ty == t) h1 hs.mem) ⟨rfl, ⟨rfl, ⟨_, Tryz.func251, rfl, by kernel_rfl⟩, _, rfl, ?_⟩, trivial⟩ Y Y Y Y Y ?_
  · rintro _ R ⟨x, hx, rfl, rfl⟩
    exact ⟨by rintro _ rfl; rfl, ok_impl_Cache_find_1 x n t hx hn⟩
  refine Ka Y (Kd (Kr (Er (ra := [.one (.d _)]) rfl rfl)))

def c_bytes_Clone : C := (.g (.o 0 2 (.mov (.n 1)) .done) (.seq (.g (.o 0 3 (.mov (.t 0)) (.o 1 4 (.eqn false (.t 3)) .done)) (.cond (.t 4) (.g (.o 0 2 (.mov (.n 1)) .done) .ret) .skip)) (.g (.o 0 5 (.lit 5 1 [(.v (.int .u8 0))] 0 []) (.o 1 6 (.mov (.t 0)) (.o 2 7 (.app 7 1 1 (.t 5) (.t 6)) (.o 3 2 (.mov (.t 7)) .done)))) .ret)))
theorem dg_bytes_Clone : Tryz.f233.body.bind (digC Tryz.prog Tryz.f233.ntmps []) = some c_bytes_Clone := by kernel_rfl
theorem rs_bytes_Clone : resSlots Tryz.prog Tryz.f233 = some [.s 2] := by kernel_rfl
theorem ok_bytes_Clone (b : List UInt8) (hb : b.length ≤ 140737488355328) :
    FnOK Tryz.prog 233 [.one (.d (encB b))] (fun ra _ => ra = [.one (.own true (encB b))]) := by
  refine FnOK.ofK Tryz.func233 (by kernel_rfl) dg_bytes_Clone rs_bytes_Clone rfl rfl ?_
  delta c_bytes_Clone T.o X.i C.g
  refine Kbc (Ka Y (Kd ?_))
  refine Kb (Kbc (Ka Y (kEqn Y Y Y fun n hn => Kd ?_)))
  refine kCond Y (fun h => ?_) (fun h => ?_)
  · refine Kbc (Ka Y (Kd (Kr ?_)))
    refine endRet (ra := [.one (.own true (.sl 1 []))]) rfl ⟨⟨rfl, trivial⟩, nodupB_sound rfl, trivial, trivial⟩ ?_
    have : b = [] := by
      rw [len_encB] at hn
      cases b with
      | nil => rfl
      | cons x l => have := hn (by simp); simp [this] at h
    rw [this]; rfl
  · refine Kn (Kbc ?_)
    refine kLit Y Y Y Y (Ka Y ?_)
    refine kApp (cy := .d (encB b)) rfl rfl rfl (src_encB _ b) rfl rfl ⟨rfl, rfl, Nat.zero_lt_one⟩ Y ?_ (Ka Y (Kd (Kr ?_)))
    · show ((DV.sl 1 (chunk 1 0 [])).len + (encB b).len) * 1 ≤ _ ∧ _
      rw [len_encB]; simp [DV.len, chunk]; omega
    refine endRet (ra := [.one (.own true _)]) rfl ⟨⟨⟨⟨_, rfl, fun _ => rfl⟩, .inl (Nat.zero_lt_succ _)⟩, trivial⟩, nodupB_sound rfl, trivial, trivial⟩ ?_
    exact congrArg (fun x => [RA.one (RV.own true x)]) (app_nil_encB b)

def c_impl_Name_copied : C := (.g (.o 0 1 (.box 1 (.t 0)) (.o 1 2 (.alloc 2 [(.n 1)]) .done)) (.g (.o 0 6 (.build [(.n 1)] []) (.o 1 3 (.alloc 3 [(.n 1)]) (.op 2 [] none none false (.store (some 1) (.t 3) (.t 6)) .done))) (.seq (.g (.o 0 7 (.fad (.t 1) 0) (.o 1 8 (.load none (.t 7)) (.o 2 9 (.len (.t 8)) (.o 3 10 (.mov (.i 0)) .done)))) (.block 0 (.loop (.g (.o 0 11 (.bin .lss (.t 10) (.t 9)) .done) (.seq (.cond (.t 11) .skip (.exit 0)) (.seq (.block 1 (.g (.o 0 12 (.iad 1 (.t 8) (.t 10)) (.o 1 13 (.load none (.t 12)) (.o 2 5 (.mov (.t 13)) .done))) (.reg true (.op 0 [] (some 14) none true (.fad (.t 3) 0) (.op 1 [] (some 15) none true (.load none (.t 14)) (.op 2 [] (some 16) none true (.mov (.t 5)) (.o 3 17 (.call 17 233 [(.t 16)]) (.o 4 18 (.lit 18 1 [(.n 1)] 1 [(0, 1, (.t 17))]) (.op 5 [1] (some 19) none false (.app 19 1 24 (.t 15) (.t 18)) (.op 6 [] (some 20) none true (.fad (.t 3) 0) (.op 7 [1] none none false (.store none (.t 20) (.t 19)) .done))))))))))) (.reg false (.o 0 21 (.bin .add (.t 10) (.i 1)) (.o 1 10 (.mov (.t 21)) .done))))))))) (.g (.o 0 22 (.load (some 1) (.t 3)) (.op 1 [] none none false (.store (some 1) (.t 2) (.t 22)) .done)) .ret))))
theorem dg_impl_Name_copied : Tryz.f151.body.bind (digC Tryz.prog Tryz.f151.ntmps []) = some c_impl_Name_copied := by kernel_rfl
theorem rs_impl_Name_copied : resSlots Tryz.prog Tryz.f151 = some [.m 2 (some 1)] := by kernel_rfl
theorem ok_impl_Name_copied (a : List (List UInt8)) (ha : a.length ≤ 4194304) (hb : ∀ b ∈ a, b.length ≤ 4194304) :
    FnOK Tryz.prog 151 [.agg [.d (encBB a)]] (fun ra _ => ra = [.agg [.own true (encBB a)]]) := by
  refine FnOK.ofK Tryz.func151 (by kernel_rfl) dg_impl_Name_copied rs_impl_Name_copied rfl rfl ?_
  delta c_impl_Name_copied T.o X.i C.g
  refine Kbc (kBox Y Y Y Y Y (kAlloc Y Y (Kd ?_)))
  refine Kbc (kBuild Y (kAlloc Y Y (Ko Y Y Y Y (Kd ?_))))
  refine Kb (Kbc (Kf Y Y (Ke Y Y Y (kLen Y Y Y (Ka Y (Kd (Kt ?_)))))))
  rw [len_encBB]
  refine kSub (Sub.nilBox (id := rid 3 0) (id2 := rid 5000 0) (j := 0) rfl rfl rfl (by decide) (by decide)) ?_
  refine kLoop (α := { i : Nat // i ≤ a.length })
    (fun y => ⟨tabSl [(1, .c (.ptr (rid 1 0) 1 0)), (2, .c (.ptr (rid 2 0) 1 0)), (3, .c (.ptr (rid 3 0) 1 0)), (8, .dv (encBB a)), (9, .i a.length), (10, .i y.1)],
      obTab 1 [(rid 1 0, ⟨1, 0, .box [.d (encBB a)]⟩), (rid 2 0, ⟨1, 0, .box [.nil 1]⟩), (rid 3 0, ⟨1, 0, .box [.arr (rid 5000 0) 1]⟩), (rid 5000 0, ⟨1, 0, .arr true (encBB (a.take y.1))⟩)], []⟩) (fun y => a.length - y.1) ⟨0, by simp⟩
    (.norm ?_ ?_) ?_
  · repeat' first | exact trivial | exact rfl | exact .inl rfl | refine ⟨_, rfl, ?_⟩ | refine ⟨?_, ?_⟩ | fail
  · repeat' first | exact trivial | exact rfl | exact .inl rfl | refine ⟨_, rfl, ?_⟩ | refine ⟨?_, ?_⟩ | fail
  rintro ⟨i, hi⟩
  simp only at hi ⊢
  refine Kbc (Kj Y Y Y (Kdb ?_))
  refine kCond Y (fun h1 => ?_) (fun h1 => ?_)
  · have hlt : i < a.length := by simp at h1; omega
    refine Kn (Kb (Kt (Kbc ?_)))
    refine kIadD Y Y Y Y ?_ ?_
    · rw [len_encBB]; omega
    rw [show (encBB a).row (i : Int).toNat = [encB a[i]] from row_encBB a i hlt]
    refine Ky Y Y (Ka Y (Kd (kRegD (Kf Y Y (Ke Y Y Y (Ka Y ?_))))))
    refine Ku false (ok_bytes_Clone a[i] (Nat.le_trans (hb _ (List.getElem_mem hlt)) om)) ⟨Y, trivial⟩ rfl rfl rfl fun os => ?_
    refine kLit Y Y Y Y (Ks Y Y ?_)
    refine kApp Y Y Y Y Y Y ⟨rfl, rfl, Nat.zero_lt_one⟩ Y ?_ ?_
    · show ((encBB (a.take i)).len + (DV.sl 1 [[encB a[i]]]).len) * 24 ≤ _ ∧ (encBB (a.take i)).len + (DV.sl 1 [[encB a[i]]]).len ≤ _
      rw [len_encBB, List.length_take]; simp [DV.len, DV.rows]; omega
    refine Kf Y Y (Ks Y Y (Ko Y Y Y Y (Kd (kH (Kv (Kc (kAdd Y Y om (Ka Y (Kd ?_)))))))))
    refine kInv ⟨⟨i + 1, hlt⟩, by simp only; omega, .norm ?_ ?_⟩
    · repeat' first | exact trivial | exact rfl | exact .inl rfl | refine ⟨_, rfl, ?_⟩ | refine ⟨?_, ?_⟩ | fail
    · repeat' first | exact trivial | exact rfl | exact .inl rfl | refine ⟨_, rfl, ?_⟩ | refine ⟨?_, ?_⟩ | fail
      rw [← List.take_append_getElem hlt, ← app_encBB]
      rfl
  · refine kExit (kExC (kExI (kExB (Kbc (Ke Y Y Y (Ko Y Y Y Y (Kd ?_)))))))
    have hge : i = a.length := by simp at h1; omega
    subst hge
    refine Kr (endRet (ra := [.agg [.own true _]]) rfl ⟨⟨⟨⟨⟨⟨_, rfl, fun _ => rfl⟩, .inl Nat.zero_lt_one⟩, trivial⟩, leb⟩, trivial⟩, nodupB_sound rfl, ⟨trivial, trivial⟩, trivial⟩ ?_)
    rw [List.take_length]

def c_slices_Clone_Lint_int : C := (.g (.o 0 2 (.mov (.n 1)) .done) (.seq (.g (.o 0 3 (.mov (.t 0)) (.o 1 4 (.eqn false (.t 3)) .done)) (.cond (.t 4) (.g (.o 0 2 (.mov (.n 1)) .done) .ret) .skip)) (.g (.o 0 5 (.lit 5 1 [(.i 0)] 0 []) (.o 1 6 (.mov (.t 0)) (.o 2 7 (.app 7 1 8 (.t 5) (.t 6)) (.o 3 2 (.mov (.t 7)) .done)))) .ret)))
theorem dg_slices_Clone_Lint_int : Tryz.f188.body.bind (digC Tryz.prog Tryz.f188.ntmps []) = some c_slices_Clone_Lint_int := by kernel_rfl
theorem rs_slices_Clone_Lint_int : resSlots Tryz.prog Tryz.f188 = some [.s 2] := by kernel_rfl
theorem ok_slices_Clone_Lint_int (b : List Int) (hb : b.length ≤ 4194304) :
    FnOK Tryz.prog 188 [.one (.d (encI b))] (fun ra _ => ra = [.one (.own true (encI b))]) := by
  refine FnOK.ofK Tryz.func188 (by kernel_rfl) dg_slices_Clone_Lint_int rs_slices_Clone_Lint_int rfl rfl ?_
  delta c_slices_Clone_Lint_int T.o X.i C.g
  refine Kbc (Ka Y (Kd ?_))
  refine Kb (Kbc (Ka Y (kEqn Y Y Y fun n hn => Kd ?_)))
  refine kCond Y (fun h => ?_) (fun h => ?_)
  · refine Kbc (Ka Y (Kd (Kr ?_)))
    refine endRet (ra := [.one (.own true (.sl 1 []))]) rfl ⟨⟨rfl, trivial⟩, nodupB_sound rfl, trivial, trivial⟩ ?_
    have : b = [] := by
      rw [len_encI] at hn
      cases b with
      | nil => rfl
      | cons x l => have := hn (by simp); simp [this] at h
    rw [this]; rfl
  · refine Kn (Kbc ?_)
    refine kLit Y Y Y Y (Ka Y ?_)
    refine kApp (cy := .d (encI b)) rfl rfl rfl (src_encI _ b) rfl rfl ⟨rfl, rfl, Nat.zero_lt_one⟩ Y ?_ (Ka Y (Kd (Kr ?_)))
    · show ((DV.sl 1 (chunk 1 0 [])).len + (encI b).len) * 8 ≤ _ ∧ _
      rw [len_encI]; simp [DV.len, chunk]; omega
    refine endRet (ra := [.one (.own true _)]) rfl ⟨⟨⟨⟨_, rfl, fun _ => rfl⟩, .inl (Nat.zero_lt_succ _)⟩, trivial⟩, nodupB_sound rfl, trivial, trivial⟩ ?_
    exact congrArg (fun x => [RA.one (RV.own true x)]) (app_nil_encI b)

def c_impl_Rr_copied : C := (.g (.o 0 1 (.box 1 (.t 0)) (.o 1 2 (.alloc 2 [(.n 1), (.i 0), (.i 0), (.i 0), (.n 1), (.n 1), (.n 1)]) .done)) (.seq (.reg true (.op 0 [] (some 3) none true (.fad (.t 1) 0) (.op 1 [] (some 4) none true (.load (some 1) (.t 3)) (.op 3 [] (some 6) none true (.fad (.t 1) 4) (.op 4 [] (some 7) none true (.load (some 1) (.t 6)) (.op 6 [] (some 9) none true (.fad (.t 1) 5) (.op 7 [] (some 10) none true (.load none (.t 9)) (.op 9 [] (some 12) none true (.fad (.t 1) 6) (.op 10 [] (some 13) none true (.load none (.t 12)) (.op 2 [1] (some 5) none false (.call 5 151 [(.t 4)]) (.op 12 [] (some 15) none true (.fad (.t 1) 0) (.op 5 [4, 1] (some 8) none false (.call 8 151 [(.t 7)]) (.op 8 [7, 4, 1] (some 11) none false (.call 11 233 [(.t 10)]) (.op 11 [10, 7, 4, 1] (some 14) none false (.call 14 188 [(.t 13)]) (.op 13 [1, 4, 7, 10] none none false (.store (some 1) (.t 15) (.t 5)) (.op 14 [] (some 16) none true (.fad (.t 1) 4) (.op 15 [1, 4, 7, 10] none none false (.store (some 1) (.t 16) (.t 8)) (.op 16 [] (some 17) none true (.fad (.t 1) 5) (.op 17 [1, 4, 7, 10] none none false (.store none (.t 17) (.t 11)) (.op 18 [] (some 18) none true (.fad (.t 1) 6) (.op 19 [1, 4, 7, 10] none none false (.store none (.t 18) (.t 14)) .done))))))))))))))))))))) (.g (.o 0 19 (.load (some 7) (.t 1)) (.op 1 [] none none false (.store (some 7) (.t 2) (.t 19)) .done)) .ret)))
theorem dg_impl_Rr_copied : Tryz.f172.body.bind (digC Tryz.prog Tryz.f172.ntmps []) = some c_impl_Rr_copied := by kernel_rfl
theorem rs_impl_Rr_copied : resSlots Tryz.prog Tryz.f172 = some [.m 2 (some 7)] := by kernel_rfl
theorem ok_impl_Rr_copied (r : Rr) (hs : SmallR r) :
    FnOK Tryz.prog 172 [.agg (r.cells.map .d)] (fun ra _ => ra = [.agg [.own true (encBB r.name), .d (.sc (.int .i64 r.ty)), .d (.sc (.int .i64 r.ttl)), .d (.sc (.int .i64 r.addr)), .own true (encBB r.to), .own true (encB r.text), .own true (encI r.nums)]]) := by
  refine FnOK.ofK Tryz.func172 (by kernel_rfl) dg_impl_Rr_copied rs_impl_Rr_copied rfl rfl ?_
  delta c_impl_Rr_copied T.o X.i C.g
  have n1 := hs.n.len
  have n2 := hs.n.mem
  have t1 := hs.t.len
  have t2 := hs.t.mem
  have x1 := hs.x
  have m1 := hs.m
  refine Kb (kCut ⟨tabSl [(1, .c (.ptr (rid 1 0) 1 0)), (2, .c (.ptr (rid 2 0) 1 0))], obTab 1 [(rid 1 0, ⟨1, 0, .box (r.cells.map .d)⟩), (rid 2 0, ⟨1, 0, .box [.nil 1, .d (.sc (.int .i64 0)), .d (.sc (.int .i64 0)), .d (.sc (.int .i64 0)), .nil 1, .nil 1, .nil 1]⟩)], []⟩ ?_ (fun x hc => ?_))
  case refine_2 => refine kReg (kBox rfl rfl rfl rfl rfl (kAlloc rfl rfl (kDone (hc _ .normA))))
  refine Kb (kCut ⟨tabSl [(1, .c (.ptr (rid 1 0) 1 0)), (2, .c (.ptr (rid 2 0) 1 0))], obTab 1 [(rid 1 0, ⟨1, 0, .box [.arr (rid 5 0) 1, .d (.sc (.int .i64 r.ty)), .d (.sc (.int .i64 r.ttl)), .d (.sc (.int .i64 r.addr)), .arr (rid 8 0) 1, .arr (rid 11 0) 1, .arr (rid 14 0) 1]⟩), (rid 2 0, ⟨1, 0, .box [.nil 1, .d (.sc (.int .i64 0)), .d (.sc (.int .i64 0)), .d (.sc (.int .i64 0)), .nil 1, .nil 1, .nil 1]⟩), (rid 5 0, ⟨1, 0, .arr true (encBB r.name)⟩), (rid 8 0, ⟨1, 0, .arr true (encBB r.to)⟩), (rid 11 0, ⟨1, 0, .arr true (encB r.text)⟩), (rid 14 0, ⟨1, 0, .arr true (encI r.nums)⟩)], []⟩ ?_ (fun x hc => ?_))
  case refine_2 => refine kRegD (kFadP rfl rfl (kLoadP rfl rfl rfl (kFadP rfl rfl (kLoadP rfl rfl rfl (kFadP rfl rfl (kLoadP rfl rfl rfl (kFadP rfl rfl (kLoadP rfl rfl rfl (kRelK rfl rfl (kCall1 true (ok_impl_Name_copied _ pr pr) ⟨⟨⟨rfl, trivial⟩, leb⟩, trivial⟩ rfl rfl rfl (fun _ => (kFadP rfl rfl (kRelK rfl rfl (kCall1 true (ok_impl_Name_copied _ pr pr) ⟨⟨⟨rfl, trivial⟩, leb⟩, trivial⟩ rfl rfl rfl (fun _ => (kRelK rfl rfl (kCall1 true (ok_bytes_Clone _ pr) ⟨rfl, trivial⟩ rfl rfl rfl (fun _ => (kRelF rfl rfl (kCall1 true (ok_slices_Clone_Lint_int _ pr) ⟨rfl, trivial⟩ rfl rfl rfl (fun _ => (kRelF rfl rfl (kStoreP rfl rfl rfl rfl (kFadP rfl rfl (kRelF rfl rfl (kStoreP rfl rfl rfl rfl (kFadP rfl rfl (kRelF rfl rfl (kStoreP rfl rfl rfl rfl (kFadP rfl rfl (kRelF rfl rfl (kStoreP rfl rfl rfl rfl (kDone (kH (kMem [(8192, ⟨1, 0, .box [.arr 24576 2, .d _, .d _, .d _, .arr 36864 2, .arr 49152 2, .arr 61440 2]⟩), (12288, ⟨1, 0, .box [.nil 1, .d _, .d _, .d _, .nil 1, .nil 1, .nil 1]⟩), (24576, ⟨2, 0, .arr true _⟩), (36864, ⟨2, 0, .arr true _⟩), (49152, ⟨2, 0, .arr true _⟩), (61440, ⟨2, 0, .arr true _⟩)] [(1, .c (.ptr 8192 1 0)), (2, .c (.ptr 12288 1 0))] [] ⟨rfl, rfl, rfl, rfl, rfl, rfl, trivial⟩ ⟨rfl, rfl, trivial⟩ rfl (hc _ .normA))))))))))))))))))))))))))))))))))))
  refine Kb (kCut ⟨tabSl [(2, .c (.ptr (rid 2 0) 1 0))], obTab 1 [(rid 2 0, ⟨1, 0, .box [.arr (rid 5 0) 1, .d (.sc (.int .i64 r.ty)), .d (.sc (.int .i64 r.ttl)), .d (.sc (.int .i64 r.addr)), .arr (rid 8 0) 1, .arr (rid 11 0) 1, .arr (rid 14 0) 1]⟩), (rid 5 0, ⟨1, 0, .arr true (encBB r.name)⟩), (rid 8 0, ⟨1, 0, .arr true (encBB r.to)⟩), (rid 11 0, ⟨1, 0, .arr true (encB r.text)⟩), (rid 14 0, ⟨1, 0, .arr true (encI r.nums)⟩)], []⟩ ?_ (fun x hc => ?_))
  case refine_2 => refine kReg (kLoadP rfl rfl rfl (kStoreP rfl rfl rfl rfl (kDone (hc _ .normA))))
  refine (Kr (Er (ra := [.agg [(.own true _), (.d _), (.d _), (.d _), (.own true _), (.own true _), (.own true _)]]) rfl rfl))

def c_impl_copyRrs : C := (.g (.o 0 2 (.mov (.n 7)) .done) (.g (.o 0 6 (.lit 6 7 [(.n 1), (.i 0), (.i 0), (.i 0), (.n 1), (.n 1), (.n 1)] 0 []) (.o 1 3 (.mov (.t 6)) .done)) (.seq (.g (.o 0 7 (.mov (.t 0)) (.o 1 8 (.len (.t 7)) (.o 2 9 (.mov (.i 0)) .done))) (.block 0 (.loop (.g (.o 0 10 (.bin .lss (.t 9) (.t 8)) .done) (.seq (.cond (.t 10) .skip (.exit 0)) (.seq (.block 1 (.g (.o 0 11 (.iad 7 (.t 7) (.t 9)) (.o 1 12 (.load (some 7) (.t 11)) (.o 2 5 (.alloc 5 [(.n 1), (.i 0), (.i 0), (.i 0), (.n 1), (.n 1), (.n 1)]) (.op 3 [] none none false (.store (some 7) (.t 5) (.t 12)) .done)))) (.reg false (.o 0 13 (.mov (.t 3)) (.o 1 14 (.load (some 7) (.t 5)) (.o 2 15 (.call 15 172 [(.t 14)]) (.o 3 16 (.lit 16 7 [(.n 1), (.i 0), (.i 0), (.i 0), (.n 1), (.n 1), (.n 1)] 1 [(0, 7, (.t 15))]) (.o 4 17 (.app 17 7 120 (.t 13) (.t 16)) (.o 5 3 (.mov (.t 17)) .done))))))))) (.reg false (.o 0 18 (.bin .add (.t 9) (.i 1)) (.o 1 9 (.mov (.t 18)) .done))))))))) (.g (.o 0 19 (.mov (.t 3)) (.o 1 2 (.mov (.t 19)) .done)) .ret))))
theorem dg_impl_copyRrs : Tryz.f81.body.bind (digC Tryz.prog Tryz.f81.ntmps []) = some c_impl_copyRrs := by kernel_rfl
theorem rs_impl_copyRrs : resSlots Tryz.prog Tryz.f81 = some [.s 2] := by kernel_rfl
theorem ok_impl_copyRrs (l : List Rr) (hs : SmallRs l) :
    FnOK Tryz.prog 81 [.one (.d (encR l))] (fun ra _ => ra = [.one (.own true (encR l))]) := by
  refine FnOK.ofK Tryz.func81 (by kernel_rfl) dg_impl_copyRrs rs_impl_copyRrs rfl rfl ?_
  delta c_impl_copyRrs T.o X.i C.g
  have h1 := hs.len
  refine Kbc (Ka Y (Kdb (Kc (kLit Y Y Y Y (Ka Y (Kdb (Kbc (Ka Y (Kq Y Y (Ka Y (Kd (Kt ?_))))))))))))
  refine kLoop (α := { i : Nat // i ≤ l.length }) (fun y => ⟨tabSl [(3, .c (.arr (rid 6 0) 1)), (7, .dv (encR l)), (8, .i l.length), (9, .i y.1)], obTab 1 [(rid 6 0, ⟨1, 0, .arr true (encR (l.take y.1))⟩)], []⟩) (fun y => l.length - y.1) ⟨0, by simp⟩ .normA ?_
  rintro ⟨i, hi⟩
  simp only
  have hlen : (l.take i).length = i := by simp; omega
  rcases Nat.lt_or_ge i l.length with hlt | hge
  · have hbi := hs.mem _ (List.getElem_mem hlt)
    refine Kbc (Kj Y Y Y (Kdb (Km Y (fun g0 => Kn (Kb (Kt (Kbc (kIadR Y Y Y om (Ky Y Y (kAlloc Y Y (Ko Y Y Y Y (Kd (Kc (Ka Y (Ke Y Y Y (Ku true (ok_impl_Rr_copied _ pr) ⟨⟨⟨Y, Y, Y, Y, Y, Y, Y, trivial⟩, leb⟩, trivial⟩ Y Y Y (fun _ => (kLit Y Y Y Y (kAppRec Y Y Y Y Y Y Y om (Ka Y (Kd (Kv (Kc (kAdd Y Y om (Ka Y (Kd ?_))))))))))))))))))))))) (fun g0 => om))))
    exact kInv ⟨⟨i + 1, by omega⟩, by simp only; omega, .normA⟩
  · refine Kbc (Kj Y Y Y (Kdb (Km Y (fun g0 => om) (fun g0 => kExit (kExC (kExI (kExB (Kbc (Ka Y (Ka Y (Kd (Kr (Er (ra := [.one (.own true _)]) rfl ?_)))))))))))))
    rw [show i = l.length by omega, List.take_length]

def c_impl_Cache_copied : C := (.g (.o 0 1 (.box 1 (.t 0)) (.o 1 2 (.alloc 2 [(.i 0), (.i 0), (.n 7)]) .done)) (.g (.o 0 6 (.fad (.t 1) 0) (.o 1 7 (.load none (.t 6)) (.o 2 8 (.fad (.t 1) 1) (.o 3 9 (.load none (.t 8)) (.o 4 10 (.build [(.i 0), (.i 0), (.n 7)] [(0, 1, (.t 7)), (1, 1, (.t 9))]) (.o 5 3 (.alloc 3 [(.i 0), (.i 0), (.n 7)]) (.op 6 [] none none false (.store (some 3) (.t 3) (.t 10)) .done))))))) (.seq (.g (.o 0 11 (.fad (.t 1) 2) (.o 1 12 (.load none (.t 11)) (.o 2 13 (.len (.t 12)) (.o 3 14 (.mov (.i 0)) .done)))) (.block 0 (.loop (.g (.o 0 15 (.bin .lss (.t 14) (.t 13)) .done) (.seq (.cond (.t 15) .skip (.exit 0)) (.seq (.block 1 (.g (.o 0 16 (.iad 7 (.t 12) (.t 14)) (.o 1 17 (.load (some 7) (.t 16)) (.o 2 5 (.alloc 5 [(.n 1), (.i 0), (.i 0), (.n 7), (.i 0), (.i 0), (.i 0)]) (.op 3 [] none none false (.store (some 7) (.t 5) (.t 17)) .done)))) (.seq (.reg true (.op 0 [] (some 18) none true (.fad (.t 5) 0) (.op 1 [] (some 19) none true (.load (some 1) (.t 18)) (.op 3 [] (some 21) none true (.fad (.t 5) 3) (.op 4 [] (some 22) none true (.load none (.t 21)) (.op 2 [1] (some 20) none false (.call 20 151 [(.t 19)]) (.op 6 [] (some 24) none true (.fad (.t 5) 0) (.op 5 [4, 1] (some 23) none false (.call 23 81 [(.t 22)]) (.op 7 [1, 4] none none false (.store (some 1) (.t 24) (.t 20)) (.op 8 [] (some 25) none true (.fad (.t 5) 3) (.op 9 [1, 4] none none false (.store none (.t 25) (.t 23)) .done))))))))))) (.reg false (.o 0 26 (.fad (.t 3) 2) (.o 1 27 (.load none (.t 26)) (.o 2 28 (.load (some 7) (.t 5)) (.o 3 29 (.lit 29 7 [(.n 1), (.i 0), (.i 0), (.n 7), (.i 0), (.i 0), (.i 0)] 1 [(0, 7, (.t 28))]) (.o 4 30 (.app 30 7 88 (.t 27) (.t 29)) (.o 5 31 (.fad (.t 3) 2) (.op 6 [] none none false (.store none (.t 31) (.t 30)) .done))))))))))) (.reg false (.o 0 32 (.bin .add (.t 14) (.i 1)) (.o 1 14 (.mov (.t 32)) .done))))))))) (.g (.o 0 33 (.load (some 3) (.t 3)) (.op 1 [] none none false (.store (some 3) (.t 2) (.t 33)) .done)) .ret))))
theorem dg_impl_Cache_copied : Tryz.f91.body.bind (digC Tryz.prog Tryz.f91.ntmps []) = some c_impl_Cache_copied := by kernel_rfl
theorem rs_impl_Cache_copied : resSlots Tryz.prog Tryz.f91 = some [.m 2 (some 3)] := by kernel_rfl
theorem ok_impl_Cache_copied (c : Cache) (hs : SmallSs c.slots) :
    FnOK Tryz.prog 91 [.agg (c.cells.map .d)] (fun ra _ => ra = [.agg [.d (.sc (.int .i64 c.now)), .d (.sc (.int .i64 c.turn)), .own true (encS c.slots)]]) := by
  refine FnOK.ofK Tryz.func91 (by kernel_rfl) dg_impl_Cache_copied rs_impl_Cache_copied rfl rfl ?_
  delta c_impl_Cache_copied T.o X.i C.g
  have h1 := hs.len
  have hm := hs.mem
  refine Kbc (kBox Y Y Y Y Y (kAlloc Y Y (Kdb (Kc (Kf Y Y (Ke Y Y Y (Kf Y Y (Ke Y Y Y (kBuildG Y (kAlloc Y Y (kMem [(16384, ⟨1, 0, .box [.d _, .d _, .nil 7]⟩)] [(3, .c (.ptr 16384 1 0)), (10, .g [.d _, .d _, .nil 7])] [] ⟨Y, trivial⟩ ⟨Y, Y, trivial⟩ Y (Ko Y Y Y Y (Kdb (Kbc (Kf Y Y (Ke Y Y Y (Kq Y Y (Ka Y (Kd (Kt ?_))))))))))))))))))))
  refine kSub (Sub.nilBox (id := rid 3 0) (id2 := rid 5000 0) (j := 2) rfl rfl rfl (by decide) (by decide)) ?_
  refine kLoop (α := { i : Nat // i ≤ c.slots.length }) (fun y => ⟨tabSl [(1, .c (.ptr (rid 1 0) 1 0)), (2, .c (.ptr (rid 2 0) 1 0)), (3, .c (.ptr (rid 3 0) 1 0)), (12, .dv (encS c.slots)), (13, .i c.slots.length), (14, .i y.1)], obTab 1 [(rid 1 0, ⟨1, 0, .box (c.cells.map .d)⟩), (rid 2 0, ⟨1, 0, .box [.d (.sc (.int .i64 0)), .d (.sc (.int .i64 0)), .nil 7]⟩), (rid 3 0, ⟨1, 0, .box [.d (.sc (.int .i64 c.now)), .d (.sc (.int .i64 c.turn)), .arr (rid 5000 0) 1]⟩), (rid 5000 0, ⟨1, 0, .arr true (encS (c.slots.take y.1))⟩)], []⟩) (fun y => c.slots.length - y.1) ⟨0, by simp⟩ .normA ?_
  rintro ⟨i, hi⟩
  simp only
  have hlen : (c.slots.take i).length = i := by simp; omega
  rcases Nat.lt_or_ge i c.slots.length with hlt | hge
  · have hbi := hm _ (List.getElem_mem hlt)
    have n1 := hbi.n.len
    have n2 := hbi.n.mem
    have r1 := hbi.r
    refine Kbc (Kj Y Y Y (Kdb (Km Y (fun g0 => Kn (Kb (Kt (Kbc (kIadR Y Y Y prl (Ky Y Y (kAlloc Y Y (kMem [(24576, ⟨2, 0, .box [.nil 1, .d _, .d _, .nil 7, .d _, .d _, .d _]⟩)] [(5, .c (.ptr 24576 2 0)), (17, .g [.d _, .d _, .d _, .d _, .d _, .d _, .d _])] [] ⟨Y, trivial⟩ ⟨Y, Y, trivial⟩ Y (Ko Y Y Y Y (Kdb (kRegD (Kf Y Y (Ke Y Y Y (Kf Y Y (Ke Y Y Y (Kx Y Y (Ku true (ok_impl_Name_copied _ prx prx) ⟨⟨⟨Y, trivial⟩, leb⟩, trivial⟩ Y Y Y (fun _ => (Kf Y Y (Ks Y Y (Ku true (ok_impl_copyRrs _ prx) ⟨Y, trivial⟩ Y Y Y (fun _ => (Ks Y Y (Ko Y Y Y Y (Kf Y Y (Ks Y Y (Ko Y Y Y Y (Kd (kH (Kc (Kf Y Y (Ke Y Y Y (Ke Y Y Y (kLitG Y Y Y Y (kAppSlot Y Y Y Y Y Y Y prl (Kf Y Y (kMem [(16384, ⟨1, 0, .box [.d _, .d _, .arr 20484096 1]⟩), (20484096, ⟨2, 0, .arr true _⟩)] [(31, .c (.ptr 16384 1 2)), (30, .c (.arr 20484096 2))] [] ⟨Y, Y, trivial⟩ ⟨Y, Y, trivial⟩ Y (Ko Y Y Y Y (Kd (Kv (Kc (kAdd Y Y om (Ka Y (Kd ?_)))))))))))))))))))))))))))))))))))))))))))) (fun g0 => om))))
    exact kInv ⟨⟨i + 1, by omega⟩, by simp only; omega, .normA⟩
  · refine Kbc (Kj Y Y Y (Kdb (Km Y (fun g0 => om) (fun g0 => kExit (kExC (kExI (kExB (Kbc (Ke Y Y Y (kMem [(12288, ⟨1, 0, .box [.d _, .d _, .nil 7]⟩), (20484096, ⟨1, 0, .arr true _⟩)] [(2, .c (.ptr 12288 1 0)), (33, .g [.d _, .d _, .arr 20484096 1])] [] ⟨Y, Y, trivial⟩ ⟨Y, Y, trivial⟩ Y (Ko Y Y Y Y (Kd (kMem [(12288, ⟨1, 0, .box [.d _, .d _, .arr 20484096 1]⟩), (20484096, ⟨1, 0, .arr true _⟩)] [(2, .c (.ptr 12288 1 0))] [] ⟨Y, Y, trivial⟩ ⟨Y, trivial⟩ Y (Kr (Er (ra := [.agg [(.d _), (.d _), (.own true _)]]) rfl ?_)))))))))))))))
    rw [show i = c.slots.length by omega, List.take_length]

def c_impl_Cache_get : C := (.g (.o 0 3 (.box 3 (.t 0)) (.o 1 4 (.box 4 (.t 1)) (.o 2 6 (.alloc 6 [(.i 0), (.i 0), (.n 7)]) (.o 3 7 (.mov (.n 7)) (.o 4 8 (.mov (.i 0)) .done))))) (.g (.o 0 13 (.load (some 3) (.t 3)) (.o 1 14 (.load (some 1) (.t 4)) (.o 2 15 (.mov (.t 2)) (.o 3 16 (.call 16 181 [(.t 13), (.t 14), (.t 15)]) (.o 4 9 (.mov (.t 16)) .done))))) (.seq (.g (.o 0 17 (.mov (.t 9)) (.o 1 18 (.bin .lss (.t 17) (.i 0)) .done)) (.cond (.t 18) (.g (.o 0 19 (.load (some 3) (.t 3)) (.op 1 [] none none false (.store (some 3) (.t 6) (.t 19)) (.o 2 7 (.mov (.n 7)) (.o 3 8 (.mov (.i 0)) .done)))) .ret) .skip)) (.g (.o 0 20 (.load (some 3) (.t 3)) (.o 1 21 (.call 21 91 [(.t 20)]) (.op 2 [] none none false (.store (some 3) (.t 3) (.t 21)) .done))) (.g (.o 0 22 (.fad (.t 3) 2) (.o 1 23 (.load none (.t 22)) (.o 2 24 (.mov (.t 9)) (.o 3 25 (.iad 7 (.t 23) (.t 24)) (.o 4 10 (.mov (.t 25)) .done))))) (.seq (.g (.o 0 26 (.fad (.t 3) 1) (.o 1 27 (.load none (.t 26)) (.o 2 28 (.bin .lss (.t 27) (.i 1000000)) .done))) (.cond (.t 28) (.g (.o 0 29 (.fad (.t 3) 1) (.o 1 30 (.load none (.t 29)) (.o 2 31 (.bin .add (.t 30) (.i 1)) (.o 3 32 (.fad (.t 3) 1) (.op 4 [] none none false (.store none (.t 32) (.t 31)) .done))))) (.reg false (.o 0 33 (.mov (.t 10)) (.o 1 34 (.fad (.t 3) 1) (.o 2 35 (.load none (.t 34)) (.o 3 36 (.nck (.t 33)) (.o 4 37 (.fad (.t 36) 6) (.op 5 [] none none false (.store none (.t 37) (.t 35)) .done)))))))) .skip)) (.g (.o 0 38 (.mov (.t 10)) (.o 1 39 (.nck (.t 38)) (.o 2 40 (.fad (.t 39) 3) (.o 3 41 (.load none (.t 40)) (.o 4 42 (.call 42 81 [(.t 41)]) (.o 5 11 (.mov (.t 42)) .done)))))) (.seq (.g (.o 0 43 (.mov (.t 11)) (.o 1 44 (.len (.t 43)) (.o 2 45 (.mov (.i 0)) .done))) (.block 0 (.loop (.g (.o 0 46 (.bin .lss (.t 45) (.t 44)) .done) (.seq (.cond (.t 46) .skip (.exit 0)) (.seq (.block 1 (.g (.o 0 47 (.mov (.t 45)) (.o 1 12 (.mov (.t 47)) .done)) (.reg true (.op 0 [] (some 48) none true (.mov (.t 11)) (.op 1 [] (some 49) none true (.mov (.t 12)) (.op 2 [] (some 50) none true (.mov (.t 11)) (.op 3 [] (some 51) none true (.mov (.t 12)) (.op 4 [] (some 52) none true (.iad 7 (.t 50) (.t 51)) (.op 5 [] (some 53) none true (.fad (.t 52) 2) (.op 6 [] (some 54) none true (.load none (.t 53)) (.op 7 [] (some 55) none true (.mov (.t 10)) (.op 8 [] (some 56) none true (.nck (.t 55)) (.op 9 [] (some 57) none true (.fad (.t 56) 5) (.op 10 [] (some 58) none true (.load none (.t 57)) (.op 11 [] (some 59) none true (.fad (.t 3) 0) (.op 12 [] (some 60) none true (.load none (.t 59)) (.op 13 [] (some 61) none true (.bin .sub (.t 58) (.t 60)) (.op 14 [] (some 62) none true (.mm false (.t 54) (.t 61)) (.op 15 [] (some 63) none true (.iad 7 (.t 48) (.t 49)) (.op 16 [] (some 64) none true (.fad (.t 63) 2) (.op 17 [6, 10, 12] none none false (.store none (.t 64) (.t 62)) .done))))))))))))))))))))) (.reg false (.o 0 65 (.bin .add (.t 45) (.i 1)) (.o 1 45 (.mov (.t 65)) .done))))))))) (.seq (.reg true (.op 0 [] (some 66) none true (.load (some 3) (.t 3)) (.op 1 [] (some 67) none true (.mov (.t 11)) (.op 2 [] (some 68) none true (.mov (.t 10)) (.op 3 [] (some 69) none true (.nck (.t 68)) (.op 4 [] (some 70) none true (.fad (.t 69) 2) (.op 5 [] (some 71) none true (.load none (.t 70)) (.op 6 [0] none none false (.store (some 3) (.t 6) (.t 66)) (.op 7 [] (some 7) none true (.mov (.t 67)) (.op 8 [] (some 8) none true (.mov (.t 71)) .done)))))))))) .ret)))))))))
theorem dg_impl_Cache_get : Tryz.f90.body.bind (digC Tryz.prog Tryz.f90.ntmps []) = some c_impl_Cache_get := by kernel_rfl
theorem rs_impl_Cache_get : resSlots Tryz.prog Tryz.f90 = some [.m 6 (some 3), .s 7, .s 8] := by kernel_rfl
theorem ok_impl_Cache_get (c : Cache) (n : List (List UInt8)) (t : Int) (hs : SmallSs c.slots) (hn : n.length ≤ 4194304) (hc : 0 ≤ c.now ∧ 0 ≤ c.turn ∧ c.turn ≤ 1000000) (hu : ∀ s ∈ c.slots, 0 ≤ s.til ∧ s.til ≤ 100000000 ∧ c.now ≤ 100000000) :
    FnOK Tryz.prog 90 [.agg (c.cells.map .d), .agg [.d (encBB n)], .one (.d (.sc (.int .i64 t)))] (fun ra _ => ra = [.agg [.d (.sc (.int .i64 (getC c n t).now)), .d (.sc (.int .i64 (getC c n t).turn)), .d (encS (getC c n t).slots)], .one (.own true (encR (getL c n t))), .one (.d (.sc (.int .i64 (getK c n t))))]) := by
  refine FnOK.ofK Tryz.func90 (by kernel_rfl) dg_impl_Cache_get rs_impl_Cache_get rfl rfl ?_
  delta c_impl_Cache_get T.o X.i C.g
  have hl := hs.len
  have hstopo18 := trivial
  refine Kbc (kBox Y Y Y Y Y (kBox Y Y Y Y Y (kAlloc Y Y (Ka Y (Ka Y (Kdb (Kc (Ke Y Y Y (Ke Y Y Y (Ka Y (Kp (ok_impl_Cache_find _ _ _ prx prx) ⟨⟨⟨Y, Y, Y, trivial⟩, leb⟩, ⟨⟨Y, trivial⟩, leb⟩, rfl, trivial⟩ Y Y Y Y Y (Ka Y (Kdb (Kb ?_))))))))))))))
  clear hstopo18
  rcases findS_cases c.slots n t with e | ⟨i, hi, e⟩
  · rw [e]
    have e1 : getC c n t = c := by unfold getC; rw [e]; rfl
    have e2 : getL c n t = [] := by unfold getL; rw [e]; rfl
    have e3 : getK c n t = 0 := by unfold getK; rw [e]; rfl
    rw [e1, e2, e3]
    refine Kc (Ka Y (Kj Y Y Y (Kd (kCondT Y (Kbc (kMem [(16384, ⟨1, 0, .box [.d _, .d _, .d _]⟩), (28672, ⟨1, 0, .box [.d _, .d _, .nil 7]⟩)] [(3, .c (.ptr 16384 1 0)), (6, .c (.ptr 28672 1 0)), (19, .c (.un))] [] ⟨Y, Y, trivial⟩ ⟨Y, Y, Y, trivial⟩ Y (Ke Y Y Y (kMem [(28672, ⟨1, 0, .box [.d _, .d _, .nil 7]⟩)] [(6, .c (.ptr 28672 1 0)), (19, .g [.d _, .d _, .d _])] [] ⟨Y, trivial⟩ ⟨Y, Y, trivial⟩ Y (Ko Y Y Y Y (Ka Y (Ka Y (Kd (kMem [(28672, ⟨1, 0, .box [.d _, .d _, .d _]⟩)] [(6, .c (.ptr 28672 1 0)), (7, .c (.nil 7)), (8, .c (.d _))] [] ⟨Y, trivial⟩ ⟨Y, Y, Y, trivial⟩ Y (Kr (Er (ra := [.agg [(.d _), (.d _), (.d _)], .one (.own true _), .one (.d _)]) rfl rfl)))))))))))))))
  · rw [e]
    have hsi := slotAt_eq hi e
    have hu1 := hu _ (List.getElem_mem hi)
    have hsm := hs.mem _ (List.getElem_mem hi)
    have hsr := hsm.r
    have hsrl := hsr.len
    have e2 : getL c n t = c.slots[i].rrs.map (cutTtl (c.slots[i].til - c.now)) := by unfold getL; rw [e, if_neg (by omega), hsi]
    have e3 : getK c n t = c.slots[i].kind := by unfold getK; rw [e, if_neg (by omega), hsi]
    rw [e2, e3]
    have hg : getC c n t = (if c.turn < 1000000 then (⟨c.now, c.turn + 1, c.slots.set i { c.slots[i] with used := c.turn + 1 }⟩ : Cache) else c) := by
      unfold getC; rw [hsi, e, if_neg (show ¬ ((i : Int) < 0) by omega), Int.toNat_natCast]
    have c1 : (getC c n t).now = c.now := by rw [hg]; split <;> rfl
    have c2 : (getC c n t).slots.length = c.slots.length := by rw [hg]; split <;> simp
    have c3 : ∀ h : i < (getC c n t).slots.length, (getC c n t).slots[i].rrs = c.slots[i].rrs ∧ (getC c n t).slots[i].til = c.slots[i].til ∧ (getC c n t).slots[i].kind = c.slots[i].kind := by
      rw [hg]; intro h; split <;> simp
    have hstopo26 := trivial
    refine Kc (Ka Y (Kj Y Y Y (Kd (kCondF Y (Kn (Kbc (kMem [(16384, ⟨1, 0, .box [.d _, .d _, .d _]⟩)] [(3, .c (.ptr 16384 1 0)), (20, .c (.un)), (21, .c (.un))] [] ⟨Y, trivial⟩ ⟨Y, Y, Y, trivial⟩ Y (Ke Y Y Y (Ku true (ok_impl_Cache_copied _ prx) ⟨⟨⟨Y, Y, Y, trivial⟩, leb⟩, trivial⟩ Y Y Y (fun _ => (kMem [(16384, ⟨1, 0, .box [.d _, .d _, .d _]⟩), (90114, ⟨1, 0, .arr true _⟩)] [(3, .c (.ptr 16384 1 0)), (21, .g [.d _, .d _, .arr 90114 1])] [] ⟨Y, Y, trivial⟩ ⟨Y, Y, trivial⟩ Y (Ko Y Y Y Y (Kdb (Kc (Kf Y Y (Ke Y Y Y (Ka Y (kIadAR Y Y Y Y prl (Ka Y (Kdb (Kb ?_)))))))))))))))))))))
    clear hstopo26
    refine kCut2 ⟨tabSl [(3, .c (.ptr (rid 3 0) 1 0)), (6, .c (.ptr (rid 6 0) 1 0)), (9, .i i), (10, .c (.ept (rid 21 2) 1 i 0))], obTab 1 [(rid 3 0, ⟨1, 0, .box [.d (.sc (.int .i64 c.now)), .d (.sc (.int .i64 (getC c n t).turn)), .arr (rid 21 2) 1]⟩), (rid 6 0, ⟨1, 0, .box [.d (.sc (.int .i64 0)), .d (.sc (.int .i64 0)), .nil 7]⟩), (rid 21 2, ⟨1, 0, .arr true (encS (getC c n t).slots)⟩)], []⟩ ?_ (fun x hc => ?_)
    case refine_2 =>
      refine Kc (Kf Y Y (Ke Y Y Y (Kj Y Y Y (Kd (Km Y (fun g0 => Kbc (kMem [(16384, ⟨1, 0, .box [.d _, .d _, .arr 90114 1]⟩), (90114, ⟨1, 0, .arr true _⟩)] [(3, .c (.ptr 16384 1 0)), (29, .c (.un)), (30, .c (.un)), (32, .c (.un)), (31, .c (.un))] [] ⟨Y, Y, trivial⟩ ⟨Y, Y, Y, Y, Y, trivial⟩ Y (Kf Y Y (Ke Y Y Y (kAdd Y Y om (Kf Y Y (Ko Y Y Y Y (Kd (Kc (Ka Y (Kf Y Y (Ke Y Y Y (kNck Y Y (kFadE Y Y ?_)))))))))))))) (fun g0 => Kn ?_))))))
      · refine kStoreER (f := Slot.cells) (l := c.slots) (i := i) (z := { c.slots[i] with used := c.turn + 1 }) Y Y Y Y Y Y Y hi rfl ?_
        refine Kd ?_
        exact hc _ (by rw [hg, if_pos (by assumption)]; exact .normA)
      · exact hc _ (by rw [hg, if_neg (by assumption)]; exact .normA)
    clear hg e2 e3
    rw [c1]
    generalize getC c n t = D at *
    have hiD : i < D.slots.length := by omega
    obtain ⟨d1, d2, d3⟩ := c3 hiD
    have hDr : SmallRs D.slots[i].rrs := by rw [d1]; exact hsr
    have hdt : 0 ≤ D.slots[i].til ∧ D.slots[i].til ≤ 100000000 := by rw [d2]; omega
    rw [← d1, ← d2, ← d3]
    refine Kbc (Ka Y (kNck Y Y (kFadE Y Y (kLoadER Y Y prl rfl ?_))))
    refine Ku true (ok_impl_copyRrs D.slots[i].rrs hDr) ⟨rd_subS rfl hiD rfl, trivial⟩ Y Y Y (fun _ => ?_)
    refine Ka Y (Kdb (Kbc (Ka Y (Kq Y Y (Ka Y (Kd (Kt ?_)))))))
    obtain ⟨m, em⟩ : ∃ m, m = D.slots[i].til - c.now := ⟨_, rfl⟩
    rw [← em]
    refine kLoop (α := { y : Nat × List Rr // y.1 ≤ D.slots[i].rrs.length ∧ y.2 = (D.slots[i].rrs.take y.1).map (cutTtl m) ++ D.slots[i].rrs.drop y.1 }) (fun y => ⟨tabSl [(3, .c (.ptr (rid 3 0) 1 0)), (6, .c (.ptr (rid 6 0) 1 0)), (10, .c (.ept (rid 21 2) 1 i 0)), (11, .c (.arr (rid 42 0) 1)), (44, .i D.slots[i].rrs.length), (45, .i y.1.1)], obTab 1 [(rid 3 0, ⟨1, 0, .box [.d (.sc (.int .i64 c.now)), .d (.sc (.int .i64 D.turn)), .arr (rid 21 2) 1]⟩), (rid 6 0, ⟨1, 0, .box [.d (.sc (.int .i64 0)), .d (.sc (.int .i64 0)), .nil 7]⟩), (rid 21 2, ⟨1, 0, .arr true (encS D.slots)⟩), (rid 42 0, ⟨1, 0, .arr true (encR y.1.2)⟩)], []⟩) (fun y => D.slots[i].rrs.length - y.1.1) ⟨(0, D.slots[i].rrs), Nat.zero_le _, by simp⟩ .normA ?_
    rintro ⟨⟨j, V⟩, hj, hV⟩
    simp only at hj hV ⊢
    have hVl : V.length = D.slots[i].rrs.length := by rw [hV]; simp; omega
    have hrl := hDr.len
    rcases Nat.lt_or_ge j D.slots[i].rrs.length with hlt | hge
    · have hjV : j < V.length := by omega
      have hVj : V[j] = D.slots[i].rrs[j] := by
        simp only [hV]
        rw [List.getElem_append_right (by simp; omega)]
        simp; congr 1; omega
      have hmin : min V[j].ttl (D.slots[i].til - c.now) = (cutTtl m D.slots[i].rrs[j]).ttl := by
        rw [← hVj, em]; unfold cutTtl; split <;> (first | omega | (simp only; omega))
      have he : cutTtl m D.slots[i].rrs[j] = { V[j] with ttl := (cutTtl m D.slots[i].rrs[j]).ttl } := by
        rw [← hVj]; unfold cutTtl; split <;> rfl
      have hstep : V.set j (cutTtl m D.slots[i].rrs[j]) = (D.slots[i].rrs.take (j + 1)).map (cutTtl m) ++ D.slots[i].rrs.drop (j + 1) := by
        rw [hV, List.set_append_right _ _ (by simp; omega)]
        rw [show j - (List.map (cutTtl m) (List.take j D.slots[i].rrs)).length = 0 by simp; omega, List.drop_eq_getElem_cons hlt, List.set_cons_zero, ← List.take_append_getElem hlt, List.map_append]
        simp
      refine Kbc (Kj Y Y Y (Kdb (Km Y (fun g0 => Kn (Kb (Kt (Kbc (Ka Y (Ka Y (Kd (kRegD (Ka Y (Ka Y (Ka Y (Ka Y (kIadAR Y Y Y Y prl (kFadE Y Y (kLoadER Y Y prl rfl (Ka Y (kMem [(16384, ⟨1, 0, .box [.d _, .d _, .arr 90114 1]⟩), (176128, ⟨1, 0, .arr true _⟩), (90114, ⟨1, 0, .arr true _⟩)] [(3, .c (.ptr 16384 1 0)), (54, .c (.d _)), (48, .c (.arr 176128 1)), (49, .c (.d _))] [176128] ⟨Y, Y, Y, trivial⟩ ⟨Y, Y, Y, Y, trivial⟩ Y (kNck Y Y (kFadE Y Y (kLoadER Y Y prl rfl (Kf Y Y (Ke Y Y Y (kDif Y Y om (kMmMin Y Y (kIadAR Y Y Y Y prl (kFadE Y Y (Ks Y Y ?_))))))))))))))))))))))))))) (fun g0 => om))))
      refine kStoreER (f := Rr.cells) (l := V) (i := j) (z := { V[j] with ttl := min V[j].ttl (D.slots[i].til - c.now) }) rfl rfl rfl rfl rfl rfl rfl hjV rfl ?_
      refine Kd (kH (Kv (Kc (kAdd Y Y om (Ka Y (Kd ?_))))))
      exact kInv ⟨⟨(j + 1, V.set j { V[j] with ttl := min V[j].ttl (D.slots[i].til - c.now) }), by omega, by rw [hmin, ← he]; exact hstep⟩, by simp only; omega, .normA⟩
    · have hjL : j = D.slots[i].rrs.length := by omega
      have hVe : V = D.slots[i].rrs.map (cutTtl m) := by rw [hV, hjL]; simp
      refine Kbc (Kj Y Y Y (Kdb (Km Y (fun g0 => om) (fun g0 => kExit (kExC (kExI (kExB (Kb (kRegD (Ke Y Y Y (Ka Y (Ka Y (kNck Y Y (kFadE Y Y (kLoadER Y Y prl rfl (kMem [(28672, ⟨1, 0, .box [.d _, .d _, .nil 7]⟩), (90114, ⟨1, 0, .arr true _⟩), (176128, ⟨1, 0, .arr true _⟩)] [(6, .c (.ptr 28672 1 0)), (66, .g [.d _, .d _, .arr 90114 1]), (67, .c (.arr 176128 1)), (71, .c (.d _))] [90114, 16384] ⟨Y, Y, Y, trivial⟩ ⟨Y, Y, Y, Y, trivial⟩ Y (Kx Y Y (Ko Y Y Y Y (Ka Y (Ka Y (Kd (kH (kMem [(28672, ⟨1, 0, .box [.d _, .d _, .arr 90114 1]⟩), (176128, ⟨1, 0, .arr true _⟩), (90114, ⟨1, 0, .arr true _⟩)] [(6, .c (.ptr 28672 1 0)), (7, .c (.arr 176128 1)), (8, .c (.d _))] [] ⟨Y, Y, Y, trivial⟩ ⟨Y, Y, Y, trivial⟩ Y (Kr (Er (ra := [.agg [(.d _), (.d _), (.d _)], .one (.own true _), .one (.d _)]) rfl ?_)))))))))))))))))))))))))
      rw [hVe]

def c_impl_CacheGet : C := (.g (.o 0 3 (.box 3 (.t 0)) (.o 1 4 (.box 4 (.t 1)) (.o 2 6 (.alloc 6 [(.i 0), (.i 0), (.n 7)]) (.o 3 7 (.mov (.n 7)) (.o 4 8 (.mov (.i 0)) .done))))) (.seq (.g (.o 0 12 (.load (some 3) (.t 3)) (.o 1 13 (.call 13 56 [(.t 12)]) (.o 2 14 (.un .not (.t 13)) (.o 3 15 (.mov (.t 14)) (.op 4 [] (some 16) (some (15, false)) false (.load (some 1) (.t 4)) (.op 5 [] (some 17) (some (15, false)) false (.call 17 71 [(.t 16)]) (.op 6 [] (some 18) (some (15, false)) false (.un .not (.t 17)) (.o 7 19 (.pick (.t 15) (.v (.bool true)) (.t 18)) (.o 8 20 (.mov (.t 19)) (.op 9 [] (some 21) (some (20, false)) false (.mov (.t 2)) (.op 10 [] (some 22) (some (20, false)) false (.call 22 89 [(.t 21)]) (.op 11 [] (some 23) (some (20, false)) false (.un .not (.t 22)) (.o 12 24 (.pick (.t 20) (.v (.bool true)) (.t 23)) .done))))))))))))) (.cond (.t 24) (.g (.o 0 25 (.build [(.i 0), (.i 0), (.n 7)] []) (.op 1 [] none none false (.store (some 3) (.t 6) (.t 25)) (.o 2 7 (.mov (.n 7)) (.o 3 8 (.mov (.i 0)) .done)))) .ret) .skip)) (.g (.o 0 27 (.load (some 3) (.t 3)) (.o 1 28 (.load (some 1) (.t 4)) (.o 2 29 (.mov (.t 2)) (.o 3 30 (.call 30 90 [(.t 27), (.t 28), (.t 29)]) (.o 4 26 (.mov (.t 30)) (.o 5 31 (.ext (.t 26) 0) (.o 6 32 (.ext (.t 26) 1) (.o 7 33 (.ext (.t 26) 2) (.o 8 9 (.alloc 9 [(.i 0), (.i 0), (.n 7)]) (.op 9 [] none none false (.store (some 3) (.t 9) (.t 31)) (.o 10 10 (.mov (.t 32)) (.o 11 11 (.mov (.t 33)) .done)))))))))))) (.g (.o 0 34 (.load (some 3) (.t 9)) (.o 1 35 (.call 35 91 [(.t 34)]) (.o 2 36 (.mov (.t 10)) (.o 3 37 (.mov (.t 11)) (.op 4 [] none none false (.store (some 3) (.t 6) (.t 35)) (.o 5 7 (.mov (.t 36)) (.o 6 8 (.mov (.t 37)) .done))))))) .ret))))
theorem dg_impl_CacheGet : Tryz.f23.body.bind (digC Tryz.prog Tryz.f23.ntmps []) = some c_impl_CacheGet := by kernel_rfl
theorem rs_impl_CacheGet : resSlots Tryz.prog Tryz.f23 = some [.m 6 (some 3), .s 7, .s 8] := by kernel_rfl
theorem ok_impl_CacheGet (c : Cache) (n : List (List UInt8)) (t : Int) (hs : SmallSs c.slots) (hn : SmallBB n) :
    FnOK Tryz.prog 23 [.agg (c.cells.map .d), .agg [.d (encBB n)], .one (.d (.sc (.int .i64 t)))] (fun ra _ => ra = [.agg [.d (.sc (.int .i64 (cgC c n t).now)), .d (.sc (.int .i64 (cgC c n t).turn)), .own true (encS (cgC c n t).slots)], .one (.own true (encR (cgL c n t))), .one (.d (.sc (.int .i64 (cgK c n t))))]) := by
  refine FnOK.ofK Tryz.func23 (by kernel_rfl) dg_impl_CacheGet rs_impl_CacheGet rfl rfl ?_
  delta c_impl_CacheGet T.o X.i C.g
  have hn1 := hn.len
  have hn2 := hn.mem
  by_cases hok : cgOk c n t = true
  case neg =>
    rw [show cgC c n t = zeroCg by unfold cgC; rw [if_neg hok], show cgL c n t = [] by unfold cgL; rw [if_neg hok], show cgK c n t = 0 by unfold cgK; rw [if_neg hok]]
    cases k1 : cacheOk c
    · refine Kbc (kBox Y Y Y Y Y (kBox Y Y Y Y Y (kAlloc Y Y (Ka Y (Ka Y (Kdb (Kbc (Ke Y Y Y (Kp (ok_impl_CacheOk _ prx) ⟨⟨⟨Y, Y, Y, trivial⟩, leb⟩, trivial⟩ Y Y Y Y Y (Kw Y Y (kMem [(20480, ⟨1, 0, .box [.d _]⟩)] [(14, .c (.d _)), (4, .c (.ptr 20480 1 0)), (16, .c (.un)), (17, .c (.un)), (15, .c (.un)), (18, .c (.un)), (19, .c (.un)), (2, .c (.d _)), (21, .c (.un)), (22, .c (.un)), (20, .c (.un)), (23, .c (.un))] [] ⟨Y, trivial⟩ ⟨Y, Y, Y, Y, Y, Y, Y, Y, Y, Y, Y, Y, trivial⟩ Y (Ka Y (kGN Y (fun g0 => Kg Y (Kg Y (Kg Y (Kk Y (Ka Y (Ka Y (Kg Y (Kg Y (Kg Y (Kk Y (Ka Y (Kd (kCondT Y (Kbc (kMem [(28672, ⟨1, 0, .box [.d _, .d _, .nil 7]⟩)] [(6, .c (.ptr 28672 1 0)), (25, .c (.un))] [] ⟨Y, trivial⟩ ⟨Y, Y, trivial⟩ Y (kBuildG Y (kMem [(28672, ⟨1, 0, .box [.d _, .d _, .nil 7]⟩)] [(6, .c (.ptr 28672 1 0)), (25, .g [.d _, .d _, .nil 7])] [] ⟨Y, trivial⟩ ⟨Y, Y, trivial⟩ Y (Ko Y Y Y Y (Ka Y (Ka Y (Kd (kMem [(28672, ⟨1, 0, .box [.d _, .d _, .nil 7]⟩)] [(6, .c (.ptr 28672 1 0)), (7, .c (.nil 7)), (8, .c (.d _))] [] ⟨Y, trivial⟩ ⟨Y, Y, Y, trivial⟩ Y (Kr (Er (ra := [.agg [(.d _), (.d _), (.own true _)], .one (.own true _), .one (.d _)]) rfl rfl)))))))))))))))))))))))) (fun g0 => (by (simp [*] at g0))))))))))))))))
    cases k2 : nameOk n
    · refine Kbc (kBox Y Y Y Y Y (kBox Y Y Y Y Y (kAlloc Y Y (Ka Y (Ka Y (Kdb (Kbc (Ke Y Y Y (Kp (ok_impl_CacheOk _ prx) ⟨⟨⟨Y, Y, Y, trivial⟩, leb⟩, trivial⟩ Y Y Y Y Y (Kw Y Y (kMem [(20480, ⟨1, 0, .box [.d _]⟩)] [(14, .c (.d _)), (4, .c (.ptr 20480 1 0)), (16, .c (.un)), (17, .c (.un)), (15, .c (.un)), (18, .c (.un)), (19, .c (.un)), (2, .c (.d _)), (21, .c (.un)), (22, .c (.un)), (20, .c (.un)), (23, .c (.un))] [] ⟨Y, trivial⟩ ⟨Y, Y, Y, Y, Y, Y, Y, Y, Y, Y, Y, Y, trivial⟩ Y (Ka Y (kGN Y (fun g0 => (by (simp [*] at g0))) (fun g0 => Ki Y (Ke Y Y Y (Ki Y (Kp (ok_impl_NameOk _ prx prx) ⟨⟨⟨Y, trivial⟩, leb⟩, trivial⟩ Y Y Y Y Y (Ki Y (Kw Y Y (Kl Y (Ka Y (Ka Y (kGN Y (fun g1 => Kg Y (Kg Y (Kg Y (Kk Y (Ka Y (Kd (kCondT Y (Kbc (kMem [(28672, ⟨1, 0, .box [.d _, .d _, .nil 7]⟩)] [(6, .c (.ptr 28672 1 0)), (25, .c (.un))] [] ⟨Y, trivial⟩ ⟨Y, Y, trivial⟩ Y (kBuildG Y (kMem [(28672, ⟨1, 0, .box [.d _, .d _, .nil 7]⟩)] [(6, .c (.ptr 28672 1 0)), (25, .g [.d _, .d _, .nil 7])] [] ⟨Y, trivial⟩ ⟨Y, Y, trivial⟩ Y (Ko Y Y Y Y (Ka Y (Ka Y (Kd (kMem [(28672, ⟨1, 0, .box [.d _, .d _, .nil 7]⟩)] [(6, .c (.ptr 28672 1 0)), (7, .c (.nil 7)), (8, .c (.d _))] [] ⟨Y, trivial⟩ ⟨Y, Y, Y, trivial⟩ Y (Kr (Er (ra := [.agg [(.d _), (.d _), (.own true _)], .one (.own true _), .one (.d _)]) rfl rfl)))))))))))))))))) (fun g1 => (by (simp [*] at g1))))))))))))))))))))))))))
    have k3 : tyOk t = false := by
      unfold cgOk at hok; rw [k1, k2] at hok; simpa using hok
    refine Kbc (kBox Y Y Y Y Y (kBox Y Y Y Y Y (kAlloc Y Y (Ka Y (Ka Y (Kdb (Kbc (Ke Y Y Y (Kp (ok_impl_CacheOk _ prx) ⟨⟨⟨Y, Y, Y, trivial⟩, leb⟩, trivial⟩ Y Y Y Y Y (Kw Y Y (kMem [(20480, ⟨1, 0, .box [.d _]⟩)] [(14, .c (.d _)), (4, .c (.ptr 20480 1 0)), (16, .c (.un)), (17, .c (.un)), (15, .c (.un)), (18, .c (.un)), (19, .c (.un)), (2, .c (.d _)), (21, .c (.un)), (22, .c (.un)), (20, .c (.un)), (23, .c (.un))] [] ⟨Y, trivial⟩ ⟨Y, Y, Y, Y, Y, Y, Y, Y, Y, Y, Y, Y, trivial⟩ Y (Ka Y (kGN Y (fun g0 => (by (simp [*] at g0))) (fun g0 => Ki Y (Ke Y Y Y (Ki Y (Kp (ok_impl_NameOk _ prx prx) ⟨⟨⟨Y, trivial⟩, leb⟩, trivial⟩ Y Y Y Y Y (Ki Y (Kw Y Y (Kl Y (Ka Y (Ka Y (kGN Y (fun g1 => (by (simp [*] at g1))) (fun g1 => Ki Y (Ka Y (Ki Y (Kp (ok_impl_TypeOk _) ⟨Y, trivial⟩ Y Y Y Y Y (Ki Y (Kw Y Y (Kl Y (Ka Y (Kd (kCondN Y (fun g2 => Kbc (kMem [(28672, ⟨1, 0, .box [.d _, .d _, .nil 7]⟩)] [(6, .c (.ptr 28672 1 0)), (25, .c (.un))] [] ⟨Y, trivial⟩ ⟨Y, Y, trivial⟩ Y (kBuildG Y (kMem [(28672, ⟨1, 0, .box [.d _, .d _, .nil 7]⟩)] [(6, .c (.ptr 28672 1 0)), (25, .g [.d _, .d _, .nil 7])] [] ⟨Y, trivial⟩ ⟨Y, Y, trivial⟩ Y (Ko Y Y Y Y (Ka Y (Ka Y (Kd (kMem [(28672, ⟨1, 0, .box [.d _, .d _, .nil 7]⟩)] [(6, .c (.ptr 28672 1 0)), (7, .c (.nil 7)), (8, .c (.d _))] [] ⟨Y, trivial⟩ ⟨Y, Y, Y, trivial⟩ Y (Kr (Er (ra := [.agg [(.d _), (.d _), (.own true _)], .one (.own true _), .one (.d _)]) rfl rfl))))))))))) (fun g2 => (by (simp [*] at g2))))))))))))))))))))))))))))))))))))
  rw [show cgC c n t = getC c n t by unfold cgC; rw [if_pos hok], show cgL c n t = getL c n t by unfold cgL; rw [if_pos hok], show cgK c n t = getK c n t by unfold cgK; rw [if_pos hok]]
  unfold cgOk at hok
  simp only [Bool.and_eq_true] at hok
  obtain ⟨⟨k1, k2⟩, k3⟩ := hok
  obtain ⟨b1, b2⟩ := cache_bounds k1
  have hgs := getC_small (n := n) (t := t) hs
  refine Kbc (kBox Y Y Y Y Y (kBox Y Y Y Y Y (kAlloc Y Y (Ka Y (Ka Y (Kdb (Kbc (Ke Y Y Y (Kp (ok_impl_CacheOk _ prx) ⟨⟨⟨Y, Y, Y, trivial⟩, leb⟩, trivial⟩ Y Y Y Y Y (Kw Y Y (kMem [(20480, ⟨1, 0, .box [.d _]⟩)] [(14, .c (.d _)), (4, .c (.ptr 20480 1 0)), (16, .c (.un)), (17, .c (.un)), (15, .c (.un)), (18, .c (.un)), (19, .c (.un)), (2, .c (.d _)), (21, .c (.un)), (22, .c (.un)), (20, .c (.un)), (23, .c (.un))] [] ⟨Y, trivial⟩ ⟨Y, Y, Y, Y, Y, Y, Y, Y, Y, Y, Y, Y, trivial⟩ Y (Ka Y (kGN Y (fun g0 => (by (simp [*] at g0))) (fun g0 => Ki Y (Ke Y Y Y (Ki Y (Kp (ok_impl_NameOk _ prx prx) ⟨⟨⟨Y, trivial⟩, leb⟩, trivial⟩ Y Y Y Y Y (Ki Y (Kw Y Y (Kl Y (Ka Y (Ka Y (kGN Y (fun g1 => (by (simp [*] at g1))) (fun g1 => Ki Y (Ka Y (Ki Y (Kp (ok_impl_TypeOk _) ⟨Y, trivial⟩ Y Y Y Y Y (Ki Y (Kw Y Y (Kl Y (Ka Y (Kd (kCondN Y (fun g2 => (by (simp [*] at g2))) (fun g2 => Kn (Kbc (kMem [(16384, ⟨1, 0, .box [.d _, .d _, .d _]⟩), (20480, ⟨1, 0, .box [.d _]⟩)] [(3, .c (.ptr 16384 1 0)), (4, .c (.ptr 20480 1 0)), (2, .c (.d _)), (27, .c (.un)), (28, .c (.un)), (29, .c (.un)), (30, .c (.un)), (26, .c (.un)), (9, .c (.un)), (31, .c (.un)), (32, .c (.un)), (33, .c (.un))] [] ⟨Y, Y, trivial⟩ ⟨Y, Y, Y, Y, Y, Y, Y, Y, Y, Y, Y, Y, trivial⟩ Y (Ke Y Y Y (Ke Y Y Y (Ka Y (Ku false (ok_impl_Cache_get _ _ _ prx prx prx prx) ⟨⟨⟨Y, Y, Y, trivial⟩, leb⟩, ⟨⟨Y, trivial⟩, leb⟩, rfl, trivial⟩ Y Y Y (fun _ => (kMovT Y (kExtC Y Y (kExtC Y Y (kExtC Y Y (kAlloc Y Y (kMem [(40960, ⟨1, 0, .box [.d _, .d _, .nil 7]⟩), (127040, ⟨1, 0, .arr true _⟩)] [(9, .c (.ptr 40960 1 0)), (31, .g [.d _, .d _, .d _]), (32, .c (.arr 127040 1)), (33, .c (.d _))] [] ⟨Y, Y, trivial⟩ ⟨Y, Y, Y, Y, trivial⟩ Y (Ko Y Y Y Y (Ka Y (Ka Y (Kdb (Kc (Ke Y Y Y (Ku true (ok_impl_Cache_copied _ prx) ⟨⟨⟨Y, Y, Y, trivial⟩, leb⟩, trivial⟩ Y Y Y (fun _ => (Ka Y (Ka Y (kMem [(28672, ⟨1, 0, .box [.d _, .d _, .nil 7]⟩), (147458, ⟨1, 0, .arr true _⟩), (127040, ⟨1, 0, .arr true _⟩)] [(6, .c (.ptr 28672 1 0)), (35, .g [.d _, .d _, .arr 147458 1]), (36, .c (.arr 127040 1)), (37, .c (.d _))] [] ⟨Y, Y, Y, trivial⟩ ⟨Y, Y, Y, Y, trivial⟩ Y (Ko Y Y Y Y (Ka Y (Ka Y (Kd (kMem [(28672, ⟨1, 0, .box [.d _, .d _, .arr 147458 1]⟩), (127040, ⟨1, 0, .arr true _⟩), (147458, ⟨1, 0, .arr true _⟩)] [(6, .c (.ptr 28672 1 0)), (7, .c (.arr 127040 1)), (8, .c (.d _))] [] ⟨Y, Y, Y, trivial⟩ ⟨Y, Y, Y, trivial⟩ Y (Kr (Er (ra := [.agg [(.d _), (.d _), (.own true _)], .one (.own true _), .one (.d _)]) rfl rfl)))))))))))))))))))))))))))))))))))))))))))))))))))))))))))))))))

def c_laws_eqByteS : C := (.g (.o 0 4 (.mov (.v (.bool false))) .done) (.seq (.g (.o 0 6 (.mov (.t 0)) (.o 1 7 (.len (.t 6)) (.o 2 8 (.mov (.t 1)) (.o 3 9 (.len (.t 8)) (.o 4 10 (.bin .neq (.t 7) (.t 9)) .done))))) (.cond (.t 10) (.g (.o 0 4 (.mov (.v (.bool false))) .done) .ret) .skip)) (.seq (.g (.o 0 5 (.mov (.i 0)) .done) (.block 0 (.loop (.seq (.g (.o 0 11 (.mov (.t 5)) (.o 1 12 (.mov (.t 0)) (.o 2 13 (.len (.t 12)) (.o 3 14 (.bin .lss (.t 11) (.t 13)) .done)))) (.cond (.t 14) .skip (.exit 0))) (.seq (.block 1 (.seq (.reg true (.op 0 [] (some 17) none true (.mov (.t 0)) (.op 1 [] (some 18) none true (.mov (.t 5)) (.op 2 [] (some 19) none true (.iad 1 (.t 17) (.t 18)) (.op 3 [] (some 20) none true (.load none (.t 19)) (.op 4 [] (some 21) none true (.mov (.t 1)) (.op 5 [] (some 22) none true (.mov (.t 5)) (.op 6 [] (some 23) none true (.iad 1 (.t 21) (.t 22)) (.op 7 [] (some 24) none true (.load none (.t 23)) (.op 8 [] (some 25) none true (.bin .neq (.t 20) (.t 24)) .done)))))))))) (.cond (.t 25) (.g (.o 0 4 (.mov (.v (.bool false))) .done) .ret) .skip))) (.reg false (.o 0 15 (.mov (.t 5)) (.o 1 16 (.bin .add (.t 15) (.i 1)) (.o 2 5 (.mov (.t 16)) .done))))))))) (.g (.o 0 4 (.mov (.v (.bool true))) .done) .ret))))
theorem dg_laws_eqByteS : Tryz.f183.body.bind (digC Tryz.prog Tryz.f183.ntmps []) = some c_laws_eqByteS := by kernel_rfl
theorem rs_laws_eqByteS : resSlots Tryz.prog Tryz.f183 = some [.s 4] := by kernel_rfl
theorem ok_laws_eqByteS (a b : List UInt8) (ha : a.length ≤ 4194304) :
    FnOK Tryz.prog 183 [.one (.d (encB a)), .one (.d (encB b))] (fun ra _ => ra = [.one (.d (.sc (.bool (decide (a = b)))))]) := by
  refine FnOK.ofK Tryz.func183 (by kernel_rfl) dg_laws_eqByteS rs_laws_eqByteS rfl rfl ?_
  delta c_laws_eqByteS T.o X.i C.g
  refine Kbc (Ka Y (Kd ?_))
  refine Kb (Kbc ?_)
  refine Ka Y (kLen Y Y Y (Ka Y (kLen Y Y Y (Kj Y Y Y (Kd ?_)))))
  refine kCond Y (fun h => ?_) (fun h => ?_)
  · refine Kbc (Ka Y (Kd (Kr ?_)))
    refine endRet (ra := [.one (.d _)]) rfl ⟨⟨⟨rfl, .inl rfl⟩, trivial⟩, .nil, trivial, trivial, trivial⟩ ?_
    have : a ≠ b := by rintro rfl; simp at h
    simp [this]
  refine Kn (Kb (Kbc (Ka Y (Kd ?_))))
  have hl : a.length = b.length := by simp [len_encB] at h; omega
  refine Kt ?_
  refine kLoop (α := { i : Nat // i ≤ a.length ∧ a.take i = b.take i })
    (fun y => ⟨tabSl [(0, .dv (encB a)), (1, .dv (encB b)), (5, .i y.1)], (St.init [.one (.d (encB a)), .one (.d (encB b))]).ob, []⟩) (fun y => a.length - y.1) ⟨0, by simp⟩ (.tab rfl ⟨.refl _, .refl _, .refl _, trivial⟩) ?_
  rintro ⟨i, hi, he⟩
  refine Kb (Kbc ?_)
  refine Ka Y (Ka Y (kLen Y Y Y (Kj Y Y Y (Kd ?_))))
  refine kCond Y (fun h1 => ?_) (fun h1 => ?_)
  · have hlt : i < a.length := by simp [len_encB] at h1; omega
    refine Kn (Kb (Kt (Kb (kRegD ?_))))
    refine Ka Y (Ka Y (kIadD Y Y Y Y ?_ ?_))
    · simp [len_encB]; omega
    rw [show (encB a).row (i : Int).toNat = _ from row_encB a i hlt]
    refine Ky Y Y ?_
    refine Ka Y (Ka Y (kIadD Y Y Y Y ?_ ?_))
    · simp [len_encB]; omega
    rw [show (encB b).row (i : Int).toNat = _ from row_encB b i (by omega)]
    refine Ky Y Y ?_
    refine Kj Y Y Y (Kd (kH ?_))
    refine kCond Y (fun h2 => ?_) (fun h2 => ?_)
    · refine Kbc (Ka Y (Kd (Kr ?_)))
      refine endRet (ra := [.one (.d _)]) rfl ⟨⟨⟨rfl, .inl rfl⟩, trivial⟩, .nil, trivial, trivial, trivial⟩ ?_
      have : a ≠ b := by rintro rfl; simp at h2
      simp [this]
    · refine Kn (Kv (Kc (Ka Y (kAdd Y Y ?_ (Ka Y (Kd (kInv ?_)))))))
      · simp only; omega
      · have h3 : a[i] = b[i] := by
          simp at h2
          exact UInt8.toNat_inj.1 (by omega)
        refine ⟨⟨i + 1, hlt, ?_⟩, ?_, .tab rfl ⟨.refl _, .refl _, .refl _, trivial⟩⟩
        · rw [List.take_add_one, List.take_add_one, he, List.getElem?_eq_getElem hlt, List.getElem?_eq_getElem (by omega), h3]
        · simp only; omega
  · refine kExit (kExC (kExI (kExB ?_)))
    have hge : i = a.length := by simp [len_encB] at h1; omega
    refine Kbc (Ka Y (Kd (Kr ?_)))
    refine endRet (ra := [.one (.d _)]) rfl ⟨⟨⟨rfl, .inl rfl⟩, trivial⟩, .nil, trivial, trivial, trivial⟩ ?_
    have : a = b := by
      rw [hge, List.take_length] at he
      rw [he, hl, List.take_length]
    simp [this]

def c_laws_eqByteSS : C := (.g (.o 0 4 (.mov (.v (.bool false))) .done) (.seq (.g (.o 0 6 (.mov (.t 0)) (.o 1 7 (.len (.t 6)) (.o 2 8 (.mov (.t 1)) (.o 3 9 (.len (.t 8)) (.o 4 10 (.bin .neq (.t 7) (.t 9)) .done))))) (.cond (.t 10) (.g (.o 0 4 (.mov (.v (.bool false))) .done) .ret) .skip)) (.seq (.g (.o 0 5 (.mov (.i 0)) .done) (.block 0 (.loop (.seq (.g (.o 0 11 (.mov (.t 5)) (.o 1 12 (.mov (.t 0)) (.o 2 13 (.len (.t 12)) (.o 3 14 (.bin .lss (.t 11) (.t 13)) .done)))) (.cond (.t 14) .skip (.exit 0))) (.seq (.block 1 (.seq (.reg true (.op 0 [] (some 17) none true (.mov (.t 0)) (.op 1 [] (some 18) none true (.mov (.t 5)) (.op 2 [] (some 19) none true (.iad 1 (.t 17) (.t 18)) (.op 3 [] (some 20) none true (.load none (.t 19)) (.op 4 [] (some 21) none true (.mov (.t 1)) (.op 5 [] (some 22) none true (.mov (.t 5)) (.op 6 [] (some 23) none true (.iad 1 (.t 21) (.t 22)) (.op 7 [] (some 24) none true (.load none (.t 23)) (.op 8 [3, 7] (some 25) none false (.call 25 183 [(.t 20), (.t 24)]) (.op 9 [] (some 26) none true (.un .not (.t 25)) .done))))))))))) (.cond (.t 26) (.g (.o 0 4 (.mov (.v (.bool false))) .done) .ret) .skip))) (.reg false (.o 0 15 (.mov (.t 5)) (.o 1 16 (.bin .add (.t 15) (.i 1)) (.o 2 5 (.mov (.t 16)) .done))))))))) (.g (.o 0 4 (.mov (.v (.bool true))) .done) .ret))))
theorem dg_laws_eqByteSS : Tryz.f94.body.bind (digC Tryz.prog Tryz.f94.ntmps []) = some c_laws_eqByteSS := by kernel_rfl
theorem rs_laws_eqByteSS : resSlots Tryz.prog Tryz.f94 = some [.s 4] := by kernel_rfl
theorem ok_laws_eqByteSS (a b : List (List UInt8)) (ha : a.length ≤ 4194304) (ha2 : ∀ x ∈ a, x.length ≤ 4194304) :
    FnOK Tryz.prog 94 [.one (.d (encBB a)), .one (.d (encBB b))] (fun ra _ => ra = [.one (.d (.sc (.bool (decide (a = b)))))]) := by
  refine FnOK.ofK Tryz.func94 (by kernel_rfl) dg_laws_eqByteSS rs_laws_eqByteSS rfl rfl ?_
  delta c_laws_eqByteSS T.o X.i C.g
  refine Kbc (Ka Y (Kdb (Kbc (Ka Y (Kq Y Y (Ka Y (Kq Y Y (Kj Y Y Y (Kd (kCondN Y (fun g0 => Kbc (Ka Y (Kd (Kr (Er (ra := [.one (.d _)]) rfl ?_))))) (fun g0 => Kn (Kb (Kbc (Ka Y (Kd (Kt ?_))))))))))))))))
  · rw [decide_eq_false (by rintro rfl; simp_all)]
  have hab : a.length = b.length := by simp at *; omega
  refine kLoop (α := { i : Nat // i ≤ a.length ∧ a.take i = b.take i })
    (fun y => ⟨tabSl [(0, .dv (encBB a)), (1, .dv (encBB b)), (5, .i y.1)], obTab 1 [], []⟩) (fun y => a.length - y.1) ⟨0, by simp⟩
    .normA ?_
  rintro ⟨i, hi, he⟩
  simp only
  refine Kb (Kbc (Ka Y (Ka Y (Kq Y Y (Kj Y Y Y (Kd (Km Y (fun g0 => Kn (Kb (Kt (Kb (kRegD (Ka Y (Ka Y (kIadR Y Y Y om (Ky Y Y (Ka Y (Ka Y (kIadR Y Y Y om (Ky Y Y (Ks Y Y (Kp (ok_laws_eqByteS _ _ (by first | assumption | omega | solve_by_elim [List.getElem_mem])) ⟨Y, Y, trivial⟩ Y Y Y Y Y (Kw Y Y (Kd (kH (kCondN Y (fun g1 => Kbc (Ka Y (Kd (Kr (Er (ra := [.one (.d _)]) rfl ?_))))) (fun g1 => Kn (Kv (Kc (Ka Y (kAdd Y Y om (Ka Y (Kd ?_)))))))))))))))))))))))))) (fun g0 => kExit (kExC (kExI (kExB (Kbc (Ka Y (Kd (Kr (Er (ra := [.one (.d _)]) rfl ?_))))))))))))))))
  · rw [decide_eq_false]
    rintro rfl
    simp_all
  · refine kInv ⟨⟨i + 1, by omega, ?_⟩, by simp only; omega, .normA⟩
    rw [← List.take_append_getElem (by omega), ← List.take_append_getElem (by omega), he]
    simp_all
  · have hge : i = a.length := by omega
    rw [hge, List.take_length, hab, List.take_length] at he
    rw [he, decide_eq_true rfl]

def c_laws_eqName : C := (.g (.o 0 2 (.box 2 (.t 0)) (.o 1 3 (.box 3 (.t 1)) (.o 2 4 (.mov (.v (.bool false))) .done))) (.seq (.g (.o 0 5 (.fad (.t 2) 0) (.o 1 6 (.load none (.t 5)) (.o 2 7 (.fad (.t 3) 0) (.o 3 8 (.load none (.t 7)) (.o 4 9 (.call 9 94 [(.t 6), (.t 8)]) (.o 5 10 (.un .not (.t 9)) .done)))))) (.cond (.t 10) (.g (.o 0 4 (.mov (.v (.bool false))) .done) .ret) .skip)) (.g (.o 0 4 (.mov (.v (.bool true))) .done) .ret)))
theorem dg_laws_eqName : Tryz.f26.body.bind (digC Tryz.prog Tryz.f26.ntmps []) = some c_laws_eqName := by kernel_rfl
theorem rs_laws_eqName : resSlots Tryz.prog Tryz.f26 = some [.s 4] := by kernel_rfl
theorem ok_laws_eqName (a b : List (List UInt8)) (ha : a.length ≤ 4194304) (ha2 : ∀ x ∈ a, x.length ≤ 4194304) :
    FnOK Tryz.prog 26 [.agg [.d (encBB a)], .agg [.d (encBB b)]] (fun ra _ => ra = [.one (.d (.sc (.bool (decide (a = b)))))]) := by
  refine FnOK.ofK Tryz.func26 (by kernel_rfl) dg_laws_eqName rs_laws_eqName rfl rfl ?_
  delta c_laws_eqName T.o X.i C.g
  refine Kbc (kBox Y Y Y Y Y (kBox Y Y Y Y Y (Ka Y (Kdb (Kbc (Kf Y Y (Ke Y Y Y (Kf Y Y (Ke Y Y Y (Kp (ok_laws_eqByteSS _ _ (by first | assumption | omega | solve_by_elim [List.getElem_mem]) (by first | assumption | omega | solve_by_elim [List.getElem_mem])) ⟨Y, Y, trivial⟩ Y Y Y Y Y (Kw Y Y (Kd (kCondN Y (fun g0 => Kbc (Ka Y (Kd (Kr (Er (ra := [.one (.d _)]) rfl ?_))))) (fun g0 => Kn (Kbc (Ka Y (Kd (Kr (Er (ra := [.one (.d _)]) rfl ?_)))))))))))))))))))
  all_goals simp_all

def c_laws_eqIntS : C := (.g (.o 0 4 (.mov (.v (.bool false))) .done) (.seq (.g (.o 0 6 (.mov (.t 0)) (.o 1 7 (.len (.t 6)) (.o 2 8 (.mov (.t 1)) (.o 3 9 (.len (.t 8)) (.o 4 10 (.bin .neq (.t 7) (.t 9)) .done))))) (.cond (.t 10) (.g (.o 0 4 (.mov (.v (.bool false))) .done) .ret) .skip)) (.seq (.g (.o 0 5 (.mov (.i 0)) .done) (.block 0 (.loop (.seq (.g (.o 0 11 (.mov (.t 5)) (.o 1 12 (.mov (.t 0)) (.o 2 13 (.len (.t 12)) (.o 3 14 (.bin .lss (.t 11) (.t 13)) .done)))) (.cond (.t 14) .skip (.exit 0))) (.seq (.block 1 (.seq (.reg true (.op 0 [] (some 17) none true (.mov (.t 0)) (.op 1 [] (some 18) none true (.mov (.t 5)) (.op 2 [] (some 19) none true (.iad 1 (.t 17) (.t 18)) (.op 3 [] (some 20) none true (.load none (.t 19)) (.op 4 [] (some 21) none true (.mov (.t 1)) (.op 5 [] (some 22) none true (.mov (.t 5)) (.op 6 [] (some 23) none true (.iad 1 (.t 21) (.t 22)) (.op 7 [] (some 24) none true (.load none (.t 23)) (.op 8 [] (some 25) none true (.bin .neq (.t 20) (.t 24)) .done)))))))))) (.cond (.t 25) (.g (.o 0 4 (.mov (.v (.bool false))) .done) .ret) .skip))) (.reg false (.o 0 15 (.mov (.t 5)) (.o 1 16 (.bin .add (.t 15) (.i 1)) (.o 2 5 (.mov (.t 16)) .done))))))))) (.g (.o 0 4 (.mov (.v (.bool true))) .done) .ret))))
theorem dg_laws_eqIntS : Tryz.f184.body.bind (digC Tryz.prog Tryz.f184.ntmps []) = some c_laws_eqIntS := by kernel_rfl
theorem rs_laws_eqIntS : resSlots Tryz.prog Tryz.f184 = some [.s 4] := by kernel_rfl
theorem ok_laws_eqIntS (a b : List Int) (ha : a.length ≤ 4194304) :
    FnOK Tryz.prog 184 [.one (.d (encI a)), .one (.d (encI b))] (fun ra _ => ra = [.one (.d (.sc (.bool (decide (a = b)))))]) := by
  refine FnOK.ofK Tryz.func184 (by kernel_rfl) dg_laws_eqIntS rs_laws_eqIntS rfl rfl ?_
  delta c_laws_eqIntS T.o X.i C.g
  refine Kbc (Ka Y (Kdb (Kbc (Ka Y (Kq Y Y (Ka Y (Kq Y Y (Kj Y Y Y (Kd (kCondIN Y (fun g0 => Kbc (Ka Y (Kd (Kr (Er (ra := [.one (.d _)]) rfl ?_))))) (fun g0 => Kn (Kb (Kbc (Ka Y (Kd (Kt ?_))))))))))))))))
  · rw [decide_eq_false (by rintro rfl; simp_all)]
  have hab : a.length = b.length := by omega
  refine kLoop (α := { i : Nat // i ≤ a.length ∧ a.take i = b.take i })
    (fun y => ⟨tabSl [(0, .dv (encI a)), (1, .dv (encI b)), (5, .i y.1)], obTab 1 [], []⟩) (fun y => a.length - y.1) ⟨0, by simp⟩
    .normA ?_
  rintro ⟨i, hi, he⟩
  simp only
  refine Kb (Kbc (Ka Y (Ka Y (Kq Y Y (Kj Y Y Y (Kd (Km Y (fun g0 => Kn (Kb (Kt (Kb (kRegD (Ka Y (Ka Y (kIadR Y Y Y om (Ky Y Y (Ka Y (Ka Y (kIadR Y Y Y om (Ky Y Y (Kj Y Y Y (Kd (kH (kCondIN Y (fun g1 => Kbc (Ka Y (Kd (Kr (Er (ra := [.one (.d _)]) rfl ?_))))) (fun g1 => Kn (Kv (Kc (Ka Y (kAdd Y Y om (Ka Y (Kd ?_)))))))))))))))))))))))) (fun g0 => kExit (kExC (kExI (kExB (Kbc (Ka Y (Kd (Kr (Er (ra := [.one (.d _)]) rfl ?_))))))))))))))))
  · rw [decide_eq_false]
    rintro rfl
    simp_all
  · refine kInv ⟨⟨i + 1, by omega, ?_⟩, by simp only; omega, .normA⟩
    rw [← List.take_append_getElem (by omega), ← List.take_append_getElem (by omega), he]
    simp_all
  · have hge : i = a.length := by omega
    rw [hge, List.take_length, hab, List.take_length] at he
    rw [he, decide_eq_true rfl]

def c_laws_eqRr : C := (.g (.o 0 2 (.box 2 (.t 0)) (.o 1 3 (.box 3 (.t 1)) (.o 2 4 (.mov (.v (.bool false))) .done))) (.seq (.g (.o 0 5 (.fad (.t 2) 0) (.o 1 6 (.load (some 1) (.t 5)) (.o 2 7 (.fad (.t 3) 0) (.o 3 8 (.load (some 1) (.t 7)) (.o 4 9 (.call 9 26 [(.t 6), (.t 8)]) (.o 5 10 (.un .not (.t 9)) .done)))))) (.cond (.t 10) (.g (.o 0 4 (.mov (.v (.bool false))) .done) .ret) .skip)) (.seq (.g (.o 0 11 (.fad (.t 2) 1) (.o 1 12 (.load none (.t 11)) (.o 2 13 (.fad (.t 3) 1) (.o 3 14 (.load none (.t 13)) (.o 4 15 (.bin .neq (.t 12) (.t 14)) .done))))) (.cond (.t 15) (.g (.o 0 4 (.mov (.v (.bool false))) .done) .ret) .skip)) (.seq (.g (.o 0 16 (.fad (.t 2) 2) (.o 1 17 (.load none (.t 16)) (.o 2 18 (.fad (.t 3) 2) (.o 3 19 (.load none (.t 18)) (.o 4 20 (.bin .neq (.t 17) (.t 19)) .done))))) (.cond (.t 20) (.g (.o 0 4 (.mov (.v (.bool false))) .done) .ret) .skip)) (.seq (.g (.o 0 21 (.fad (.t 2) 3) (.o 1 22 (.load none (.t 21)) (.o 2 23 (.fad (.t 3) 3) (.o 3 24 (.load none (.t 23)) (.o 4 25 (.bin .neq (.t 22) (.t 24)) .done))))) (.cond (.t 25) (.g (.o 0 4 (.mov (.v (.bool false))) .done) .ret) .skip)) (.seq (.g (.o 0 26 (.fad (.t 2) 4) (.o 1 27 (.load (some 1) (.t 26)) (.o 2 28 (.fad (.t 3) 4) (.o 3 29 (.load (some 1) (.t 28)) (.o 4 30 (.call 30 26 [(.t 27), (.t 29)]) (.o 5 31 (.un .not (.t 30)) .done)))))) (.cond (.t 31) (.g (.o 0 4 (.mov (.v (.bool false))) .done) .ret) .skip)) (.seq (.g (.o 0 32 (.fad (.t 2) 5) (.o 1 33 (.load none (.t 32)) (.o 2 34 (.fad (.t 3) 5) (.o 3 35 (.load none (.t 34)) (.o 4 36 (.call 36 183 [(.t 33), (.t 35)]) (.o 5 37 (.un .not (.t 36)) .done)))))) (.cond (.t 37) (.g (.o 0 4 (.mov (.v (.bool false))) .done) .ret) .skip)) (.seq (.g (.o 0 38 (.fad (.t 2) 6) (.o 1 39 (.load none (.t 38)) (.o 2 40 (.fad (.t 3) 6) (.o 3 41 (.load none (.t 40)) (.o 4 42 (.call 42 184 [(.t 39), (.t 41)]) (.o 5 43 (.un .not (.t 42)) .done)))))) (.cond (.t 43) (.g (.o 0 4 (.mov (.v (.bool false))) .done) .ret) .skip)) (.g (.o 0 4 (.mov (.v (.bool true))) .done) .ret)))))))))
theorem dg_laws_eqRr : Tryz.f93.body.bind (digC Tryz.prog Tryz.f93.ntmps []) = some c_laws_eqRr := by kernel_rfl
theorem rs_laws_eqRr : resSlots Tryz.prog Tryz.f93 = some [.s 4] := by kernel_rfl
theorem ok_laws_eqRr (a b : Rr) (hs : SmallR a) :
    FnOK Tryz.prog 93 [.agg (a.cells.map .d), .agg (b.cells.map .d)] (fun ra _ => ra = [.one (.d (.sc (.bool (decide (a = b)))))]) := by
  refine FnOK.ofK Tryz.func93 (by kernel_rfl) dg_laws_eqRr rs_laws_eqRr rfl rfl ?_
  delta c_laws_eqRr T.o X.i C.g
  have n1 := hs.n.len
  have n2 := hs.n.mem
  have t1 := hs.t.len
  have t2 := hs.t.mem
  have x1 := hs.x
  have m1 := hs.m
  refine Kbc (kBox Y Y Y Y Y (kBox Y Y Y Y Y (Ka Y (Kdb (Kbc (Kf Y Y (Ke Y Y Y (Kf Y Y (Ke Y Y Y (Kp (ok_laws_eqName _ _ pr pr) ⟨⟨⟨Y, trivial⟩, leb⟩, ⟨⟨Y, trivial⟩, leb⟩, trivial⟩ Y Y Y Y Y (Kw Y Y (Kd (kCondN Y (fun g0 => Kbc (Ka Y (Kd (Kr (Er (ra := [.one (.d _)]) rfl ?_))))) (fun g0 => Kn (Kb (Kbc (Kf Y Y (Ke Y Y Y (Kf Y Y (Ke Y Y Y (Kj Y Y Y (Kd (kCondIN Y (fun g1 => Kbc (Ka Y (Kd (Kr (Er (ra := [.one (.d _)]) rfl ?_))))) (fun g1 => Kn (Kb (Kbc (Kf Y Y (Ke Y Y Y (Kf Y Y (Ke Y Y Y (Kj Y Y Y (Kd (kCondIN Y (fun g2 => Kbc (Ka Y (Kd (Kr (Er (ra := [.one (.d _)]) rfl ?_))))) (fun g2 => Kn (Kb (Kbc (Kf Y Y (Ke Y Y Y (Kf Y Y (Ke Y Y Y (Kj Y Y Y (Kd (kCondIN Y (fun g3 => Kbc (Ka Y (Kd (Kr (Er (ra := [.one (.d _)]) rfl ?_))))) (fun g3 => Kn (Kb (Kbc (Kf Y Y (Ke Y Y Y (Kf Y Y (Ke Y Y Y (Kp (ok_laws_eqName _ _ pr pr) ⟨⟨⟨Y, trivial⟩, leb⟩, ⟨⟨Y, trivial⟩, leb⟩, trivial⟩ Y Y Y Y Y (Kw Y Y (Kd (kCondN Y (fun g4 => Kbc (Ka Y (Kd (Kr (Er (ra := [.one (.d _)]) rfl ?_))))) (fun g4 => Kn (Kb (Kbc (Kf Y Y (Ke Y Y Y (Kf Y Y (Ke Y Y Y (Kp (ok_laws_eqByteS _ _ pr) ⟨Y, Y, trivial⟩ Y Y Y Y Y (Kw Y Y (Kd (kCondN Y (fun g5 => Kbc (Ka Y (Kd (Kr (Er (ra := [.one (.d _)]) rfl ?_))))) (fun g5 => Kn (Kb (Kbc (Kf Y Y (Ke Y Y Y (Kf Y Y (Ke Y Y Y (Kp (ok_laws_eqIntS _ _ pr) ⟨Y, Y, trivial⟩ Y Y Y Y Y (Kw Y Y (Kd (kCondN Y (fun g6 => Kbc (Ka Y (Kd (Kr (Er (ra := [.one (.d _)]) rfl ?_))))) (fun g6 => Kn (Kbc (Ka Y (Kd (Kr (Er (ra := [.one (.d _)]) rfl ?_))))))))))))))))))))))))))))))))))))))))))))))))))))))))))))))))))))))))))))))))))
  all_goals (refine congrArg (fun z : Bool => [RA.one (RV.d (DV.sc (Value.bool z)))]) ?_; clear n1 n2 t1 t2 x1 m1 hs; cases a; cases b; simp_all)

def c_laws_eqRrS : C := (.g (.o 0 4 (.mov (.v (.bool false))) .done) (.seq (.g (.o 0 6 (.mov (.t 0)) (.o 1 7 (.len (.t 6)) (.o 2 8 (.mov (.t 1)) (.o 3 9 (.len (.t 8)) (.o 4 10 (.bin .neq (.t 7) (.t 9)) .done))))) (.cond (.t 10) (.g (.o 0 4 (.mov (.v (.bool false))) .done) .ret) .skip)) (.seq (.g (.o 0 5 (.mov (.i 0)) .done) (.block 0 (.loop (.seq (.g (.o 0 11 (.mov (.t 5)) (.o 1 12 (.mov (.t 0)) (.o 2 13 (.len (.t 12)) (.o 3 14 (.bin .lss (.t 11) (.t 13)) .done)))) (.cond (.t 14) .skip (.exit 0))) (.seq (.block 1 (.seq (.reg true (.op 0 [] (some 17) none true (.mov (.t 0)) (.op 1 [] (some 18) none true (.mov (.t 5)) (.op 2 [] (some 19) none true (.iad 7 (.t 17) (.t 18)) (.op 3 [] (some 20) none true (.load (some 7) (.t 19)) (.op 4 [] (some 21) none true (.mov (.t 1)) (.op 5 [] (some 22) none true (.mov (.t 5)) (.op 6 [] (some 23) none true (.iad 7 (.t 21) (.t 22)) (.op 7 [] (some 24) none true (.load (some 7) (.t 23)) (.op 8 [3, 7] (some 25) none false (.call 25 93 [(.t 20), (.t 24)]) (.op 9 [] (some 26) none true (.un .not (.t 25)) .done))))))))))) (.cond (.t 26) (.g (.o 0 4 (.mov (.v (.bool false))) .done) .ret) .skip))) (.reg false (.o 0 15 (.mov (.t 5)) (.o 1 16 (.bin .add (.t 15) (.i 1)) (.o 2 5 (.mov (.t 16)) .done))))))))) (.g (.o 0 4 (.mov (.v (.bool true))) .done) .ret))))
theorem dg_laws_eqRrS : Tryz.f25.body.bind (digC Tryz.prog Tryz.f25.ntmps []) = some c_laws_eqRrS := by kernel_rfl
theorem rs_laws_eqRrS : resSlots Tryz.prog Tryz.f25 = some [.s 4] := by kernel_rfl
theorem ok_laws_eqRrS (a b : List Rr) (hs : SmallRs a) :
    FnOK Tryz.prog 25 [.one (.d (encR a)), .one (.d (encR b))] (fun ra _ => ra = [.one (.d (.sc (.bool (decide (a = b)))))]) := by
  refine FnOK.ofK Tryz.func25 (by kernel_rfl) dg_laws_eqRrS rs_laws_eqRrS rfl rfl ?_
  delta c_laws_eqRrS T.o X.i C.g
  have ha := hs.len
  refine Kbc (Ka Y (Kdb (Kbc (Ka Y (Kq Y Y (Ka Y (Kq Y Y (Kj Y Y Y (Kd (kCondIN Y (fun g0 => Kbc (Ka Y (Kd (Kr (Er (ra := [.one (.d _)]) rfl ?_))))) (fun g0 => Kn (Kb (Kbc (Ka Y (Kd (Kt ?_))))))))))))))))
  · rw [decide_eq_false (by rintro rfl; simp_all)]
  have hab : a.length = b.length := by omega
  refine kLoop (α := { i : Nat // i ≤ a.length ∧ a.take i = b.take i })
    (fun y => ⟨tabSl [(0, .dv (encR a)), (1, .dv (encR b)), (5, .i y.1)], obTab 1 [], []⟩) (fun y => a.length - y.1) ⟨0, by simp⟩
    .normA ?_
  rintro ⟨i, hi, he⟩
  simp only
  rcases Nat.lt_or_ge i a.length with hlt | hge
  · have hbi := hs.mem _ (List.getElem_mem hlt)
    refine Kb (Kbc (Ka Y (Ka Y (Kq Y Y (Kj Y Y Y (Kd (Km Y (fun g0 => Kn (Kb (Kt (Kb (kRegD (Ka Y (Ka Y (kIadR Y Y Y om (Ky Y Y (Ka Y (Ka Y (kIadR Y Y Y om (Ky Y Y (Ks Y Y (Kp (ok_laws_eqRr _ _ pr) ⟨⟨⟨Y, Y, Y, Y, Y, Y, Y, trivial⟩, leb⟩, ⟨⟨Y, Y, Y, Y, Y, Y, Y, trivial⟩, leb⟩, trivial⟩ Y Y Y Y Y (Kw Y Y (Kd (kH (kCondN Y (fun g1 => Kbc (Ka Y (Kd (Kr (Er (ra := [.one (.d _)]) rfl ?_))))) (fun g1 => Kn (Kv (Kc (Ka Y (kAdd Y Y om (Ka Y (Kd ?_)))))))))))))))))))))))))) (fun g0 => om))))))))
    · rw [decide_eq_false]
      rintro rfl
      simp_all
    · refine kInv ⟨⟨i + 1, by omega, ?_⟩, by simp only; omega, .normA⟩
      rw [← List.take_append_getElem (by omega), ← List.take_append_getElem (by omega), he]
      simp_all
  · refine Kb (Kbc (Ka Y (Ka Y (Kq Y Y (Kj Y Y Y (Kd (Km Y (fun g0 => om) (fun g0 => kExit (kExC (kExI (kExB (Kbc (Ka Y (Kd (Kr (Er (ra := [.one (.d _)]) rfl ?_))))))))))))))))
    have hge : i = a.length := by omega
    rw [hge, List.take_length, hab, List.take_length] at he
    rw [he, decide_eq_true rfl]

def c_laws_eqSlot : C := (.g (.o 0 2 (.box 2 (.t 0)) (.o 1 3 (.box 3 (.t 1)) (.o 2 4 (.mov (.v (.bool false))) .done))) (.seq (.g (.o 0 5 (.fad (.t 2) 0) (.o 1 6 (.load (some 1) (.t 5)) (.o 2 7 (.fad (.t 3) 0) (.o 3 8 (.load (some 1) (.t 7)) (.o 4 9 (.call 9 26 [(.t 6), (.t 8)]) (.o 5 10 (.un .not (.t 9)) .done)))))) (.cond (.t 10) (.g (.o 0 4 (.mov (.v (.bool false))) .done) .ret) .skip)) (.seq (.g (.o 0 11 (.fad (.t 2) 1) (.o 1 12 (.load none (.t 11)) (.o 2 13 (.fad (.t 3) 1) (.o 3 14 (.load none (.t 13)) (.o 4 15 (.bin .neq (.t 12) (.t 14)) .done))))) (.cond (.t 15) (.g (.o 0 4 (.mov (.v (.bool false))) .done) .ret) .skip)) (.seq (.g (.o 0 16 (.fad (.t 2) 2) (.o 1 17 (.load none (.t 16)) (.o 2 18 (.fad (.t 3) 2) (.o 3 19 (.load none (.t 18)) (.o 4 20 (.bin .neq (.t 17) (.t 19)) .done))))) (.cond (.t 20) (.g (.o 0 4 (.mov (.v (.bool false))) .done) .ret) .skip)) (.seq (.g (.o 0 21 (.fad (.t 2) 3) (.o 1 22 (.load none (.t 21)) (.o 2 23 (.fad (.t 3) 3) (.o 3 24 (.load none (.t 23)) (.o 4 25 (.call 25 25 [(.t 22), (.t 24)]) (.o 5 26 (.un .not (.t 25)) .done)))))) (.cond (.t 26) (.g (.o 0 4 (.mov (.v (.bool false))) .done) .ret) .skip)) (.seq (.g (.o 0 27 (.fad (.t 2) 4) (.o 1 28 (.load none (.t 27)) (.o 2 29 (.fad (.t 3) 4) (.o 3 30 (.load none (.t 29)) (.o 4 31 (.bin .neq (.t 28) (.t 30)) .done))))) (.cond (.t 31) (.g (.o 0 4 (.mov (.v (.bool false))) .done) .ret) .skip)) (.seq (.g (.o 0 32 (.fad (.t 2) 5) (.o 1 33 (.load none (.t 32)) (.o 2 34 (.fad (.t 3) 5) (.o 3 35 (.load none (.t 34)) (.o 4 36 (.bin .neq (.t 33) (.t 35)) .done))))) (.cond (.t 36) (.g (.o 0 4 (.mov (.v (.bool false))) .done) .ret) .skip)) (.seq (.g (.o 0 37 (.fad (.t 2) 6) (.o 1 38 (.load none (.t 37)) (.o 2 39 (.fad (.t 3) 6) (.o 3 40 (.load none (.t 39)) (.o 4 41 (.bin .neq (.t 38) (.t 40)) .done))))) (.cond (.t 41) (.g (.o 0 4 (.mov (.v (.bool false))) .done) .ret) .skip)) (.g (.o 0 4 (.mov (.v (.bool true))) .done) .ret)))))))))
theorem dg_laws_eqSlot : Tryz.f182.body.bind (digC Tryz.prog Tryz.f182.ntmps []) = some c_laws_eqSlot := by kernel_rfl
theorem rs_laws_eqSlot : resSlots Tryz.prog Tryz.f182 = some [.s 4] := by kernel_rfl
theorem ok_laws_eqSlot (a b : Slot) (hs : SmallS a) :
    FnOK Tryz.prog 182 [.agg (a.cells.map .d), .agg (b.cells.map .d)] (fun ra _ => ra = [.one (.d (.sc (.bool (decide (a = b)))))]) := by
  refine FnOK.ofK Tryz.func182 (by kernel_rfl) dg_laws_eqSlot rs_laws_eqSlot rfl rfl ?_
  delta c_laws_eqSlot T.o X.i C.g
  have n1 := hs.n.len
  have n2 := hs.n.mem
  have r1 := hs.r
  refine Kbc (kBox Y Y Y Y Y (kBox Y Y Y Y Y (Ka Y (Kdb (Kbc (Kf Y Y (Ke Y Y Y (Kf Y Y (Ke Y Y Y (Kp (ok_laws_eqName _ _ prx prx) ⟨⟨⟨Y, trivial⟩, leb⟩, ⟨⟨Y, trivial⟩, leb⟩, trivial⟩ Y Y Y Y Y (Kw Y Y (Kd (kCondN Y (fun g0 => Kbc (Ka Y (Kd (Kr (Er (ra := [.one (.d _)]) rfl ?_))))) (fun g0 => Kn (Kb (Kbc (kMem [(12288, ⟨1, 0, .box [.d _, .d _, .d _, .d _, .d _, .d _, .d _]⟩), (16384, ⟨1, 0, .box [.d _, .d _, .d _, .d _, .d _, .d _, .d _]⟩)] [(2, .c (.ptr 12288 1 0)), (11, .c (.un)), (3, .c (.ptr 16384 1 0)), (13, .c (.un)), (12, .c (.un)), (14, .c (.un))] [] ⟨Y, Y, trivial⟩ ⟨Y, Y, Y, Y, Y, Y, trivial⟩ Y (Kf Y Y (Ke Y Y Y (Kf Y Y (Ke Y Y Y (Kj Y Y Y (Kd (kCondIN Y (fun g1 => Kbc (Ka Y (Kd (Kr (Er (ra := [.one (.d _)]) rfl ?_))))) (fun g1 => Kn (Kb (Kbc (Kf Y Y (Ke Y Y Y (Kf Y Y (Ke Y Y Y (Kj Y Y Y (Kd (kCondIN Y (fun g2 => Kbc (Ka Y (Kd (Kr (Er (ra := [.one (.d _)]) rfl ?_))))) (fun g2 => Kn (Kb (Kbc (kMem [(12288, ⟨1, 0, .box [.d _, .d _, .d _, .d _, .d _, .d _, .d _]⟩), (16384, ⟨1, 0, .box [.d _, .d _, .d _, .d _, .d _, .d _, .d _]⟩)] [(2, .c (.ptr 12288 1 0)), (21, .c (.un)), (3, .c (.ptr 16384 1 0)), (23, .c (.un)), (22, .c (.un)), (24, .c (.un)), (25, .c (.un))] [] ⟨Y, Y, trivial⟩ ⟨Y, Y, Y, Y, Y, Y, Y, trivial⟩ Y (Kf Y Y (Ke Y Y Y (Kf Y Y (Ke Y Y Y (Kp (ok_laws_eqRrS _ _ prx) ⟨Y, Y, trivial⟩ Y Y Y Y Y (Kw Y Y (Kd (kCondN Y (fun g3 => Kbc (Ka Y (Kd (Kr (Er (ra := [.one (.d _)]) rfl ?_))))) (fun g3 => Kn (Kb (Kbc (Kf Y Y (Ke Y Y Y (Kf Y Y (kMem [(16384, ⟨1, 0, .box [.d _, .d _, .d _, .d _, .d _, .d _, .d _]⟩)] [(29, .c (.ptr 16384 1 4)), (28, .c (.d _)), (30, .c (.un))] [] ⟨Y, trivial⟩ ⟨Y, Y, Y, trivial⟩ Y (Ke Y Y Y (Kj Y Y Y (Kd (kCondIN Y (fun g4 => Kbc (Ka Y (Kd (Kr (Er (ra := [.one (.d _)]) rfl ?_))))) (fun g4 => Kn (Kb (Kbc (Kf Y Y (Ke Y Y Y (Kf Y Y (Ke Y Y Y (Kj Y Y Y (Kd (kCondIN Y (fun g5 => Kbc (Ka Y (Kd (Kr (Er (ra := [.one (.d _)]) rfl ?_))))) (fun g5 => Kn (Kb (Kbc (Kf Y Y (Ke Y Y Y (kMem [(16384, ⟨1, 0, .box [.d _, .d _, .d _, .d _, .d _, .d _, .d _]⟩)] [(3, .c (.ptr 16384 1 0)), (39, .c (.un)), (38, .c (.d _)), (40, .c (.un))] [] ⟨Y, trivial⟩ ⟨Y, Y, Y, Y, trivial⟩ Y (Kf Y Y (Ke Y Y Y (Kj Y Y Y (Kd (kCondIN Y (fun g6 => Kbc (Ka Y (Kd (Kr (Er (ra := [.one (.d _)]) rfl ?_))))) (fun g6 => Kn (Kbc (Ka Y (Kd (Kr (Er (ra := [.one (.d _)]) rfl ?_))))))))))))))))))))))))))))))))))))))))))))))))))))))))))))))))))))))))))))))))))))
  all_goals (refine congrArg (fun z : Bool => [RA.one (RV.d (DV.sc (Value.bool z)))]) ?_; clear n1 n2 r1 hs; cases a; cases b; simp_all)

def c_laws_eqSlotS : C := (.g (.o 0 4 (.mov (.v (.bool false))) .done) (.seq (.g (.o 0 6 (.mov (.t 0)) (.o 1 7 (.len (.t 6)) (.o 2 8 (.mov (.t 1)) (.o 3 9 (.len (.t 8)) (.o 4 10 (.bin .neq (.t 7) (.t 9)) .done))))) (.cond (.t 10) (.g (.o 0 4 (.mov (.v (.bool false))) .done) .ret) .skip)) (.seq (.g (.o 0 5 (.mov (.i 0)) .done) (.block 0 (.loop (.seq (.g (.o 0 11 (.mov (.t 5)) (.o 1 12 (.mov (.t 0)) (.o 2 13 (.len (.t 12)) (.o 3 14 (.bin .lss (.t 11) (.t 13)) .done)))) (.cond (.t 14) .skip (.exit 0))) (.seq (.block 1 (.seq (.reg true (.op 0 [] (some 17) none true (.mov (.t 0)) (.op 1 [] (some 18) none true (.mov (.t 5)) (.op 2 [] (some 19) none true (.iad 7 (.t 17) (.t 18)) (.op 3 [] (some 20) none true (.load (some 7) (.t 19)) (.op 4 [] (some 21) none true (.mov (.t 1)) (.op 5 [] (some 22) none true (.mov (.t 5)) (.op 6 [] (some 23) none true (.iad 7 (.t 21) (.t 22)) (.op 7 [] (some 24) none true (.load (some 7) (.t 23)) (.op 8 [3, 7] (some 25) none false (.call 25 182 [(.t 20), (.t 24)]) (.op 9 [] (some 26) none true (.un .not (.t 25)) .done))))))))))) (.cond (.t 26) (.g (.o 0 4 (.mov (.v (.bool false))) .done) .ret) .skip))) (.reg false (.o 0 15 (.mov (.t 5)) (.o 1 16 (.bin .add (.t 15) (.i 1)) (.o 2 5 (.mov (.t 16)) .done))))))))) (.g (.o 0 4 (.mov (.v (.bool true))) .done) .ret))))
theorem dg_laws_eqSlotS : Tryz.f92.body.bind (digC Tryz.prog Tryz.f92.ntmps []) = some c_laws_eqSlotS := by kernel_rfl
theorem rs_laws_eqSlotS : resSlots Tryz.prog Tryz.f92 = some [.s 4] := by kernel_rfl
theorem ok_laws_eqSlotS (a b : List Slot) (hs : SmallSs a) :
    FnOK Tryz.prog 92 [.one (.d (encS a)), .one (.d (encS b))] (fun ra _ => ra = [.one (.d (.sc (.bool (decide (a = b)))))]) := by
  refine FnOK.ofK Tryz.func92 (by kernel_rfl) dg_laws_eqSlotS rs_laws_eqSlotS rfl rfl ?_
  delta c_laws_eqSlotS T.o X.i C.g
  have ha := hs.len
  refine Kbc (Ka Y (Kdb (Kbc (Ka Y (Kq Y Y (Ka Y (Kq Y Y (Kj Y Y Y (Kd (kCondIN Y (fun g0 => Kbc (Ka Y (Kd (Kr (Er (ra := [.one (.d _)]) rfl ?_))))) (fun g0 => Kn (Kb (Kbc (Ka Y (Kd (Kt ?_))))))))))))))))
  · rw [decide_eq_false (by rintro rfl; simp_all)]
  have hab : a.length = b.length := by omega
  refine kLoop (α := { i : Nat // i ≤ a.length ∧ a.take i = b.take i })
    (fun y => ⟨tabSl [(0, .dv (encS a)), (1, .dv (encS b)), (5, .i y.1)], obTab 1 [], []⟩) (fun y => a.length - y.1) ⟨0, by simp⟩
    .normA ?_
  rintro ⟨i, hi, he⟩
  simp only
  rcases Nat.lt_or_ge i a.length with hlt | hge
  · have hbi := hs.mem _ (List.getElem_mem hlt)
    have n1 := hbi.n.len
    have n2 := hbi.n.mem
    have r1 := hbi.r
    refine Kb (Kbc (Ka Y (Ka Y (Kq Y Y (Kj Y Y Y (Kd (Km Y (fun g0 => Kn (Kb (Kt (Kb (kRegD (Ka Y (Ka Y (kIadR Y Y Y prl (Ky Y Y (Ka Y (Ka Y (kIadR Y Y Y prl (Ky Y Y (Ks Y Y (Kp (ok_laws_eqSlot _ _ prx) ⟨⟨⟨Y, Y, Y, Y, Y, Y, Y, trivial⟩, leb⟩, ⟨⟨Y, Y, Y, Y, Y, Y, Y, trivial⟩, leb⟩, trivial⟩ Y Y Y Y Y (Kw Y Y (Kd (kH (kCondN Y (fun g1 => Kbc (Ka Y (Kd (Kr (Er (ra := [.one (.d _)]) rfl ?_))))) (fun g1 => Kn (Kv (Kc (Ka Y (kAdd Y Y om (Ka Y (Kd ?_)))))))))))))))))))))))))) (fun g0 => om))))))))
    · rw [decide_eq_false]
      rintro rfl
      simp_all
    · refine kInv ⟨⟨i + 1, by omega, ?_⟩, by simp only; omega, .normA⟩
      rw [← List.take_append_getElem (by omega), ← List.take_append_getElem (by omega), he]
      simp_all
  · refine Kb (Kbc (Ka Y (Ka Y (Kq Y Y (Kj Y Y Y (Kd (Km Y (fun g0 => om) (fun g0 => kExit (kExC (kExI (kExB (Kbc (Ka Y (Kd (Kr (Er (ra := [.one (.d _)]) rfl ?_))))))))))))))))
    have hge : i = a.length := by omega
    rw [hge, List.take_length, hab, List.take_length] at he
    rw [he, decide_eq_true rfl]

def c_laws_eqCache : C := (.g (.o 0 2 (.box 2 (.t 0)) (.o 1 3 (.box 3 (.t 1)) (.o 2 4 (.mov (.v (.bool false))) .done))) (.seq (.g (.o 0 5 (.fad (.t 2) 0) (.o 1 6 (.load none (.t 5)) (.o 2 7 (.fad (.t 3) 0) (.o 3 8 (.load none (.t 7)) (.o 4 9 (.bin .neq (.t 6) (.t 8)) .done))))) (.cond (.t 9) (.g (.o 0 4 (.mov (.v (.bool false))) .done) .ret) .skip)) (.seq (.g (.o 0 10 (.fad (.t 2) 1) (.o 1 11 (.load none (.t 10)) (.o 2 12 (.fad (.t 3) 1) (.o 3 13 (.load none (.t 12)) (.o 4 14 (.bin .neq (.t 11) (.t 13)) .done))))) (.cond (.t 14) (.g (.o 0 4 (.mov (.v (.bool false))) .done) .ret) .skip)) (.seq (.g (.o 0 15 (.fad (.t 2) 2) (.o 1 16 (.load none (.t 15)) (.o 2 17 (.fad (.t 3) 2) (.o 3 18 (.load none (.t 17)) (.o 4 19 (.call 19 92 [(.t 16), (.t 18)]) (.o 5 20 (.un .not (.t 19)) .done)))))) (.cond (.t 20) (.g (.o 0 4 (.mov (.v (.bool false))) .done) .ret) .skip)) (.g (.o 0 4 (.mov (.v (.bool true))) .done) .ret)))))
theorem dg_laws_eqCache : Tryz.f24.body.bind (digC Tryz.prog Tryz.f24.ntmps []) = some c_laws_eqCache := by kernel_rfl
theorem rs_laws_eqCache : resSlots Tryz.prog Tryz.f24 = some [.s 4] := by kernel_rfl
theorem ok_laws_eqCache (a b : Cache) (hs : SmallSs a.slots) :
    FnOK Tryz.prog 24 [.agg (a.cells.map .d), .agg (b.cells.map .d)] (fun ra _ => ra = [.one (.d (.sc (.bool (decide (a = b)))))]) := by
  refine FnOK.ofK Tryz.func24 (by kernel_rfl) dg_laws_eqCache rs_laws_eqCache rfl rfl ?_
  delta c_laws_eqCache T.o X.i C.g
  refine Kbc (kBox Y Y Y Y Y (kBox Y Y Y Y Y (Ka Y (Kdb (Kbc (Kf Y Y (Ke Y Y Y (Kf Y Y (Ke Y Y Y (Kj Y Y Y (Kd (kCondIN Y (fun g0 => Kbc (Ka Y (Kd (Kr (Er (ra := [.one (.d _)]) rfl ?_))))) (fun g0 => Kn (Kb (Kbc (kMem [(12288, ⟨1, 0, .box [.d _, .d _, .d _]⟩), (16384, ⟨1, 0, .box [.d _, .d _, .d _]⟩)] [(2, .c (.ptr 12288 1 0)), (10, .c (.un)), (3, .c (.ptr 16384 1 0)), (12, .c (.un)), (11, .c (.un)), (13, .c (.un))] [] ⟨Y, Y, trivial⟩ ⟨Y, Y, Y, Y, Y, Y, trivial⟩ Y (Kf Y Y (Ke Y Y Y (Kf Y Y (Ke Y Y Y (Kj Y Y Y (Kd (kCondIN Y (fun g1 => Kbc (Ka Y (Kd (Kr (Er (ra := [.one (.d _)]) rfl ?_))))) (fun g1 => Kn (Kb (Kbc (Kf Y Y (Ke Y Y Y (Kf Y Y (Ke Y Y Y (Kp (ok_laws_eqSlotS _ _ prx) ⟨Y, Y, trivial⟩ Y Y Y Y Y (Kw Y Y (Kd (kCondN Y (fun g2 => Kbc (Ka Y (Kd (Kr (Er (ra := [.one (.d _)]) rfl ?_))))) (fun g2 => Kn (Kbc (Ka Y (Kd (Kr (Er (ra := [.one (.d _)]) rfl ?_))))))))))))))))))))))))))))))))))))))))
  all_goals (refine congrArg (fun z : Bool => [RA.one (RV.d (DV.sc (Value.bool z)))]) ?_; clear hs; cases a; cases b; simp_all)

def c_laws_markByteS : C := (.g (.o 0 4 (.mov (.i 0)) .done) (.seq (.g (.o 0 5 (.mov (.i 0)) .done) (.block 0 (.loop (.seq (.g (.o 0 6 (.mov (.t 5)) (.o 1 7 (.mov (.t 0)) (.o 2 8 (.len (.t 7)) (.o 3 9 (.bin .lss (.t 6) (.t 8)) .done)))) (.cond (.t 9) .skip (.exit 0))) (.seq (.block 1 (.g (.o 0 12 (.mov (.t 0)) (.o 1 13 (.mov (.t 5)) (.o 2 14 (.mov (.t 1)) (.o 3 15 (.conv .u8 (.t 14)) (.o 4 16 (.iad 1 (.t 12) (.t 13)) (.op 5 [] none none false (.store none (.t 16) (.t 15)) .done)))))) (.reg false (.o 0 17 (.mov (.t 1)) (.o 1 18 (.bin .add (.t 17) (.i 1)) (.o 2 1 (.mov (.t 18)) .done)))))) (.reg false (.o 0 10 (.mov (.t 5)) (.o 1 11 (.bin .add (.t 10) (.i 1)) (.o 2 5 (.mov (.t 11)) .done))))))))) (.g (.o 0 19 (.mov (.t 1)) (.o 1 4 (.mov (.t 19)) .done)) .ret)))
theorem dg_laws_markByteS : Tryz.f97.body.bind (digC Tryz.prog Tryz.f97.ntmps []) = some c_laws_markByteS := by kernel_rfl
theorem rs_laws_markByteS : resSlots Tryz.prog Tryz.f97 = some [.s 4] := by kernel_rfl
theorem ok_laws_markByteS (a : List UInt8) (k : Int) (h0 : 0 ≤ k) (hk : k + a.length ≤ 9223372036854775807) :
    FnOK Tryz.prog 97 [.one (.arr false true (encB a)), .one (.d (.sc (.int .i64 k)))] (fun ra os => ra = [.one (.d (.sc (.int .i64 (k + a.length))))] ∧ os.a 0 = encB (marks a.length k)) := by
  refine FnOK.ofK Tryz.func97 (by kernel_rfl) dg_laws_markByteS rs_laws_markByteS rfl rfl ?_
  delta c_laws_markByteS T.o X.i C.g
  generalize hgas : [GA.one (.arr false true (encB a)), GA.one (.d (.sc (.int .i64 k)))] = gas
  have hob : (St.init gas).ob 0 = ⟨0, 0, .arr true (encB a)⟩ := by rw [← hgas]; rfl
  have s0 : (St.init gas).sl 0 = .c (.arr 0 0) := by rw [← hgas]; rfl
  have s1 : (St.init gas).sl 1 = .i k := by rw [← hgas]; rfl
  refine kSub (t := ⟨tabSl [(0, .c (.arr 0 0)), (1, .i k)], (St.init gas).ob, []⟩) (.tab rfl ⟨s0 ▸ .refl _, s1 ▸ .refl _, trivial⟩) ?_
  refine Kbc (Ka Y (Kd ?_))
  refine Kb (Kbc (Ka Y (Kd (Kt ?_))))
  refine kLoop (α := { i : Nat // i ≤ a.length })
    (fun y => ⟨tabSl [(0, .c (.arr 0 0)), (1, .i (k + (y.1 : Int))), (5, .i y.1)], upd (St.init gas).ob 0 ⟨0, y.1, .arr true (encB (marks y.1 k ++ a.drop y.1))⟩, []⟩) (fun y => a.length - y.1) ⟨0, by simp⟩
    (.tab (upd_self (by rw [hob]; rfl)) ⟨.refl _, by simpa using .refl _, .refl _, trivial⟩) ?_
  rintro ⟨i, hi⟩
  simp only
  have hlen : (marks i k ++ a.drop i).length = a.length := by simp [marks_len]; omega
  refine Kb (Kbc ?_)
  refine Ka Y (Ka Y (kLen Y Y Y (Kj Y Y Y (Kd ?_))))
  rw [len_encB, hlen]
  refine kCond Y (fun h1 => ?_) (fun h1 => ?_)
  · have hlt : i < a.length := by simp at h1; omega
    refine Kn (Kb (Kt (Kbc ?_)))
    refine Ka Y (Ka Y (Ka Y (kConv Y (kIadA Y Y Y Y ?_ ?_))))
    · rw [len_encB, hlen]; omega
    refine kStoreE1 Y Y Y Y (by simp [encB, DV.esz]) (Kd ?_)
    rw [show (Int.toNat (i : Int)) = i from rfl, setRow_encB _ _ _ (by omega)]
    refine Kc (Ka Y (kAdd Y Y ?_ (Ka Y (Kd (Kv ?_)))))
    · omega
    refine Kc (Ka Y (kAdd Y Y ?_ (Ka Y (Kd (kInv ?_)))))
    · omega
    refine ⟨⟨i + 1, hlt⟩, by simp only; omega, .tab ?_ ⟨.refl _, ?_, .refl _, trivial⟩⟩
    · show _ = upd (upd (St.init gas).ob 0 _) 0 _
      rw [upd_upd, take_set_succ _ _ _ _ hlt (marks_len i k), marks_succ]
      rfl
    · show WkV (.i (k + i + 1)) (.i (k + ((i + 1 : Nat) : Int)))
      rw [show k + ((i + 1 : Nat) : Int) = k + i + 1 by omega]
      exact .refl _
  · refine kExit (kExC (kExI (kExB ?_)))
    have hge : i = a.length := by simp at h1; omega
    subst hge
    refine Kbc (Ka Y (Ka Y (Kd (Kr ?_))))
    rw [← hgas]
    refine endRet (ra := [.one (.d _)]) rfl ⟨⟨⟨rfl, .inl rfl⟩, trivial⟩, .nil, ⟨rfl, fun _ => rfl, rfl⟩, trivial, trivial⟩ ?_
    refine ⟨rfl, ?_⟩
    show encB (marks a.length k ++ a.drop a.length) = _
    simp

def c_laws_markByteSS : C := (.g (.o 0 4 (.mov (.i 0)) .done) (.seq (.g (.o 0 5 (.mov (.i 0)) .done) (.block 0 (.loop (.seq (.g (.o 0 6 (.mov (.t 5)) (.o 1 7 (.mov (.t 0)) (.o 2 8 (.len (.t 7)) (.o 3 9 (.bin .lss (.t 6) (.t 8)) .done)))) (.cond (.t 9) .skip (.exit 0))) (.seq (.block 1 (.reg false (.o 0 12 (.mov (.t 0)) (.o 1 13 (.mov (.t 5)) (.o 2 14 (.iad 1 (.t 12) (.t 13)) (.o 3 15 (.load none (.t 14)) (.o 4 16 (.mov (.t 1)) (.o 5 17 (.call 17 97 [(.t 15), (.t 16)]) (.o 6 1 (.mov (.t 17)) .done))))))))) (.reg false (.o 0 10 (.mov (.t 5)) (.o 1 11 (.bin .add (.t 10) (.i 1)) (.o 2 5 (.mov (.t 11)) .done))))))))) (.g (.o 0 18 (.mov (.t 1)) (.o 1 4 (.mov (.t 18)) .done)) .ret)))
theorem dg_laws_markByteSS : Tryz.f96.body.bind (digC Tryz.prog Tryz.f96.ntmps []) = some c_laws_markByteSS := by kernel_rfl
theorem rs_laws_markByteSS : resSlots Tryz.prog Tryz.f96 = some [.s 4] := by kernel_rfl
theorem ok_laws_markByteSS (a : List (List UInt8)) (k : Int) (h0 : 0 ≤ k) (hk : k + a.flatten.length ≤ 9223372036854775807) (hl : a.length ≤ 4194304) :
    FnOK Tryz.prog 96 [.one (.arr false true (encBB a)), .one (.d (.sc (.int .i64 k)))] (fun ra os => ra = [.one (.d (.sc (.int .i64 (k + a.flatten.length))))] ∧ os.a 0 = encBB (markss a k)) := by
  refine FnOK.ofK Tryz.func96 (by kernel_rfl) dg_laws_markByteSS rs_laws_markByteSS rfl rfl ?_
  delta c_laws_markByteSS T.o X.i C.g
  refine Kbc (Ka Y (Kd ?_))
  refine Kb (Kbc (Ka Y (Kd (Kt ?_))))
  refine kLoop (α := { i : Nat // i ≤ a.length })
    (fun y => ⟨tabSl [(0, .c (.arr 0 0)), (1, .i (k + (a.take y.1).flatten.length)), (5, .i y.1)], upd (St.init [.one (.arr false true (encBB a)), .one (.d (.sc (.int .i64 k)))]).ob 0 ⟨0, y.1, .arr true (encBB (markss (a.take y.1) k ++ a.drop y.1))⟩, []⟩) (fun y => a.length - y.1) ⟨0, by simp⟩
    (.tab (upd_self rfl) ⟨.refl _, by simpa using .refl _, .refl _, trivial⟩) ?_
  rintro ⟨i, hi⟩
  simp only
  have hlen : (markss (a.take i) k).length = i := by rw [markss_len]; simp; omega
  have hlen' : (markss (a.take i) k ++ a.drop i).length = a.length := by simp [hlen]; omega
  refine Kb (Kbc ?_)
  refine Ka Y (Ka Y (kLen Y Y Y (Kj Y Y Y (Kd ?_))))
  rw [len_encBB, hlen']
  refine kCond Y (fun h1 => ?_) (fun h1 => ?_)
  · have hlt : i < a.length := by simp at h1; omega
    have hget : (markss (a.take i) k ++ a.drop i)[i]'(by omega) = a[i] := by
      rw [List.getElem_append_right (by omega)]; simp [hlen]
    have hat : (encBB (markss (a.take i) k ++ a.drop i)).at i 0 = encB a[i] := by rw [at_encBB _ _ (by omega), hget]
    have hfl : (a.take (i + 1)).flatten.length = (a.take i).flatten.length + a[i].length := by
      rw [← List.take_append_getElem hlt, List.flatten_append, List.length_append]; simp only [List.flatten_cons, List.flatten_nil, List.append_nil]
    have htot : (a.take (i + 1)).flatten.length ≤ a.flatten.length := by
      have := congrArg (fun l => (List.flatten l).length) (List.take_append_drop (i + 1) a)
      simp only [List.flatten_append, List.length_append] at this
      omega
    refine Kn (Kb (Kt (Kc ?_)))
    refine Ka Y (Ka Y (kIadA Y Y Y Y ?_ ?_))
    · rw [len_encBB, hlen']; omega
    refine kLoadE Y Y (v := .c (.sub 0 0 i i 0)) ?_ (Ka Y ?_)
    · show pickCells none (AC.ofCells 0 0 i i 0 (((encBB (markss (a.take i) k ++ a.drop i)).row i).drop 0)) = _
      rw [row_encBB _ _ (by omega)]
      rfl
    refine kCallS (ok_laws_markByteS a[i] (k + (a.take i).flatten.length) om om) rfl ⟨⟨rfl, rfl, rfl, rfl, rfl, rfl, hat.symm, rfl⟩, rfl, trivial⟩ ?_ rfl ?_
    · simp [encBB, DV.rows, hlen]; omega
    rintro ra os ⟨rfl, ho⟩
    refine ⟨_, rfl, ?_⟩
    refine Ka Y (Kd (Kv ?_))
    refine Kc (Ka Y (kAdd Y Y ?_ (Ka Y (Kd (kInv ?_)))))
    · omega
    refine ⟨⟨i + 1, hlt⟩, by simp only; omega, .tab ?_ ⟨.refl _, ?_, .refl _, trivial⟩⟩
    · refine Eq.trans ?_ (upd_upd _ _ _ _).symm
      refine congrArg (upd _ _) ?_
      show _ = Ob.mk _ _ (OK.arr _ ((encBB (markss (a.take i) k ++ a.drop i)).setCell i 0 (os.a 0)))
      rw [ho, setCell_encBB _ _ _ (by omega), take_set_succ _ _ _ _ hlt hlen, ← List.take_append_getElem hlt, markss_append]
    · show WkV (.i (k + ((a.take i).flatten.length : Int) + a[i].length)) (.i (k + ((a.take (i + 1)).flatten.length : Int)))
      rw [hfl, show k + (((a.take i).flatten.length + a[i].length : Nat) : Int) = k + ((a.take i).flatten.length : Int) + a[i].length by omega]
      exact .refl _
  · refine kExit (kExC (kExI (kExB ?_)))
    have hge : i = a.length := by simp at h1; omega
    subst hge
    refine Kbc (Ka Y (Ka Y (Kd (Kr ?_))))
    refine endRet (ra := [.one (.d _)]) rfl ⟨⟨⟨rfl, .inl rfl⟩, trivial⟩, .nil, ⟨rfl, fun _ => rfl, rfl⟩, trivial, trivial⟩ ?_
    refine ⟨by simp, ?_⟩
    show encBB (markss (a.take a.length) k ++ a.drop a.length) = _
    simp

def c_laws_markIntS : C := (.g (.o 0 4 (.mov (.i 0)) .done) (.seq (.g (.o 0 5 (.mov (.i 0)) .done) (.block 0 (.loop (.seq (.g (.o 0 6 (.mov (.t 5)) (.o 1 7 (.mov (.t 0)) (.o 2 8 (.len (.t 7)) (.o 3 9 (.bin .lss (.t 6) (.t 8)) .done)))) (.cond (.t 9) .skip (.exit 0))) (.seq (.block 1 (.g (.o 0 12 (.mov (.t 0)) (.o 1 13 (.mov (.t 5)) (.o 2 14 (.mov (.t 1)) (.o 3 15 (.iad 1 (.t 12) (.t 13)) (.op 4 [] none none false (.store none (.t 15) (.t 14)) .done))))) (.reg false (.o 0 16 (.mov (.t 1)) (.o 1 17 (.bin .add (.t 16) (.i 1)) (.o 2 1 (.mov (.t 17)) .done)))))) (.reg false (.o 0 10 (.mov (.t 5)) (.o 1 11 (.bin .add (.t 10) (.i 1)) (.o 2 5 (.mov (.t 11)) .done))))))))) (.g (.o 0 18 (.mov (.t 1)) (.o 1 4 (.mov (.t 18)) .done)) .ret)))
theorem dg_laws_markIntS : Tryz.f98.body.bind (digC Tryz.prog Tryz.f98.ntmps []) = some c_laws_markIntS := by kernel_rfl
theorem rs_laws_markIntS : resSlots Tryz.prog Tryz.f98 = some [.s 4] := by kernel_rfl
theorem ok_laws_markIntS (a : List Int) (k : Int) (h0 : 0 ≤ k) (hk : k + a.length ≤ 9223372036854775807) :
    FnOK Tryz.prog 98 [.one (.arr false true (encI a)), .one (.d (.sc (.int .i64 k)))] (fun ra os => ra = [.one (.d (.sc (.int .i64 (k + a.length))))] ∧ os.a 0 = encI (marksI a.length k)) := by
  refine FnOK.ofK Tryz.func98 (by kernel_rfl) dg_laws_markIntS rs_laws_markIntS rfl rfl ?_
  delta c_laws_markIntS T.o X.i C.g
  refine Kbc (Ka Y (Kdb (Kbc (Ka Y (Kd (Kt ?_))))))
  refine kLoop (α := { i : Nat // i ≤ a.length })
    (fun y => ⟨tabSl [(0, .c (.arr 0 0)), (1, .i (k + (y.1 : Int))), (5, .i y.1)], upd (St.init [.one (.arr false true (encI a)), .one (.d (.sc (.int .i64 k)))]).ob 0 ⟨0, y.1, .arr true (encI (marksI y.1 k ++ a.drop y.1))⟩, []⟩) (fun y => a.length - y.1) ⟨0, by simp⟩
    (.tab (upd_self rfl) ⟨.refl _, by simpa using .refl _, .refl _, trivial⟩) ?_
  rintro ⟨i, hi⟩
  simp only
  have hlen : (marksI i k ++ a.drop i).length = a.length := by simp [marksI_len]; omega
  rcases Nat.lt_or_ge i a.length with hlt | hge
  · refine Kb (Kbc (Ka Y (Ka Y (Kq Y Y (Kj Y Y Y (Kd (Km Y (fun g0 => Kn (Kb (Kt (Kbc (Ka Y (Ka Y (Ka Y (kIadAR Y Y Y Y om (kStoreER Y Y Y Y Y Y Y om rfl (Kd (Kc (Ka Y (kAdd Y Y om (Ka Y (Kd (Kv (Kc (Ka Y (kAdd Y Y om (Ka Y (Kd ?_))))))))))))))))))))) (fun g0 => om))))))))
    refine kInv ⟨⟨i + 1, hlt⟩, by simp only; omega, .tab ?_ ⟨.refl _, ?_, .refl _, trivial⟩⟩
    · show _ = upd (upd _ 0 _) 0 _
      rw [upd_upd]
      refine congrArg (upd _ _) ?_
      rw [marksI_succ]
      exact congrArg (fun z => Ob.mk 0 (i + 1) (OK.arr true (encI z))) (take_set_succ _ _ _ _ hlt (marksI_len i k)).symm
    · show WkV (.i (k + i + 1)) (.i (k + ((i + 1 : Nat) : Int)))
      rw [show k + ((i + 1 : Nat) : Int) = k + i + 1 by omega]
      exact .refl _
  · refine Kb (Kbc (Ka Y (Ka Y (Kq Y Y (Kj Y Y Y (Kd (Km Y (fun g0 => om) (fun g0 => kExit (kExC (kExI (kExB (Kbc (Ka Y (Ka Y (Kd (Kr (Er (ra := [.one (.d _)]) rfl ?_)))))))))))))))))
    obtain rfl : i = a.length := by omega
    refine ⟨rfl, ?_⟩
    show encI (marksI a.length k ++ a.drop a.length) = _
    simp

def c_laws_markRrS : C := (.g (.o 0 4 (.mov (.i 0)) .done) (.seq (.g (.o 0 5 (.mov (.i 0)) .done) (.block 0 (.loop (.seq (.g (.o 0 6 (.mov (.t 5)) (.o 1 7 (.mov (.t 0)) (.o 2 8 (.len (.t 7)) (.o 3 9 (.bin .lss (.t 6) (.t 8)) .done)))) (.cond (.t 9) .skip (.exit 0))) (.seq (.block 1 (.g (.o 0 12 (.mov (.t 0)) (.o 1 13 (.mov (.t 5)) (.o 2 14 (.iad 7 (.t 12) (.t 13)) (.o 3 15 (.fad (.t 14) 0) (.o 4 16 (.fad (.t 15) 0) (.o 5 17 (.load none (.t 16)) (.o 6 18 (.mov (.t 1)) (.o 7 19 (.call 19 96 [(.t 17), (.t 18)]) (.o 8 1 (.mov (.t 19)) .done))))))))) (.g (.o 0 20 (.mov (.t 0)) (.o 1 21 (.mov (.t 5)) (.o 2 22 (.mov (.t 1)) (.o 3 23 (.iad 7 (.t 20) (.t 21)) (.o 4 24 (.fad (.t 23) 1) (.op 5 [] none none false (.store none (.t 24) (.t 22)) .done)))))) (.g (.o 0 25 (.mov (.t 1)) (.o 1 26 (.bin .add (.t 25) (.i 1)) (.o 2 1 (.mov (.t 26)) .done))) (.g (.o 0 27 (.mov (.t 0)) (.o 1 28 (.mov (.t 5)) (.o 2 29 (.mov (.t 1)) (.o 3 30 (.iad 7 (.t 27) (.t 28)) (.o 4 31 (.fad (.t 30) 2) (.op 5 [] none none false (.store none (.t 31) (.t 29)) .done)))))) (.g (.o 0 32 (.mov (.t 1)) (.o 1 33 (.bin .add (.t 32) (.i 1)) (.o 2 1 (.mov (.t 33)) .done))) (.g (.o 0 34 (.mov (.t 0)) (.o 1 35 (.mov (.t 5)) (.o 2 36 (.mov (.t 1)) (.o 3 37 (.iad 7 (.t 34) (.t 35)) (.o 4 38 (.fad (.t 37) 3) (.op 5 [] none none false (.store none (.t 38) (.t 36)) .done)))))) (.g (.o 0 39 (.mov (.t 1)) (.o 1 40 (.bin .add (.t 39) (.i 1)) (.o 2 1 (.mov (.t 40)) .done))) (.g (.o 0 41 (.mov (.t 0)) (.o 1 42 (.mov (.t 5)) (.o 2 43 (.iad 7 (.t 41) (.t 42)) (.o 3 44 (.fad (.t 43) 4) (.o 4 45 (.fad (.t 44) 0) (.o 5 46 (.load none (.t 45)) (.o 6 47 (.mov (.t 1)) (.o 7 48 (.call 48 96 [(.t 46), (.t 47)]) (.o 8 1 (.mov (.t 48)) .done))))))))) (.g (.o 0 49 (.mov (.t 0)) (.o 1 50 (.mov (.t 5)) (.o 2 51 (.iad 7 (.t 49) (.t 50)) (.o 3 52 (.fad (.t 51) 5) (.o 4 53 (.load none (.t 52)) (.o 5 54 (.mov (.t 1)) (.o 6 55 (.call 55 97 [(.t 53), (.t 54)]) (.o 7 1 (.mov (.t 55)) .done)))))))) (.reg false (.o 0 56 (.mov (.t 0)) (.o 1 57 (.mov (.t 5)) (.o 2 58 (.iad 7 (.t 56) (.t 57)) (.o 3 59 (.fad (.t 58) 6) (.o 4 60 (.load none (.t 59)) (.o 5 61 (.mov (.t 1)) (.o 6 62 (.call 62 98 [(.t 60), (.t 61)]) (.o 7 1 (.mov (.t 62)) .done))))))))))))))))))) (.reg false (.o 0 10 (.mov (.t 5)) (.o 1 11 (.bin .add (.t 10) (.i 1)) (.o 2 5 (.mov (.t 11)) .done))))))))) (.g (.o 0 63 (.mov (.t 1)) (.o 1 4 (.mov (.t 63)) .done)) .ret)))
theorem dg_laws_markRrS : Tryz.f29.body.bind (digC Tryz.prog Tryz.f29.ntmps []) = some c_laws_markRrS := by kernel_rfl
theorem rs_laws_markRrS : resSlots Tryz.prog Tryz.f29 = some [.s 4] := by kernel_rfl
theorem ok_laws_markRrS (l : List Rr) (k : Int) (h0 : 0 ≤ k) (hk : k + cntRs l ≤ 9223372036854775807) (hs : SmallRs l) :
    FnOK Tryz.prog 29 [.one (.arr false true (encR l)), .one (.d (.sc (.int .i64 k)))] (fun ra os => ra = [.one (.d (.sc (.int .i64 (k + cntRs l))))] ∧ os.a 0 = encR (markRs l k)) := by
  refine FnOK.ofK Tryz.func29 (by kernel_rfl) dg_laws_markRrS rs_laws_markRrS rfl rfl ?_
  delta c_laws_markRrS T.o X.i C.g
  have h1 := hs.len
  refine Kbc (Ka Y (Kdb (Kbc (Ka Y (Kd (Kt ?_))))))
  generalize hF : (St.init [.one (.arr false true (encR l)), .one (.d (.sc (.int .i64 k)))]).ob = F
  refine kLoop (α := { i : Nat // i ≤ l.length })
    (fun y => ⟨tabSl [(0, .c (.arr 0 0)), (1, .i (k + (cntRs (l.take y.1) : Int))), (5, .i y.1)], upd F 0 ⟨0, 7 * y.1, .arr true (encR (markRs (l.take y.1) k ++ l.drop y.1))⟩, []⟩) (fun y => l.length - y.1) ⟨0, by simp⟩
    (.tab (by subst hF; exact upd_self rfl) ⟨.refl _, by simpa using .refl _, .refl _, trivial⟩) ?_
  rintro ⟨i, hi⟩
  simp only
  have hlen : (markRs (l.take i) k).length = i := by rw [markRs_len]; simp; omega
  have hlen' : (markRs (l.take i) k ++ l.drop i).length = l.length := by simp [hlen]; omega
  have hle := cntRs_le l i
  have hle2 := cntRs_le l (i + 1)
  rcases Nat.lt_or_ge i l.length with hlt | hge
  · have hbi := hs.mem _ (List.getElem_mem hlt)
    have hsuc := cntRs_take l i hlt
    have hget : (markRs (l.take i) k ++ l.drop i)[i]'(by omega) = l[i] := by
      rw [List.getElem_append_right (by omega)]; simp [hlen]
    have hset := set_self (markRs (l.take i) k ++ l.drop i) i (by omega)
    rw [hget] at hset
    have hfin : ∀ R : Rr, R = markR l[i] (k + cntRs (l.take i)) → (markRs (l.take i) k ++ l.drop i).set i R = markRs (l.take (i + 1)) k ++ l.drop (i + 1) := by
      rintro R rfl
      rw [take_set_succ _ _ _ _ hlt hlen, ← List.take_append_getElem hlt, markRs_append]
    have hc : cntR l[i] = l[i].name.flatten.length + 3 + l[i].to.flatten.length + l[i].text.length + l[i].nums.length := rfl
    clear hget
    revert hset hfin hlen'
    generalize markRs (l.take i) k ++ l.drop i = L
    generalize hr : l[i] = r at hc hbi hsuc
    generalize hK : k + (cntRs (l.take i) : Int) = K
    intro hlen' hset hfin
    have n1 := hbi.n.len
    have t1 := hbi.t.len
    have x1 := hbi.x
    have m1 := hbi.m
    have hiL : i < L.length := by omega
    have hKn : 0 ≤ K := by omega
    have hKm : K + cntR r ≤ 9223372036854775807 := by omega
    refine kSub (t := ⟨tabSl [(0, .c (.arr 0 0)), (1, .i (K)), (5, .i i)], upd F 0 ⟨0, 7 * i, .arr true (encR (L.set i r))⟩, []⟩) (.tab (by rw [hset]) ⟨.refl _, .refl _, .refl _, trivial⟩) ?_
    refine Kb (Kbc (Ka Y (Ka Y (kLen Y Y Y (Kj Y Y Y (Kd ?_))))))
    rw [len_encR, List.length_set]
    refine kCond Y (fun h1 => ?_) (fun h1 => by exfalso; simp at h1; omega)
    refine Kn (Kb (Kt ?_))
    refine Kbc ?_
    refine Ka Y (Ka Y (kIadA Y Y Y Y ?_ ?_))
    · rw [len_encR, List.length_set]; omega
    refine kFadE Y Y (kFadE Y Y (?_))
    refine kLoadE Y Y (v := .c (.sub 0 0 (7 * i) i 0)) ?_ (Ka Y ?_)
    · show pickCells none (AC.ofCells 0 0 (7 * i) i 0 (((encR (L.set i ⟨r.name, r.ty, r.ttl, r.addr, r.to, r.text, r.nums⟩)).row i).drop 0)) = _
      rw [row_encRS _ _ _ hiL]
      rfl
    refine kCallS (ok_laws_markByteSS r.name K om om n1) rfl ⟨⟨rfl, rfl, rfl, rfl, rfl, rfl, (at_encRS L i 0 ⟨r.name, r.ty, r.ttl, r.addr, r.to, r.text, r.nums⟩ hiL).symm, rfl⟩, rfl, trivial⟩ ?_ rfl ?_
    · simp [encR, DV.rows]; omega
    rintro ra os ⟨rfl, ho⟩
    refine ⟨_, rfl, ?_⟩
    refine Ka Y (Kd ?_)
    refine kSub (t := ⟨tabSl [(0, .c (.arr 0 0)), (1, .i (K + (r.name.flatten.length : Int))), (5, .i i)], upd F 0 ⟨0, (7 * i + 1), .arr true (encR (L.set i ⟨markss r.name (K), r.ty, r.ttl, r.addr, r.to, r.text, r.nums⟩))⟩, []⟩) (.tab ?_ ⟨.refl _, .refl _, .refl _, trivial⟩) ?_
    · refine Eq.trans ?_ (upd_upd _ _ _ _).symm
      refine congrArg (upd _ _) ?_
      show _ = Ob.mk _ _ (OK.arr _ ((encR (L.set i ⟨r.name, r.ty, r.ttl, r.addr, r.to, r.text, r.nums⟩)).setCell i 0 (os.a 0)))
      rw [ho, setCell_encRS L i 0 ⟨r.name, r.ty, r.ttl, r.addr, r.to, r.text, r.nums⟩ ⟨markss r.name (K), r.ty, r.ttl, r.addr, r.to, r.text, r.nums⟩ _ hiL rfl]
      try rfl
    refine Kbc ?_
    refine Ka Y (Ka Y (Ka Y (kIadA Y Y Y Y ?_ (kFadE Y Y ?_))))
    · rw [len_encR, List.length_set]; omega
    refine kStoreE1 Y Y Y Y (by simp [encR, DV.esz]) (Kd ?_)
    refine kSub (t := ⟨tabSl [(0, .c (.arr 0 0)), (1, .i (K + (r.name.flatten.length : Int))), (5, .i i)], upd F 0 ⟨0, (7 * i + 2), .arr true (encR (L.set i ⟨markss r.name (K), (K + (r.name.flatten.length : Int)), r.ttl, r.addr, r.to, r.text, r.nums⟩))⟩, []⟩) (.tab ?_ ⟨.refl _, .refl _, .refl _, trivial⟩) ?_
    · refine Eq.trans ?_ (upd_upd _ _ _ _).symm
      refine congrArg (upd _ _) ?_
      show _ = Ob.mk _ _ (OK.arr _ (setRow (encR (L.set i ⟨markss r.name (K), r.ty, r.ttl, r.addr, r.to, r.text, r.nums⟩)) i 1 _))
      rw [setRow_encRS L i 1 ⟨markss r.name (K), r.ty, r.ttl, r.addr, r.to, r.text, r.nums⟩ ⟨markss r.name (K), (K + (r.name.flatten.length : Int)), r.ttl, r.addr, r.to, r.text, r.nums⟩ _ hiL rfl]
      try rfl
    refine Kbc (Ka Y (kAdd Y Y om (Ka Y (Kd ?_))))
    refine Kbc ?_
    refine Ka Y (Ka Y (Ka Y (kIadA Y Y Y Y ?_ (kFadE Y Y ?_))))
    · rw [len_encR, List.length_set]; omega
    refine kStoreE1 Y Y Y Y (by simp [encR, DV.esz]) (Kd ?_)
    refine kSub (t := ⟨tabSl [(0, .c (.arr 0 0)), (1, .i (K + (r.name.flatten.length : Int) + 1)), (5, .i i)], upd F 0 ⟨0, (7 * i + 3), .arr true (encR (L.set i ⟨markss r.name (K), (K + (r.name.flatten.length : Int)), (K + (r.name.flatten.length : Int) + 1), r.addr, r.to, r.text, r.nums⟩))⟩, []⟩) (.tab ?_ ⟨.refl _, .refl _, .refl _, trivial⟩) ?_
    · refine Eq.trans ?_ (upd_upd _ _ _ _).symm
      refine congrArg (upd _ _) ?_
      show _ = Ob.mk _ _ (OK.arr _ (setRow (encR (L.set i ⟨markss r.name (K), (K + (r.name.flatten.length : Int)), r.ttl, r.addr, r.to, r.text, r.nums⟩)) i 2 _))
      rw [setRow_encRS L i 2 ⟨markss r.name (K), (K + (r.name.flatten.length : Int)), r.ttl, r.addr, r.to, r.text, r.nums⟩ ⟨markss r.name (K), (K + (r.name.flatten.length : Int)), (K + (r.name.flatten.length : Int) + 1), r.addr, r.to, r.text, r.nums⟩ _ hiL rfl]
      try rfl
    refine Kbc (Ka Y (kAdd Y Y om (Ka Y (Kd ?_))))
    refine Kbc ?_
    refine Ka Y (Ka Y (Ka Y (kIadA Y Y Y Y ?_ (kFadE Y Y ?_))))
    · rw [len_encR, List.length_set]; omega
    refine kStoreE1 Y Y Y Y (by simp [encR, DV.esz]) (Kd ?_)
    refine kSub (t := ⟨tabSl [(0, .c (.arr 0 0)), (1, .i (K + (r.name.flatten.length : Int) + 1 + 1)), (5, .i i)], upd F 0 ⟨0, (7 * i + 4), .arr true (encR (L.set i ⟨markss r.name (K), (K + (r.name.flatten.length : Int)), (K + (r.name.flatten.length : Int) + 1), (K + (r.name.flatten.length : Int) + 1 + 1), r.to, r.text, r.nums⟩))⟩, []⟩) (.tab ?_ ⟨.refl _, .refl _, .refl _, trivial⟩) ?_
    · refine Eq.trans ?_ (upd_upd _ _ _ _).symm
      refine congrArg (upd _ _) ?_
      show _ = Ob.mk _ _ (OK.arr _ (setRow (encR (L.set i ⟨markss r.name (K), (K + (r.name.flatten.length : Int)), (K + (r.name.flatten.length : Int) + 1), r.addr, r.to, r.text, r.nums⟩)) i 3 _))
      rw [setRow_encRS L i 3 ⟨markss r.name (K), (K + (r.name.flatten.length : Int)), (K + (r.name.flatten.length : Int) + 1), r.addr, r.to, r.text, r.nums⟩ ⟨markss r.name (K), (K + (r.name.flatten.length : Int)), (K + (r.name.flatten.length : Int) + 1), (K + (r.name.flatten.length : Int) + 1 + 1), r.to, r.text, r.nums⟩ _ hiL rfl]
      try rfl
    refine Kbc (Ka Y (kAdd Y Y om (Ka Y (Kd ?_))))
    refine Kbc ?_
    refine Ka Y (Ka Y (kIadA Y Y Y Y ?_ ?_))
    · rw [len_encR, List.length_set]; omega
    refine kFadE Y Y (kFadE Y Y (?_))
    refine kLoadE Y Y (v := .c (.sub 0 0 (7 * i + 4) i 4)) ?_ (Ka Y ?_)
    · show pickCells none (AC.ofCells 0 0 (7 * i + 4) i 4 (((encR (L.set i ⟨markss r.name (K), (K + (r.name.flatten.length : Int)), (K + (r.name.flatten.length : Int) + 1), (K + (r.name.flatten.length : Int) + 1 + 1), r.to, r.text, r.nums⟩)).row i).drop 4)) = _
      rw [row_encRS _ _ _ hiL]
      rfl
    refine kCallS (ok_laws_markByteSS r.to _ om om t1) rfl ⟨⟨rfl, rfl, rfl, rfl, rfl, rfl, (at_encRS L i 4 ⟨markss r.name (K), (K + (r.name.flatten.length : Int)), (K + (r.name.flatten.length : Int) + 1), (K + (r.name.flatten.length : Int) + 1 + 1), r.to, r.text, r.nums⟩ hiL).symm, rfl⟩, rfl, trivial⟩ ?_ rfl ?_
    · simp [encR, DV.rows]; omega
    rintro ra os ⟨rfl, ho⟩
    refine ⟨_, rfl, ?_⟩
    refine Ka Y (Kd ?_)
    refine kSub (t := ⟨tabSl [(0, .c (.arr 0 0)), (1, .i (K + (r.name.flatten.length : Int) + 1 + 1 + 1 + (r.to.flatten.length : Int))), (5, .i i)], upd F 0 ⟨0, (7 * i + 5), .arr true (encR (L.set i ⟨markss r.name (K), (K + (r.name.flatten.length : Int)), (K + (r.name.flatten.length : Int) + 1), (K + (r.name.flatten.length : Int) + 1 + 1), markss r.to (K + (r.name.flatten.length : Int) + 1 + 1 + 1), r.text, r.nums⟩))⟩, []⟩) (.tab ?_ ⟨.refl _, .refl _, .refl _, trivial⟩) ?_
    · refine Eq.trans ?_ (upd_upd _ _ _ _).symm
      refine congrArg (upd _ _) ?_
      show _ = Ob.mk _ _ (OK.arr _ ((encR (L.set i ⟨markss r.name (K), (K + (r.name.flatten.length : Int)), (K + (r.name.flatten.length : Int) + 1), (K + (r.name.flatten.length : Int) + 1 + 1), r.to, r.text, r.nums⟩)).setCell i 4 (os.a 0)))
      rw [ho, setCell_encRS L i 4 ⟨markss r.name (K), (K + (r.name.flatten.length : Int)), (K + (r.name.flatten.length : Int) + 1), (K + (r.name.flatten.length : Int) + 1 + 1), r.to, r.text, r.nums⟩ ⟨markss r.name (K), (K + (r.name.flatten.length : Int)), (K + (r.name.flatten.length : Int) + 1), (K + (r.name.flatten.length : Int) + 1 + 1), markss r.to (K + (r.name.flatten.length : Int) + 1 + 1 + 1), r.text, r.nums⟩ _ hiL rfl]
      try rfl
    refine Kbc ?_
    refine Ka Y (Ka Y (kIadA Y Y Y Y ?_ ?_))
    · rw [len_encR, List.length_set]; omega
    refine kFadE Y Y (?_)
    refine kLoadE Y Y (v := .c (.sub 0 0 (7 * i + 5) i 5)) ?_ (Ka Y ?_)
    · show pickCells none (AC.ofCells 0 0 (7 * i + 5) i 5 (((encR (L.set i ⟨markss r.name (K), (K + (r.name.flatten.length : Int)), (K + (r.name.flatten.length : Int) + 1), (K + (r.name.flatten.length : Int) + 1 + 1), markss r.to (K + (r.name.flatten.length : Int) + 1 + 1 + 1), r.text, r.nums⟩)).row i).drop 5)) = _
      rw [row_encRS _ _ _ hiL]
      rfl
    refine kCallS (ok_laws_markByteS r.text _ om om) rfl ⟨⟨rfl, rfl, rfl, rfl, rfl, rfl, (at_encRS L i 5 ⟨markss r.name (K), (K + (r.name.flatten.length : Int)), (K + (r.name.flatten.length : Int) + 1), (K + (r.name.flatten.length : Int) + 1 + 1), markss r.to (K + (r.name.flatten.length : Int) + 1 + 1 + 1), r.text, r.nums⟩ hiL).symm, rfl⟩, rfl, trivial⟩ ?_ rfl ?_
    · simp [encR, DV.rows]; omega
    rintro ra os ⟨rfl, ho⟩
    refine ⟨_, rfl, ?_⟩
    refine Ka Y (Kd ?_)
    refine kSub (t := ⟨tabSl [(0, .c (.arr 0 0)), (1, .i (K + (r.name.flatten.length : Int) + 1 + 1 + 1 + (r.to.flatten.length : Int) + (r.text.length : Int))), (5, .i i)], upd F 0 ⟨0, (7 * i + 6), .arr true (encR (L.set i ⟨markss r.name (K), (K + (r.name.flatten.length : Int)), (K + (r.name.flatten.length : Int) + 1), (K + (r.name.flatten.length : Int) + 1 + 1), markss r.to (K + (r.name.flatten.length : Int) + 1 + 1 + 1), marks r.text.length (K + (r.name.flatten.length : Int) + 1 + 1 + 1 + (r.to.flatten.length : Int)), r.nums⟩))⟩, []⟩) (.tab ?_ ⟨.refl _, .refl _, .refl _, trivial⟩) ?_
    · refine Eq.trans ?_ (upd_upd _ _ _ _).symm
      refine congrArg (upd _ _) ?_
      show _ = Ob.mk _ _ (OK.arr _ ((encR (L.set i ⟨markss r.name (K), (K + (r.name.flatten.length : Int)), (K + (r.name.flatten.length : Int) + 1), (K + (r.name.flatten.length : Int) + 1 + 1), markss r.to (K + (r.name.flatten.length : Int) + 1 + 1 + 1), r.text, r.nums⟩)).setCell i 5 (os.a 0)))
      rw [ho, setCell_encRS L i 5 ⟨markss r.name (K), (K + (r.name.flatten.length : Int)), (K + (r.name.flatten.length : Int) + 1), (K + (r.name.flatten.length : Int) + 1 + 1), markss r.to (K + (r.name.flatten.length : Int) + 1 + 1 + 1), r.text, r.nums⟩ ⟨markss r.name (K), (K + (r.name.flatten.length : Int)), (K + (r.name.flatten.length : Int) + 1), (K + (r.name.flatten.length : Int) + 1 + 1), markss r.to (K + (r.name.flatten.length : Int) + 1 + 1 + 1), marks r.text.length (K + (r.name.flatten.length : Int) + 1 + 1 + 1 + (r.to.flatten.length : Int)), r.nums⟩ _ hiL rfl]
      try rfl
    refine Kc ?_
    refine Ka Y (Ka Y (kIadA Y Y Y Y ?_ ?_))
    · rw [len_encR, List.length_set]; omega
    refine kFadE Y Y (?_)
    refine kLoadE Y Y (v := .c (.sub 0 0 (7 * i + 6) i 6)) ?_ (Ka Y ?_)
    · show pickCells none (AC.ofCells 0 0 (7 * i + 6) i 6 (((encR (L.set i ⟨markss r.name (K), (K + (r.name.flatten.length : Int)), (K + (r.name.flatten.length : Int) + 1), (K + (r.name.flatten.length : Int) + 1 + 1), markss r.to (K + (r.name.flatten.length : Int) + 1 + 1 + 1), marks r.text.length (K + (r.name.flatten.length : Int) + 1 + 1 + 1 + (r.to.flatten.length : Int)), r.nums⟩)).row i).drop 6)) = _
      rw [row_encRS _ _ _ hiL]
      rfl
    refine kCallS (ok_laws_markIntS r.nums _ om om) rfl ⟨⟨rfl, rfl, rfl, rfl, rfl, rfl, (at_encRS L i 6 ⟨markss r.name (K), (K + (r.name.flatten.length : Int)), (K + (r.name.flatten.length : Int) + 1), (K + (r.name.flatten.length : Int) + 1 + 1), markss r.to (K + (r.name.flatten.length : Int) + 1 + 1 + 1), marks r.text.length (K + (r.name.flatten.length : Int) + 1 + 1 + 1 + (r.to.flatten.length : Int)), r.nums⟩ hiL).symm, rfl⟩, rfl, trivial⟩ ?_ rfl ?_
    · simp [encR, DV.rows]; omega
    rintro ra os ⟨rfl, ho⟩
    refine ⟨_, rfl, ?_⟩
    refine Ka Y (Kd (Kv ?_))
    refine kSub (t := ⟨tabSl [(0, .c (.arr 0 0)), (1, .i (K + (r.name.flatten.length : Int) + 1 + 1 + 1 + (r.to.flatten.length : Int) + (r.text.length : Int) + (r.nums.length : Int))), (5, .i i)], upd F 0 ⟨0, (7 * i + 7), .arr true (encR (L.set i ⟨markss r.name (K), (K + (r.name.flatten.length : Int)), (K + (r.name.flatten.length : Int) + 1), (K + (r.name.flatten.length : Int) + 1 + 1), markss r.to (K + (r.name.flatten.length : Int) + 1 + 1 + 1), marks r.text.length (K + (r.name.flatten.length : Int) + 1 + 1 + 1 + (r.to.flatten.length : Int)), marksI r.nums.length (K + (r.name.flatten.length : Int) + 1 + 1 + 1 + (r.to.flatten.length : Int) + (r.text.length : Int))⟩))⟩, []⟩) (.tab ?_ ⟨.refl _, .refl _, .refl _, trivial⟩) ?_
    · refine Eq.trans ?_ (upd_upd _ _ _ _).symm
      refine congrArg (upd _ _) ?_
      show _ = Ob.mk _ _ (OK.arr _ ((encR (L.set i ⟨markss r.name (K), (K + (r.name.flatten.length : Int)), (K + (r.name.flatten.length : Int) + 1), (K + (r.name.flatten.length : Int) + 1 + 1), markss r.to (K + (r.name.flatten.length : Int) + 1 + 1 + 1), marks r.text.length (K + (r.name.flatten.length : Int) + 1 + 1 + 1 + (r.to.flatten.length : Int)), r.nums⟩)).setCell i 6 (os.a 0)))
      rw [ho, setCell_encRS L i 6 ⟨markss r.name (K), (K + (r.name.flatten.length : Int)), (K + (r.name.flatten.length : Int) + 1), (K + (r.name.flatten.length : Int) + 1 + 1), markss r.to (K + (r.name.flatten.length : Int) + 1 + 1 + 1), marks r.text.length (K + (r.name.flatten.length : Int) + 1 + 1 + 1 + (r.to.flatten.length : Int)), r.nums⟩ ⟨markss r.name (K), (K + (r.name.flatten.length : Int)), (K + (r.name.flatten.length : Int) + 1), (K + (r.name.flatten.length : Int) + 1 + 1), markss r.to (K + (r.name.flatten.length : Int) + 1 + 1 + 1), marks r.text.length (K + (r.name.flatten.length : Int) + 1 + 1 + 1 + (r.to.flatten.length : Int)), marksI r.nums.length (K + (r.name.flatten.length : Int) + 1 + 1 + 1 + (r.to.flatten.length : Int) + (r.text.length : Int))⟩ _ hiL rfl]
      try rfl
    rw [hfin _ (by rw [← hr, ← hK]; rfl)]
    refine Kc (Ka Y (kAdd Y Y om (Ka Y (Kd (kInv ?_)))))
    refine ⟨⟨i + 1, hlt⟩, by simp only; omega, .tab rfl ⟨.refl _, ?_, .refl _, trivial⟩⟩
    refine Eq.mp (congrArg (fun z => WkV _ (.i z)) ?_) (.refl _)
    show _ = k + ((cntRs (l.take (i + 1)) : Nat) : Int)
    omega
  · refine Kb (Kbc (Ka Y (Ka Y (kLen Y Y Y (Kj Y Y Y (Kd ?_))))))
    rw [len_encR, hlen']
    refine kCond Y (fun h1 => by exfalso; simp at h1; omega) (fun h1 => ?_)
    refine kExit (kExC (kExI (kExB ?_)))
    obtain rfl : i = l.length := by omega
    refine Kbc (Ka Y (Ka Y (Kd (Kr ?_))))
    subst hF
    refine endRet (ra := [.one (.d _)]) rfl ⟨⟨⟨rfl, .inl rfl⟩, trivial⟩, .nil, ⟨rfl, fun _ => rfl, rfl⟩, trivial, trivial⟩ ?_
    refine ⟨by simp, ?_⟩
    show encR (markRs (l.take l.length) k ++ l.drop l.length) = _
    simp

def c_laws_markSlotS : C := (.g (.o 0 4 (.mov (.i 0)) .done) (.seq (.g (.o 0 5 (.mov (.i 0)) .done) (.block 0 (.loop (.seq (.g (.o 0 6 (.mov (.t 5)) (.o 1 7 (.mov (.t 0)) (.o 2 8 (.len (.t 7)) (.o 3 9 (.bin .lss (.t 6) (.t 8)) .done)))) (.cond (.t 9) .skip (.exit 0))) (.seq (.block 1 (.g (.o 0 12 (.mov (.t 0)) (.o 1 13 (.mov (.t 5)) (.o 2 14 (.iad 7 (.t 12) (.t 13)) (.o 3 15 (.fad (.t 14) 0) (.o 4 16 (.fad (.t 15) 0) (.o 5 17 (.load none (.t 16)) (.o 6 18 (.mov (.t 1)) (.o 7 19 (.call 19 96 [(.t 17), (.t 18)]) (.o 8 1 (.mov (.t 19)) .done))))))))) (.g (.o 0 20 (.mov (.t 0)) (.o 1 21 (.mov (.t 5)) (.o 2 22 (.mov (.t 1)) (.o 3 23 (.iad 7 (.t 20) (.t 21)) (.o 4 24 (.fad (.t 23) 1) (.op 5 [] none none false (.store none (.t 24) (.t 22)) .done)))))) (.g (.o 0 25 (.mov (.t 1)) (.o 1 26 (.bin .add (.t 25) (.i 1)) (.o 2 1 (.mov (.t 26)) .done))) (.g (.o 0 27 (.mov (.t 0)) (.o 1 28 (.mov (.t 5)) (.o 2 29 (.mov (.t 1)) (.o 3 30 (.iad 7 (.t 27) (.t 28)) (.o 4 31 (.fad (.t 30) 2) (.op 5 [] none none false (.store none (.t 31) (.t 29)) .done)))))) (.g (.o 0 32 (.mov (.t 1)) (.o 1 33 (.bin .add (.t 32) (.i 1)) (.o 2 1 (.mov (.t 33)) .done))) (.g (.o 0 34 (.mov (.t 0)) (.o 1 35 (.mov (.t 5)) (.o 2 36 (.iad 7 (.t 34) (.t 35)) (.o 3 37 (.fad (.t 36) 3) (.o 4 38 (.load none (.t 37)) (.o 5 39 (.mov (.t 1)) (.o 6 40 (.call 40 29 [(.t 38), (.t 39)]) (.o 7 1 (.mov (.t 40)) .done)))))))) (.g (.o 0 41 (.mov (.t 0)) (.o 1 42 (.mov (.t 5)) (.o 2 43 (.mov (.t 1)) (.o 3 44 (.iad 7 (.t 41) (.t 42)) (.o 4 45 (.fad (.t 44) 4) (.op 5 [] none none false (.store none (.t 45) (.t 43)) .done)))))) (.g (.o 0 46 (.mov (.t 1)) (.o 1 47 (.bin .add (.t 46) (.i 1)) (.o 2 1 (.mov (.t 47)) .done))) (.g (.o 0 48 (.mov (.t 0)) (.o 1 49 (.mov (.t 5)) (.o 2 50 (.mov (.t 1)) (.o 3 51 (.iad 7 (.t 48) (.t 49)) (.o 4 52 (.fad (.t 51) 5) (.op 5 [] none none false (.store none (.t 52) (.t 50)) .done)))))) (.g (.o 0 53 (.mov (.t 1)) (.o 1 54 (.bin .add (.t 53) (.i 1)) (.o 2 1 (.mov (.t 54)) .done))) (.g (.o 0 55 (.mov (.t 0)) (.o 1 56 (.mov (.t 5)) (.o 2 57 (.mov (.t 1)) (.o 3 58 (.iad 7 (.t 55) (.t 56)) (.o 4 59 (.fad (.t 58) 6) (.op 5 [] none none false (.store none (.t 59) (.t 57)) .done)))))) (.reg false (.o 0 60 (.mov (.t 1)) (.o 1 61 (.bin .add (.t 60) (.i 1)) (.o 2 1 (.mov (.t 61)) .done)))))))))))))))) (.reg false (.o 0 10 (.mov (.t 5)) (.o 1 11 (.bin .add (.t 10) (.i 1)) (.o 2 5 (.mov (.t 11)) .done))))))))) (.g (.o 0 62 (.mov (.t 1)) (.o 1 4 (.mov (.t 62)) .done)) .ret)))
theorem dg_laws_markSlotS : Tryz.f95.body.bind (digC Tryz.prog Tryz.f95.ntmps []) = some c_laws_markSlotS := by kernel_rfl
theorem rs_laws_markSlotS : resSlots Tryz.prog Tryz.f95 = some [.s 4] := by kernel_rfl
theorem ok_laws_markSlotS (l : List (Slot)) (k : Int) (h0 : 0 ≤ k) (hk : k + cntL cntS l ≤ 9223372036854775807) (hs : SmallSs l) :
    FnOK Tryz.prog 95 [.one (.arr false true (encS l)), .one (.d (.sc (.int .i64 k)))] (fun ra os => ra = [.one (.d (.sc (.int .i64 (k + cntL cntS l))))] ∧ os.a 0 = encS (markL cntS markS l k)) := by
  refine FnOK.ofK Tryz.func95 (by kernel_rfl) dg_laws_markSlotS rs_laws_markSlotS rfl rfl ?_
  delta c_laws_markSlotS T.o X.i C.g
  have h1 := hs.len
  refine Kbc (Ka Y (Kdb (Kbc (Ka Y (Kd (Kt ?_))))))
  generalize hF : (St.init [.one (.arr false true (encS l)), .one (.d (.sc (.int .i64 k)))]).ob = F
  refine kLoop (α := { i : Nat // i ≤ l.length })
    (fun y => ⟨tabSl [(0, .c (.arr 0 0)), (1, .i (k + (cntL cntS (l.take y.1) : Int))), (5, .i y.1)], upd F 0 ⟨0, 7 * y.1, .arr true (encS (markL cntS markS (l.take y.1) k ++ l.drop y.1))⟩, []⟩) (fun y => l.length - y.1) ⟨0, by simp⟩
    (.tab (by subst hF; exact upd_self rfl) ⟨.refl _, by simpa using .refl _, .refl _, trivial⟩) ?_
  rintro ⟨i, hi⟩
  simp only
  have hlen : (markL cntS markS (l.take i) k).length = i := by rw [markL_len]; simp; omega
  have hlen' : (markL cntS markS (l.take i) k ++ l.drop i).length = l.length := by simp [hlen]; omega
  have hle := cntL_le cntS l i
  have hle2 := cntL_le cntS l (i + 1)
  rcases Nat.lt_or_ge i l.length with hlt | hge
  · have hbi := hs.mem _ (List.getElem_mem hlt)
    have hsuc := cntL_take cntS l i hlt
    have hget : (markL cntS markS (l.take i) k ++ l.drop i)[i]'(by omega) = l[i] := by
      rw [List.getElem_append_right (by omega)]; simp [hlen]
    have hset := set_selfL (markL cntS markS (l.take i) k ++ l.drop i) i (by omega)
    rw [hget] at hset
    have hfin : ∀ R : Slot, R = markS l[i] (k + cntL cntS (l.take i)) → (markL cntS markS (l.take i) k ++ l.drop i).set i R = markL cntS markS (l.take (i + 1)) k ++ l.drop (i + 1) := by
      rintro R rfl
      rw [take_set_succ _ _ _ _ hlt hlen, ← List.take_append_getElem hlt, markL_append]
    have hc : cntS l[i] = l[i].name.flatten.length + 5 + cntRs l[i].rrs := rfl
    clear hget
    revert hset hfin hlen'
    generalize markL cntS markS (l.take i) k ++ l.drop i = L
    generalize hr : l[i] = r at hc hbi hsuc
    generalize hK : k + (cntL cntS (l.take i) : Int) = K
    intro hlen' hset hfin
    have n1 := hbi.n.len
    have n2 := hbi.n.mem
    have r1 := hbi.r
    have hiL : i < L.length := by omega
    have hKn : 0 ≤ K := by omega
    have hKm : K + cntS r ≤ 9223372036854775807 := by omega
    refine kSub (t := ⟨tabSl [(0, .c (.arr 0 0)), (1, .i (K)), (5, .i i)], upd F 0 ⟨0, 7 * i, .arr true (encS (L.set i r))⟩, []⟩) (.tab (by rw [hset]) ⟨.refl _, .refl _, .refl _, trivial⟩) ?_
    refine Kb (Kbc (Ka Y (Ka Y (kLen Y Y Y (Kj Y Y Y (Kd ?_))))))
    rw [len_encL, List.length_set]
    refine kCond Y (fun h1 => ?_) (fun h1 => by exfalso; simp at h1; omega)
    refine Kn (Kb (Kt ?_))
    refine Kbc ?_
    refine Ka Y (Ka Y (kIadA Y Y Y Y ?_ ?_))
    · rw [len_encL, List.length_set]; omega
    refine kFadE Y Y (kFadE Y Y (?_))
    refine kLoadE Y Y (v := .c (.sub 0 0 (7 * i) i 0)) ?_ (Ka Y ?_)
    · show pickCells none (AC.ofCells 0 0 (7 * i) i 0 (((encS (L.set i ⟨r.name, r.ty, r.kind, r.rrs, r.rank, r.til, r.used⟩)).row i).drop 0)) = _
      rw [row_encLS 7 Slot.cells _ _ _ hiL]
      rfl
    refine kCallS (ok_laws_markByteSS r.name _ om om n1) rfl ⟨⟨rfl, rfl, rfl, rfl, rfl, rfl, (at_encLS 7 Slot.cells L i 0 ⟨r.name, r.ty, r.kind, r.rrs, r.rank, r.til, r.used⟩ hiL).symm, rfl⟩, rfl, trivial⟩ ?_ rfl ?_
    · simp [encL, DV.rows]; omega
    rintro ra os ⟨rfl, ho⟩
    refine ⟨_, rfl, ?_⟩
    refine Ka Y (Kd ?_)
    refine kSub (t := ⟨tabSl [(0, .c (.arr 0 0)), (1, .i (K + (r.name.flatten.length : Int))), (5, .i i)], upd F 0 ⟨0, (7 * i + 1), .arr true (encS (L.set i ⟨markss r.name (K), r.ty, r.kind, r.rrs, r.rank, r.til, r.used⟩))⟩, []⟩) (.tab ?_ ⟨.refl _, .refl _, .refl _, trivial⟩) ?_
    · refine Eq.trans ?_ (upd_upd _ _ _ _).symm
      refine congrArg (upd _ _) ?_
      show _ = Ob.mk _ _ (OK.arr _ ((encS (L.set i ⟨r.name, r.ty, r.kind, r.rrs, r.rank, r.til, r.used⟩)).setCell i 0 (os.a 0)))
      rw [ho, setCell_encLS 7 Slot.cells L i 0 ⟨r.name, r.ty, r.kind, r.rrs, r.rank, r.til, r.used⟩ ⟨markss r.name (K), r.ty, r.kind, r.rrs, r.rank, r.til, r.used⟩ _ hiL rfl]
      try rfl
    refine Kbc ?_
    refine Ka Y (Ka Y (Ka Y (kIadA Y Y Y Y ?_ (kFadE Y Y ?_))))
    · rw [len_encL, List.length_set]; omega
    refine kStoreE1 Y Y Y Y (by simp [encL, DV.esz]) (Kd ?_)
    refine kSub (t := ⟨tabSl [(0, .c (.arr 0 0)), (1, .i (K + (r.name.flatten.length : Int))), (5, .i i)], upd F 0 ⟨0, (7 * i + 2), .arr true (encS (L.set i ⟨markss r.name (K), (K + (r.name.flatten.length : Int)), r.kind, r.rrs, r.rank, r.til, r.used⟩))⟩, []⟩) (.tab ?_ ⟨.refl _, .refl _, .refl _, trivial⟩) ?_
    · refine Eq.trans ?_ (upd_upd _ _ _ _).symm
      refine congrArg (upd _ _) ?_
      show _ = Ob.mk _ _ (OK.arr _ (setRow (encS (L.set i ⟨markss r.name (K), r.ty, r.kind, r.rrs, r.rank, r.til, r.used⟩)) i 1 _))
      rw [setRow_encLS 7 Slot.cells L i 1 ⟨markss r.name (K), r.ty, r.kind, r.rrs, r.rank, r.til, r.used⟩ ⟨markss r.name (K), (K + (r.name.flatten.length : Int)), r.kind, r.rrs, r.rank, r.til, r.used⟩ _ hiL rfl]
      try rfl
    refine Kbc ?_
    refine Ka Y (kAdd Y Y om (Ka Y (Kd ?_)))
    refine Kbc ?_
    refine Ka Y (Ka Y (Ka Y (kIadA Y Y Y Y ?_ (kFadE Y Y ?_))))
    · rw [len_encL, List.length_set]; omega
    refine kStoreE1 Y Y Y Y (by simp [encL, DV.esz]) (Kd ?_)
    refine kSub (t := ⟨tabSl [(0, .c (.arr 0 0)), (1, .i (K + (r.name.flatten.length : Int) + 1)), (5, .i i)], upd F 0 ⟨0, (7 * i + 3), .arr true (encS (L.set i ⟨markss r.name (K), (K + (r.name.flatten.length : Int)), (K + (r.name.flatten.length : Int) + 1), r.rrs, r.rank, r.til, r.used⟩))⟩, []⟩) (.tab ?_ ⟨.refl _, .refl _, .refl _, trivial⟩) ?_
    · refine Eq.trans ?_ (upd_upd _ _ _ _).symm
      refine congrArg (upd _ _) ?_
      show _ = Ob.mk _ _ (OK.arr _ (setRow (encS (L.set i ⟨markss r.name (K), (K + (r.name.flatten.length : Int)), r.kind, r.rrs, r.rank, r.til, r.used⟩)) i 2 _))
      rw [setRow_encLS 7 Slot.cells L i 2 ⟨markss r.name (K), (K + (r.name.flatten.length : Int)), r.kind, r.rrs, r.rank, r.til, r.used⟩ ⟨markss r.name (K), (K + (r.name.flatten.length : Int)), (K + (r.name.flatten.length : Int) + 1), r.rrs, r.rank, r.til, r.used⟩ _ hiL rfl]
      try rfl
    refine Kbc ?_
    refine Ka Y (kAdd Y Y om (Ka Y (Kd ?_)))
    refine Kbc ?_
    refine Ka Y (Ka Y (kIadA Y Y Y Y ?_ ?_))
    · rw [len_encL, List.length_set]; omega
    refine kFadE Y Y (?_)
    refine kLoadE Y Y (v := .c (.sub 0 0 (7 * i + 3) i 3)) ?_ (Ka Y ?_)
    · show pickCells none (AC.ofCells 0 0 (7 * i + 3) i 3 (((encS (L.set i ⟨markss r.name (K), (K + (r.name.flatten.length : Int)), (K + (r.name.flatten.length : Int) + 1), r.rrs, r.rank, r.til, r.used⟩)).row i).drop 3)) = _
      rw [row_encLS 7 Slot.cells _ _ _ hiL]
      rfl
    refine kCallS (ok_laws_markRrS r.rrs _ om om r1) rfl ⟨⟨rfl, rfl, rfl, rfl, rfl, rfl, (at_encLS 7 Slot.cells L i 3 ⟨markss r.name (K), (K + (r.name.flatten.length : Int)), (K + (r.name.flatten.length : Int) + 1), r.rrs, r.rank, r.til, r.used⟩ hiL).symm, rfl⟩, rfl, trivial⟩ ?_ rfl ?_
    · simp [encL, DV.rows]; omega
    rintro ra os ⟨rfl, ho⟩
    refine ⟨_, rfl, ?_⟩
    refine Ka Y (Kd ?_)
    refine kSub (t := ⟨tabSl [(0, .c (.arr 0 0)), (1, .i (K + (r.name.flatten.length : Int) + 1 + 1 + (cntRs r.rrs : Int))), (5, .i i)], upd F 0 ⟨0, (7 * i + 4), .arr true (encS (L.set i ⟨markss r.name (K), (K + (r.name.flatten.length : Int)), (K + (r.name.flatten.length : Int) + 1), markRs r.rrs (K + (r.name.flatten.length : Int) + 1 + 1), r.rank, r.til, r.used⟩))⟩, []⟩) (.tab ?_ ⟨.refl _, .refl _, .refl _, trivial⟩) ?_
    · refine Eq.trans ?_ (upd_upd _ _ _ _).symm
      refine congrArg (upd _ _) ?_
      show _ = Ob.mk _ _ (OK.arr _ ((encS (L.set i ⟨markss r.name (K), (K + (r.name.flatten.length : Int)), (K + (r.name.flatten.length : Int) + 1), r.rrs, r.rank, r.til, r.used⟩)).setCell i 3 (os.a 0)))
      rw [ho, setCell_encLS 7 Slot.cells L i 3 ⟨markss r.name (K), (K + (r.name.flatten.length : Int)), (K + (r.name.flatten.length : Int) + 1), r.rrs, r.rank, r.til, r.used⟩ ⟨markss r.name (K), (K + (r.name.flatten.length : Int)), (K + (r.name.flatten.length : Int) + 1), markRs r.rrs (K + (r.name.flatten.length : Int) + 1 + 1), r.rank, r.til, r.used⟩ _ hiL rfl]
      try rfl
    refine Kbc ?_
    refine Ka Y (Ka Y (Ka Y (kIadA Y Y Y Y ?_ (kFadE Y Y ?_))))
    · rw [len_encL, List.length_set]; omega
    refine kStoreE1 Y Y Y Y (by simp [encL, DV.esz]) (Kd ?_)
    refine kSub (t := ⟨tabSl [(0, .c (.arr 0 0)), (1, .i (K + (r.name.flatten.length : Int) + 1 + 1 + (cntRs r.rrs : Int))), (5, .i i)], upd F 0 ⟨0, (7 * i + 5), .arr true (encS (L.set i ⟨markss r.name (K), (K + (r.name.flatten.length : Int)), (K + (r.name.flatten.length : Int) + 1), markRs r.rrs (K + (r.name.flatten.length : Int) + 1 + 1), (K + (r.name.flatten.length : Int) + 1 + 1 + (cntRs r.rrs : Int)), r.til, r.used⟩))⟩, []⟩) (.tab ?_ ⟨.refl _, .refl _, .refl _, trivial⟩) ?_
    · refine Eq.trans ?_ (upd_upd _ _ _ _).symm
      refine congrArg (upd _ _) ?_
      show _ = Ob.mk _ _ (OK.arr _ (setRow (encS (L.set i ⟨markss r.name (K), (K + (r.name.flatten.length : Int)), (K + (r.name.flatten.length : Int) + 1), markRs r.rrs (K + (r.name.flatten.length : Int) + 1 + 1), r.rank, r.til, r.used⟩)) i 4 _))
      rw [setRow_encLS 7 Slot.cells L i 4 ⟨markss r.name (K), (K + (r.name.flatten.length : Int)), (K + (r.name.flatten.length : Int) + 1), markRs r.rrs (K + (r.name.flatten.length : Int) + 1 + 1), r.rank, r.til, r.used⟩ ⟨markss r.name (K), (K + (r.name.flatten.length : Int)), (K + (r.name.flatten.length : Int) + 1), markRs r.rrs (K + (r.name.flatten.length : Int) + 1 + 1), (K + (r.name.flatten.length : Int) + 1 + 1 + (cntRs r.rrs : Int)), r.til, r.used⟩ _ hiL rfl]
      try rfl
    refine Kbc ?_
    refine Ka Y (kAdd Y Y om (Ka Y (Kd ?_)))
    refine Kbc ?_
    refine Ka Y (Ka Y (Ka Y (kIadA Y Y Y Y ?_ (kFadE Y Y ?_))))
    · rw [len_encL, List.length_set]; omega
    refine kStoreE1 Y Y Y Y (by simp [encL, DV.esz]) (Kd ?_)
    refine kSub (t := ⟨tabSl [(0, .c (.arr 0 0)), (1, .i (K + (r.name.flatten.length : Int) + 1 + 1 + (cntRs r.rrs : Int) + 1)), (5, .i i)], upd F 0 ⟨0, (7 * i + 6), .arr true (encS (L.set i ⟨markss r.name (K), (K + (r.name.flatten.length : Int)), (K + (r.name.flatten.length : Int) + 1), markRs r.rrs (K + (r.name.flatten.length : Int) + 1 + 1), (K + (r.name.flatten.length : Int) + 1 + 1 + (cntRs r.rrs : Int)), (K + (r.name.flatten.length : Int) + 1 + 1 + (cntRs r.rrs : Int) + 1), r.used⟩))⟩, []⟩) (.tab ?_ ⟨.refl _, .refl _, .refl _, trivial⟩) ?_
    · refine Eq.trans ?_ (upd_upd _ _ _ _).symm
      refine congrArg (upd _ _) ?_
      show _ = Ob.mk _ _ (OK.arr _ (setRow (encS (L.set i ⟨markss r.name (K), (K + (r.name.flatten.length : Int)), (K + (r.name.flatten.length : Int) + 1), markRs r.rrs (K + (r.name.flatten.length : Int) + 1 + 1), (K + (r.name.flatten.length : Int) + 1 + 1 + (cntRs r.rrs : Int)), r.til, r.used⟩)) i 5 _))
      rw [setRow_encLS 7 Slot.cells L i 5 ⟨markss r.name (K), (K + (r.name.flatten.length : Int)), (K + (r.name.flatten.length : Int) + 1), markRs r.rrs (K + (r.name.flatten.length : Int) + 1 + 1), (K + (r.name.flatten.length : Int) + 1 + 1 + (cntRs r.rrs : Int)), r.til, r.used⟩ ⟨markss r.name (K), (K + (r.name.flatten.length : Int)), (K + (r.name.flatten.length : Int) + 1), markRs r.rrs (K + (r.name.flatten.length : Int) + 1 + 1), (K + (r.name.flatten.length : Int) + 1 + 1 + (cntRs r.rrs : Int)), (K + (r.name.flatten.length : Int) + 1 + 1 + (cntRs r.rrs : Int) + 1), r.used⟩ _ hiL rfl]
      try rfl
    refine Kbc ?_
    refine Ka Y (kAdd Y Y om (Ka Y (Kd ?_)))
    refine Kbc ?_
    refine Ka Y (Ka Y (Ka Y (kIadA Y Y Y Y ?_ (kFadE Y Y ?_))))
    · rw [len_encL, List.length_set]; omega
    refine kStoreE1 Y Y Y Y (by simp [encL, DV.esz]) (Kd ?_)
    refine kSub (t := ⟨tabSl [(0, .c (.arr 0 0)), (1, .i (K + (r.name.flatten.length : Int) + 1 + 1 + (cntRs r.rrs : Int) + 1 + 1)), (5, .i i)], upd F 0 ⟨0, (7 * i + 7), .arr true (encS (L.set i ⟨markss r.name (K), (K + (r.name.flatten.length : Int)), (K + (r.name.flatten.length : Int) + 1), markRs r.rrs (K + (r.name.flatten.length : Int) + 1 + 1), (K + (r.name.flatten.length : Int) + 1 + 1 + (cntRs r.rrs : Int)), (K + (r.name.flatten.length : Int) + 1 + 1 + (cntRs r.rrs : Int) + 1), (K + (r.name.flatten.length : Int) + 1 + 1 + (cntRs r.rrs : Int) + 1 + 1)⟩))⟩, []⟩) (.tab ?_ ⟨.refl _, .refl _, .refl _, trivial⟩) ?_
    · refine Eq.trans ?_ (upd_upd _ _ _ _).symm
      refine congrArg (upd _ _) ?_
      show _ = Ob.mk _ _ (OK.arr _ (setRow (encS (L.set i ⟨markss r.name (K), (K + (r.name.flatten.length : Int)), (K + (r.name.flatten.length : Int) + 1), markRs r.rrs (K + (r.name.flatten.length : Int) + 1 + 1), (K + (r.name.flatten.length : Int) + 1 + 1 + (cntRs r.rrs : Int)), (K + (r.name.flatten.length : Int) + 1 + 1 + (cntRs r.rrs : Int) + 1), r.used⟩)) i 6 _))
      rw [setRow_encLS 7 Slot.cells L i 6 ⟨markss r.name (K), (K + (r.name.flatten.length : Int)), (K + (r.name.flatten.length : Int) + 1), markRs r.rrs (K + (r.name.flatten.length : Int) + 1 + 1), (K + (r.name.flatten.length : Int) + 1 + 1 + (cntRs r.rrs : Int)), (K + (r.name.flatten.length : Int) + 1 + 1 + (cntRs r.rrs : Int) + 1), r.used⟩ ⟨markss r.name (K), (K + (r.name.flatten.length : Int)), (K + (r.name.flatten.length : Int) + 1), markRs r.rrs (K + (r.name.flatten.length : Int) + 1 + 1), (K + (r.name.flatten.length : Int) + 1 + 1 + (cntRs r.rrs : Int)), (K + (r.name.flatten.length : Int) + 1 + 1 + (cntRs r.rrs : Int) + 1), (K + (r.name.flatten.length : Int) + 1 + 1 + (cntRs r.rrs : Int) + 1 + 1)⟩ _ hiL rfl]
      try rfl
    refine Kc ?_
    refine Ka Y (kAdd Y Y om (Ka Y (Kd (Kv ?_))))
    rw [hfin _ (by rw [← hr, ← hK]; rfl)]
    refine Kc (Ka Y (kAdd Y Y om (Ka Y (Kd (kInv ?_)))))
    refine ⟨⟨i + 1, hlt⟩, by simp only; omega, .tab rfl ⟨.refl _, ?_, .refl _, trivial⟩⟩
    refine Eq.mp (congrArg (fun z => WkV _ (.i z)) ?_) (.refl _)
    show _ = k + ((cntL cntS (l.take (i + 1)) : Nat) : Int)
    omega
  · refine Kb (Kbc (Ka Y (Ka Y (kLen Y Y Y (Kj Y Y Y (Kd ?_))))))
    rw [len_encL, hlen']
    refine kCond Y (fun h1 => by exfalso; simp at h1; omega) (fun h1 => ?_)
    refine kExit (kExC (kExI (kExB ?_)))
    obtain rfl : i = l.length := by omega
    refine Kbc (Ka Y (Ka Y (Kd (Kr ?_))))
    subst hF
    refine endRet (ra := [.one (.d _)]) rfl ⟨⟨⟨rfl, .inl rfl⟩, trivial⟩, .nil, ⟨rfl, fun _ => rfl, rfl⟩, trivial, trivial⟩ ?_
    refine ⟨by simp, ?_⟩
    show encS (markL cntS markS (l.take l.length) k ++ l.drop l.length) = _
    simp

def c_laws_markCache : C := (.g (.o 0 2 (.box 2 (.t 0)) (.o 1 4 (.mov (.i 0)) .done)) (.g (.o 0 5 (.fad (.t 2) 2) (.o 1 6 (.load none (.t 5)) (.o 2 7 (.mov (.t 1)) (.o 3 8 (.call 8 95 [(.t 6), (.t 7)]) (.o 4 1 (.mov (.t 8)) .done))))) (.g (.o 0 9 (.mov (.t 1)) (.o 1 4 (.mov (.t 9)) .done)) .ret)))
theorem dg_laws_markCache : Tryz.f27.body.bind (digC Tryz.prog Tryz.f27.ntmps []) = some c_laws_markCache := by kernel_rfl
theorem rs_laws_markCache : resSlots Tryz.prog Tryz.f27 = some [.s 4] := by kernel_rfl
theorem ok_laws_markCache (a : Cache) (k : Int) (h0 : 0 ≤ k) (hk : k + cntSs a.slots ≤ 9223372036854775807) (hs : SmallSs a.slots) :
    FnOK Tryz.prog 27 [.agg [.d (.sc (.int .i64 a.now)), .d (.sc (.int .i64 a.turn)), .arr false true (encS a.slots)], .one (.d (.sc (.int .i64 k)))] (fun ra os => ra = [.one (.d (.sc (.int .i64 (k + cntSs a.slots))))] ∧ outsAre [(2, encS (markSs a.slots k))] os) := by
  refine FnOK.ofK Tryz.func27 (by kernel_rfl) dg_laws_markCache rs_laws_markCache rfl rfl ?_
  delta c_laws_markCache T.o X.i C.g
  refine Kbc (kBox Y Y Y Y Y (Ka Y (Kdb (Kc (Kf Y Y (Ke Y Y Y (Ka Y (kCallA (ok_laws_markSlotS _ _ prx prx prx) ⟨⟨_, rfl, .inl rfl⟩, rfl, trivial⟩ Y Y Y Y (Ka Y (Kdb (Kc (Ka Y (Ka Y (Kd (Kr (Er (ra := [.one (.d _)]) rfl ?_))))))))))))))))
  exact ⟨rfl, rfl, trivial⟩

def c_laws_markName : C := (.g (.o 0 2 (.box 2 (.t 0)) (.o 1 4 (.mov (.i 0)) .done)) (.g (.o 0 5 (.fad (.t 2) 0) (.o 1 6 (.load none (.t 5)) (.o 2 7 (.mov (.t 1)) (.o 3 8 (.call 8 96 [(.t 6), (.t 7)]) (.o 4 1 (.mov (.t 8)) .done))))) (.g (.o 0 9 (.mov (.t 1)) (.o 1 4 (.mov (.t 9)) .done)) .ret)))
theorem dg_laws_markName : Tryz.f28.body.bind (digC Tryz.prog Tryz.f28.ntmps []) = some c_laws_markName := by kernel_rfl
theorem rs_laws_markName : resSlots Tryz.prog Tryz.f28 = some [.s 4] := by kernel_rfl
theorem ok_laws_markName (a : List (List UInt8)) (k : Int) (h0 : 0 ≤ k) (hk : k + a.flatten.length ≤ 9223372036854775807) (hl : a.length ≤ 4194304) :
    FnOK Tryz.prog 28 [.agg [.arr false true (encBB a)], .one (.d (.sc (.int .i64 k)))] (fun ra os => ra = [.one (.d (.sc (.int .i64 (k + a.flatten.length))))] ∧ os.a 0 = encBB (markss a k)) := by
  refine FnOK.ofK Tryz.func28 (by kernel_rfl) dg_laws_markName rs_laws_markName rfl rfl ?_
  delta c_laws_markName T.o X.i C.g
  refine Kbc (kBox Y Y Y Y Y (Ka Y (Kdb (Kc (Kf Y Y (Ke Y Y Y (Ka Y ?_)))))))
  refine kCall false (ok_laws_markByteSS a k h0 hk hl) ⟨⟨_, rfl, .inl rfl⟩, rfl, trivial⟩ rfl nofun (by rintro ra os ⟨rfl, _⟩; exact leb) ?_
  rintro ra os ⟨rfl, ho⟩
  refine Ka Y (Kdb (Kc (Ka Y (Ka Y (Kd ?_)))))
  refine Kr (endRet (ra := [.one (.d _)]) rfl ?_ ⟨rfl, ho⟩)
  (repeat' first | exact trivial | exact rfl | exact .inl rfl | exact nodupB_sound rfl | exact .inl (Nat.zero_lt_succ _) | exact fun _ => rfl | exact leb | exact ⟨_, rfl, fun _ => rfl⟩ | refine ⟨?_, ?_⟩ | fail)
  rw [show os.a (aid 0 0) = _ from ho]
  rfl

def c_laws_heldByteS : C := (.g (.o 0 4 (.mov (.i 0)) .done) (.seq (.g (.o 0 5 (.mov (.i 0)) .done) (.block 0 (.loop (.seq (.g (.o 0 6 (.mov (.t 5)) (.o 1 7 (.mov (.t 0)) (.o 2 8 (.len (.t 7)) (.o 3 9 (.bin .lss (.t 6) (.t 8)) .done)))) (.cond (.t 9) .skip (.exit 0))) (.seq (.block 1 (.seq (.g (.o 0 12 (.mov (.t 0)) (.o 1 13 (.mov (.t 5)) (.o 2 14 (.iad 1 (.t 12) (.t 13)) (.o 3 15 (.load none (.t 14)) (.o 4 16 (.mov (.t 1)) (.o 5 17 (.conv .u8 (.t 16)) (.o 6 18 (.bin .neq (.t 15) (.t 17)) .done))))))) (.cond (.t 18) (.g (.o 0 4 (.mov (.i (-1))) .done) .ret) .skip)) (.reg false (.o 0 19 (.mov (.t 1)) (.o 1 20 (.bin .add (.t 19) (.i 1)) (.o 2 1 (.mov (.t 20)) .done)))))) (.reg false (.o 0 10 (.mov (.t 5)) (.o 1 11 (.bin .add (.t 10) (.i 1)) (.o 2 5 (.mov (.t 11)) .done))))))))) (.g (.o 0 21 (.mov (.t 1)) (.o 1 4 (.mov (.t 21)) .done)) .ret)))
theorem dg_laws_heldByteS : Tryz.f101.body.bind (digC Tryz.prog Tryz.f101.ntmps []) = some c_laws_heldByteS := by kernel_rfl
theorem rs_laws_heldByteS : resSlots Tryz.prog Tryz.f101 = some [.s 4] := by kernel_rfl
theorem ok_laws_heldByteS (n : Nat) (k : Int) (h0 : 0 ≤ k) (hk : k + n ≤ 9223372036854775807) :
    FnOK Tryz.prog 101 [.one (.d (encB (marks n k))), .one (.d (.sc (.int .i64 k)))] (fun ra _ => ra = [.one (.d (.sc (.int .i64 (k + n))))]) := by
  refine FnOK.ofK Tryz.func101 (by kernel_rfl) dg_laws_heldByteS rs_laws_heldByteS rfl rfl ?_
  delta c_laws_heldByteS T.o X.i C.g
  have hm := marks_len n k
  refine Kbc (Ka Y (Kdb (Kbc (Ka Y (Kd (Kt ?_))))))
  refine kLoop (α := { i : Nat // i ≤ n })
    (fun y => ⟨tabSl [(0, .dv (encB (marks n k))), (1, .i (k + y.1)), (5, .i y.1)], obTab 1 [], []⟩) (fun y => n - y.1) ⟨0, by simp⟩
    .normA ?_
  rintro ⟨i, hi⟩
  simp only
  refine Kb (Kbc (Ka Y (Ka Y (Kq Y Y (Kj Y Y Y (Kd (Km Y (fun g0 => Kn (Kb (Kt (Kb (Kbc (Ka Y (Ka Y (kIadR Y Y Y om (Ky Y Y (Ka Y (kConv Y (Kj Y Y Y (Kd (kCondN Y (fun g1 => Kbc (Ka Y (Kd (Kr (Er (ra := [.one (.d _)]) rfl ?_))))) (fun g1 => Kn (Kc (Ka Y (kAdd Y Y om (Ka Y (Kd (Kv (Kc (Ka Y (kAdd Y Y om (Ka Y (Kd ?_)))))))))))))))))))))))))) (fun g0 => kExit (kExC (kExI (kExB (Kbc (Ka Y (Ka Y (Kd (Kr (Er (ra := [.one (.d _)]) rfl ?_)))))))))))))))))
  · rw [marks_get, beq_self_eq_true] at g1; cases g1
  · exact kInv ⟨⟨i + 1, by omega⟩, by simp only; omega, .normA⟩
  · rw [show i = n by omega]

def c_laws_heldByteSS : C := (.g (.o 0 4 (.mov (.i 0)) .done) (.seq (.g (.o 0 5 (.mov (.i 0)) .done) (.block 0 (.loop (.seq (.g (.o 0 6 (.mov (.t 5)) (.o 1 7 (.mov (.t 0)) (.o 2 8 (.len (.t 7)) (.o 3 9 (.bin .lss (.t 6) (.t 8)) .done)))) (.cond (.t 9) .skip (.exit 0))) (.seq (.block 1 (.g (.o 0 12 (.mov (.t 0)) (.o 1 13 (.mov (.t 5)) (.o 2 14 (.iad 1 (.t 12) (.t 13)) (.o 3 15 (.load none (.t 14)) (.o 4 16 (.mov (.t 1)) (.o 5 17 (.call 17 101 [(.t 15), (.t 16)]) (.o 6 1 (.mov (.t 17)) .done))))))) (.g (.o 0 18 (.mov (.t 1)) (.o 1 19 (.bin .lss (.t 18) (.i 0)) .done)) (.cond (.t 19) (.g (.o 0 4 (.mov (.i (-1))) .done) .ret) .skip)))) (.reg false (.o 0 10 (.mov (.t 5)) (.o 1 11 (.bin .add (.t 10) (.i 1)) (.o 2 5 (.mov (.t 11)) .done))))))))) (.g (.o 0 20 (.mov (.t 1)) (.o 1 4 (.mov (.t 20)) .done)) .ret)))
theorem dg_laws_heldByteSS : Tryz.f100.body.bind (digC Tryz.prog Tryz.f100.ntmps []) = some c_laws_heldByteSS := by kernel_rfl
theorem rs_laws_heldByteSS : resSlots Tryz.prog Tryz.f100 = some [.s 4] := by kernel_rfl
theorem ok_laws_heldByteSS (a : List (List UInt8)) (k : Int) (h0 : 0 ≤ k) (hk : k + a.flatten.length ≤ 9223372036854775807) (hl : a.length ≤ 4194304) :
    FnOK Tryz.prog 100 [.one (.d (encBB (markss a k))), .one (.d (.sc (.int .i64 k)))] (fun ra _ => ra = [.one (.d (.sc (.int .i64 (k + a.flatten.length))))]) := by
  refine FnOK.ofK Tryz.func100 (by kernel_rfl) dg_laws_heldByteSS rs_laws_heldByteSS rfl rfl ?_
  delta c_laws_heldByteSS T.o X.i C.g
  have hm := markss_len a k
  refine Kbc (Ka Y (Kdb (Kbc (Ka Y (Kd (Kt ?_))))))
  refine kLoop (α := { i : Nat // i ≤ a.length })
    (fun y => ⟨tabSl [(0, .dv (encBB (markss a k))), (1, .i (k + (a.take y.1).flatten.length)), (5, .i y.1)], obTab 1 [], []⟩) (fun y => a.length - y.1) ⟨0, by simp⟩
    .normA ?_
  rintro ⟨i, hi⟩
  simp only
  have hsuc : ∀ h : i < a.length, (a.take (i + 1)).flatten.length = (a.take i).flatten.length + a[i].length := take_flat a i
  have hle := flat_le a i
  have hle2 := flat_le a (i + 1)
  refine Kb (Kbc (Ka Y (Ka Y (Kq Y Y (Kj Y Y Y (Kd (Km Y (fun g0 => Kn (Kb (Kt (Kbc (Ka Y (Ka Y (kIadR Y Y Y om (Ky Y Y (Ka Y ?_))))))))) (fun g0 => kExit (kExC (kExI (kExB (Kbc (Ka Y (Ka Y (Kd (Kr (Er (ra := [.one (.d _)]) rfl ?_)))))))))))))))))
  · have hlt : i < a.length := by omega
    have := hsuc hlt
    rw [markss_get a k i (by omega) hlt]
    refine Ku true (ok_laws_heldByteS a[i].length (k + (a.take i).flatten.length) om om) ⟨Y, Y, trivial⟩ Y Y Y (fun _ => ?_)
    refine Ka Y (Kdb (Kc (Ka Y (Kj Y Y Y (Kd (Km Y (fun g0 => Kbc (Ka Y (Kd (Kr (Er (ra := [.one (.d _)]) rfl ?_))))) (fun g0 => Kn (Kv (Kc (Ka Y (kAdd Y Y om (Ka Y (Kd ?_)))))))))))))
    · omega
    · exact kInv ⟨⟨i + 1, by omega⟩, by simp only; omega, .normA⟩
  · rw [show i = a.length by omega, List.take_length]

def c_laws_heldIntS : C := (.g (.o 0 4 (.mov (.i 0)) .done) (.seq (.g (.o 0 5 (.mov (.i 0)) .done) (.block 0 (.loop (.seq (.g (.o 0 6 (.mov (.t 5)) (.o 1 7 (.mov (.t 0)) (.o 2 8 (.len (.t 7)) (.o 3 9 (.bin .lss (.t 6) (.t 8)) .done)))) (.cond (.t 9) .skip (.exit 0))) (.seq (.block 1 (.seq (.g (.o 0 12 (.mov (.t 0)) (.o 1 13 (.mov (.t 5)) (.o 2 14 (.iad 1 (.t 12) (.t 13)) (.o 3 15 (.load none (.t 14)) (.o 4 16 (.mov (.t 1)) (.o 5 17 (.bin .neq (.t 15) (.t 16)) .done)))))) (.cond (.t 17) (.g (.o 0 4 (.mov (.i (-1))) .done) .ret) .skip)) (.reg false (.o 0 18 (.mov (.t 1)) (.o 1 19 (.bin .add (.t 18) (.i 1)) (.o 2 1 (.mov (.t 19)) .done)))))) (.reg false (.o 0 10 (.mov (.t 5)) (.o 1 11 (.bin .add (.t 10) (.i 1)) (.o 2 5 (.mov (.t 11)) .done))))))))) (.g (.o 0 20 (.mov (.t 1)) (.o 1 4 (.mov (.t 20)) .done)) .ret)))
theorem dg_laws_heldIntS : Tryz.f102.body.bind (digC Tryz.prog Tryz.f102.ntmps []) = some c_laws_heldIntS := by kernel_rfl
theorem rs_laws_heldIntS : resSlots Tryz.prog Tryz.f102 = some [.s 4] := by kernel_rfl
theorem ok_laws_heldIntS (n : Nat) (k : Int) (h0 : 0 ≤ k) (hk : k + n ≤ 9223372036854775807) :
    FnOK Tryz.prog 102 [.one (.d (encI (marksI n k))), .one (.d (.sc (.int .i64 k)))] (fun ra _ => ra = [.one (.d (.sc (.int .i64 (k + n))))]) := by
  refine FnOK.ofK Tryz.func102 (by kernel_rfl) dg_laws_heldIntS rs_laws_heldIntS rfl rfl ?_
  delta c_laws_heldIntS T.o X.i C.g
  have hm := marksI_len n k
  refine Kbc (Ka Y (Kdb (Kbc (Ka Y (Kd (Kt ?_))))))
  refine kLoop (α := { i : Nat // i ≤ n })
    (fun y => ⟨tabSl [(0, .dv (encI (marksI n k))), (1, .i (k + y.1)), (5, .i y.1)], obTab 1 [], []⟩) (fun y => n - y.1) ⟨0, by simp⟩
    .normA ?_
  rintro ⟨i, hi⟩
  simp only
  rcases Nat.lt_or_ge i n with hlt | hge
  · have hg := marksI_get n k i (by omega)
    refine Kb (Kbc (Ka Y (Ka Y (Kq Y Y (Kj Y Y Y (Kd (Km Y (fun g0 => Kn (Kb (Kt (Kb (Kbc (Ka Y (Ka Y (kIadR Y Y Y om (Ky Y Y (Ka Y (Kj Y Y Y (Kd (kCondIN Y (fun g1 => om) (fun g1 => Kn (Kc (Ka Y (kAdd Y Y om (Ka Y (Kd (Kv (Kc (Ka Y (kAdd Y Y om (Ka Y (Kd ?_))))))))))))))))))))))))) (fun g0 => om))))))))
    exact kInv ⟨⟨i + 1, by omega⟩, by simp only; omega, .normA⟩
  · refine Kb (Kbc (Ka Y (Ka Y (Kq Y Y (Kj Y Y Y (Kd (Km Y (fun g0 => om) (fun g0 => kExit (kExC (kExI (kExB (Kbc (Ka Y (Ka Y (Kd (Kr (Er (ra := [.one (.d _)]) rfl ?_)))))))))))))))))
    rw [show i = n by omega]

def c_laws_heldRrS : C := (.g (.o 0 4 (.mov (.i 0)) .done) (.seq (.g (.o 0 5 (.mov (.i 0)) .done) (.block 0 (.loop (.seq (.g (.o 0 6 (.mov (.t 5)) (.o 1 7 (.mov (.t 0)) (.o 2 8 (.len (.t 7)) (.o 3 9 (.bin .lss (.t 6) (.t 8)) .done)))) (.cond (.t 9) .skip (.exit 0))) (.seq (.block 1 (.g (.o 0 12 (.mov (.t 0)) (.o 1 13 (.mov (.t 5)) (.o 2 14 (.iad 7 (.t 12) (.t 13)) (.o 3 15 (.fad (.t 14) 0) (.o 4 16 (.fad (.t 15) 0) (.o 5 17 (.load none (.t 16)) (.o 6 18 (.mov (.t 1)) (.o 7 19 (.call 19 100 [(.t 17), (.t 18)]) (.o 8 1 (.mov (.t 19)) .done))))))))) (.seq (.g (.o 0 20 (.mov (.t 1)) (.o 1 21 (.bin .lss (.t 20) (.i 0)) .done)) (.cond (.t 21) (.g (.o 0 4 (.mov (.i (-1))) .done) .ret) .skip)) (.seq (.g (.o 0 22 (.mov (.t 0)) (.o 1 23 (.mov (.t 5)) (.o 2 24 (.iad 7 (.t 22) (.t 23)) (.o 3 25 (.fad (.t 24) 1) (.o 4 26 (.load none (.t 25)) (.o 5 27 (.mov (.t 1)) (.o 6 28 (.bin .neq (.t 26) (.t 27)) .done))))))) (.cond (.t 28) (.g (.o 0 4 (.mov (.i (-1))) .done) .ret) .skip)) (.g (.o 0 29 (.mov (.t 1)) (.o 1 30 (.bin .add (.t 29) (.i 1)) (.o 2 1 (.mov (.t 30)) .done))) (.seq (.g (.o 0 31 (.mov (.t 0)) (.o 1 32 (.mov (.t 5)) (.o 2 33 (.iad 7 (.t 31) (.t 32)) (.o 3 34 (.fad (.t 33) 2) (.o 4 35 (.load none (.t 34)) (.o 5 36 (.mov (.t 1)) (.o 6 37 (.bin .neq (.t 35) (.t 36)) .done))))))) (.cond (.t 37) (.g (.o 0 4 (.mov (.i (-1))) .done) .ret) .skip)) (.g (.o 0 38 (.mov (.t 1)) (.o 1 39 (.bin .add (.t 38) (.i 1)) (.o 2 1 (.mov (.t 39)) .done))) (.seq (.g (.o 0 40 (.mov (.t 0)) (.o 1 41 (.mov (.t 5)) (.o 2 42 (.iad 7 (.t 40) (.t 41)) (.o 3 43 (.fad (.t 42) 3) (.o 4 44 (.load none (.t 43)) (.o 5 45 (.mov (.t 1)) (.o 6 46 (.bin .neq (.t 44) (.t 45)) .done))))))) (.cond (.t 46) (.g (.o 0 4 (.mov (.i (-1))) .done) .ret) .skip)) (.g (.o 0 47 (.mov (.t 1)) (.o 1 48 (.bin .add (.t 47) (.i 1)) (.o 2 1 (.mov (.t 48)) .done))) (.g (.o 0 49 (.mov (.t 0)) (.o 1 50 (.mov (.t 5)) (.o 2 51 (.iad 7 (.t 49) (.t 50)) (.o 3 52 (.fad (.t 51) 4) (.o 4 53 (.fad (.t 52) 0) (.o 5 54 (.load none (.t 53)) (.o 6 55 (.mov (.t 1)) (.o 7 56 (.call 56 100 [(.t 54), (.t 55)]) (.o 8 1 (.mov (.t 56)) .done))))))))) (.seq (.g (.o 0 57 (.mov (.t 1)) (.o 1 58 (.bin .lss (.t 57) (.i 0)) .done)) (.cond (.t 58) (.g (.o 0 4 (.mov (.i (-1))) .done) .ret) .skip)) (.g (.o 0 59 (.mov (.t 0)) (.o 1 60 (.mov (.t 5)) (.o 2 61 (.iad 7 (.t 59) (.t 60)) (.o 3 62 (.fad (.t 61) 5) (.o 4 63 (.load none (.t 62)) (.o 5 64 (.mov (.t 1)) (.o 6 65 (.call 65 101 [(.t 63), (.t 64)]) (.o 7 1 (.mov (.t 65)) .done)))))))) (.seq (.g (.o 0 66 (.mov (.t 1)) (.o 1 67 (.bin .lss (.t 66) (.i 0)) .done)) (.cond (.t 67) (.g (.o 0 4 (.mov (.i (-1))) .done) .ret) .skip)) (.g (.o 0 68 (.mov (.t 0)) (.o 1 69 (.mov (.t 5)) (.o 2 70 (.iad 7 (.t 68) (.t 69)) (.o 3 71 (.fad (.t 70) 6) (.o 4 72 (.load none (.t 71)) (.o 5 73 (.mov (.t 1)) (.o 6 74 (.call 74 102 [(.t 72), (.t 73)]) (.o 7 1 (.mov (.t 74)) .done)))))))) (.g (.o 0 75 (.mov (.t 1)) (.o 1 76 (.bin .lss (.t 75) (.i 0)) .done)) (.cond (.t 76) (.g (.o 0 4 (.mov (.i (-1))) .done) .ret) .skip)))))))))))))))) (.reg false (.o 0 10 (.mov (.t 5)) (.o 1 11 (.bin .add (.t 10) (.i 1)) (.o 2 5 (.mov (.t 11)) .done))))))))) (.g (.o 0 77 (.mov (.t 1)) (.o 1 4 (.mov (.t 77)) .done)) .ret)))
theorem dg_laws_heldRrS : Tryz.f31.body.bind (digC Tryz.prog Tryz.f31.ntmps []) = some c_laws_heldRrS := by kernel_rfl
theorem rs_laws_heldRrS : resSlots Tryz.prog Tryz.f31 = some [.s 4] := by kernel_rfl
theorem ok_laws_heldRrS (l : List Rr) (k : Int) (h0 : 0 ≤ k) (hk : k + cntRs l ≤ 9223372036854775807) (hs : SmallRs l) :
    FnOK Tryz.prog 31 [.one (.d (encR (markRs l k))), .one (.d (.sc (.int .i64 k)))] (fun ra _ => ra = [.one (.d (.sc (.int .i64 (k + cntRs l))))]) := by
  refine FnOK.ofK Tryz.func31 (by kernel_rfl) dg_laws_heldRrS rs_laws_heldRrS rfl rfl ?_
  delta c_laws_heldRrS T.o X.i C.g
  have hm := markRs_len l k
  have h1 := hs.len
  refine Kbc (Ka Y (Kdb (Kbc (Ka Y (Kd (Kt ?_))))))
  refine kLoop (α := { i : Nat // i ≤ l.length }) (fun y => ⟨tabSl [(0, .dv (encR (markRs l k))), (1, .i (k + cntRs (l.take y.1))), (5, .i y.1)], obTab 1 [], []⟩) (fun y => l.length - y.1) ⟨0, by simp⟩ .normA ?_
  rintro ⟨i, hi⟩
  simp only
  have hle := cntRs_le l i
  have hle2 := cntRs_le l (i + 1)
  rcases Nat.lt_or_ge i l.length with hlt | hge
  · have hbi := hs.mem _ (List.getElem_mem hlt)
    have n1 := hbi.n.len
    have t1 := hbi.t.len
    have hsuc := cntRs_take l i hlt
    have hrow := markRs_get l k i (by omega) hlt
    have hc : cntR l[i] = cntBB l[i].name + 3 + cntBB l[i].to + l[i].text.length + l[i].nums.length := rfl
    have hcb : cntBB l[i].name = l[i].name.flatten.length := rfl
    have hct : cntBB l[i].to = l[i].to.flatten.length := rfl
    have e1 : (markR l[i] (k + ↑(cntRs (List.take i l)))).ty = k + (cntRs (l.take i) : Int) + (l[i].name.flatten.length : Int) := rfl
    have e2 : (markR l[i] (k + ↑(cntRs (List.take i l)))).ttl = k + (cntRs (l.take i) : Int) + (l[i].name.flatten.length : Int) + 1 := rfl
    have e3 : (markR l[i] (k + ↑(cntRs (List.take i l)))).addr = k + (cntRs (l.take i) : Int) + (l[i].name.flatten.length : Int) + 1 + 1 := rfl
    refine Kb (Kbc (Ka Y (Ka Y (Kq Y Y (Kj Y Y Y (Kd (Km Y (fun g0 => Kn (Kb (Kt (Kbc (Ka Y (Ka Y (kIadRW Y Y Y om hrow (kFadD Y (kFadD Y (Ky Y Y (Ka Y (Kp (ok_laws_heldByteSS _ _ pr pr pr) ⟨Y, Y, trivial⟩ Y Y Y Y Y (Ka Y (Kdb (Kbc (Ka Y (Kj Y Y Y (Kd (Km Y (fun g1 => om) (fun g1 => Kn (Kb (Kbc (Ka Y (Ka Y (kIadRW Y Y Y om hrow (kFadD Y (Ky Y Y (Ka Y (Kj Y Y Y (Kd (kCondIN Y (fun g2 => om) (fun g2 => Kn (Kbc (Ka Y (kAdd Y Y om (Ka Y (Kdb (Kbc (Ka Y (Ka Y (kIadRW Y Y Y om hrow (kFadD Y (Ky Y Y (Ka Y (Kj Y Y Y (Kd (kCondIN Y (fun g3 => om) (fun g3 => Kn (Kbc (Ka Y (kAdd Y Y om (Ka Y (Kdb (Kbc (Ka Y (Ka Y (kIadRW Y Y Y om hrow (kFadD Y (Ky Y Y (Ka Y (Kj Y Y Y (Kd (kCondIN Y (fun g4 => om) (fun g4 => Kn (Kbc (Ka Y (kAdd Y Y om (Ka Y (Kdb (Kc (Ka Y (Ka Y (kIadRW Y Y Y om hrow (kFadD Y (kFadD Y (Ky Y Y (Ka Y (Kp (ok_laws_heldByteSS _ _ pr pr pr) ⟨Y, Y, trivial⟩ Y Y Y Y Y (Ka Y (Kdb (Kbc (Ka Y (Kj Y Y Y (Kd (Km Y (fun g5 => om) (fun g5 => Kn (Kbc (Ka Y (Ka Y (kIadRW Y Y Y om hrow (kFadD Y (Ky Y Y (Ka Y (Kp (ok_laws_heldByteS _ _ pr pr) ⟨Y, Y, trivial⟩ Y Y Y Y Y (Ka Y (Kdb (Kbc (Ka Y (Kj Y Y Y (Kd (Km Y (fun g6 => om) (fun g6 => Kn (Kbc (Ka Y (Ka Y (kIadRW Y Y Y om hrow (kFadD Y (Ky Y Y (Ka Y (Kp (ok_laws_heldIntS _ _ pr pr) ⟨Y, Y, trivial⟩ Y Y Y Y Y (Ka Y (Kdb (Kc (Ka Y (Kj Y Y Y (Kd (Km Y (fun g7 => om) (fun g7 => Kn (Kv (Kc (Ka Y (kAdd Y Y om (Ka Y (Kd ?_)))))))))))))))))))))))))))))))))))))))))))))))))))))))))))))))))))))))))))))))))))))))))))))))))))))))))))))))))))))))))))) (fun g0 => om))))))))
    exact kInv ⟨⟨i + 1, by omega⟩, by simp only; omega, .normA⟩
  · refine Kb (Kbc (Ka Y (Ka Y (Kq Y Y (Kj Y Y Y (Kd (Km Y (fun g0 => om) (fun g0 => kExit (kExC (kExI (kExB (Kbc (Ka Y (Ka Y (Kd (Kr (Er (ra := [.one (.d _)]) rfl ?_)))))))))))))))))
    rw [show i = l.length by omega, List.take_length]

def c_laws_heldSlotS : C := (.g (.o 0 4 (.mov (.i 0)) .done) (.seq (.g (.o 0 5 (.mov (.i 0)) .done) (.block 0 (.loop (.seq (.g (.o 0 6 (.mov (.t 5)) (.o 1 7 (.mov (.t 0)) (.o 2 8 (.len (.t 7)) (.o 3 9 (.bin .lss (.t 6) (.t 8)) .done)))) (.cond (.t 9) .skip (.exit 0))) (.seq (.block 1 (.g (.o 0 12 (.mov (.t 0)) (.o 1 13 (.mov (.t 5)) (.o 2 14 (.iad 7 (.t 12) (.t 13)) (.o 3 15 (.fad (.t 14) 0) (.o 4 16 (.fad (.t 15) 0) (.o 5 17 (.load none (.t 16)) (.o 6 18 (.mov (.t 1)) (.o 7 19 (.call 19 100 [(.t 17), (.t 18)]) (.o 8 1 (.mov (.t 19)) .done))))))))) (.seq (.g (.o 0 20 (.mov (.t 1)) (.o 1 21 (.bin .lss (.t 20) (.i 0)) .done)) (.cond (.t 21) (.g (.o 0 4 (.mov (.i (-1))) .done) .ret) .skip)) (.seq (.g (.o 0 22 (.mov (.t 0)) (.o 1 23 (.mov (.t 5)) (.o 2 24 (.iad 7 (.t 22) (.t 23)) (.o 3 25 (.fad (.t 24) 1) (.o 4 26 (.load none (.t 25)) (.o 5 27 (.mov (.t 1)) (.o 6 28 (.bin .neq (.t 26) (.t 27)) .done))))))) (.cond (.t 28) (.g (.o 0 4 (.mov (.i (-1))) .done) .ret) .skip)) (.g (.o 0 29 (.mov (.t 1)) (.o 1 30 (.bin .add (.t 29) (.i 1)) (.o 2 1 (.mov (.t 30)) .done))) (.seq (.g (.o 0 31 (.mov (.t 0)) (.o 1 32 (.mov (.t 5)) (.o 2 33 (.iad 7 (.t 31) (.t 32)) (.o 3 34 (.fad (.t 33) 2) (.o 4 35 (.load none (.t 34)) (.o 5 36 (.mov (.t 1)) (.o 6 37 (.bin .neq (.t 35) (.t 36)) .done))))))) (.cond (.t 37) (.g (.o 0 4 (.mov (.i (-1))) .done) .ret) .skip)) (.g (.o 0 38 (.mov (.t 1)) (.o 1 39 (.bin .add (.t 38) (.i 1)) (.o 2 1 (.mov (.t 39)) .done))) (.g (.o 0 40 (.mov (.t 0)) (.o 1 41 (.mov (.t 5)) (.o 2 42 (.iad 7 (.t 40) (.t 41)) (.o 3 43 (.fad (.t 42) 3) (.o 4 44 (.load none (.t 43)) (.o 5 45 (.mov (.t 1)) (.o 6 46 (.call 46 31 [(.t 44), (.t 45)]) (.o 7 1 (.mov (.t 46)) .done)))))))) (.seq (.g (.o 0 47 (.mov (.t 1)) (.o 1 48 (.bin .lss (.t 47) (.i 0)) .done)) (.cond (.t 48) (.g (.o 0 4 (.mov (.i (-1))) .done) .ret) .skip)) (.seq (.g (.o 0 49 (.mov (.t 0)) (.o 1 50 (.mov (.t 5)) (.o 2 51 (.iad 7 (.t 49) (.t 50)) (.o 3 52 (.fad (.t 51) 4) (.o 4 53 (.load none (.t 52)) (.o 5 54 (.mov (.t 1)) (.o 6 55 (.bin .neq (.t 53) (.t 54)) .done))))))) (.cond (.t 55) (.g (.o 0 4 (.mov (.i (-1))) .done) .ret) .skip)) (.g (.o 0 56 (.mov (.t 1)) (.o 1 57 (.bin .add (.t 56) (.i 1)) (.o 2 1 (.mov (.t 57)) .done))) (.seq (.g (.o 0 58 (.mov (.t 0)) (.o 1 59 (.mov (.t 5)) (.o 2 60 (.iad 7 (.t 58) (.t 59)) (.o 3 61 (.fad (.t 60) 5) (.o 4 62 (.load none (.t 61)) (.o 5 63 (.mov (.t 1)) (.o 6 64 (.bin .neq (.t 62) (.t 63)) .done))))))) (.cond (.t 64) (.g (.o 0 4 (.mov (.i (-1))) .done) .ret) .skip)) (.g (.o 0 65 (.mov (.t 1)) (.o 1 66 (.bin .add (.t 65) (.i 1)) (.o 2 1 (.mov (.t 66)) .done))) (.seq (.g (.o 0 67 (.mov (.t 0)) (.o 1 68 (.mov (.t 5)) (.o 2 69 (.iad 7 (.t 67) (.t 68)) (.o 3 70 (.fad (.t 69) 6) (.o 4 71 (.load none (.t 70)) (.o 5 72 (.mov (.t 1)) (.o 6 73 (.bin .neq (.t 71) (.t 72)) .done))))))) (.cond (.t 73) (.g (.o 0 4 (.mov (.i (-1))) .done) .ret) .skip)) (.reg false (.o 0 74 (.mov (.t 1)) (.o 1 75 (.bin .add (.t 74) (.i 1)) (.o 2 1 (.mov (.t 75)) .done)))))))))))))))))) (.reg false (.o 0 10 (.mov (.t 5)) (.o 1 11 (.bin .add (.t 10) (.i 1)) (.o 2 5 (.mov (.t 11)) .done))))))))) (.g (.o 0 76 (.mov (.t 1)) (.o 1 4 (.mov (.t 76)) .done)) .ret)))
theorem dg_laws_heldSlotS : Tryz.f99.body.bind (digC Tryz.prog Tryz.f99.ntmps []) = some c_laws_heldSlotS := by kernel_rfl
theorem rs_laws_heldSlotS : resSlots Tryz.prog Tryz.f99 = some [.s 4] := by kernel_rfl
theorem ok_laws_heldSlotS (l : List (Slot)) (k : Int) (h0 : 0 ≤ k) (hk : k + cntL cntS l ≤ 9223372036854775807) (hs : SmallSs l) :
    FnOK Tryz.prog 99 [.one (.d (encS (markL cntS markS l k))), .one (.d (.sc (.int .i64 k)))] (fun ra _ => ra = [.one (.d (.sc (.int .i64 (k + cntL cntS l))))]) := by
  refine FnOK.ofK Tryz.func99 (by kernel_rfl) dg_laws_heldSlotS rs_laws_heldSlotS rfl rfl ?_
  delta c_laws_heldSlotS T.o X.i C.g
  have hm := markL_len cntS markS l k
  have h1 := hs.len
  refine Kbc (Ka Y (Kdb (Kbc (Ka Y (Kd (Kt ?_))))))
  refine kLoop (α := { i : Nat // i ≤ l.length }) (fun y => ⟨tabSl [(0, .dv (encS (markL cntS markS l k))), (1, .i (k + cntL cntS (l.take y.1))), (5, .i y.1)], obTab 1 [], []⟩) (fun y => l.length - y.1) ⟨0, by simp⟩ .normA ?_
  rintro ⟨i, hi⟩
  simp only
  have hle := cntL_le cntS l i
  have hle2 := cntL_le cntS l (i + 1)
  rcases Nat.lt_or_ge i l.length with hlt | hge
  · have hbi := hs.mem _ (List.getElem_mem hlt)
    have n1 := hbi.n.len
    have n2 := hbi.n.mem
    have r1 := hbi.r
    have hsuc := cntL_take cntS l i hlt
    have hrow := markL_get cntS markS l k i (by omega) hlt
    have hc : cntS l[i] = l[i].name.flatten.length + 5 + cntRs l[i].rrs := rfl
    have hb0 : cntBB l[i].name = l[i].name.flatten.length := rfl
    have e1 : (markS l[i] (k + ↑(cntL cntS (List.take i l)))).ty = k + (cntL cntS (l.take i) : Int) + (l[i].name.flatten.length : Int) := rfl
    have e2 : (markS l[i] (k + ↑(cntL cntS (List.take i l)))).kind = k + (cntL cntS (l.take i) : Int) + (l[i].name.flatten.length : Int) + 1 := rfl
    have e3 : (markS l[i] (k + ↑(cntL cntS (List.take i l)))).rank = k + (cntL cntS (l.take i) : Int) + (l[i].name.flatten.length : Int) + 1 + 1 + (cntRs l[i].rrs : Int) := rfl
    have e4 : (markS l[i] (k + ↑(cntL cntS (List.take i l)))).til = k + (cntL cntS (l.take i) : Int) + (l[i].name.flatten.length : Int) + 1 + 1 + (cntRs l[i].rrs : Int) + 1 := rfl
    have e5 : (markS l[i] (k + ↑(cntL cntS (List.take i l)))).used = k + (cntL cntS (l.take i) : Int) + (l[i].name.flatten.length : Int) + 1 + 1 + (cntRs l[i].rrs : Int) + 1 + 1 := rfl
    refine Kb (Kbc (Ka Y (Ka Y (Kq Y Y (Kj Y Y Y (Kd (Km Y (fun g0 => Kn (Kb (Kt (Kbc (Ka Y (Ka Y (kIadRW Y Y Y prl hrow (kFadD Y (kFadD Y (Ky Y Y (Ka Y (Kp (ok_laws_heldByteSS _ _ prx prx prx) ⟨Y, Y, trivial⟩ Y Y Y Y Y (Ka Y (Kdb (Kbc (Ka Y (Kj Y Y Y (Kd (Km Y (fun g1 => om) (fun g1 => Kn (Kb (Kbc (Ka Y (Ka Y (kIadRW Y Y Y prl hrow (kFadD Y (Ky Y Y (Ka Y (Kj Y Y Y (Kd (kCondIN Y (fun g2 => om) (fun g2 => Kn (Kbc (Ka Y (kAdd Y Y om (Ka Y (Kdb (Kbc (Ka Y (Ka Y (kIadRW Y Y Y prl hrow (kFadD Y (Ky Y Y (Ka Y (Kj Y Y Y (Kd (kCondIN Y (fun g3 => om) (fun g3 => Kn (Kbc (Ka Y (kAdd Y Y om (Ka Y (Kdb (Kc (Ka Y (Ka Y (kIadRW Y Y Y prl hrow (kFadD Y (Ky Y Y (Ka Y (Kp (ok_laws_heldRrS _ _ prx prx prx) ⟨Y, Y, trivial⟩ Y Y Y Y Y (Ka Y (Kdb (Kbc (Ka Y (Kj Y Y Y (Kd (Km Y (fun g4 => om) (fun g4 => Kn (Kb (Kbc (Ka Y (Ka Y (kIadRW Y Y Y prl hrow (kFadD Y (Ky Y Y (Ka Y (Kj Y Y Y (Kd (kCondIN Y (fun g5 => om) (fun g5 => Kn (Kbc (Ka Y (kAdd Y Y om (Ka Y (Kdb (Kbc (Ka Y (Ka Y (kIadRW Y Y Y prl hrow (kFadD Y (Ky Y Y (Ka Y (Kj Y Y Y (Kd (kCondIN Y (fun g6 => om) (fun g6 => Kn (Kbc (Ka Y (kAdd Y Y om (Ka Y (Kdb (Kbc (Ka Y (Ka Y (kIadRW Y Y Y prl hrow (kFadD Y (Ky Y Y (Ka Y (Kj Y Y Y (Kd (kCondIN Y (fun g7 => om) (fun g7 => Kn (Kc (Ka Y (kAdd Y Y om (Ka Y (Kd (Kv (Kc (Ka Y (kAdd Y Y om (Ka Y (Kd ?_)))))))))))))))))))))))))))))))))))))))))))))))))))))))))))))))))))))))))))))))))))))))))))))))))))))))))))))))))))))))))))) (fun g0 => om))))))))
    exact kInv ⟨⟨i + 1, by omega⟩, by simp only; omega, .normA⟩
  · refine Kb (Kbc (Ka Y (Ka Y (Kq Y Y (Kj Y Y Y (Kd (Km Y (fun g0 => om) (fun g0 => kExit (kExC (kExI (kExB (Kbc (Ka Y (Ka Y (Kd (Kr (Er (ra := [.one (.d _)]) rfl ?_)))))))))))))))))
    rw [show i = l.length by omega, List.take_length]

def c_laws_heldCache : C := (.g (.o 0 2 (.box 2 (.t 0)) (.o 1 4 (.mov (.i 0)) .done)) (.g (.o 0 5 (.fad (.t 2) 2) (.o 1 6 (.load none (.t 5)) (.o 2 7 (.mov (.t 1)) (.o 3 8 (.call 8 99 [(.t 6), (.t 7)]) (.o 4 1 (.mov (.t 8)) .done))))) (.seq (.g (.o 0 9 (.mov (.t 1)) (.o 1 10 (.bin .lss (.t 9) (.i 0)) .done)) (.cond (.t 10) (.g (.o 0 4 (.mov (.i (-1))) .done) .ret) .skip)) (.g (.o 0 11 (.mov (.t 1)) (.o 1 4 (.mov (.t 11)) .done)) .ret))))
theorem dg_laws_heldCache : Tryz.f30.body.bind (digC Tryz.prog Tryz.f30.ntmps []) = some c_laws_heldCache := by kernel_rfl
theorem rs_laws_heldCache : resSlots Tryz.prog Tryz.f30 = some [.s 4] := by kernel_rfl
theorem ok_laws_heldCache (a : Cache) (k : Int) (h0 : 0 ≤ k) (hk : k + cntSs a.slots ≤ 9223372036854775807) (hs : SmallSs a.slots) :
    FnOK Tryz.prog 30 [.agg [.d (.sc (.int .i64 a.now)), .d (.sc (.int .i64 a.turn)), .d (encS (markSs a.slots k))], .one (.d (.sc (.int .i64 k)))] (fun ra _ => ra = [.one (.d (.sc (.int .i64 (k + cntSs a.slots))))]) := by
  refine FnOK.ofK Tryz.func30 (by kernel_rfl) dg_laws_heldCache rs_laws_heldCache rfl rfl ?_
  delta c_laws_heldCache T.o X.i C.g
  refine Kbc (kBox Y Y Y Y Y (Ka Y (Kdb (Kc (Kf Y Y (Ke Y Y Y (Ka Y (Kp (ok_laws_heldSlotS _ _ prx prx prx) ⟨Y, Y, trivial⟩ Y Y Y Y Y (Ka Y (Kdb (Kbc (Ka Y (Kj Y Y Y (Kd (Km Y (fun g0 => om) (fun g0 => Kn (Kbc (Ka Y (Ka Y (Kd (Kr (Er (ra := [.one (.d _)]) rfl rfl))))))))))))))))))))))

theorem cut_cnt {m : Int} {r : Rr} : cntR (cutTtl m r) = cntR r := by unfold cutTtl; split <;> rfl
theorem cut_cnts {m : Int} : ∀ l : List Rr, cntRs (l.map (cutTtl m)) = cntRs l
  | [] => rfl
  | r :: l => by simp only [List.map_cons, cntRs, cut_cnt, cut_cnts l]
theorem cntL_set {α : Type} {c : α → Nat} : ∀ {l : List α} {i : Nat} (h : i < l.length) {y : α}, c y = c l[i] → cntL c (l.set i y) = cntL c l
  | x :: l, 0, _, y, e => by simp only [List.set_cons_zero, cntL]; rw [e]; rfl
  | x :: l, i + 1, h, y, e => by
    simp only [List.set_cons_succ, cntL]
    rw [cntL_set (l := l) (i := i) (by simpa using h) (by simpa using e)]
theorem cg_cnt {c : Cache} {n : List (List UInt8)} {t : Int} : cntSs (cgC c n t).slots ≤ cntSs c.slots ∧ cntRs (cgL c n t) ≤ cntSs c.slots := by
  unfold cgC cgL
  split
  · rcases findS_cases c.slots n t with e | ⟨i, hi, e⟩
    · unfold getC getL; rw [e]; exact ⟨Nat.le_refl _, Nat.zero_le _⟩
    · unfold getC getL
      rw [slotAt_eq hi e, e, if_neg (show ¬ ((i : Int) < 0) by omega), if_neg (show ¬ ((i : Int) < 0) by omega), Int.toNat_natCast, cut_cnts]
      refine ⟨?_, ?_⟩
      · split
        · exact Nat.le_of_eq (cntL_set hi rfl)
        · exact Nat.le_refl _
      · have h1 := cntL_mem (c := cntS) (List.getElem_mem hi)
        have : cntRs c.slots[i].rrs ≤ cntS c.slots[i] := by unfold cntS; omega
        exact Nat.le_trans this h1
  · exact ⟨Nat.zero_le _, Nat.zero_le _⟩
def c_laws_FnExactCacheGet : C := (.g (.o 0 3 (.box 3 (.t 0)) (.o 1 4 (.box 4 (.t 1)) (.o 2 6 (.mov (.v (.bool false))) .done))) (.g (.o 0 7 (.mov (.i 1048576)) .done) (.g (.o 0 22 (.load (some 3) (.t 3)) (.o 1 23 (.mov (.t 7)) (.o 2 24 (.call 24 18 [(.t 22), (.t 23)]) (.o 3 7 (.mov (.t 24)) .done)))) (.seq (.g (.o 0 25 (.mov (.t 7)) (.o 1 26 (.bin .lss (.t 25) (.i 0)) .done)) (.cond (.t 26) (.g (.o 0 6 (.mov (.v (.bool true))) .done) .ret) .skip)) (.g (.o 0 27 (.load (some 1) (.t 4)) (.o 1 28 (.mov (.t 7)) (.o 2 29 (.call 29 19 [(.t 27), (.t 28)]) (.o 3 7 (.mov (.t 29)) .done)))) (.seq (.g (.o 0 30 (.mov (.t 7)) (.o 1 31 (.bin .lss (.t 30) (.i 0)) .done)) (.cond (.t 31) (.g (.o 0 6 (.mov (.v (.bool true))) .done) .ret) .skip)) (.seq (.reg true (.op 0 [] (some 33) none true (.load (some 3) (.t 3)) (.op 2 [] (some 35) none true (.load (some 1) (.t 4)) (.op 4 [] (some 37) none true (.mov (.t 2)) (.alt (.op 1 [0] (some 34) none false (.call 34 21 [(.t 33)]) (.alt (.op 3 [2, 0] (some 36) none false (.call 36 22 [(.t 35)]) (.alt (.op 5 [0, 2] (some 38) none false (.call 38 20 [(.t 34), (.t 36), (.t 37)]) (.op 6 [] (some 32) none true (.mov (.t 38)) (.op 7 [] (some 39) none true (.ext (.t 32) 0) (.op 8 [] (some 40) none true (.ext (.t 32) 1) (.op 9 [] (some 41) none true (.ext (.t 32) 2) (.o 10 8 (.alloc 8 [(.i 0), (.i 0), (.n 7)]) (.op 11 [0, 2] none none false (.store (some 3) (.t 8) (.t 39)) (.op 12 [] (some 9) none true (.mov (.t 40)) (.op 13 [] (some 10) none true (.mov (.t 41)) .done))))))))) (.o 10 8 (.alloc 8 [(.i 0), (.i 0), (.n 7)]) (.op 5 [0, 2] (some 38) none false (.call 38 20 [(.t 34), (.t 36), (.t 37)]) (.op 6 [] (some 32) none true (.mov (.t 38)) (.op 7 [] (some 39) none true (.ext (.t 32) 0) (.op 8 [] (some 40) none true (.ext (.t 32) 1) (.op 9 [] (some 41) none true (.ext (.t 32) 2) (.op 11 [0, 2] none none false (.store (some 3) (.t 8) (.t 39)) (.op 12 [] (some 9) none true (.mov (.t 40)) (.op 13 [] (some 10) none true (.mov (.t 41)) .done))))))))))) (.o 10 8 (.alloc 8 [(.i 0), (.i 0), (.n 7)]) (.op 3 [2, 0] (some 36) none false (.call 36 22 [(.t 35)]) (.op 5 [0, 2] (some 38) none false (.call 38 20 [(.t 34), (.t 36), (.t 37)]) (.op 6 [] (some 32) none true (.mov (.t 38)) (.op 7 [] (some 39) none true (.ext (.t 32) 0) (.op 8 [] (some 40) none true (.ext (.t 32) 1) (.op 9 [] (some 41) none true (.ext (.t 32) 2) (.op 11 [0, 2] none none false (.store (some 3) (.t 8) (.t 39)) (.op 12 [] (some 9) none true (.mov (.t 40)) (.op 13 [] (some 10) none true (.mov (.t 41)) .done)))))))))))) (.o 10 8 (.alloc 8 [(.i 0), (.i 0), (.n 7)]) (.op 1 [0] (some 34) none false (.call 34 21 [(.t 33)]) (.op 3 [2, 0] (some 36) none false (.call 36 22 [(.t 35)]) (.op 5 [0, 2] (some 38) none false (.call 38 20 [(.t 34), (.t 36), (.t 37)]) (.op 6 [] (some 32) none true (.mov (.t 38)) (.op 7 [] (some 39) none true (.ext (.t 32) 0) (.op 8 [] (some 40) none true (.ext (.t 32) 1) (.op 9 [] (some 41) none true (.ext (.t 32) 2) (.op 11 [0, 2] none none false (.store (some 3) (.t 8) (.t 39)) (.op 12 [] (some 9) none true (.mov (.t 40)) (.op 13 [] (some 10) none true (.mov (.t 41)) .done)))))))))))))))) (.g (.o 0 42 (.load (some 3) (.t 3)) (.o 1 43 (.call 43 21 [(.t 42)]) (.o 2 11 (.alloc 11 [(.i 0), (.i 0), (.n 7)]) (.op 3 [] none none false (.store (some 3) (.t 11) (.t 43)) .done)))) (.g (.o 0 44 (.load (some 1) (.t 4)) (.o 1 45 (.call 45 22 [(.t 44)]) (.o 2 12 (.alloc 12 [(.n 1)]) (.op 3 [] none none false (.store (some 1) (.t 12) (.t 45)) .done)))) (.g (.o 0 47 (.load (some 3) (.t 11)) (.o 1 48 (.load (some 1) (.t 12)) (.o 2 49 (.mov (.t 2)) (.o 3 50 (.call 50 23 [(.t 47), (.t 48), (.t 49)]) (.o 4 46 (.mov (.t 50)) (.o 5 51 (.ext (.t 46) 0) (.o 6 52 (.ext (.t 46) 1) (.o 7 53 (.ext (.t 46) 2) (.o 8 13 (.alloc 13 [(.i 0), (.i 0), (.n 7)]) (.op 9 [] none none false (.store (some 3) (.t 13) (.t 51)) (.o 10 14 (.mov (.t 52)) (.o 11 15 (.mov (.t 53)) .done)))))))))))) (.seq (.g (.o 0 54 (.load (some 3) (.t 13)) (.o 1 55 (.load (some 3) (.t 8)) (.o 2 56 (.call 56 24 [(.t 54), (.t 55)]) (.o 3 57 (.un .not (.t 56)) (.o 4 58 (.mov (.t 57)) (.op 5 [] (some 59) (some (58, false)) false (.mov (.t 14)) (.op 6 [] (some 60) (some (58, false)) false (.mov (.t 9)) (.op 7 [] (some 61) (some (58, false)) false (.call 61 25 [(.t 59), (.t 60)]) (.op 8 [] (some 62) (some (58, false)) false (.un .not (.t 61)) (.o 9 63 (.pick (.t 58) (.v (.bool true)) (.t 62)) (.o 10 64 (.mov (.t 63)) (.op 11 [] (some 65) (some (64, false)) false (.mov (.t 15)) (.op 12 [] (some 66) (some (64, false)) false (.mov (.t 10)) (.op 13 [] (some 67) (some (64, false)) false (.bin .neq (.t 65) (.t 66)) (.o 14 68 (.pick (.t 64) (.v (.bool true)) (.t 67)) .done))))))))))))))) (.cond (.t 68) (.g (.o 0 6 (.mov (.v (.bool false))) .done) .ret) .skip)) (.seq (.seq (.reg true (.op 0 [] (some 69) none true (.load (some 3) (.t 11)) (.op 1 [] (some 70) none true (.load (some 3) (.t 3)) (.op 2 [1] (some 71) none false (.call 71 21 [(.t 70)]) (.op 3 [0, 1] (some 72) none false (.call 72 24 [(.t 69), (.t 71)]) (.op 4 [] (some 73) none true (.un .not (.t 72)) .done)))))) (.cond (.t 73) (.g (.o 0 6 (.mov (.v (.bool false))) .done) .ret) .skip)) (.seq (.seq (.reg true (.op 0 [] (some 74) none true (.load (some 1) (.t 12)) (.op 1 [] (some 75) none true (.load (some 1) (.t 4)) (.op 2 [1] (some 76) none false (.call 76 22 [(.t 75)]) (.op 3 [0, 1] (some 77) none false (.call 77 26 [(.t 74), (.t 76)]) (.op 4 [] (some 78) none true (.un .not (.t 77)) .done)))))) (.cond (.t 78) (.g (.o 0 6 (.mov (.v (.bool false))) .done) .ret) .skip)) (.g (.o 0 16 (.mov (.i 1)) .done) (.g (.o 0 79 (.load (some 3) (.t 11)) (.o 1 80 (.mov (.t 16)) (.o 2 81 (.call 81 27 [(.t 79), (.t 80)]) (.o 3 16 (.mov (.t 81)) .done)))) (.g (.o 0 82 (.load (some 1) (.t 12)) (.o 1 83 (.mov (.t 16)) (.o 2 84 (.call 84 28 [(.t 82), (.t 83)]) (.o 3 16 (.mov (.t 84)) .done)))) (.seq (.g (.o 0 85 (.mov (.t 16)) (.o 1 86 (.bin .lss (.t 85) (.i 0)) (.o 2 87 (.mov (.t 86)) (.op 3 [] (some 88) (some (87, false)) false (.load (some 3) (.t 13)) (.op 4 [] (some 89) (some (87, false)) false (.load (some 3) (.t 8)) (.op 5 [] (some 90) (some (87, false)) false (.call 90 24 [(.t 88), (.t 89)]) (.op 6 [] (some 91) (some (87, false)) false (.un .not (.t 90)) (.o 7 92 (.pick (.t 87) (.v (.bool true)) (.t 91)) (.o 8 93 (.mov (.t 92)) (.op 9 [] (some 94) (some (93, false)) false (.mov (.t 14)) (.op 10 [] (some 95) (some (93, false)) false (.mov (.t 9)) (.op 11 [] (some 96) (some (93, false)) false (.call 96 25 [(.t 94), (.t 95)]) (.op 12 [] (some 97) (some (93, false)) false (.un .not (.t 96)) (.o 13 98 (.pick (.t 93) (.v (.bool true)) (.t 97)) (.o 14 99 (.mov (.t 98)) (.op 15 [] (some 100) (some (99, false)) false (.mov (.t 15)) (.op 16 [] (some 101) (some (99, false)) false (.mov (.t 10)) (.op 17 [] (some 102) (some (99, false)) false (.bin .neq (.t 100) (.t 101)) (.o 18 103 (.pick (.t 99) (.v (.bool true)) (.t 102)) .done))))))))))))))))))) (.cond (.t 103) (.g (.o 0 6 (.mov (.v (.bool false))) .done) .ret) .skip)) (.g (.o 0 17 (.mov (.i 1)) .done) (.g (.o 0 104 (.load (some 3) (.t 13)) (.o 1 105 (.mov (.t 17)) (.o 2 106 (.call 106 27 [(.t 104), (.t 105)]) (.o 3 17 (.mov (.t 106)) .done)))) (.g (.o 0 107 (.mov (.t 14)) (.o 1 108 (.mov (.t 17)) (.o 2 109 (.call 109 29 [(.t 107), (.t 108)]) (.o 3 17 (.mov (.t 109)) .done)))) (.g (.o 0 18 (.mov (.i 1)) .done) (.g (.o 0 110 (.load (some 3) (.t 13)) (.o 1 111 (.mov (.t 18)) (.o 2 112 (.call 112 30 [(.t 110), (.t 111)]) (.o 3 18 (.mov (.t 112)) .done)))) (.seq (.g (.o 0 113 (.mov (.t 18)) (.o 1 114 (.bin .lss (.t 113) (.i 0)) .done)) (.cond (.t 114) (.g (.o 0 6 (.mov (.v (.bool false))) .done) .ret) .skip)) (.g (.o 0 115 (.mov (.t 14)) (.o 1 116 (.mov (.t 18)) (.o 2 117 (.call 117 31 [(.t 115), (.t 116)]) (.o 3 18 (.mov (.t 117)) .done)))) (.seq (.g (.o 0 118 (.mov (.t 18)) (.o 1 119 (.bin .lss (.t 118) (.i 0)) .done)) (.cond (.t 119) (.g (.o 0 6 (.mov (.v (.bool false))) .done) .ret) .skip)) (.seq (.g (.o 0 120 (.mov (.t 18)) (.o 1 121 (.mov (.t 17)) (.o 2 122 (.bin .neq (.t 120) (.t 121)) .done))) (.cond (.t 122) (.g (.o 0 6 (.mov (.v (.bool false))) .done) .ret) .skip)) (.seq (.reg true (.op 0 [] (some 124) none true (.load (some 3) (.t 3)) (.op 2 [] (some 126) none true (.load (some 1) (.t 4)) (.op 4 [] (some 128) none true (.mov (.t 2)) (.alt (.op 1 [0] (some 125) none false (.call 125 21 [(.t 124)]) (.alt (.op 3 [2, 0] (some 127) none false (.call 127 22 [(.t 126)]) (.alt (.op 5 [0, 2] (some 129) none false (.call 129 23 [(.t 125), (.t 127), (.t 128)]) (.op 6 [] (some 123) none true (.mov (.t 129)) (.op 7 [] (some 130) none true (.ext (.t 123) 0) (.op 8 [] (some 131) none true (.ext (.t 123) 1) (.op 9 [] (some 132) none true (.ext (.t 123) 2) (.o 10 19 (.alloc 19 [(.i 0), (.i 0), (.n 7)]) (.op 11 [0, 2] none none false (.store (some 3) (.t 19) (.t 130)) (.op 12 [] (some 20) none true (.mov (.t 131)) (.op 13 [] (some 21) none true (.mov (.t 132)) .done))))))))) (.o 10 19 (.alloc 19 [(.i 0), (.i 0), (.n 7)]) (.op 5 [0, 2] (some 129) none false (.call 129 23 [(.t 125), (.t 127), (.t 128)]) (.op 6 [] (some 123) none true (.mov (.t 129)) (.op 7 [] (some 130) none true (.ext (.t 123) 0) (.op 8 [] (some 131) none true (.ext (.t 123) 1) (.op 9 [] (some 132) none true (.ext (.t 123) 2) (.op 11 [0, 2] none none false (.store (some 3) (.t 19) (.t 130)) (.op 12 [] (some 20) none true (.mov (.t 131)) (.op 13 [] (some 21) none true (.mov (.t 132)) .done))))))))))) (.o 10 19 (.alloc 19 [(.i 0), (.i 0), (.n 7)]) (.op 3 [2, 0] (some 127) none false (.call 127 22 [(.t 126)]) (.op 5 [0, 2] (some 129) none false (.call 129 23 [(.t 125), (.t 127), (.t 128)]) (.op 6 [] (some 123) none true (.mov (.t 129)) (.op 7 [] (some 130) none true (.ext (.t 123) 0) (.op 8 [] (some 131) none true (.ext (.t 123) 1) (.op 9 [] (some 132) none true (.ext (.t 123) 2) (.op 11 [0, 2] none none false (.store (some 3) (.t 19) (.t 130)) (.op 12 [] (some 20) none true (.mov (.t 131)) (.op 13 [] (some 21) none true (.mov (.t 132)) .done)))))))))))) (.o 10 19 (.alloc 19 [(.i 0), (.i 0), (.n 7)]) (.op 1 [0] (some 125) none false (.call 125 21 [(.t 124)]) (.op 3 [2, 0] (some 127) none false (.call 127 22 [(.t 126)]) (.op 5 [0, 2] (some 129) none false (.call 129 23 [(.t 125), (.t 127), (.t 128)]) (.op 6 [] (some 123) none true (.mov (.t 129)) (.op 7 [] (some 130) none true (.ext (.t 123) 0) (.op 8 [] (some 131) none true (.ext (.t 123) 1) (.op 9 [] (some 132) none true (.ext (.t 123) 2) (.op 11 [0, 2] none none false (.store (some 3) (.t 19) (.t 130)) (.op 12 [] (some 20) none true (.mov (.t 131)) (.op 13 [] (some 21) none true (.mov (.t 132)) .done)))))))))))))))) (.seq (.g (.o 0 133 (.load (some 3) (.t 19)) (.o 1 134 (.load (some 3) (.t 8)) (.o 2 135 (.call 135 24 [(.t 133), (.t 134)]) (.o 3 136 (.un .not (.t 135)) (.o 4 137 (.mov (.t 136)) (.op 5 [] (some 138) (some (137, false)) false (.mov (.t 20)) (.op 6 [] (some 139) (some (137, false)) false (.mov (.t 9)) (.op 7 [] (some 140) (some (137, false)) false (.call 140 25 [(.t 138), (.t 139)]) (.op 8 [] (some 141) (some (137, false)) false (.un .not (.t 140)) (.o 9 142 (.pick (.t 137) (.v (.bool true)) (.t 141)) (.o 10 143 (.mov (.t 142)) (.op 11 [] (some 144) (some (143, false)) false (.mov (.t 21)) (.op 12 [] (some 145) (some (143, false)) false (.mov (.t 10)) (.op 13 [] (some 146) (some (143, false)) false (.bin .neq (.t 144) (.t 145)) (.o 14 147 (.pick (.t 143) (.v (.bool true)) (.t 146)) .done))))))))))))))) (.cond (.t 147) (.g (.o 0 6 (.mov (.v (.bool false))) .done) .ret) .skip)) (.g (.o 0 18 (.mov (.i 1)) .done) (.g (.o 0 148 (.load (some 3) (.t 13)) (.o 1 149 (.mov (.t 18)) (.o 2 150 (.call 150 30 [(.t 148), (.t 149)]) (.o 3 18 (.mov (.t 150)) .done)))) (.seq (.g (.o 0 151 (.mov (.t 18)) (.o 1 152 (.bin .lss (.t 151) (.i 0)) .done)) (.cond (.t 152) (.g (.o 0 6 (.mov (.v (.bool false))) .done) .ret) .skip)) (.g (.o 0 153 (.mov (.t 14)) (.o 1 154 (.mov (.t 18)) (.o 2 155 (.call 155 31 [(.t 153), (.t 154)]) (.o 3 18 (.mov (.t 155)) .done)))) (.seq (.g (.o 0 156 (.mov (.t 18)) (.o 1 157 (.bin .lss (.t 156) (.i 0)) .done)) (.cond (.t 157) (.g (.o 0 6 (.mov (.v (.bool false))) .done) .ret) .skip)) (.seq (.g (.o 0 158 (.mov (.t 18)) (.o 1 159 (.mov (.t 17)) (.o 2 160 (.bin .neq (.t 158) (.t 159)) .done))) (.cond (.t 160) (.g (.o 0 6 (.mov (.v (.bool false))) .done) .ret) .skip)) (.g (.o 0 6 (.mov (.v (.bool true))) .done) .ret)))))))))))))))))))))))))))))))))))
theorem dg_laws_FnExactCacheGet : Tryz.f4.body.bind (digC Tryz.prog Tryz.f4.ntmps []) = some c_laws_FnExactCacheGet := by kernel_rfl
theorem rs_laws_FnExactCacheGet : resSlots Tryz.prog Tryz.f4 = some [.s 6] := by kernel_rfl
theorem ok_laws_FnExactCacheGet (c : Cache) (n : List (List UInt8)) (t : Int) (hb : BigSs c.slots) (hn : BigBB n) :
    FnOK Tryz.prog 4 [.agg (c.cells.map .d), .agg [.d (encBB n)], .one (.d (.sc (.int .i64 t)))] (fun ra _ => ra = [.one (.d (.sc (.bool true)))]) := by
  refine FnOK.ofK Tryz.func4 (by kernel_rfl) dg_laws_FnExactCacheGet rs_laws_FnExactCacheGet rfl rfl ?_
  delta c_laws_FnExactCacheGet T.o X.i C.g
  have q1 := hn.len
  have q2 := hn.mem
  have hstop := trivial
  refine Kbc (kBox Y Y Y Y Y (kBox Y Y Y Y Y (Ka Y (Kdb (Kc (Ka Y (Kdb (Kc (Ke Y Y Y (Ka Y (Kp (ok_laws_szCache _ _ prx prx prx) ⟨⟨⟨Y, Y, Y, trivial⟩, leb⟩, rfl, trivial⟩ Y Y Y Y Y (Ka Y (Kdb (Kbc (Ka Y (Kj Y Y Y (Kd (Km Y (fun g0 => Kbc (Ka Y (Kd (Kr (Er (ra := [.one (.d _)]) rfl rfl))))) (fun g0 => Kn (Kbc (kMem [(20480, ⟨1, 0, .box [.d _]⟩)] [(4, .c (.ptr 20480 1 0)), (7, .c (.d _)), (27, .c (.un)), (28, .c (.un)), (29, .c (.un))] [] ⟨Y, trivial⟩ ⟨Y, Y, Y, Y, Y, trivial⟩ Y (Ke Y Y Y (Ka Y (Kp (ok_laws_szName _ _ prx prx prx prx) ⟨⟨⟨Y, trivial⟩, leb⟩, rfl, trivial⟩ Y Y Y Y Y (Ka Y (Kdb (Kbc (Ka Y (Kj Y Y Y (Kd (Km Y (fun g1 => Kbc (Ka Y (Kd (Kr (Er (ra := [.one (.d _)]) rfl rfl))))) (fun g1 => Kn (Kb ?_)))))))))))))))))))))))))))))))))
  clear hstop
  have c1 := szOut_ok g0
  rw [szOut_add g0] at g1
  have c2 := szOut_ok g1
  have hs : SmallSs c.slots := .ofCost (by omega)
  have hns : SmallBB n := .ofCost (by unfold costBB; omega)
  have hnl := hns.len
  have hnf := hns.flat
  have hnm := hns.mem
  have k1 : (cntSs c.slots : Int) ≤ 8388608 := by have := cntSs_cost c.slots; omega
  obtain ⟨k2, k3⟩ := cg_cnt (c := c) (n := n) (t := t)
  have k2 : (cntSs (cgC c n t).slots : Int) ≤ cntSs c.slots := Int.ofNat_le.2 k2
  have k3 : (cntRs (cgL c n t) : Int) ≤ cntSs c.slots := Int.ofNat_le.2 k3
  have hC : SmallSs (cgC c n t).slots := by
    unfold cgC; split
    · exact getC_small hs
    · exact .nil
  have hL : SmallRs (cgL c n t) := by
    unfold cgL; split
    · exact getL_small hs
    · exact ⟨Nat.zero_le _, nofun⟩
  have hLl := hL.len
  refine kCut ⟨tabSl [(2, .i t), (3, .c (.ptr (rid 3 0) 1 0)), (4, .c (.ptr (rid 4 0) 1 0)), (8, .c (.ptr (rid 8 0) 1 0)), (9, .dv (encR (cgL c n t))), (10, .i (cgK c n t))], obTab 1 [(rid 3 0, ⟨1, 0, .box (c.cells.map .d)⟩), (rid 4 0, ⟨1, 0, .box [.d (encBB n)]⟩), (rid 8 0, ⟨1, 0, .box [.d (.sc (.int .i64 (cgC c n t).now)), .d (.sc (.int .i64 (cgC c n t).turn)), .arr (rid 38 2) 1]⟩), (rid 38 2, ⟨1, 0, .arr true (encS (cgC c n t).slots)⟩)], []⟩ ?_ (fun x hc => ?_)
  case refine_2 =>
    refine kRegD (Ke Y Y Y (Ke Y Y Y (Ka Y (kAlt (Kx Y Y (Ku true (ok_laws_toCache _ prx) ⟨⟨⟨Y, Y, Y, trivial⟩, leb⟩, trivial⟩ Y Y Y (fun _ => (kMem [(143362, ⟨1, 0, .arr true _⟩)] [(35, .g [.d _]), (34, .g [.d _, .d _, .arr 143362 1]), (36, .c (.un)), (37, .c (.d _)), (38, .c (.un)), (32, .c (.un)), (8, .c (.un)), (39, .c (.un)), (40, .c (.un)), (41, .c (.un))] [20480, 16384] ⟨Y, trivial⟩ ⟨Y, Y, Y, Y, Y, Y, Y, Y, Y, Y, trivial⟩ Y (kAlt (Ks Y Y (Ku true (ok_laws_toName _ prx prx) ⟨⟨⟨Y, trivial⟩, leb⟩, trivial⟩ Y Y Y (fun _ => (kAlt (Ks Y Y ?_) (kAlloc Y Y (Ks Y Y ?_)))))) (kAlloc Y Y (Ks Y Y (Ku true (ok_laws_toName _ prx prx) ⟨⟨⟨Y, trivial⟩, leb⟩, trivial⟩ Y Y Y (fun _ => (Ks Y Y ?_)))))))))) (kAlloc Y Y (kMem [(36864, ⟨1, 0, .box [.d _, .d _, .nil 7]⟩)] [(33, .g [.d _, .d _, .d _]), (35, .g [.d _]), (34, .c (.un)), (36, .c (.un)), (37, .c (.d _)), (38, .c (.un)), (32, .c (.un)), (8, .c (.ptr 36864 1 0)), (39, .c (.un)), (40, .c (.un)), (41, .c (.un))] [20480, 16384] ⟨Y, trivial⟩ ⟨Y, Y, Y, Y, Y, Y, Y, Y, Y, Y, Y, trivial⟩ Y (Kx Y Y (Ku true (ok_laws_toCache _ prx) ⟨⟨⟨Y, Y, Y, trivial⟩, leb⟩, trivial⟩ Y Y Y (fun _ => (Ks Y Y (Ku true (ok_laws_toName _ prx prx) ⟨⟨⟨Y, trivial⟩, leb⟩, trivial⟩ Y Y Y (fun _ => (Ks Y Y ?_)))))))))))))
    · refine kCallF [rid 34 2, rid 36 0] false (ok_spec_CacheGet c n t hs hns) rfl ⟨⟨⟨Y, Y, Y, trivial⟩, leb⟩, ⟨⟨Y, trivial⟩, leb⟩, rfl, trivial⟩ Y Y Y (fun _ => ?_)
      refine kMovT Y (kExtC Y Y (kExtC Y Y (kExtC Y Y (kAlloc Y Y (kMem [(36864, ⟨1, 0, .box [.d _, .d _, .nil 7]⟩), (159746, ⟨1, 0, .arr true _⟩)] [(8, .c (.ptr 36864 1 0)), (39, .g [.d _, .d _, .arr 159746 1]), (40, .c (.d _)), (41, .c (.d _))] [] ⟨Y, Y, trivial⟩ ⟨Y, Y, Y, Y, trivial⟩ Y (Ks Y Y (Ko Y Y Y Y (Ka Y (Ka Y (Kd (kH (kMem [(16384, ⟨1, 0, .box [.d _, .d _, .d _]⟩), (20480, ⟨1, 0, .box [.d _]⟩), (36864, ⟨1, 0, .box [.d _, .d _, .arr 159746 1]⟩), (159746, ⟨1, 0, .arr true _⟩)] [(2, .c (.d _)), (3, .c (.ptr 16384 1 0)), (4, .c (.ptr 20480 1 0)), (8, .c (.ptr 36864 1 0)), (9, .c (.d _)), (10, .c (.d _))] [] ⟨Y, Y, Y, Y, trivial⟩ ⟨Y, Y, Y, Y, Y, Y, trivial⟩ Y (hc _ .normA)))))))))))))
    · refine kCallF [rid 34 2, rid 36 0] false (ok_spec_CacheGet c n t hs hns) rfl ⟨⟨⟨Y, Y, Y, trivial⟩, leb⟩, ⟨⟨Y, trivial⟩, leb⟩, rfl, trivial⟩ Y Y Y (fun _ => ?_)
      refine kMovT Y (kExtC Y Y (kExtC Y Y (kExtC Y Y (kMem [(36864, ⟨1, 0, .box [.d _, .d _, .nil 7]⟩), (159746, ⟨1, 0, .arr true _⟩)] [(8, .c (.ptr 36864 1 0)), (39, .g [.d _, .d _, .arr 159746 1]), (40, .c (.d _)), (41, .c (.d _))] [] ⟨Y, Y, trivial⟩ ⟨Y, Y, Y, Y, trivial⟩ Y (Ks Y Y (Ko Y Y Y Y (Ka Y (Ka Y (Kd (kH (kMem [(16384, ⟨1, 0, .box [.d _, .d _, .d _]⟩), (20480, ⟨1, 0, .box [.d _]⟩), (36864, ⟨1, 0, .box [.d _, .d _, .arr 159746 1]⟩), (159746, ⟨1, 0, .arr true _⟩)] [(2, .c (.d _)), (3, .c (.ptr 16384 1 0)), (4, .c (.ptr 20480 1 0)), (8, .c (.ptr 36864 1 0)), (9, .c (.d _)), (10, .c (.d _))] [] ⟨Y, Y, Y, Y, trivial⟩ ⟨Y, Y, Y, Y, Y, Y, trivial⟩ Y (hc _ .normA))))))))))))
    · refine kCallF [rid 34 2, rid 36 0] false (ok_spec_CacheGet c n t hs hns) rfl ⟨⟨⟨Y, Y, Y, trivial⟩, leb⟩, ⟨⟨Y, trivial⟩, leb⟩, rfl, trivial⟩ Y Y Y (fun _ => ?_)
      refine kMovT Y (kExtC Y Y (kExtC Y Y (kExtC Y Y (kMem [(36864, ⟨1, 0, .box [.d _, .d _, .nil 7]⟩), (159746, ⟨1, 0, .arr true _⟩)] [(8, .c (.ptr 36864 1 0)), (39, .g [.d _, .d _, .arr 159746 1]), (40, .c (.d _)), (41, .c (.d _))] [] ⟨Y, Y, trivial⟩ ⟨Y, Y, Y, Y, trivial⟩ Y (Ks Y Y (Ko Y Y Y Y (Ka Y (Ka Y (Kd (kH (kMem [(16384, ⟨1, 0, .box [.d _, .d _, .d _]⟩), (20480, ⟨1, 0, .box [.d _]⟩), (36864, ⟨1, 0, .box [.d _, .d _, .arr 159746 1]⟩), (159746, ⟨1, 0, .arr true _⟩)] [(2, .c (.d _)), (3, .c (.ptr 16384 1 0)), (4, .c (.ptr 20480 1 0)), (8, .c (.ptr 36864 1 0)), (9, .c (.d _)), (10, .c (.d _))] [] ⟨Y, Y, Y, Y, trivial⟩ ⟨Y, Y, Y, Y, Y, Y, trivial⟩ Y (hc _ .normA))))))))))))
    · refine kCallF [rid 34 2, rid 36 0] false (ok_spec_CacheGet c n t hs hns) rfl ⟨⟨⟨Y, Y, Y, trivial⟩, leb⟩, ⟨⟨Y, trivial⟩, leb⟩, rfl, trivial⟩ Y Y Y (fun _ => ?_)
      refine kMovT Y (kExtC Y Y (kExtC Y Y (kExtC Y Y (kMem [(36864, ⟨1, 0, .box [.d _, .d _, .nil 7]⟩), (159746, ⟨1, 0, .arr true _⟩)] [(8, .c (.ptr 36864 1 0)), (39, .g [.d _, .d _, .arr 159746 1]), (40, .c (.d _)), (41, .c (.d _))] [] ⟨Y, Y, trivial⟩ ⟨Y, Y, Y, Y, trivial⟩ Y (Ks Y Y (Ko Y Y Y Y (Ka Y (Ka Y (Kd (kH (kMem [(16384, ⟨1, 0, .box [.d _, .d _, .d _]⟩), (20480, ⟨1, 0, .box [.d _]⟩), (36864, ⟨1, 0, .box [.d _, .d _, .arr 159746 1]⟩), (159746, ⟨1, 0, .arr true _⟩)] [(2, .c (.d _)), (3, .c (.ptr 16384 1 0)), (4, .c (.ptr 20480 1 0)), (8, .c (.ptr 36864 1 0)), (9, .c (.d _)), (10, .c (.d _))] [] ⟨Y, Y, Y, Y, trivial⟩ ⟨Y, Y, Y, Y, Y, Y, trivial⟩ Y (hc _ .normA))))))))))))
  have hstop := trivial
  refine Kbc (Ke Y Y Y (Ku true (ok_laws_toCache _ prx) ⟨⟨⟨Y, Y, Y, trivial⟩, leb⟩, trivial⟩ Y Y Y (fun _ => (kAlloc Y Y (kMem [(49152, ⟨2, 0, .box [.d _, .d _, .nil 7]⟩), (180226, ⟨2, 0, .arr true _⟩)] [(11, .c (.ptr 49152 2 0)), (43, .g [.d _, .d _, .arr 180226 2])] [] ⟨Y, Y, trivial⟩ ⟨Y, Y, trivial⟩ Y (Ko Y Y Y Y (Kdb (Kc (Ke Y Y Y (Ku true (ok_laws_toName _ prx prx) ⟨⟨⟨Y, trivial⟩, leb⟩, trivial⟩ Y Y Y (fun _ => (kAlloc Y Y (Ko Y Y Y Y (Kdb (Kc (Ke Y Y Y (kMem [(53248, ⟨2, 0, .box [.arr 188416 2]⟩), (180226, ⟨2, 0, .arr true _⟩), (188416, ⟨2, 0, .arr true _⟩)] [(12, .c (.ptr 53248 2 0)), (2, .c (.d _)), (47, .g [.d _, .d _, .arr 180226 2])] [] ⟨Y, Y, Y, trivial⟩ ⟨Y, Y, Y, trivial⟩ Y (Ke Y Y Y (Ka Y (Ku true (ok_impl_CacheGet _ _ _ prx prx) ⟨⟨⟨Y, Y, Y, trivial⟩, leb⟩, ⟨⟨Y, trivial⟩, leb⟩, rfl, trivial⟩ Y Y Y (fun _ => (kMovT Y (kExtC Y Y (kExtC Y Y (kExtC Y Y (kAlloc Y Y (kMem [(57344, ⟨2, 0, .box [.d _, .d _, .nil 7]⟩), (208898, ⟨2, 0, .arr true _⟩), (208960, ⟨2, 0, .arr true _⟩)] [(13, .c (.ptr 57344 2 0)), (51, .g [.d _, .d _, .arr 208898 2]), (52, .c (.arr 208960 2)), (53, .c (.d _))] [] ⟨Y, Y, Y, trivial⟩ ⟨Y, Y, Y, Y, trivial⟩ Y (Ko Y Y Y Y (Ka Y (Ka Y (Kdb (Kbc (Ke Y Y Y (Ke Y Y Y (Kp (ok_laws_eqCache _ _ prx) ⟨⟨⟨Y, Y, Y, trivial⟩, leb⟩, ⟨⟨Y, Y, Y, trivial⟩, leb⟩, trivial⟩ Y Y Y Y Y (Kw Y Y (Ka Y (kGN Y (fun g0 => (by (simp at g0))) (fun g0 => kMem [(208960, ⟨2, 0, .arr true _⟩)] [(14, .c (.arr 208960 2)), (9, .c (.d _)), (58, .c (.d _)), (15, .c (.d _)), (10, .c (.d _))] [] ⟨Y, trivial⟩ ⟨Y, Y, Y, Y, Y, trivial⟩ Y (Ki Y (Ka Y (Ki Y (Ka Y (Ki Y (Kp (ok_laws_eqRrS _ _ prx) ⟨Y, Y, trivial⟩ Y Y Y Y Y (Ki Y (Kw Y Y (Kl Y (Ka Y (Ka Y (kGN Y (fun g1 => (by (simp at g1))) (fun g1 => Ki Y (Ka Y (Ki Y (Ka Y (Ki Y (Kj Y Y Y (Kl Y (Ka Y (Kd (kCondIN Y (fun g2 => om) (fun g2 => Kn (Kb (Kb (kRegD (Ke Y Y Y (kMem [(16384, ⟨1, 0, .box [.d _, .d _, .d _]⟩), (180226, ⟨2, 0, .arr true _⟩)] [(3, .c (.ptr 16384 1 0)), (69, .g [.d _, .d _, .arr 180226 2])] [49152] ⟨Y, Y, trivial⟩ ⟨Y, Y, trivial⟩ Y (Ke Y Y Y (Kx Y Y (Ku true (ok_laws_toCache _ prx) ⟨⟨⟨Y, Y, Y, trivial⟩, leb⟩, trivial⟩ Y Y Y (fun _ => (Ks Y Y (Kp (ok_laws_eqCache _ _ prx) ⟨⟨⟨Y, Y, Y, trivial⟩, leb⟩, ⟨⟨Y, Y, Y, trivial⟩, leb⟩, trivial⟩ Y Y Y Y Y (Kw Y Y (Kd (kH (kCondN Y (fun g3 => (by (simp at g3))) (fun g3 => Kn (Kb (Kb (kRegD (Ke Y Y Y (Ke Y Y Y (Kx Y Y (Ku true (ok_laws_toName _ prx prx) ⟨⟨⟨Y, trivial⟩, leb⟩, trivial⟩ Y Y Y (fun _ => (Ks Y Y (Kp (ok_laws_eqName _ _ prx prx) ⟨⟨⟨Y, trivial⟩, leb⟩, ⟨⟨Y, trivial⟩, leb⟩, trivial⟩ Y Y Y Y Y (Kw Y Y (Kd (kH (kCondN Y (fun g4 => (by (simp at g4))) (fun g4 => Kn (Kbc (Ka Y (Kdb (Kc (Ke Y Y Y (Ka Y (kCallM (ok_laws_markCache _ _ prx prx prx) ⟨⟨⟨rfl, rfl, ⟨_, rfl, .inl rfl⟩, trivial⟩, leb⟩, rfl, trivial⟩ Y Y Y (Ka Y (Kdb (Kc (Ke Y Y Y (Ka Y (kCallA (ok_laws_markName _ _ prx prx prx) ⟨⟨⟨⟨_, rfl, .inl rfl⟩, trivial⟩, leb⟩, rfl, trivial⟩ Y Y Y Y (Ka Y (Kdb (Kbc (kMem [(57344, ⟨2, 0, .box [.d _, .d _, .arr 208898 2]⟩), (36864, ⟨1, 0, .box [.d _, .d _, .arr 159746 1]⟩), (208960, ⟨2, 0, .arr true _⟩), (208898, ⟨2, 0, .arr true _⟩), (159746, ⟨1, 0, .arr true _⟩)] [(16, .c (.d _)), (13, .c (.ptr 57344 2 0)), (8, .c (.ptr 36864 1 0)), (14, .c (.arr 208960 2)), (9, .c (.d _)), (15, .c (.d _)), (10, .c (.d _))] [] ⟨Y, Y, Y, Y, Y, trivial⟩ ⟨Y, Y, Y, Y, Y, Y, Y, trivial⟩ Y (Ka Y (Kj Y Y Y (Ka Y (Ki Y (Ke Y Y Y (Ki Y (Ke Y Y Y (Ki Y (Kp (ok_laws_eqCache _ _ prx) ⟨⟨⟨Y, Y, Y, trivial⟩, leb⟩, ⟨⟨Y, Y, Y, trivial⟩, leb⟩, trivial⟩ Y Y Y Y Y (Ki Y (Kw Y Y (Kl Y (Ka Y (Ka Y (kGN Y (fun g5 => (by (simp at g5))) (fun g5 => kMem [(208960, ⟨2, 0, .arr true _⟩)] [(14, .c (.arr 208960 2)), (9, .c (.d _)), (93, .c (.d _)), (15, .c (.d _)), (10, .c (.d _))] [] ⟨Y, trivial⟩ ⟨Y, Y, Y, Y, Y, trivial⟩ Y (Ki Y (Ka Y (Ki Y (Ka Y (Ki Y (Kp (ok_laws_eqRrS _ _ prx) ⟨Y, Y, trivial⟩ Y Y Y Y Y (Ki Y (Kw Y Y (Kl Y (Ka Y (Ka Y (kGN Y (fun g6 => (by (simp at g6))) (fun g6 => Ki Y (Ka Y (Ki Y (Ka Y (Ki Y (Kj Y Y Y (Kl Y (Ka Y (Kd (kCondIN Y (fun g7 => om) (fun g7 => Kn (Kbc (Ka Y (Kdb (Kc (kMem [(57344, ⟨2, 0, .box [.d _, .d _, .arr 208898 2]⟩), (208898, ⟨2, 0, .arr true _⟩)] [(13, .c (.ptr 57344 2 0)), (17, .c (.d _))] [] ⟨Y, Y, trivial⟩ ⟨Y, Y, trivial⟩ Y (Ke Y Y Y (Ka Y (kCallM (ok_laws_markCache _ _ prx prx prx) ⟨⟨⟨rfl, rfl, ⟨_, rfl, .inl rfl⟩, trivial⟩, leb⟩, rfl, trivial⟩ Y Y Y (Ka Y (Kdb (Kc (Ka Y (Ka Y (kCallA (ok_laws_markRrS _ _ prx prx prx) ⟨⟨_, rfl, .inl rfl⟩, rfl, trivial⟩ Y Y Y Y (Ka Y (Kdb (Kc (Ka Y (Kdb (Kc (kMem [(57344, ⟨2, 0, .box [.d _, .d _, .arr 208898 2]⟩), (208898, ⟨2, 1, .arr true _⟩)] [(13, .c (.ptr 57344 2 0)), (18, .c (.d _))] [] ⟨Y, Y, trivial⟩ ⟨Y, Y, trivial⟩ Y (Ke Y Y Y (Ka Y (Kp (ok_laws_heldCache _ _ prx prx prx) ⟨⟨⟨Y, Y, Y, trivial⟩, leb⟩, rfl, trivial⟩ Y Y Y Y Y (Ka Y (Kdb (Kbc (Ka Y (Kj Y Y Y (Kd (kCondF Y (Kn (Kbc (Ka Y (Ka Y (Kp (ok_laws_heldRrS _ _ prx prx prx) ⟨Y, Y, trivial⟩ Y Y Y Y Y (Ka Y (Kdb (Kbc (Ka Y (Kj Y Y Y (Kd (kCondF Y (Kn (Kb (Kbc (Ka Y (Ka Y (Kj Y Y Y (Kd (kCondIN Y (fun g8 => om) (fun g8 => Kn (Kb ?_))))))))))))))))))))))))))))))))))))))))))))))))))))))))))))))))))))))))))))))))))))))))))))))))))))))))))))))))))))))))))))))))))))))))))))))))))))))))))))))))))))))))))))))))))))))))))))))))))))))))))
  clear hstop
  refine kCut ⟨tabSl [(8, .c (.ptr (rid 8 0) 1 0)), (9, .dv (encR (cgL c n t))), (10, .i (cgK c n t)), (13, .c (.ptr (rid 13 0) 1 0)), (14, .c (.arr (rid 50 64) 1)), (17, .i (1 + cntSs (cgC c n t).slots + cntRs (cgL c n t))), (19, .c (.ptr (rid 19 0) 1 0)), (20, .c (.arr (rid 129 64) 1)), (21, .i (cgK c n t))], obTab 1 [(rid 8 0, ⟨1, 0, .box [.d (.sc (.int .i64 (cgC c n t).now)), .d (.sc (.int .i64 (cgC c n t).turn)), .arr (rid 38 2) 1]⟩), (rid 38 2, ⟨1, 0, .arr true (encS (cgC c n t).slots)⟩), (rid 13 0, ⟨1, 0, .box [.d (.sc (.int .i64 (cgC c n t).now)), .d (.sc (.int .i64 (cgC c n t).turn)), .arr (rid 50 2) 1]⟩), (rid 50 2, ⟨1, 0, .arr true (encS (markSs (cgC c n t).slots 1))⟩), (rid 50 64, ⟨1, 0, .arr true (encR (markRs (cgL c n t) (1 + cntSs (cgC c n t).slots)))⟩), (rid 19 0, ⟨1, 0, .box [.d (.sc (.int .i64 (cgC c n t).now)), .d (.sc (.int .i64 (cgC c n t).turn)), .arr (rid 129 2) 1]⟩), (rid 129 2, ⟨1, 0, .arr true (encS (cgC c n t).slots)⟩), (rid 129 64, ⟨1, 0, .arr true (encR (cgL c n t))⟩)], []⟩ ?_ (fun x hc => ?_)
  case refine_2 => refine kRegD (kMem [(16384, ⟨1, 0, .box [.d _, .d _, .d _]⟩), (20480, ⟨1, 0, .box [.d _]⟩)] [(3, .c (.ptr 16384 1 0)), (4, .c (.ptr 20480 1 0)), (2, .c (.d _))] [] ⟨rfl, rfl, trivial⟩ ⟨rfl, rfl, rfl, trivial⟩ rfl (kLoadP rfl rfl rfl (kLoadP rfl rfl rfl (kMovC rfl (kAlt (kRelK rfl rfl (kCall1 true (ok_laws_toCache _ prx) ⟨⟨⟨rfl, rfl, rfl, trivial⟩, leb⟩, trivial⟩ rfl rfl rfl (fun _ => (kAlt (kRelF rfl rfl (kCall1 true (ok_laws_toName _ prx prx) ⟨⟨⟨rfl, trivial⟩, leb⟩, trivial⟩ rfl rfl rfl (fun _ => (kAlt (kRelF rfl rfl (kCall1 true (ok_impl_CacheGet _ _ _ prx prx) ⟨⟨⟨rfl, rfl, rfl, trivial⟩, leb⟩, ⟨⟨rfl, trivial⟩, leb⟩, rfl, trivial⟩ rfl rfl rfl (fun _ => (kMovT rfl (kExtC rfl rfl (kExtC rfl rfl (kExtC rfl rfl (kAlloc rfl rfl (kMem [(81920, ⟨2, 0, .box [.d _, .d _, .nil 7]⟩), (532482, ⟨2, 0, .arr true _⟩), (532544, ⟨2, 0, .arr true _⟩)] [(19, .c (.ptr 81920 2 0)), (130, .g [.d _, .d _, .arr 532482 2]), (131, .c (.arr 532544 2)), (132, .c (.d _))] [] ⟨rfl, rfl, rfl, trivial⟩ ⟨rfl, rfl, rfl, rfl, trivial⟩ rfl (kRelF rfl rfl (kStoreP rfl rfl rfl rfl (kMovC rfl (kMovC rfl (kDone (kH (kMem [(36864, ⟨1, 0, .box [.d _, .d _, .arr 159746 1]⟩), (159746, ⟨1, 0, .arr true _⟩), (57344, ⟨2, 0, .box [.d _, .d _, .arr 208898 2]⟩), (208898, ⟨2, 1, .arr true _⟩), (208960, ⟨2, 1, .arr true _⟩), (81920, ⟨2, 0, .box [.d _, .d _, .arr 532482 2]⟩), (532482, ⟨2, 0, .arr true _⟩), (532544, ⟨2, 0, .arr true _⟩)] [(8, .c (.ptr 36864 1 0)), (9, .c (.d _)), (10, .c (.d _)), (13, .c (.ptr 57344 2 0)), (14, .c (.arr 208960 2)), (17, .c (.d _)), (19, .c (.ptr 81920 2 0)), (20, .c (.arr 532544 2)), (21, .c (.d _))] [] ⟨rfl, rfl, rfl, rfl, rfl, rfl, rfl, rfl, trivial⟩ ⟨rfl, rfl, rfl, rfl, rfl, rfl, rfl, rfl, rfl, trivial⟩ rfl (hc _ .normA))))))))))))))))) (kAlloc rfl rfl (kRelF rfl rfl (kCall1 true (ok_impl_CacheGet _ _ _ prx prx) ⟨⟨⟨rfl, rfl, rfl, trivial⟩, leb⟩, ⟨⟨rfl, trivial⟩, leb⟩, rfl, trivial⟩ rfl rfl rfl (fun _ => (kMovT rfl (kExtC rfl rfl (kExtC rfl rfl (kExtC rfl rfl (kMem [(81920, ⟨2, 0, .box [.d _, .d _, .nil 7]⟩), (532482, ⟨2, 0, .arr true _⟩), (532544, ⟨2, 0, .arr true _⟩)] [(19, .c (.ptr 81920 2 0)), (130, .g [.d _, .d _, .arr 532482 2]), (131, .c (.arr 532544 2)), (132, .c (.d _))] [] ⟨rfl, rfl, rfl, trivial⟩ ⟨rfl, rfl, rfl, rfl, trivial⟩ rfl (kRelF rfl rfl (kStoreP rfl rfl rfl rfl (kMovC rfl (kMovC rfl (kDone (kH (kMem [(36864, ⟨1, 0, .box [.d _, .d _, .arr 159746 1]⟩), (159746, ⟨1, 0, .arr true _⟩), (57344, ⟨2, 0, .box [.d _, .d _, .arr 208898 2]⟩), (208898, ⟨2, 1, .arr true _⟩), (208960, ⟨2, 1, .arr true _⟩), (81920, ⟨2, 0, .box [.d _, .d _, .arr 532482 2]⟩), (532482, ⟨2, 0, .arr true _⟩), (532544, ⟨2, 0, .arr true _⟩)] [(8, .c (.ptr 36864 1 0)), (9, .c (.d _)), (10, .c (.d _)), (13, .c (.ptr 57344 2 0)), (14, .c (.arr 208960 2)), (17, .c (.d _)), (19, .c (.ptr 81920 2 0)), (20, .c (.arr 532544 2)), (21, .c (.d _))] [] ⟨rfl, rfl, rfl, rfl, rfl, rfl, rfl, rfl, trivial⟩ ⟨rfl, rfl, rfl, rfl, rfl, rfl, rfl, rfl, rfl, trivial⟩ rfl (hc _ .normA))))))))))))))))))))) (kAlloc rfl rfl (kRelF rfl rfl (kCall1 true (ok_laws_toName _ prx prx) ⟨⟨⟨rfl, trivial⟩, leb⟩, trivial⟩ rfl rfl rfl (fun _ => (kRelF rfl rfl (kCall1 true (ok_impl_CacheGet _ _ _ prx prx) ⟨⟨⟨rfl, rfl, rfl, trivial⟩, leb⟩, ⟨⟨rfl, trivial⟩, leb⟩, rfl, trivial⟩ rfl rfl rfl (fun _ => (kMovT rfl (kExtC rfl rfl (kExtC rfl rfl (kExtC rfl rfl (kMem [(81920, ⟨2, 0, .box [.d _, .d _, .nil 7]⟩), (532482, ⟨2, 0, .arr true _⟩), (532544, ⟨2, 0, .arr true _⟩)] [(19, .c (.ptr 81920 2 0)), (130, .g [.d _, .d _, .arr 532482 2]), (131, .c (.arr 532544 2)), (132, .c (.d _))] [] ⟨rfl, rfl, rfl, trivial⟩ ⟨rfl, rfl, rfl, rfl, trivial⟩ rfl (kRelF rfl rfl (kStoreP rfl rfl rfl rfl (kMovC rfl (kMovC rfl (kDone (kH (kMem [(36864, ⟨1, 0, .box [.d _, .d _, .arr 159746 1]⟩), (159746, ⟨1, 0, .arr true _⟩), (57344, ⟨2, 0, .box [.d _, .d _, .arr 208898 2]⟩), (208898, ⟨2, 1, .arr true _⟩), (208960, ⟨2, 1, .arr true _⟩), (81920, ⟨2, 0, .box [.d _, .d _, .arr 532482 2]⟩), (532482, ⟨2, 0, .arr true _⟩), (532544, ⟨2, 0, .arr true _⟩)] [(8, .c (.ptr 36864 1 0)), (9, .c (.d _)), (10, .c (.d _)), (13, .c (.ptr 57344 2 0)), (14, .c (.arr 208960 2)), (17, .c (.d _)), (19, .c (.ptr 81920 2 0)), (20, .c (.arr 532544 2)), (21, .c (.d _))] [] ⟨rfl, rfl, rfl, rfl, rfl, rfl, rfl, rfl, trivial⟩ ⟨rfl, rfl, rfl, rfl, rfl, rfl, rfl, rfl, rfl, trivial⟩ rfl (hc _ .normA)))))))))))))))))))))))) (kAlloc rfl rfl (kRelK rfl rfl (kCall1 true (ok_laws_toCache _ prx) ⟨⟨⟨rfl, rfl, rfl, trivial⟩, leb⟩, trivial⟩ rfl rfl rfl (fun _ => (kRelF rfl rfl (kCall1 true (ok_laws_toName _ prx prx) ⟨⟨⟨rfl, trivial⟩, leb⟩, trivial⟩ rfl rfl rfl (fun _ => (kRelF rfl rfl (kCall1 true (ok_impl_CacheGet _ _ _ prx prx) ⟨⟨⟨rfl, rfl, rfl, trivial⟩, leb⟩, ⟨⟨rfl, trivial⟩, leb⟩, rfl, trivial⟩ rfl rfl rfl (fun _ => (kMovT rfl (kExtC rfl rfl (kExtC rfl rfl (kExtC rfl rfl (kMem [(81920, ⟨2, 0, .box [.d _, .d _, .nil 7]⟩), (532482, ⟨2, 0, .arr true _⟩), (532544, ⟨2, 0, .arr true _⟩)] [(19, .c (.ptr 81920 2 0)), (130, .g [.d _, .d _, .arr 532482 2]), (131, .c (.arr 532544 2)), (132, .c (.d _))] [] ⟨rfl, rfl, rfl, trivial⟩ ⟨rfl, rfl, rfl, rfl, trivial⟩ rfl (kRelF rfl rfl (kStoreP rfl rfl rfl rfl (kMovC rfl (kMovC rfl (kDone (kH (kMem [(36864, ⟨1, 0, .box [.d _, .d _, .arr 159746 1]⟩), (159746, ⟨1, 0, .arr true _⟩), (57344, ⟨2, 0, .box [.d _, .d _, .arr 208898 2]⟩), (208898, ⟨2, 1, .arr true _⟩), (208960, ⟨2, 1, .arr true _⟩), (81920, ⟨2, 0, .box [.d _, .d _, .arr 532482 2]⟩), (532482, ⟨2, 0, .arr true _⟩), (532544, ⟨2, 0, .arr true _⟩)] [(8, .c (.ptr 36864 1 0)), (9, .c (.d _)), (10, .c (.d _)), (13, .c (.ptr 57344 2 0)), (14, .c (.arr 208960 2)), (17, .c (.d _)), (19, .c (.ptr 81920 2 0)), (20, .c (.arr 532544 2)), (21, .c (.d _))] [] ⟨rfl, rfl, rfl, rfl, rfl, rfl, rfl, rfl, trivial⟩ ⟨rfl, rfl, rfl, rfl, rfl, rfl, rfl, rfl, rfl, trivial⟩ rfl (hc _ .normA))))))))))))))))))))))))))))
  refine Kb (Kbc (Ke Y Y Y (Ke Y Y Y (Kp (ok_laws_eqCache _ _ prx) ⟨⟨⟨Y, Y, Y, trivial⟩, leb⟩, ⟨⟨Y, Y, Y, trivial⟩, leb⟩, trivial⟩ Y Y Y Y Y (Kw Y Y (Ka Y (kGN Y (fun g0 => (by (simp at g0))) (fun g0 => Ki Y (Ka Y (Ki Y (Ka Y (Ki Y (Kp (ok_laws_eqRrS _ _ prx) ⟨Y, Y, trivial⟩ Y Y Y Y Y (Ki Y (Kw Y Y (Kl Y (Ka Y (Ka Y (kGN Y (fun g1 => (by (simp at g1))) (fun g1 => Ki Y (Ka Y (Ki Y (Ka Y (Ki Y (Kj Y Y Y (Kl Y (Ka Y (Kd (kCondIN Y (fun g2 => om) (fun g2 => Kn (Kbc (Ka Y (Kdb (Kc (kMem [(57344, ⟨1, 0, .box [.d _, .d _, .arr 208898 1]⟩), (208898, ⟨1, 0, .arr true _⟩)] [(13, .c (.ptr 57344 1 0)), (18, .c (.d _))] [] ⟨Y, Y, trivial⟩ ⟨Y, Y, trivial⟩ Y (Ke Y Y Y (Ka Y (Kp (ok_laws_heldCache _ _ prx prx prx) ⟨⟨⟨Y, Y, Y, trivial⟩, leb⟩, rfl, trivial⟩ Y Y Y Y Y (Ka Y (Kdb (Kbc (Ka Y (Kj Y Y Y (Kd (kCondF Y (Kn (Kbc (Ka Y (Ka Y (Kp (ok_laws_heldRrS _ _ prx prx prx) ⟨Y, Y, trivial⟩ Y Y Y Y Y (Ka Y (Kdb (Kbc (Ka Y (Kj Y Y Y (Kd (kCondF Y (Kn (Kb (Kbc (Ka Y (Ka Y (Kj Y Y Y (Kd (kCondIN Y (fun g3 => om) (fun g3 => Kn (Kbc (Ka Y (Kd (Kr (Er (ra := [.one (.d _)]) rfl rfl)))))))))))))))))))))))))))))))))))))))))))))))))))))))))))))))))))))))

end Go.Proofs.YtmdmlncdjdphdaaGreat.FnExactCacheGetFn
