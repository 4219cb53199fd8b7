/- What the functions that FnCaches reaches compute, one contract each; each with the bounds that it states. -/
import Derived.WalkKit
import Derived.Deep.RegionLaw
import Derived.Lib.Walk
import Derived.Lib.SliceRun
import Derived.Shelf.SlSortCmp.WholeK
import Derived.Test.YtmdmlncdjdphdaaGreatFnCachesFn2
import Derived.Test.YtmdmlncdjdphdaaGreatProg
import Derived.KernelRfl
set_option maxRecDepth 100000
set_option maxHeartbeats 8000000
set_option linter.unusedVariables false
set_option linter.unusedSimpArgs false
namespace Go.Proofs.YtmdmlncdjdphdaaGreat.FnCachesFn
open Go Hearth Go.Proofs

def c_impl_CacheNames : C := (.g (.o 0 1 (.box 1 (.t 0)) (.o 1 2 (.mov (.n 1)) .done)) (.seq (.g (.o 0 6 (.load (some 3) (.t 1)) (.o 1 7 (.call 7 56 [(.t 6)]) (.o 2 8 (.un .not (.t 7)) .done))) (.cond (.t 8) (.g (.o 0 2 (.mov (.n 1)) .done) .ret) .skip)) (.g (.o 0 9 (.lit 9 1 [(.n 1)] 0 []) (.o 1 3 (.mov (.t 9)) .done)) (.seq (.g (.o 0 10 (.fad (.t 1) 2) (.o 1 11 (.load none (.t 10)) (.o 2 12 (.len (.t 11)) (.o 3 13 (.mov (.i 0)) .done)))) (.block 0 (.loop (.g (.o 0 14 (.bin .lss (.t 13) (.t 12)) .done) (.seq (.cond (.t 14) .skip (.exit 0)) (.seq (.block 1 (.g (.o 0 15 (.iad 7 (.t 11) (.t 13)) (.o 1 16 (.load (some 7) (.t 15)) (.o 2 5 (.alloc 5 [(.n 1), (.i 0), (.i 0), (.n 7), (.i 0), (.i 0), (.i 0)]) (.op 3 [] none none false (.store (some 7) (.t 5) (.t 16)) .done)))) (.seq (.reg true (.op 0 [] (some 17) none true (.mov (.t 3)) (.op 1 [] (some 18) none true (.len (.t 17)) (.op 2 [] (some 19) none true (.bin .eql (.t 18) (.i 0)) (.op 3 [] (some 20) none true (.mov (.t 19)) (.op 4 [] (some 21) (some (20, false)) true (.mov (.t 3)) (.op 5 [] (some 22) (some (20, false)) true (.mov (.t 3)) (.op 6 [] (some 23) (some (20, false)) true (.len (.t 22)) (.op 7 [] (some 24) (some (20, false)) true (.bin .sub (.t 23) (.i 1)) (.op 8 [] (some 25) (some (20, false)) true (.iad 1 (.t 21) (.t 24)) (.op 9 [] (some 26) (some (20, false)) true (.load (some 1) (.t 25)) (.op 10 [] (some 27) (some (20, false)) true (.fad (.t 5) 0) (.op 11 [] (some 28) (some (20, false)) true (.load (some 1) (.t 27)) (.op 12 [9, 11] (some 29) (some (20, false)) false (.call 29 131 [(.t 26), (.t 28)]) (.op 13 [] (some 30) (some (20, false)) true (.un .not (.t 29)) (.op 14 [] (some 31) none true (.pick (.t 20) (.v (.bool true)) (.t 30)) .done)))))))))))))))) (.cond (.t 31) (.reg false (.o 0 32 (.mov (.t 3)) (.o 1 33 (.fad (.t 5) 0) (.o 2 34 (.load (some 1) (.t 33)) (.o 3 35 (.call 35 151 [(.t 34)]) (.o 4 36 (.lit 36 1 [(.n 1)] 1 [(0, 1, (.t 35))]) (.o 5 37 (.app 37 1 24 (.t 32) (.t 36)) (.o 6 3 (.mov (.t 37)) .done)))))))) .skip)))) (.reg false (.o 0 38 (.bin .add (.t 13) (.i 1)) (.o 1 13 (.mov (.t 38)) .done))))))))) (.g (.o 0 39 (.mov (.t 3)) (.o 1 2 (.mov (.t 39)) .done)) .ret)))))
theorem dg_impl_CacheNames : Tryz.f62.body.bind (digC Tryz.prog Tryz.f62.ntmps []) = some c_impl_CacheNames := by kernel_rfl
theorem rs_impl_CacheNames : resSlots Tryz.prog Tryz.f62 = some [.s 2] := by kernel_rfl
theorem ok_impl_CacheNames (c : Cache) (hs : SmallSs c.slots) :
    FnOK Tryz.prog 62 [.agg (c.cells.map .d)] (fun ra _ => ra = [.one (.own true (encN (namesN c)))]) := by
  refine FnOK.ofK Tryz.func62 (by kernel_rfl) dg_impl_CacheNames rs_impl_CacheNames rfl rfl ?_
  delta c_impl_CacheNames T.o X.i C.g
  have h1 := hs.len
  have hm := hs.mem
  unfold namesN
  cases hok : cacheOk c
  · refine Kbc (kBox Y Y Y Y Y (Ka Y (Kdb (Kbc (Ke Y Y Y (Kp (ok_impl_CacheOk _ prx) ⟨⟨⟨Y, Y, Y, trivial⟩, leb⟩, trivial⟩ Y Y Y Y Y (Kw Y Y (Kd (kCondN Y (fun g0 => Kbc (Ka Y (Kd (Kr (Er (ra := [.one (.own true _)]) rfl rfl))))) (fun g0 => (by (simp [*] at g0))))))))))))
  rw [if_pos rfl]
  refine Kbc (kBox Y Y Y Y Y (Ka Y (Kdb (Kbc (Ke Y Y Y (Kp (ok_impl_CacheOk _ prx) ⟨⟨⟨Y, Y, Y, trivial⟩, leb⟩, trivial⟩ Y Y Y Y Y (Kw Y Y (Kd (kCondN Y (fun g0 => (by (simp [*] at g0))) (fun g0 => Kn (Kbc (kLitG Y Y Y Y (Ka Y (Kdb (Kbc (Kf Y Y (kMem [(8192, ⟨1, 0, .box [.d _, .d _, .d _]⟩)] [(10, .c (.ptr 8192 1 2)), (11, .c (.un))] [] ⟨Y, trivial⟩ ⟨Y, Y, trivial⟩ Y (Ke Y Y Y (Kq Y Y (Ka Y (Kd (Kt ?_))))))))))))))))))))))
  refine kLoop (α := { i : Nat // i ≤ c.slots.length }) (fun y => ⟨tabSl [(1, .c (.ptr (rid 1 0) 1 0)), (3, .c (.arr (rid 9 0) 1)), (11, .dv (encS c.slots)), (12, .i c.slots.length), (13, .i y.1)], obTab 1 [(rid 1 0, ⟨1, 0, .box (c.cells.map .d)⟩), (rid 9 0, ⟨1, 0, .arr true (encN (namesS (c.slots.take y.1)))⟩)], []⟩) (fun y => c.slots.length - y.1) ⟨0, by simp⟩ .normA ?_
  rintro ⟨i, hi⟩
  simp only
  have hnl := namesS_len (c.slots.take i)
  have htl : (c.slots.take i).length = i := by simp; omega
  rcases Nat.lt_or_ge i c.slots.length with hlt | hge
  · have hbi := hm _ (List.getElem_mem hlt)
    have n1 := hbi.n.len
    have n2 := hbi.n.mem
    have hst := namesS_succ c.slots i hlt
    have hns : ∀ n ∈ namesS (c.slots.take i), n.length ≤ 4194304 := fun n hn => by
      obtain ⟨s, hs1, rfl⟩ := namesS_mem _ n hn
      exact (hm s (List.mem_of_mem_take hs1)).n.len
    generalize hN : namesS (c.slots.take i) = N at *
    refine Kbc (Kj Y Y Y (Kdb (Km Y (fun g0 => Kn (Kb (Kt (Kbc (kIadR Y Y Y prl (Ky Y Y (kAlloc Y Y (kMem [(24576, ⟨2, 0, .box [.nil 1, .d _, .d _, .nil 7, .d _, .d _, .d _]⟩)] [(5, .c (.ptr 24576 2 0)), (16, .g [.d _, .d _, .d _, .d _, .d _, .d _, .d _])] [] ⟨Y, trivial⟩ ⟨Y, Y, trivial⟩ Y (Ko Y Y Y Y (Kdb (kRegD (Ka Y (Kq Y Y (Kj Y Y Y (Ka Y (kGP Y (fun g1 => Kg Y (Kg Y (Kg Y (Kg Y (Kg Y (kMem [(24576, ⟨2, 0, .box [.d _, .d _, .d _, .d _, .d _, .d _, .d _]⟩)] [(25, .c (.un)), (5, .c (.ptr 24576 2 0)), (20, .c (.d _))] [] ⟨Y, trivial⟩ ⟨Y, Y, Y, trivial⟩ Y (Kg Y (Kg Y (Kg Y (Ks Y Y (Kg Y (Kg Y (Kk Y (Ka Y (Kd (kH (kCondT Y (Kc (Ka Y (Kf Y Y (Ke Y Y Y (Ku true (ok_impl_Name_copied _ prx prx) ⟨⟨⟨Y, trivial⟩, leb⟩, trivial⟩ Y Y Y (fun _ => (kLitG Y Y Y Y (kAppR1 Y Y Y Y Y Y Y Y prl (kMem [(40960, ⟨2, 0, .arr true _⟩)] [(37, .c (.arr 40960 2))] [] ⟨Y, trivial⟩ ⟨Y, trivial⟩ Y (Ka Y (Kd (Kv (Kc (kAdd Y Y om (Ka Y (Kd ?_))))))))))))))))))))))))))))))))) (fun g1 => Ki Y (Ka Y (Ki Y (Ka Y (Ki Y (Kq Y Y (Ki Y (kDif Y Y om (Ki Y ?_))))))))))))))))))))))))) (fun g0 => om))))
    · have hz : nmStep N c.slots[i] = N ++ [c.slots[i].name] := by
        have : N = [] := List.length_eq_zero_iff.1 (by omega)
        subst this; rfl
      rw [hz] at hst
      refine kInv ⟨⟨i + 1, by omega⟩, by simp only; omega, ?_⟩
      simp only [hst]
      exact .normA
    · have hkl : ((N.length : Int) - 1).toNat < N.length := by omega
      refine kIadA Y Y Y Y ⟨by omega, by rw [len_encL]; exact hkl⟩ ?_
      refine kMem [(24576, ⟨2, 0, .box [.d _, .d _, .d _, .d _, .d _, .d _, .d _]⟩)] [(5, .c (.ptr 24576 2 0)), (20, .c (.d _))] [] ⟨Y, trivial⟩ ⟨Y, Y, trivial⟩ Y (Ki Y (kLoadER Y Y prl rfl (Ki Y (Kf Y Y (Ki Y (Ke Y Y Y (Ks Y Y (Ki Y ?_))))))))
      have hlast : N.getLast? = some N[((N.length : Int) - 1).toNat] := by
        rw [List.getLast?_eq_getElem?, show N.length - 1 = ((N.length : Int) - 1).toNat by omega, List.getElem?_eq_getElem hkl]
      refine Kp (ok_impl_Name_is N[((N.length : Int) - 1).toNat] c.slots[i].name (hns _ (List.getElem_mem hkl)) n1) ⟨⟨⟨congrArg some (at_encL 1 (fun n => [encBB n]) N _ 0 hkl), trivial⟩, leb⟩, ⟨⟨Y, trivial⟩, leb⟩, trivial⟩ Y Y Y Y Y ?_
      cases hd : decide (N[((N.length : Int) - 1).toNat] = c.slots[i].name)
      · have hz : nmStep N c.slots[i] = N ++ [c.slots[i].name] := by
          unfold nmStep
          rw [if_neg]
          rw [hlast]
          intro h
          exact of_decide_eq_false hd (Option.some.inj h)
        rw [hz] at hst
        refine Ki Y (Kw Y Y (Kl Y (Ka Y (Kd (kH (kCondT Y (Kc (Ka Y (Kf Y Y (Ke Y Y Y (Ku true (ok_impl_Name_copied _ prx prx) ⟨⟨⟨Y, trivial⟩, leb⟩, trivial⟩ Y Y Y (fun _ => (kLitG Y Y Y Y (kAppR1 Y Y Y Y Y Y Y Y prl (kMem [(40960, ⟨2, 0, .arr true _⟩)] [(37, .c (.arr 40960 2))] [] ⟨Y, trivial⟩ ⟨Y, trivial⟩ Y (Ka Y (Kd (Kv (Kc (kAdd Y Y om (Ka Y (Kd ?_))))))))))))))))))))))
        refine kInv ⟨⟨i + 1, by omega⟩, by simp only; omega, ?_⟩
        simp only [hst]
        exact .normA
      · have hz : nmStep N c.slots[i] = N := by
          unfold nmStep
          rw [if_pos]
          rw [hlast]
          exact congrArg some (of_decide_eq_true hd)
        rw [hz] at hst
        refine Ki Y (Kw Y Y (Kl Y (Ka Y (Kd (kH (kCondF Y (Kn (Kv (Kc (kAdd Y Y om (Ka Y (Kd ?_))))))))))))
        refine kInv ⟨⟨i + 1, by omega⟩, by simp only; omega, ?_⟩
        simp only [hst]
        exact .normA
  · refine Kbc (Kj Y Y Y (Kdb (Km Y (fun g0 => om) (fun g0 => kExit (kExC (kExI (kExB (Kbc (Ka Y (Ka Y (Kd (kMem [(40960, ⟨1, 0, .arr true _⟩)] [(2, .c (.arr 40960 1))] [] ⟨Y, trivial⟩ ⟨Y, trivial⟩ Y (Kr (Er (ra := [.one (.own true _)]) rfl ?_))))))))))))))
    rw [show i = c.slots.length by omega, List.take_length]

def c_spec_TypeOk : C := (.g (.o 0 2 (.mov (.v (.bool false))) .done) (.seq (.g (.o 0 3 (.mov (.t 0)) .done) (.block 0 (.seq (.g (.o 0 5 (.bin .eql (.t 3) (.i 1)) (.o 1 4 (.mov (.t 5)) .done)) (.cond (.t 4) .skip (.g (.o 0 6 (.bin .eql (.t 3) (.i 2)) (.o 1 4 (.mov (.t 6)) .done)) (.cond (.t 4) .skip (.g (.o 0 7 (.bin .eql (.t 3) (.i 5)) (.o 1 4 (.mov (.t 7)) .done)) (.cond (.t 4) .skip (.g (.o 0 8 (.bin .eql (.t 3) (.i 6)) (.o 1 4 (.mov (.t 8)) .done)) (.cond (.t 4) .skip (.g (.o 0 9 (.bin .eql (.t 3) (.i 12)) (.o 1 4 (.mov (.t 9)) .done)) (.cond (.t 4) .skip (.g (.o 0 10 (.bin .eql (.t 3) (.i 16)) (.o 1 4 (.mov (.t 10)) .done)) (.cond (.t 4) .skip (.reg false (.o 0 11 (.bin .eql (.t 3) (.i 49)) (.o 1 4 (.mov (.t 11)) .done))))))))))))))) (.cond (.t 4) (.g (.o 0 2 (.mov (.v (.bool true))) .done) .ret) .skip)))) (.g (.o 0 2 (.mov (.v (.bool false))) .done) .ret)))
theorem dg_spec_TypeOk : Tryz.f48.body.bind (digC Tryz.prog Tryz.f48.ntmps []) = some c_spec_TypeOk := by kernel_rfl
theorem rs_spec_TypeOk : resSlots Tryz.prog Tryz.f48 = some [.s 2] := by kernel_rfl
theorem ok_spec_TypeOk (n : Int) : FnOK Tryz.prog 48 [.one (.d (.sc (.int .i64 n)))] (fun ra _ => ra = [.one (.d (.sc (.bool (tyOk n))))]) := by
  refine FnOK.ofK Tryz.func48 (by kernel_rfl) dg_spec_TypeOk rs_spec_TypeOk rfl rfl ?_
  delta c_spec_TypeOk T.o X.i C.g
  refine Kbc (Ka Y (Kdb (Kbc (Ka Y (Kd (Kt (Kb (Kbc (Kj Y Y Y (Ka Y (Kd (Km Y (fun g0 => Kn (Km Y (fun g1 => Kbc (Ka Y (Kd (Kr (Er (ra := [.one (.d _)]) rfl ?_))))) (fun g1 => om))) (fun g0 => Kbc (Kj Y Y Y (Ka Y (Kd (Km Y (fun g2 => Kn (Km Y (fun g3 => Kbc (Ka Y (Kd (Kr (Er (ra := [.one (.d _)]) rfl ?_))))) (fun g3 => om))) (fun g2 => Kbc (Kj Y Y Y (Ka Y (Kd (Km Y (fun g4 => Kn (Km Y (fun g5 => Kbc (Ka Y (Kd (Kr (Er (ra := [.one (.d _)]) rfl ?_))))) (fun g5 => om))) (fun g4 => Kbc (Kj Y Y Y (Ka Y (Kd (Km Y (fun g6 => Kn (Km Y (fun g7 => Kbc (Ka Y (Kd (Kr (Er (ra := [.one (.d _)]) rfl ?_))))) (fun g7 => om))) (fun g6 => Kbc (Kj Y Y Y (Ka Y (Kd (Km Y (fun g8 => Kn (Km Y (fun g9 => Kbc (Ka Y (Kd (Kr (Er (ra := [.one (.d _)]) rfl ?_))))) (fun g9 => om))) (fun g8 => Kbc (Kj Y Y Y (Ka Y (Kd (Km Y (fun g10 => Kn (Km Y (fun g11 => Kbc (Ka Y (Kd (Kr (Er (ra := [.one (.d _)]) rfl ?_))))) (fun g11 => om))) (fun g10 => Kc (Kj Y Y Y (Ka Y (Kd (Km Y (fun g12 => Kbc (Ka Y (Kd (Kr (Er (ra := [.one (.d _)]) rfl ?_))))) (fun g12 => Kn (Kv (Kbc (Ka Y (Kd (Kr (Er (ra := [.one (.d _)]) rfl ?_)))))))))))))))))))))))))))))))))))))))))))))))))
  all_goals simp_all [tyOk]

def c_spec_l3texted : C := (.g (.o 0 2 (.mov (.v (.bool false))) .done) (.g (.o 0 3 (.mov (.t 0)) (.o 1 4 (.bin .eql (.t 3) (.i 16)) (.o 2 5 (.mov (.t 4)) (.op 3 [] (some 6) (some (5, false)) false (.mov (.t 0)) (.op 4 [] (some 7) (some (5, false)) false (.bin .eql (.t 6) (.i 49)) (.o 5 8 (.pick (.t 5) (.v (.bool true)) (.t 7)) (.o 6 2 (.mov (.t 8)) .done))))))) .ret))
theorem dg_spec_l3texted : Tryz.f246.body.bind (digC Tryz.prog Tryz.f246.ntmps []) = some c_spec_l3texted := by kernel_rfl
theorem rs_spec_l3texted : resSlots Tryz.prog Tryz.f246 = some [.s 2] := by kernel_rfl
theorem ok_spec_l3texted (n : Int) : FnOK Tryz.prog 246 [.one (.d (.sc (.int .i64 n)))] (fun ra _ => ra = [.one (.d (.sc (.bool (hasText n))))]) := by
  refine FnOK.ofK Tryz.func246 (by kernel_rfl) dg_spec_l3texted rs_spec_l3texted rfl rfl ?_
  delta c_spec_l3texted T.o X.i C.g
  refine Kbc (Ka Y (Kdb (Kc (Ka Y (Kj Y Y Y (Ka Y (kGP Y (fun g0 => Kg Y (Kg Y (Kk Y (Ka Y (Ka Y (Kd (Kr (Er (ra := [.one (.d _)]) rfl ?_)))))))) (fun g0 => Ki Y (Ka Y (Ki Y (Kj Y Y Y (Kl Y (Ka Y (Ka Y (Kd (Kr (Er (ra := [.one (.d _)]) rfl ?_)))))))))))))))))
  all_goals simp_all [hasText]

def c_spec_l3data : C := (.g (.o 0 1 (.box 1 (.t 0)) (.o 1 2 (.mov (.v (.bool false))) .done)) (.seq (.g (.o 0 3 (.fad (.t 1) 1) (.o 1 4 (.load none (.t 3)) (.o 2 5 (.bin .eql (.t 4) (.i 1)) .done))) (.cond (.t 5) (.g (.o 0 6 (.fad (.t 1) 3) (.o 1 7 (.load none (.t 6)) (.o 2 8 (.bin .lss (.t 7) (.i 0)) (.o 3 9 (.mov (.t 8)) (.op 4 [] (some 10) (some (9, false)) false (.fad (.t 1) 3) (.op 5 [] (some 11) (some (9, false)) false (.load none (.t 10)) (.op 6 [] (some 12) (some (9, false)) false (.bin .geq (.t 11) (.i 4294967296)) (.o 7 13 (.pick (.t 9) (.v (.bool true)) (.t 12)) .done)))))))) (.cond (.t 13) (.g (.o 0 2 (.mov (.v (.bool false))) .done) .ret) .skip)) (.g (.o 0 14 (.fad (.t 1) 3) (.o 1 15 (.load none (.t 14)) (.o 2 16 (.bin .neq (.t 15) (.i 0)) .done))) (.cond (.t 16) (.g (.o 0 2 (.mov (.v (.bool false))) .done) .ret) .skip)))) (.seq (.g (.o 0 17 (.fad (.t 1) 1) (.o 1 18 (.load none (.t 17)) (.o 2 19 (.call 19 245 [(.t 18)]) .done))) (.cond (.t 19) (.g (.o 0 20 (.fad (.t 1) 4) (.o 1 21 (.load (some 1) (.t 20)) (.o 2 22 (.call 22 47 [(.t 21)]) (.o 3 23 (.un .not (.t 22)) .done)))) (.cond (.t 23) (.g (.o 0 2 (.mov (.v (.bool false))) .done) .ret) .skip)) (.g (.o 0 24 (.fad (.t 1) 4) (.o 1 25 (.fad (.t 24) 0) (.o 2 26 (.load none (.t 25)) (.o 3 27 (.len (.t 26)) (.o 4 28 (.bin .gtr (.t 27) (.i 0)) .done))))) (.cond (.t 28) (.g (.o 0 2 (.mov (.v (.bool false))) .done) .ret) .skip)))) (.seq (.g (.o 0 29 (.fad (.t 1) 1) (.o 1 30 (.load none (.t 29)) (.o 2 31 (.call 31 246 [(.t 30)]) .done))) (.cond (.t 31) (.g (.o 0 32 (.fad (.t 1) 5) (.o 1 33 (.load none (.t 32)) (.o 2 34 (.len (.t 33)) (.o 3 35 (.bin .gtr (.t 34) (.i 40)) .done)))) (.cond (.t 35) (.g (.o 0 2 (.mov (.v (.bool false))) .done) .ret) .skip)) (.g (.o 0 36 (.fad (.t 1) 5) (.o 1 37 (.load none (.t 36)) (.o 2 38 (.len (.t 37)) (.o 3 39 (.bin .gtr (.t 38) (.i 0)) .done)))) (.cond (.t 39) (.g (.o 0 2 (.mov (.v (.bool false))) .done) .ret) .skip)))) (.seq (.g (.o 0 40 (.fad (.t 1) 1) (.o 1 41 (.load none (.t 40)) (.o 2 42 (.bin .neq (.t 41) (.i 6)) .done))) (.cond (.t 42) (.g (.o 0 43 (.fad (.t 1) 6) (.o 1 44 (.load none (.t 43)) (.o 2 45 (.len (.t 44)) (.o 3 46 (.bin .eql (.t 45) (.i 0)) (.o 4 2 (.mov (.t 46)) .done))))) .ret) .skip)) (.seq (.g (.o 0 47 (.fad (.t 1) 6) (.o 1 48 (.load none (.t 47)) (.o 2 49 (.len (.t 48)) (.o 3 50 (.bin .neq (.t 49) (.i 2)) (.o 4 51 (.mov (.t 50)) (.op 5 [] (some 52) (some (51, false)) false (.fad (.t 1) 6) (.op 6 [] (some 53) (some (51, false)) false (.load none (.t 52)) (.op 7 [] (some 54) (some (51, false)) false (.iad 1 (.t 53) (.i 0)) (.op 8 [] (some 55) (some (51, false)) false (.load none (.t 54)) (.op 9 [] (some 56) (some (51, false)) false (.bin .lss (.t 55) (.i 0)) (.o 10 57 (.pick (.t 51) (.v (.bool true)) (.t 56)) (.o 11 58 (.mov (.t 57)) (.op 12 [] (some 59) (some (58, false)) false (.fad (.t 1) 6) (.op 13 [] (some 60) (some (58, false)) false (.load none (.t 59)) (.op 14 [] (some 61) (some (58, false)) false (.iad 1 (.t 60) (.i 0)) (.op 15 [] (some 62) (some (58, false)) false (.load none (.t 61)) (.op 16 [] (some 63) (some (58, false)) false (.bin .geq (.t 62) (.i 4294967296)) (.o 17 64 (.pick (.t 58) (.v (.bool true)) (.t 63)) .done)))))))))))))))))) (.cond (.t 64) (.g (.o 0 2 (.mov (.v (.bool false))) .done) .ret) .skip)) (.g (.o 0 65 (.fad (.t 1) 6) (.o 1 66 (.load none (.t 65)) (.o 2 67 (.iad 1 (.t 66) (.i 1)) (.o 3 68 (.load none (.t 67)) (.o 4 69 (.bin .geq (.t 68) (.i 0)) (.o 5 70 (.mov (.t 69)) (.op 6 [] (some 71) (some (70, true)) false (.fad (.t 1) 6) (.op 7 [] (some 72) (some (70, true)) false (.load none (.t 71)) (.op 8 [] (some 73) (some (70, true)) false (.iad 1 (.t 72) (.i 1)) (.op 9 [] (some 74) (some (70, true)) false (.load none (.t 73)) (.op 10 [] (some 75) (some (70, true)) false (.bin .leq (.t 74) (.i 100000)) (.o 11 76 (.pick (.t 70) (.t 75) (.v (.bool false))) (.o 12 2 (.mov (.t 76)) .done))))))))))))) .ret)))))))
theorem dg_spec_l3data : Tryz.f164.body.bind (digC Tryz.prog Tryz.f164.ntmps []) = some c_spec_l3data := by kernel_rfl
theorem rs_spec_l3data : resSlots Tryz.prog Tryz.f164 = some [.s 2] := by kernel_rfl
theorem ok_spec_l3data (r : Rr) (hs : SmallR r) :
    FnOK Tryz.prog 164 [.agg (r.cells.map .d)] (fun ra _ => ra = [.one (.d (.sc (.bool (dataOk r))))]) := by
  refine FnOK.ofK Tryz.func164 (by kernel_rfl) dg_spec_l3data rs_spec_l3data rfl rfl ?_
  delta c_spec_l3data T.o X.i C.g
  have t1 := hs.t.len
  have t2 := hs.t.mem
  have x1 := hs.x
  have m1 := hs.m
  refine Kbc (kBox Y Y Y Y Y (Ka Y (Kd ?_)))
  by_cases hA : (r.ty = 1 ∧ 0 ≤ r.addr ∧ r.addr < 4294967296) ∨ (r.ty ≠ 1 ∧ r.addr = 0)
  case neg =>
    have e : (if r.ty == 1 then isW r.addr else r.addr == 0) = false := by
      by_cases h : r.ty = 1
      · simp [h, isW]; omega
      · simp [h]; omega
    rw [show dataOk r = false by simp only [dataOk, e, Bool.and_false, Bool.false_and]]
    refine Kb ?_
    refine Kbc (Kf Y Y (Ke Y Y Y (Kj Y Y Y (Kd (Km Y (fun g0 => Kbc (Kf Y Y (Ke Y Y Y (Kj Y Y Y (Ka Y (kGP Y (fun g1 => Kg Y (Kg Y (Kg Y (Kk Y (Ka Y (Kd (kCondT Y (Kbc (Ka Y (Kd (Kr (Er (ra := [.one (.d _)]) rfl rfl)))))))))))) (fun g1 => Ki Y (Kf Y Y (Ki Y (Ke Y Y Y (Ki Y (Kj Y Y Y (Kl Y (Ka Y (Kd (Km Y (fun g2 => Kbc (Ka Y (Kd (Kr (Er (ra := [.one (.d _)]) rfl rfl))))) (fun g2 => om))))))))))))))))) (fun g0 => Kbc (Kf Y Y (Ke Y Y Y (Kj Y Y Y (Kd (kCondIN Y (fun g3 => Kbc (Ka Y (Kd (Kr (Er (ra := [.one (.d _)]) rfl rfl))))) (fun g3 => om))))))))))))
  have eA : (if r.ty == 1 then isW r.addr else r.addr == 0) = true := by
    rcases hA with ⟨h, _, _⟩ | ⟨h, h'⟩
    · simp [h, isW]; omega
    · simp [h, h']
  refine Kb (kCut ⟨tabSl [(1, .c (.ptr (rid 1 0) 1 0))], obTab 1 [(rid 1 0, ⟨1, 0, .box (r.cells.map .d)⟩)], []⟩ ?_ (fun x hc => ?_))
  case refine_2 =>
    refine Kbc (Kf Y Y (Ke Y Y Y (Kj Y Y Y (Kd (Km Y (fun g0 => Kbc (Kf Y Y (Ke Y Y Y (Kj Y Y Y (Ka Y (kGP Y (fun g1 => om) (fun g1 => Ki Y (Kf Y Y (Ki Y (Ke Y Y Y (Ki Y (Kj Y Y Y (Kl Y (Ka Y (Kd (Km Y (fun g2 => om) (fun g2 => Kn (hc _ .normA)))))))))))))))))) (fun g0 => Kbc (Kf Y Y (Ke Y Y Y (Kj Y Y Y (Kd (kCondIN Y (fun g3 => om) (fun g3 => Kn (hc _ .normA)))))))))))))
  by_cases eB : (if hasTo r.ty then nameOk r.to else ((r.to.length : Int) == 0)) = true
  case neg =>
    rw [show dataOk r = false by simp only [dataOk, Bool.eq_false_iff.2 eB, Bool.and_false, Bool.false_and]]
    refine Kb ?_
    cases hT : hasTo r.ty
    case false =>
      have hN : ¬ (r.to.length : Int) = 0 := by simpa [hT] using eB
      have hN' : ¬ r.to.length = 0 := by omega
      refine Kbc (Kf Y Y (Ke Y Y Y (Kp (ok_spec_l3named _) ⟨Y, trivial⟩ Y Y Y Y Y (Kd (kCond Y (fun g0 => (by (simp [*] at g0))) (fun g0 => Kbc (Kf Y Y (Kf Y Y (Ke Y Y Y (Kq Y Y (Kj Y Y Y (Kd (Km Y (fun g1 => Kbc (Ka Y (Kd (Kr (Er (ra := [.one (.d _)]) rfl rfl))))) (fun g1 => om))))))))))))))
    case true =>
      have hN : nameOk r.to = false := by simpa [hT] using eB
      refine Kbc (Kf Y Y (Ke Y Y Y (Kp (ok_spec_l3named _) ⟨Y, trivial⟩ Y Y Y Y Y (Kd (kCond Y (fun g0 => Kbc (Kf Y Y (Ke Y Y Y (Kp (ok_spec_NameOk _ pr pr) ⟨⟨⟨Y, trivial⟩, leb⟩, trivial⟩ Y Y Y Y Y (Kw Y Y (Kd (kCondN Y (fun g1 => Kbc (Ka Y (Kd (Kr (Er (ra := [.one (.d _)]) rfl rfl))))) (fun g1 => (by (simp [*] at g1)))))))))) (fun g0 => (by (simp [*] at g0))))))))
  refine Kb (kCut ⟨tabSl [(1, .c (.ptr (rid 1 0) 1 0))], obTab 1 [(rid 1 0, ⟨1, 0, .box (r.cells.map .d)⟩)], []⟩ ?_ (fun x hc => ?_))
  case refine_2 =>
    cases hT : hasTo r.ty
    case false =>
      have hN : (r.to.length : Int) = 0 := by rw [hT] at eB; simpa using eB
      have hN' : r.to.length = 0 := by omega
      clear hN
      refine Kbc (Kf Y Y (Ke Y Y Y (Kp (ok_spec_l3named _) ⟨Y, trivial⟩ Y Y Y Y Y (Kd (kCond Y (fun g0 => (by (simp [*] at g0))) (fun g0 => Kbc (Kf Y Y (Kf Y Y (Ke Y Y Y (Kq Y Y (Kj Y Y Y (Kd (Km Y (fun g1 => om) (fun g1 => Kn (hc _ .normA)))))))))))))))
    case true =>
      have hN : nameOk r.to = true := by simpa [hT] using eB
      refine Kbc (Kf Y Y (Ke Y Y Y (Kp (ok_spec_l3named _) ⟨Y, trivial⟩ Y Y Y Y Y (Kd (kCond Y (fun g0 => Kbc (Kf Y Y (Ke Y Y Y (Kp (ok_spec_NameOk _ pr pr) ⟨⟨⟨Y, trivial⟩, leb⟩, trivial⟩ Y Y Y Y Y (Kw Y Y (Kd (kCondN Y (fun g1 => (by (simp [*] at g1))) (fun g1 => Kn (hc _ .normA))))))))) (fun g0 => (by (simp [*] at g0))))))))
  by_cases eC : (if hasText r.ty then decide ((r.text.length : Int) ≤ 40) else ((r.text.length : Int) == 0)) = true
  case neg =>
    rw [show dataOk r = false by simp only [dataOk, Bool.eq_false_iff.2 eC, Bool.and_false]]
    refine Kb ?_
    cases hT : hasText r.ty
    case false =>
      have hN' : ¬ r.text.length = 0 := by rw [hT] at eC; simp at eC; simpa using eC
      refine Kbc (Kf Y Y (Ke Y Y Y (Kp (ok_spec_l3texted _) ⟨Y, trivial⟩ Y Y Y Y Y (Kd (kCond Y (fun g0 => (by (simp [*] at g0))) (fun g0 => Kbc (Kf Y Y (Ke Y Y Y (Kq Y Y (Kj Y Y Y (Kd (Km Y (fun g1 => Kbc (Ka Y (Kd (Kr (Er (ra := [.one (.d _)]) rfl rfl))))) (fun g1 => om)))))))))))))
    case true =>
      have hN' : ¬ r.text.length ≤ 40 := by rw [hT] at eC; simp at eC; omega
      refine Kbc (Kf Y Y (Ke Y Y Y (Kp (ok_spec_l3texted _) ⟨Y, trivial⟩ Y Y Y Y Y (Kd (kCond Y (fun g0 => Kbc (Kf Y Y (Ke Y Y Y (Kq Y Y (Kj Y Y Y (Kd (Km Y (fun g1 => Kbc (Ka Y (Kd (Kr (Er (ra := [.one (.d _)]) rfl rfl))))) (fun g1 => om)))))))) (fun g0 => (by (simp [*] at g0))))))))
  refine Kb (kCut ⟨tabSl [(1, .c (.ptr (rid 1 0) 1 0))], obTab 1 [(rid 1 0, ⟨1, 0, .box (r.cells.map .d)⟩)], []⟩ ?_ (fun x hc => ?_))
  case refine_2 =>
    cases hT : hasText r.ty
    case false =>
      have hN' : r.text.length = 0 := by rw [hT] at eC; simp at eC; rw [eC]; rfl
      refine Kbc (Kf Y Y (Ke Y Y Y (Kp (ok_spec_l3texted _) ⟨Y, trivial⟩ Y Y Y Y Y (Kd (kCond Y (fun g0 => (by (simp [*] at g0))) (fun g0 => Kbc (Kf Y Y (Ke Y Y Y (Kq Y Y (Kj Y Y Y (Kd (Km Y (fun g1 => om) (fun g1 => Kn (hc _ .normA))))))))))))))
    case true =>
      have hN' : r.text.length ≤ 40 := by rw [hT] at eC; simp at eC; omega
      refine Kbc (Kf Y Y (Ke Y Y Y (Kp (ok_spec_l3texted _) ⟨Y, trivial⟩ Y Y Y Y Y (Kd (kCond Y (fun g0 => Kbc (Kf Y Y (Ke Y Y Y (Kq Y Y (Kj Y Y Y (Kd (Km Y (fun g1 => om) (fun g1 => Kn (hc _ .normA))))))))) (fun g0 => (by (simp [*] at g0))))))))
  rw [show dataOk r = (if r.ty == 6 then numsOk r.nums else ((r.nums.length : Int) == 0)) by simp only [dataOk, eA, eB, eC, Bool.and_true]]
  clear eA eB eC hA
  refine Kb (Kbc (Kf Y Y (Ke Y Y Y (Kj Y Y Y (Kd (kCondIN Y (fun g0 => Kbc (Kf Y Y (Ke Y Y Y (Kq Y Y (Kj Y Y Y (Ka Y (Kd (Kr (Er (ra := [.one (.d _)]) rfl ?_))))))))) (fun g0 => Kn (Kb (Kbc (Kf Y Y (Ke Y Y Y (Kq Y Y (Kj Y Y Y (Ka Y (kGIN Y (fun g1 => Kg Y (Kg Y (Kg Y (Kg Y (Kg Y (Kk Y (Ka Y (Ka Y (Kg Y (Kg Y (Kg Y (Kg Y (Kg Y (Kk Y (Ka Y (Kd (kCondT Y (Kbc (Ka Y (Kd (Kr (Er (ra := [.one (.d _)]) rfl ?_)))))))))))))))))))))) (fun g1 => Ki Y (Kf Y Y (Ki Y (Ke Y Y Y (Ki Y (kIadR (m := 0) Y Y Y om (Ki Y (Ky Y Y (Ki Y (Kj Y Y Y (Kl Y (Ka Y (Ka Y (kGP Y (fun g2 => Kg Y (Kg Y (Kg Y (Kg Y (Kg Y (Kk Y (Ka Y (Kd (kCondT Y (Kbc (Ka Y (Kd (Kr (Er (ra := [.one (.d _)]) rfl ?_)))))))))))))) (fun g2 => Ki Y (Kf Y Y (Ki Y (Ke Y Y Y (Ki Y (kIadR (m := 0) Y Y Y om (Ki Y (Ky Y Y (Ki Y (Kj Y Y Y (Kl Y (Ka Y (Kd (Km Y (fun g3 => Kbc (Ka Y (Kd (Kr (Er (ra := [.one (.d _)]) rfl ?_))))) (fun g3 => Kn (Kbc (Kf Y Y (Ke Y Y Y (kIadR (m := 1) Y Y Y om (Ky Y Y (Kj Y Y Y (Ka Y (kGP Y (fun g4 => Ki Y (Kf Y Y (Ki Y (Ke Y Y Y (Ki Y (kIadR (m := 1) Y Y Y om (Ki Y (Ky Y Y (Ki Y (Kj Y Y Y (Kk Y (Ka Y (Ka Y (Kd (Kr (Er (ra := [.one (.d _)]) rfl ?_)))))))))))))))) (fun g4 => Kg Y (Kg Y (Kg Y (Kg Y (Kg Y (Kl Y (Ka Y (Ka Y (Kd (Kr (Er (ra := [.one (.d _)]) rfl ?_)))))))))))))))))))))))))))))))))))))))))))))))))))))))))))))))
  all_goals first
    | (simp [*]; done)
    | (rw [if_pos (by simpa using (by assumption : r.ty = 6)), numsOk, dif_pos (by assumption)]
       simp only [isW]
       refine congrArg (fun b : Bool => [RA.one (RV.d (DV.sc (Value.bool b)))]) ?_
       rw [Bool.eq_iff_iff]
       simp
       omega)

def c_spec_RrOk : C := (.g (.o 0 1 (.box 1 (.t 0)) (.o 1 2 (.mov (.v (.bool false))) .done)) (.g (.o 0 3 (.fad (.t 1) 0) (.o 1 4 (.load (some 1) (.t 3)) (.o 2 5 (.call 5 47 [(.t 4)]) (.o 3 6 (.mov (.t 5)) (.op 4 [] (some 7) (some (6, true)) false (.fad (.t 1) 1) (.op 5 [] (some 8) (some (6, true)) false (.load none (.t 7)) (.op 6 [] (some 9) (some (6, true)) false (.call 9 48 [(.t 8)]) (.o 7 10 (.pick (.t 6) (.t 9) (.v (.bool false))) (.o 8 11 (.mov (.t 10)) (.op 9 [] (some 12) (some (11, true)) false (.fad (.t 1) 2) (.op 10 [] (some 13) (some (11, true)) false (.load none (.t 12)) (.op 11 [] (some 14) (some (11, true)) false (.bin .geq (.t 13) (.i 0)) (.o 12 15 (.pick (.t 11) (.t 14) (.v (.bool false))) (.o 13 16 (.mov (.t 15)) (.op 14 [] (some 17) (some (16, true)) false (.fad (.t 1) 2) (.op 15 [] (some 18) (some (16, true)) false (.load none (.t 17)) (.op 16 [] (some 19) (some (16, true)) false (.bin .leq (.t 18) (.i 100000)) (.o 17 20 (.pick (.t 16) (.t 19) (.v (.bool false))) (.o 18 21 (.mov (.t 20)) (.op 19 [] (some 22) (some (21, true)) false (.load (some 7) (.t 1)) (.op 20 [] (some 23) (some (21, true)) false (.call 23 164 [(.t 22)]) (.o 21 24 (.pick (.t 21) (.t 23) (.v (.bool false))) (.o 22 2 (.mov (.t 24)) .done))))))))))))))))))))))) .ret))
theorem dg_spec_RrOk : Tryz.f73.body.bind (digC Tryz.prog Tryz.f73.ntmps []) = some c_spec_RrOk := by kernel_rfl
theorem rs_spec_RrOk : resSlots Tryz.prog Tryz.f73 = some [.s 2] := by kernel_rfl
theorem ok_spec_RrOk (r : Rr) (hs : SmallR r) :
    FnOK Tryz.prog 73 [.agg (r.cells.map .d)] (fun ra _ => ra = [.one (.d (.sc (.bool (rrOk r))))]) := by
  refine FnOK.ofK Tryz.func73 (by kernel_rfl) dg_spec_RrOk rs_spec_RrOk rfl rfl ?_
  delta c_spec_RrOk T.o X.i C.g
  have n1 := hs.n.len
  have n2 := hs.n.mem
  refine Kbc (kBox Y Y Y Y Y (Ka Y (Kdb (Kc (Kf Y Y (Ke Y Y Y (Kp (ok_spec_NameOk _ pr pr) ⟨⟨⟨Y, trivial⟩, leb⟩, trivial⟩ Y Y Y Y Y (Ka Y (kGS Y (fun g0 => Ki Y (Kf Y Y (Ki Y (Ke Y Y Y (Ki Y (Kp (ok_spec_TypeOk _) ⟨Y, trivial⟩ Y Y Y Y Y (Kk Y (Ka Y (Ka Y (kGS Y (fun g1 => Ki Y (Kf Y Y (Ki Y (Ke Y Y Y (Ki Y (Kj Y Y Y (Kk Y (Ka Y (Ka Y (kGP Y (fun g2 => Ki Y (Kf Y Y (Ki Y (Ke Y Y Y (Ki Y (Kj Y Y Y (Kk Y (Ka Y (Ka Y (kGP Y (fun g3 => Ki Y (Ke Y Y Y (Ki Y (Kp (ok_spec_l3data _ pr) ⟨⟨⟨Y, Y, Y, Y, Y, Y, Y, trivial⟩, leb⟩, trivial⟩ Y Y Y Y Y (Kk Y (Ka Y (Ka Y (Kd (Kr (Er (ra := [.one (.d _)]) rfl ?_)))))))))) (fun g3 => Kg Y (Kg Y (Kl Y (Ka Y (Ka Y (Kd (Kr (Er (ra := [.one (.d _)]) rfl ?_)))))))))))))))))) (fun g2 => Kg Y (Kg Y (Kg Y (Kl Y (Ka Y (Ka Y (Kg Y (Kg Y (Kl Y (Ka Y (Ka Y (Kd (Kr (Er (ra := [.one (.d _)]) rfl ?_)))))))))))))))))))))))) (fun g1 => Kg Y (Kg Y (Kg Y (Kl Y (Ka Y (Ka Y (Kg Y (Kg Y (Kg Y (Kl Y (Ka Y (Ka Y (Kg Y (Kg Y (Kl Y (Ka Y (Ka Y (Kd (Kr (Er (ra := [.one (.d _)]) rfl ?_)))))))))))))))))))))))))))))) (fun g0 => Kg Y (Kg Y (Kg Y (Kl Y (Ka Y (Ka Y (Kg Y (Kg Y (Kg Y (Kl Y (Ka Y (Ka Y (Kg Y (Kg Y (Kg Y (Kl Y (Ka Y (Ka Y (Kg Y (Kg Y (Kl Y (Ka Y (Ka Y (Kd (Kr (Er (ra := [.one (.d _)]) rfl ?_)))))))))))))))))))))))))))))))))))
  all_goals (simp only [rrOk, *]; first | rfl | (simp; done) | (simp; omega))

def c_spec_l3num : C := (.g (.o 0 4 (.mov (.i 0)) .done) (.seq (.g (.o 0 5 (.mov (.t 0)) (.o 1 6 (.mov (.t 1)) (.o 2 7 (.bin .lss (.t 5) (.t 6)) .done))) (.cond (.t 7) (.g (.o 0 4 (.mov (.i (-1))) .done) .ret) .skip)) (.seq (.g (.o 0 8 (.mov (.t 0)) (.o 1 9 (.mov (.t 1)) (.o 2 10 (.bin .gtr (.t 8) (.t 9)) .done))) (.cond (.t 10) (.g (.o 0 4 (.mov (.i 1)) .done) .ret) .skip)) (.g (.o 0 4 (.mov (.i 0)) .done) .ret))))
theorem dg_spec_l3num : Tryz.f165.body.bind (digC Tryz.prog Tryz.f165.ntmps []) = some c_spec_l3num := by kernel_rfl
theorem rs_spec_l3num : resSlots Tryz.prog Tryz.f165 = some [.s 4] := by kernel_rfl
theorem ok_spec_l3num (a b : Int) :
    FnOK Tryz.prog 165 [.one (.d (.sc (.int .i64 a))), .one (.d (.sc (.int .i64 b)))] (fun ra _ => ra = [.one (.d (.sc (.int .i64 (cmpI a b))))]) := by
  refine FnOK.ofK Tryz.func165 (by kernel_rfl) dg_spec_l3num rs_spec_l3num rfl rfl ?_
  delta c_spec_l3num T.o X.i C.g
  refine Kbc (Ka Y (Kdb (Kbc (Ka Y (Ka Y (Kj Y Y Y (Kd (Km Y (fun g0 => Kbc (Ka Y (Kd (Kr (Er (ra := [.one (.d _)]) rfl ?_))))) (fun g0 => Kn (Kb (Kbc (Ka Y (Ka Y (Kj Y Y Y (Kd (Km Y (fun g1 => Kbc (Ka Y (Kd (Kr (Er (ra := [.one (.d _)]) rfl ?_))))) (fun g1 => Kn (Kbc (Ka Y (Kd (Kr (Er (ra := [.one (.d _)]) rfl ?_))))))))))))))))))))))
  all_goals (refine congrArg (fun z : Int => [RA.one (RV.d (DV.sc (Value.int IntKind.i64 z)))]) ?_; unfold cmpI; split <;> first | omega | (split <;> omega))

def c_spec_Put32 : C := (.g (.o 0 4 (.mov (.n 1)) .done) (.g (.o 0 6 (.lit 6 1 [(.v (.int .u8 0))] 0 []) (.o 1 7 (.mov (.t 0)) (.o 2 8 (.app 8 1 1 (.t 6) (.t 7)) (.o 3 5 (.mov (.t 8)) .done)))) (.seq (.g (.o 0 9 (.mov (.t 1)) (.o 1 10 (.bin .lss (.t 9) (.i 0)) (.o 2 11 (.mov (.t 10)) (.op 3 [] (some 12) (some (11, false)) false (.mov (.t 1)) (.op 4 [] (some 13) (some (11, false)) false (.bin .geq (.t 12) (.i 4294967296)) (.o 5 14 (.pick (.t 11) (.v (.bool true)) (.t 13)) .done)))))) (.cond (.t 14) (.g (.o 0 15 (.mov (.t 5)) (.o 1 4 (.mov (.t 15)) .done)) .ret) .skip)) (.g (.o 0 16 (.mov (.t 5)) (.o 1 17 (.mov (.t 1)) (.o 2 18 (.bin .shr (.t 17) (.v (.int .u64 24))) (.o 3 19 (.conv .u8 (.t 18)) (.o 4 20 (.mov (.t 1)) (.o 5 21 (.bin .shr (.t 20) (.v (.int .u64 16))) (.o 6 22 (.conv .u8 (.t 21)) (.o 7 23 (.mov (.t 1)) (.o 8 24 (.bin .shr (.t 23) (.v (.int .u64 8))) (.o 9 25 (.conv .u8 (.t 24)) (.o 10 26 (.mov (.t 1)) (.o 11 27 (.conv .u8 (.t 26)) (.o 12 28 (.lit 28 1 [(.v (.int .u8 0))] 4 [(0, 1, (.t 19)), (1, 1, (.t 22)), (2, 1, (.t 25)), (3, 1, (.t 27))]) (.o 13 29 (.app 29 1 1 (.t 16) (.t 28)) (.o 14 4 (.mov (.t 29)) .done))))))))))))))) .ret))))
theorem dg_spec_Put32 : Tryz.f247.body.bind (digC Tryz.prog Tryz.f247.ntmps []) = some c_spec_Put32 := by kernel_rfl
theorem rs_spec_Put32 : resSlots Tryz.prog Tryz.f247 = some [.s 4] := by kernel_rfl
theorem ok_spec_Put32 (b : List UInt8) (n : Int) (hb : b.length ≤ 16777216) (h0 : 0 ≤ n) (h1 : n < 4294967296) :
    FnOK Tryz.prog 247 [.one (.d (encB b)), .one (.d (.sc (.int .i64 n)))] (fun ra _ => ra = [.one (.own true (encB (b ++ w4 n)))]) := by
  refine FnOK.ofK Tryz.func247 (by kernel_rfl) dg_spec_Put32 rs_spec_Put32 rfl rfl ?_
  delta c_spec_Put32 T.o X.i C.g
  refine Kbc (Ka Y (Kdb (Kc (kLit Y Y Y Y (Ka Y (kAppN Y Y Y (src_encB _ _) rfl rfl rfl rfl om (Ka Y (Kdb (Kbc (Ka Y (Kj Y Y Y (Ka Y (kGP Y (fun g0 => om) (fun g0 => Ki Y (Ka Y (Ki Y (Kj Y Y Y (Kl Y (Ka Y (Kd (Km Y (fun g1 => om) (fun g1 => Kn (Kbc (Ka Y (Ka Y (kShr (m := 24) Y Y Y (kConvU8 Y (Ka Y (kShr (m := 16) Y Y Y (kConvU8 Y (Ka Y (kShr (m := 8) Y Y Y (kConvU8 Y (Ka Y (kConvU8 Y (kLit Y Y Y Y (kAppR4 Y Y Y Y Y Y Y Y om (Ka Y (Kd (Kr (Er (ra := [.one (.own true _)]) rfl rfl)))))))))))))))))))))))))))))))))))))))))
theorem ok_spec_Put32_nil (n : Int) (h0 : 0 ≤ n) (h1 : n < 4294967296) :
    FnOK Tryz.prog 247 [.one (.d (.sl 1 [])), .one (.d (.sc (.int .i64 n)))] (fun ra _ => ra = [.one (.own true (encB (w4 n)))]) := ok_spec_Put32 [] n (Nat.zero_le _) h0 h1

def c_spec_l2put : C := (.g (.o 0 3 (.box 3 (.t 1)) (.o 1 4 (.mov (.n 1)) .done)) (.seq (.g (.o 0 5 (.mov (.i 0)) .done) (.block 0 (.loop (.seq (.g (.o 0 6 (.mov (.t 5)) (.o 1 7 (.fad (.t 3) 0) (.o 2 8 (.load none (.t 7)) (.o 3 9 (.len (.t 8)) (.o 4 10 (.bin .lss (.t 6) (.t 9)) .done))))) (.cond (.t 10) .skip (.exit 0))) (.seq (.block 1 (.reg true (.op 0 [] (some 13) none true (.mov (.t 0)) (.op 1 [] (some 14) none true (.fad (.t 3) 0) (.op 2 [] (some 15) none true (.load none (.t 14)) (.op 3 [] (some 16) none true (.mov (.t 5)) (.op 4 [] (some 17) none true (.iad 1 (.t 15) (.t 16)) (.op 5 [] (some 18) none true (.load none (.t 17)) (.op 6 [] (some 19) none true (.len (.t 18)) (.op 7 [] (some 20) none true (.conv .u8 (.t 19)) (.op 10 [] (some 23) none true (.fad (.t 3) 0) (.op 11 [] (some 24) none true (.load none (.t 23)) (.op 12 [] (some 25) none true (.mov (.t 5)) (.op 13 [] (some 26) none true (.iad 1 (.t 24) (.t 25)) (.op 14 [] (some 27) none true (.load none (.t 26)) (.op 8 [5, 2] (some 21) none false (.lit 21 1 [(.v (.int .u8 0))] 1 [(0, 1, (.t 20))]) (.op 9 [5, 2] (some 22) none false (.app 22 1 1 (.t 13) (.t 21)) (.op 15 [5, 14, 11] (some 28) none false (.app 28 1 1 (.t 22) (.t 27)) (.op 16 [] (some 0) none true (.mov (.t 28)) .done))))))))))))))))))) (.reg false (.o 0 11 (.mov (.t 5)) (.o 1 12 (.bin .add (.t 11) (.i 1)) (.o 2 5 (.mov (.t 12)) .done))))))))) (.g (.o 0 29 (.mov (.t 0)) (.o 1 30 (.lit 30 1 [(.v (.int .u8 0))] 1 [(0, 1, (.v (.int .u8 0)))]) (.o 2 31 (.app 31 1 1 (.t 29) (.t 30)) (.o 3 4 (.mov (.t 31)) .done)))) .ret)))
theorem dg_spec_l2put : Tryz.f155.body.bind (digC Tryz.prog Tryz.f155.ntmps []) = some c_spec_l2put := by kernel_rfl
theorem rs_spec_l2put : resSlots Tryz.prog Tryz.f155 = some [.s 4] := by kernel_rfl
theorem ok_spec_l2put (b : List UInt8) (a : List (List UInt8)) (hs : SmallBB a) (hb : b.length ≤ 16777216) :
    FnOK Tryz.prog 155 [.one (.arr true true (encB b)), .agg [.d (encBB a)]] (fun ra _ => ra = [.one (.own true (encB (b ++ wireN a)))]) := by
  refine FnOK.ofK Tryz.func155 (by kernel_rfl) dg_spec_l2put rs_spec_l2put rfl rfl ?_
  delta c_spec_l2put T.o X.i C.g
  have h1 := hs.len
  have h2 := hs.flat
  refine Kbc (kBox Y Y Y Y Y (Ka Y (Kdb (Kbc (Ka Y (Kd (Kt ?_)))))))
  refine kLoop (α := { i : Nat // i ≤ a.length }) (fun y => ⟨tabSl [(0, .c (.arr 0 1)), (3, .c (.ptr (rid 3 0) 1 0)), (5, .i y.1)], obTab 1 [(0, ⟨1, 0, .arr true (encB (b ++ wireL (a.take y.1)))⟩), (rid 3 0, ⟨1, 0, .box [.d (encBB a)]⟩)], []⟩) (fun y => a.length - y.1) ⟨0, by simp⟩ (by simp only [List.take_zero, wireL, List.flatMap_nil, List.append_nil]; exact .normA) ?_
  rintro ⟨i, hi⟩
  simp only
  have hl := wireL_le a i
  have hl2 : (b ++ wireL (a.take i)).length = b.length + (wireL (a.take i)).length := by simp
  rcases Nat.lt_or_ge i a.length with hlt | hge
  · have hst : b ++ wireL (a.take (i + 1)) = b ++ wireL (a.take i) ++ [u8 a[i].length] ++ a[i] := by rw [wireL_take a i hlt]; simp
    have hm := hs.mem _ (List.getElem_mem hlt)
    have hlen : (b ++ wireL (a.take i) ++ [u8 a[i].length]).length = (b ++ wireL (a.take i)).length + 1 := by simp only [List.length_append, List.length_cons, List.length_nil]
    refine Kb (Kbc (Ka Y (Kf Y Y (Ke Y Y Y (Kq Y Y (Kj Y Y Y (Kd (Km Y (fun g0 => Kn (Kb (Kt (kRegD (Ka Y (Kf Y Y (Ke Y Y Y (Ka Y (kIadR Y Y Y om (Ky Y Y (Kq Y Y (kConvU8 Y (Kf Y Y (Ke Y Y Y (Ka Y (kIadR Y Y Y om (Ky Y Y (Kx Y Y (kLit Y Y Y Y (Kx Y Y (kAppR1 Y Y Y Y Y Y Y Y om (Ks Y Y (kAppR Y Y Y (src_encB _ _) rfl rfl rfl rfl om (Ka Y (Kd (kH (Kv (Kc (Ka Y (kAdd Y Y om (Ka Y (Kd ?_)))))))))))))))))))))))))))))))) (fun g0 => om)))))))))
    refine kInv ⟨⟨i + 1, by omega⟩, by simp only; omega, ?_⟩
    simp only [hst]
    exact .normA
  · have he : b ++ wireN a = b ++ wireL (a.take i) ++ [0] := by rw [show i = a.length by omega, List.take_length]; simp [wireN]
    rw [he]
    refine Kb (Kbc (Ka Y (Kf Y Y (Ke Y Y Y (Kq Y Y (Kj Y Y Y (Kd (Km Y (fun g0 => om) (fun g0 => kExit (kExC (kExI (kExB (Kbc (Ka Y (kLit Y Y Y Y (kAppR1 (z := (0 : UInt8)) rfl rfl rfl rfl rfl rfl rfl rfl om (Ka Y (Kd (Kr (Er (ra := [.one (.own true _)]) rfl rfl))))))))))))))))))))
theorem ok_spec_l2put_nil (a : List (List UInt8)) (hs : SmallBB a) :
    FnOK Tryz.prog 155 [.one (.arr true true (.sl 1 [])), .agg [.d (encBB a)]] (fun ra _ => ra = [.one (.own true (encB (wireN a)))]) := ok_spec_l2put [] a hs (Nat.zero_le _)

def c_spec_l3put : C := (.g (.o 0 1 (.box 1 (.t 0)) (.o 1 2 (.mov (.n 1)) .done)) (.seq (.block 0 (.g (.o 0 4 (.fad (.t 1) 1) (.o 1 5 (.load none (.t 4)) (.o 2 6 (.bin .eql (.t 5) (.i 1)) (.o 3 3 (.mov (.t 6)) .done)))) (.cond (.t 3) (.g (.o 0 7 (.fad (.t 1) 3) (.o 1 8 (.load none (.t 7)) (.o 2 9 (.call 9 247 [(.n 1), (.t 8)]) (.o 3 2 (.mov (.t 9)) .done)))) .ret) (.g (.o 0 11 (.fad (.t 1) 1) (.o 1 12 (.load none (.t 11)) (.o 2 13 (.bin .eql (.t 12) (.i 6)) (.o 3 10 (.mov (.t 13)) .done)))) (.cond (.t 10) (.seq (.reg true (.op 0 [] (some 14) none true (.fad (.t 1) 4) (.op 1 [] (some 15) none true (.load (some 1) (.t 14)) (.op 3 [] (some 17) none true (.fad (.t 1) 6) (.op 4 [] (some 18) none true (.load none (.t 17)) (.op 5 [] (some 19) none true (.iad 1 (.t 18) (.i 0)) (.op 6 [] (some 20) none true (.load none (.t 19)) (.op 8 [] (some 22) none true (.fad (.t 1) 6) (.op 9 [] (some 23) none true (.load none (.t 22)) (.op 10 [] (some 24) none true (.iad 1 (.t 23) (.i 1)) (.op 11 [] (some 25) none true (.load none (.t 24)) (.op 2 [1] (some 16) none false (.call 16 155 [(.n 1), (.t 15)]) (.op 7 [1, 6, 4] (some 21) none false (.call 21 247 [(.t 16), (.t 20)]) (.op 12 [1, 6, 4, 11, 9] (some 26) none false (.call 26 247 [(.t 21), (.t 25)]) (.op 13 [] (some 2) none true (.mov (.t 26)) .done))))))))))))))) .ret) (.g (.o 0 28 (.fad (.t 1) 1) (.o 1 29 (.load none (.t 28)) (.o 2 30 (.call 30 245 [(.t 29)]) (.o 3 27 (.mov (.t 30)) .done)))) (.cond (.t 27) (.g (.o 0 31 (.fad (.t 1) 4) (.o 1 32 (.load (some 1) (.t 31)) (.o 2 33 (.call 33 155 [(.n 1), (.t 32)]) (.o 3 2 (.mov (.t 33)) .done)))) .ret) .skip))))))) (.g (.o 0 34 (.fad (.t 1) 5) (.o 1 35 (.load none (.t 34)) (.o 2 36 (.len (.t 35)) (.o 3 37 (.conv .u8 (.t 36)) (.o 4 38 (.lit 38 1 [(.v (.int .u8 0))] 1 [(0, 1, (.t 37))]) (.o 5 39 (.fad (.t 1) 5) (.o 6 40 (.load none (.t 39)) (.o 7 41 (.app 41 1 1 (.t 38) (.t 40)) (.o 8 2 (.mov (.t 41)) .done))))))))) .ret)))
theorem dg_spec_l3put : Tryz.f167.body.bind (digC Tryz.prog Tryz.f167.ntmps []) = some c_spec_l3put := by kernel_rfl
theorem rs_spec_l3put : resSlots Tryz.prog Tryz.f167 = some [.s 2] := by kernel_rfl
theorem ok_spec_l3put (r : Rr) (hs : SmallR r) (hk : rrOk r = true) :
    FnOK Tryz.prog 167 [.agg (r.cells.map .d)] (fun ra _ => ra = [.one (.own true (encB (rdata r)))]) := by
  refine FnOK.ofK Tryz.func167 (by kernel_rfl) dg_spec_l3put rs_spec_l3put rfl rfl ?_
  delta c_spec_l3put T.o X.i C.g
  have ht := hs.t
  have t1 := hs.t.len
  have t2 := hs.t.flat
  have x1 := hs.x
  have m1 := hs.m
  by_cases h1 : r.ty = 1
  · rw [rdata_A h1]
    have ha := rdata_ad hk h1
    refine Kbc (kBox Y Y Y Y Y (Ka Y (Kdb (Kt (Kbc (Kf Y Y (Ke Y Y Y (Kj Y Y Y (Ka Y (Kd (Km Y (fun g0 => Kbc (Kf Y Y (Ke Y Y Y (Ku true (ok_spec_Put32_nil _ pr pr) ⟨Y, Y, trivial⟩ Y Y Y (fun _ => (Ka Y (Kd (Kr (Er (ra := [.one (.own true _)]) rfl rfl))))))))) (fun g0 => om))))))))))))
  by_cases h6 : r.ty = 6
  · obtain ⟨h2, h3, h4, h5⟩ := rdata_soa hk h6
    rw [h5]
    have w1 := wireN_len r.to
    have w2 : (wireN r.to ++ w4 (r.nums[0]'(by omega))).length = (wireN r.to).length + 4 := by rw [List.length_append, w4_len]
    refine Kbc (kBox Y Y Y Y Y (Ka Y (Kdb (Kt (Kbc (Kf Y Y (Ke Y Y Y (Kj Y Y Y (Ka Y (Kd (Km Y (fun g0 => om) (fun g0 => Kbc (Kf Y Y (Ke Y Y Y (Kj Y Y Y (Ka Y (Kd (Km Y (fun g1 => Kb (kRegD (Kf Y Y (Ke Y Y Y (Kf Y Y (Ke Y Y Y (kIadR (m := 0) Y Y Y om (Ky Y Y (Kf Y Y (Ke Y Y Y (kIadR (m := 1) Y Y Y om (Ky Y Y (Kx Y Y (Ku true (ok_spec_l2put_nil _ pr) ⟨⟨rfl, rfl⟩, ⟨⟨Y, trivial⟩, leb⟩, trivial⟩ Y Y Y (fun _ => (Kx Y Y (Ku true (ok_spec_Put32 _ _ pr pr pr) ⟨Y, Y, trivial⟩ Y Y Y (fun _ => (Ks Y Y (Ku true (ok_spec_Put32 _ _ pr pr pr) ⟨Y, Y, trivial⟩ Y Y Y (fun _ => (Ka Y (Kd (kH (Kr (Er (ra := [.one (.own true _)]) rfl rfl)))))))))))))))))))))))))) (fun g1 => om)))))))))))))))))))
  have hn := rdata_nm hk h6
  cases h2 : hasTo r.ty
  · rw [rdata_text h1 h2]
    refine Kbc (kBox Y Y Y Y Y (Ka Y (Kdb (Kt (Kbc (Kf Y Y (Ke Y Y Y (Kj Y Y Y (Ka Y (Kd (Km Y (fun g0 => om) (fun g0 => Kbc (Kf Y Y (Ke Y Y Y (Kj Y Y Y (Ka Y (Kd (Km Y (fun g1 => om) (fun g1 => Kbc (Kf Y Y (Ke Y Y Y (Kp (ok_spec_l3named _) ⟨Y, trivial⟩ Y Y Y Y Y (Ka Y (Kd (kCond Y (fun g2 => (by (simp [*] at g2))) (fun g2 => Kn (Kv (Kbc (Kf Y Y (Ke Y Y Y (Kq Y Y (kConvU8 Y (kLit Y Y Y Y (Kf Y Y (Ke Y Y Y (kApp1R Y Y (src_encB _ _) rfl rfl rfl rfl rfl om (Ka Y (Kd (Kr (Er (ra := [.one (.own true _)]) rfl rfl))))))))))))))))))))))))))))))))))))))))
  · rw [rdata_to h1 h2, hn, List.flatMap_nil, List.append_nil]
    refine Kbc (kBox Y Y Y Y Y (Ka Y (Kdb (Kt (Kbc (Kf Y Y (Ke Y Y Y (Kj Y Y Y (Ka Y (Kd (Km Y (fun g0 => om) (fun g0 => Kbc (Kf Y Y (Ke Y Y Y (Kj Y Y Y (Ka Y (Kd (Km Y (fun g1 => om) (fun g1 => Kbc (Kf Y Y (Ke Y Y Y (Kp (ok_spec_l3named _) ⟨Y, trivial⟩ Y Y Y Y Y (Ka Y (Kd (kCond Y (fun g2 => Kbc (Kf Y Y (Ke Y Y Y (Ku true (ok_spec_l2put_nil _ pr) ⟨⟨rfl, rfl⟩, ⟨⟨Y, trivial⟩, leb⟩, trivial⟩ Y Y Y (fun _ => (Ka Y (Kd (Kr (Er (ra := [.one (.own true _)]) rfl rfl))))))))) (fun g2 => (by (simp [*] at g2))))))))))))))))))))))))))))

def c_spec_l3cmp : C := (.g (.o 0 2 (.box 2 (.t 0)) (.o 1 3 (.box 3 (.t 1)) (.o 2 4 (.mov (.i 0)) .done))) (.g (.o 0 6 (.fad (.t 2) 0) (.o 1 7 (.load (some 1) (.t 6)) (.o 2 8 (.fad (.t 3) 0) (.o 3 9 (.load (some 1) (.t 8)) (.o 4 10 (.call 10 77 [(.t 7), (.t 9)]) (.o 5 5 (.mov (.t 10)) .done)))))) (.seq (.g (.o 0 11 (.mov (.t 5)) (.o 1 12 (.bin .eql (.t 11) (.i 0)) .done)) (.cond (.t 12) (.reg false (.o 0 13 (.fad (.t 2) 1) (.o 1 14 (.load none (.t 13)) (.o 2 15 (.fad (.t 3) 1) (.o 3 16 (.load none (.t 15)) (.o 4 17 (.call 17 165 [(.t 14), (.t 16)]) (.o 5 5 (.mov (.t 17)) .done))))))) .skip)) (.seq (.g (.o 0 18 (.mov (.t 5)) (.o 1 19 (.bin .eql (.t 18) (.i 0)) .done)) (.cond (.t 19) (.reg true (.op 0 [] (some 20) none true (.load (some 7) (.t 2)) (.op 2 [] (some 22) none true (.load (some 7) (.t 3)) (.op 1 [0] (some 21) none false (.call 21 167 [(.t 20)]) (.op 3 [2, 0] (some 23) none false (.call 23 167 [(.t 22)]) (.op 4 [0, 2] (some 24) none false (.call 24 166 [(.t 21), (.t 23)]) (.op 5 [] (some 5) none true (.mov (.t 24)) .done))))))) .skip)) (.g (.o 0 25 (.mov (.t 5)) (.o 1 4 (.mov (.t 25)) .done)) .ret)))))
theorem dg_spec_l3cmp : Tryz.f75.body.bind (digC Tryz.prog Tryz.f75.ntmps []) = some c_spec_l3cmp := by kernel_rfl
theorem rs_spec_l3cmp : resSlots Tryz.prog Tryz.f75 = some [.s 4] := by kernel_rfl
theorem ok_spec_l3cmp (a b : Rr) (ha : SmallR a) (hb : SmallR b) (ka : rrOk a = true) (kb : rrOk b = true) :
    FnOK Tryz.prog 75 [.agg (a.cells.map .d), .agg (b.cells.map .d)] (fun ra _ => ra = [.one (.d (.sc (.int .i64 (cmpR a b))))]) := by
  refine FnOK.ofK Tryz.func75 (by kernel_rfl) dg_spec_l3cmp rs_spec_l3cmp rfl rfl ?_
  delta c_spec_l3cmp T.o X.i C.g
  have n1 := ha.n.len
  have n2 := hb.n.len
  by_cases h1 : cmpN a.name b.name = 0
  · by_cases h2 : cmpI a.ty b.ty = 0
    · rw [show cmpR a b = cmpB (rdata a) (rdata b) by unfold cmpR; rw [if_pos h1, if_pos h2]]
      refine Kbc (kBox Y Y Y Y Y (kBox Y Y Y Y Y (Ka Y (Kdb (Kc (Kf Y Y (Ke Y Y Y (Kf Y Y (Ke Y Y Y (Kp (ok_spec_l2cmp _ _ pr pr) ⟨⟨⟨Y, trivial⟩, leb⟩, ⟨⟨Y, trivial⟩, leb⟩, trivial⟩ Y Y Y Y Y (Ka Y (Kdb (Kbc (Ka Y (Kj Y Y Y (Kd (Km Y (fun g0 => Kc (Kf Y Y (Ke Y Y Y (Kf Y Y (Ke Y Y Y (Kp (ok_spec_l3num _ _) ⟨Y, Y, trivial⟩ Y Y Y Y Y (Ka Y (Kdb (Kbc (Ka Y (Kj Y Y Y (Kd (Km Y (fun g1 => kRegD (Ke Y Y Y (Ke Y Y Y (Kx Y Y (Ku true (ok_spec_l3put _ pr pr) ⟨⟨⟨Y, Y, Y, Y, Y, Y, Y, trivial⟩, leb⟩, trivial⟩ Y Y Y (fun _ => (Ks Y Y (Ku true (ok_spec_l3put _ pr pr) ⟨⟨⟨Y, Y, Y, Y, Y, Y, Y, trivial⟩, leb⟩, trivial⟩ Y Y Y (fun _ => (Ks Y Y (Kp (ok_spec_l2bytes _ _) ⟨Y, Y, trivial⟩ Y Y Y Y Y (Ka Y (Kd (kH (Kbc (Ka Y (Ka Y (Kd (Kr (Er (ra := [.one (.d _)]) rfl rfl)))))))))))))))))))) (fun g1 => om)))))))))))))) (fun g0 => om))))))))))))))))))
    · rw [show cmpR a b = cmpI a.ty b.ty by unfold cmpR; rw [if_pos h1, if_neg h2]]
      refine Kbc (kBox Y Y Y Y Y (kBox Y Y Y Y Y (Ka Y (Kdb (Kc (Kf Y Y (Ke Y Y Y (Kf Y Y (Ke Y Y Y (Kp (ok_spec_l2cmp _ _ pr pr) ⟨⟨⟨Y, trivial⟩, leb⟩, ⟨⟨Y, trivial⟩, leb⟩, trivial⟩ Y Y Y Y Y (Ka Y (Kdb (Kbc (Ka Y (Kj Y Y Y (Kd (Km Y (fun g0 => Kc (Kf Y Y (Ke Y Y Y (Kf Y Y (Ke Y Y Y (Kp (ok_spec_l3num _ _) ⟨Y, Y, trivial⟩ Y Y Y Y Y (Ka Y (Kdb (Kbc (Ka Y (Kj Y Y Y (Kd (Km Y (fun g1 => om) (fun g1 => Kn (Kbc (Ka Y (Ka Y (Kd (Kr (Er (ra := [.one (.d _)]) rfl rfl)))))))))))))))))))) (fun g0 => om))))))))))))))))))
  · rw [show cmpR a b = cmpN a.name b.name by unfold cmpR; rw [if_neg h1]]
    refine Kbc (kBox Y Y Y Y Y (kBox Y Y Y Y Y (Ka Y (Kdb (Kc (Kf Y Y (Ke Y Y Y (Kf Y Y (Ke Y Y Y (Kp (ok_spec_l2cmp _ _ pr pr) ⟨⟨⟨Y, trivial⟩, leb⟩, ⟨⟨Y, trivial⟩, leb⟩, trivial⟩ Y Y Y Y Y (Ka Y (Kdb (Kbc (Ka Y (Kj Y Y Y (Kd (Km Y (fun g0 => om) (fun g0 => Kn (Kb (Kbc (Ka Y (Kj Y Y Y (Kd (Km Y (fun g1 => om) (fun g1 => Kn (Kbc (Ka Y (Ka Y (Kd (Kr (Er (ra := [.one (.d _)]) rfl rfl)))))))))))))))))))))))))))))))

def c_spec_RrSame : C := (.g (.o 0 2 (.box 2 (.t 0)) (.o 1 3 (.box 3 (.t 1)) (.o 2 4 (.mov (.v (.bool false))) .done))) (.g (.o 0 5 (.load (some 7) (.t 2)) (.o 1 6 (.call 6 73 [(.t 5)]) (.o 2 7 (.mov (.t 6)) (.op 3 [] (some 8) (some (7, true)) false (.load (some 7) (.t 3)) (.op 4 [] (some 9) (some (7, true)) false (.call 9 73 [(.t 8)]) (.o 5 10 (.pick (.t 7) (.t 9) (.v (.bool false))) (.o 6 11 (.mov (.t 10)) (.op 7 [] (some 12) (some (11, true)) false (.load (some 7) (.t 2)) (.op 8 [] (some 13) (some (11, true)) false (.load (some 7) (.t 3)) (.op 9 [] (some 14) (some (11, true)) false (.call 14 75 [(.t 12), (.t 13)]) (.op 10 [] (some 15) (some (11, true)) false (.bin .eql (.t 14) (.i 0)) (.o 11 16 (.pick (.t 11) (.t 15) (.v (.bool false))) (.o 12 4 (.mov (.t 16)) .done))))))))))))) .ret))
theorem dg_spec_RrSame : Tryz.f61.body.bind (digC Tryz.prog Tryz.f61.ntmps []) = some c_spec_RrSame := by kernel_rfl
theorem rs_spec_RrSame : resSlots Tryz.prog Tryz.f61 = some [.s 4] := by kernel_rfl
theorem ok_spec_RrSame (a b : Rr) (ha : SmallR a) (hb : SmallR b) :
    FnOK Tryz.prog 61 [.agg (a.cells.map .d), .agg (b.cells.map .d)] (fun ra _ => ra = [.one (.d (.sc (.bool (sameR a b))))]) := by
  refine FnOK.ofK Tryz.func61 (by kernel_rfl) dg_spec_RrSame rs_spec_RrSame rfl rfl ?_
  delta c_spec_RrSame T.o X.i C.g
  refine Kbc (kBox Y Y Y Y Y (kBox Y Y Y Y Y (Ka Y (Kdb (Kc (Ke Y Y Y (Kp (ok_spec_RrOk _ pry) ⟨⟨⟨Y, Y, Y, Y, Y, Y, Y, trivial⟩, leb⟩, trivial⟩ Y Y Y Y Y (Ka Y (kGS Y (fun g0 => Ki Y (Ke Y Y Y (Ki Y (Kp (ok_spec_RrOk _ pry) ⟨⟨⟨Y, Y, Y, Y, Y, Y, Y, trivial⟩, leb⟩, trivial⟩ Y Y Y Y Y (Kk Y (Ka Y (Ka Y (kGS Y (fun g1 => Ki Y (Ke Y Y Y (Ki Y (Ke Y Y Y (Ki Y (Kp (ok_spec_l3cmp _ _ pry pry pry pry) ⟨⟨⟨Y, Y, Y, Y, Y, Y, Y, trivial⟩, leb⟩, ⟨⟨Y, Y, Y, Y, Y, Y, Y, trivial⟩, leb⟩, trivial⟩ Y Y Y Y Y (Ki Y (Kj Y Y Y (Kk Y (Ka Y (Ka Y (Kd (Kr (Er (ra := [.one (.d _)]) rfl ?_)))))))))))))) (fun g1 => Kg Y (Kg Y (Kg Y (Kg Y (Kl Y (Ka Y (Ka Y (Kd (Kr (Er (ra := [.one (.d _)]) rfl ?_)))))))))))))))))) (fun g0 => Kg Y (Kg Y (Kl Y (Ka Y (Ka Y (Kg Y (Kg Y (Kg Y (Kg Y (Kl Y (Ka Y (Ka Y (Kd (Kr (Er (ra := [.one (.d _)]) rfl ?_))))))))))))))))))))))))
  all_goals (refine congrArg (fun z : Bool => [RA.one (RV.d (DV.sc (Value.bool z)))]) ?_; rw [Bool.eq_iff_iff]; simp [sameR, *])

def rA : Rr := ⟨[[97]], 1, 5, 7, [], [], []⟩
def sA : Slot := ⟨[[97]], 1, 1, [rA], 1, 5, 1⟩
theorem caches_put {d : Cache} {ok : Bool} (h : PutR ⟨0, 0, []⟩ [rA] 1 d ok) : ok = true ∧ d = ⟨0, 1, [sA]⟩ := by
  unfold PutR at h
  rw [if_pos (by first | decide | rfl)] at h
  unfold KeepR at h
  rw [if_neg (by first | decide | exact nofun)] at h
  obtain ⟨h1, h2⟩ := h
  refine ⟨h1, ?_⟩
  have hp := h2.p
  have hb : baseC ⟨0, 0, []⟩ (putS [rA] 1) ++ [newS ⟨0, 0, []⟩ (putS [rA] 1) ([rA].getD 0 ⟨[], 0, 0, 0, [], [], []⟩).ttl] = [sA] := by first | decide | rfl
  rw [hb, List.perm_singleton] at hp
  have hn := h2.n
  have ht := h2.t
  cases d
  simp only at hp hn ht
  rw [hp, hn, ht]
  rfl
theorem caches_get : cgL ⟨0, 1, [sA]⟩ [[97]] 1 = [rA] ∧ cgK ⟨0, 1, [sA]⟩ [[97]] 1 = 1 := by first | decide | exact ⟨rfl, rfl⟩

def c_laws_name : C := (.g (.o 0 2 (.alloc 2 [(.n 1)]) .done) (.g (.o 0 6 (.mov (.t 0)) (.o 1 7 (.s2b (.t 6)) (.o 2 8 (.call 8 170 [(.t 7)]) (.o 3 5 (.mov (.t 8)) (.o 4 9 (.ext (.t 5) 0) (.o 5 10 (.ext (.t 5) 1) (.o 6 3 (.alloc 3 [(.n 1)]) (.op 7 [] none none false (.store (some 1) (.t 3) (.t 9)) (.o 8 4 (.mov (.t 10)) .done))))))))) (.g (.o 0 11 (.load (some 1) (.t 3)) (.op 1 [] none none false (.store (some 1) (.t 2) (.t 11)) .done)) .ret)))
theorem dg_laws_name : Tryz.f79.body.bind (digC Tryz.prog Tryz.f79.ntmps []) = some c_laws_name := by kernel_rfl
theorem rs_laws_name : resSlots Tryz.prog Tryz.f79 = some [.m 2 (some 1)] := by kernel_rfl
theorem ok_laws_name (b : ByteArray) (hb : b.size ≤ 4194303) :
    FnOK Tryz.prog 79 [.one (.d (.sc (.string b)))] (fun ra _ => ra = [.agg [.own true (encBB (readN b.toList))]]) := by
  refine FnOK.ofK Tryz.func79 (by kernel_rfl) dg_laws_name rs_laws_name rfl rfl ?_
  delta c_laws_name T.o X.i C.g
  have h : b.toList.length ≤ 4194303 := by rw [bt_len]; exact hb
  refine Kbc (kAlloc Y Y (Kdb (Kc (Ka Y (kS2b Y om (Ku true (ok_spec_NameRead _ pry) ⟨Y, trivial⟩ Y Y Y (fun _ => (kMovT Y (kExtC Y Y (kExtC Y Y (kAlloc Y Y (Ko Y Y Y Y (Ka Y (Kdb (Kc (Ke Y Y Y (Ko Y Y Y Y (Kd (Kr (Er (ra := [.agg [(.own true _)]]) rfl rfl))))))))))))))))))))

def c_laws_sameRrs : C := (.g (.o 0 4 (.mov (.v (.bool false))) .done) (.seq (.g (.o 0 6 (.mov (.t 0)) (.o 1 7 (.len (.t 6)) (.o 2 8 (.mov (.t 1)) (.o 3 9 (.len (.t 8)) (.o 4 10 (.bin .neq (.t 7) (.t 9)) .done))))) (.cond (.t 10) (.g (.o 0 4 (.mov (.v (.bool false))) .done) .ret) .skip)) (.seq (.g (.o 0 5 (.mov (.i 0)) .done) (.block 0 (.loop (.seq (.g (.o 0 11 (.mov (.t 5)) (.o 1 12 (.mov (.t 0)) (.o 2 13 (.len (.t 12)) (.o 3 14 (.bin .lss (.t 11) (.t 13)) .done)))) (.cond (.t 14) .skip (.exit 0))) (.seq (.block 1 (.seq (.reg true (.op 0 [] (some 17) none true (.mov (.t 0)) (.op 1 [] (some 18) none true (.mov (.t 5)) (.op 2 [] (some 19) none true (.iad 7 (.t 17) (.t 18)) (.op 3 [] (some 20) none true (.load (some 7) (.t 19)) (.op 4 [] (some 21) none true (.mov (.t 1)) (.op 5 [] (some 22) none true (.mov (.t 5)) (.op 6 [] (some 23) none true (.iad 7 (.t 21) (.t 22)) (.op 7 [] (some 24) none true (.load (some 7) (.t 23)) (.op 8 [3, 7] (some 25) none false (.call 25 61 [(.t 20), (.t 24)]) (.op 9 [] (some 26) none true (.un .not (.t 25)) (.op 10 [] (some 27) none true (.mov (.t 26)) (.op 11 [] (some 28) (some (27, false)) true (.mov (.t 0)) (.op 12 [] (some 29) (some (27, false)) true (.mov (.t 5)) (.op 13 [] (some 30) (some (27, false)) true (.iad 7 (.t 28) (.t 29)) (.op 14 [] (some 31) (some (27, false)) true (.fad (.t 30) 2) (.op 15 [] (some 32) (some (27, false)) true (.load none (.t 31)) (.op 16 [] (some 33) (some (27, false)) true (.mov (.t 1)) (.op 17 [] (some 34) (some (27, false)) true (.mov (.t 5)) (.op 18 [] (some 35) (some (27, false)) true (.iad 7 (.t 33) (.t 34)) (.op 19 [] (some 36) (some (27, false)) true (.fad (.t 35) 2) (.op 20 [] (some 37) (some (27, false)) true (.load none (.t 36)) (.op 21 [] (some 38) (some (27, false)) true (.bin .neq (.t 32) (.t 37)) (.op 22 [] (some 39) none true (.pick (.t 27) (.v (.bool true)) (.t 38)) .done)))))))))))))))))))))))) (.cond (.t 39) (.g (.o 0 4 (.mov (.v (.bool false))) .done) .ret) .skip))) (.reg false (.o 0 15 (.mov (.t 5)) (.o 1 16 (.bin .add (.t 15) (.i 1)) (.o 2 5 (.mov (.t 16)) .done))))))))) (.g (.o 0 4 (.mov (.v (.bool true))) .done) .ret))))
theorem dg_laws_sameRrs : Tryz.f39.body.bind (digC Tryz.prog Tryz.f39.ntmps []) = some c_laws_sameRrs := by kernel_rfl
theorem rs_laws_sameRrs : resSlots Tryz.prog Tryz.f39 = some [.s 4] := by kernel_rfl
theorem ok_laws_sameRrs (a b : List Rr) (ha : SmallRs a) (hb : SmallRs b) :
    FnOK Tryz.prog 39 [.one (.d (encR a)), .one (.d (encR b))] (fun ra _ => ra = [.one (.d (.sc (.bool (sameRs a b))))]) := by
  refine FnOK.ofK Tryz.func39 (by kernel_rfl) dg_laws_sameRrs rs_laws_sameRrs rfl rfl ?_
  delta c_laws_sameRrs T.o X.i C.g
  have h1 := ha.len
  have h2 := hb.len
  by_cases hl : a.length = b.length
  case neg =>
    rw [show sameRs a b = false by unfold sameRs; simp [hl]]
    refine Kbc (Ka Y (Kdb (Kbc (Ka Y (Kq Y Y (Ka Y (Kq Y Y (Kj Y Y Y (Kd (kCondIN Y (fun g0 => Kbc (Ka Y (Kd (Kr (Er (ra := [.one (.d _)]) rfl rfl))))) (fun g0 => om)))))))))))
  refine Kbc (Ka Y (Kdb (Kbc (Ka Y (Kq Y Y (Ka Y (Kq Y Y (Kj Y Y Y (Kd (kCondIN Y (fun g0 => om) (fun g0 => Kn (Kb (Kbc (Ka Y (Kd (Kt ?_))))))))))))))))
  refine kLoop (α := { i : Nat // i ≤ a.length ∧ ∀ k < i, same1 a b k = true }) (fun y => ⟨tabSl [(0, .dv (encR a)), (1, .dv (encR b)), (5, .i y.1)], obTab 1 [], []⟩) (fun y => a.length - y.1) ⟨0, by simp⟩ .normA ?_
  rintro ⟨i, hi, hno⟩
  simp only
  rcases Nat.lt_or_ge i a.length with hlt | hge
  · have hbi := ha.mem _ (List.getElem_mem hlt)
    have hlt2 : i < b.length := by omega
    have hbi2 := hb.mem _ (List.getElem_mem hlt2)
    have hs1 := same1_eq hlt hlt2
    by_cases c1 : sameR a[i] b[i] = true ∧ a[i].ttl = b[i].ttl
    · obtain ⟨c2, c3⟩ := c1
      refine Kb (Kbc (Ka Y (Ka Y (Kq Y Y (Kj Y Y Y (Kd (Km Y (fun g0 => Kn (Kb (Kt (Kb (kRegD (Ka Y (Ka Y (kIadR Y Y Y prl (Ky Y Y (Ka Y (Ka Y (kIadR Y Y Y prl (Ky Y Y (Ks Y Y (Kp (ok_spec_RrSame _ _ prx prx) ⟨⟨⟨Y, Y, Y, Y, Y, Y, Y, trivial⟩, leb⟩, ⟨⟨Y, Y, Y, Y, Y, Y, Y, trivial⟩, leb⟩, trivial⟩ Y Y Y Y Y (Kw Y Y (Ka Y (kGN Y (fun g1 => (by (simp [*] at g1))) (fun g1 => Ki Y (Ka Y (Ki Y (Ka Y (Ki Y (kIadR Y Y Y prl (Ki Y (kFadD Y (Ki Y (Ky Y Y (Ki Y (Ka Y (Ki Y (Ka Y (Ki Y (kIadR Y Y Y prl (Ki Y (kFadD Y (Ki Y (Ky Y Y (Ki Y (Kj Y Y Y (Kl Y (Ka Y (Kd (kH (kCondIN Y (fun g2 => om) (fun g2 => Kn (Kv (Kc (Ka Y (kAdd Y Y om (Ka Y (Kd ?_)))))))))))))))))))))))))))))))))))))))))))))))))))) (fun g0 => om))))))))
      refine kInv ⟨⟨i + 1, by omega, fun k hk => ?_⟩, by simp only; omega, .normA⟩
      rcases Nat.lt_or_ge k i with h | h
      · exact hno k h
      · rw [show k = i by omega, hs1]; simp [c2, c3]
    · have hf : same1 a b i = false := by rw [hs1]; simpa using c1
      rw [show sameRs a b = false from sameRs_no hlt hf]
      have c4 : ¬ (sameR a[i] b[i] = true ∧ a[i].ttl = b[i].ttl) := c1
      refine Kb (Kbc (Ka Y (Ka Y (Kq Y Y (Kj Y Y Y (Kd (Km Y (fun g0 => Kn (Kb (Kt (Kb (kRegD (Ka Y (Ka Y (kIadR Y Y Y prl (Ky Y Y (Ka Y (Ka Y (kIadR Y Y Y prl (Ky Y Y (Ks Y Y (Kp (ok_spec_RrSame _ _ prx prx) ⟨⟨⟨Y, Y, Y, Y, Y, Y, Y, trivial⟩, leb⟩, ⟨⟨Y, Y, Y, Y, Y, Y, Y, trivial⟩, leb⟩, trivial⟩ Y Y Y Y Y (Kw Y Y (Ka Y (kGN Y (fun g1 => Kg Y (Kg Y (Kg Y (Kg Y (Kg Y (Kg Y (Kg Y (Kg Y (Kg Y (Kg Y (Kg Y (Kk Y (Ka Y (Kd (kH (kCondT Y (Kbc (Ka Y (Kd (Kr (Er (ra := [.one (.d _)]) rfl rfl))))))))))))))))))))) (fun g1 => Ki Y (Ka Y (Ki Y (Ka Y (Ki Y (kIadR Y Y Y prl (Ki Y (kFadD Y (Ki Y (Ky Y Y (Ki Y (Ka Y (Ki Y (Ka Y (Ki Y (kIadR Y Y Y prl (Ki Y (kFadD Y (Ki Y (Ky Y Y (Ki Y (Kj Y Y Y (Kl Y (Ka Y (Kd (kH (kCondIN Y (fun g2 => Kbc (Ka Y (Kd (Kr (Er (ra := [.one (.d _)]) rfl rfl))))) (fun g2 => Kn (Kv (Kc (Ka Y (kAdd Y Y om (Ka Y (Kd ?_)))))))))))))))))))))))))))))))))))))))))))))))))))) (fun g0 => om))))))))
      exact absurd ⟨by assumption, by assumption⟩ c4
  · have ht : sameRs a b = true := sameRs_yes hl fun k hk => hno k (by omega)
    rw [ht]
    refine Kb (Kbc (Ka Y (Ka Y (Kq Y Y (Kj Y Y Y (Kd (Km Y (fun g0 => om) (fun g0 => kExit (kExC (kExI (kExB (Kbc (Ka Y (Kd (Kr (Er (ra := [.one (.d _)]) rfl rfl))))))))))))))))

def c_spec_l2text : C := (.g (.o 0 1 (.box 1 (.t 0)) (.o 1 2 (.mov (.n 1)) .done)) (.seq (.g (.o 0 5 (.fad (.t 1) 0) (.o 1 6 (.load none (.t 5)) (.o 2 7 (.len (.t 6)) (.o 3 8 (.bin .eql (.t 7) (.i 0)) .done)))) (.cond (.t 8) (.g (.o 0 9 (.lit 9 1 [(.v (.int .u8 0))] 1 [(0, 1, (.v (.int .u8 46)))]) (.o 1 10 (.s2s (.t 9)) (.o 2 2 (.mov (.t 10)) .done))) .ret) .skip)) (.g (.o 0 3 (.mov (.n 1)) .done) (.seq (.g (.o 0 4 (.mov (.i 0)) .done) (.block 0 (.loop (.seq (.g (.o 0 11 (.mov (.t 4)) (.o 1 12 (.fad (.t 1) 0) (.o 2 13 (.load none (.t 12)) (.o 3 14 (.len (.t 13)) (.o 4 15 (.bin .lss (.t 11) (.t 14)) .done))))) (.cond (.t 15) .skip (.exit 0))) (.seq (.block 1 (.reg false (.o 0 18 (.mov (.t 3)) (.o 1 19 (.fad (.t 1) 0) (.o 2 20 (.load none (.t 19)) (.o 3 21 (.mov (.t 4)) (.o 4 22 (.iad 1 (.t 20) (.t 21)) (.o 5 23 (.load none (.t 22)) (.o 6 24 (.app 24 1 1 (.t 18) (.t 23)) (.o 7 25 (.lit 25 1 [(.v (.int .u8 0))] 1 [(0, 1, (.v (.int .u8 46)))]) (.o 8 26 (.app 26 1 1 (.t 24) (.t 25)) (.o 9 3 (.mov (.t 26)) .done)))))))))))) (.reg false (.o 0 16 (.mov (.t 4)) (.o 1 17 (.bin .add (.t 16) (.i 1)) (.o 2 4 (.mov (.t 17)) .done))))))))) (.g (.o 0 27 (.mov (.t 3)) (.o 1 2 (.mov (.t 27)) .done)) .ret)))))
theorem dg_spec_l2text : Tryz.f261.body.bind (digC Tryz.prog Tryz.f261.ntmps []) = some c_spec_l2text := by kernel_rfl
theorem rs_spec_l2text : resSlots Tryz.prog Tryz.f261 = some [.s 2] := by kernel_rfl
theorem ok_spec_l2text (a : List (List UInt8)) (ha : SmallBB a) :
    FnOK Tryz.prog 261 [.agg [.d (encBB a)]] (fun ra _ => ra = [.one (.d (encB (textN a)))]) := by
  refine FnOK.ofK Tryz.func261 (by kernel_rfl) dg_spec_l2text rs_spec_l2text rfl rfl ?_
  delta c_spec_l2text T.o X.i C.g
  have a1 := ha.len
  have a2 := ha.flat
  refine Kbc (kBox Y Y Y Y Y (Ka Y (Kdb (Kbc (Kf Y Y (Ke Y Y Y (Kq Y Y (Kj Y Y Y (Kd (Km Y (fun g0 => Kbc (kLitG Y Y Y Y (kS2sB (y := 46) (ys := []) Y Y Y (Ka Y (Kd (Kr (Er (ra := [.one (.d _)]) rfl ?_))))))) (fun g0 => Kn (Kbc (Ka Y (Kdb (Kbc (Ka Y (Kd (Kt ?_))))))))))))))))))
  · have : a = [] := List.eq_nil_of_length_eq_zero (by omega)
    subst this; rfl
  have hne : a ≠ [] := fun h => g0 (by rw [h]; rfl)
  rw [show textN a = textL a by unfold textN; rw [if_neg hne]]
  refine kSub (Sub.nilArr (j := 3) (id := rid 5000 0) (sz := 1) rfl (by decide)) ?_
  refine kLoop (α := { i : Nat // i ≤ a.length }) (fun y => ⟨tabSl [(1, .c (.ptr (rid 1 0) 1 0)), (3, .c (.arr (rid 5000 0) 1)), (4, .i y.1)], obTab 1 [(rid 1 0, ⟨1, 0, .box [.d (encBB a)]⟩), (rid 5000 0, ⟨1, 0, .arr true (encB (textL (a.take y.1)))⟩)], []⟩) (fun y => a.length - y.1) ⟨0, by simp⟩ .normA ?_
  rintro ⟨i, hi⟩
  simp only
  have hle := textL_le a i
  rcases Nat.lt_or_ge i a.length with hlt | hge
  · have hst := textL_take a i hlt
    have hle2 := textL_le a (i + 1)
    have hle3 : (textL (a.take (i + 1))).length = (textL (a.take i)).length + a[i].length + 1 := by rw [hst]; simp only [List.length_append, List.length_cons, List.length_nil]
    refine Kb (Kbc (Ka Y (Kf Y Y (Ke Y Y Y (Kq Y Y (Kj Y Y Y (Kd (Km Y (fun g0 => Kn (Kb (Kt (Kc (Ka Y (Kf Y Y (Ke Y Y Y (Ka Y (kIadR Y Y Y om (Ky Y Y (kAppR Y Y Y (src_encB _ _) rfl rfl rfl rfl prl (kLitG Y Y Y Y (kAppR1 (z := (46 : UInt8)) rfl rfl rfl rfl rfl rfl rfl rfl prl (Ka Y (Kd (Kv (Kc (Ka Y (kAdd Y Y om (Ka Y (Kd ?_))))))))))))))))))))) (fun g0 => om)))))))))
    refine kInv ⟨⟨i + 1, by omega⟩, by simp only; omega, ?_⟩
    simp only [hst]
    exact .normA
  · refine Kb (Kbc (Ka Y (Kf Y Y (Ke Y Y Y (Kq Y Y (Kj Y Y Y (Kd (Km Y (fun g0 => om) (fun g0 => kExit (kExC (kExI (kExB (Kbc (Ka Y (Ka Y (Kd (Kr (Er (ra := [.one (.d _)]) rfl ?_))))))))))))))))))
    rw [show i = a.length by omega, List.take_length]

def c_spec_NameText : C := (.g (.o 0 1 (.box 1 (.t 0)) (.o 1 2 (.mov (.n 1)) .done)) (.seq (.g (.o 0 3 (.load (some 1) (.t 1)) (.o 1 4 (.call 4 47 [(.t 3)]) (.o 2 5 (.un .not (.t 4)) .done))) (.cond (.t 5) (.g (.o 0 2 (.mov (.n 1)) .done) .ret) .skip)) (.g (.o 0 6 (.load (some 1) (.t 1)) (.o 1 7 (.call 7 261 [(.t 6)]) (.o 2 2 (.mov (.t 7)) .done))) .ret)))
theorem dg_spec_NameText : Tryz.f190.body.bind (digC Tryz.prog Tryz.f190.ntmps []) = some c_spec_NameText := by kernel_rfl
theorem rs_spec_NameText : resSlots Tryz.prog Tryz.f190 = some [.s 2] := by kernel_rfl
theorem ok_spec_NameText (a : List (List UInt8)) (ha : SmallBB a) :
    FnOK Tryz.prog 190 [.agg [.d (encBB a)]] (fun ra _ => ra = [.one (.d (encB (if nameOk a then textN a else [])))]) := by
  refine FnOK.ofK Tryz.func190 (by kernel_rfl) dg_spec_NameText rs_spec_NameText rfl rfl ?_
  delta c_spec_NameText T.o X.i C.g
  have a1 := ha.len
  have a2 := ha.mem
  cases hno : nameOk a
  · refine Kbc (kBox Y Y Y Y Y (Ka Y (Kdb (Kbc (Ke Y Y Y (Kp (ok_spec_NameOk _ pry pry) ⟨⟨⟨Y, trivial⟩, leb⟩, trivial⟩ Y Y Y Y Y (Kw Y Y (Kd (kCondN Y (fun g0 => Kbc (Ka Y (Kd (Kr (Er (ra := [.one (.d _)]) rfl rfl))))) (fun g0 => (by (simp [*] at g0))))))))))))
    all_goals rfl
  · refine Kbc (kBox Y Y Y Y Y (Ka Y (Kdb (Kbc (Ke Y Y Y (Kp (ok_spec_NameOk _ pry pry) ⟨⟨⟨Y, trivial⟩, leb⟩, trivial⟩ Y Y Y Y Y (Kw Y Y (Kd (kCondN Y (fun g0 => (by (simp [*] at g0))) (fun g0 => Kn (Kbc (Ke Y Y Y (kCallD2 (ok_spec_l2text _ pry) ⟨⟨⟨Y, trivial⟩, leb⟩, trivial⟩ Y Y Y Y (Ka Y (Kd (Kr (Er (ra := [.one (.d _)]) rfl rfl)))))))))))))))))
    all_goals rfl

def c_laws_same : C := (.g (.o 0 4 (.mov (.v (.bool false))) .done) (.g (.o 0 5 (.mov (.t 0)) (.o 1 6 (.b2s (.t 5)) (.o 2 7 (.mov (.t 1)) (.o 3 8 (.b2s (.t 7)) (.o 4 9 (.bin .eql (.t 6) (.t 8)) (.o 5 4 (.mov (.t 9)) .done)))))) .ret))
theorem dg_laws_same : Tryz.f17.body.bind (digC Tryz.prog Tryz.f17.ntmps []) = some c_laws_same := by kernel_rfl
theorem rs_laws_same : resSlots Tryz.prog Tryz.f17 = some [.s 4] := by kernel_rfl
theorem ok_laws_same (a b : List UInt8) :
    FnOK Tryz.prog 17 [.one (.d (encB a)), .one (.d (encB b))] (fun ra _ => ra = [.one (.d (.sc (.bool (decide (a = b)))))]) := by
  refine FnOK.ofK Tryz.func17 (by kernel_rfl) dg_laws_same rs_laws_same rfl rfl ?_
  delta c_laws_same T.o X.i C.g
  refine Kbc (Ka Y (Kdb (Kc (Ka Y (kB2s Y Y (Ka Y (kB2s Y Y (Kj Y Y Y (Ka Y (Kd (Kr (Er (ra := [.one (.d _)]) rfl ?_))))))))))))
  refine congrArg (fun z : Bool => [RA.one (RV.d (DV.sc (Value.bool z)))]) ?_
  rw [ByteArray.toList_eq, ByteArray.toList_eq, Bool.eq_iff_iff]
  simp

def c_laws_sameName : C := (.g (.o 0 2 (.box 2 (.t 0)) (.o 1 3 (.box 3 (.t 1)) (.o 2 4 (.mov (.v (.bool false))) .done))) (.seq (.reg true (.op 0 [] (some 5) none true (.load (some 1) (.t 2)) (.op 2 [] (some 7) none true (.load (some 1) (.t 3)) (.op 1 [0] (some 6) none false (.call 6 190 [(.t 5)]) (.op 3 [2, 0] (some 8) none false (.call 8 190 [(.t 7)]) (.op 4 [0, 2] (some 9) none false (.call 9 17 [(.t 6), (.t 8)]) (.op 5 [] (some 4) none true (.mov (.t 9)) .done))))))) .ret))
theorem dg_laws_sameName : Tryz.f108.body.bind (digC Tryz.prog Tryz.f108.ntmps []) = some c_laws_sameName := by kernel_rfl
theorem rs_laws_sameName : resSlots Tryz.prog Tryz.f108 = some [.s 4] := by kernel_rfl
theorem ok_laws_sameName (a b : List (List UInt8)) (ha : SmallBB a) (hb : SmallBB b) :
    FnOK Tryz.prog 108 [.agg [.d (encBB a)], .agg [.d (encBB b)]] (fun ra _ => ra = [.one (.d (.sc (.bool (decide ((if nameOk a then textN a else []) = (if nameOk b then textN b else []))))))]) := by
  refine FnOK.ofK Tryz.func108 (by kernel_rfl) dg_laws_sameName rs_laws_sameName rfl rfl ?_
  delta c_laws_sameName T.o X.i C.g
  refine Kbc (kBox Y Y Y Y Y (kBox Y Y Y Y Y (Ka Y (Kdb (kRegD (Ke Y Y Y (Ke Y Y Y (Kx Y Y (kCallD2 (ok_spec_NameText _ pry) ⟨⟨⟨Y, trivial⟩, leb⟩, trivial⟩ Y Y Y Y (Ks Y Y (kCallD2 (ok_spec_NameText _ pry) ⟨⟨⟨Y, trivial⟩, leb⟩, trivial⟩ Y Y Y Y (Ks Y Y (Kp (ok_laws_same _ _) ⟨Y, Y, trivial⟩ Y Y Y Y Y (Ka Y (Kd (kH (Kr (Er (ra := [.one (.d _)]) rfl rfl))))))))))))))))))

def c_laws_sameCache : C := (.g (.o 0 2 (.box 2 (.t 0)) (.o 1 3 (.box 3 (.t 1)) (.o 2 4 (.mov (.v (.bool false))) .done))) (.seq (.g (.o 0 8 (.fad (.t 2) 0) (.o 1 9 (.load none (.t 8)) (.o 2 10 (.fad (.t 3) 0) (.o 3 11 (.load none (.t 10)) (.o 4 12 (.bin .neq (.t 9) (.t 11)) (.o 5 13 (.mov (.t 12)) (.op 6 [] (some 14) (some (13, false)) false (.fad (.t 2) 1) (.op 7 [] (some 15) (some (13, false)) false (.load none (.t 14)) (.op 8 [] (some 16) (some (13, false)) false (.fad (.t 3) 1) (.op 9 [] (some 17) (some (13, false)) false (.load none (.t 16)) (.op 10 [] (some 18) (some (13, false)) false (.bin .neq (.t 15) (.t 17)) (.o 11 19 (.pick (.t 13) (.v (.bool true)) (.t 18)) (.o 12 20 (.mov (.t 19)) (.op 13 [] (some 21) (some (20, false)) false (.fad (.t 2) 2) (.op 14 [] (some 22) (some (20, false)) false (.load none (.t 21)) (.op 15 [] (some 23) (some (20, false)) false (.len (.t 22)) (.op 16 [] (some 24) (some (20, false)) false (.fad (.t 3) 2) (.op 17 [] (some 25) (some (20, false)) false (.load none (.t 24)) (.op 18 [] (some 26) (some (20, false)) false (.len (.t 25)) (.op 19 [] (some 27) (some (20, false)) false (.bin .neq (.t 23) (.t 26)) (.o 20 28 (.pick (.t 20) (.v (.bool true)) (.t 27)) .done))))))))))))))))))))) (.cond (.t 28) (.g (.o 0 4 (.mov (.v (.bool false))) .done) .ret) .skip)) (.seq (.g (.o 0 5 (.mov (.i 0)) .done) (.block 0 (.loop (.seq (.g (.o 0 29 (.mov (.t 5)) (.o 1 30 (.fad (.t 2) 2) (.o 2 31 (.load none (.t 30)) (.o 3 32 (.len (.t 31)) (.o 4 33 (.bin .lss (.t 29) (.t 32)) .done))))) (.cond (.t 33) .skip (.exit 0))) (.seq (.block 1 (.seq (.reg true (.op 0 [] (some 36) none true (.fad (.t 2) 2) (.op 1 [] (some 37) none true (.load none (.t 36)) (.op 2 [] (some 38) none true (.mov (.t 5)) (.op 3 [] (some 39) none true (.iad 7 (.t 37) (.t 38)) (.op 4 [] (some 40) none true (.load (some 7) (.t 39)) (.op 5 [] (some 41) none true (.fad (.t 3) 2) (.op 6 [] (some 42) none true (.load none (.t 41)) (.op 7 [] (some 43) none true (.mov (.t 5)) (.op 8 [] (some 44) none true (.iad 7 (.t 42) (.t 43)) (.op 9 [] (some 45) none true (.load (some 7) (.t 44)) (.alt (.o 10 6 (.alloc 6 [(.n 1), (.i 0), (.i 0), (.n 7), (.i 0), (.i 0), (.i 0)]) (.o 11 7 (.alloc 7 [(.n 1), (.i 0), (.i 0), (.n 7), (.i 0), (.i 0), (.i 0)]) (.op 12 [4, 1] none none false (.store (some 7) (.t 6) (.t 40)) (.op 13 [9, 6, 4, 1] none none false (.store (some 7) (.t 7) (.t 45)) .done)))) (.o 11 7 (.alloc 7 [(.n 1), (.i 0), (.i 0), (.n 7), (.i 0), (.i 0), (.i 0)]) (.o 10 6 (.alloc 6 [(.n 1), (.i 0), (.i 0), (.n 7), (.i 0), (.i 0), (.i 0)]) (.op 12 [4, 1] none none false (.store (some 7) (.t 6) (.t 40)) (.op 13 [9, 6, 4, 1] none none false (.store (some 7) (.t 7) (.t 45)) .done)))))))))))))))) (.g (.o 0 46 (.fad (.t 6) 0) (.o 1 47 (.load (some 1) (.t 46)) (.o 2 48 (.fad (.t 7) 0) (.o 3 49 (.load (some 1) (.t 48)) (.o 4 50 (.call 50 108 [(.t 47), (.t 49)]) (.o 5 51 (.un .not (.t 50)) (.o 6 52 (.mov (.t 51)) (.op 7 [] (some 53) (some (52, false)) false (.fad (.t 6) 1) (.op 8 [] (some 54) (some (52, false)) false (.load none (.t 53)) (.op 9 [] (some 55) (some (52, false)) false (.fad (.t 7) 1) (.op 10 [] (some 56) (some (52, false)) false (.load none (.t 55)) (.op 11 [] (some 57) (some (52, false)) false (.bin .neq (.t 54) (.t 56)) (.o 12 58 (.pick (.t 52) (.v (.bool true)) (.t 57)) (.o 13 59 (.mov (.t 58)) (.op 14 [] (some 60) (some (59, false)) false (.fad (.t 6) 2) (.op 15 [] (some 61) (some (59, false)) false (.load none (.t 60)) (.op 16 [] (some 62) (some (59, false)) false (.fad (.t 7) 2) (.op 17 [] (some 63) (some (59, false)) false (.load none (.t 62)) (.op 18 [] (some 64) (some (59, false)) false (.bin .neq (.t 61) (.t 63)) (.o 19 65 (.pick (.t 59) (.v (.bool true)) (.t 64)) (.o 20 66 (.mov (.t 65)) (.op 21 [] (some 67) (some (66, false)) false (.fad (.t 6) 3) (.op 22 [] (some 68) (some (66, false)) false (.load none (.t 67)) (.op 23 [] (some 69) (some (66, false)) false (.fad (.t 7) 3) (.op 24 [] (some 70) (some (66, false)) false (.load none (.t 69)) (.op 25 [] (some 71) (some (66, false)) false (.call 71 39 [(.t 68), (.t 70)]) (.op 26 [] (some 72) (some (66, false)) false (.un .not (.t 71)) (.o 27 73 (.pick (.t 66) (.v (.bool true)) (.t 72)) (.o 28 74 (.mov (.t 73)) (.op 29 [] (some 75) (some (74, false)) false (.fad (.t 6) 4) (.op 30 [] (some 76) (some (74, false)) false (.load none (.t 75)) (.op 31 [] (some 77) (some (74, false)) false (.fad (.t 7) 4) (.op 32 [] (some 78) (some (74, false)) false (.load none (.t 77)) (.op 33 [] (some 79) (some (74, false)) false (.bin .neq (.t 76) (.t 78)) (.o 34 80 (.pick (.t 74) (.v (.bool true)) (.t 79)) (.o 35 81 (.mov (.t 80)) (.op 36 [] (some 82) (some (81, false)) false (.fad (.t 6) 5) (.op 37 [] (some 83) (some (81, false)) false (.load none (.t 82)) (.op 38 [] (some 84) (some (81, false)) false (.fad (.t 7) 5) (.op 39 [] (some 85) (some (81, false)) false (.load none (.t 84)) (.op 40 [] (some 86) (some (81, false)) false (.bin .neq (.t 83) (.t 85)) (.o 41 87 (.pick (.t 81) (.v (.bool true)) (.t 86)) (.o 42 88 (.mov (.t 87)) (.op 43 [] (some 89) (some (88, false)) false (.fad (.t 6) 6) (.op 44 [] (some 90) (some (88, false)) false (.load none (.t 89)) (.op 45 [] (some 91) (some (88, false)) false (.fad (.t 7) 6) (.op 46 [] (some 92) (some (88, false)) false (.load none (.t 91)) (.op 47 [] (some 93) (some (88, false)) false (.bin .neq (.t 90) (.t 92)) (.o 48 94 (.pick (.t 88) (.v (.bool true)) (.t 93)) .done))))))))))))))))))))))))))))))))))))))))))))))))) (.cond (.t 94) (.g (.o 0 4 (.mov (.v (.bool false))) .done) .ret) .skip)))) (.reg false (.o 0 34 (.mov (.t 5)) (.o 1 35 (.bin .add (.t 34) (.i 1)) (.o 2 5 (.mov (.t 35)) .done))))))))) (.g (.o 0 4 (.mov (.v (.bool true))) .done) .ret))))
theorem dg_laws_sameCache : Tryz.f53.body.bind (digC Tryz.prog Tryz.f53.ntmps []) = some c_laws_sameCache := by kernel_rfl
theorem rs_laws_sameCache : resSlots Tryz.prog Tryz.f53 = some [.s 4] := by kernel_rfl
theorem ok_laws_sameCache (c : Cache) (hs : SmallSs c.slots) (hR : ∀ s ∈ c.slots, sameRs s.rrs s.rrs = true) :
    FnOK Tryz.prog 53 [.agg (c.cells.map .d), .agg (c.cells.map .d)] (fun ra _ => ra = [.one (.d (.sc (.bool true)))]) := by
  refine FnOK.ofK Tryz.func53 (by kernel_rfl) dg_laws_sameCache rs_laws_sameCache rfl rfl ?_
  delta c_laws_sameCache T.o X.i C.g
  have hl := hs.len
  refine Kbc (kBox Y Y Y Y Y (kBox Y Y Y Y Y (Ka Y (Kdb (Kbc (Kf Y Y (Ke Y Y Y (Kf Y Y (Ke Y Y Y (Kj Y Y Y (kMem [(12288, ⟨1, 0, .box [.d _, .d _, .d _]⟩), (16384, ⟨1, 0, .box [.d _, .d _, .d _]⟩)] ((12, .c (.d _)) :: (2, .c (.ptr 12288 1 0)) :: (14, .c (.un)) :: (3, .c (.ptr 16384 1 0)) :: (16, .c (.un)) :: (15, .c (.un)) :: (17, .c (.un)) :: (13, .c (.un)) :: (18, .c (.un)) :: (19, .c (.un)) :: (21, .c (.un)) :: (22, .c (.un)) :: (24, .c (.un)) :: (25, .c (.un)) :: (23, .c (.un)) :: (26, .c (.un)) :: (20, .c (.un)) :: (27, .c (.un)) :: []) [] ⟨Y, Y, trivial⟩ ⟨Y, Y, Y, Y, Y, Y, Y, Y, Y, Y, Y, Y, Y, Y, Y, Y, Y, Y, trivial⟩ Y (Ka Y (kGIN Y (fun g0 => om) (fun g0 => Ki Y (Kf Y Y (Ki Y (Ke Y Y Y (Ki Y (Kf Y Y (Ki Y (Ke Y Y Y (Ki Y (Kj Y Y Y (Kl Y (Ka Y (Ka Y (kGIN Y (fun g1 => om) (fun g1 => kMem [(12288, ⟨1, 0, .box [.d _, .d _, .d _]⟩), (16384, ⟨1, 0, .box [.d _, .d _, .d _]⟩)] [(2, .c (.ptr 12288 1 0)), (21, .c (.un)), (22, .c (.un)), (3, .c (.ptr 16384 1 0)), (24, .c (.un)), (25, .c (.un)), (23, .c (.un)), (26, .c (.un)), (20, .c (.d _)), (27, .c (.un))] [] ⟨Y, Y, trivial⟩ ⟨Y, Y, Y, Y, Y, Y, Y, Y, Y, Y, trivial⟩ Y (Ki Y (Kf Y Y (Ki Y (Ke Y Y Y (Ki Y (Kq Y Y (Ki Y (Kf Y Y (Ki Y (Ke Y Y Y (Ki Y (Kq Y Y (Ki Y (Kj Y Y Y (Kl Y (Ka Y (Kd (kCondIN Y (fun g2 => om) (fun g2 => Kn (Kb (Kbc (Ka Y (Kd (Kt ?_))))))))))))))))))))))))))))))))))))))))))))))))))))
  refine kLoop (α := { i : Nat // i ≤ c.slots.length }) (fun y => ⟨tabSl [(2, .c (.ptr (rid 2 0) 1 0)), (3, .c (.ptr (rid 3 0) 1 0)), (5, .i y.1)], obTab 1 [(rid 2 0, ⟨1, 0, .box (c.cells.map .d)⟩), (rid 3 0, ⟨1, 0, .box (c.cells.map .d)⟩)], []⟩) (fun y => c.slots.length - y.1) ⟨0, Nat.zero_le _⟩ .normA ?_
  rintro ⟨i, hi⟩
  simp only
  rcases Nat.lt_or_ge i c.slots.length with hlt | hge
  · have hm := hs.mem _ (List.getElem_mem hlt)
    have hn1 := hm.n
    have hr1 := hm.r
    have hq := hR _ (List.getElem_mem hlt)
    have hstopr := trivial
    refine Kb (Kbc (Ka Y (Kf Y Y (Ke Y Y Y (Kq Y Y (Kj Y Y Y (Kd (Km Y (fun g0 => Kn (Kb (Kt (Kb ?_)))) (fun g0 => om)))))))))
    clear hstopr
    refine kCut ⟨tabSl [(2, .c (.ptr (rid 2 0) 1 0)), (3, .c (.ptr (rid 3 0) 1 0)), (5, .i i), (6, .c (.ptr (rid 6 0) 1 0)), (7, .c (.ptr (rid 7 0) 1 0))], obTab 1 [(rid 2 0, ⟨1, 0, .box (c.cells.map .d)⟩), (rid 3 0, ⟨1, 0, .box (c.cells.map .d)⟩), (rid 6 0, ⟨1, 0, .box (c.slots[i].cells.map .d)⟩), (rid 7 0, ⟨1, 0, .box (c.slots[i].cells.map .d)⟩)], []⟩ ?_ (fun x hc => ?_)
    case refine_2 => refine kRegD (kFadP rfl rfl (kLoadP rfl rfl rfl (kMovC rfl (kIadR rfl rfl rfl prl (kLoadD rfl rfl (kMem [(16384, ⟨1, 0, .box [.d _, .d _, .d _]⟩)] [(3, .c (.ptr 16384 1 0)), (5, .c (.d _)), (40, .g [.d _, .d _, .d _, .d _, .d _, .d _, .d _])] [12288] ⟨rfl, trivial⟩ ⟨rfl, rfl, rfl, trivial⟩ rfl (kFadP rfl rfl (kLoadP rfl rfl rfl (kMovC rfl (kIadR rfl rfl rfl prl (kLoadD rfl rfl (kAlt (kAlloc rfl rfl (kAlloc rfl rfl (kMem [(28672, ⟨2, 0, .box [.nil 1, .d _, .d _, .nil 7, .d _, .d _, .d _]⟩), (32768, ⟨2, 0, .box [.nil 1, .d _, .d _, .nil 7, .d _, .d _, .d _]⟩)] [(6, .c (.ptr 28672 2 0)), (40, .g [.d _, .d _, .d _, .d _, .d _, .d _, .d _]), (7, .c (.ptr 32768 2 0)), (45, .g [.d _, .d _, .d _, .d _, .d _, .d _, .d _])] [16384, 12288] ⟨rfl, rfl, trivial⟩ ⟨rfl, rfl, rfl, rfl, trivial⟩ rfl (kRelK rfl rfl (kStoreP rfl rfl rfl rfl (kMem [(32768, ⟨2, 0, .box [.nil 1, .d _, .d _, .nil 7, .d _, .d _, .d _]⟩)] [(7, .c (.ptr 32768 2 0)), (45, .g [.d _, .d _, .d _, .d _, .d _, .d _, .d _])] [16384, 12288] ⟨rfl, trivial⟩ ⟨rfl, rfl, trivial⟩ rfl (kRelF rfl rfl (kStoreP rfl rfl rfl rfl (kDone (kH (kMem [(12288, ⟨1, 0, .box [.d _, .d _, .d _]⟩), (16384, ⟨1, 0, .box [.d _, .d _, .d _]⟩), (28672, ⟨2, 0, .box [.d _, .d _, .d _, .d _, .d _, .d _, .d _]⟩), (32768, ⟨2, 0, .box [.d _, .d _, .d _, .d _, .d _, .d _, .d _]⟩)] [(2, .c (.ptr 12288 1 0)), (3, .c (.ptr 16384 1 0)), (5, .c (.d _)), (6, .c (.ptr 28672 2 0)), (7, .c (.ptr 32768 2 0))] [] ⟨rfl, rfl, rfl, rfl, trivial⟩ ⟨rfl, rfl, rfl, rfl, rfl, trivial⟩ rfl (hc _ .normA)))))))))))) (kAlloc rfl rfl (kAlloc rfl rfl (kMem [(28672, ⟨2, 0, .box [.nil 1, .d _, .d _, .nil 7, .d _, .d _, .d _]⟩), (32768, ⟨2, 0, .box [.nil 1, .d _, .d _, .nil 7, .d _, .d _, .d _]⟩)] [(6, .c (.ptr 28672 2 0)), (40, .g [.d _, .d _, .d _, .d _, .d _, .d _, .d _]), (7, .c (.ptr 32768 2 0)), (45, .g [.d _, .d _, .d _, .d _, .d _, .d _, .d _])] [16384, 12288] ⟨rfl, rfl, trivial⟩ ⟨rfl, rfl, rfl, rfl, trivial⟩ rfl (kRelK rfl rfl (kStoreP rfl rfl rfl rfl (kMem [(32768, ⟨2, 0, .box [.nil 1, .d _, .d _, .nil 7, .d _, .d _, .d _]⟩)] [(7, .c (.ptr 32768 2 0)), (45, .g [.d _, .d _, .d _, .d _, .d _, .d _, .d _])] [16384, 12288] ⟨rfl, trivial⟩ ⟨rfl, rfl, trivial⟩ rfl (kRelF rfl rfl (kStoreP rfl rfl rfl rfl (kDone (kH (kMem [(12288, ⟨1, 0, .box [.d _, .d _, .d _]⟩), (16384, ⟨1, 0, .box [.d _, .d _, .d _]⟩), (28672, ⟨2, 0, .box [.d _, .d _, .d _, .d _, .d _, .d _, .d _]⟩), (32768, ⟨2, 0, .box [.d _, .d _, .d _, .d _, .d _, .d _, .d _]⟩)] [(2, .c (.ptr 12288 1 0)), (3, .c (.ptr 16384 1 0)), (5, .c (.d _)), (6, .c (.ptr 28672 2 0)), (7, .c (.ptr 32768 2 0))] [] ⟨rfl, rfl, rfl, rfl, trivial⟩ ⟨rfl, rfl, rfl, rfl, rfl, trivial⟩ rfl (hc _ .normA))))))))))))))))))))))))
    refine Kbc (Kf Y Y (Ke Y Y Y (Kf Y Y (Ke Y Y Y (Kp (ok_laws_sameName _ _ prx prx) ⟨⟨⟨Y, trivial⟩, leb⟩, ⟨⟨Y, trivial⟩, leb⟩, trivial⟩ Y Y Y Y Y (Kw Y Y (Ka Y (kGN Y (fun g0 => (by (simp at g0))) (fun g0 => Ki Y (Kf Y Y (Ki Y (Ke Y Y Y (kMem [(32768, ⟨1, 0, .box [.d _, .d _, .d _, .d _, .d _, .d _, .d _]⟩), (28672, ⟨1, 0, .box [.d _, .d _, .d _, .d _, .d _, .d _, .d _]⟩)] [(7, .c (.ptr 32768 1 0)), (54, .c (.d _)), (52, .c (.d _)), (6, .c (.ptr 28672 1 0))] [] ⟨Y, Y, trivial⟩ ⟨Y, Y, Y, Y, trivial⟩ Y (Ki Y (Kf Y Y (Ki Y (Ke Y Y Y (Ki Y (Kj Y Y Y (Kl Y (Ka Y (Ka Y (kGIN Y (fun g1 => om) (fun g1 => Ki Y (Kf Y Y (Ki Y (Ke Y Y Y (Ki Y (Kf Y Y (Ki Y (Ke Y Y Y (kMem [(28672, ⟨1, 0, .box [.d _, .d _, .d _, .d _, .d _, .d _, .d _]⟩), (32768, ⟨1, 0, .box [.d _, .d _, .d _, .d _, .d _, .d _, .d _]⟩)] [(61, .c (.d _)), (63, .c (.d _)), (59, .c (.d _)), (6, .c (.ptr 28672 1 0)), (7, .c (.ptr 32768 1 0))] [] ⟨Y, Y, trivial⟩ ⟨Y, Y, Y, Y, Y, trivial⟩ Y (Ki Y (Kj Y Y Y (Kl Y (Ka Y (Ka Y (kGIN Y (fun g2 => om) (fun g2 => Ki Y (Kf Y Y (Ki Y (Ke Y Y Y (Ki Y (Kf Y Y (Ki Y (Ke Y Y Y (Ki Y (Kp (ok_laws_sameRrs _ _ prx prx) ⟨Y, Y, trivial⟩ Y Y Y Y Y (Ki Y (Kw Y Y (kMem [(28672, ⟨1, 0, .box [.d _, .d _, .d _, .d _, .d _, .d _, .d _]⟩), (32768, ⟨1, 0, .box [.d _, .d _, .d _, .d _, .d _, .d _, .d _]⟩)] [(66, .c (.d _)), (72, .c (.d _)), (6, .c (.ptr 28672 1 0)), (7, .c (.ptr 32768 1 0))] [] ⟨Y, Y, trivial⟩ ⟨Y, Y, Y, Y, trivial⟩ Y (Kl Y (Ka Y (Ka Y (kGN Y (fun g3 => (by (simp [*] at g3))) (fun g3 => Ki Y (Kf Y Y (Ki Y (Ke Y Y Y (Ki Y (Kf Y Y (Ki Y (Ke Y Y Y (Ki Y (Kj Y Y Y (Kl Y (Ka Y (Ka Y (kMem [(28672, ⟨1, 0, .box [.d _, .d _, .d _, .d _, .d _, .d _, .d _]⟩), (32768, ⟨1, 0, .box [.d _, .d _, .d _, .d _, .d _, .d _, .d _]⟩)] [(6, .c (.ptr 28672 1 0)), (7, .c (.ptr 32768 1 0)), (81, .c (.d _))] [] ⟨Y, Y, trivial⟩ ⟨Y, Y, Y, trivial⟩ Y (kGIN Y (fun g4 => om) (fun g4 => Ki Y (Kf Y Y (Ki Y (Ke Y Y Y (Ki Y (Kf Y Y (Ki Y (Ke Y Y Y (Ki Y (Kj Y Y Y (Kl Y (Ka Y (Ka Y (kGIN Y (fun g5 => om) (fun g5 => Ki Y (Kf Y Y (kMem [(28672, ⟨1, 0, .box [.d _, .d _, .d _, .d _, .d _, .d _, .d _]⟩), (32768, ⟨1, 0, .box [.d _, .d _, .d _, .d _, .d _, .d _, .d _]⟩)] [(89, .c (.ptr 28672 1 6)), (7, .c (.ptr 32768 1 0)), (88, .c (.d _))] [] ⟨Y, Y, trivial⟩ ⟨Y, Y, Y, trivial⟩ Y (Ki Y (Ke Y Y Y (Ki Y (Kf Y Y (Ki Y (Ke Y Y Y (Ki Y (Kj Y Y Y (Kl Y (Ka Y (Kd (kCondIN Y (fun g6 => om) (fun g6 => Kn (Kv (Kc (Ka Y (kAdd Y Y om (Ka Y (Kd ?_))))))))))))))))))))))))))))))))))))))))))))))))))))))))))))))))))))))))))))))))))))))))))))))))))))))))))
    all_goals first | exact kInv ⟨⟨i + 1, by omega⟩, by simp only; omega, .normA⟩ | (exfalso; simp_all; done) | trace "GOALX"
  · refine Kb (Kbc (Ka Y (Kf Y Y (Ke Y Y Y (Kq Y Y (Kj Y Y Y (Kd (Km Y (fun g0 => om) (fun g0 => kExit (kExC (kExI (kExB (Kbc (Ka Y (Kd (Kr (Er (ra := [.one (.d _)]) rfl rfl)))))))))))))))))

set_option maxRecDepth 1000000 in
theorem slot_delete_walk (w : World) (b cap n i j : Nat) (cur : Array Value) (e : TypeId) (news : List Value) (hb : w.heap[b]? = some (.cells cur e (0, 0))) (hcap : n ≤ cap) (hm : cap ≤ 9223372036854775807) (hcur : cur.size = cap * 7)
    (hlt : i < j) (hj : j ≤ n) (hnl : news.length = (n - j) * 7) (hng : ∀ t, t < news.length → cur[j * 7 + t]? = news[t]?) (hn1 : ∀ u ∈ news, u.oneCell' = true) :
    Calls Tryz.prog 296 #[.slice (some ⟨b, 0, none⟩) n cap, .int .i64 i, .int .i64 j] w fun e w' => e = .returned (.slice (some ⟨b, 0, none⟩) (i + (n - j)) cap) ∧ ∃ zs : List Value, zs.length = (j - i) * 7 ∧ w' = (w.drew.setCells b (i * 7) news).setCells b ((i + (n - j)) * 7) zs := by
  have hs : (Tryz.prog.info? 100).map (fun i => i.size) = some 7 := by kernel_rfl
  obtain ⟨i0, hi0⟩ : ∃ i0, Tryz.prog.info? 100 = some i0 := by
    cases h : Tryz.prog.info? 100 with
    | none => rw [h] at hs; cases hs
    | some i => exact ⟨i, rfl⟩
  rw [hi0] at hs
  have hz1 : i0.size = 7 := by simpa using hs
  have t1 : Tryz.prog.underlying 47 = some (.slice 100) := by kernel_rfl
  obtain ⟨A, hA, hsrc⟩ : ∃ A : Addr, (if cap = j then some (⟨b, 0, none⟩ : Addr) else some ⟨b, j * 7, none⟩) = some A ∧ Go.RowKit.Hid (∀ t u, news[t]? = some u → w.drew.cell? (A.add t) = some u) := by
    by_cases h : cap = j
    · refine ⟨⟨b, 0, none⟩, by simp [h], fun t u hu => ?_⟩
      have h0 : news.length = 0 := by rw [hnl]; omega
      rw [List.length_eq_zero_iff.1 h0] at hu
      simp at hu
    · refine ⟨⟨b, j * 7, none⟩, by simp [h], fun t u hu => ?_⟩
      have ht : t < news.length := (List.getElem?_eq_some_iff.1 hu).1
      rw [Addr.add_lit]
      show w.cell? _ = _
      simp only [World.cell?, hb]
      rw [hng t ht]; exact hu
  have s1 : Go.RowKit.Hid (news.length = (n - j) * 7) := hnl
  have s2 : Go.RowKit.Hid (∀ u ∈ news, u.oneCell' = true) := hn1
  have s3 : Go.RowKit.Hid (∀ t, t < news.length → (w.drew.cell? ⟨b, 0 + i * 7 + t, none⟩).isSome = true ∧ w.drew.frozen? ⟨b, 0 + i * 7 + t, none⟩ = false) := by
    intro t ht
    rw [hnl] at ht
    have hlt' : i * 7 + t < cur.size := by rw [hcur]; omega
    refine ⟨?_, ?_⟩
    · show (w.cell? _).isSome = true
      simp only [World.cell?, hb, Nat.zero_add]
      simp [Array.getElem?_eq_getElem hlt']
    · show w.frozen? _ = false
      simp [World.frozen?, hb]
  obtain ⟨W1, hW1⟩ : ∃ W1, W1 = w.drew.setCells b (0 + i * 7) news := ⟨_, rfl⟩
  have hW : Go.RowKit.Hid (W1 = w.drew.setCells b (0 + i * 7) news) := hW1
  have hic : i ≤ cap := by omega
  have hjc : j ≤ cap := by omega
  have hij : i ≤ j := by omega
  obtain ⟨z, hz, hzs, hzo⟩ : ∃ z : Value, (∀ w, (zeroValue 100).run Tryz.prog w = .ok z w) ∧ z.cells.size = 7 ∧ ∀ v ∈ z.cells, v.oneCell' = true := ⟨_, Tryz.zeroValue100, rfl, by decide⟩
  have hzn : (Builtin.zeroCells z.cells (n - (i + (n - j)))).size = (j - i) * 7 := by
    rw [size_zeroCells, hzs]; congr 1; omega
  have hcell : ∀ t, t < n * 7 → (W1.cell? ⟨b, t, none⟩).isSome = true ∧ W1.frozen? ⟨b, t, none⟩ = false := by
    intro t ht
    have hlt' : i * 7 + news.length ≤ cur.size := by rw [hcur, hnl]; omega
    obtain ⟨cur', k1, k2, -, -⟩ := setCells_block b news (0 + i * 7) w.drew cur hb (by omega)
    rw [← hW1] at k1
    have hlt2 : t < cur'.size := by rw [k2, hcur]; omega
    refine ⟨?_, ?_⟩
    · simp only [World.cell?, k1]
      simp [Array.getElem?_eq_getElem hlt2]
    · simp [World.frozen?, k1]
  have hcl0 : ∀ ty, (Builtin.clear_ #[47] ty #[.slice (some ⟨b, (i + (n - j)) * 7, none⟩) (n - (i + (n - j))) (cap - (i + (n - j)))]).run Tryz.prog W1 = .ok (.tuple #[]) (W1.setCells b ((i + (n - j)) * 7) (Builtin.zeroCells z.cells (n - (i + (n - j)))).toList) := by
    intro ty
    refine run_clear_rows W1 _ _ ty z t1 hz hzo b _ _ _ (by omega) (fun t ht => (hcell _ ?_).1) (fun t ht => (hcell _ ?_).2) ?_
    · rw [hzn] at ht; omega
    · rw [hzn] at ht; omega
    · intro v hv
      simp only [Builtin.zeroCells, Array.toList_map, List.mem_map] at hv
      obtain ⟨t, _, rfl⟩ := hv
      have ht : t % z.cells.size < z.cells.size := Nat.mod_lt _ (by omega)
      rw [getElem!_pos z.cells _ ht]
      exact hzo _ (Array.getElem_mem ht)
  obtain ⟨zs, hcl, hzl⟩ : ∃ zs : List Value, (∀ ty, (Builtin.clear_ #[47] ty #[.slice (some ⟨b, (i + (n - j)) * 7, none⟩) (n - (i + (n - j))) (cap - (i + (n - j)))]).run Tryz.prog W1 = .ok (.tuple #[]) (W1.setCells b ((i + (n - j)) * 7) zs)) ∧ zs.length = (j - i) * 7 := ⟨_, hcl0, by simpa using hzn⟩
  clear hng hn1 hcur hcell hW1 hb hcl0 hzn hzo hzs hz z
  go_enter Tryz.func296, Tryz.ntmps296
  go_wp2_with fail
  go_region_law (refine step_append_room rfl (.tmp 22) (.tmp 25) 47 rfl 100 i0 7 t1 hi0 hz1 b 0 i cap (by simp [Act.eval, Act.put]) A (n - j) (cap - j) news (by simp [Act.eval, Act.put]) s1.out hsrc.out s2.out (by omega) s3.out ?_; rw [← hW.out])
  go_wp2
  go_ret
  refine ⟨rfl, zs, hzl, ?_⟩
  rw [hW.out, Nat.zero_add]
theorem ok_slices_Delete_Limpl_Slot_impl_Slot (xs : List (List DV)) (dp : Bool) (i : Nat) (hi : i < xs.length) :
    FnOK Tryz.prog 296 [.one (.arr true dp (.sl 7 xs)), .one (.d (.sc (.int .i64 i))), .one (.d (.sc (.int .i64 ((i : Int) + 1))))] (fun ra _ => ra = [.one (.own dp (.sl 7 (xs.eraseIdx i)))]) := by
  refine FnOK.ofDelete Tryz.func296 rfl (by kernel_rfl) hi fun w b cap cur e news hb hcap hmax hcur hnl hng hn1 => ?_
  have h := slot_delete_walk w b cap xs.length i (i + 1) cur e news hb hcap (by unfold maxLen at hmax; omega) hcur (by omega) (by omega) hnl hng hn1
  rw [show i + (xs.length - (i + 1)) = xs.length - 1 by omega, show (i + 1 - i) * 7 = 7 by omega] at h
  exact h

theorem ext_grown {w w' : World} {M : Nat → Prop} (h : Ext w w' M) (hM : ∀ b, ¬ M b) : ∃ q os, w' = Go.Sort.grow (w.drewN q) os := by
  obtain ⟨h1, h2, h3, h4, h5, h6⟩ := h
  refine ⟨w'.drawn - w.drawn, w'.heap.extract w.heap.size w'.heap.size, ?_⟩
  have e1 : w'.heap = w.heap ++ w'.heap.extract w.heap.size w'.heap.size := by
    apply Array.ext_getElem?
    intro i
    rw [Array.getElem?_append]
    split
    · rename_i hi
      exact h5 i hi (hM i)
    · rename_i hi
      rw [Array.getElem?_extract]
      by_cases hlt : i < w'.heap.size
      · rw [if_pos (by omega), show w.heap.size + (i - w.heap.size) = i by omega]
      · rw [if_neg (by omega), Array.getElem?_eq_none (by omega)]
  have e2 : w'.drawn = w.drawn + (w'.drawn - w.drawn) := by omega
  obtain ⟨heap, tape, drawn, os, output⟩ := w'
  obtain ⟨heap0, tape0, drawn0, os0, output0⟩ := w
  simp only at e1 e2 h1 h2 h3
  subst h1 h2 h3
  simp only [Go.Sort.grow, World.drewN]
  rw [← e1, ← e2]
section
variable {α : Type} [Inhabited α] {enc : α → List Value} {k : Nat} {w : World} {blk m : Nat} {dk : Array α} {os : Array Obj}
theorem sortWorldK_same {c : Nat} (hc : c < w.heap.size) (hne : c ≠ blk) : (Go.Proofs.sortWorldK enc k w blk 0 m dk os).heap[c]? = w.heap[c]? := by
  unfold Go.Proofs.sortWorldK
  have h : c < (Go.Sort.putRowK enc k (Go.Sort.ahead w m) blk 0 dk).heap.size := by rw [show (Go.Sort.putRowK enc k (Go.Sort.ahead w m) blk 0 dk).heap.size = w.heap.size from by simp [Go.Sort.putRowK]]; exact hc
  rw [Go.Sort.heap_grow_old _ _ h]
  simp only [Go.Sort.putRowK, Go.Sort.putRow, Go.Sort.mapBlock, Go.Sort.heap_ahead, Array.getElem?_modify]
  rw [if_neg (Ne.symm hne)]
theorem sortWorldK_size : w.heap.size ≤ (Go.Proofs.sortWorldK enc k w blk 0 m dk os).heap.size := by
  unfold Go.Proofs.sortWorldK
  rw [Go.Sort.size_grow, show (Go.Sort.putRowK enc k (Go.Sort.ahead w m) blk 0 dk).heap.size = w.heap.size from by simp [Go.Sort.putRowK]]
  exact Nat.le_add_right _ _
theorem sortWorldK_row {cur : Array Value} {e : TypeId} (hb : w.heap[blk]? = some (.cells cur e (0, 0))) : (Go.Proofs.sortWorldK enc k w blk 0 m dk os).heap[blk]? = some (.cells (Go.Sort.putCells id 0 (Go.Sort.flatK enc k dk) cur) e (0, 0)) := by
  unfold Go.Proofs.sortWorldK
  have hlt : blk < w.heap.size := (Array.getElem?_eq_some_iff.1 hb).1
  have h : blk < (Go.Sort.putRowK enc k (Go.Sort.ahead w m) blk 0 dk).heap.size := by rw [show (Go.Sort.putRowK enc k (Go.Sort.ahead w m) blk 0 dk).heap.size = w.heap.size from by simp [Go.Sort.putRowK]]; exact hlt
  rw [Go.Sort.heap_grow_old _ _ h]
  simp only [Go.Sort.putRowK, Go.Sort.putRow, Go.Sort.mapBlock, Go.Sort.heap_ahead, Array.getElem?_modify, if_true, hb, Option.map_some, Go.Sort.onCells]
end
theorem putCells_size {F cur : Array Value} : (Go.Sort.putCells id 0 F cur).size = cur.size := by simp [Go.Sort.putCells]
theorem putCells_at {F cur : Array Value} {t : Nat} (h : t < F.size) (h' : F.size ≤ cur.size) : (Go.Sort.putCells id 0 F cur)[t]? = some F[t]! := by
  simp only [Go.Sort.putCells, Array.getElem?_mapIdx]
  rw [Array.getElem?_eq_getElem (by omega)]
  simp only [Option.map_some]
  rw [if_pos ⟨Nat.zero_le _, by omega⟩]
  simp
theorem sortFunc_ok {P : Program} {ρ : Go.Shelf.Ren} (L : Go.Proofs.SlLaysF0.n6 P ρ) {g : Nat} (he : Hearth.Enters P (ρ.f 6)) (hg : Hearth.Enters P g) {α : Type} (sz : Nat) (enc : α → List DV) (l : List α) (cf : α → α → Int) (dp : Bool)
    (aE : ∀ w, (isAgg (ρ.t 24)).run P w = .ok true w) (zE : ∀ w, (Go.sizeOf (ρ.t 24)).run P w = .ok sz w) (hsz : 0 < sz ∧ sz ≤ 64) (hne : l ≠ []) (hlt : l.length < 4611686018427387904)
    (hO : Go.Sort.SWO (Go.Proofs.ltOf fun i j : Fin l.length => cf l[i] l[j]))
    (hcmp : ∀ x ∈ l, ∀ y ∈ l, FnOK P g [.agg ((enc x).map .d), .agg ((enc y).map .d)] (fun ra _ => ra = [.one (.d (.sc (.int .i64 (cf x y))))])) :
    FnOK P (ρ.f 6) [.one (.arr false dp (.sl sz (l.map enc))), .one (.d (.sc (.func (.func g) #[] #[])))]
      (fun ra os => ∃ l' : List α, (l'.Perm l ∧ ∀ i j (h : i < j) (hj : j < l'.length), ¬ cf l'[j] l'[i] < 0) ∧ ra = [] ∧ os.a 0 = .sl sz (l'.map enc)) := by
  have hpos : 0 < l.length := List.length_pos_iff.2 hne
  haveI : Inhabited (Fin l.length) := ⟨⟨0, hpos⟩⟩
  refine ⟨he, fun w S Fs vs hs hv hdis hFl hS hF => ?_⟩
  have hs2 : vs.size = 2 := hs
  obtain ⟨_, hp0⟩ := (hv 0 _ vs[0] rfl (Array.getElem?_eq_getElem (by omega)))
  have hp1 : vs[1] = .func (.func g) #[] #[] := Pers.scEq (hv 1 _ vs[1] rfl (Array.getElem?_eq_getElem (by omega)))
  have hvs : vs = #[vs[0], .func (.func g) #[] #[]] := by
    apply Array.ext
    · simpa using hs2
    · intro i h1' h2'
      match i with
      | 0 => rfl
      | 1 => exact hp1
      | i + 2 => omega
  rcases hp0 with ⟨h0, _⟩ | ⟨b, cap, cur, e, us, FsN, g1, g2, g3, g4, g5, g6, g7, g8, g9, g10, g11⟩
  · exact absurd (by simpa [DV.rows] using h0) hne
  simp only [DV.rows, DV.esz] at g1 g4 g6 g7 g8 g11
  simp only [List.length_map] at g1 g4
  have hrow : ∀ i (hi : i < l.length), (l.map enc)[i]? = some (enc l[i]) := fun i hi => by simp [hi]
  have hencl : ∀ i (hi : i < l.length), (enc l[i]).length = sz := fun i hi => g7 i _ (hrow i hi)
  have hbw : b < w.heap.size := (hFl _ b g3).1
  -- the elements' cells
  let encV : Fin l.length → List Value := fun i => (List.range sz).map (us i.1)
  have hk : ∀ x, (encV x).length = sz := fun x => by simp [encV]
  have hEnc : ∀ (x : Fin l.length) (j : Nat), j < sz → (encV x)[j]? = some (us x.1 j) := fun x j hj => by simp [encV, hj]
  let d0 : Array (Fin l.length) := Array.ofFn id
  have hd0 : d0.size = l.length := by simp [d0]
  have hd0g : ∀ i (hi : i < l.length), d0[i]! = ⟨i, hi⟩ := fun i hi => by
    rw [getElem!_pos d0 i (by rw [hd0]; exact hi)]; simp [d0]
  have hcellW : ∀ t, t < l.length * sz → t / sz < l.length ∧ cur[t]? = some (us (t / sz) (t % sz)) := by
    intro t ht
    have hi : t / sz < l.length := Nat.div_lt_of_lt_mul (by rw [Nat.mul_comm]; exact ht)
    have hj : t % sz < sz := Nat.mod_lt _ hsz.1
    have := g8 (t / sz) (t % sz) _ ((enc l[t / sz])[t % sz]'(by rw [hencl _ hi]; exact hj)) (hrow _ hi) (List.getElem?_eq_getElem _)
    rw [Nat.div_add_mod' t sz] at this
    exact ⟨hi, this⟩
  have hH : Go.Sort.HoldsK encV sz w b 0 d0 := by
    intro t ht
    rw [Go.Sort.size_flatK, hd0] at ht
    obtain ⟨hi, hc⟩ := hcellW t ht
    have hj : t % sz < sz := Nat.mod_lt _ hsz.1
    refine ⟨?_, ?_⟩
    · rw [Go.Sort.get_flatK _ _ _ _ (by rw [hd0]; exact ht), hd0g _ hi, List.getElem!_of_getElem? (hEnc ⟨t / sz, hi⟩ (t % sz) hj)]
      simp only [World.cell?, g2, Nat.zero_add]
      exact hc
    · simp [World.frozen?, g2]
  have h1 : ∀ x, ∀ v ∈ encV x, v.oneCell' = true := by
    intro x v hv
    simp only [encV, List.mem_map, List.mem_range] at hv
    obtain ⟨j, hj, rfl⟩ := hv
    exact (g11 x.1 j _ _ (hrow x.1 x.2) (List.getElem?_eq_getElem (by rw [hencl x.1 x.2]; exact hj))).one
  have hS' : ∀ c, S c → c < w.heap.size ∧ c ≠ b := fun c hc => ⟨hS c hc, fun e => (hFl _ b g3).2 (e ▸ hc)⟩
  have pers : ∀ (i j : Nat) (hi : i < l.length) (d : DV), (enc l[i])[j]? = some d → ∀ W : World, (∀ c, c < w.heap.size → c ≠ b → W.heap[c]? = w.heap[c]?) → Pers W (fun c => c < w.heap.size ∧ c ≠ b) d (us i j) := by
    intro i j hi d hd W hW
    have := (g11 i j _ d (hrow i hi) hd).toPers (S' := fun c => c < w.heap.size ∧ c ≠ b) hS' (fun c hc => ⟨(hFl _ c (g9 i j c hc).1).1, (g9 i j c hc).2⟩)
    exact this.mono fun c hc => ⟨hW c hc.1 hc.2, hc⟩
  have hC : Go.Proofs.CmpLays P g #[] encV sz (fun i j => cf l[i] l[j]) b 0 d0.size w := by
    intro m os dk hdk x y
    generalize hW : Go.Proofs.sortWorldK encV sz w b 0 m dk os = W
    have hWs : ∀ c, c < w.heap.size → c ≠ b → W.heap[c]? = w.heap[c]? := fun c h1 h2 => by rw [← hW]; exact sortWorldK_same h1 h2
    have hWz : w.heap.size ≤ W.heap.size := by rw [← hW]; exact sortWorldK_size
    have one : ∀ (x : Fin l.length) (Fs' : Nat → Nat → Prop) (t : Nat), GAr P W (fun c => c < w.heap.size ∧ c ≠ b) (fun b => b < W.heap.size ∧ ∀ q, ¬ (fun _ _ => False : Nat → Nat → Prop) q b) t Fs' (.agg ((enc l[x]).map .d)) (.agg (encV x).toArray) := by
      intro x Fs' t
      refine ⟨_, rfl, by simp [hk, hencl x.1 x.2], by simp [hencl x.1 x.2]; exact hsz.2, fun k p u hp hu => ?_⟩
      simp only [List.getElem?_map, Option.map_eq_some_iff] at hp
      obtain ⟨d, hd, rfl⟩ := hp
      have hks : k < sz := by rw [← hencl x.1 x.2]; exact (List.getElem?_eq_some_iff.1 hd).1
      have : u = us x.1 k := by
        have h2 := hEnc x k hks
        simp only [List.getElem?_toArray] at hu
        rw [h2] at hu; simpa using hu.symm
      rw [this]
      exact pers x.1 k x.2 d hd W hWs
    have key := (hcmp l[x] (List.getElem_mem x.2) l[y] (List.getElem_mem y.2)).2 W (fun c => c < w.heap.size ∧ c ≠ b) (fun _ _ => False) #[.agg (encV x).toArray, .agg (encV y).toArray] rfl (fun t ga v h1 h2 => by
        match t with
        | 0 => simp at h1 h2; subst h1; subst h2; exact one x _ _
        | 1 => simp at h1 h2; subst h1; subst h2; exact one y _ _
        | t + 2 => simp at h1) (fun _ _ _ h => h.elim) (fun _ _ h => h.elim) (fun c hc => Nat.lt_of_lt_of_le hc.1 hWz) (fun _ _ h => h.elim)
    rw [Array.append_empty]
    refine key.mono ?_
    rintro e w' ⟨v, ra, os', G, rfl, rfl, hx, hf, ⟨rs, rfl, hr1, hr2⟩, _⟩
    have hr1' : rs.size = 1 := hr1
    rw [dif_pos hr1']
    have := Pers.scEq (hr2 0 _ rs[0] rfl (Array.getElem?_eq_getElem (by omega)))
    exact ⟨by rw [this], ext_grown hx (by rintro c ⟨q, h⟩; exact h)⟩
  have eg : ∀ args w, (callFunc g args).run P w = .ok (.enter g args) w := fun args w => Hearth.run_callFunc hg args
  have main := Go.Proofs.AnyQ.slices_SortFunc L sz aE zE encV hk h1 (fun i j => cf l[i] l[j]) hO g #[] b 0 cap d0 w eg hC hH hbw (by rw [hd0]; exact hlt)
  have hvs' : vs = #[.slice (some ⟨b, 0, none⟩) d0.size cap, .func (.func g) #[] #[]] := hvs.trans (by rw [g1, hd0])
  have main2 : Calls P (ρ.f 6) vs w fun e w' => e = .returned (.tuple #[]) ∧ ∃ d' n os, Go.Sort.PermIn 0 d0.size d0 d' ∧ Go.Sort.SortedIn (Go.Proofs.ltOf fun i j : Fin l.length => cf l[i] l[j]) 0 d0.size d' ∧ w' = Go.Proofs.sortWorldK encV sz w b 0 n d' os := by
    rw [hvs']; exact main
  refine main2.mono ?_
  clear main main2 hC hH
  rintro e w' ⟨rfl, d', n, os, ⟨p1, _, p3⟩, hsorted, rfl⟩
  have hn : d'.size = l.length := p1.trans hd0
  have p4 : d'.toList.Perm d0.toList := by
    have a1 : d'.extract 0 d0.size = d' := by rw [← p1]; simp
    have a2 : d0.extract 0 d0.size = d0 := by simp
    rwa [a1, a2] at p3
  have hget : ∀ i (hi : i < l.length), d'[i]! = d'[i]'(by rw [hn]; exact hi) := fun i hi => getElem!_pos d' i (by rw [hn]; exact hi)
  have hnd : d'.toList.Nodup := by
    refine p4.nodup_iff.2 ?_
    rw [List.nodup_iff_pairwise_ne, List.pairwise_iff_getElem]
    intro i j hi hj hij e
    simp [d0] at e
    omega
  have hinj : ∀ i i', i < l.length → i' < l.length → (d'[i]!).1 = (d'[i']!).1 → i = i' := by
    intro i i' hi hi' e
    rw [hget i hi, hget i' hi'] at e
    have e2 : d'.toList[i]'(by simpa [hn] using hi) = d'.toList[i']'(by simpa [hn] using hi') := by
      simp only [Array.getElem_toList]
      exact Fin.ext e
    rcases Nat.lt_trichotomy i i' with h | h | h
    · exact absurd e2 (List.pairwise_iff_getElem.1 hnd i i' _ _ h)
    · exact h
    · exact absurd e2.symm (List.pairwise_iff_getElem.1 hnd i' i _ _ h)
  let l' : List α := d'.toList.map fun i => l[i]
  have hl' : l'.length = l.length := by simp [l', hn]
  have hl'g : ∀ i (hi : i < l.length), l'[i]'(by rw [hl']; exact hi) = l[(d'[i]!).1] := by
    intro i hi
    simp only [l', List.getElem_map, Array.getElem_toList, hget i hi]
    rfl
  have hperm : l'.Perm l := by
    have h2 : (d0.toList.map fun i => l[i]) = l := by
      apply List.ext_getElem
      · simp [hd0]
      · intro i h1 h2
        simp [d0]
    have h3 := p4.map fun i : Fin l.length => l[i]
    rwa [h2] at h3
  refine ⟨.tuple #[], [], ⟨fun _ => .sl sz (l'.map enc), fun _ => []⟩, fun _ _ => False, rfl, ⟨l', ⟨hperm, fun i j h hj => ?_⟩, rfl, rfl⟩, ⟨rfl, rfl, rfl, sortWorldK_size, fun c hc hM => sortWorldK_same hc fun e => hM ⟨_, e ▸ g3⟩, Nat.le_add_right _ _⟩,
    ⟨fun _ _ _ h => h.elim, fun _ _ h => h.elim, fun _ _ h => h.elim⟩, ⟨#[], rfl, rfl, fun t a u h => by simp at h⟩, fun t k ga v p u hga hvt hp hu => ?_⟩
  · have hj' : j < l.length := hl' ▸ hj
    have := hsorted i j (Nat.zero_le _) h (by rw [hd0]; exact hj')
    simp only [Go.Proofs.ltOf, decide_eq_false_iff_not] at this
    rw [hl'g j hj', hl'g i (by omega)]
    exact this
  · match t with
    | 1 =>
      simp at hga; subst hga
      simp only [GA.at] at hp
      split at hp
      · simp at hp; subst hp; trivial
      · simp at hp
    | t + 2 => simp at hga
    | 0 =>
      simp at hga; subst hga
      simp only [GA.at] at hp
      split at hp
      · rename_i hk0
        subst hk0
        simp at hp; subst hp
        simp only at hu ⊢
        rw [hu]
        have hv0 : v = .slice (some ⟨b, 0, none⟩) l.length cap := by
          rw [Array.getElem?_eq_getElem (by omega)] at hvt
          simp at hvt
          rw [← hvt, g1]
        have hrow' : ∀ (i : Nat) (cs : List DV), (l'.map enc)[i]? = some cs → ∃ hi : i < l.length, cs = enc l[(d'[i]!).1] := by
          intro i cs h
          have hi : i < l.length := by
            have := (List.getElem?_eq_some_iff.1 h).1
            simpa [hl'] using this
          refine ⟨hi, ?_⟩
          rw [List.getElem?_map, List.getElem?_eq_getElem (by rw [hl']; exact hi), hl'g i hi] at h
          simpa using h.symm
        refine ⟨rfl, rfl, .inr ⟨b, cap, Go.Sort.putCells id 0 (Go.Sort.flatK encV sz d') cur, e, fun i j => us (d'[i]!).1 j, fun i j c => i < l.length ∧ FsN (d'[i]!).1 j c, by rw [hv0]; simp [DV.rows, hl'], sortWorldK_row g2, g3, by simpa [DV.rows, hl'] using g4, g5, by rw [putCells_size]; exact g6, ?_, ?_, fun i j c hc => g9 _ j c hc.2, ?_, ?_⟩⟩
        · intro i cs hcs
          obtain ⟨hi, rfl⟩ := hrow' i cs hcs
          exact hencl _ _
        · intro i j cs d hcs hd
          obtain ⟨hi, rfl⟩ := hrow' i cs hcs
          have hj : j < sz := by rw [← hencl (d'[i]!).1 (d'[i]!).2]; exact (List.getElem?_eq_some_iff.1 hd).1
          have ht : i * sz + j < d'.size * sz := by
            rw [hn]
            have := Nat.mul_le_mul_right sz (show i + 1 ≤ l.length from hi)
            rw [Nat.add_mul, Nat.one_mul] at this
            omega
          have hsz2 : (Go.Sort.flatK encV sz d').size ≤ cur.size := by
            rw [Go.Sort.size_flatK, hn, g6]
            exact Nat.mul_le_mul_right _ g4
          show (Go.Sort.putCells id 0 (Go.Sort.flatK encV sz d') cur)[i * sz + j]? = some (us (d'[i]!).1 j)
          rw [putCells_at (by rw [Go.Sort.size_flatK]; exact ht) hsz2, Go.Sort.get_flatK _ _ _ _ ht]
          have e1 : (i * sz + j) / sz = i := by rw [Nat.mul_comm, Nat.mul_add_div hsz.1, Nat.div_eq_of_lt hj, Nat.add_zero]
          have e2 : (i * sz + j) % sz = j := by rw [Nat.mul_comm, Nat.mul_add_mod, Nat.mod_eq_of_lt hj]
          rw [e1, e2, List.getElem!_of_getElem? (hEnc (d'[i]!) j hj)]
        · intro i j i' j' c h1 h2
          obtain ⟨e1, e2⟩ := g10 _ _ _ _ c h1.2 h2.2
          exact ⟨hinj i i' h1.1 h2.1 e1, e2⟩
        · intro i j cs d hcs hd
          obtain ⟨hi, rfl⟩ := hrow' i cs hcs
          refine (g11 (d'[i]!).1 j _ d (hrow _ (d'[i]!).2) hd).mono (fun h => h) (fun c hc => ⟨sortWorldK_same (hS' c hc).1 (hS' c hc).2, Nat.lt_of_lt_of_le (hS' c hc).1 sortWorldK_size, .inl hc, fun _ h => h⟩) _ fun c hc => ⟨sortWorldK_same (hFl _ c (g9 _ j c hc).1).1 (g9 _ j c hc).2, hi, hc⟩
      · simp at hp

def lays_slices_SortFunc_Limpl_Slot_impl_Slot_ren : Go.Shelf.Ren := ⟨fun | 6 => 297 | 15 => 223 | 14 => 336 | 28 => 288 | 29 => 289 | 20 => 348 | 21 => 349 | 22 => 350 | 23 => 351 | 24 => 352 | 25 => 353 | 26 => 354 | 27 => 355 | 46 => 358 | 47 => 329 | 48 => 330 | 49 => 359 | 50 => 360 | 57 => 361 | n => n, fun | 22 => 47 | 24 => 100 | 25 => 274 | 3 => 3 | 39 => 212 | 0 => 0 | 53 => 231 | 55 => 268 | 4 => 4 | 46 => 260 | 45 => 259 | 50 => 264 | 5 => 5 | 9 => 9 | 66 => 300 | 70 => 304 | 76 => 315 | 77 => 316 | n => n, fun | n => n⟩
theorem lays_slices_SortFunc_Limpl_Slot_impl_Slot : Go.Proofs.SlLaysF0.n6 Tryz.prog lays_slices_SortFunc_Limpl_Slot_impl_Slot_ren := {
  mixed := by kernel_rfl
  f6 := ⟨Tryz.f297.name, by decide, Tryz.func297.trans (congrArg some (by kernel_rfl))⟩
  f14 := ⟨Tryz.f336.name, by decide, Tryz.func336.trans (congrArg some (by kernel_rfl))⟩
  f15 := Tryz.func223.trans (congrArg some (by kernel_rfl))
  f20 := ⟨Tryz.f348.name, by decide, Tryz.func348.trans (congrArg some (by kernel_rfl))⟩
  f21 := ⟨Tryz.f349.name, by decide, Tryz.func349.trans (congrArg some (by kernel_rfl))⟩
  f22 := ⟨Tryz.f350.name, by decide, Tryz.func350.trans (congrArg some (by kernel_rfl))⟩
  f23 := ⟨Tryz.f351.name, by decide, Tryz.func351.trans (congrArg some (by kernel_rfl))⟩
  f24 := ⟨Tryz.f352.name, by decide, Tryz.func352.trans (congrArg some (by kernel_rfl))⟩
  f25 := ⟨Tryz.f353.name, by decide, Tryz.func353.trans (congrArg some (by kernel_rfl))⟩
  f26 := ⟨Tryz.f354.name, by decide, Tryz.func354.trans (congrArg some (by kernel_rfl))⟩
  f27 := ⟨Tryz.f355.name, by decide, Tryz.func355.trans (congrArg some (by kernel_rfl))⟩
  f28 := Tryz.func288.trans (congrArg some (by kernel_rfl))
  f29 := Tryz.func289.trans (congrArg some (by kernel_rfl))
  f46 := ⟨Tryz.f358.name, by decide, Tryz.func358.trans (congrArg some (by kernel_rfl))⟩
  f47 := Tryz.func329.trans (congrArg some (by kernel_rfl))
  f48 := Tryz.func330.trans (congrArg some (by kernel_rfl))
  f49 := ⟨Tryz.f359.name, by decide, Tryz.func359.trans (congrArg some (by kernel_rfl))⟩
  f50 := ⟨Tryz.f360.name, by decide, Tryz.func360.trans (congrArg some (by kernel_rfl))⟩
  f57 := ⟨Tryz.f361.name, by decide, Tryz.func361.trans (congrArg some (by kernel_rfl))⟩
  t0 := Tryz.underlying0
  a0 := Tryz.isAgg0
  z0 := Tryz.sizeOf0
  v0 := Tryz.zeroValue0
  t3 := Tryz.underlying3
  a3 := Tryz.isAgg3
  z3 := Tryz.sizeOf3
  v3 := Tryz.zeroValue3
  t4 := Tryz.underlying4
  a4 := Tryz.isAgg4
  z4 := Tryz.sizeOf4
  v4 := Tryz.zeroValue4
  t5 := Tryz.underlying5
  a5 := Tryz.isAgg5
  z5 := Tryz.sizeOf5
  v5 := Tryz.zeroValue5
  t9 := Tryz.underlying9
  a9 := Tryz.isAgg9
  z9 := Tryz.sizeOf9
  v9 := Tryz.zeroValue9
  t22 := Tryz.underlying47
  a22 := Tryz.isAgg47
  z22 := Tryz.sizeOf47
  v22 := Tryz.zeroValue47
  t25 := Tryz.underlying274
  a25 := Tryz.isAgg274
  z25 := Tryz.sizeOf274
  v25 := Tryz.zeroValue274
  t39 := Tryz.underlying212
  a39 := Tryz.isAgg212
  z39 := Tryz.sizeOf212
  v39 := Tryz.zeroValue212
  t45 := Tryz.underlying259
  a45 := Tryz.isAgg259
  z45 := Tryz.sizeOf259
  v45 := Tryz.zeroValue259
  t46 := Tryz.underlying260
  a46 := Tryz.isAgg260
  z46 := Tryz.sizeOf260
  v46 := Tryz.zeroValue260
  t50 := Tryz.underlying264
  a50 := Tryz.isAgg264
  z50 := Tryz.sizeOf264
  v50 := Tryz.zeroValue264
  t53 := Tryz.underlying231
  a53 := Tryz.isAgg231
  z53 := Tryz.sizeOf231
  v53 := Tryz.zeroValue231
  t55 := Tryz.underlying268
  a55 := Tryz.isAgg268
  z55 := Tryz.sizeOf268
  v55 := Tryz.zeroValue268
  t66 := Tryz.underlying300
  a66 := Tryz.isAgg300
  z66 := Tryz.sizeOf300
  v66 := Tryz.zeroValue300
  t70 := Tryz.underlying304
  a70 := Tryz.isAgg304
  z70 := Tryz.sizeOf304
  v70 := Tryz.zeroValue304
  t76 := Tryz.underlying315
  a76 := Tryz.isAgg315
  z76 := Tryz.sizeOf315
  v76 := Tryz.zeroValue315
  t77 := Tryz.underlying316
  a77 := Tryz.isAgg316
  z77 := Tryz.sizeOf316
  v77 := Tryz.zeroValue316 }
theorem cmpS_cmp : Cmp cmpS := (cmpN_cmp.comap Slot.name).lex (cmpI_cmp.comap Slot.ty)
theorem cmpS_self (a : Slot) : cmpS a a = 0 := by
  have := cmpS_cmp.neg a a
  omega
theorem ok_slices_SortFunc_Limpl_Slot_impl_Slot (l : List Slot) (dp : Bool) (hl : ∀ r ∈ l, SmallS r) (hne : l ≠ []) (hlen : l.length ≤ 4194304) :
    FnOK Tryz.prog 297 [.one (.arr false dp (encS l)), .one (.d (.sc (.func (.func 142) #[] #[])))]
      (fun ra os => ∃ l' : List Slot, (l'.Perm l ∧ ∀ i j (h : i < j) (hj : j < l'.length), ¬ cmpS l'[j] l'[i] < 0) ∧ ra = [] ∧ os.a 0 = encS l') := by
  refine sortFunc_ok (ρ := lays_slices_SortFunc_Limpl_Slot_impl_Slot_ren) lays_slices_SortFunc_Limpl_Slot_impl_Slot ⟨_, Tryz.func297, rfl, by kernel_rfl⟩ ⟨_, Tryz.func142, rfl, by kernel_rfl⟩ 7 Slot.cells l cmpS dp Tryz.isAgg100 Tryz.sizeOf100 (by decide) hne (by omega) ?_ (fun x hx y hy => ok_impl_Slot_compare x y (hl x hx) (hl y hy))
  refine ⟨fun i => ?_, fun i j k h1 h2 => ?_, fun i j k h1 h2 => ?_⟩
  · simp [Go.Proofs.ltOf, cmpS_self]
  · simp only [Go.Proofs.ltOf, decide_eq_true_eq] at h1 h2 ⊢
    exact cmpS_cmp.lt h1 h2
  · simp only [Go.Proofs.ltOf, decide_eq_false_iff_not] at h1 h2 ⊢
    have e1 := cmpS_cmp.neg l[i] l[j]
    have e2 := cmpS_cmp.neg l[j] l[k]
    have e3 := cmpS_cmp.neg l[i] l[k]
    have := cmpS_cmp.tr l[k] l[j] l[i] (by omega) (by omega)
    omega

theorem okS_slices_Delete (l : List Slot) (dp : Bool) (i : Nat) (hi : i < l.length) :
    FnOK Tryz.prog 296 [.one (.arr true dp (encS l)), .one (.d (.sc (.int .i64 i))), .one (.d (.sc (.int .i64 ((i : Int) + 1))))] (fun ra _ => ra = [.one (.own dp (encS (l.eraseIdx i)))]) := by
  have h := ok_slices_Delete_Limpl_Slot_impl_Slot (l.map Slot.cells) dp i (by simpa using hi)
  rw [show (l.map Slot.cells).eraseIdx i = (l.eraseIdx i).map Slot.cells by simp only [List.eraseIdx_eq_take_drop_succ, List.map_append, List.map_take, List.map_drop]] at h
  exact h
def c_impl_Cache_keep : C := (.g (.o 0 3 (.box 3 (.t 0)) (.o 1 4 (.box 4 (.t 1)) (.o 2 6 (.alloc 6 [(.i 0), (.i 0), (.n 7)]) (.o 3 7 (.mov (.v (.bool false))) .done)))) (.g (.o 0 12 (.load (some 3) (.t 3)) (.o 1 13 (.fad (.t 4) 0) (.o 2 14 (.load (some 1) (.t 13)) (.o 3 15 (.fad (.t 4) 1) (.o 4 16 (.load none (.t 15)) (.o 5 17 (.call 17 181 [(.t 12), (.t 14), (.t 16)]) (.o 6 8 (.mov (.t 17)) .done))))))) (.seq (.seq (.reg true (.op 0 [] (some 18) none true (.mov (.t 2)) (.op 1 [] (some 19) none true (.bin .eql (.t 18) (.i 0)) (.op 2 [] (some 20) none true (.mov (.t 19)) (.op 3 [] (some 21) (some (20, false)) true (.fad (.t 3) 1) (.op 4 [] (some 22) (some (20, false)) true (.load none (.t 21)) (.op 5 [] (some 23) (some (20, false)) true (.bin .eql (.t 22) (.i 1000000)) (.op 6 [] (some 24) none true (.pick (.t 20) (.v (.bool true)) (.t 23)) (.op 7 [] (some 25) none true (.mov (.t 24)) (.op 8 [] (some 26) (some (25, false)) true (.mov (.t 8)) (.op 9 [] (some 27) (some (25, false)) true (.bin .geq (.t 26) (.i 0)) (.op 10 [] (some 28) (some (25, false)) true (.mov (.t 27)) (.op 11 [] (some 29) (some (28, true)) true (.fad (.t 3) 2) (.op 12 [] (some 30) (some (28, true)) true (.load none (.t 29)) (.op 13 [] (some 31) (some (28, true)) true (.mov (.t 8)) (.op 14 [] (some 32) (some (28, true)) true (.iad 7 (.t 30) (.t 31)) (.op 15 [] (some 33) (some (28, true)) true (.fad (.t 32) 4) (.op 16 [] (some 34) (some (28, true)) true (.load none (.t 33)) (.op 17 [] (some 35) (some (28, true)) true (.fad (.t 4) 4) (.op 18 [] (some 36) (some (28, true)) true (.load none (.t 35)) (.op 19 [] (some 37) (some (28, true)) true (.bin .gtr (.t 34) (.t 36)) (.op 20 [] (some 38) (some (25, false)) true (.pick (.t 28) (.t 37) (.v (.bool false))) (.op 21 [] (some 39) none true (.pick (.t 25) (.v (.bool true)) (.t 38)) .done))))))))))))))))))))))) (.cond (.t 39) (.g (.o 0 40 (.load (some 3) (.t 3)) (.op 1 [] none none false (.store (some 3) (.t 6) (.t 40)) (.o 2 7 (.mov (.v (.bool false))) .done))) .ret) .skip)) (.seq (.reg true (.op 0 [] (some 41) none true (.fad (.t 3) 0) (.op 1 [] (some 42) none true (.load none (.t 41)) (.op 2 [] (some 43) none true (.fad (.t 3) 1) (.op 3 [] (some 44) none true (.load none (.t 43)) (.op 4 [] (some 45) none true (.bin .add (.t 44) (.i 1)) (.op 5 [] (some 46) none true (.fad (.t 3) 2) (.op 6 [] (some 47) none true (.load none (.t 46)) (.alt (.op 7 [6] (some 48) none false (.call 48 295 [(.t 47)]) (.op 8 [] (some 49) none true (.build [(.i 0), (.i 0), (.n 7)] [(0, 1, (.t 42)), (1, 1, (.t 45)), (2, 1, (.t 48))]) (.o 9 9 (.alloc 9 [(.i 0), (.i 0), (.n 7)]) (.op 10 [1, 3, 6] none none false (.store (some 3) (.t 9) (.t 49)) .done)))) (.o 9 9 (.alloc 9 [(.i 0), (.i 0), (.n 7)]) (.op 7 [6] (some 48) none false (.call 48 295 [(.t 47)]) (.op 8 [] (some 49) none true (.build [(.i 0), (.i 0), (.n 7)] [(0, 1, (.t 42)), (1, 1, (.t 45)), (2, 1, (.t 48))]) (.op 10 [1, 3, 6] none none false (.store (some 3) (.t 9) (.t 49)) .done))))))))))))) (.seq (.g (.o 0 50 (.mov (.t 8)) (.o 1 51 (.bin .lss (.t 50) (.i 0)) (.o 2 52 (.mov (.t 51)) (.op 3 [] (some 53) (some (52, true)) false (.fad (.t 9) 2) (.op 4 [] (some 54) (some (52, true)) false (.load none (.t 53)) (.op 5 [] (some 55) (some (52, true)) false (.len (.t 54)) (.op 6 [] (some 56) (some (52, true)) false (.bin .eql (.t 55) (.i 8)) (.o 7 57 (.pick (.t 52) (.t 56) (.v (.bool false))) .done)))))))) (.cond (.t 57) (.g (.o 0 8 (.mov (.i 0)) .done) (.g (.o 0 58 (.fad (.t 9) 2) (.o 1 59 (.load none (.t 58)) (.o 2 60 (.len (.t 59)) (.o 3 61 (.mov (.i 0)) .done)))) (.block 0 (.loop (.g (.o 0 62 (.bin .lss (.t 61) (.t 60)) .done) (.seq (.cond (.t 62) .skip (.exit 0)) (.seq (.block 1 (.g (.o 0 63 (.mov (.t 61)) (.o 1 64 (.iad 7 (.t 59) (.t 61)) (.o 2 65 (.load (some 7) (.t 64)) (.o 3 11 (.alloc 11 [(.n 1), (.i 0), (.i 0), (.n 7), (.i 0), (.i 0), (.i 0)]) (.o 4 10 (.mov (.t 63)) (.op 5 [] none none false (.store (some 7) (.t 11) (.t 65)) .done)))))) (.seq (.reg true (.op 0 [] (some 66) none true (.fad (.t 11) 6) (.op 1 [] (some 67) none true (.load none (.t 66)) (.op 2 [] (some 68) none true (.fad (.t 9) 2) (.op 3 [] (some 69) none true (.load none (.t 68)) (.op 4 [] (some 70) none true (.mov (.t 8)) (.op 5 [] (some 71) none true (.iad 7 (.t 69) (.t 70)) (.op 6 [] (some 72) none true (.fad (.t 71) 6) (.op 7 [] (some 73) none true (.load none (.t 72)) (.op 8 [] (some 74) none true (.bin .lss (.t 67) (.t 73)) .done)))))))))) (.cond (.t 74) (.reg false (.o 0 75 (.mov (.t 10)) (.o 1 8 (.mov (.t 75)) .done))) .skip)))) (.reg false (.o 0 76 (.bin .add (.t 61) (.i 1)) (.o 1 61 (.mov (.t 76)) .done)))))))))) .skip)) (.seq (.g (.o 0 77 (.mov (.t 8)) (.o 1 78 (.bin .geq (.t 77) (.i 0)) .done)) (.cond (.t 78) (.reg false (.o 0 79 (.fad (.t 9) 2) (.o 1 80 (.load none (.t 79)) (.o 2 81 (.mov (.t 8)) (.o 3 82 (.mov (.t 8)) (.o 4 83 (.bin .add (.t 82) (.i 1)) (.o 5 84 (.call 84 296 [(.t 80), (.t 81), (.t 83)]) (.o 6 85 (.fad (.t 9) 2) (.op 7 [] none none false (.store none (.t 85) (.t 84)) .done))))))))) .skip)) (.seq (.reg true (.op 0 [] (some 86) none true (.fad (.t 3) 0) (.op 1 [] (some 87) none true (.load none (.t 86)) (.op 2 [] (some 88) none true (.mov (.t 2)) (.op 3 [] (some 89) none true (.mm false (.t 88) (.i 1000)) (.op 4 [] (some 90) none true (.bin .add (.t 87) (.t 89)) (.op 5 [] (some 91) none true (.fad (.t 9) 1) (.op 6 [] (some 92) none true (.load none (.t 91)) (.op 7 [] (some 93) none true (.fad (.t 4) 5) (.op 8 [1] none none false (.store none (.t 93) (.t 90)) (.op 9 [] (some 94) none true (.fad (.t 4) 6) (.op 10 [1, 6] none none false (.store none (.t 94) (.t 92)) .done)))))))))))) (.g (.o 0 95 (.fad (.t 9) 2) (.o 1 96 (.load none (.t 95)) (.o 2 97 (.load (some 7) (.t 4)) (.o 3 98 (.lit 98 7 [(.n 1), (.i 0), (.i 0), (.n 7), (.i 0), (.i 0), (.i 0)] 1 [(0, 7, (.t 97))]) (.o 4 99 (.app 99 7 88 (.t 96) (.t 98)) (.o 5 100 (.fad (.t 9) 2) (.op 6 [] none none false (.store none (.t 100) (.t 99)) .done))))))) (.g (.o 0 101 (.fad (.t 9) 2) (.o 1 102 (.load none (.t 101)) (.o 2 103 (.call 103 297 [(.t 102), (.fn 142)]) .done))) (.g (.o 0 104 (.load (some 3) (.t 9)) (.op 1 [] none none false (.store (some 3) (.t 6) (.t 104)) (.o 2 7 (.mov (.v (.bool true))) .done))) .ret))))))))))
theorem dg_impl_Cache_keep : Tryz.f229.body.bind (digC Tryz.prog Tryz.f229.ntmps []) = some c_impl_Cache_keep := by kernel_rfl
theorem rs_impl_Cache_keep : resSlots Tryz.prog Tryz.f229 = some [.m 6 (some 3), .s 7] := by kernel_rfl
theorem ok_impl_Cache_keep (c : Cache) (s : Slot) (ttl : Int) (hs : SmallSs c.slots) (h8 : c.slots.length ≤ 8) (hsm : SmallS s) (hc : -10 ≤ c.now ∧ c.now ≤ 2000000 ∧ 0 ≤ c.turn ∧ c.turn ≤ 1000000) (ht : -10 ≤ ttl ∧ ttl ≤ 10000000000) :
    FnOK Tryz.prog 229 [.agg (c.cells.map .d), .agg (s.cells.map .d), .one (.d (.sc (.int .i64 ttl)))] (fun ra _ => ∃ x : Cache × Bool, KeepR c s ttl x.1 x.2 ∧ ra = [.agg [.d (.sc (.int .i64 x.1.now)), .d (.sc (.int .i64 x.1.turn)), .d (encS x.1.slots)], .one (.d (.sc (.bool x.2)))]) := by
  refine FnOK.ofK Tryz.func229 (by kernel_rfl) dg_impl_Cache_keep rs_impl_Cache_keep rfl rfl ?_
  delta c_impl_Cache_keep T.o X.i C.g
  have hl := hs.len
  have hnl := hsm.n.len
  have hstopo39 := trivial
  refine Kbc (kBox Y Y Y Y Y (kBox Y Y Y Y Y (kAlloc Y Y (Ka Y (Kdb (Kc (Ke Y Y Y (Kf Y Y (Ke Y Y Y (Kf Y Y (Ke Y Y Y (Kp (ok_impl_Cache_find _ _ _ prx prx) ⟨⟨⟨Y, Y, Y, trivial⟩, leb⟩, ⟨⟨Y, trivial⟩, leb⟩, rfl, trivial⟩ Y Y Y Y Y (Ka Y (Kdb (Kb ?_)))))))))))))))
  clear hstopo39
  obtain ⟨f, hf⟩ : ∃ f, f = findS c.slots s.name s.ty := ⟨_, rfl⟩
  have hfc := findS_cases c.slots s.name s.ty
  rw [← hf] at hfc ⊢
  refine kJoin2 (α := { _x : Unit // refuse c s ttl = false }) (fun _ => ⟨tabSl [(2, .i ttl), (3, .c (.ptr (rid 3 0) 1 0)), (4, .c (.ptr (rid 4 0) 1 0)), (6, .c (.ptr (rid 6 0) 1 0)), (8, .i f)], obTab 1 [(rid 3 0, ⟨1, 0, .box (c.cells.map .d)⟩), (rid 4 0, ⟨1, 0, .box (s.cells.map .d)⟩), (rid 6 0, ⟨1, 0, .box [.d (.sc (.int .i64 0)), .d (.sc (.int .i64 0)), .nil 7]⟩)], []⟩) ?_ (fun x' hc2 => ?_)
  case refine_2 =>
    rcases hfc with e | ⟨i, hi, e⟩
    · have hr : refuse c s ttl = (decide (ttl = 0) || decide (c.turn = 1000000)) := by unfold refuse; rw [← hf, e]; simp
      rw [e]
      refine kRegD (Ka Y (Kj Y Y Y (Ka Y (kGP Y (fun g0 => Kg Y (Kg Y (Kg Y (Kk Y (Ka Y (Ka Y (Kg Y (Kg Y (Kg Y (kGU Y (kGU Y (kGU Y (kGU Y (kGU Y (kGU Y (kGU Y (kGU Y (kGU Y (Kg Y (Kk Y (Ka Y (Kd (kH (kCondT Y (Kbc (Ke Y Y Y (Ko Y Y Y Y (Ka Y (Kd (Kr (Er (ra := [.agg [(.d _), (.d _), (.d _)], .one (.d _)]) rfl ?_))))))))))))))))))))))))))))))) (fun g0 => Ki Y (Kf Y Y (Ki Y (Ke Y Y Y (Ki Y (Kj Y Y Y (Kl Y (Ka Y (Ka Y (kGP Y (fun g1 => Kg Y (Kg Y (Kg Y (kGU Y (kGU Y (kGU Y (kGU Y (kGU Y (kGU Y (kGU Y (kGU Y (kGU Y (Kg Y (Kk Y (Ka Y (Kd (kH (kCondT Y (Kbc (Ke Y Y Y (Ko Y Y Y Y (Ka Y (Kd (Kr (Er (ra := [.agg [(.d _), (.d _), (.d _)], .one (.d _)]) rfl ?_))))))))))))))))))))))))) (fun g1 => Ki Y (Ka Y (Ki Y (Kj Y Y Y (Ki Y (Ka Y (Kg Y (Kg Y (Kg Y (Kg Y (Kg Y (Kg Y (Kg Y (Kg Y (Kg Y (Ki Y (Kl Y (Ka Y (Kl Y (Ka Y (Kd (kH (kCondF Y (Kn ?_))))))))))))))))))))))))))))))))))))))
      · exact ⟨(c, false), by unfold KeepR; rw [if_pos (by rw [hr]; simp [*])]; exact ⟨rfl, rfl⟩, rfl⟩
      · exact ⟨(c, false), by unfold KeepR; rw [if_pos (by rw [hr]; simp [*])]; exact ⟨rfl, rfl⟩, rfl⟩
      · refine hc2 _ ⟨(), by rw [hr]; simp [*]⟩ ?_
        rw [e]
        exact .normA
    · have hsi := slotAt_eq hi (hf ▸ e)
      have hr : refuse c s ttl = (decide (ttl = 0) || decide (c.turn = 1000000) || decide (s.rank < c.slots[i].rank)) := by unfold refuse; rw [← hf, e, hsi]; simp
      rw [e]
      refine kRegD (Ka Y (Kj Y Y Y (Ka Y (kGP Y (fun g0 => Kg Y (Kg Y (Kg Y (Kk Y (Ka Y (Ka Y (Kg Y (Kg Y (Kg Y (kGU Y (kGU Y (kGU Y (kGU Y (kGU Y (kGU Y (kGU Y (kGU Y (kGU Y (Kg Y (Kk Y (Ka Y (Kd (kH (kCondT Y (Kbc (Ke Y Y Y (Ko Y Y Y Y (Ka Y (Kd (Kr (Er (ra := [.agg [(.d _), (.d _), (.d _)], .one (.d _)]) rfl ?_))))))))))))))))))))))))))))))) (fun g0 => Ki Y (Kf Y Y (Ki Y (Ke Y Y Y (Ki Y (Kj Y Y Y (Kl Y (Ka Y (Ka Y (kGP Y (fun g1 => Kg Y (Kg Y (Kg Y (kGU Y (kGU Y (kGU Y (kGU Y (kGU Y (kGU Y (kGU Y (kGU Y (kGU Y (Kg Y (Kk Y (Ka Y (Kd (kH (kCondT Y (Kbc (Ke Y Y Y (Ko Y Y Y Y (Ka Y (Kd (Kr (Er (ra := [.agg [(.d _), (.d _), (.d _)], .one (.d _)]) rfl ?_))))))))))))))))))))))))) (fun g1 => Ki Y (Ka Y (Ki Y (Kj Y Y Y (Ki Y (Ka Y (Ki Y (Kf Y Y (Ki Y (Ke Y Y Y (Ki Y (Ka Y (Ki Y (kIadR Y Y Y prl (Ki Y (kFadD Y (Ki Y (Ky Y Y (Ki Y (Kf Y Y (Ki Y (Ke Y Y Y (Ki Y (Kj Y Y Y (Ki Y (Kk Y (Ka Y (Kl Y (Ka Y (Kd (kH (Km Y (fun g2 => Kbc (Ke Y Y Y (Ko Y Y Y Y (Ka Y (Kd (Kr (Er (ra := [.agg [(.d _), (.d _), (.d _)], .one (.d _)]) rfl ?_))))))) (fun g2 => Kn ?_)))))))))))))))))))))))))))))))))))))))))))))))
      · exact ⟨(c, false), by unfold KeepR; rw [if_pos (by rw [hr]; simp [*])]; exact ⟨rfl, rfl⟩, rfl⟩
      · exact ⟨(c, false), by unfold KeepR; rw [if_pos (by rw [hr]; simp [*])]; exact ⟨rfl, rfl⟩, rfl⟩
      · exact ⟨(c, false), by unfold KeepR; rw [if_pos (by rw [hr]; simp [*])]; exact ⟨rfl, rfl⟩, rfl⟩
      · refine hc2 _ ⟨(), by rw [hr]; simp [*]⟩ ?_
        rw [e]
        exact .normA
  rintro ⟨_, href⟩
  refine Kb ?_
  refine kCut ⟨tabSl [(2, .i ttl), (3, .c (.ptr (rid 3 0) 1 0)), (4, .c (.ptr (rid 4 0) 1 0)), (6, .c (.ptr (rid 6 0) 1 0)), (8, .i f), (9, .c (.ptr (rid 9 0) 1 0))], obTab 1 [(rid 3 0, ⟨1, 0, .box (c.cells.map .d)⟩), (rid 4 0, ⟨1, 0, .box (s.cells.map .d)⟩), (rid 6 0, ⟨1, 0, .box [.d (.sc (.int .i64 0)), .d (.sc (.int .i64 0)), .nil 7]⟩), (rid 9 0, ⟨1, 0, .box [.d (.sc (.int .i64 c.now)), .d (.sc (.int .i64 (c.turn + 1))), .arr (rid 48 0) 1]⟩), (rid 48 0, ⟨1, 0, .arr false (encS c.slots)⟩)], []⟩ ?_ (fun x hc => ?_)
  case refine_2 => refine kRegD (kFadP rfl rfl (kLoadP rfl rfl rfl (kFadP rfl rfl (kLoadP rfl rfl rfl (kAdd rfl rfl (by omega) (kFadP rfl rfl (kLoadP rfl rfl rfl (kAlt (kRelK rfl rfl (kCall1 false (ok_slices_Clone_Limpl_Slot_impl_Slot _ prx) ⟨rfl, trivial⟩ rfl rfl rfl (fun _ => (kBuildG rfl (kAlloc rfl rfl (kRelF rfl rfl (kStoreP rfl rfl rfl rfl (kDone (kH (hc _ .normA)))))))))) (kAlloc rfl rfl (kRelK rfl rfl (kCall1 false (ok_slices_Clone_Limpl_Slot_impl_Slot _ prx) ⟨rfl, trivial⟩ rfl rfl rfl (fun _ => (kBuildG rfl (kRelF rfl rfl (kStoreP rfl rfl rfl rfl (kDone (kH (hc _ .normA))))))))))))))))))
  have hstopo57 := trivial
  refine Kb (Kb ?_)
  clear hstopo57
  refine kJoin2 (α := { g : Int // (0 ≤ g → ∃ i : Nat, g = i ∧ i < c.slots.length) ∧ baseC c s = if 0 ≤ g then c.slots.eraseIdx g.toNat else c.slots }) (fun y => ⟨tabSl [(2, .i ttl), (3, .c (.ptr (rid 3 0) 1 0)), (4, .c (.ptr (rid 4 0) 1 0)), (6, .c (.ptr (rid 6 0) 1 0)), (8, .i y.1), (9, .c (.ptr (rid 9 0) 1 0))], obTab 1 [(rid 3 0, ⟨1, 0, .box (c.cells.map .d)⟩), (rid 4 0, ⟨1, 0, .box (s.cells.map .d)⟩), (rid 6 0, ⟨1, 0, .box [.d (.sc (.int .i64 0)), .d (.sc (.int .i64 0)), .nil 7]⟩), (rid 9 0, ⟨1, 0, .box [.d (.sc (.int .i64 c.now)), .d (.sc (.int .i64 (c.turn + 1))), .arr (rid 48 0) 1]⟩), (rid 48 0, ⟨1, 0, .arr false (encS c.slots)⟩)], []⟩) ?_ (fun x' hc2 => ?_)
  case refine_2 =>
    refine Kc (Ka Y (Kj Y Y Y (Ka Y (kGP Y (fun g0 => Ki Y (Kf Y Y (Ki Y (Ke Y Y Y (Ki Y (Kq Y Y (Ki Y (Kj Y Y Y (Kk Y (Ka Y (Kd (Km Y (fun g1 => Kbc (Ka Y (Kdb (Kc (Kf Y Y (Ke Y Y Y (Kq Y Y (Ka Y (Kd (Kt ?_)))))))))) (fun g1 => Kn ?_))))))))))))) (fun g0 => Kg Y (Kg Y (Kg Y (Kg Y (Kl Y (Ka Y (Kd (kCondF Y (Kn ?_)))))))))))))
    · have h8' : c.slots.length = 8 := by omega
      refine kLoop (α := { k : Nat // k ≤ 8 }) (fun y => ⟨tabSl [(2, .i ttl), (3, .c (.ptr (rid 3 0) 1 0)), (4, .c (.ptr (rid 4 0) 1 0)), (6, .c (.ptr (rid 6 0) 1 0)), (8, .i (oldN c.slots y.1)), (9, .c (.ptr (rid 9 0) 1 0)), (59, .c (.arr (rid 48 0) 1)), (60, .i c.slots.length), (61, .i y.1)], obTab 1 [(rid 3 0, ⟨1, 0, .box (c.cells.map .d)⟩), (rid 4 0, ⟨1, 0, .box (s.cells.map .d)⟩), (rid 6 0, ⟨1, 0, .box [.d (.sc (.int .i64 0)), .d (.sc (.int .i64 0)), .nil 7]⟩), (rid 9 0, ⟨1, 0, .box [.d (.sc (.int .i64 c.now)), .d (.sc (.int .i64 (c.turn + 1))), .arr (rid 48 0) 1]⟩), (rid 48 0, ⟨1, 0, .arr false (encS c.slots)⟩)], []⟩) (fun y => 8 - y.1) ⟨0, by omega⟩ .normA ?_
      rintro ⟨k, hk⟩
      simp only
      have ho := oldN_lt c.slots k (by omega) (by omega)
      obtain ⟨o, eo⟩ : ∃ o, o = oldN c.slots k := ⟨_, rfl⟩
      rw [← eo] at ho ⊢
      rcases Nat.lt_or_ge k 8 with hlt | hge
      · have hk3 : k < c.slots.length := by omega
        have hst : oldN c.slots (k + 1) = if c.slots[k].used < c.slots[o].used then k else o := by
          rw [oldN, ← eo, usedAt_eq hk3, usedAt_eq ho]
        refine Kbc (Kj Y Y Y (Kdb (Km Y (fun g0 => Kn (Kb (Kt (Kbc (Ka Y (kIadAR Y Y Y Y prl (kLoadER Y Y prl rfl (kAlloc Y Y (Ka Y (Ko Y Y Y Y (Kdb (kRegD (Kf Y Y (Ke Y Y Y (Kf Y Y (Ke Y Y Y (Ka Y (kIadAR Y Y Y Y prl (kFadE Y Y (kLoadER Y Y prl rfl (Kj Y Y Y (Kd (kH (Km Y (fun g1 => Kc (Ka Y (Ka Y (Kd (Kv (Kc (kAdd Y Y om (Ka Y (Kd ?_))))))))) (fun g1 => Kn (Kv (Kc (kAdd Y Y om (Ka Y (Kd ?_)))))))))))))))))))))))))))))) (fun g0 => om))))
        · exact kInv ⟨⟨k + 1, by omega⟩, by simp only; omega, by simp only; rw [hst, if_pos (by assumption)]; exact .normA⟩
        · exact kInv ⟨⟨k + 1, by omega⟩, by simp only; omega, by simp only; rw [hst, if_neg (by assumption)]; exact .normA⟩
      · have hk8 : k = 8 := by omega
        refine Kbc (Kj Y Y Y (Kdb (Km Y (fun g0 => om) (fun g0 => kExit (kExC (kExI (kExB ?_)))))))
        exact hc2 _ ⟨(o : Int), fun _ => ⟨o, rfl, ho⟩, by unfold baseC; rw [← hf, if_neg (by omega), if_pos h8', if_pos (by omega), Int.toNat_natCast, eo, hk8]⟩ .normA
    · exact hc2 _ ⟨f, by omega, by unfold baseC; rw [← hf, if_neg (by omega), if_neg (by omega), if_neg (by omega)]⟩ .normA
    · exact hc2 _ ⟨f, fun h => (hfc.resolve_left (by omega)).elim fun i h => ⟨i, h.2, h.1⟩, by unfold baseC; rw [← hf, if_pos (by omega), if_pos (by omega)]⟩ .normA
  rintro ⟨g, hg1, hg2⟩
  simp only
  have hstopo78 := trivial
  refine Kb (Kb ?_)
  clear hstopo78
  refine kJoin2 (α := Unit) (fun _ => ⟨tabSl [(2, .i ttl), (3, .c (.ptr (rid 3 0) 1 0)), (4, .c (.ptr (rid 4 0) 1 0)), (6, .c (.ptr (rid 6 0) 1 0)), (9, .c (.ptr (rid 9 0) 1 0))], obTab 1 [(rid 3 0, ⟨1, 0, .box (c.cells.map .d)⟩), (rid 4 0, ⟨1, 0, .box (s.cells.map .d)⟩), (rid 6 0, ⟨1, 0, .box [.d (.sc (.int .i64 0)), .d (.sc (.int .i64 0)), .nil 7]⟩), (rid 9 0, ⟨1, 0, .box [.d (.sc (.int .i64 c.now)), .d (.sc (.int .i64 (c.turn + 1))), .arr (rid 48 0) 1]⟩), (rid 48 0, ⟨1, 0, .arr false (encS (baseC c s))⟩)], []⟩) ?_ (fun x' hc2 => ?_)
  case refine_2 =>
    rcases Int.lt_or_le g 0 with hg | hg
    · rw [if_neg (by omega)] at hg2
      refine Kc (Ka Y (Kj Y Y Y (Kd (Km Y (fun g0 => om) (fun g0 => Kn ?_)))))
      exact hc2 _ () (by rw [hg2]; exact .normA)
    · obtain ⟨i, rfl, hi⟩ := hg1 hg
      rw [if_pos hg, Int.toNat_natCast] at hg2
      refine Kc (Ka Y (Kj Y Y Y (Kd (kCondT Y (Kc (Kf Y Y (Ke Y Y Y (Ka Y (Ka Y (kAdd Y Y om ?_))))))))))
      refine Ku false (okS_slices_Delete c.slots false i hi) ⟨⟨false, rfl, .inl rfl⟩, rfl, rfl, trivial⟩ Y Y Y (fun _ => ?_)
      refine Kf Y Y (Ko Y Y Y Y (Kd ?_))
      exact hc2 _ () (by rw [hg2]; exact (Sub.renBox (rid 9 0) (rid 84 0) (rid 48 0) 2 rfl rfl rfl rfl rfl rfl).trans .normA)
  intro _
  have hB : SmallSs (baseC c s) ∧ (baseC c s).length ≤ 8 := by
    unfold baseC
    split
    · exact ⟨⟨by rw [List.length_eraseIdx]; split <;> omega, fun x hx => hs.mem x (List.mem_of_mem_eraseIdx hx)⟩, by rw [List.length_eraseIdx]; split <;> omega⟩
    · split
      · exact ⟨⟨by rw [List.length_eraseIdx]; split <;> omega, fun x hx => hs.mem x (List.mem_of_mem_eraseIdx hx)⟩, by rw [List.length_eraseIdx]; split <;> omega⟩
      · exact ⟨hs, h8⟩
  obtain ⟨hB1, hB2⟩ := hB
  have hBl := hB1.len
  obtain ⟨B, eB⟩ : ∃ B, B = baseC c s := ⟨_, rfl⟩
  rw [← eB] at hB1 hB2 hBl ⊢
  refine Kb (kRegD (Kf Y Y (Ke Y Y Y (Ka Y (kMmMin Y Y (kAdd Y Y om (Kf Y Y (Ke Y Y Y (Kf Y Y (Kx Y Y (Ko Y Y Y Y (Kf Y Y (Ks Y Y (Ko Y Y Y Y (Kd (kH (Kbc (Kf Y Y (Ke Y Y Y (Ke Y Y Y (kLitG Y Y Y Y (kAppSlot Y Y Y Y Y Y Y prl (Kf Y Y (Ko Y Y Y Y (Kdb (Kc (Kf Y Y (Ke Y Y Y ?_))))))))))))))))))))))))))))
  have hV : ∀ x ∈ B ++ [newS c s ttl], SmallS x := fun x hx => by
    rcases List.mem_append.1 hx with h | h
    · exact hB1.mem x h
    · simp only [List.mem_singleton] at h; rw [h]; exact ⟨hsm.n, hsm.r⟩
  refine kCallEA (ok_slices_SortFunc_Limpl_Slot_impl_Slot (B ++ [newS c s ttl]) false hV (by simp) (by simp; omega)) ⟨⟨false, rfl, .inl rfl⟩, rfl, trivial⟩ Y Y Y (fun _ => rfl) (fun l' hl' => ?_)
  refine Kdb (Kc (Ke Y Y Y (Ko Y Y Y Y (Ka Y (Kd (Kr (Er (ra := [.agg [(.d _), (.d _), (.d _)], .one (.d _)]) rfl ?_)))))))
  exact ⟨(⟨c.now, c.turn + 1, l'⟩, true), by unfold KeepR; rw [if_neg (by rw [href]; decide)]; exact ⟨rfl, rfl, rfl, by rw [← eB]; exact hl'.1, hl'.2⟩, rfl⟩

def c_impl_Cache_put : C := (.g (.o 0 3 (.box 3 (.t 0)) (.o 1 6 (.alloc 6 [(.i 0), (.i 0), (.n 7)]) (.o 2 7 (.mov (.v (.bool false))) .done))) (.seq (.reg true (.op 0 [] (some 8) none true (.load (some 3) (.t 3)) (.op 1 [] (some 9) none true (.mov (.t 1)) (.op 2 [] (some 10) none true (.iad 7 (.t 9) (.i 0)) (.op 3 [] (some 11) none true (.fad (.t 10) 0) (.op 4 [] (some 12) none true (.load (some 1) (.t 11)) (.op 5 [] (some 13) none true (.mov (.t 1)) (.op 6 [] (some 14) none true (.iad 7 (.t 13) (.i 0)) (.op 7 [] (some 15) none true (.fad (.t 14) 1) (.op 8 [] (some 16) none true (.load none (.t 15)) (.op 9 [] (some 17) none true (.mov (.t 1)) (.op 10 [] (some 18) none true (.mov (.t 2)) (.op 11 [] (some 19) none true (.build [(.n 1), (.i 0), (.i 0), (.n 7), (.i 0), (.i 0), (.i 0)] [(0, 1, (.t 12)), (1, 1, (.t 16)), (2, 1, (.i 1)), (3, 1, (.t 17)), (4, 1, (.t 18))]) (.op 12 [] (some 20) none true (.mov (.t 1)) (.op 13 [] (some 21) none true (.iad 7 (.t 20) (.i 0)) (.op 14 [] (some 22) none true (.fad (.t 21) 2) (.op 15 [] (some 23) none true (.load none (.t 22)) (.op 16 [0, 4, 8, 15] (some 24) none false (.call 24 229 [(.t 8), (.t 19), (.t 23)]) (.op 17 [] (some 25) none true (.ext (.t 24) 0) (.op 18 [] (some 26) none true (.ext (.t 24) 1) (.op 19 [0, 4, 8, 15] none none false (.store (some 3) (.t 6) (.t 25)) (.op 20 [] (some 7) none true (.mov (.t 26)) .done)))))))))))))))))))))) .ret))
theorem dg_impl_Cache_put : Tryz.f150.body.bind (digC Tryz.prog Tryz.f150.ntmps []) = some c_impl_Cache_put := by kernel_rfl
theorem rs_impl_Cache_put : resSlots Tryz.prog Tryz.f150 = some [.m 6 (some 3), .s 7] := by kernel_rfl
theorem ok_impl_Cache_put (c : Cache) (l : List Rr) (rank : Int) (hs : SmallSs c.slots) (h8 : c.slots.length ≤ 8) (hl : SmallRs l) (h1 : 0 < l.length) (hc : -10 ≤ c.now ∧ c.now ≤ 2000000 ∧ 0 ≤ c.turn ∧ c.turn ≤ 1000000) (ht : -10 ≤ l[0].ttl ∧ l[0].ttl ≤ 10000000000) :
    FnOK Tryz.prog 150 [.agg (c.cells.map .d), .one (.d (encR l)), .one (.d (.sc (.int .i64 rank)))] (fun ra _ => ∃ x : Cache × Bool, KeepR c ⟨l[0].name, l[0].ty, 1, l, rank, 0, 0⟩ l[0].ttl x.1 x.2 ∧ ra = [.agg [.d (.sc (.int .i64 x.1.now)), .d (.sc (.int .i64 x.1.turn)), .d (encS x.1.slots)], .one (.d (.sc (.bool x.2)))]) := by
  refine FnOK.ofK Tryz.func150 (by kernel_rfl) dg_impl_Cache_put rs_impl_Cache_put rfl rfl ?_
  delta c_impl_Cache_put T.o X.i C.g
  have hll := hl.len
  have hr := hl.mem _ (List.getElem_mem h1)
  have hsm : SmallS ⟨l[0].name, l[0].ty, 1, l, rank, 0, 0⟩ := ⟨hr.n, hl⟩
  refine Kbc (kBox Y Y Y Y Y (kAlloc Y Y (Ka Y (Kdb (kRegD (Ke Y Y Y (Ka Y (kIadR (m := 0) Y Y Y prl (kFadD Y (Ky Y Y (Ka Y (kMem [(28672, ⟨1, 0, .box [.d _, .d _, .nil 7]⟩)] ((13, .c (.d _)) :: (14, .c (.un)) :: (15, .c (.un)) :: (1, .c (.d _)) :: (2, .c (.d _)) :: (12, .g [.d _]) :: (16, .c (.un)) :: (17, .c (.un)) :: (18, .c (.un)) :: (20, .c (.un)) :: (21, .c (.un)) :: (22, .c (.un)) :: (8, .g [.d _, .d _, .d _]) :: (19, .c (.un)) :: (23, .c (.un)) :: (24, .c (.un)) :: (6, .c (.ptr 28672 1 0)) :: (25, .c (.un)) :: (26, .c (.un)) :: []) [16384] ⟨Y, trivial⟩ ⟨Y, Y, Y, Y, Y, Y, Y, Y, Y, Y, Y, Y, Y, Y, Y, Y, Y, Y, Y, trivial⟩ Y (kIadR (m := 0) Y Y Y prl (kFadD Y (Ky Y Y (Ka Y (Ka Y (kMem [(28672, ⟨1, 0, .box [.d _, .d _, .nil 7]⟩)] ((12, .g [.d _]) :: (16, .c (.d _)) :: (17, .c (.d _)) :: (18, .c (.d _)) :: (1, .c (.d _)) :: (20, .c (.un)) :: (21, .c (.un)) :: (22, .c (.un)) :: (8, .g [.d _, .d _, .d _]) :: (19, .c (.un)) :: (23, .c (.un)) :: (24, .c (.un)) :: (6, .c (.ptr 28672 1 0)) :: (25, .c (.un)) :: (26, .c (.un)) :: []) [16384] ⟨Y, trivial⟩ ⟨Y, Y, Y, Y, Y, Y, Y, Y, Y, Y, Y, Y, Y, Y, Y, trivial⟩ Y (kBuildG Y (Ka Y (kIadR (m := 0) Y Y Y prl (kFadD Y (Ky Y Y (Ks Y Y ?_))))))))))))))))))))))))
  refine kCallX false (ok_impl_Cache_keep c ⟨l[0].name, l[0].ty, 1, l, rank, 0, 0⟩ l[0].ttl hs h8 hsm hc ht) ⟨⟨⟨Y, Y, Y, trivial⟩, leb⟩, ⟨⟨Y, Y, Y, Y, Y, Y, Y, trivial⟩, leb⟩, rfl, trivial⟩ Y (fun _ => rfl) (fun _ => rfl) (fun x os hx => ?_)
  refine kExtC Y Y (kExtC Y Y (kMem [(28672, ⟨1, 0, .box [.d _, .d _, .nil 7]⟩)] [(6, .c (.ptr 28672 1 0)), (25, .g [.d _, .d _, .d _]), (26, .c (.d _))] [] ⟨Y, trivial⟩ ⟨Y, Y, Y, trivial⟩ Y (Ks Y Y (Ko Y Y Y Y (Ka Y (Kd (kH (kMem [(28672, ⟨1, 0, .box [.d _, .d _, .d _]⟩)] [(6, .c (.ptr 28672 1 0)), (7, .c (.d _))] [] ⟨Y, trivial⟩ ⟨Y, Y, trivial⟩ Y (Kr (Er (ra := [.agg [(.d _), (.d _), (.d _)], .one (.d _)]) rfl ?_))))))))))
  exact ⟨x, hx, rfl⟩

def c_impl_CachePut : C := (.g (.o 0 3 (.box 3 (.t 0)) (.o 1 6 (.alloc 6 [(.i 0), (.i 0), (.n 7)]) (.o 2 7 (.mov (.v (.bool false))) .done))) (.seq (.g (.o 0 10 (.load (some 3) (.t 3)) (.o 1 11 (.call 11 56 [(.t 10)]) (.o 2 12 (.un .not (.t 11)) (.o 3 13 (.mov (.t 12)) (.op 4 [] (some 14) (some (13, false)) false (.mov (.t 1)) (.op 5 [] (some 15) (some (13, false)) false (.call 15 149 [(.t 14)]) (.op 6 [] (some 16) (some (13, false)) false (.un .not (.t 15)) (.o 7 17 (.pick (.t 13) (.v (.bool true)) (.t 16)) (.o 8 18 (.mov (.t 17)) (.op 9 [] (some 19) (some (18, false)) false (.mov (.t 2)) (.op 10 [] (some 20) (some (18, false)) false (.call 20 109 [(.t 19), (.i 0), (.i 3)]) (.op 11 [] (some 21) (some (18, false)) false (.un .not (.t 20)) (.o 12 22 (.pick (.t 18) (.v (.bool true)) (.t 21)) .done))))))))))))) (.cond (.t 22) (.g (.o 0 23 (.build [(.i 0), (.i 0), (.n 7)] []) (.op 1 [] none none false (.store (some 3) (.t 6) (.t 23)) (.o 2 7 (.mov (.v (.bool false))) .done))) .ret) .skip)) (.g (.o 0 25 (.load (some 3) (.t 3)) (.o 1 26 (.mov (.t 1)) (.o 2 27 (.mov (.t 2)) (.o 3 28 (.call 28 150 [(.t 25), (.t 26), (.t 27)]) (.o 4 24 (.mov (.t 28)) (.o 5 29 (.ext (.t 24) 0) (.o 6 30 (.ext (.t 24) 1) (.o 7 8 (.alloc 8 [(.i 0), (.i 0), (.n 7)]) (.op 8 [] none none false (.store (some 3) (.t 8) (.t 29)) (.o 9 9 (.mov (.t 30)) .done)))))))))) (.g (.o 0 31 (.load (some 3) (.t 8)) (.o 1 32 (.call 32 91 [(.t 31)]) (.o 2 33 (.mov (.t 9)) (.op 3 [] none none false (.store (some 3) (.t 6) (.t 32)) (.o 4 7 (.mov (.t 33)) .done))))) .ret))))
theorem dg_impl_CachePut : Tryz.f60.body.bind (digC Tryz.prog Tryz.f60.ntmps []) = some c_impl_CachePut := by kernel_rfl
theorem rs_impl_CachePut : resSlots Tryz.prog Tryz.f60 = some [.m 6 (some 3), .s 7] := by kernel_rfl
theorem ok_impl_CachePut (c : Cache) (l : List Rr) (rank : Int) (hs : SmallSs c.slots) (hl : SmallRs l) :
    FnOK Tryz.prog 60 [.agg (c.cells.map .d), .one (.d (encR l)), .one (.d (.sc (.int .i64 rank)))] (fun ra _ => ∃ x : Cache × Bool, PutR c l rank x.1 x.2 ∧ ra = [.agg [.d (.sc (.int .i64 x.1.now)), .d (.sc (.int .i64 x.1.turn)), .own true (encS x.1.slots)], .one (.d (.sc (.bool x.2)))]) := by
  refine FnOK.ofK Tryz.func60 (by kernel_rfl) dg_impl_CachePut rs_impl_CachePut rfl rfl ?_
  delta c_impl_CachePut T.o X.i C.g
  have hll := hl.len
  have hstopo28 := trivial
  refine Kbc (kBox Y Y Y Y Y (kAlloc Y Y (Ka Y (Kdb (Kbc (Ke Y Y Y (Kp (ok_impl_CacheOk _ prx) ⟨⟨⟨Y, Y, Y, trivial⟩, leb⟩, trivial⟩ Y Y Y Y Y (Kw Y Y (Ka Y (kGN Y (fun g0 => Kg Y (Kg Y (Kg Y (Kk Y (Ka Y (Ka Y (Kg Y (Kg Y (Kg Y (Kk Y (Ka Y (Kd (kCondT Y (Kbc (kMem [(28672, ⟨1, 0, .box [.d _, .d _, .nil 7]⟩)] [(6, .c (.ptr 28672 1 0)), (23, .c (.un))] [] ⟨Y, trivial⟩ ⟨Y, Y, trivial⟩ Y (kBuildG Y (kMem [(28672, ⟨1, 0, .box [.d _, .d _, .nil 7]⟩)] [(6, .c (.ptr 28672 1 0)), (23, .g [.d _, .d _, .nil 7])] [] ⟨Y, trivial⟩ ⟨Y, Y, trivial⟩ Y (Ko Y Y Y Y (Ka Y (Kd (kMem [(28672, ⟨1, 0, .box [.d _, .d _, .nil 7]⟩)] [(6, .c (.ptr 28672 1 0)), (7, .c (.d _))] [] ⟨Y, trivial⟩ ⟨Y, Y, trivial⟩ Y (Kr (Er (ra := [.agg [(.d _), (.d _), (.own true _)], .one (.d _)]) rfl ?_))))))))))))))))))))))) (fun g0 => Ki Y (Ka Y (Ki Y (Kp (ok_impl_isSet _ prx) ⟨Y, trivial⟩ Y Y Y Y Y (Ki Y (Kw Y Y (Kl Y (Ka Y (Ka Y (kGN Y (fun g1 => Kg Y (Kg Y (Kg Y (Kk Y (Ka Y (Kd (kCondT Y (Kbc (kMem [(28672, ⟨1, 0, .box [.d _, .d _, .nil 7]⟩)] [(6, .c (.ptr 28672 1 0)), (23, .c (.un))] [] ⟨Y, trivial⟩ ⟨Y, Y, trivial⟩ Y (kBuildG Y (kMem [(28672, ⟨1, 0, .box [.d _, .d _, .nil 7]⟩)] [(6, .c (.ptr 28672 1 0)), (23, .g [.d _, .d _, .nil 7])] [] ⟨Y, trivial⟩ ⟨Y, Y, trivial⟩ Y (Ko Y Y Y Y (Ka Y (Kd (kMem [(28672, ⟨1, 0, .box [.d _, .d _, .nil 7]⟩)] [(6, .c (.ptr 28672 1 0)), (7, .c (.d _))] [] ⟨Y, trivial⟩ ⟨Y, Y, trivial⟩ Y (Kr (Er (ra := [.agg [(.d _), (.d _), (.own true _)], .one (.d _)]) rfl ?_))))))))))))))))) (fun g1 => Ki Y (Ka Y (Ki Y (Kp (ok_impl_within _ _ _) ⟨Y, Y, Y, trivial⟩ Y Y Y Y Y (Ki Y (Kw Y Y (Kl Y (Ka Y (Kd (kCondN Y (fun g2 => Kbc (kMem [(28672, ⟨1, 0, .box [.d _, .d _, .nil 7]⟩)] [(6, .c (.ptr 28672 1 0)), (23, .c (.un))] [] ⟨Y, trivial⟩ ⟨Y, Y, trivial⟩ Y (kBuildG Y (kMem [(28672, ⟨1, 0, .box [.d _, .d _, .nil 7]⟩)] [(6, .c (.ptr 28672 1 0)), (23, .g [.d _, .d _, .nil 7])] [] ⟨Y, trivial⟩ ⟨Y, Y, trivial⟩ Y (Ko Y Y Y Y (Ka Y (Kd (kMem [(28672, ⟨1, 0, .box [.d _, .d _, .nil 7]⟩)] [(6, .c (.ptr 28672 1 0)), (7, .c (.d _))] [] ⟨Y, trivial⟩ ⟨Y, Y, trivial⟩ Y (Kr (Er (ra := [.agg [(.d _), (.d _), (.own true _)], .one (.d _)]) rfl ?_)))))))))) (fun g2 => Kn (Kb ?_))))))))))))))))))))))))))))))))
  · exact ⟨(⟨0, 0, []⟩, false), by unfold PutR; rw [if_neg (by unfold putOk; simp [*])]; exact ⟨rfl, rfl⟩, rfl⟩
  · exact ⟨(⟨0, 0, []⟩, false), by unfold PutR; rw [if_neg (by unfold putOk; simp [*])]; exact ⟨rfl, rfl⟩, rfl⟩
  · exact ⟨(⟨0, 0, []⟩, false), by unfold PutR; rw [if_neg (by unfold putOk; simp [*])]; exact ⟨rfl, rfl⟩, rfl⟩
  · have hok : putOk c l rank = true := by unfold putOk; simp_all
    have hp := set_pos (by assumption : isSetR l = true)
    obtain ⟨h1, hr⟩ := hp
    obtain ⟨b1, b2⟩ := cache_bounds (by assumption : cacheOk c = true)
    obtain ⟨h8, b3⟩ := cache_len (by assumption : cacheOk c = true)
    have hty := rrOk_ty (hr _ (List.getElem_mem h1))
    have e0 : l.getD 0 ⟨[], 0, 0, 0, [], [], []⟩ = l[0] := by simp [List.getD_eq_getElem?_getD, h1]
    have hc : -10 ≤ c.now ∧ c.now ≤ 2000000 ∧ 0 ≤ c.turn ∧ c.turn ≤ 1000000 := by omega
    have ht : -10 ≤ l[0].ttl ∧ l[0].ttl ≤ 10000000000 := by omega
    clear hstopo28
    have hstopo32 := trivial
    refine Kc (kMem [(16384, ⟨1, 0, .box [.d _, .d _, .d _]⟩)] [(3, .c (.ptr 16384 1 0)), (1, .c (.d _)), (2, .c (.d _)), (25, .c (.un)), (26, .c (.un)), (27, .c (.un)), (28, .c (.un)), (24, .c (.un)), (8, .c (.un)), (29, .c (.un)), (30, .c (.un))] [] ⟨Y, trivial⟩ ⟨Y, Y, Y, Y, Y, Y, Y, Y, Y, Y, Y, trivial⟩ Y (Ke Y Y Y (Ka Y (Ka Y (kCallX false (ok_impl_Cache_put _ _ _ prx prx prx prx prx prx) ⟨⟨⟨Y, Y, Y, trivial⟩, leb⟩, rfl, rfl, trivial⟩ Y (fun _ => rfl) (fun _ => rfl) (fun x0 _ hx0 => (kMovT Y (kExtC Y Y (kExtC Y Y (kAlloc Y Y (kMem [(36864, ⟨1, 0, .box [.d _, .d _, .nil 7]⟩)] [(8, .c (.ptr 36864 1 0)), (29, .g [.d _, .d _, .d _]), (30, .c (.d _))] [] ⟨Y, trivial⟩ ⟨Y, Y, Y, trivial⟩ Y (Ko Y Y Y Y (Ka Y (Kdb ?_))))))))))))))
    clear hstopo32
    have hsm : SmallS ⟨l[0].name, l[0].ty, 1, l, rank, 0, 0⟩ := ⟨(hl.mem _ (List.getElem_mem h1)).n, hl⟩
    have hx := hx0.small hs h8 hsm
    refine Kc (Ke Y Y Y (Ku true (ok_impl_Cache_copied _ prx) ⟨⟨⟨Y, Y, Y, trivial⟩, leb⟩, trivial⟩ Y Y Y (fun _ => (Ka Y (kMem [(28672, ⟨1, 0, .box [.d _, .d _, .nil 7]⟩), (135170, ⟨1, 0, .arr true _⟩)] [(6, .c (.ptr 28672 1 0)), (32, .g [.d _, .d _, .arr 135170 1]), (33, .c (.d _))] [] ⟨Y, Y, trivial⟩ ⟨Y, Y, Y, trivial⟩ Y (Ko Y Y Y Y (Ka Y (Kd (kMem [(28672, ⟨1, 0, .box [.d _, .d _, .arr 135170 1]⟩), (135170, ⟨1, 0, .arr true _⟩)] [(6, .c (.ptr 28672 1 0)), (7, .c (.d _))] [] ⟨Y, Y, trivial⟩ ⟨Y, Y, trivial⟩ Y (Kr (Er (ra := [.agg [(.d _), (.d _), (.own true _)], .one (.d _)]) rfl ?_)))))))))))
    exact ⟨x0, by unfold PutR putS; rw [if_pos hok, e0]; exact hx0, rfl⟩

def c_laws_caches : C := (.g (.o 0 0 (.mov (.v (.bool false))) .done) (.g (.o 0 7 (.call 7 79 [(.v (.string ⟨#[97, 46]⟩))]) (.o 1 8 (.build [(.n 1), (.i 0), (.i 0), (.i 0), (.n 1), (.n 1), (.n 1)] [(0, 1, (.t 7)), (1, 1, (.i 1)), (2, 1, (.i 5)), (3, 1, (.i 7))]) (.o 2 1 (.alloc 1 [(.n 1), (.i 0), (.i 0), (.i 0), (.n 1), (.n 1), (.n 1)]) (.op 3 [] none none false (.store (some 7) (.t 1) (.t 8)) .done)))) (.g (.o 0 10 (.build [(.i 0), (.i 0), (.n 7)] []) (.o 1 11 (.load (some 7) (.t 1)) (.o 2 12 (.lit 12 7 [(.n 1), (.i 0), (.i 0), (.i 0), (.n 1), (.n 1), (.n 1)] 1 [(0, 7, (.t 11))]) (.o 3 13 (.call 13 60 [(.t 10), (.t 12), (.i 1)]) (.o 4 9 (.mov (.t 13)) (.o 5 14 (.ext (.t 9) 0) (.o 6 15 (.ext (.t 9) 1) (.o 7 2 (.alloc 2 [(.i 0), (.i 0), (.n 7)]) (.op 8 [] none none false (.store (some 3) (.t 2) (.t 14)) (.o 9 3 (.mov (.t 15)) .done)))))))))) (.g (.o 0 17 (.load (some 3) (.t 2)) (.o 1 18 (.fad (.t 1) 0) (.o 2 19 (.load (some 1) (.t 18)) (.o 3 20 (.fad (.t 1) 1) (.o 4 21 (.load none (.t 20)) (.o 5 22 (.call 22 23 [(.t 17), (.t 19), (.t 21)]) (.o 6 16 (.mov (.t 22)) (.o 7 23 (.ext (.t 16) 0) (.o 8 24 (.ext (.t 16) 1) (.o 9 25 (.ext (.t 16) 2) (.o 10 4 (.alloc 4 [(.i 0), (.i 0), (.n 7)]) (.op 11 [] none none false (.store (some 3) (.t 4) (.t 23)) (.o 12 5 (.mov (.t 24)) (.o 13 6 (.mov (.t 25)) .done)))))))))))))) (.g (.o 0 26 (.mov (.t 3)) (.o 1 27 (.mov (.t 26)) (.op 2 [] (some 28) (some (27, true)) false (.mov (.t 6)) (.op 3 [] (some 29) (some (27, true)) false (.bin .eql (.t 28) (.i 1)) (.o 4 30 (.pick (.t 27) (.t 29) (.v (.bool false))) (.o 5 31 (.mov (.t 30)) (.op 6 [] (some 32) (some (31, true)) false (.mov (.t 5)) (.op 7 [] (some 33) (some (31, true)) false (.load (some 7) (.t 1)) (.op 8 [] (some 34) (some (31, true)) false (.lit 34 7 [(.n 1), (.i 0), (.i 0), (.i 0), (.n 1), (.n 1), (.n 1)] 1 [(0, 7, (.t 33))]) (.op 9 [] (some 35) (some (31, true)) false (.call 35 39 [(.t 32), (.t 34)]) (.o 10 36 (.pick (.t 31) (.t 35) (.v (.bool false))) (.o 11 0 (.mov (.t 36)) .done)))))))))))) .ret)))))
theorem dg_laws_caches : Tryz.f54.body.bind (digC Tryz.prog Tryz.f54.ntmps []) = some c_laws_caches := by kernel_rfl
theorem rs_laws_caches : resSlots Tryz.prog Tryz.f54 = some [.s 0] := by kernel_rfl
theorem ok_laws_caches : FnOK Tryz.prog 54 [] (fun ra _ => ra = [.one (.d (.sc (.bool true)))]) := by
  refine FnOK.ofK Tryz.func54 (by kernel_rfl) dg_laws_caches rs_laws_caches rfl rfl ?_
  delta c_laws_caches T.o X.i C.g
  have hstopo13 := trivial
  refine Kbc (Ka Y (Kdb (Kc (Ku true (ok_laws_name _ prx) ⟨Y, trivial⟩ Y Y Y (fun _ => (kBuildG Y (kAlloc Y Y (kMem [(8192, ⟨1, 0, .box [.nil 1, .d _, .d _, .d _, .nil 1, .nil 1, .nil 1]⟩), (32768, ⟨1, 0, .arr true _⟩)] [(1, .c (.ptr 8192 1 0)), (8, .g [.arr 32768 1, .d _, .d _, .d _, .nil 1, .nil 1, .nil 1])] [] ⟨Y, Y, trivial⟩ ⟨Y, Y, trivial⟩ Y (Ko Y Y Y Y (Kdb ?_))))))))))
  clear hstopo13
  refine kSub (Sub.frzBox (rid 1 0) (rid 7 0) 0 rfl rfl rfl rfl rfl) ?_
  refine kSub (t := ⟨tabSl [(0, .b false), (1, .c (.ptr (rid 1 0) 1 0))], obTab 1 [(rid 1 0, ⟨1, 0, .box [.d (encBB (readN (⟨#[97, 46]⟩ : ByteArray).toList)), .d (.sc (.int .i64 1)), .d (.sc (.int .i64 5)), .d (.sc (.int .i64 7)), .d (encBB []), .d (encB []), .d (Hearth.encI [])]⟩)], []⟩) .normA ?_
  rw [show readN (⟨#[97, 46]⟩ : ByteArray).toList = [[97]] by first | (rw [ByteArray.toList_eq]; rfl) | rfl | decide]
  refine kSub (t := ⟨tabSl [(0, .b false), (1, .c (.ptr (rid 1 0) 1 0))], obTab 1 [(rid 1 0, ⟨1, 0, .box (rA.cells.map .d)⟩)], []⟩) .normA ?_
  have hsA : SmallR rA := rrOk_small (by first | decide | rfl)
  have hl : SmallRs [rA] := ⟨by decide, fun r hr => by simp only [List.mem_singleton] at hr; rw [hr]; exact hsA⟩
  refine Kc (kBuildG Y (Ke Y Y Y (kLitD Y Y Y Y ?_)))
  refine kCallX false (ok_impl_CachePut ⟨0, 0, []⟩ [rA] 1 .nil hl) ⟨⟨⟨Y, Y, Y, trivial⟩, leb⟩, rfl, rfl, trivial⟩ Y (fun _ => rfl) (fun _ => rfl) (fun x os hx => ?_)
  obtain ⟨d, ok⟩ := x
  obtain ⟨rfl, rfl⟩ := caches_put hx
  refine kMovT Y (kExtC Y Y (kExtC Y Y (kAlloc Y Y (kMem [(12288, ⟨2, 0, .box [.d _, .d _, .nil 7]⟩), (57346, ⟨2, 0, .arr true _⟩)] [(2, .c (.ptr 12288 2 0)), (14, .g [.d _, .d _, .arr 57346 2]), (15, .c (.d _))] [] ⟨Y, Y, trivial⟩ ⟨Y, Y, Y, trivial⟩ Y (Ko Y Y Y Y (Ka Y (Kdb (Kc (Ke Y Y Y (Kf Y Y (Ke Y Y Y (Kf Y Y (Ke Y Y Y ?_)))))))))))))
  have hsS : SmallSs [sA] := ⟨by decide, fun r hr => by simp only [List.mem_singleton] at hr; rw [hr]; exact ⟨hsA.n, hl⟩⟩
  refine Ku true (ok_impl_CacheGet ⟨0, 1, [sA]⟩ [[97]] 1 hsS hsA.n) ⟨⟨⟨Y, Y, Y, trivial⟩, leb⟩, ⟨⟨Y, trivial⟩, leb⟩, rfl, trivial⟩ Y Y Y (fun _ => ?_)
  rw [caches_get.1, caches_get.2]
  refine kMovT Y (kExtC Y Y (kMem [(94210, ⟨2, 0, .arr true _⟩)] [(23, .g [.d _, .d _, .arr 94210 2])] [] ⟨Y, trivial⟩ ⟨Y, trivial⟩ Y (kExtC Y Y (kExtC Y Y (kAlloc Y Y (kMem [(20480, ⟨2, 0, .box [.d _, .d _, .nil 7]⟩), (94210, ⟨2, 0, .arr true _⟩), (94272, ⟨2, 0, .arr true _⟩)] [(4, .c (.ptr 20480 2 0)), (23, .g [.d _, .d _, .arr 94210 2]), (24, .c (.arr 94272 2)), (25, .c (.d _))] [] ⟨Y, Y, Y, trivial⟩ ⟨Y, Y, Y, Y, trivial⟩ Y (Ko Y Y Y Y (Ka Y (Ka Y (Kdb (Kc (Ka Y (Ka Y (Ki Y (Ka Y (Ki Y (Kj Y Y Y (Kk Y (Ka Y (Ka Y (Ki Y (Ka Y (Ki Y (Ke Y Y Y (kMem [(94272, ⟨2, 0, .arr true _⟩)] [(33, .g [.d _, .d _, .d _, .d _, .d _, .d _, .d _]), (32, .c (.arr 94272 2)), (31, .c (.d _))] [] ⟨Y, trivial⟩ ⟨Y, Y, Y, trivial⟩ Y (Ki Y (kLitD Y Y Y Y (Ki Y ?_))))))))))))))))))))))))))))
  refine Ku true (ok_laws_sameRrs [rA] [rA] hl hl) ⟨Y, Y, trivial⟩ Y Y Y (fun _ => ?_)
  rw [show sameRs [rA] [rA] = true by first | decide | rfl]
  refine Kk Y (Ka Y (Ka Y (Kd (Kr (Er (ra := [.one (.d _)]) rfl rfl)))))

def c_laws_FnCaches : C := (.g (.o 0 2 (.mov (.v (.bool false))) .done) (.g (.o 0 13 (.mov (.t 0)) (.o 1 14 (.call 14 59 [(.t 13)]) (.o 2 12 (.mov (.t 14)) (.o 3 15 (.ext (.t 12) 0) (.o 4 16 (.ext (.t 12) 1) (.o 5 17 (.ext (.t 12) 2) (.o 6 3 (.alloc 3 [(.i 0), (.i 0), (.n 7)]) (.op 7 [] none none false (.store (some 3) (.t 3) (.t 15)) (.o 8 4 (.mov (.t 16)) (.o 9 5 (.mov (.t 17)) .done)))))))))) (.g (.o 0 19 (.load (some 3) (.t 3)) (.o 1 20 (.mov (.t 4)) (.o 2 21 (.mov (.t 5)) (.o 3 22 (.call 22 60 [(.t 19), (.t 20), (.t 21)]) (.o 4 18 (.mov (.t 22)) (.o 5 23 (.ext (.t 18) 0) (.o 6 24 (.ext (.t 18) 1) (.o 7 6 (.alloc 6 [(.i 0), (.i 0), (.n 7)]) (.op 8 [] none none false (.store (some 3) (.t 6) (.t 23)) (.o 9 7 (.mov (.t 24)) .done)))))))))) (.seq (.g (.o 0 25 (.mov (.t 7)) (.o 1 26 (.un .not (.t 25)) .done)) (.cond (.t 26) (.g (.o 0 27 (.fad (.t 6) 2) (.o 1 28 (.load none (.t 27)) (.o 2 29 (.len (.t 28)) (.o 3 30 (.bin .eql (.t 29) (.i 0)) (.o 4 31 (.mov (.t 30)) (.op 5 [] (some 32) (some (31, false)) false (.load (some 3) (.t 6)) (.op 6 [] (some 33) (some (31, false)) false (.load (some 3) (.t 3)) (.op 7 [] (some 34) (some (31, false)) false (.call 34 53 [(.t 32), (.t 33)]) (.o 8 35 (.pick (.t 31) (.v (.bool true)) (.t 34)) (.o 9 36 (.mov (.t 35)) (.op 10 [] (some 37) (some (36, true)) false (.call 37 54 []) (.o 11 38 (.pick (.t 36) (.t 37) (.v (.bool false))) (.o 12 2 (.mov (.t 38)) .done))))))))))))) .ret) .skip)) (.seq (.reg true (.op 0 [] (some 40) none true (.load (some 3) (.t 6)) (.op 1 [] (some 41) none true (.mov (.t 4)) (.op 2 [] (some 42) none true (.iad 7 (.t 41) (.i 0)) (.op 3 [] (some 43) none true (.fad (.t 42) 0) (.op 4 [] (some 44) none true (.load (some 1) (.t 43)) (.op 5 [] (some 45) none true (.mov (.t 4)) (.op 6 [] (some 46) none true (.iad 7 (.t 45) (.i 0)) (.op 7 [] (some 47) none true (.fad (.t 46) 1) (.op 8 [] (some 48) none true (.load none (.t 47)) (.alt (.op 9 [0, 4, 8] (some 49) none false (.call 49 23 [(.t 40), (.t 44), (.t 48)]) (.op 10 [] (some 39) none true (.mov (.t 49)) (.op 11 [] (some 50) none true (.ext (.t 39) 0) (.op 12 [] (some 51) none true (.ext (.t 39) 1) (.op 13 [] (some 52) none true (.ext (.t 39) 2) (.o 14 8 (.alloc 8 [(.i 0), (.i 0), (.n 7)]) (.op 15 [0, 4, 8] none none false (.store (some 3) (.t 8) (.t 50)) (.op 16 [] (some 9) none true (.mov (.t 51)) (.op 17 [] (some 10) none true (.mov (.t 52)) .done))))))))) (.o 14 8 (.alloc 8 [(.i 0), (.i 0), (.n 7)]) (.op 9 [0, 4, 8] (some 49) none false (.call 49 23 [(.t 40), (.t 44), (.t 48)]) (.op 10 [] (some 39) none true (.mov (.t 49)) (.op 11 [] (some 50) none true (.ext (.t 39) 0) (.op 12 [] (some 51) none true (.ext (.t 39) 1) (.op 13 [] (some 52) none true (.ext (.t 39) 2) (.op 15 [0, 4, 8] none none false (.store (some 3) (.t 8) (.t 50)) (.op 16 [] (some 9) none true (.mov (.t 51)) (.op 17 [] (some 10) none true (.mov (.t 52)) .done)))))))))))))))))))) (.seq (.g (.o 0 53 (.load (some 3) (.t 6)) (.o 1 54 (.call 54 56 [(.t 53)]) (.o 2 55 (.un .not (.t 54)) (.o 3 56 (.mov (.t 55)) (.op 4 [] (some 57) (some (56, false)) false (.mov (.t 10)) (.op 5 [] (some 58) (some (56, false)) false (.bin .neq (.t 57) (.i 1)) (.o 6 59 (.pick (.t 56) (.v (.bool true)) (.t 58)) (.o 7 60 (.mov (.t 59)) (.op 8 [] (some 61) (some (60, false)) false (.mov (.t 9)) (.op 9 [] (some 62) (some (60, false)) false (.len (.t 61)) (.op 10 [] (some 63) (some (60, false)) false (.mov (.t 4)) (.op 11 [] (some 64) (some (60, false)) false (.len (.t 63)) (.op 12 [] (some 65) (some (60, false)) false (.bin .neq (.t 62) (.t 64)) (.o 13 66 (.pick (.t 60) (.v (.bool true)) (.t 65)) (.o 14 67 (.mov (.t 66)) (.op 15 [] (some 68) (some (67, false)) false (.fad (.t 6) 2) (.op 16 [] (some 69) (some (67, false)) false (.load none (.t 68)) (.op 17 [] (some 70) (some (67, false)) false (.len (.t 69)) (.op 18 [] (some 71) (some (67, false)) false (.bin .gtr (.t 70) (.i 8)) (.o 19 72 (.pick (.t 67) (.v (.bool true)) (.t 71)) .done)))))))))))))))))))) (.cond (.t 72) (.g (.o 0 2 (.mov (.v (.bool false))) .done) .ret) .skip)) (.seq (.g (.o 0 11 (.mov (.i 0)) .done) (.block 0 (.loop (.seq (.g (.o 0 73 (.mov (.t 11)) (.o 1 74 (.mov (.t 9)) (.o 2 75 (.len (.t 74)) (.o 3 76 (.bin .lss (.t 73) (.t 75)) .done)))) (.cond (.t 76) .skip (.exit 0))) (.seq (.block 1 (.seq (.reg true (.op 0 [] (some 79) none true (.mov (.t 9)) (.op 1 [] (some 80) none true (.mov (.t 11)) (.op 2 [] (some 81) none true (.iad 7 (.t 79) (.t 80)) (.op 3 [] (some 82) none true (.load (some 7) (.t 81)) (.op 4 [] (some 83) none true (.mov (.t 4)) (.op 5 [] (some 84) none true (.mov (.t 11)) (.op 6 [] (some 85) none true (.iad 7 (.t 83) (.t 84)) (.op 7 [] (some 86) none true (.load (some 7) (.t 85)) (.op 8 [3, 7] (some 87) none false (.call 87 61 [(.t 82), (.t 86)]) (.op 9 [] (some 88) none true (.un .not (.t 87)) (.op 10 [] (some 89) none true (.mov (.t 88)) (.op 11 [] (some 90) (some (89, false)) true (.mov (.t 9)) (.op 12 [] (some 91) (some (89, false)) true (.mov (.t 11)) (.op 13 [] (some 92) (some (89, false)) true (.iad 7 (.t 90) (.t 91)) (.op 14 [] (some 93) (some (89, false)) true (.fad (.t 92) 2) (.op 15 [] (some 94) (some (89, false)) true (.load none (.t 93)) (.op 16 [] (some 95) (some (89, false)) true (.mov (.t 4)) (.op 17 [] (some 96) (some (89, false)) true (.mov (.t 11)) (.op 18 [] (some 97) (some (89, false)) true (.iad 7 (.t 95) (.t 96)) (.op 19 [] (some 98) (some (89, false)) true (.fad (.t 97) 2) (.op 20 [] (some 99) (some (89, false)) true (.load none (.t 98)) (.op 21 [] (some 100) (some (89, false)) true (.bin .gtr (.t 94) (.t 99)) (.op 22 [] (some 101) none true (.pick (.t 89) (.v (.bool true)) (.t 100)) (.op 23 [] (some 102) none true (.mov (.t 101)) (.op 24 [] (some 103) (some (102, false)) true (.mov (.t 9)) (.op 25 [] (some 104) (some (102, false)) true (.mov (.t 11)) (.op 26 [] (some 105) (some (102, false)) true (.iad 7 (.t 103) (.t 104)) (.op 27 [] (some 106) (some (102, false)) true (.fad (.t 105) 2) (.op 28 [] (some 107) (some (102, false)) true (.load none (.t 106)) (.op 29 [] (some 108) (some (102, false)) true (.bin .lss (.t 107) (.i 1)) (.op 30 [] (some 109) none true (.pick (.t 102) (.v (.bool true)) (.t 108)) .done)))))))))))))))))))))))))))))))) (.cond (.t 109) (.g (.o 0 2 (.mov (.v (.bool false))) .done) .ret) .skip))) (.reg false (.o 0 77 (.mov (.t 11)) (.o 1 78 (.bin .add (.t 77) (.i 1)) (.o 2 11 (.mov (.t 78)) .done))))))))) (.seq (.reg true (.op 0 [] (some 110) none true (.load (some 3) (.t 6)) (.op 1 [0] (some 111) none false (.call 111 62 [(.t 110)]) (.op 2 [] (some 112) none true (.len (.t 111)) (.op 3 [] (some 113) none true (.bin .geq (.t 112) (.i 1)) (.op 4 [] (some 114) none true (.mov (.t 113)) (.op 5 [] (some 115) (some (114, true)) true (.load (some 3) (.t 6)) (.op 8 [] (some 118) (some (114, true)) true (.fad (.t 6) 2) (.op 9 [] (some 119) (some (114, true)) true (.load none (.t 118)) (.op 10 [] (some 120) (some (114, true)) true (.len (.t 119)) (.op 6 [5, 0] (some 116) (some (114, true)) false (.call 116 62 [(.t 115)]) (.op 7 [] (some 117) (some (114, true)) true (.len (.t 116)) (.op 11 [] (some 121) (some (114, true)) true (.bin .leq (.t 117) (.t 120)) (.op 12 [] (some 122) none true (.pick (.t 114) (.t 121) (.v (.bool false))) (.op 13 [] (some 2) none true (.mov (.t 122)) .done))))))))))))))) .ret))))))))
theorem dg_laws_FnCaches : Tryz.f11.body.bind (digC Tryz.prog Tryz.f11.ntmps []) = some c_laws_FnCaches := by kernel_rfl
theorem rs_laws_FnCaches : resSlots Tryz.prog Tryz.f11 = some [.s 2] := by kernel_rfl
theorem ok_laws_FnCaches (code : List UInt8) (hb : (code.length : Int) ≤ 9223372036854775807) :
    FnOK Tryz.prog 11 [.one (.d (encB code))] (fun ra _ => ra = [.one (.d (.sc (.bool true)))]) := by
  refine FnOK.ofK Tryz.func11 (by kernel_rfl) dg_laws_FnCaches rs_laws_FnCaches rfl rfl ?_
  delta c_laws_FnCaches T.o X.i C.g
  have hstopo22 := trivial
  refine Kbc (Ka Y (Kdb (Kc (Ka Y (kCallX false (ok_spec_DrawCachePut _ prx) ⟨Y, trivial⟩ Y (fun _ => rfl) (fun _ => rfl) (fun x0 _ hx0 => (kMovT Y (kExtC Y Y (kExtC Y Y (kExtC Y Y (kAlloc Y Y (kMem [(16384, ⟨1, 0, .box [.d _, .d _, .nil 7]⟩)] [(3, .c (.ptr 16384 1 0)), (15, .g [.d _, .d _, .d _]), (16, .c (.d _)), (17, .c (.d _))] [] ⟨Y, trivial⟩ ⟨Y, Y, Y, Y, trivial⟩ Y (Ko Y Y Y Y (Ka Y (Ka Y (Kdb ?_))))))))))))))))
  clear hstopo22
  obtain ⟨c, l, rank⟩ := x0
  simp only at hx0 ⊢
  obtain ⟨hc, ⟨hl0, hl3, hlr⟩, hrk⟩ := hx0
  have hss := hc.ss
  have hll : SmallRs l := ⟨by omega, hlr⟩
  have hstopo26 := trivial
  refine Kc (Ke Y Y Y (Ka Y (Ka Y (kCallX true (ok_impl_CachePut _ _ _ prx prx) ⟨⟨⟨Y, Y, Y, trivial⟩, leb⟩, rfl, rfl, trivial⟩ Y (fun _ => rfl) (fun _ => rfl) (fun x0 _ hx0 => (kMovT Y (kExtC Y Y (kMem [(94210, ⟨1, 0, .arr true _⟩)] [(6, .c (.un)), (23, .g [.d _, .d _, .arr 94210 1]), (24, .c (.un))] [] ⟨Y, trivial⟩ ⟨Y, Y, Y, trivial⟩ Y (kExtC Y Y (kAlloc Y Y (kMem [(28672, ⟨1, 0, .box [.d _, .d _, .nil 7]⟩), (94210, ⟨1, 0, .arr true _⟩)] [(6, .c (.ptr 28672 1 0)), (23, .g [.d _, .d _, .arr 94210 1]), (24, .c (.d _))] [] ⟨Y, Y, trivial⟩ ⟨Y, Y, Y, trivial⟩ Y (Ko Y Y Y Y (Ka Y (Kdb (Kb ?_)))))))))))))))
  clear hstopo26
  obtain ⟨d, ok⟩ := x0
  simp only at hx0 ⊢
  have hds := hx0.small hss hl0 hll
  refine kSub (Sub.frzBox (rid 6 0) (rid 22 2) 2 rfl rfl rfl rfl rfl) ?_
  cases ok
  · rcases put_no hx0 with h | ⟨rfl, hC⟩
    · have hstopo53 := trivial
      refine Kc (Ka Y (Kw Y Y (Kd (kCondT Y (Kbc (Kf Y Y (Ke Y Y Y (Kq Y Y (Kj Y Y Y (Ka Y (kGP Y (fun g1 => Kg Y (Kg Y (Kg Y (Kk Y (Ka Y (Ka Y (Ki Y (Kp (ok_laws_caches) trivial rfl rfl rfl rfl rfl (Kk Y (Ka Y (Ka Y (Kd (Kr (Er (ra := [.one (.d _)]) rfl rfl)))))))))))))) (fun g1 => om))))))))))))
    · have hsame := hC.same
      refine Kc (Ka Y (Kw Y Y (Kd (kCondT Y (Kbc (Kf Y Y (Ke Y Y Y (Kq Y Y (Kj Y Y Y (Ka Y (kGP Y (fun g1 => Kg Y (Kg Y (Kg Y (Kk Y (Ka Y (Ka Y (Ki Y (Kp (ok_laws_caches) trivial rfl rfl rfl rfl rfl (Kk Y (Ka Y (Ka Y (Kd (Kr (Er (ra := [.one (.d _)]) rfl rfl)))))))))))))) (fun g1 => Ki Y (Ke Y Y Y (Ki Y (Ke Y Y Y (Ki Y (Kp (ok_laws_sameCache _ prx prx) ⟨⟨⟨Y, Y, Y, trivial⟩, leb⟩, ⟨⟨Y, Y, Y, trivial⟩, leb⟩, trivial⟩ Y Y Y Y Y (Kl Y (Ka Y (Ka Y (Ki Y (Kp (ok_laws_caches) trivial rfl rfl rfl rfl rfl (Kk Y (Ka Y (Ka Y (Kd (Kr (Er (ra := [.one (.d _)]) rfl rfl))))))))))))))))))))))))))))
  · obtain ⟨hD, k1, a1, a2, n1, n2⟩ := caches_main hx0 hl0
    have hDk := cOk.2 hD
    have h8 := hD.len
    have hn0 : SmallBB l[0].name := (hll.mem _ (List.getElem_mem hl0)).n
    have hL : SmallRs (cgL d l[0].name l[0].ty) := by unfold cgL; split; exact getL_small hds; exact .nil
    have hlen := hll.len
    have hstopr := trivial
    refine Kc (Ka Y (Kw Y Y (Kd (kCondF Y (Kn (Kb ?_))))))
    clear hstopr
    refine kCut ⟨tabSl [(4, .c (.d (encR l))), (6, .c (.ptr (rid 6 0) 1 0)), (9, .c (.arr (rid 49 64) 1)), (10, .i (cgK d l[0].name l[0].ty))], obTab 1 [(rid 6 0, ⟨1, 0, .box (d.cells.map .d)⟩), (rid 49 64, ⟨1, 0, .arr true (encR (cgL d l[0].name l[0].ty))⟩)], []⟩ ?_ (fun x hc => ?_)
    case refine_2 => refine kRegD (kLoadP rfl rfl rfl (kMovC rfl (kIadR (m := 0) rfl rfl rfl prl (kFadD rfl (kLoadD rfl rfl (kMovC rfl (kIadR (m := 0) rfl rfl rfl prl (kFadD rfl (kLoadD rfl rfl (kAlt (kRelF rfl rfl (kCall1 true (ok_impl_CacheGet _ _ _ prx prx) ⟨⟨⟨rfl, rfl, rfl, trivial⟩, leb⟩, ⟨⟨rfl, trivial⟩, leb⟩, rfl, trivial⟩ rfl rfl rfl (fun _ => (kMovT rfl (kExtC rfl rfl (kExtC rfl rfl (kExtC rfl rfl (kAlloc rfl rfl (kMem [(36864, ⟨1, 0, .box [.d _, .d _, .nil 7]⟩), (204802, ⟨1, 0, .arr true _⟩), (204864, ⟨1, 0, .arr true _⟩)] [(8, .c (.ptr 36864 1 0)), (50, .g [.d _, .d _, .arr 204802 1]), (51, .c (.arr 204864 1)), (52, .c (.d _))] [] ⟨rfl, rfl, rfl, trivial⟩ ⟨rfl, rfl, rfl, rfl, trivial⟩ rfl (kRelF rfl rfl (kStoreP rfl rfl rfl rfl (kMovC rfl (kMovC rfl (kDone (kH (kMem [(28672, ⟨1, 0, .box [.d _, .d _, .d _]⟩), (204864, ⟨1, 0, .arr true _⟩)] [(4, .c (.d _)), (6, .c (.ptr 28672 1 0)), (9, .c (.arr 204864 1)), (10, .c (.d _))] [] ⟨rfl, rfl, trivial⟩ ⟨rfl, rfl, rfl, rfl, trivial⟩ rfl (hc _ .normA))))))))))))))))) (kAlloc rfl rfl (kMem [(36864, ⟨1, 0, .box [.d _, .d _, .nil 7]⟩)] [(40, .g [.d _, .d _, .d _]), (44, .g [.d _]), (48, .c (.d _)), (49, .c (.un)), (39, .c (.un)), (8, .c (.ptr 36864 1 0)), (50, .c (.un)), (51, .c (.un)), (52, .c (.un))] [28672] ⟨rfl, trivial⟩ ⟨rfl, rfl, rfl, rfl, rfl, rfl, rfl, rfl, rfl, trivial⟩ rfl (kRelF rfl rfl (kCall1 true (ok_impl_CacheGet _ _ _ prx prx) ⟨⟨⟨rfl, rfl, rfl, trivial⟩, leb⟩, ⟨⟨rfl, trivial⟩, leb⟩, rfl, trivial⟩ rfl rfl rfl (fun _ => (kMovT rfl (kExtC rfl rfl (kExtC rfl rfl (kExtC rfl rfl (kMem [(36864, ⟨1, 0, .box [.d _, .d _, .nil 7]⟩), (204802, ⟨1, 0, .arr true _⟩), (204864, ⟨1, 0, .arr true _⟩)] [(8, .c (.ptr 36864 1 0)), (50, .g [.d _, .d _, .arr 204802 1]), (51, .c (.arr 204864 1)), (52, .c (.d _))] [] ⟨rfl, rfl, rfl, trivial⟩ ⟨rfl, rfl, rfl, rfl, trivial⟩ rfl (kRelF rfl rfl (kStoreP rfl rfl rfl rfl (kMovC rfl (kMovC rfl (kDone (kH (kMem [(28672, ⟨1, 0, .box [.d _, .d _, .d _]⟩), (204864, ⟨1, 0, .arr true _⟩)] [(4, .c (.d _)), (6, .c (.ptr 28672 1 0)), (9, .c (.arr 204864 1)), (10, .c (.d _))] [] ⟨rfl, rfl, trivial⟩ ⟨rfl, rfl, rfl, rfl, trivial⟩ rfl (hc _ .normA))))))))))))))))))))))))))))
    generalize cgL d l[0].name l[0].ty = L at *
    generalize cgK d l[0].name l[0].ty = kd at *
    subst k1
    refine Kb (Kbc (Ke Y Y Y (Kp (ok_impl_CacheOk _ prx) ⟨⟨⟨Y, Y, Y, trivial⟩, leb⟩, trivial⟩ Y Y Y Y Y (Kw Y Y (Ka Y (kGN Y (fun g1 => (by (simp [*] at g1))) (fun g1 => Ki Y (Ka Y (Ki Y (Kj Y Y Y (Kl Y (Ka Y (Ka Y (Ki Y (Ka Y (Ki Y (Kq Y Y (kMem [(28672, ⟨1, 0, .box [.d _, .d _, .d _]⟩)] [(4, .c (.d _)), (62, .c (.d _)), (60, .c (.d _)), (6, .c (.ptr 28672 1 0))] [] ⟨Y, trivial⟩ ⟨Y, Y, Y, Y, trivial⟩ Y (Ki Y (Ka Y (Ki Y (Kq Y Y (Ki Y (Kj Y Y Y (Kl Y (Ka Y (Ka Y (kGIN Y (fun g2 => om) (fun g2 => Ki Y (Kf Y Y (Ki Y (Ke Y Y Y (Ki Y (Kq Y Y (Ki Y (Kj Y Y Y (Kl Y (Ka Y (Kd (Km Y (fun g3 => om) (fun g3 => Kn (Kb (Kbc (Ka Y (Kd (Kt ?_))))))))))))))))))))))))))))))))))))))))))))))
    refine kSub (Sub.frz (j := 9) rfl rfl (leb)) ?_
    refine kLoop (α := { i : Nat // i ≤ L.length }) (fun y => ⟨tabSl [(4, .c (.d (encR l))), (6, .c (.ptr (rid 6 0) 1 0)), (9, .c (.d (encR L))), (11, .i y.1)], obTab 1 [(rid 6 0, ⟨1, 0, .box (d.cells.map .d)⟩)], []⟩) (fun y => L.length - y.1) ⟨0, Nat.zero_le _⟩ .normA ?_
    rintro ⟨i, hi⟩
    simp only
    have hLl := hL.len
    rcases Nat.lt_or_ge i L.length with hlt | hge
    · have hlt2 : i < l.length := by omega
      obtain ⟨q1, q2, q3⟩ := a2 i hlt hlt2
      have hs1 := hL.mem _ (List.getElem_mem hlt)
      have hs2 := hll.mem _ (List.getElem_mem hlt2)
      refine Kb (Kbc (Ka Y (Ka Y (Kq Y Y (Kj Y Y Y (Kd (Km Y (fun g1 => Kn (Kb (Kt (Kb (kRegD (Ka Y (Ka Y (kIadR Y Y Y prl (Ky Y Y (Ka Y (Ka Y (kIadR Y Y Y prl (Ky Y Y (Ks Y Y (Kp (ok_spec_RrSame _ _ prx prx) ⟨⟨⟨Y, Y, Y, Y, Y, Y, Y, trivial⟩, leb⟩, ⟨⟨Y, Y, Y, Y, Y, Y, Y, trivial⟩, leb⟩, trivial⟩ Y Y Y Y Y (Kw Y Y (Ka Y (kGN Y (fun g2 => (by (simp [*] at g2))) (fun g2 => Ki Y (Ka Y (Ki Y (Ka Y (Ki Y (kIadR Y Y Y prl (Ki Y (kFadD Y (Ki Y (Ky Y Y (Ki Y (Ka Y (Ki Y (Ka Y (Ki Y (kIadR Y Y Y prl (Ki Y (kFadD Y (Ki Y (Ky Y Y (Ki Y (Kj Y Y Y (Kl Y (Ka Y (Ka Y (kGP Y (fun g3 => om) (fun g3 => Ki Y (Ka Y (Ki Y (Ka Y (Ki Y (kIadR Y Y Y prl (Ki Y (kFadD Y (Ki Y (Ky Y Y (Ki Y (Kj Y Y Y (Kl Y (Ka Y (Kd (kH (Km Y (fun g4 => om) (fun g4 => Kn (Kv (Kc (Ka Y (kAdd Y Y om (Ka Y (Kd ?_)))))))))))))))))))))))))))))))))))))))))))))))))))))))))))))))))))) (fun g1 => om))))))))
      exact kInv ⟨⟨i + 1, by omega⟩, by simp only; omega, .normA⟩
    · refine Kb (Kbc (Ka Y (Ka Y (Kq Y Y (Kj Y Y Y (Kd (Km Y (fun g1 => om) (fun g1 => kExit (kExC (kExI (kExB (Kb (kRegD (Ke Y Y Y (Ks Y Y (Ku true (ok_impl_CacheNames _ prx) ⟨⟨⟨Y, Y, Y, trivial⟩, leb⟩, trivial⟩ Y Y Y (fun _ => (Kq Y Y (Kj Y Y Y (Ka Y (kGP Y (fun g2 => Ki Y (Ke Y Y Y (Ki Y (Kf Y Y (Ki Y (Ke Y Y Y (Ki Y (Kq Y Y (Kx Y Y (Ki Y (Ku true (ok_impl_CacheNames _ prx) ⟨⟨⟨Y, Y, Y, trivial⟩, leb⟩, trivial⟩ Y Y Y (fun _ => (kMem [(479232, ⟨2, 0, .arr true _⟩)] [(116, .c (.arr 479232 2)), (120, .c (.d _)), (114, .c (.d _))] [28672, 28672] ⟨Y, trivial⟩ ⟨Y, Y, Y, trivial⟩ Y (Ki Y (Kq Y Y (Ki Y (Kj Y Y Y (Kk Y (Ka Y (Ka Y (Kd (kH (Kr (Er (ra := [.one (.d _)]) rfl ?_)))))))))))))))))))))))) (fun g2 => om))))))))))))))))))))))
      rw [decide_eq_true (by omega)]

end Go.Proofs.YtmdmlncdjdphdaaGreat.FnCachesFn
