/- What the functions that FnFinds reaches compute, one contract each; each with the bounds that it states. -/
import Derived.Test.YtdfcphdolipapaaGreatFnFindsFn3
import Derived.Test.YtdfcphdolipapaaGreatProg
import Derived.KernelRfl
set_option maxRecDepth 100000
set_option maxHeartbeats 8000000
set_option linter.unusedVariables false
set_option linter.unusedSimpArgs false
namespace Go.Proofs.YtdfcphdolipapaaGreat.FnFindsFn
open Go Hearth Go.Proofs

def c_impl_Begin : C := (.g (.o 0 3 (.box 3 (.t 0)) (.o 1 6 (.alloc 6 [(.i 0), (.i 0), (.n 1), (.i 0), (.n 1), (.n 1), (.n 1), (.n 1), (.i 0), (.i 0), (.i 0), (.i 0), (.n 7)]) (.o 2 7 (.mov (.v (.bool false))) .done))) (.g (.o 0 9 (.mov (.t 2)) (.o 1 10 (.load (some 2) (.t 3)) (.o 2 11 (.fad (.t 3) 0) (.o 3 12 (.load (some 1) (.t 11)) (.o 4 13 (.mov (.t 1)) (.o 5 14 (.mov (.t 1)) (.o 6 15 (.build [(.i 0), (.i 0), (.n 1), (.i 0), (.n 1), (.n 1), (.n 1), (.n 1), (.i 0), (.i 0), (.i 0), (.i 0), (.n 7)] [(1, 1, (.t 9)), (2, 2, (.t 10)), (4, 1, (.t 12)), (6, 1, (.t 13)), (7, 1, (.t 14))]) (.o 7 8 (.alloc 8 [(.i 0), (.i 0), (.n 1), (.i 0), (.n 1), (.n 1), (.n 1), (.n 1), (.i 0), (.i 0), (.i 0), (.i 0), (.n 7)]) (.op 8 [] none none false (.store (some 13) (.t 8) (.t 15)) .done))))))))) (.seq (.g (.o 0 16 (.load (some 13) (.t 8)) (.o 1 17 (.call 17 47 [(.t 16)]) (.o 2 18 (.un .not (.t 17)) .done))) (.cond (.t 18) (.g (.o 0 19 (.build [(.i 0), (.i 0), (.n 1), (.i 0), (.n 1), (.n 1), (.n 1), (.n 1), (.i 0), (.i 0), (.i 0), (.i 0), (.n 7)] []) (.op 1 [] none none false (.store (some 13) (.t 6) (.t 19)) (.o 2 7 (.mov (.v (.bool false))) .done))) .ret) .skip)) (.g (.o 0 20 (.load (some 13) (.t 8)) (.o 1 21 (.call 21 131 [(.t 20)]) (.op 2 [] none none false (.store (some 13) (.t 6) (.t 21)) (.o 3 7 (.mov (.v (.bool true))) .done)))) .ret))))
theorem dg_impl_Begin : Tryz.f128.body.bind (digC Tryz.prog Tryz.f128.ntmps []) = some c_impl_Begin := by kernel_rfl
theorem rs_impl_Begin : resSlots Tryz.prog Tryz.f128 = some [.m 6 (some 13), .s 7] := by kernel_rfl
theorem ok_impl_Begin (q : List (List UInt8)) (ty : Int) (h : List Int) (id : Int) (hq : SmallBB q) (hh : h.length ≤ 4194304) :
  FnOK Tryz.prog 128 [.agg [.d (encBB q), .d (.sc (.int .i64 ty))], .one (.d (encI h)), .one (.d (.sc (.int .i64 id)))] (fun ra _ => ra = [.agg [.d (.sc (.int .i64 (beginN q ty h id).state)), .d (.sc (.int .i64 (beginN q ty h id).id)), .own true (encBB (beginN q ty h id).fname), .d (.sc (.int .i64 (beginN q ty h id).ftype)), .own true (encBB (beginN q ty h id).name), .own true (encBB (beginN q ty h id).zone), .own true (encI (beginN q ty h id).hints), .own true (encI (beginN q ty h id).servers), .d (.sc (.int .i64 (beginN q ty h id).turn)), .d (.sc (.int .i64 (beginN q ty h id).sends)), .d (.sc (.int .i64 (beginN q ty h id).steps)), .d (.sc (.int .i64 (beginN q ty h id).code)), .own true (encR (beginN q ty h id).answers)], .one (.d (.sc (.bool (taskOk (askT q ty h id)))))]) := by
 refine FnOK.ofK Tryz.func128 (by kernel_rfl) dg_impl_Begin rs_impl_Begin rfl rfl ?_
 delta c_impl_Begin T.o X.i C.g
 have hs : SmallT (askT q ty h id) := ⟨hq, hq, .nil, hh, hh, ⟨Nat.zero_le _, nofun⟩⟩
 refine Kb (kCut ⟨tabSl [(1, .dv (encI h)), (2, .i id), (3, .c (.ptr (rid 3 0) 1 0)), (6, .c (.ptr (rid 6 0) 1 0)), (7, .b false)], obTab 1 [(rid 3 0, ⟨1, 0, .box [.d (encBB q), .d (.sc (.int .i64 ty))]⟩), (rid 6 0, ⟨1, 0, .box [.d (.sc (.int .i64 0)), .d (.sc (.int .i64 0)), .nil 1, .d (.sc (.int .i64 0)), .nil 1, .nil 1, .nil 1, .nil 1, .d (.sc (.int .i64 0)), .d (.sc (.int .i64 0)), .d (.sc (.int .i64 0)), .d (.sc (.int .i64 0)), .nil 7]⟩)], []⟩ ?_ (fun x hc => ?_))
 case refine_2 => refine kReg (kBox rfl rfl rfl rfl rfl (kAlloc rfl rfl (kMovC rfl (kDone (kMem [(16384, ⟨1, 0, .box [.d _, .d _]⟩), (28672, ⟨1, 0, .box [.d _, .d _, .nil 1, .d _, .nil 1, .nil 1, .nil 1, .nil 1, .d _, .d _, .d _, .d _, .nil 7]⟩)] [(1, .c (.d _)), (2, .c (.d _)), (3, .c (.ptr 16384 1 0)), (6, .c (.ptr 28672 1 0)), (7, .c (.d _))] [] ⟨rfl, rfl, trivial⟩ ⟨rfl, rfl, rfl, rfl, rfl, trivial⟩ rfl (hc _ .normA))))))
 refine Kb (kCut ⟨tabSl [(6, .c (.ptr (rid 6 0) 1 0)), (7, .b false), (8, .c (.ptr (rid 8 0) 1 0))], obTab 1 [(rid 6 0, ⟨1, 0, .box [.d (.sc (.int .i64 0)), .d (.sc (.int .i64 0)), .nil 1, .d (.sc (.int .i64 0)), .nil 1, .nil 1, .nil 1, .nil 1, .d (.sc (.int .i64 0)), .d (.sc (.int .i64 0)), .d (.sc (.int .i64 0)), .d (.sc (.int .i64 0)), .nil 7]⟩), (rid 8 0, ⟨1, 0, .box ((askT q ty h id).cells.map .d)⟩)], []⟩ ?_ (fun x hc => ?_))
 case refine_2 => refine kReg (kMovC rfl (kLoadP rfl rfl rfl (kFadP rfl rfl (kLoadP rfl rfl rfl (kMovC rfl (kMovC rfl (kBuildG rfl (kAlloc rfl rfl (kMem [(36864, ⟨2, 0, .box [.d _, .d _, .nil 1, .d _, .nil 1, .nil 1, .nil 1, .nil 1, .d _, .d _, .d _, .d _, .nil 7]⟩)] [(8, .c (.ptr 36864 2 0)), (15, .g [.d _, .d _, .d _, .d _, .d _, .nil 1, .d _, .d _, .d _, .d _, .d _, .d _, .nil 7])] [] ⟨rfl, trivial⟩ ⟨rfl, rfl, trivial⟩ rfl (kStoreP rfl rfl rfl rfl (kDone (kMem [(28672, ⟨1, 0, .box [.d _, .d _, .nil 1, .d _, .nil 1, .nil 1, .nil 1, .nil 1, .d _, .d _, .d _, .d _, .nil 7]⟩), (36864, ⟨2, 0, .box [.d _, .d _, .d _, .d _, .d _, .nil 1, .d _, .d _, .d _, .d _, .d _, .d _, .nil 7]⟩)] [(6, .c (.ptr 28672 1 0)), (7, .c (.d _)), (8, .c (.ptr 36864 2 0))] [] ⟨rfl, rfl, trivial⟩ ⟨rfl, rfl, rfl, trivial⟩ rfl (hc _ .normA)))))))))))))
 cases hok : taskOk (askT q ty h id)
 ·rw [show beginN q ty h id = zeroT by unfold beginN; rw [hok]; rfl]
  refine Kb (Kbc (Ke Y Y Y (Kp (ok_impl_TaskOk _ pr) ⟨⟨⟨Y, Y, Y, Y, Y, Y, Y, Y, Y, Y, Y, Y, Y, trivial⟩, leb⟩, trivial⟩ Y Y Y Y Y (Kw Y Y (Kd (kCondN Y (fun g0 => Kbc (kMem [(28672, ⟨1, 0, .box [.d _, .d _, .nil 1, .d _, .nil 1, .nil 1, .nil 1, .nil 1, .d _, .d _, .d _, .d _, .nil 7]⟩)] [(6, .c (.ptr 28672 1 0))] [] ⟨Y, trivial⟩ ⟨Y, trivial⟩ Y (kBuildG Y (kMem [(28672, ⟨1, 0, .box [.d _, .d _, .nil 1, .d _, .nil 1, .nil 1, .nil 1, .nil 1, .d _, .d _, .d _, .d _, .nil 7]⟩)] [(6, .c (.ptr 28672 1 0)), (19, .g [.d _, .d _, .nil 1, .d _, .nil 1, .nil 1, .nil 1, .nil 1, .d _, .d _, .d _, .d _, .nil 7])] [] ⟨Y, trivial⟩ ⟨Y, Y, trivial⟩ Y (Ko Y Y Y Y (Ka Y (Kd (kMem [(28672, ⟨1, 0, .box [.d _, .d _, .nil 1, .d _, .nil 1, .nil 1, .nil 1, .nil 1, .d _, .d _, .d _, .d _, .nil 7]⟩)] [(6, .c (.ptr 28672 1 0)), (7, .c (.d _))] [] ⟨Y, trivial⟩ ⟨Y, Y, trivial⟩ Y (Kr (Er (ra := [.agg [(.d _), (.d _), (.own true _), (.d _), (.own true _), (.own true _), (.own true _), (.own true _), (.d _), (.d _), (.d _), (.d _), (.own true _)], .one (.d _)]) rfl rfl)))))))))) (fun g0 => (by (simp [*] at g0)))))))))
 ·rw [show beginN q ty h id = askT q ty h id by unfold beginN; rw [hok]; rfl]
  refine Kb (Kbc (Ke Y Y Y (Kp (ok_impl_TaskOk _ pr) ⟨⟨⟨Y, Y, Y, Y, Y, Y, Y, Y, Y, Y, Y, Y, Y, trivial⟩, leb⟩, trivial⟩ Y Y Y Y Y (Kw Y Y (Kd (kCondN Y (fun g0 => (by (simp [*] at g0))) (fun g0 => Kn (Kbc (Ke Y Y Y (Ku true (ok_impl_Task_copied _ pr) ⟨⟨⟨Y, Y, Y, Y, Y, Y, Y, Y, Y, Y, Y, Y, Y, trivial⟩, leb⟩, trivial⟩ Y Y Y (fun _ => (kMem [(28672, ⟨1, 0, .box [.d _, .d _, .nil 1, .d _, .nil 1, .nil 1, .nil 1, .nil 1, .d _, .d _, .d _, .d _, .nil 7]⟩), (90114, ⟨2, 0, .arr true _⟩), (90116, ⟨2, 0, .arr true _⟩), (90117, ⟨2, 0, .arr true _⟩), (90118, ⟨2, 0, .arr true _⟩), (90119, ⟨2, 0, .arr true _⟩), (90124, ⟨2, 0, .arr true _⟩)] [(6, .c (.ptr 28672 1 0)), (21, .g [.d _, .d _, .arr 90114 2, .d _, .arr 90116 2, .arr 90117 2, .arr 90118 2, .arr 90119 2, .d _, .d _, .d _, .d _, .arr 90124 2])] [] ⟨Y, Y, Y, Y, Y, Y, Y, trivial⟩ ⟨Y, Y, trivial⟩ Y (Ko Y Y Y Y (Ka Y (Kd (kMem [(28672, ⟨1, 0, .box [.d _, .d _, .arr 90114 2, .d _, .arr 90116 2, .arr 90117 2, .arr 90118 2, .arr 90119 2, .d _, .d _, .d _, .d _, .arr 90124 2]⟩), (90114, ⟨2, 0, .arr true _⟩), (90116, ⟨2, 0, .arr true _⟩), (90117, ⟨2, 0, .arr true _⟩), (90118, ⟨2, 0, .arr true _⟩), (90119, ⟨2, 0, .arr true _⟩), (90124, ⟨2, 0, .arr true _⟩)] [(6, .c (.ptr 28672 1 0)), (7, .c (.d _))] [] ⟨Y, Y, Y, Y, Y, Y, Y, trivial⟩ ⟨Y, Y, trivial⟩ Y (Kr (Er (ra := [.agg [(.d _), (.d _), (.own true _), (.d _), (.own true _), (.own true _), (.own true _), (.own true _), (.d _), (.d _), (.d _), (.d _), (.own true _)], .one (.d _)]) rfl rfl))))))))))))))))))

def c_impl_all_impl_Zone_1 : C := (.g (.o 0 2 (.box 2 (.t 0)) (.o 1 3 (.mov (.v (.bool false))) .done)) (.g (.o 0 4 (.load none (.t 1)) (.o 1 5 (.load (some 2) (.t 2)) (.o 2 6 (.callv 6 (.t 4) [(.t 5)]) (.o 3 7 (.un .not (.t 6)) (.o 4 3 (.mov (.t 7)) .done))))) .ret))
theorem dg_impl_all_impl_Zone_1 : Tryz.f276.body.bind (digC Tryz.prog Tryz.f276.ntmps []) = some c_impl_all_impl_Zone_1 := by kernel_rfl
theorem rs_impl_all_impl_Zone_1 : resSlots Tryz.prog Tryz.f276 = some [.s 3] := by kernel_rfl
theorem ok_impl_all_impl_Zone_1 (x : Zone) (D : Zone → Prop) (g : Zone → Bool) (hx : D x) :
  FnOK Tryz.prog 276 [.agg (x.cells.map .d), .one (.ptr [.fv false (fcAgg D Zone.cells g)])] (fun ra _ => ra = [.one (.d (.sc (.bool (!g x))))]) := by
 refine FnOK.ofK Tryz.func276 (by kernel_rfl) dg_impl_all_impl_Zone_1 rs_impl_all_impl_Zone_1 rfl rfl ?_
 delta c_impl_all_impl_Zone_1 T.o X.i C.g
 refine Kbc (kBox Y Y Y Y Y (Ka Y (Kdb (Kc (kLoadC Y Y (Ke Y Y Y ?_))))))
 refine kCallv Y ⟨x, hx, rfl, rfl⟩ ⟨⟨⟨Y, Y, trivial⟩, leb⟩, trivial⟩ (.inr ?_) rfl ?_ rfl ?_
 ·rintro _ rfl; rfl
 ·rintro _ rfl; exact leb
 rintro _ rfl
 refine Kw Y Y (Ka Y (Kd (Kr (Er (ra := [.one (.d _)]) rfl rfl))))

def c_slices_IndexFunc_Limpl_Zone_impl_Zone : C := (.g (.o 0 4 (.mov (.i 0)) .done) (.seq (.g (.o 0 6 (.mov (.t 0)) (.o 1 7 (.len (.t 6)) (.o 2 8 (.mov (.i 0)) .done))) (.block 0 (.loop (.g (.o 0 9 (.bin .lss (.t 8) (.t 7)) .done) (.seq (.cond (.t 9) .skip (.exit 0)) (.seq (.block 1 (.g (.o 0 10 (.mov (.t 8)) (.o 1 5 (.mov (.t 10)) .done)) (.g (.o 0 11 (.mov (.t 1)) (.o 1 12 (.mov (.t 0)) (.o 2 13 (.mov (.t 5)) (.o 3 14 (.iad 2 (.t 12) (.t 13)) (.o 4 15 (.load (some 2) (.t 14)) (.o 5 16 (.callv 16 (.t 11) [(.t 15)]) .done)))))) (.cond (.t 16) (.g (.o 0 17 (.mov (.t 5)) (.o 1 4 (.mov (.t 17)) .done)) .ret) .skip)))) (.reg false (.o 0 18 (.bin .add (.t 8) (.i 1)) (.o 1 8 (.mov (.t 18)) .done))))))))) (.g (.o 0 4 (.mov (.i (-1))) .done) .ret)))
theorem dg_slices_IndexFunc_Limpl_Zone_impl_Zone : Tryz.f319.body.bind (digC Tryz.prog Tryz.f319.ntmps []) = some c_slices_IndexFunc_Limpl_Zone_impl_Zone := by kernel_rfl
theorem rs_slices_IndexFunc_Limpl_Zone_impl_Zone : resSlots Tryz.prog Tryz.f319 = some [.s 4] := by kernel_rfl
theorem ok_slices_IndexFunc_Limpl_Zone_impl_Zone (l : List Zone) (D : Zone → Prop) (g : Zone → Bool) (hl : l.length ≤ 4194304) (hD : ∀ x ∈ l, D x) :
  FnOK Tryz.prog 319 [.one (.d (encL 2 Zone.cells l)), .one (.fv false (fcAgg D Zone.cells g))] (fun ra _ => ra = [.one (.d (.sc (.int .i64 (idx g l))))]) := by
 refine FnOK.ofK Tryz.func319 (by kernel_rfl) dg_slices_IndexFunc_Limpl_Zone_impl_Zone rs_slices_IndexFunc_Limpl_Zone_impl_Zone rfl rfl ?_
 delta c_slices_IndexFunc_Limpl_Zone_impl_Zone T.o X.i C.g
 refine Kbc (Ka Y (Kdb (Kbc (Ka Y (Kq Y Y (Ka Y (Kd (Kt ?_))))))))
 refine kLoop (α := { i : Nat // i ≤ l.length ∧ ∀ x ∈ l.take i, g x = false })
  (fun y => ⟨tabSl [(0, .dv (encL 2 Zone.cells l)), (1, .c (.fv false (fcAgg D Zone.cells g))), (7, .i l.length), (8, .i y.1)], obTab 1 [], []⟩) (fun y => l.length - y.1) ⟨0, by simp⟩
  .normA ?_
 rintro ⟨i, hi, hg⟩
 simp only
 rcases Nat.lt_or_ge i l.length with hlt | hge
 ·refine Kbc (Kj Y Y Y (Kdb (Km Y (fun g0 => Kn (Kb (Kt (Kbc (Ka Y (Ka Y (Kdb (Kc (Ka Y (Ka Y (Ka Y (kIadR Y Y Y prl (Ky Y Y ?_))))))))))))) (fun g0 => om))))
  refine kCallv Y ⟨l[i], hD _ (List.getElem_mem hlt), rfl, rfl⟩ ⟨⟨⟨Y, Y, trivial⟩, leb⟩, trivial⟩ (.inr ?_) rfl ?_ rfl ?_
  ·rintro _ rfl; rfl
  ·rintro _ rfl; exact leb
  rintro _ rfl
  refine Kd (kCond Y (fun g0 => Kbc (Ka Y (Ka Y (Kd (Kr (Er (ra := [.one (.d _)]) rfl ?_)))))) (fun g0 => Kn (Kv (Kc (kAdd Y Y om (Ka Y (Kd ?_)))))))
  ·have : l.findIdx? g = some i := by
    rw [List.findIdx?_eq_some_iff_getElem]
    refine ⟨hlt, by assumption, fun j hj => ?_⟩
    simpa using hg _ (by rw [List.mem_take_iff_getElem]; exact ⟨j, by omega, rfl⟩)
   simp [idx, this]
  ·refine kInv ⟨⟨i + 1, hlt, ?_⟩, by simp only; omega, .normA⟩
   intro x hx
   rw [← List.take_append_getElem hlt, List.mem_append] at hx
   rcases hx with hx | hx
   ·exact hg x hx
   ·simp at hx; rw [hx]; assumption
 ·refine Kbc (Kj Y Y Y (Kdb (Km Y (fun g0 => om) (fun g0 => kExit (kExC (kExI (kExB (Kbc (Ka Y (Kd (Kr (Er (ra := [.one (.d _)]) rfl ?_))))))))))))
  have : l.findIdx? g = none := by
   rw [List.findIdx?_eq_none_iff]
   intro x hx
   rw [show i = l.length by omega, List.take_length] at hg
   exact hg x hx
  simp [idx, this]

def c_slices_ContainsFunc_Limpl_Zone_impl_Zone : C := (.g (.o 0 4 (.mov (.v (.bool false))) .done) (.g (.o 0 5 (.mov (.t 0)) (.o 1 6 (.mov (.t 1)) (.o 2 7 (.call 7 319 [(.t 5), (.t 6)]) (.o 3 8 (.bin .geq (.t 7) (.i 0)) (.o 4 4 (.mov (.t 8)) .done))))) .ret))
theorem dg_slices_ContainsFunc_Limpl_Zone_impl_Zone : Tryz.f275.body.bind (digC Tryz.prog Tryz.f275.ntmps []) = some c_slices_ContainsFunc_Limpl_Zone_impl_Zone := by kernel_rfl
theorem rs_slices_ContainsFunc_Limpl_Zone_impl_Zone : resSlots Tryz.prog Tryz.f275 = some [.s 4] := by kernel_rfl
theorem ok_slices_ContainsFunc_Limpl_Zone_impl_Zone (l : List Zone) (D : Zone → Prop) (g : Zone → Bool) (hl : l.length ≤ 4194304) (hD : ∀ x ∈ l, D x) :
  FnOK Tryz.prog 275 [.one (.d (encL 2 Zone.cells l)), .one (.fv false (fcAgg D Zone.cells g))] (fun ra _ => ra = [.one (.d (.sc (.bool (l.any g))))]) := by
 refine FnOK.ofK Tryz.func275 (by kernel_rfl) dg_slices_ContainsFunc_Limpl_Zone_impl_Zone rs_slices_ContainsFunc_Limpl_Zone_impl_Zone rfl rfl ?_
 delta c_slices_ContainsFunc_Limpl_Zone_impl_Zone T.o X.i C.g
 refine Kbc (Ka Y (Kdb (Kc (Ka Y (Ka Y ?_)))))
 refine Ku true (ok_slices_IndexFunc_Limpl_Zone_impl_Zone l D g hl hD) ⟨rfl, ⟨fun h => h, fun _ _ h => h⟩, trivial⟩ rfl rfl rfl fun os => ?_
 rw [← idx_ge g l]
 refine Kj Y Y Y (Ka Y (Kd (Kr (Er (ra := [.one (.d _)]) rfl rfl))))

def c_impl_all_impl_Zone : C := (.g (.o 0 3 (.box 3 (.t 1)) (.o 1 4 (.mov (.v (.bool false))) .done)) (.g (.o 0 5 (.mov (.t 0)) (.o 1 6 (.clo 276 [] [(.t 3)]) (.o 2 7 (.call 7 275 [(.t 5), (.t 6)]) (.o 3 8 (.un .not (.t 7)) (.o 4 4 (.mov (.t 8)) .done))))) .ret))
theorem dg_impl_all_impl_Zone : Tryz.f223.body.bind (digC Tryz.prog Tryz.f223.ntmps []) = some c_impl_all_impl_Zone := by kernel_rfl
theorem rs_impl_all_impl_Zone : resSlots Tryz.prog Tryz.f223 = some [.s 4] := by kernel_rfl
theorem ok_impl_all_impl_Zone (l : List Zone) (D : Zone → Prop) (g : Zone → Bool) (hl : l.length ≤ 4194304) (hD : ∀ x ∈ l, D x) :
  FnOK Tryz.prog 223 [.one (.d (encL 2 Zone.cells l)), .one (.fv false (fcAgg D Zone.cells g))] (fun ra _ => ra = [.one (.d (.sc (.bool (l.all g))))]) := by
 refine FnOK.ofK Tryz.func223 (by kernel_rfl) dg_impl_all_impl_Zone rs_impl_all_impl_Zone rfl rfl ?_
 delta c_impl_all_impl_Zone T.o X.i C.g
 refine Kbc (kBox Y Y Y Y Y (Ka Y (Kdb (Kc (Ka Y (kClo Y Y ?_))))))
 refine Ku true (ok_slices_ContainsFunc_Limpl_Zone_impl_Zone l D (fun x => !g x) hl hD) ⟨rfl, ⟨rfl, ⟨_, Tryz.func276, rfl, by kernel_rfl⟩, _, rfl, ?_⟩, trivial⟩ rfl rfl rfl fun os => ?_
 ·rintro _ R ⟨x, hx, rfl, rfl⟩
  exact ⟨by rintro _ rfl; rfl, ok_impl_all_impl_Zone_1 x D g hx⟩
 rw [List.all_eq_not_any_not]
 refine Kw Y Y (Ka Y (Kd (Kr (Er (ra := [.one (.d _)]) rfl rfl))))

def c_cmp_Or_int : C := (.g (.o 0 2 (.mov (.i 0)) .done) (.g (.o 0 3 (.mov (.i 0)) .done) (.seq (.g (.o 0 6 (.mov (.t 0)) (.o 1 7 (.len (.t 6)) (.o 2 8 (.mov (.i 0)) .done))) (.block 0 (.loop (.g (.o 0 9 (.bin .lss (.t 8) (.t 7)) .done) (.seq (.cond (.t 9) .skip (.exit 0)) (.seq (.block 1 (.g (.o 0 10 (.iad 1 (.t 6) (.t 8)) (.o 1 11 (.load none (.t 10)) (.o 2 5 (.mov (.t 11)) .done))) (.g (.o 0 12 (.mov (.t 5)) (.o 1 13 (.mov (.t 3)) (.o 2 14 (.bin .neq (.t 12) (.t 13)) .done))) (.cond (.t 14) (.g (.o 0 15 (.mov (.t 5)) (.o 1 2 (.mov (.t 15)) .done)) .ret) .skip)))) (.reg false (.o 0 16 (.bin .add (.t 8) (.i 1)) (.o 1 8 (.mov (.t 16)) .done))))))))) (.g (.o 0 17 (.mov (.t 3)) (.o 1 2 (.mov (.t 17)) .done)) .ret))))
theorem dg_cmp_Or_int : Tryz.f175.body.bind (digC Tryz.prog Tryz.f175.ntmps []) = some c_cmp_Or_int := by kernel_rfl
theorem rs_cmp_Or_int : resSlots Tryz.prog Tryz.f175 = some [.s 2] := by kernel_rfl
theorem ok_cmp_Or_int (l : List Int) (h : l.length ≤ 4194304) :
  FnOK Tryz.prog 175 [.one (.d (encI l))] (fun ra _ => ra = [.one (.d (.sc (.int .i64 (orL l))))]) := by
 refine FnOK.ofK Tryz.func175 (by kernel_rfl) dg_cmp_Or_int rs_cmp_Or_int rfl rfl ?_
 delta c_cmp_Or_int T.o X.i C.g
 refine Kbc (Ka Y (Kdb (Kc (Ka Y (Kdb (Kbc (Ka Y (Kq Y Y (Ka Y (Kd (Kt ?_)))))))))))
 refine kLoop (α := { i : Nat // i ≤ l.length ∧ orL l = orL (l.drop i) }) (fun y => ⟨tabSl [(3, .i 0), (6, .dv (encI l)), (7, .i l.length), (8, .i y.1)], obTab 1 [], []⟩) (fun y => l.length - y.1) ⟨0, by simp⟩ .normA ?_
 rintro ⟨i, hi, hr⟩
 simp only
 rcases Nat.lt_or_ge i l.length with hlt | hge
 ·have hst := orL_drop l i hlt
  refine Kbc (Kj Y Y Y (Kdb (Km Y (fun g0 => Kn (Kb (Kt (Kbc (kIadR Y Y Y om (Ky Y Y (Ka Y (Kdb (Kc (Ka Y (Ka Y (Kj Y Y Y (Kd (kCondIN Y (fun g1 => Kbc (Ka Y (Ka Y (Kd (Kr (Er (ra := [.one (.d _)]) rfl ?_)))))) (fun g1 => Kn (Kv (Kc (kAdd Y Y om (Ka Y (Kd ?_)))))))))))))))))))) (fun g0 => om))))
  ·rw [hr, hst, if_neg (by assumption)]
  ·exact kInv ⟨⟨i + 1, by omega, by rw [hr, hst, if_pos (by assumption)]⟩, by simp only; omega, .normA⟩
 ·have hst : orL l = 0 := by rw [hr, List.drop_eq_nil_of_le hge]; rfl
  rw [hst]
  refine Kbc (Kj Y Y Y (Kdb (Km Y (fun g0 => om) (fun g0 => kExit (kExC (kExI (kExB (Kbc (Ka Y (Ka Y (Kd (Kr (Er (ra := [.one (.d _)]) rfl rfl)))))))))))))
theorem ok_cmp_Or_int3 (a b c : Int) :
  FnOK Tryz.prog 175 [.one (.d (.sl 1 [[.sc (.int .i64 a)], [.sc (.int .i64 b)], [.sc (.int .i64 c)]]))] (fun ra _ => ra = [.one (.d (.sc (.int .i64 (orL [a, b, c]))))]) := ok_cmp_Or_int [a, b, c] (by simp)
def c_impl_Rr_compare : C := (.g (.o 0 2 (.box 2 (.t 0)) (.o 1 3 (.box 3 (.t 1)) (.o 2 4 (.mov (.i 0)) .done))) (.seq (.reg true (.op 0 [] (some 5) none true (.fad (.t 2) 0) (.op 1 [] (some 6) none true (.load (some 1) (.t 5)) (.op 2 [] (some 7) none true (.fad (.t 3) 0) (.op 3 [] (some 8) none true (.load (some 1) (.t 7)) (.op 5 [] (some 10) none true (.fad (.t 2) 1) (.op 6 [] (some 11) none true (.load none (.t 10)) (.op 7 [] (some 12) none true (.fad (.t 3) 1) (.op 8 [] (some 13) none true (.load none (.t 12)) (.op 10 [] (some 15) none true (.load (some 7) (.t 2)) (.op 12 [] (some 17) none true (.load (some 7) (.t 3)) (.op 4 [1, 3] (some 9) none false (.call 9 176 [(.t 6), (.t 8)]) (.op 9 [6, 8, 1, 3] (some 14) none false (.call 14 177 [(.t 11), (.t 13)]) (.op 11 [10, 6, 8, 1, 3] (some 16) none false (.call 16 179 [(.t 15)]) (.op 13 [12, 10, 6, 8, 1, 3] (some 18) none false (.call 18 179 [(.t 17)]) (.op 14 [10, 6, 8, 1, 3, 12] (some 19) none false (.call 19 178 [(.t 16), (.t 18)]) (.op 15 [1, 3, 6, 8, 10, 12] (some 20) none false (.lit 20 1 [(.i 0)] 3 [(0, 1, (.t 9)), (1, 1, (.t 14)), (2, 1, (.t 19))]) (.op 16 [1, 3, 6, 8, 10, 12] (some 21) none false (.call 21 175 [(.t 20)]) (.op 17 [] (some 4) none true (.mov (.t 21)) .done))))))))))))))))))) .ret))
theorem dg_impl_Rr_compare : Tryz.f94.body.bind (digC Tryz.prog Tryz.f94.ntmps []) = some c_impl_Rr_compare := by kernel_rfl
theorem rs_impl_Rr_compare : resSlots Tryz.prog Tryz.f94 = some [.s 4] := by kernel_rfl
theorem ok_impl_Rr_compare (a b : Rr) (ha : SmallR a) (hb : SmallR b) :
  FnOK Tryz.prog 94 [.agg (a.cells.map .d), .agg (b.cells.map .d)] (fun ra _ => ra = [.one (.d (.sc (.int .i64 (cmpR a b))))]) := by
 refine FnOK.ofK Tryz.func94 (by kernel_rfl) dg_impl_Rr_compare rs_impl_Rr_compare rfl rfl ?_
 delta c_impl_Rr_compare T.o X.i C.g
 have n1 := ha.n.len
 have n2 := hb.n.len
 have r1 := rdata_le ha
 have r2 := rdata_le hb
 rw [cmpR_or]
 refine Kbc (kBox Y Y Y Y Y (kBox Y Y Y Y Y (Ka Y (Kdb (kRegD (Kf Y Y (Ke Y Y Y (Kf Y Y (Ke Y Y Y (Kf Y Y (Ke Y Y Y (Kf Y Y (Ke Y Y Y (Ke Y Y Y (Ke Y Y Y (Kx Y Y (Kp (ok_impl_Name_compare _ _ pr pr) ⟨⟨⟨Y, trivial⟩, leb⟩, ⟨⟨Y, trivial⟩, leb⟩, trivial⟩ Y Y Y Y Y (Kx Y Y (Kp (ok_cmp_Compare_int _ _) ⟨Y, Y, trivial⟩ Y Y Y Y Y (Kx Y Y (Ku true (ok_impl_Rr_data _ pr) ⟨⟨⟨Y, Y, Y, Y, Y, Y, Y, trivial⟩, leb⟩, trivial⟩ Y Y Y (fun _ => (Ks Y Y (Ku true (ok_impl_Rr_data _ pr) ⟨⟨⟨Y, Y, Y, Y, Y, Y, Y, trivial⟩, leb⟩, trivial⟩ Y Y Y (fun _ => (Ks Y Y (Kp (ok_bytes_Compare _ _) ⟨Y, Y, trivial⟩ Y Y Y Y Y (Ks Y Y (kLit Y Y Y Y (Ks Y Y (Kp (ok_cmp_Or_int3 _ _ _) ⟨Y, trivial⟩ Y Y Y Y Y (Ka Y (Kd (kH (Kr (Er (ra := [.one (.d _)]) rfl rfl))))))))))))))))))))))))))))))))))))

def c_impl_ZoneOk : C := (.g (.o 0 1 (.box 1 (.t 0)) (.o 1 2 (.mov (.v (.bool false))) .done)) (.seq (.g (.o 0 6 (.fad (.t 1) 0) (.o 1 7 (.load (some 1) (.t 6)) (.o 2 8 (.call 8 90 [(.t 7)]) (.o 3 9 (.un .not (.t 8)) (.o 4 10 (.mov (.t 9)) (.op 5 [] (some 11) (some (10, false)) false (.fad (.t 1) 1) (.op 6 [] (some 12) (some (10, false)) false (.load none (.t 11)) (.op 7 [] (some 13) (some (10, false)) false (.len (.t 12)) (.op 8 [] (some 14) (some (10, false)) false (.bin .gtr (.t 13) (.i 60)) (.o 9 15 (.pick (.t 10) (.v (.bool true)) (.t 14)) (.o 10 16 (.mov (.t 15)) (.op 11 [] (some 17) (some (16, false)) false (.fad (.t 1) 1) (.op 12 [] (some 18) (some (16, false)) false (.load none (.t 17)) (.op 13 [] (some 19) (some (16, false)) false (.call 19 93 [(.t 18), (.fn 60)]) (.op 14 [] (some 20) (some (16, false)) false (.un .not (.t 19)) (.o 15 21 (.pick (.t 16) (.v (.bool true)) (.t 20)) .done)))))))))))))))) (.cond (.t 21) (.g (.o 0 2 (.mov (.v (.bool false))) .done) .ret) .skip)) (.g (.o 0 3 (.mov (.i 0)) .done) (.seq (.g (.o 0 22 (.fad (.t 1) 1) (.o 1 23 (.load none (.t 22)) (.o 2 24 (.len (.t 23)) (.o 3 25 (.mov (.i 0)) .done)))) (.block 0 (.loop (.g (.o 0 26 (.bin .lss (.t 25) (.t 24)) .done) (.seq (.cond (.t 26) .skip (.exit 0)) (.seq (.block 1 (.g (.o 0 27 (.mov (.t 25)) (.o 1 28 (.iad 7 (.t 23) (.t 25)) (.o 2 29 (.load (some 7) (.t 28)) (.o 3 5 (.alloc 5 [(.n 1), (.i 0), (.i 0), (.i 0), (.n 1), (.n 1), (.n 1)]) (.o 4 4 (.mov (.t 27)) (.op 5 [] none none false (.store (some 7) (.t 5) (.t 29)) .done)))))) (.seq (.seq (.reg true (.op 0 [] (some 30) none true (.mov (.t 4)) (.op 1 [] (some 31) none true (.bin .gtr (.t 30) (.i 0)) (.op 2 [] (some 32) none true (.mov (.t 31)) (.op 3 [] (some 33) (some (32, true)) true (.fad (.t 1) 1) (.op 4 [] (some 34) (some (32, true)) true (.load none (.t 33)) (.op 5 [] (some 35) (some (32, true)) true (.mov (.t 4)) (.op 6 [] (some 36) (some (32, true)) true (.bin .sub (.t 35) (.i 1)) (.op 7 [] (some 37) (some (32, true)) true (.iad 7 (.t 34) (.t 36)) (.op 8 [] (some 38) (some (32, true)) true (.load (some 7) (.t 37)) (.op 9 [] (some 39) (some (32, true)) true (.load (some 7) (.t 5)) (.op 10 [8, 4, 9] (some 40) (some (32, true)) false (.call 40 94 [(.t 38), (.t 39)]) (.op 11 [] (some 41) (some (32, true)) true (.bin .geq (.t 40) (.i 0)) (.op 12 [] (some 42) none true (.pick (.t 32) (.t 41) (.v (.bool false))) (.op 13 [] (some 43) none true (.mov (.t 42)) (.op 14 [] (some 44) (some (43, false)) true (.fad (.t 5) 0) (.op 15 [] (some 45) (some (43, false)) true (.load (some 1) (.t 44)) (.op 16 [] (some 46) (some (43, false)) true (.fad (.t 1) 0) (.op 17 [] (some 47) (some (43, false)) true (.load (some 1) (.t 46)) (.op 18 [15, 8, 9, 4, 17] (some 48) (some (43, false)) false (.call 48 95 [(.t 45), (.t 47)]) (.op 19 [] (some 49) (some (43, false)) true (.un .not (.t 48)) (.op 20 [] (some 50) none true (.pick (.t 43) (.v (.bool true)) (.t 49)) .done)))))))))))))))))))))) (.cond (.t 50) (.g (.o 0 2 (.mov (.v (.bool false))) .done) .ret) .skip)) (.seq (.g (.o 0 51 (.fad (.t 5) 1) (.o 1 52 (.load none (.t 51)) (.o 2 53 (.bin .eql (.t 52) (.i 6)) .done))) (.cond (.t 53) (.g (.o 0 54 (.mov (.t 3)) (.o 1 55 (.bin .add (.t 54) (.i 1)) (.o 2 3 (.mov (.t 55)) .done))) (.g (.o 0 56 (.fad (.t 5) 0) (.o 1 57 (.load (some 1) (.t 56)) (.o 2 58 (.fad (.t 1) 0) (.o 3 59 (.load (some 1) (.t 58)) (.o 4 60 (.call 60 96 [(.t 57), (.t 59)]) (.o 5 61 (.un .not (.t 60)) .done)))))) (.cond (.t 61) (.g (.o 0 2 (.mov (.v (.bool false))) .done) .ret) .skip))) .skip)) (.g (.o 0 62 (.fad (.t 5) 1) (.o 1 63 (.load none (.t 62)) (.o 2 64 (.bin .eql (.t 63) (.i 5)) (.o 3 65 (.mov (.t 64)) (.op 4 [] (some 66) (some (65, true)) false (.load (some 2) (.t 1)) (.op 5 [] (some 67) (some (65, true)) false (.fad (.t 5) 0) (.op 6 [] (some 68) (some (65, true)) false (.load (some 1) (.t 67)) (.op 7 [] (some 69) (some (65, true)) false (.call 69 92 [(.t 66), (.t 68), (.i 255)]) (.op 8 [] (some 70) (some (65, true)) false (.len (.t 69)) (.op 9 [] (some 71) (some (65, true)) false (.bin .gtr (.t 70) (.i 1)) (.o 10 72 (.pick (.t 65) (.t 71) (.v (.bool false))) .done))))))))))) (.cond (.t 72) (.g (.o 0 2 (.mov (.v (.bool false))) .done) .ret) .skip)))))) (.reg false (.o 0 73 (.bin .add (.t 25) (.i 1)) (.o 1 25 (.mov (.t 73)) .done))))))))) (.g (.o 0 74 (.mov (.t 3)) (.o 1 75 (.bin .eql (.t 74) (.i 1)) (.o 2 2 (.mov (.t 75)) .done))) .ret)))))
theorem dg_impl_ZoneOk : Tryz.f27.body.bind (digC Tryz.prog Tryz.f27.ntmps []) = some c_impl_ZoneOk := by kernel_rfl
theorem rs_impl_ZoneOk : resSlots Tryz.prog Tryz.f27 = some [.s 2] := by kernel_rfl
theorem ok_impl_ZoneOk (z : Zone) (hs : SmallZ z) :
    FnOK Tryz.prog 27 [.agg (z.cells.map .d)] (fun ra _ => ra = [.one (.d (.sc (.bool (zoneOk z))))]) := by
  refine FnOK.ofK Tryz.func27 (by kernel_rfl) dg_impl_ZoneOk rs_impl_ZoneOk rfl rfl ?_
  delta c_impl_ZoneOk T.o X.i C.g
  have o1 := hs.o.len
  have o2 := hs.o.mem
  have h1 := hs.r.len
  have hm := hs.r.mem
  have hr := hs.r
  cases a1 : nameOk z.origin
  · rw [show zoneOk z = false by unfold zoneOk; rw [a1]; rfl]
    refine Kbc (kBox Y Y Y Y Y (Ka Y (Kdb (Kbc (Kf Y Y (Ke Y Y Y (Kp (ok_impl_NameOk _ pr pr) ⟨⟨⟨Y, trivial⟩, leb⟩, trivial⟩ Y Y Y Y Y (Kw Y Y (Ka Y (kGN Y (fun g0 => Kg Y (Kg Y (Kg Y (Kg Y (Kk Y (Ka Y (Ka Y (Kg Y (Kg Y (Kg Y (Kg Y (Kk Y (Ka Y (Kd (kCondT Y (Kbc (Ka Y (Kd (Kr (Er (ra := [.one (.d _)]) rfl rfl)))))))))))))))))))) (fun g0 => (by (simp [*] at g0)))))))))))))
  by_cases a2 : z.rrs.length ≤ 60
  case neg =>
    rw [show zoneOk z = false by unfold zoneOk; rw [decide_eq_false a2]; simp]
    refine Kbc (kBox Y Y Y Y Y (Ka Y (Kdb (Kbc (Kf Y Y (Ke Y Y Y (Kp (ok_impl_NameOk _ pr pr) ⟨⟨⟨Y, trivial⟩, leb⟩, trivial⟩ Y Y Y Y Y (Kw Y Y (Ka Y (kGN Y (fun g0 => (by (simp [*] at g0))) (fun g0 => Ki Y (Kf Y Y (Ki Y (Ke Y Y Y (Ki Y (Kq Y Y (Ki Y (Kj Y Y Y (Kl Y (Ka Y (Ka Y (kGP Y (fun g1 => Kg Y (Kg Y (Kg Y (Kg Y (Kk Y (Ka Y (Kd (kCondT Y (Kbc (Ka Y (Kd (Kr (Er (ra := [.one (.d _)]) rfl rfl))))))))))))) (fun g1 => om)))))))))))))))))))))))
  refine Kbc (kBox Y Y Y Y Y (Ka Y (Kdb (Kbc (Kf Y Y (Ke Y Y Y (Kp (ok_impl_NameOk _ pr pr) ⟨⟨⟨Y, trivial⟩, leb⟩, trivial⟩ Y Y Y Y Y (Kw Y Y (Ka Y (kGN Y (fun g0 => (by (simp [*] at g0))) (fun g0 => Ki Y (Kf Y Y (Ki Y (Ke Y Y Y (Ki Y (Kq Y Y (Ki Y (Kj Y Y Y (Kl Y (Ka Y (Ka Y (kGP Y (fun g1 => om) (fun g1 => Ki Y (Kf Y Y (Ki Y (Ke Y Y Y (Ki Y ?_)))))))))))))))))))))))))))
  refine Kp (ok_impl_all_impl_Rr z.rrs SmallR rrOk h1 hm) ⟨rfl, ⟨rfl, rfl, ⟨_, Tryz.func60, rfl, by kernel_rfl⟩, ?_⟩, trivial⟩ Y Y Y Y Y ?_
  · rintro _ R ⟨x, h, rfl, rfl⟩
    exact ok_impl_RrOk x h
  cases a3 : z.rrs.all rrOk
  · rw [show zoneOk z = false by unfold zoneOk; rw [a3]; simp]
    refine Ki Y (Kw Y Y (Kl Y (Ka Y (Kd (kCondT Y (Kbc (Ka Y (Kd (Kr (Er (ra := [.one (.d _)]) rfl rfl))))))))))
  refine Ki Y (Kw Y Y (Kl Y (Ka Y (Kd (kCondF Y (Kn (Kbc (Ka Y (Kdb (Kbc (Kf Y Y (Ke Y Y Y (Kq Y Y (Ka Y (Kd (Kt ?_))))))))))))))))
  refine kLoop (α := { i : Nat // i ≤ z.rrs.length ∧ (List.range i).all (zAt z) = true }) (fun y => ⟨tabSl [(1, .c (.ptr (rid 1 0) 1 0)), (3, .i (zTops (z.rrs.take y.1))), (23, .dv (encR z.rrs)), (24, .i z.rrs.length), (25, .i y.1)], obTab 1 [(rid 1 0, ⟨1, 0, .box (z.cells.map .d)⟩)], []⟩) (fun y => z.rrs.length - y.1) ⟨0, by simp⟩ .normA ?_
  rintro ⟨i, hi, hz⟩
  simp only
  have ht := zTops_le z.rrs i
  rcases Nat.lt_or_ge i z.rrs.length with hlt | hge
  · have hbi := hm _ (List.getElem_mem hlt)
    have n1 := hbi.n.len
    have n2 := hbi.n.mem
    have hts := zTops_succ z.rrs i hlt
    have hq := zAt_eq hlt
    rw [aloneR_eq hlt] at hq
    have hset : (setOf z.rrs z.rrs[i].name 255).length ≤ z.rrs.length := List.length_filter_le _ _
    refine Kb ?_
    refine Kc (Kj Y Y Y (Kdb (Km Y (fun g0 => Kn (Kb (Kt (Kbc (Ka Y (kIadR Y Y Y om (Ky Y Y (kAlloc Y Y (Ka Y (Ko Y Y Y Y (Kdb (Kb (kRegD (Ka Y (Kj Y Y Y (Ka Y (kGP Y (fun g1 => Ki Y (Kf Y Y (Ki Y (Ke Y Y Y (Ki Y (Ka Y (Ki Y (kDif Y Y om (Ki Y (kIadT Y Y om (Ki Y (Ky Y Y (Ki Y (Ke Y Y Y (Ks Y Y (Ki Y (Kp (ok_impl_Rr_compare _ _ pr pr) ⟨⟨⟨Y, Y, Y, Y, Y, Y, Y, trivial⟩, leb⟩, ⟨⟨Y, Y, Y, Y, Y, Y, Y, trivial⟩, leb⟩, trivial⟩ Y Y Y Y Y (Ki Y (Kj Y Y Y (Kk Y (Ka Y (Ka Y (kGP Y (fun g2 => Kg Y (Kg Y (Kg Y (Kg Y (Ks Y Y (Kg Y (Kg Y (Kk Y (Ka Y (Kd (kH (kCondT Y (Kbc (Ka Y (Kd (Kr (Er (ra := [.one (.d _)]) rfl ?_))))))))))))))))) (fun g2 => Ki Y (Kf Y Y (Ki Y (Ke Y Y Y (Ki Y (Kf Y Y (Ki Y (Ke Y Y Y (Ks Y Y (Ki Y (Kp (ok_impl_Name_under _ _ pr pr) ⟨⟨⟨Y, trivial⟩, leb⟩, ⟨⟨Y, trivial⟩, leb⟩, trivial⟩ Y Y Y Y Y (Ki Y (Kw Y Y (Kl Y (Ka Y (Kd (kH (kCondN Y (fun g3 => Kbc (Ka Y (Kd (Kr (Er (ra := [.one (.d _)]) rfl ?_))))) (fun g3 => Kn (Kb (Kbc (Kf Y Y (Ke Y Y Y (Kj Y Y Y (Kd (Km Y (fun g4 => Kbc (Ka Y (kAdd Y Y om (Ka Y (Kdb (Kc (Kf Y Y (Ke Y Y Y (Kf Y Y (Ke Y Y Y (Kp (ok_impl_Name_is _ _ pr pr) ⟨⟨⟨Y, trivial⟩, leb⟩, ⟨⟨Y, trivial⟩, leb⟩, trivial⟩ Y Y Y Y Y (Kw Y Y (Kd (kCondN Y (fun g5 => Kbc (Ka Y (Kd (Kr (Er (ra := [.one (.d _)]) rfl ?_))))) (fun g5 => Kn (Kbc (Kf Y Y (Ke Y Y Y (Kj Y Y Y (Ka Y (kGP Y (fun g6 => om) (fun g6 => Kg Y (Kg Y (Kg Y (Kg Y (Kg Y (Kg Y (Kl Y (Ka Y (Kd (kCondF Y (Kn (Kv (Kc (kAdd Y Y om (Ka Y (Kd ?_))))))))))))))))))))))))))))))))))))) (fun g4 => Kn (Kbc (Kf Y Y (Ke Y Y Y (Kj Y Y Y (Ka Y (kGP Y (fun g7 => Ki Y (Ke Y Y Y (Ki Y (Kf Y Y (Ki Y (Ke Y Y Y (Ki Y (kCallD2 (ok_impl_Zone_set _ _ _ pr pr) ⟨⟨⟨Y, Y, trivial⟩, leb⟩, ⟨⟨Y, trivial⟩, leb⟩, rfl, trivial⟩ Y Y Y Y (Ki Y (Kq Y Y (Ki Y (Kj Y Y Y (Kk Y (Ka Y (Kd (Km Y (fun g8 => Kbc (Ka Y (Kd (Kr (Er (ra := [.one (.d _)]) rfl ?_))))) (fun g8 => Kn (Kv (Kc (kAdd Y Y om (Ka Y (Kd ?_)))))))))))))))))))))) (fun g7 => Kg Y (Kg Y (Kg Y (Kg Y (Kg Y (Kg Y (Kl Y (Ka Y (Kd (kCondF Y (Kn (Kv (Kc (kAdd Y Y om (Ka Y (Kd ?_)))))))))))))))))))))))))))))))))))))))))))))))))))))))))))))))))))))))) (fun g1 => Kg Y (Kg Y (Kg Y (Kg Y (Kg Y (Kg Y (Kg Y (Ks Y Y (Kg Y (Kg Y (Kl Y (Ka Y (Ka Y (Ki Y (Kf Y Y (Ki Y (Ke Y Y Y (Ki Y (Kf Y Y (Ki Y (Ke Y Y Y (Ks Y Y (Ki Y (Kp (ok_impl_Name_under _ _ pr pr) ⟨⟨⟨Y, trivial⟩, leb⟩, ⟨⟨Y, trivial⟩, leb⟩, trivial⟩ Y Y Y Y Y (Ki Y (Kw Y Y (Kl Y (Ka Y (Kd (kH (kCondN Y (fun g9 => Kbc (Ka Y (Kd (Kr (Er (ra := [.one (.d _)]) rfl ?_))))) (fun g9 => Kn (Kb (Kbc (Kf Y Y (Ke Y Y Y (Kj Y Y Y (Kd (Km Y (fun g10 => Kbc (Ka Y (kAdd Y Y om (Ka Y (Kdb (Kc (Kf Y Y (Ke Y Y Y (Kf Y Y (Ke Y Y Y (Kp (ok_impl_Name_is _ _ pr pr) ⟨⟨⟨Y, trivial⟩, leb⟩, ⟨⟨Y, trivial⟩, leb⟩, trivial⟩ Y Y Y Y Y (Kw Y Y (Kd (kCondN Y (fun g11 => Kbc (Ka Y (Kd (Kr (Er (ra := [.one (.d _)]) rfl ?_))))) (fun g11 => Kn (Kbc (Kf Y Y (Ke Y Y Y (Kj Y Y Y (Ka Y (kGP Y (fun g12 => om) (fun g12 => Kg Y (Kg Y (Kg Y (Kg Y (Kg Y (Kg Y (Kl Y (Ka Y (Kd (kCondF Y (Kn (Kv (Kc (kAdd Y Y om (Ka Y (Kd ?_))))))))))))))))))))))))))))))))))))) (fun g10 => Kn (Kbc (Kf Y Y (Ke Y Y Y (Kj Y Y Y (Ka Y (kGP Y (fun g13 => Ki Y (Ke Y Y Y (Ki Y (Kf Y Y (Ki Y (Ke Y Y Y (Ki Y (kCallD2 (ok_impl_Zone_set _ _ _ pr pr) ⟨⟨⟨Y, Y, trivial⟩, leb⟩, ⟨⟨Y, trivial⟩, leb⟩, rfl, trivial⟩ Y Y Y Y (Ki Y (Kq Y Y (Ki Y (Kj Y Y Y (Kk Y (Ka Y (Kd (Km Y (fun g14 => Kbc (Ka Y (Kd (Kr (Er (ra := [.one (.d _)]) rfl ?_))))) (fun g14 => Kn (Kv (Kc (kAdd Y Y om (Ka Y (Kd ?_)))))))))))))))))))))) (fun g13 => Kg Y (Kg Y (Kg Y (Kg Y (Kg Y (Kg Y (Kl Y (Ka Y (Kd (kCondF Y (Kn (Kv (Kc (kAdd Y Y om (Ka Y (Kd ?_))))))))))))))))))))))))))))))))))))))))))))))))))))))))))))))))))))))))))))))) (fun g0 => om))))
    all_goals first
      | (refine congrArg (fun z : Bool => [RA.one (RV.d (DV.sc (Value.bool z)))]) (zone_no hlt (Bool.eq_false_iff.2 fun h => ?_)).symm
         rw [hq] at h
         simp only [Bool.and_eq_true, decide_eq_true_eq, Bool.or_eq_true, Bool.not_eq_true', beq_eq_false_iff_ne] at h
         obtain ⟨⟨⟨k1, k2⟩, k3⟩, k4⟩ := h
         first
           | (rw [prevB_pos (by omega) hlt (by omega), decide_eq_true_eq] at k2; omega)
           | (simp_all; done)
           | (simp_all; omega))
      | (have e1 : prevB z.rrs i = true := by
           first
             | (rw [prevB_pos (by omega) hlt (by omega)]; exact decide_eq_true (by omega))
             | (have : i = 0 := by omega
                subst this; exact prevB_zero)
         have e2 : (!(z.rrs[i].ty == 5) || decide ((setOf z.rrs z.rrs[i].name 255).length ≤ 1)) = true := by
           first
             | assumption
             | (simp [*]; done)
             | (rw [decide_eq_true (by omega)]; simp)
         have e3 : (!(z.rrs[i].ty == 6) || decide (z.rrs[i].name = z.origin)) = true := by
           first
             | (simp [*]; done)
             | (simp_all; done)
         first
           | rw [if_pos (by assumption)] at hts
           | rw [if_neg (by assumption)] at hts
         have hz' : zAt z i = true := by rw [hq, e1, e2, e3]; simp [*]
         exact kInv ⟨⟨i + 1, by omega, range_all hz hz'⟩, by simp only; omega, .normA⟩)
  · rw [show zoneOk z = decide (zTops z.rrs = 1) by unfold zoneOk; rw [a1, decide_eq_true a2, a3, show (List.range z.rrs.length).all (zAt z) = true by rw [show z.rrs.length = i by omega]; exact hz]; rfl]
    refine Kbc (Kj Y Y Y (Kdb (Km Y (fun g0 => om) (fun g0 => kExit (kExC (kExI (kExB (Kbc (Ka Y (Kj Y Y Y (Ka Y (Kd (Kr (Er (ra := [.one (.d _)]) rfl ?_))))))))))))))
    rw [show i = z.rrs.length by omega, List.take_length]
    rfl

def worldOk (zs : List Zone) (at' : List Int) : Bool := decide (zs.length ≤ 5) && zs.all zoneOk && decide (at'.length = zs.length) && at'.all isW
def c_impl_isWorld : C := (.g (.o 0 4 (.mov (.v (.bool false))) .done) (.g (.o 0 5 (.mov (.t 0)) (.o 1 6 (.len (.t 5)) (.o 2 7 (.bin .leq (.t 6) (.i 5)) (.o 3 8 (.mov (.t 7)) (.op 4 [] (some 9) (some (8, true)) false (.mov (.t 0)) (.op 5 [] (some 10) (some (8, true)) false (.call 10 223 [(.t 9), (.fn 27)]) (.o 6 11 (.pick (.t 8) (.t 10) (.v (.bool false))) (.o 7 12 (.mov (.t 11)) (.op 8 [] (some 13) (some (12, true)) false (.mov (.t 1)) (.op 9 [] (some 14) (some (12, true)) false (.len (.t 13)) (.op 10 [] (some 15) (some (12, true)) false (.mov (.t 0)) (.op 11 [] (some 16) (some (12, true)) false (.len (.t 15)) (.op 12 [] (some 17) (some (12, true)) false (.bin .eql (.t 14) (.t 16)) (.o 13 18 (.pick (.t 12) (.t 17) (.v (.bool false))) (.o 14 19 (.mov (.t 18)) (.op 15 [] (some 20) (some (19, true)) false (.mov (.t 1)) (.op 16 [] (some 21) (some (19, true)) false (.call 21 224 [(.t 20), (.fn 143)]) (.o 17 22 (.pick (.t 19) (.t 21) (.v (.bool false))) (.o 18 4 (.mov (.t 22)) .done))))))))))))))))))) .ret))
theorem dg_impl_isWorld : Tryz.f129.body.bind (digC Tryz.prog Tryz.f129.ntmps []) = some c_impl_isWorld := by kernel_rfl
theorem rs_impl_isWorld : resSlots Tryz.prog Tryz.f129 = some [.s 4] := by kernel_rfl
theorem ok_impl_isWorld (zs : List Zone) (at' : List Int) (hz : zs.length ≤ 4194304) (hzs : ∀ z ∈ zs, SmallZ z) (ha : at'.length ≤ 4194304) :
  FnOK Tryz.prog 129 [.one (.d (encL 2 Zone.cells zs)), .one (.d (encI at'))] (fun ra _ => ra = [.one (.d (.sc (.bool (worldOk zs at'))))]) := by
 refine FnOK.ofK Tryz.func129 (by kernel_rfl) dg_impl_isWorld rs_impl_isWorld rfl rfl ?_
 delta c_impl_isWorld T.o X.i C.g
 refine Kbc (Ka Y (Kdb (Kc (Ka Y (Kq Y Y (Kj Y Y Y (Ka Y (kGP Y (fun g0 => Ki Y (Ka Y (Ki Y ?_))) (fun g0 => Kg Y (Kg Y (Kl Y (Ka Y (Ka Y (Kg Y (Kg Y (Kg Y (Kg Y (Kg Y (Kl Y (Ka Y (Ka Y (Kg Y (Kg Y (Kl Y (Ka Y (Ka Y (Kd (Kr (Er (ra := [.one (.d _)]) rfl ?_)))))))))))))))))))))))))))))
 ·refine Kp (ok_impl_all_impl_Zone zs SmallZ zoneOk hz hzs) ⟨rfl, ⟨rfl, rfl, ⟨_, Tryz.func27, rfl, by kernel_rfl⟩, ?_⟩, trivial⟩ Y Y Y Y Y ?_
  ·rintro _ R ⟨x, h, rfl, rfl⟩
   exact ok_impl_ZoneOk x h
  refine Kk Y (Ka Y (Ka Y (kGS Y (fun g0 => Ki Y (Ka Y (Ki Y (Kq Y Y (Ki Y (Ka Y (Ki Y (Kq Y Y (Ki Y (Kj Y Y Y (Kk Y (Ka Y (Ka Y (kGP Y (fun g1 => Ki Y (Ka Y (Ki Y ?_))) (fun g1 => Kg Y (Kg Y (Kl Y (Ka Y (Ka Y (Kd (Kr (Er (ra := [.one (.d _)]) rfl ?_)))))))))))))))))))))) (fun g0 => Kg Y (Kg Y (Kg Y (Kg Y (Kg Y (Kl Y (Ka Y (Ka Y (Kg Y (Kg Y (Kl Y (Ka Y (Ka Y (Kd (Kr (Er (ra := [.one (.d _)]) rfl ?_)))))))))))))))))))
  ·refine Kp (ok_impl_all_int (at'.map fun n => .sc (.int .i64 n)) isI (fun x => isW (decI x)) (by simp; omega) (fun x hx => by obtain ⟨c, _, rfl⟩ := List.mem_map.1 hx; exact ⟨c, rfl⟩)) ⟨congrArg some (encI_lst at'), ⟨rfl, rfl, ⟨_, Tryz.func143, rfl, by kernel_rfl⟩, ?_⟩, trivial⟩ Y Y Y Y Y ?_
   ·rintro _ R ⟨x, ⟨c, rfl⟩, rfl, rfl⟩
    exact ok_impl_isWord c
   refine Kk Y (Ka Y (Ka Y (Kd (Kr (Er (ra := [.one (.d _)]) rfl ?_)))))
   rw [all_decI, show worldOk zs at' = at'.all isW by unfold worldOk; rw [decide_eq_true (by omega), decide_eq_true (by omega), (by assumption : zs.all zoneOk = true)]; rfl]
  ·rw [show worldOk zs at' = false by unfold worldOk; rw [decide_eq_false (show ¬ at'.length = zs.length by omega)]; simp]
  ·rw [show worldOk zs at' = false by unfold worldOk; rw [(by assumption : zs.all zoneOk = false)]; simp]
 ·rw [show worldOk zs at' = false by unfold worldOk; rw [decide_eq_false (show ¬ zs.length ≤ 5 by omega)]; rfl]

def resT (zs : List Zone) (at' hints : List Int) (q : List (List UInt8)) (ty : Int) (lost : List Bool) : Task := resGo zs at' lost 12 0 (askT q ty hints 7)
def resOk (zs : List Zone) (at' hints : List Int) (q : List (List UInt8)) (ty : Int) (lost : List Bool) : Bool := taskOk (askT q ty hints 7) && worldOk zs at' && decide (lost.length ≤ 24)
def resN (zs : List Zone) (at' hints : List Int) (q : List (List UInt8)) (ty : Int) (lost : List Bool) : Task := if resOk zs at' hints q ty lost then resT zs at' hints q ty lost else zeroT
theorem RI.ask {q : List (List UInt8)} {ty : Int} {h : List Int} (hk : taskOk (askT q ty h 7) = true) {W : Rr → Prop} : RI W (askT q ty h 7) := by
 obtain ⟨b, _, _, _, _⟩ := TB.of hk
 exact ⟨b, .inl rfl, by show 0 ≤ (0 : Int) ∧ (0 : Int) ≤ 10; omega, Nat.zero_le _, nofun, fun _ => ⟨rfl, by show (0 : Int) < 12; omega, by show (0 : Int) < 6; omega, by show ((0 : Nat) : Int) ≤ 0; omega⟩⟩
theorem RI.weak {W V : Rr → Prop} (h : ∀ r, W r → V r) {t : Task} (ht : RI W t) : RI V t := ⟨ht.b, ht.st, ht.co, ht.an, fun r hr => h r (ht.wr r hr), ht.go⟩
theorem res_ri {zs : List Zone} {at' hints : List Int} {q : List (List UInt8)} {ty : Int} {lost : List Bool} (h : resOk zs at' hints q ty lost = true) :
  RI (fun r => ∃ z ∈ zs, r ∈ z.rrs) (resT zs at' hints q ty lost) ∧ (resT zs at' hints q ty lost).state = 1 ∧ RI (fun r => rrOk r = true) (resT zs at' hints q ty lost) := by
 unfold resOk worldOk at h
 simp only [Bool.and_eq_true, decide_eq_true_eq, List.all_eq_true] at h
 have hz : ∀ z ∈ zs, zoneOk z = true := h.1.2.1.1.2
 obtain ⟨r1, r2⟩ := resGo_ri hz (at' := at') (lost := lost) 12 0 (askT q ty hints 7) (RI.ask h.1.1) (fun _ => by show (12 : Int) ≤ 12 + 0; omega)
 exact ⟨r1, r2, r1.weak fun r ⟨z, hz1, hz2⟩ => zone_rrs (hz z hz1) r hz2⟩
def c_impl_Resolve : C := (.g (.o 0 8 (.box 8 (.t 3)) (.o 1 10 (.alloc 10 [(.i 0), (.i 0), (.n 1), (.i 0), (.n 1), (.n 1), (.n 1), (.n 1), (.i 0), (.i 0), (.i 0), (.i 0), (.n 7)]) (.o 2 11 (.mov (.v (.bool false))) .done))) (.g (.o 0 15 (.load (some 2) (.t 8)) (.o 1 16 (.mov (.t 2)) (.o 2 17 (.call 17 128 [(.t 15), (.t 16), (.i 7)]) (.o 3 14 (.mov (.t 17)) (.o 4 18 (.ext (.t 14) 0) (.o 5 19 (.ext (.t 14) 1) (.o 6 12 (.alloc 12 [(.i 0), (.i 0), (.n 1), (.i 0), (.n 1), (.n 1), (.n 1), (.n 1), (.i 0), (.i 0), (.i 0), (.i 0), (.n 7)]) (.op 7 [] none none false (.store (some 13) (.t 12) (.t 18)) (.o 8 13 (.mov (.t 19)) .done))))))))) (.seq (.g (.o 0 20 (.mov (.t 13)) (.o 1 21 (.un .not (.t 20)) (.o 2 22 (.mov (.t 21)) (.op 3 [] (some 23) (some (22, false)) false (.mov (.t 0)) (.op 4 [] (some 24) (some (22, false)) false (.mov (.t 1)) (.op 5 [] (some 25) (some (22, false)) false (.call 25 129 [(.t 23), (.t 24)]) (.op 6 [] (some 26) (some (22, false)) false (.un .not (.t 25)) (.o 7 27 (.pick (.t 22) (.v (.bool true)) (.t 26)) (.o 8 28 (.mov (.t 27)) (.op 9 [] (some 29) (some (28, false)) false (.mov (.t 4)) (.op 10 [] (some 30) (some (28, false)) false (.len (.t 29)) (.op 11 [] (some 31) (some (28, false)) false (.bin .gtr (.t 30) (.i 24)) (.o 12 32 (.pick (.t 28) (.v (.bool true)) (.t 31)) .done))))))))))))) (.cond (.t 32) (.g (.o 0 33 (.build [(.i 0), (.i 0), (.n 1), (.i 0), (.n 1), (.n 1), (.n 1), (.n 1), (.i 0), (.i 0), (.i 0), (.i 0), (.n 7)] []) (.op 1 [] none none false (.store (some 13) (.t 10) (.t 33)) (.o 2 11 (.mov (.v (.bool false))) .done))) .ret) .skip)) (.g (.o 0 34 (.mov (.t 0)) (.o 1 35 (.mov (.t 1)) (.o 2 36 (.load (some 13) (.t 12)) (.o 3 37 (.mov (.t 4)) (.o 4 38 (.call 38 130 [(.t 34), (.t 35), (.t 36), (.t 37)]) (.o 5 39 (.call 39 131 [(.t 38)]) (.op 6 [] none none false (.store (some 13) (.t 10) (.t 39)) (.o 7 11 (.mov (.v (.bool true))) .done)))))))) .ret))))
theorem dg_impl_Resolve : Tryz.f45.body.bind (digC Tryz.prog Tryz.f45.ntmps []) = some c_impl_Resolve := by kernel_rfl
theorem rs_impl_Resolve : resSlots Tryz.prog Tryz.f45 = some [.m 10 (some 13), .s 11] := by kernel_rfl
theorem ok_impl_Resolve (zs : List Zone) (at' hints : List Int) (q : List (List UInt8)) (ty : Int) (lost : List Bool) (hz : ∀ z ∈ zs, SmallZ z) (hzl : zs.length ≤ 4194304) (ha : at'.length ≤ 4194304) (hh : hints.length ≤ 4194304) (hq : SmallBB q) (hl : lost.length ≤ 4194304) :
  FnOK Tryz.prog 45 [.one (.d (encL 2 Zone.cells zs)), .one (.d (encI at')), .one (.d (encI hints)), .agg [.d (encBB q), .d (.sc (.int .i64 ty))], .one (.d (encBo lost))] (fun ra _ => ra = [.agg [.d (.sc (.int .i64 (resN zs at' hints q ty lost).state)), .d (.sc (.int .i64 (resN zs at' hints q ty lost).id)), .own true (encBB (resN zs at' hints q ty lost).fname), .d (.sc (.int .i64 (resN zs at' hints q ty lost).ftype)), .own true (encBB (resN zs at' hints q ty lost).name), .own true (encBB (resN zs at' hints q ty lost).zone), .own true (encI (resN zs at' hints q ty lost).hints), .own true (encI (resN zs at' hints q ty lost).servers), .d (.sc (.int .i64 (resN zs at' hints q ty lost).turn)), .d (.sc (.int .i64 (resN zs at' hints q ty lost).sends)), .d (.sc (.int .i64 (resN zs at' hints q ty lost).steps)), .d (.sc (.int .i64 (resN zs at' hints q ty lost).code)), .own true (encR (resN zs at' hints q ty lost).answers)], .one (.d (.sc (.bool (resOk zs at' hints q ty lost))))]) := by
 refine FnOK.ofK Tryz.func45 (by kernel_rfl) dg_impl_Resolve rs_impl_Resolve rfl rfl ?_
 delta c_impl_Resolve T.o X.i C.g
 cases hk : taskOk (askT q ty hints 7) with
 | false =>
  have e : resOk zs at' hints q ty lost = false := by unfold resOk; rw [hk]; rfl
  have e2 : resN zs at' hints q ty lost = zeroT := by unfold resN; rw [e]; rfl
  rw [e2, e]
  have hstopo20 := trivial
  refine Kbc (kBox Y Y Y Y Y (kAlloc Y Y (Ka Y (Kdb (Kc (Ke Y Y Y (Ka Y (Ku true (ok_impl_Begin _ _ _ _ prx prx) ⟨⟨⟨Y, Y, trivial⟩, leb⟩, rfl, rfl, trivial⟩ Y Y Y (fun _ => (kMovT Y (kExtC Y Y (kExtC Y Y (kAlloc Y Y (Ko Y Y Y Y (Ka Y (Kdb (Kb ?_)))))))))))))))))
  clear hstopo20
  rw [hk]
  refine Kc (Ka Y (Kw Y Y (Ka Y (Kg Y (Kg Y (Kg Y (Kg Y (Kk Y (Ka Y (Ka Y (Kg Y (Kg Y (Kg Y (Kk Y (Ka Y (Kd (kCondT Y (Kbc (kBuildG Y (Ko Y Y Y Y (Ka Y (Kd (Kr (Er (ra := [.agg [(.d _), (.d _), (.own true _), (.d _), (.own true _), (.own true _), (.own true _), (.own true _), (.d _), (.d _), (.d _), (.d _), (.own true _)], .one (.d _)]) rfl rfl))))))))))))))))))))))))
 | true =>
  have hb : beginN q ty hints 7 = askT q ty hints 7 := by unfold beginN; rw [hk]; rfl
  have hstopo20 := trivial
  refine Kbc (kBox Y Y Y Y Y (kAlloc Y Y (Ka Y (Kdb (Kc (Ke Y Y Y (Ka Y (Ku true (ok_impl_Begin _ _ _ _ prx prx) ⟨⟨⟨Y, Y, trivial⟩, leb⟩, rfl, rfl, trivial⟩ Y Y Y (fun _ => (kMovT Y (kExtC Y Y (kExtC Y Y (kAlloc Y Y (Ko Y Y Y Y (Ka Y (Kdb (Kb ?_)))))))))))))))))
  clear hstopo20
  rw [hk, hb]
  refine kSub (Sub.frzBox (rid 12 0) (rid 17 2) 2 rfl rfl rfl rfl rfl) ?_
  refine kSub (Sub.frzBox (rid 12 0) (rid 17 4) 4 rfl rfl rfl rfl rfl) ?_
  refine kSub (Sub.frzBox (rid 12 0) (rid 17 5) 5 rfl rfl rfl rfl rfl) ?_
  refine kSub (Sub.frzBox (rid 12 0) (rid 17 6) 6 rfl rfl rfl rfl rfl) ?_
  refine kSub (Sub.frzBox (rid 12 0) (rid 17 7) 7 rfl rfl rfl rfl rfl) ?_
  refine kSub (Sub.frzBox (rid 12 0) (rid 17 12) 12 rfl rfl rfl rfl rfl) ?_
  refine kSub (t := ⟨tabSl [(0, .c (.d (encL 2 Zone.cells zs))), (1, .c (.d (encI at'))), (4, .c (.d (encBo lost))), (10, .c (.ptr (rid 10 0) 1 0)), (12, .c (.ptr (rid 12 0) 1 0)), (13, .b true)], obTab 1 [(rid 10 0, ⟨1, 0, .box [.any, .any, .any, .any, .any, .any, .any, .any, .any, .any, .any, .any, .any]⟩), (rid 12 0, ⟨1, 0, .box ((askT q ty hints 7).cells.map .d)⟩)], []⟩) .normA ?_
  have ht : RI (fun r => rrOk r = true) (askT q ty hints 7) := RI.ask hk
  cases hw : worldOk zs at' with
  | false =>
   have e : resOk zs at' hints q ty lost = false := by unfold resOk; rw [hw]; simp
   have e2 : resN zs at' hints q ty lost = zeroT := by unfold resN; rw [e]; rfl
   rw [e2, e]
   refine Kc (Ka Y (Kw Y Y (Ka Y (Ki Y (Ka Y (Ki Y (Ka Y (Ki Y (Kp (ok_impl_isWorld _ _ prx prx prx) ⟨Y, Y, trivial⟩ Y Y Y Y Y (Ki Y (Kw Y Y (Kl Y (Ka Y (Ka Y (kGN Y (fun g0 => Kg Y (Kg Y (Kg Y (Kk Y (Ka Y (Kd (kCondT Y (Kbc (kBuildG Y (Ko Y Y Y Y (Ka Y (Kd (Kr (Er (ra := [.agg [(.d _), (.d _), (.own true _), (.d _), (.own true _), (.own true _), (.own true _), (.own true _), (.d _), (.d _), (.d _), (.d _), (.own true _)], .one (.d _)]) rfl rfl)))))))))))))) (fun g0 => (by (simp [*] at g0))))))))))))))))))
  | true =>
   have hw2 := hw
   unfold worldOk at hw2
   simp only [Bool.and_eq_true, decide_eq_true_eq, List.all_eq_true] at hw2
   obtain ⟨⟨⟨w1, w2⟩, w3⟩, w4⟩ := hw2
   by_cases hl24 : lost.length ≤ 24
   ·have e : resOk zs at' hints q ty lost = true := by unfold resOk; rw [hk, hw, decide_eq_true hl24]; rfl
    have e2 : resN zs at' hints q ty lost = resT zs at' hints q ty lost := by unfold resN; rw [e]; rfl
    obtain ⟨_, _, r3⟩ := res_ri e
    have hsm := r3.small
    have hT : resGo zs at' lost 12 0 (askT q ty hints 7) = resT zs at' hints q ty lost := rfl
    rw [e2, e]
    refine Kc (Ka Y (Kw Y Y (Ka Y (Ki Y (Ka Y (Ki Y (Ka Y (Ki Y (Kp (ok_impl_isWorld _ _ prx prx prx) ⟨Y, Y, trivial⟩ Y Y Y Y Y (Ki Y (Kw Y Y (Kl Y (Ka Y (Ka Y (kGN Y (fun g0 => (by (simp [*] at g0))) (fun g0 => Ki Y (Ka Y (Ki Y (Kq Y Y (Ki Y (Kj Y Y Y (Kl Y (Ka Y (Kd (Km Y (fun g1 => om) (fun g1 => Kn (Kbc (Ka Y (Ka Y (Ke Y Y Y (Ka Y (kCallD2 (ok_impl_resolve _ _ _ _ prx prx prx prx prx) ⟨rfl, rfl, ⟨⟨Y, Y, Y, Y, Y, Y, Y, Y, Y, Y, Y, Y, Y, trivial⟩, leb⟩, rfl, trivial⟩ Y Y Y Y (Ku true (ok_impl_Task_copied _ prx) ⟨⟨⟨Y, Y, Y, Y, Y, Y, Y, Y, Y, Y, Y, Y, Y, trivial⟩, leb⟩, trivial⟩ Y Y Y (fun _ => (Ko Y Y Y Y (Ka Y (Kd (Kr (Er (ra := [.agg [(.d _), (.d _), (.own true _), (.d _), (.own true _), (.own true _), (.own true _), (.own true _), (.d _), (.d _), (.d _), (.d _), (.own true _)], .one (.d _)]) rfl rfl)))))))))))))))))))))))))))))))))))))))
   ·have e : resOk zs at' hints q ty lost = false := by unfold resOk; rw [decide_eq_false hl24]; simp
    have e2 : resN zs at' hints q ty lost = zeroT := by unfold resN; rw [e]; rfl
    rw [e2, e]
    refine Kc (Ka Y (Kw Y Y (Ka Y (Ki Y (Ka Y (Ki Y (Ka Y (Ki Y (Kp (ok_impl_isWorld _ _ prx prx prx) ⟨Y, Y, trivial⟩ Y Y Y Y Y (Ki Y (Kw Y Y (Kl Y (Ka Y (Ka Y (kGN Y (fun g0 => (by (simp [*] at g0))) (fun g0 => Ki Y (Ka Y (Ki Y (Kq Y Y (Ki Y (Kj Y Y Y (Kl Y (Ka Y (Kd (Km Y (fun g1 => Kbc (kBuildG Y (Ko Y Y Y Y (Ka Y (Kd (Kr (Er (ra := [.agg [(.d _), (.d _), (.own true _), (.d _), (.own true _), (.own true _), (.own true _), (.own true _), (.d _), (.d _), (.d _), (.d _), (.own true _)], .one (.d _)]) rfl rfl))))))) (fun g1 => om))))))))))))))))))))))))))

def c_laws_name : C := (.g (.o 0 2 (.alloc 2 [(.n 1)]) .done) (.g (.o 0 6 (.mov (.t 0)) (.o 1 7 (.s2b (.t 6)) (.o 2 8 (.call 8 167 [(.t 7)]) (.o 3 5 (.mov (.t 8)) (.o 4 9 (.ext (.t 5) 0) (.o 5 10 (.ext (.t 5) 1) (.o 6 3 (.alloc 3 [(.n 1)]) (.op 7 [] none none false (.store (some 1) (.t 3) (.t 9)) (.o 8 4 (.mov (.t 10)) .done))))))))) (.g (.o 0 11 (.load (some 1) (.t 3)) (.op 1 [] none none false (.store (some 1) (.t 2) (.t 11)) .done)) .ret)))
theorem dg_laws_name : Tryz.f86.body.bind (digC Tryz.prog Tryz.f86.ntmps []) = some c_laws_name := by kernel_rfl
theorem rs_laws_name : resSlots Tryz.prog Tryz.f86 = some [.m 2 (some 1)] := by kernel_rfl
theorem ok_laws_name (b : ByteArray) (hb : b.size ≤ 4194303) :
  FnOK Tryz.prog 86 [.one (.d (.sc (.string b)))] (fun ra _ => ra = [.agg [.own true (encBB (readN b.toList))]]) := by
 refine FnOK.ofK Tryz.func86 (by kernel_rfl) dg_laws_name rs_laws_name rfl rfl ?_
 delta c_laws_name T.o X.i C.g
 have h : b.toList.length ≤ 4194303 := by rw [bt_len]; exact hb
 refine Kbc (kAlloc Y Y (Kdb (Kc (Ka Y (kS2b Y om (Ku true (ok_spec_NameRead _ pry) ⟨Y, trivial⟩ Y Y Y (fun _ => (kMovT Y (kExtC Y Y (kExtC Y Y (kAlloc Y Y (Ko Y Y Y Y (Ka Y (Kdb (Kc (Ke Y Y Y (Ko Y Y Y Y (Kd (Kr (Er (ra := [.agg [(.own true _)]]) rfl rfl))))))))))))))))))))

def c_impl_AskOf : C := (.g (.o 0 1 (.box 1 (.t 0)) (.o 1 2 (.mov (.i 0)) (.o 2 3 (.alloc 3 [(.i 0), (.v (.bool false)), (.i 0), (.v (.bool false)), (.i 0), (.n 2), (.n 7), (.n 7), (.n 7), (.n 9), (.n 9)]) (.o 3 4 (.mov (.v (.bool false))) .done)))) (.seq (.g (.o 0 5 (.load (some 13) (.t 1)) (.o 1 6 (.call 6 47 [(.t 5)]) (.o 2 7 (.un .not (.t 6)) (.o 3 8 (.mov (.t 7)) (.op 4 [] (some 9) (some (8, false)) false (.fad (.t 1) 0) (.op 5 [] (some 10) (some (8, false)) false (.load none (.t 9)) (.op 6 [] (some 11) (some (8, false)) false (.bin .eql (.t 10) (.i 1)) (.o 7 12 (.pick (.t 8) (.v (.bool true)) (.t 11)) .done)))))))) (.cond (.t 12) (.g (.o 0 13 (.build [(.i 0), (.v (.bool false)), (.i 0), (.v (.bool false)), (.i 0), (.n 2), (.n 7), (.n 7), (.n 7), (.n 9), (.n 9)] []) (.o 1 2 (.mov (.i 0)) (.op 2 [] none none false (.store (some 11) (.t 3) (.t 13)) (.o 3 4 (.mov (.v (.bool false))) .done)))) .ret) .skip)) (.seq (.reg true (.op 0 [] (some 14) none true (.fad (.t 1) 7) (.op 1 [] (some 15) none true (.load none (.t 14)) (.op 2 [] (some 16) none true (.fad (.t 1) 8) (.op 3 [] (some 17) none true (.load none (.t 16)) (.op 4 [] (some 18) none true (.iad 1 (.t 15) (.t 17)) (.op 5 [] (some 19) none true (.load none (.t 18)) (.op 6 [] (some 20) none true (.load (some 13) (.t 1)) (.op 7 [6] (some 21) none false (.call 21 226 [(.t 20)]) (.op 8 [] (some 2) none true (.mov (.t 19)) (.op 9 [6, 5, 1, 3] none none false (.store (some 11) (.t 3) (.t 21)) (.op 10 [] (some 4) none true (.mov (.v (.bool true))) .done)))))))))))) .ret)))
theorem dg_impl_AskOf : Tryz.f132.body.bind (digC Tryz.prog Tryz.f132.ntmps []) = some c_impl_AskOf := by kernel_rfl
theorem rs_impl_AskOf : resSlots Tryz.prog Tryz.f132 = some [.s 2, .m 3 (some 11), .s 4] := by kernel_rfl
theorem ok_impl_AskOf (t : Task) (hs : SmallT t) :
  FnOK Tryz.prog 132 [.agg (t.cells.map .d)] (fun ra _ => ra = [.one (.d (.sc (.int .i64 (askIp t)))), .agg [.d (.sc (.int .i64 (askId t))), .d (.sc (.bool false)), .d (.sc (.int .i64 0)), .d (.sc (.bool false)), .d (.sc (.int .i64 0)), .own true (encQ (askQs t)), .own true (encR []), .own true (encR []), .own true (encR []), .own true nilW, .own true nilW], .one (.d (.sc (.bool (askOk t))))]) := by
 refine FnOK.ofK Tryz.func132 (by kernel_rfl) dg_impl_AskOf rs_impl_AskOf rfl rfl ?_
 delta c_impl_AskOf T.o X.i C.g
 have s1 := hs.s
 cases h : askOk t
 ·rw [show askIp t = 0 by simp [askIp, h], show askId t = 0 by simp [askId, h], show askQs t = [] by simp [askQs, h]]
  unfold askOk at h
  refine Kbc (kBox Y Y Y Y Y (Ka Y (kAlloc Y Y (Ka Y (Kdb (Kbc (Ke Y Y Y (Kp (ok_impl_TaskOk _ pr) ⟨⟨⟨Y, Y, Y, Y, Y, Y, Y, Y, Y, Y, Y, Y, Y, trivial⟩, leb⟩, trivial⟩ Y Y Y Y Y (Kw Y Y (Ka Y (kGN Y (fun g0 => (Kg Y (Kg Y (Kg Y (Kk Y (Ka Y (Kd (kCondT Y (Kbc (kBuildG Y (Ka Y (Ko Y Y Y Y (Ka Y (Kd (Kr (Er (ra := [.one (.d _), .agg [(.d _), (.d _), (.d _), (.d _), (.d _), (.own true _), (.own true _), (.own true _), (.own true _), (.own true _), (.own true _)], .one (.d _)]) rfl rfl)))))))))))))))) (fun g0 => (Ki Y (Kf Y Y (Ki Y (Ke Y Y Y (Ki Y (Kj Y Y Y (Kl Y (Ka Y (Kd (Km Y (fun g1 => Kbc (kBuildG Y (Ka Y (Ko Y Y Y Y (Ka Y (Kd (Kr (Er (ra := [.one (.d _), .agg [(.d _), (.d _), (.d _), (.d _), (.d _), (.own true _), (.own true _), (.own true _), (.own true _), (.own true _), (.own true _)], .one (.d _)]) rfl rfl)))))))) (fun g1 => Kn (Kb (kRegD (Kf Y Y (Ke Y Y Y (Kf Y Y (Ke Y Y Y ?_)))))))))))))))))))))))))))))
  all_goals simp_all
 ·have h' := h
  unfold askOk at h'
  simp only [Bool.and_eq_true] at h'
  obtain ⟨a1, a2⟩ := h'
  have ht := task_turn a1
  have hst : t.state ≠ 1 := by simpa using a2
  have hget : t.servers.getD t.turn.toNat 0 = t.servers[t.turn.toNat]'(by omega) := by
   rw [List.getD_eq_getElem?_getD, List.getElem?_eq_getElem (by omega)]; rfl
  rw [show askIp t = t.servers[t.turn.toNat]'(by omega) by unfold askIp; rw [h, if_pos rfl, hget], show askId t = t.id by simp [askId, h], show askQs t = [⟨t.name, t.ftype⟩] by simp [askQs, h]]
  refine Kbc (kBox Y Y Y Y Y (Ka Y (kAlloc Y Y (Ka Y (Kdb (Kbc (Ke Y Y Y (Kp (ok_impl_TaskOk _ pr) ⟨⟨⟨Y, Y, Y, Y, Y, Y, Y, Y, Y, Y, Y, Y, Y, trivial⟩, leb⟩, trivial⟩ Y Y Y Y Y (Kw Y Y (Ka Y (kGN Y (fun g0 => (by (simp [*] at g0))) (fun g0 => (Ki Y (Kf Y Y (Ki Y (Ke Y Y Y (Ki Y (Kj Y Y Y (Kl Y (Ka Y (Kd (Km Y (fun g1 => om) (fun g1 => Kn (Kb (kRegD (Kf Y Y (Ke Y Y Y (Kf Y Y (Ke Y Y Y (kIadT Y Y om (Ky Y Y (Ke Y Y Y (Kx Y Y (Ku true (ok_impl_Task_question _ pr) ⟨⟨⟨Y, Y, Y, Y, Y, Y, Y, Y, Y, Y, Y, Y, Y, trivial⟩, leb⟩, trivial⟩ Y Y Y (fun _ => (Ka Y (Ks Y Y (Ko Y Y Y Y (Ka Y (Kd (kH (Kr (Er (ra := [.one (.d _), .agg [(.d _), (.d _), (.d _), (.d _), (.d _), (.own true _), (.own true _), (.own true _), (.own true _), (.own true _), (.own true _)], .one (.d _)]) rfl rfl)))))))))))))))))))))))))))))))))))))))))))

def c_spec_l2text : C := (.g (.o 0 1 (.box 1 (.t 0)) (.o 1 2 (.mov (.n 1)) .done)) (.seq (.g (.o 0 5 (.fad (.t 1) 0) (.o 1 6 (.load none (.t 5)) (.o 2 7 (.len (.t 6)) (.o 3 8 (.bin .eql (.t 7) (.i 0)) .done)))) (.cond (.t 8) (.g (.o 0 9 (.lit 9 1 [(.v (.int .u8 0))] 1 [(0, 1, (.v (.int .u8 46)))]) (.o 1 10 (.s2s (.t 9)) (.o 2 2 (.mov (.t 10)) .done))) .ret) .skip)) (.g (.o 0 3 (.mov (.n 1)) .done) (.seq (.g (.o 0 4 (.mov (.i 0)) .done) (.block 0 (.loop (.seq (.g (.o 0 11 (.mov (.t 4)) (.o 1 12 (.fad (.t 1) 0) (.o 2 13 (.load none (.t 12)) (.o 3 14 (.len (.t 13)) (.o 4 15 (.bin .lss (.t 11) (.t 14)) .done))))) (.cond (.t 15) .skip (.exit 0))) (.seq (.block 1 (.reg false (.o 0 18 (.mov (.t 3)) (.o 1 19 (.fad (.t 1) 0) (.o 2 20 (.load none (.t 19)) (.o 3 21 (.mov (.t 4)) (.o 4 22 (.iad 1 (.t 20) (.t 21)) (.o 5 23 (.load none (.t 22)) (.o 6 24 (.app 24 1 1 (.t 18) (.t 23)) (.o 7 25 (.lit 25 1 [(.v (.int .u8 0))] 1 [(0, 1, (.v (.int .u8 46)))]) (.o 8 26 (.app 26 1 1 (.t 24) (.t 25)) (.o 9 3 (.mov (.t 26)) .done)))))))))))) (.reg false (.o 0 16 (.mov (.t 4)) (.o 1 17 (.bin .add (.t 16) (.i 1)) (.o 2 4 (.mov (.t 17)) .done))))))))) (.g (.o 0 27 (.mov (.t 3)) (.o 1 2 (.mov (.t 27)) .done)) .ret)))))
theorem dg_spec_l2text : Tryz.f239.body.bind (digC Tryz.prog Tryz.f239.ntmps []) = some c_spec_l2text := by kernel_rfl
theorem rs_spec_l2text : resSlots Tryz.prog Tryz.f239 = some [.s 2] := by kernel_rfl
theorem ok_spec_l2text (a : List (List UInt8)) (ha : SmallBB a) :
  FnOK Tryz.prog 239 [.agg [.d (encBB a)]] (fun ra _ => ra = [.one (.d (encB (textN a)))]) := by
 refine FnOK.ofK Tryz.func239 (by kernel_rfl) dg_spec_l2text rs_spec_l2text rfl rfl ?_
 delta c_spec_l2text T.o X.i C.g
 have a1 := ha.len
 have a2 := ha.flat
 refine Kbc (kBox Y Y Y Y Y (Ka Y (Kdb (Kbc (Kf Y Y (Ke Y Y Y (Kq Y Y (Kj Y Y Y (Kd (Km Y (fun g0 => Kbc (kLitG Y Y Y Y (kS2sB (y := 46) (ys := []) Y Y Y (Ka Y (Kd (Kr (Er (ra := [.one (.d _)]) rfl ?_))))))) (fun g0 => Kn (Kbc (Ka Y (Kdb (Kbc (Ka Y (Kd (Kt ?_))))))))))))))))))
 ·have : a = [] := List.eq_nil_of_length_eq_zero (by omega)
  subst this; rfl
 have hne : a ≠ [] := fun h => g0 (by rw [h]; rfl)
 rw [show textN a = textL a by unfold textN; rw [if_neg hne]]
 refine kSub (Sub.nilArr (j := 3) (id := rid 5000 0) (sz := 1) rfl (by decide)) ?_
 refine kLoop (α := { i : Nat // i ≤ a.length }) (fun y => ⟨tabSl [(1, .c (.ptr (rid 1 0) 1 0)), (3, .c (.arr (rid 5000 0) 1)), (4, .i y.1)], obTab 1 [(rid 1 0, ⟨1, 0, .box [.d (encBB a)]⟩), (rid 5000 0, ⟨1, 0, .arr true (encB (textL (a.take y.1)))⟩)], []⟩) (fun y => a.length - y.1) ⟨0, by simp⟩ .normA ?_
 rintro ⟨i, hi⟩
 simp only
 have hle := textL_le a i
 rcases Nat.lt_or_ge i a.length with hlt | hge
 ·have hst := textL_take a i hlt
  have hle2 := textL_le a (i + 1)
  have hle3 : (textL (a.take (i + 1))).length = (textL (a.take i)).length + a[i].length + 1 := by rw [hst]; simp only [List.length_append, List.length_cons, List.length_nil]
  refine Kb (Kbc (Ka Y (Kf Y Y (Ke Y Y Y (Kq Y Y (Kj Y Y Y (Kd (Km Y (fun g0 => Kn (Kb (Kt (Kc (Ka Y (Kf Y Y (Ke Y Y Y (Ka Y (kIadR Y Y Y om (Ky Y Y (kAppR Y Y Y (src_encB _ _) rfl rfl rfl rfl prl (kLitG Y Y Y Y (kAppR1 (z := (46 : UInt8)) rfl rfl rfl rfl rfl rfl rfl rfl prl (Ka Y (Kd (Kv (Kc (Ka Y (kAdd Y Y om (Ka Y (Kd ?_))))))))))))))))))))) (fun g0 => om)))))))))
  refine kInv ⟨⟨i + 1, by omega⟩, by simp only; omega, ?_⟩
  simp only [hst]
  exact .normA
 ·refine Kb (Kbc (Ka Y (Kf Y Y (Ke Y Y Y (Kq Y Y (Kj Y Y Y (Kd (Km Y (fun g0 => om) (fun g0 => kExit (kExC (kExI (kExB (Kbc (Ka Y (Ka Y (Kd (Kr (Er (ra := [.one (.d _)]) rfl ?_))))))))))))))))))
  rw [show i = a.length by omega, List.take_length]

def c_spec_NameText : C := (.g (.o 0 1 (.box 1 (.t 0)) (.o 1 2 (.mov (.n 1)) .done)) (.seq (.g (.o 0 3 (.load (some 1) (.t 1)) (.o 1 4 (.call 4 78 [(.t 3)]) (.o 2 5 (.un .not (.t 4)) .done))) (.cond (.t 5) (.g (.o 0 2 (.mov (.n 1)) .done) .ret) .skip)) (.g (.o 0 6 (.load (some 1) (.t 1)) (.o 1 7 (.call 7 239 [(.t 6)]) (.o 2 2 (.mov (.t 7)) .done))) .ret)))
theorem dg_spec_NameText : Tryz.f169.body.bind (digC Tryz.prog Tryz.f169.ntmps []) = some c_spec_NameText := by kernel_rfl
theorem rs_spec_NameText : resSlots Tryz.prog Tryz.f169 = some [.s 2] := by kernel_rfl
theorem ok_spec_NameText (a : List (List UInt8)) (ha : SmallBB a) :
  FnOK Tryz.prog 169 [.agg [.d (encBB a)]] (fun ra _ => ra = [.one (.d (encB (if nameOk a then textN a else [])))]) := by
 refine FnOK.ofK Tryz.func169 (by kernel_rfl) dg_spec_NameText rs_spec_NameText rfl rfl ?_
 delta c_spec_NameText T.o X.i C.g
 have a1 := ha.len
 have a2 := ha.mem
 cases hno : nameOk a
 ·refine Kbc (kBox Y Y Y Y Y (Ka Y (Kdb (Kbc (Ke Y Y Y (Kp (ok_spec_NameOk _ pry pry) ⟨⟨⟨Y, trivial⟩, leb⟩, trivial⟩ Y Y Y Y Y (Kw Y Y (Kd (kCondN Y (fun g0 => Kbc (Ka Y (Kd (Kr (Er (ra := [.one (.d _)]) rfl rfl))))) (fun g0 => (by (simp [*] at g0))))))))))))
  all_goals rfl
 ·refine Kbc (kBox Y Y Y Y Y (Ka Y (Kdb (Kbc (Ke Y Y Y (Kp (ok_spec_NameOk _ pry pry) ⟨⟨⟨Y, trivial⟩, leb⟩, trivial⟩ Y Y Y Y Y (Kw Y Y (Kd (kCondN Y (fun g0 => (by (simp [*] at g0))) (fun g0 => Kn (Kbc (Ke Y Y Y (kCallD2 (ok_spec_l2text _ pry) ⟨⟨⟨Y, trivial⟩, leb⟩, trivial⟩ Y Y Y Y (Ka Y (Kd (Kr (Er (ra := [.one (.d _)]) rfl rfl)))))))))))))))))
  all_goals rfl

def c_laws_same : C := (.g (.o 0 4 (.mov (.v (.bool false))) .done) (.g (.o 0 5 (.mov (.t 0)) (.o 1 6 (.b2s (.t 5)) (.o 2 7 (.mov (.t 1)) (.o 3 8 (.b2s (.t 7)) (.o 4 9 (.bin .eql (.t 6) (.t 8)) (.o 5 4 (.mov (.t 9)) .done)))))) .ret))
theorem dg_laws_same : Tryz.f42.body.bind (digC Tryz.prog Tryz.f42.ntmps []) = some c_laws_same := by kernel_rfl
theorem rs_laws_same : resSlots Tryz.prog Tryz.f42 = some [.s 4] := by kernel_rfl
theorem ok_laws_same (a b : List UInt8) :
  FnOK Tryz.prog 42 [.one (.d (encB a)), .one (.d (encB b))] (fun ra _ => ra = [.one (.d (.sc (.bool (decide (a = b)))))]) := by
 refine FnOK.ofK Tryz.func42 (by kernel_rfl) dg_laws_same rs_laws_same rfl rfl ?_
 delta c_laws_same T.o X.i C.g
 refine Kbc (Ka Y (Kdb (Kc (Ka Y (kB2s Y Y (Ka Y (kB2s Y Y (Kj Y Y Y (Ka Y (Kd (Kr (Er (ra := [.one (.d _)]) rfl ?_))))))))))))
 refine congrArg (fun z : Bool => [RA.one (RV.d (DV.sc (Value.bool z)))]) ?_
 rw [ByteArray.toList_eq, ByteArray.toList_eq, Bool.eq_iff_iff]
 simp

def c_laws_sameName : C := (.g (.o 0 2 (.box 2 (.t 0)) (.o 1 3 (.box 3 (.t 1)) (.o 2 4 (.mov (.v (.bool false))) .done))) (.seq (.reg true (.op 0 [] (some 5) none true (.load (some 1) (.t 2)) (.op 2 [] (some 7) none true (.load (some 1) (.t 3)) (.op 1 [0] (some 6) none false (.call 6 169 [(.t 5)]) (.op 3 [2, 0] (some 8) none false (.call 8 169 [(.t 7)]) (.op 4 [0, 2] (some 9) none false (.call 9 42 [(.t 6), (.t 8)]) (.op 5 [] (some 4) none true (.mov (.t 9)) .done))))))) .ret))
theorem dg_laws_sameName : Tryz.f88.body.bind (digC Tryz.prog Tryz.f88.ntmps []) = some c_laws_sameName := by kernel_rfl
theorem rs_laws_sameName : resSlots Tryz.prog Tryz.f88 = some [.s 4] := by kernel_rfl
theorem ok_laws_sameName (a b : List (List UInt8)) (ha : SmallBB a) (hb : SmallBB b) :
  FnOK Tryz.prog 88 [.agg [.d (encBB a)], .agg [.d (encBB b)]] (fun ra _ => ra = [.one (.d (.sc (.bool (decide ((if nameOk a then textN a else []) = (if nameOk b then textN b else []))))))]) := by
 refine FnOK.ofK Tryz.func88 (by kernel_rfl) dg_laws_sameName rs_laws_sameName rfl rfl ?_
 delta c_laws_sameName T.o X.i C.g
 refine Kbc (kBox Y Y Y Y Y (kBox Y Y Y Y Y (Ka Y (Kdb (kRegD (Ke Y Y Y (Ke Y Y Y (Kx Y Y (kCallD2 (ok_spec_NameText _ pry) ⟨⟨⟨Y, trivial⟩, leb⟩, trivial⟩ Y Y Y Y (Ks Y Y (kCallD2 (ok_spec_NameText _ pry) ⟨⟨⟨Y, trivial⟩, leb⟩, trivial⟩ Y Y Y Y (Ks Y Y (Kp (ok_laws_same _ _) ⟨Y, Y, trivial⟩ Y Y Y Y Y (Ka Y (Kd (kH (Kr (Er (ra := [.one (.d _)]) rfl rfl))))))))))))))))))

def c_laws_tasks : C := (.g (.o 0 0 (.mov (.v (.bool false))) .done) (.g (.o 0 7 (.call 7 86 [(.v (.string ⟨#[97, 46]⟩))]) (.o 1 8 (.build [(.n 1), (.i 0)] [(0, 1, (.t 7)), (1, 1, (.i 1))]) (.o 2 9 (.lit 9 1 [(.i 0)] 1 [(0, 1, (.i 1))]) (.o 3 10 (.call 10 128 [(.t 8), (.t 9), (.i 5)]) (.o 4 6 (.mov (.t 10)) (.o 5 11 (.ext (.t 6) 0) (.o 6 12 (.ext (.t 6) 1) (.o 7 1 (.alloc 1 [(.i 0), (.i 0), (.n 1), (.i 0), (.n 1), (.n 1), (.n 1), (.n 1), (.i 0), (.i 0), (.i 0), (.i 0), (.n 7)]) (.op 8 [] none none false (.store (some 13) (.t 1) (.t 11)) (.o 9 2 (.mov (.t 12)) .done)))))))))) (.g (.o 0 14 (.load (some 13) (.t 1)) (.o 1 15 (.call 15 132 [(.t 14)]) (.o 2 13 (.mov (.t 15)) (.o 3 16 (.ext (.t 13) 0) (.o 4 17 (.ext (.t 13) 1) (.o 5 18 (.ext (.t 13) 2) (.o 6 4 (.alloc 4 [(.i 0), (.v (.bool false)), (.i 0), (.v (.bool false)), (.i 0), (.n 2), (.n 7), (.n 7), (.n 7), (.n 9), (.n 9)]) (.o 7 3 (.mov (.t 16)) (.op 8 [] none none false (.store (some 11) (.t 4) (.t 17)) (.o 9 5 (.mov (.t 18)) .done)))))))))) (.seq (.reg true (.op 0 [] (some 19) none true (.mov (.t 2)) (.op 1 [] (some 20) none true (.mov (.t 19)) (.op 2 [] (some 21) (some (20, true)) true (.mov (.t 5)) (.op 3 [] (some 22) none true (.pick (.t 20) (.t 21) (.v (.bool false))) (.op 4 [] (some 23) none true (.mov (.t 22)) (.op 5 [] (some 24) (some (23, true)) true (.mov (.t 3)) (.op 6 [] (some 25) (some (23, true)) true (.bin .eql (.t 24) (.i 1)) (.op 7 [] (some 26) none true (.pick (.t 23) (.t 25) (.v (.bool false))) (.op 8 [] (some 27) none true (.mov (.t 26)) (.op 9 [] (some 28) (some (27, true)) true (.fad (.t 4) 0) (.op 10 [] (some 29) (some (27, true)) true (.load none (.t 28)) (.op 11 [] (some 30) (some (27, true)) true (.bin .eql (.t 29) (.i 5)) (.op 12 [] (some 31) none true (.pick (.t 27) (.t 30) (.v (.bool false))) (.op 13 [] (some 32) none true (.mov (.t 31)) (.op 14 [] (some 33) (some (32, true)) true (.fad (.t 4) 5) (.op 15 [] (some 34) (some (32, true)) true (.load none (.t 33)) (.op 16 [] (some 35) (some (32, true)) true (.iad 2 (.t 34) (.i 0)) (.op 17 [] (some 36) (some (32, true)) true (.fad (.t 35) 0) (.op 18 [] (some 37) (some (32, true)) true (.load (some 1) (.t 36)) (.op 19 [10] (some 38) (some (32, true)) false (.call 38 86 [(.v (.string ⟨#[97, 46]⟩))]) (.op 20 [18, 15, 10] (some 39) (some (32, true)) false (.call 39 88 [(.t 37), (.t 38)]) (.op 21 [] (some 40) none true (.pick (.t 32) (.t 39) (.v (.bool false))) (.op 22 [] (some 0) none true (.mov (.t 40)) .done)))))))))))))))))))))))) .ret))))
theorem dg_laws_tasks : Tryz.f46.body.bind (digC Tryz.prog Tryz.f46.ntmps []) = some c_laws_tasks := by kernel_rfl
theorem rs_laws_tasks : resSlots Tryz.prog Tryz.f46 = some [.s 0] := by kernel_rfl
theorem ok_laws_tasks : FnOK Tryz.prog 46 [] (fun ra _ => ra = [.one (.d (.sc (.bool true)))]) := by
 refine FnOK.ofK Tryz.func46 (by kernel_rfl) dg_laws_tasks rs_laws_tasks rfl rfl ?_
 delta c_laws_tasks T.o X.i C.g
 have e : readN (ByteArray.mk #[97, 46]).toList = [[97]] := by rw [bt_list]; decide
 have sa : SmallBB [[97]] := SmallBB.ok (by decide)
 have ok := ok_laws_name ⟨#[97, 46]⟩ (by decide)
 rw [e] at ok
 have ok2 := ok_impl_Begin [[97]] 1 [1] 5 sa (by decide)
 rw [show beginN [[97]] 1 [1] 5 = askT [[97]] 1 [1] 5 by decide, show taskOk (askT [[97]] 1 [1] 5) = true by decide] at ok2
 have ok3 := ok_impl_AskOf (askT [[97]] 1 [1] 5) ⟨sa, sa, .nil, by decide, by decide, .nil⟩
 rw [show askIp (askT [[97]] 1 [1] 5) = 1 by decide, show askId (askT [[97]] 1 [1] 5) = 5 by decide, show askQs (askT [[97]] 1 [1] 5) = [⟨[[97]], 1⟩] by decide, show askOk (askT [[97]] 1 [1] 5) = true by decide] at ok3
 have e2 : decide ((if nameOk [[97]] then textN [[97]] else []) = (if nameOk (readN (ByteArray.mk #[97, 46]).toList) then textN (readN (ByteArray.mk #[97, 46]).toList) else [])) = true := by rw [e]; rfl
 have ok4 := ok_laws_sameName [[97]] (readN (ByteArray.mk #[97, 46]).toList) sa (by rw [e]; exact sa)
 rw [e2] at ok4
 refine Kbc (Ka Y (Kd ?_))
 refine Kbc (Ku true ok ⟨Y, trivial⟩ Y Y Y (fun _ => ?_))
 refine kBuildG Y (kLitD Y Y Y Y ?_)
 refine Ku true ok2 ⟨⟨⟨Y, Y, trivial⟩, leb⟩, rfl, rfl, trivial⟩ Y Y Y (fun _ => ?_)
 refine kMovT Y (kExtC Y Y (kExtC Y Y (kAlloc Y Y (Ko Y Y Y Y (Ka Y (Kdb (Kc (Ke Y Y Y ?_))))))))
 refine Ku true ok3 ⟨⟨⟨Y, Y, Y, Y, Y, Y, Y, Y, Y, Y, Y, Y, Y, trivial⟩, leb⟩, trivial⟩ Y Y Y (fun _ => ?_)
 refine kMovT Y (kExtC Y Y (kExtC Y Y (kExtC Y Y (kAlloc Y Y (Ka Y (Ko Y Y Y Y (Ka Y (Kdb (kRegD (Ka Y (Ka Y (Ki Y (Ka Y (Kk Y (Ka Y (Ka Y (Ki Y (Ka Y (Ki Y (Kj Y Y Y (Kk Y (Ka Y (Ka Y (Ki Y (Kf Y Y (Ki Y (Ke Y Y Y (Ki Y (Kj Y Y Y (Kk Y (Ka Y (Ka Y (Ki Y (Kf Y Y (Ki Y (Ke Y Y Y (Ki Y (kIadAR (m := 0) Y Y Y Y prl (Ki Y (kFadE Y Y (Ki Y (kLoadER Y Y prl rfl (Kx Y Y (Ki Y (Ku true (ok_laws_name _ pry) ⟨Y, trivial⟩ Y Y Y (fun _ => (Ks Y Y (Ki Y ?_))))))))))))))))))))))))))))))))))))))))))))))))
 refine Ku true ok4 ⟨⟨⟨Y, trivial⟩, leb⟩, ⟨⟨Y, trivial⟩, leb⟩, trivial⟩ Y Y Y (fun _ => ?_)
 refine Kk Y (Ka Y (Ka Y (Kd (kH (Kr (Er (ra := [.one (.d _)]) rfl rfl))))))

def c_impl_Lookup : C := (.g (.o 0 3 (.box 3 (.t 0)) (.o 1 4 (.box 4 (.t 1)) (.o 2 6 (.mov (.n 7)) (.o 3 7 (.mov (.i 0)) .done)))) (.seq (.g (.o 0 10 (.load (some 2) (.t 3)) (.o 1 11 (.call 11 27 [(.t 10)]) (.o 2 12 (.un .not (.t 11)) (.o 3 13 (.mov (.t 12)) (.op 4 [] (some 14) (some (13, false)) false (.load (some 1) (.t 4)) (.op 5 [] (some 15) (some (13, false)) false (.call 15 90 [(.t 14)]) (.op 6 [] (some 16) (some (13, false)) false (.un .not (.t 15)) (.o 7 17 (.pick (.t 13) (.v (.bool true)) (.t 16)) (.o 8 18 (.mov (.t 17)) (.op 9 [] (some 19) (some (18, false)) false (.mov (.t 2)) (.op 10 [] (some 20) (some (18, false)) false (.call 20 137 [(.t 19)]) (.op 11 [] (some 21) (some (18, false)) false (.un .not (.t 20)) (.o 12 22 (.pick (.t 18) (.v (.bool true)) (.t 21)) .done))))))))))))) (.cond (.t 22) (.g (.o 0 6 (.mov (.n 7)) (.o 1 7 (.mov (.i 5)) .done)) .ret) .skip)) (.g (.o 0 24 (.load (some 2) (.t 3)) (.o 1 25 (.load (some 1) (.t 4)) (.o 2 26 (.mov (.t 2)) (.o 3 27 (.call 27 138 [(.t 24), (.t 25), (.t 26)]) (.o 4 23 (.mov (.t 27)) (.o 5 28 (.ext (.t 23) 0) (.o 6 29 (.ext (.t 23) 1) (.o 7 8 (.mov (.t 28)) (.o 8 9 (.mov (.t 29)) .done))))))))) (.g (.o 0 30 (.mov (.t 8)) (.o 1 31 (.call 31 91 [(.t 30)]) (.o 2 32 (.mov (.t 9)) (.o 3 6 (.mov (.t 31)) (.o 4 7 (.mov (.t 32)) .done))))) .ret))))
theorem dg_impl_Lookup : Tryz.f49.body.bind (digC Tryz.prog Tryz.f49.ntmps []) = some c_impl_Lookup := by kernel_rfl
theorem rs_impl_Lookup : resSlots Tryz.prog Tryz.f49 = some [.s 6, .s 7] := by kernel_rfl
theorem ok_impl_Lookup (z : Zone) (n : List (List UInt8)) (t : Int) (hs : SmallZ z) (hn : SmallBB n) :
  FnOK Tryz.prog 49 [.agg (z.cells.map .d), .agg [.d (encBB n)], .one (.d (.sc (.int .i64 t)))] (fun ra _ => ra = [.one (.own true (encR (lookN z n t).1)), .one (.d (.sc (.int .i64 (lookN z n t).2)))]) := by
 refine FnOK.ofK Tryz.func49 (by kernel_rfl) dg_impl_Lookup rs_impl_Lookup rfl rfl ?_
 delta c_impl_Lookup T.o X.i C.g
 have n1 := hn.len
 have n2 := hn.mem
 have hsm : SmallRs (lookupN z n t).1 := by obtain ⟨f, hf⟩ := lookup_filter z n t; rw [hf]; exact hs.r.filter f
 cases h : zoneOk z && nameOk n && askedT t
 ·rw [show lookN z n t = ([], 5) by unfold lookN; rw [h]; rfl]
  refine Kbc (kBox Y Y Y Y Y (kBox Y Y Y Y Y (Ka Y (Ka Y (Kdb (Kbc (Ke Y Y Y (Kp (ok_impl_ZoneOk _ pr) ⟨⟨⟨Y, Y, trivial⟩, leb⟩, trivial⟩ Y Y Y Y Y (Kw Y Y (Ka Y (kGN Y (fun g0 => (Kg Y (Kg Y (Kg Y (Kk Y (Ka Y (Ka Y (Kg Y (Kg Y (Kg Y (Kk Y (Ka Y (Kd (kCondT Y (Kbc (Ka Y (Ka Y (Kd (Kr (Er (ra := [.one (.own true _), .one (.d _)]) rfl rfl)))))))))))))))))))) (fun g0 => (Ki Y (Ke Y Y Y (Ki Y (Kp (ok_impl_NameOk _ pr pr) ⟨⟨⟨Y, trivial⟩, leb⟩, trivial⟩ Y Y Y Y Y (Ki Y (Kw Y Y (Kl Y (Ka Y (Ka Y (kGN Y (fun g1 => Kg Y (Kg Y (Kg Y (Kk Y (Ka Y (Kd (kCondT Y (Kbc (Ka Y (Ka Y (Kd (Kr (Er (ra := [.one (.own true _), .one (.d _)]) rfl rfl))))))))))))) (fun g1 => Ki Y (Ka Y (Ki Y (Kp (ok_impl_isAsked _) ⟨Y, trivial⟩ Y Y Y Y Y (Ki Y (Kw Y Y (Kl Y (Ka Y (Kd (kCondN Y (fun g2 => Kbc (Ka Y (Ka Y (Kd (Kr (Er (ra := [.one (.own true _), .one (.d _)]) rfl rfl)))))) (fun g2 => Kn (Kbc (Ke Y Y Y (Ke Y Y Y (Ka Y (kCallD2 (ok_impl_Zone_lookup _ _ _ pr pr) ⟨⟨⟨Y, Y, trivial⟩, leb⟩, ⟨⟨Y, trivial⟩, leb⟩, rfl, trivial⟩ Y Y Y Y (kMovT Y (kExtC Y Y (kExtC Y Y (Ka Y (Ka Y (Kdb (Kc (Ka Y (Ku true (ok_impl_copyRrs _ pr) ⟨Y, trivial⟩ Y Y Y (fun _ => (Ka Y (Ka Y (Ka Y (Kd (Kr (Er (ra := [.one (.own true _), .one (.d _)]) rfl ?_))))))))))))))))))))))))))))))))))))))))))))))))))))))
  all_goals simp_all
 ·rw [show lookN z n t = lookupN z n t by unfold lookN; rw [h]; rfl]
  have h' := h
  simp only [Bool.and_eq_true] at h'
  obtain ⟨⟨a1, a2⟩, a3⟩ := h'
  refine Kbc (kBox Y Y Y Y Y (kBox Y Y Y Y Y (Ka Y (Ka Y (Kdb (Kbc (Ke Y Y Y (Kp (ok_impl_ZoneOk _ pr) ⟨⟨⟨Y, Y, trivial⟩, leb⟩, trivial⟩ Y Y Y Y Y (Kw Y Y (Ka Y (kGN Y (fun g0 => (by (simp [*] at g0))) (fun g0 => (Ki Y (Ke Y Y Y (Ki Y (Kp (ok_impl_NameOk _ pr pr) ⟨⟨⟨Y, trivial⟩, leb⟩, trivial⟩ Y Y Y Y Y (Ki Y (Kw Y Y (Kl Y (Ka Y (Ka Y (kGN Y (fun g1 => (by (simp [*] at g1))) (fun g1 => Ki Y (Ka Y (Ki Y (Kp (ok_impl_isAsked _) ⟨Y, trivial⟩ Y Y Y Y Y (Ki Y (Kw Y Y (Kl Y (Ka Y (Kd (kCondN Y (fun g2 => (by (simp [*] at g2))) (fun g2 => Kn (Kbc (Ke Y Y Y (Ke Y Y Y (Ka Y (kCallD2 (ok_impl_Zone_lookup _ _ _ pr pr) ⟨⟨⟨Y, Y, trivial⟩, leb⟩, ⟨⟨Y, trivial⟩, leb⟩, rfl, trivial⟩ Y Y Y Y (kMovT Y (kExtC Y Y (kExtC Y Y (Ka Y (Ka Y (Kdb (Kc (Ka Y (Ku true (ok_impl_copyRrs _ pr) ⟨Y, trivial⟩ Y Y Y (fun _ => (Ka Y (Ka Y (Ka Y (Kd (Kr (Er (ra := [.one (.own true _), .one (.d _)]) rfl rfl))))))))))))))))))))))))))))))))))))))))))))))))))))))

def c_spec_RrSame : C := (.g (.o 0 2 (.box 2 (.t 0)) (.o 1 3 (.box 3 (.t 1)) (.o 2 4 (.mov (.v (.bool false))) .done))) (.g (.o 0 5 (.load (some 7) (.t 2)) (.o 1 6 (.call 6 22 [(.t 5)]) (.o 2 7 (.mov (.t 6)) (.op 3 [] (some 8) (some (7, true)) false (.load (some 7) (.t 3)) (.op 4 [] (some 9) (some (7, true)) false (.call 9 22 [(.t 8)]) (.o 5 10 (.pick (.t 7) (.t 9) (.v (.bool false))) (.o 6 11 (.mov (.t 10)) (.op 7 [] (some 12) (some (11, true)) false (.load (some 7) (.t 2)) (.op 8 [] (some 13) (some (11, true)) false (.load (some 7) (.t 3)) (.op 9 [] (some 14) (some (11, true)) false (.call 14 80 [(.t 12), (.t 13)]) (.op 10 [] (some 15) (some (11, true)) false (.bin .eql (.t 14) (.i 0)) (.o 11 16 (.pick (.t 11) (.t 15) (.v (.bool false))) (.o 12 4 (.mov (.t 16)) .done))))))))))))) .ret))
theorem dg_spec_RrSame : Tryz.f89.body.bind (digC Tryz.prog Tryz.f89.ntmps []) = some c_spec_RrSame := by kernel_rfl
theorem rs_spec_RrSame : resSlots Tryz.prog Tryz.f89 = some [.s 4] := by kernel_rfl
theorem ok_spec_RrSame (a b : Rr) (ha : SmallR a) (hb : SmallR b) :
  FnOK Tryz.prog 89 [.agg (a.cells.map .d), .agg (b.cells.map .d)] (fun ra _ => ra = [.one (.d (.sc (.bool (sameR a b))))]) := by
 refine FnOK.ofK Tryz.func89 (by kernel_rfl) dg_spec_RrSame rs_spec_RrSame rfl rfl ?_
 delta c_spec_RrSame T.o X.i C.g
 refine Kbc (kBox Y Y Y Y Y (kBox Y Y Y Y Y (Ka Y (Kdb (Kc (Ke Y Y Y (Kp (ok_spec_RrOk _ pry) ⟨⟨⟨Y, Y, Y, Y, Y, Y, Y, trivial⟩, leb⟩, trivial⟩ Y Y Y Y Y (Ka Y (kGS Y (fun g0 => Ki Y (Ke Y Y Y (Ki Y (Kp (ok_spec_RrOk _ pry) ⟨⟨⟨Y, Y, Y, Y, Y, Y, Y, trivial⟩, leb⟩, trivial⟩ Y Y Y Y Y (Kk Y (Ka Y (Ka Y (kGS Y (fun g1 => Ki Y (Ke Y Y Y (Ki Y (Ke Y Y Y (Ki Y (Kp (ok_spec_l3cmp _ _ pry pry pry pry) ⟨⟨⟨Y, Y, Y, Y, Y, Y, Y, trivial⟩, leb⟩, ⟨⟨Y, Y, Y, Y, Y, Y, Y, trivial⟩, leb⟩, trivial⟩ Y Y Y Y Y (Ki Y (Kj Y Y Y (Kk Y (Ka Y (Ka Y (Kd (Kr (Er (ra := [.one (.d _)]) rfl ?_)))))))))))))) (fun g1 => Kg Y (Kg Y (Kg Y (Kg Y (Kl Y (Ka Y (Ka Y (Kd (Kr (Er (ra := [.one (.d _)]) rfl ?_)))))))))))))))))) (fun g0 => Kg Y (Kg Y (Kl Y (Ka Y (Ka Y (Kg Y (Kg Y (Kg Y (Kg Y (Kl Y (Ka Y (Ka Y (Kd (Kr (Er (ra := [.one (.d _)]) rfl ?_))))))))))))))))))))))))
 all_goals (refine congrArg (fun z : Bool => [RA.one (RV.d (DV.sc (Value.bool z)))]) ?_; rw [Bool.eq_iff_iff]; simp [sameR, *])

def c_laws_sameRrs : C := (.g (.o 0 4 (.mov (.v (.bool false))) .done) (.seq (.g (.o 0 6 (.mov (.t 0)) (.o 1 7 (.len (.t 6)) (.o 2 8 (.mov (.t 1)) (.o 3 9 (.len (.t 8)) (.o 4 10 (.bin .neq (.t 7) (.t 9)) .done))))) (.cond (.t 10) (.g (.o 0 4 (.mov (.v (.bool false))) .done) .ret) .skip)) (.seq (.g (.o 0 5 (.mov (.i 0)) .done) (.block 0 (.loop (.seq (.g (.o 0 11 (.mov (.t 5)) (.o 1 12 (.mov (.t 0)) (.o 2 13 (.len (.t 12)) (.o 3 14 (.bin .lss (.t 11) (.t 13)) .done)))) (.cond (.t 14) .skip (.exit 0))) (.seq (.block 1 (.seq (.reg true (.op 0 [] (some 17) none true (.mov (.t 0)) (.op 1 [] (some 18) none true (.mov (.t 5)) (.op 2 [] (some 19) none true (.iad 7 (.t 17) (.t 18)) (.op 3 [] (some 20) none true (.load (some 7) (.t 19)) (.op 4 [] (some 21) none true (.mov (.t 1)) (.op 5 [] (some 22) none true (.mov (.t 5)) (.op 6 [] (some 23) none true (.iad 7 (.t 21) (.t 22)) (.op 7 [] (some 24) none true (.load (some 7) (.t 23)) (.op 8 [3, 7] (some 25) none false (.call 25 89 [(.t 20), (.t 24)]) (.op 9 [] (some 26) none true (.un .not (.t 25)) (.op 10 [] (some 27) none true (.mov (.t 26)) (.op 11 [] (some 28) (some (27, false)) true (.mov (.t 0)) (.op 12 [] (some 29) (some (27, false)) true (.mov (.t 5)) (.op 13 [] (some 30) (some (27, false)) true (.iad 7 (.t 28) (.t 29)) (.op 14 [] (some 31) (some (27, false)) true (.fad (.t 30) 2) (.op 15 [] (some 32) (some (27, false)) true (.load none (.t 31)) (.op 16 [] (some 33) (some (27, false)) true (.mov (.t 1)) (.op 17 [] (some 34) (some (27, false)) true (.mov (.t 5)) (.op 18 [] (some 35) (some (27, false)) true (.iad 7 (.t 33) (.t 34)) (.op 19 [] (some 36) (some (27, false)) true (.fad (.t 35) 2) (.op 20 [] (some 37) (some (27, false)) true (.load none (.t 36)) (.op 21 [] (some 38) (some (27, false)) true (.bin .neq (.t 32) (.t 37)) (.op 22 [] (some 39) none true (.pick (.t 27) (.v (.bool true)) (.t 38)) .done)))))))))))))))))))))))) (.cond (.t 39) (.g (.o 0 4 (.mov (.v (.bool false))) .done) .ret) .skip))) (.reg false (.o 0 15 (.mov (.t 5)) (.o 1 16 (.bin .add (.t 15) (.i 1)) (.o 2 5 (.mov (.t 16)) .done))))))))) (.g (.o 0 4 (.mov (.v (.bool true))) .done) .ret))))
theorem dg_laws_sameRrs : Tryz.f50.body.bind (digC Tryz.prog Tryz.f50.ntmps []) = some c_laws_sameRrs := by kernel_rfl
theorem rs_laws_sameRrs : resSlots Tryz.prog Tryz.f50 = some [.s 4] := by kernel_rfl
theorem ok_laws_sameRrs (a b : List Rr) (ha : SmallRs a) (hb : SmallRs b) :
  FnOK Tryz.prog 50 [.one (.d (encR a)), .one (.d (encR b))] (fun ra _ => ra = [.one (.d (.sc (.bool (sameRs a b))))]) := by
 refine FnOK.ofK Tryz.func50 (by kernel_rfl) dg_laws_sameRrs rs_laws_sameRrs rfl rfl ?_
 delta c_laws_sameRrs T.o X.i C.g
 have h1 := ha.len
 have h2 := hb.len
 by_cases hl : a.length = b.length
 case neg =>
  rw [show sameRs a b = false by unfold sameRs; simp [hl]]
  refine Kbc (Ka Y (Kdb (Kbc (Ka Y (Kq Y Y (Ka Y (Kq Y Y (Kj Y Y Y (Kd (kCondIN Y (fun g0 => Kbc (Ka Y (Kd (Kr (Er (ra := [.one (.d _)]) rfl rfl))))) (fun g0 => om)))))))))))
 refine Kbc (Ka Y (Kdb (Kbc (Ka Y (Kq Y Y (Ka Y (Kq Y Y (Kj Y Y Y (Kd (kCondIN Y (fun g0 => om) (fun g0 => Kn (Kb (Kbc (Ka Y (Kd (Kt ?_))))))))))))))))
 refine kLoop (α := { i : Nat // i ≤ a.length ∧ ∀ k < i, same1 a b k = true }) (fun y => ⟨tabSl [(0, .dv (encR a)), (1, .dv (encR b)), (5, .i y.1)], obTab 1 [], []⟩) (fun y => a.length - y.1) ⟨0, by simp⟩ .normA ?_
 rintro ⟨i, hi, hno⟩
 simp only
 rcases Nat.lt_or_ge i a.length with hlt | hge
 ·have hbi := ha.mem _ (List.getElem_mem hlt)
  have hlt2 : i < b.length := by omega
  have hbi2 := hb.mem _ (List.getElem_mem hlt2)
  have hs1 := same1_eq hlt hlt2
  by_cases c1 : sameR a[i] b[i] = true ∧ a[i].ttl = b[i].ttl
  ·obtain ⟨c2, c3⟩ := c1
   refine Kb (Kbc (Ka Y (Ka Y (Kq Y Y (Kj Y Y Y (Kd (Km Y (fun g0 => Kn (Kb (Kt (Kb (kRegD (Ka Y (Ka Y (kIadR Y Y Y prl (Ky Y Y (Ka Y (Ka Y (kIadR Y Y Y prl (Ky Y Y (Ks Y Y (Kp (ok_spec_RrSame _ _ prx prx) ⟨⟨⟨Y, Y, Y, Y, Y, Y, Y, trivial⟩, leb⟩, ⟨⟨Y, Y, Y, Y, Y, Y, Y, trivial⟩, leb⟩, trivial⟩ Y Y Y Y Y (Kw Y Y (Ka Y (kGN Y (fun g1 => (by (simp [*] at g1))) (fun g1 => Ki Y (Ka Y (Ki Y (Ka Y (Ki Y (kIadR Y Y Y prl (Ki Y (kFadD Y (Ki Y (Ky Y Y (Ki Y (Ka Y (Ki Y (Ka Y (Ki Y (kIadR Y Y Y prl (Ki Y (kFadD Y (Ki Y (Ky Y Y (Ki Y (Kj Y Y Y (Kl Y (Ka Y (Kd (kH (kCondIN Y (fun g2 => om) (fun g2 => Kn (Kv (Kc (Ka Y (kAdd Y Y om (Ka Y (Kd ?_)))))))))))))))))))))))))))))))))))))))))))))))))))) (fun g0 => om))))))))
   refine kInv ⟨⟨i + 1, by omega, fun k hk => ?_⟩, by simp only; omega, .normA⟩
   rcases Nat.lt_or_ge k i with h | h
   ·exact hno k h
   ·rw [show k = i by omega, hs1]; simp [c2, c3]
  ·have hf : same1 a b i = false := by rw [hs1]; simpa using c1
   rw [show sameRs a b = false from sameRs_no hlt hf]
   have c4 : ¬ (sameR a[i] b[i] = true ∧ a[i].ttl = b[i].ttl) := c1
   refine Kb (Kbc (Ka Y (Ka Y (Kq Y Y (Kj Y Y Y (Kd (Km Y (fun g0 => Kn (Kb (Kt (Kb (kRegD (Ka Y (Ka Y (kIadR Y Y Y prl (Ky Y Y (Ka Y (Ka Y (kIadR Y Y Y prl (Ky Y Y (Ks Y Y (Kp (ok_spec_RrSame _ _ prx prx) ⟨⟨⟨Y, Y, Y, Y, Y, Y, Y, trivial⟩, leb⟩, ⟨⟨Y, Y, Y, Y, Y, Y, Y, trivial⟩, leb⟩, trivial⟩ Y Y Y Y Y (Kw Y Y (Ka Y (kGN Y (fun g1 => Kg Y (Kg Y (Kg Y (Kg Y (Kg Y (Kg Y (Kg Y (Kg Y (Kg Y (Kg Y (Kg Y (Kk Y (Ka Y (Kd (kH (kCondT Y (Kbc (Ka Y (Kd (Kr (Er (ra := [.one (.d _)]) rfl rfl))))))))))))))))))))) (fun g1 => Ki Y (Ka Y (Ki Y (Ka Y (Ki Y (kIadR Y Y Y prl (Ki Y (kFadD Y (Ki Y (Ky Y Y (Ki Y (Ka Y (Ki Y (Ka Y (Ki Y (kIadR Y Y Y prl (Ki Y (kFadD Y (Ki Y (Ky Y Y (Ki Y (Kj Y Y Y (Kl Y (Ka Y (Kd (kH (kCondIN Y (fun g2 => Kbc (Ka Y (Kd (Kr (Er (ra := [.one (.d _)]) rfl rfl))))) (fun g2 => Kn (Kv (Kc (Ka Y (kAdd Y Y om (Ka Y (Kd ?_)))))))))))))))))))))))))))))))))))))))))))))))))))) (fun g0 => om))))))))
   exact absurd ⟨by assumption, by assumption⟩ c4
 ·have ht : sameRs a b = true := sameRs_yes hl fun k hk => hno k (by omega)
  rw [ht]
  refine Kb (Kbc (Ka Y (Ka Y (Kq Y Y (Kj Y Y Y (Kd (Km Y (fun g0 => om) (fun g0 => kExit (kExC (kExI (kExB (Kbc (Ka Y (Kd (Kr (Er (ra := [.one (.d _)]) rfl rfl))))))))))))))))

def bstN (zs : List Zone) (q : List (List UInt8)) : Nat → Int
 | 0 => 0
 | k + 1 => if underN q (zs.getD (k + 1) emptyZ).origin then ((k + 1 : Nat) : Int) else bstN zs q k
theorem bst_at (a b c : Zone) (q : List (List UInt8)) : ∃ k : Nat, ∃ h : k < ([a, b, c] : List Zone).length, bstN [a, b, c] q 2 = (k : Int) ∧ ([a, b, c] : List Zone)[k] = (if underN q c.origin then c else if underN q b.origin then b else a) := by
 have e : bstN [a, b, c] q 2 = if underN q c.origin then 2 else if underN q b.origin then 1 else 0 := rfl
 rw [e]
 by_cases u2 : underN q c.origin = true
 ·exact ⟨2, Nat.lt_succ_self 2, by rw [if_pos u2]; rfl, by rw [if_pos u2]; rfl⟩
 ·by_cases u1 : underN q b.origin = true
  ·exact ⟨1, by simp, by rw [if_neg u2, if_pos u1]; rfl, by rw [if_neg u2, if_pos u1]; rfl⟩
  ·exact ⟨0, by simp, by rw [if_neg u2, if_neg u1]; rfl, by rw [if_neg u2, if_neg u1]; rfl⟩
def c_laws_FnFinds : C := (.g (.o 0 2 (.mov (.v (.bool false))) .done) (.g (.o 0 15 (.mov (.t 0)) (.o 1 16 (.call 16 44 [(.t 15)]) (.o 2 14 (.mov (.t 16)) (.o 3 17 (.ext (.t 14) 0) (.o 4 18 (.ext (.t 14) 1) (.o 5 19 (.ext (.t 14) 2) (.o 6 20 (.ext (.t 14) 3) (.o 7 21 (.ext (.t 14) 4) (.o 8 6 (.alloc 6 [(.n 1), (.i 0)]) (.o 9 3 (.mov (.t 17)) (.o 10 4 (.mov (.t 18)) (.o 11 5 (.mov (.t 19)) (.op 12 [] none none false (.store (some 2) (.t 6) (.t 20)) (.o 13 7 (.mov (.t 21)) .done)))))))))))))) (.g (.o 0 23 (.mov (.t 3)) (.o 1 24 (.mov (.t 4)) (.o 2 25 (.mov (.t 5)) (.o 3 26 (.load (some 2) (.t 6)) (.o 4 27 (.call 27 45 [(.t 23), (.t 24), (.t 25), (.t 26), (.n 1)]) (.o 5 22 (.mov (.t 27)) (.o 6 28 (.ext (.t 22) 0) (.o 7 29 (.ext (.t 22) 1) (.o 8 8 (.alloc 8 [(.i 0), (.i 0), (.n 1), (.i 0), (.n 1), (.n 1), (.n 1), (.n 1), (.i 0), (.i 0), (.i 0), (.i 0), (.n 7)]) (.op 9 [] none none false (.store (some 13) (.t 8) (.t 28)) (.o 10 9 (.mov (.t 29)) .done))))))))))) (.seq (.g (.o 0 30 (.mov (.t 9)) (.o 1 31 (.un .not (.t 30)) (.o 2 32 (.mov (.t 31)) (.op 3 [] (some 33) (some (32, false)) false (.mov (.t 4)) (.op 4 [] (some 34) (some (32, false)) false (.len (.t 33)) (.op 5 [] (some 35) (some (32, false)) false (.bin .neq (.t 34) (.i 3)) (.o 6 36 (.pick (.t 32) (.v (.bool true)) (.t 35)) (.o 7 37 (.mov (.t 36)) (.op 8 [] (some 38) (some (37, false)) false (.mov (.t 4)) (.op 9 [] (some 39) (some (37, false)) false (.iad 1 (.t 38) (.i 2)) (.op 10 [] (some 40) (some (37, false)) false (.load none (.t 39)) (.op 11 [] (some 41) (some (37, false)) false (.bin .neq (.t 40) (.i 3)) (.o 12 42 (.pick (.t 37) (.v (.bool true)) (.t 41)) (.o 13 43 (.mov (.t 42)) (.op 14 [] (some 44) (some (43, false)) false (.mov (.t 5)) (.op 15 [] (some 45) (some (43, false)) false (.iad 1 (.t 44) (.i 0)) (.op 16 [] (some 46) (some (43, false)) false (.load none (.t 45)) (.op 17 [] (some 47) (some (43, false)) false (.bin .neq (.t 46) (.i 1)) (.o 18 48 (.pick (.t 43) (.v (.bool true)) (.t 47)) .done))))))))))))))))))) (.cond (.t 48) (.g (.o 0 49 (.call 49 46 []) (.o 1 2 (.mov (.t 49)) .done)) .ret) .skip)) (.g (.o 0 10 (.mov (.i 0)) .done) (.seq (.g (.o 0 11 (.mov (.i 1)) .done) (.block 0 (.loop (.seq (.g (.o 0 50 (.mov (.t 11)) (.o 1 51 (.mov (.t 3)) (.o 2 52 (.len (.t 51)) (.o 3 53 (.bin .lss (.t 50) (.t 52)) .done)))) (.cond (.t 53) .skip (.exit 0))) (.seq (.block 1 (.seq (.reg true (.op 0 [] (some 56) none true (.fad (.t 6) 0) (.op 1 [] (some 57) none true (.load (some 1) (.t 56)) (.op 2 [] (some 58) none true (.mov (.t 3)) (.op 3 [] (some 59) none true (.mov (.t 11)) (.op 4 [] (some 60) none true (.iad 2 (.t 58) (.t 59)) (.op 5 [] (some 61) none true (.fad (.t 60) 0) (.op 6 [] (some 62) none true (.load (some 1) (.t 61)) (.op 7 [1, 6] (some 63) none false (.call 63 48 [(.t 57), (.t 62)]) .done))))))))) (.cond (.t 63) (.reg false (.o 0 64 (.mov (.t 11)) (.o 1 10 (.mov (.t 64)) .done))) .skip))) (.reg false (.o 0 54 (.mov (.t 11)) (.o 1 55 (.bin .add (.t 54) (.i 1)) (.o 2 11 (.mov (.t 55)) .done))))))))) (.seq (.reg true (.op 0 [] (some 66) none true (.mov (.t 3)) (.op 1 [] (some 67) none true (.mov (.t 10)) (.op 2 [] (some 68) none true (.iad 2 (.t 66) (.t 67)) (.op 3 [] (some 69) none true (.load (some 2) (.t 68)) (.op 4 [] (some 70) none true (.fad (.t 6) 0) (.op 5 [] (some 71) none true (.load (some 1) (.t 70)) (.op 6 [] (some 72) none true (.fad (.t 6) 1) (.op 7 [] (some 73) none true (.load none (.t 72)) (.op 8 [3, 5, 7] (some 74) none false (.call 74 49 [(.t 69), (.t 71), (.t 73)]) (.op 9 [] (some 65) none true (.mov (.t 74)) (.op 10 [] (some 75) none true (.ext (.t 65) 0) (.op 11 [] (some 76) none true (.ext (.t 65) 1) (.op 12 [] (some 12) none true (.mov (.t 75)) (.op 13 [] (some 13) none true (.mov (.t 76)) .done))))))))))))))) (.seq (.g (.o 0 77 (.mov (.t 13)) (.o 1 78 (.bin .neq (.t 77) (.i 0)) .done)) (.cond (.t 78) (.g (.o 0 79 (.call 79 46 []) (.o 1 80 (.mov (.t 79)) (.op 2 [] (some 81) (some (80, true)) false (.mov (.t 13)) (.op 3 [] (some 82) (some (80, true)) false (.bin .neq (.t 81) (.i 4)) (.op 4 [] (some 83) (some (80, true)) false (.mov (.t 82)) (.op 5 [] (some 84) (some (83, false)) false (.fad (.t 8) 11) (.op 6 [] (some 85) (some (83, false)) false (.load none (.t 84)) (.op 7 [] (some 86) (some (83, false)) false (.bin .eql (.t 85) (.i 3)) (.op 8 [] (some 87) (some (83, false)) false (.mov (.t 86)) (.op 9 [] (some 88) (some (87, true)) false (.fad (.t 8) 12) (.op 10 [] (some 89) (some (87, true)) false (.load none (.t 88)) (.op 11 [] (some 90) (some (87, true)) false (.len (.t 89)) (.op 12 [] (some 91) (some (87, true)) false (.bin .eql (.t 90) (.i 0)) (.op 13 [] (some 92) (some (83, false)) false (.pick (.t 87) (.t 91) (.v (.bool false))) (.op 14 [] (some 93) (some (80, true)) false (.pick (.t 83) (.v (.bool true)) (.t 92)) (.o 15 94 (.pick (.t 80) (.t 93) (.v (.bool false))) (.o 16 2 (.mov (.t 94)) .done))))))))))))))))) .ret) .skip)) (.g (.o 0 95 (.fad (.t 8) 11) (.o 1 96 (.load none (.t 95)) (.o 2 97 (.bin .eql (.t 96) (.i 0)) (.o 3 98 (.mov (.t 97)) (.op 4 [] (some 99) (some (98, true)) false (.fad (.t 8) 12) (.op 5 [] (some 100) (some (98, true)) false (.load none (.t 99)) (.op 6 [] (some 101) (some (98, true)) false (.mov (.t 12)) (.op 7 [] (some 102) (some (98, true)) false (.call 102 50 [(.t 100), (.t 101)]) (.o 8 103 (.pick (.t 98) (.t 102) (.v (.bool false))) (.o 9 2 (.mov (.t 103)) .done)))))))))) .ret)))))))))
theorem dg_laws_FnFinds : Tryz.f8.body.bind (digC Tryz.prog Tryz.f8.ntmps []) = some c_laws_FnFinds := by kernel_rfl
theorem rs_laws_FnFinds : resSlots Tryz.prog Tryz.f8 = some [.s 2] := by kernel_rfl
theorem ok_laws_FnFinds (code : List UInt8) (hb : (code.length : Int) ≤ 9223372036854775807) :
  FnOK Tryz.prog 8 [.one (.d (encB code))] (fun ra _ => ra = [.one (.d (.sc (.bool true)))]) := by
 refine FnOK.ofK Tryz.func8 (by kernel_rfl) dg_laws_FnFinds rs_laws_FnFinds rfl rfl ?_
 delta c_laws_FnFinds T.o X.i C.g
 have hstopo27 := trivial
 refine Kbc (Ka Y (Kdb (Kc (Ka Y (kCallX false (ok_spec_DrawResolve _ prx) ⟨Y, trivial⟩ Y (fun _ => rfl) (fun _ => rfl) (fun x0 _ hx0 => (kMovT Y (kExtC Y Y (kExtC Y Y (kExtC Y Y (kExtC Y Y (kExtC Y Y (kAlloc Y Y (kMem [(69696, ⟨1, 0, .arr true _⟩), (28672, ⟨1, 0, .box [.nil 1, .d _]⟩), (69824, ⟨1, 0, .arr true _⟩), (69888, ⟨1, 0, .arr true _⟩)] [(17, .c (.d _)), (18, .c (.arr 69696 1)), (19, .c (.d _)), (6, .c (.ptr 28672 1 0)), (20, .g [.arr 69824 1, .d _]), (21, .c (.arr 69888 1))] [] ⟨Y, Y, Y, Y, trivial⟩ ⟨Y, Y, Y, Y, Y, Y, trivial⟩ Y (Ka Y (Ka Y (Ka Y (kMem [(28672, ⟨1, 0, .box [.nil 1, .d _]⟩), (69824, ⟨1, 0, .arr true _⟩), (69888, ⟨1, 0, .arr true _⟩)] [(6, .c (.ptr 28672 1 0)), (20, .g [.arr 69824 1, .d _]), (21, .c (.arr 69888 1))] [] ⟨Y, Y, Y, trivial⟩ ⟨Y, Y, Y, trivial⟩ Y (Ko Y Y Y Y (Ka Y (Kdb ?_)))))))))))))))))))))
 clear hstopo27
 obtain ⟨z, at', hints, ⟨q, ty⟩, lost⟩ := x0
 simp only at hx0 ⊢
 obtain ⟨hz3, hat, hhi, ⟨hq, hty⟩, hl⟩ := hx0
 have hzs : ∀ x ∈ ([zRoot, zCom, z] : List Zone), zoneOk x = true := by
  intro x hx
  simp only [List.mem_cons, List.not_mem_nil, or_false] at hx
  rcases hx with rfl | rfl | rfl
  ·exact zRoot_ok
  ·exact zCom_ok
  ·exact hz3.ok
 have hzl : ([zRoot, zCom, z] : List Zone).length ≤ 4194304 := by simp
 have hzl3 : ([zRoot, zCom, z] : List Zone).length = 3 := rfl
 have hmain : hints ∈ [[1], [1, 9]] → ∀ Z : Zone, Z = (if underN q z.origin then z else if underN q zCom.origin then zCom else zRoot) →
  ((lookupN Z q ty).2 = 0 → (resT [zRoot, zCom, z] [1, 2, 3] hints q ty []).code = 0 ∧ (resT [zRoot, zCom, z] [1, 2, 3] hints q ty []).answers = (lookupN Z q ty).1) ∧
  ((lookupN Z q ty).2 = 4 → (resT [zRoot, zCom, z] [1, 2, 3] hints q ty []).code = 3 ∧ (resT [zRoot, zCom, z] [1, 2, 3] hints q ty []).answers = []) := fun hh Z hZ => finds_main hz3 hh hq (by simp only [List.mem_cons, List.not_mem_nil, or_false] at hty ⊢; omega) Z hZ
 have hqn : nameOk q = true := by
  rcases List.mem_append.1 hq with hq | hq
  ·rcases List.mem_append.1 hq with hq | hq
   ·exact (names_u.1 q hq).2.2.1
   ·exact (names_u.2.1 q hq).2.2
  ·exact (names_u.2.2 q hq).2.2
 have htyk : askedT ty = true := by simp only [List.mem_cons, List.not_mem_nil, or_false] at hty; rcases hty with rfl | rfl | rfl | rfl | rfl <;> rfl
 have hat3 : at'.length = 3 := by rcases hat with rfl | rfl | rfl | rfl <;> rfl
 have hh2 : hints.length ≤ 4194304 := by rcases hhi with rfl | rfl <;> decide
 have hh1 : 0 < hints.length := by rcases hhi with rfl | rfl <;> decide
 have hh0 : hints[0] = 1 := by rcases hhi with rfl | rfl <;> rfl
 have hqs := SmallBB.ok hqn
 have hl2 : ([] : List Bool).length ≤ 4194304 := Nat.zero_le _
 have hzm : ∀ x ∈ ([zRoot, zCom, z] : List Zone), SmallZ x := fun x hx => zoneOk_small (hzs x hx)
 obtain ⟨bi, hbi, hb1, hb2⟩ := bst_at zRoot zCom z q
 have hmain2 := fun hh => hmain hh _ hb2
 have hbad : resOk [zRoot, zCom, z] [-1, 2, 3] hints q ty [] = false := by
  unfold resOk worldOk
  rw [show ([-1, 2, 3] : List Int).all isW = false by decide]
  simp
 generalize ([zRoot, zCom, z] : List Zone) = zs at *
 clear hmain hb2 hz3
 refine kSub (Sub.frzBox (rid 6 0) (rid 16 192) 0 rfl rfl rfl rfl rfl) ?_
 refine kSub (Sub.frz (j := 4) rfl rfl (leb)) ?_
 refine Kc (Ka Y (Ka Y (Ka Y (Ke Y Y Y ?_))))
 refine Ku true (ok_impl_Resolve zs at' hints q ty [] hzm hzl om hh2 hqs hl2) ⟨rfl, rfl, rfl, ⟨⟨Y, Y, trivial⟩, leb⟩, rfl, trivial⟩ Y Y Y (fun _ => ?_)
 have hstopo31 := trivial
 refine kMovT Y (kExtC Y Y (kExtC Y Y (kAlloc Y Y (kMem [(36864, ⟨1, 0, .box [.d _, .d _, .nil 1, .d _, .nil 1, .nil 1, .nil 1, .nil 1, .d _, .d _, .d _, .d _, .nil 7]⟩), (114690, ⟨1, 0, .arr true _⟩), (114692, ⟨1, 0, .arr true _⟩), (114693, ⟨1, 0, .arr true _⟩), (114694, ⟨1, 0, .arr true _⟩), (114695, ⟨1, 0, .arr true _⟩), (114700, ⟨1, 0, .arr true _⟩)] [(8, .c (.ptr 36864 1 0)), (28, .g [.d _, .d _, .arr 114690 1, .d _, .arr 114692 1, .arr 114693 1, .arr 114694 1, .arr 114695 1, .d _, .d _, .d _, .d _, .arr 114700 1]), (29, .c (.d _))] [] ⟨Y, Y, Y, Y, Y, Y, Y, trivial⟩ ⟨Y, Y, Y, trivial⟩ Y (Ko Y Y Y Y (Ka Y (Kdb (Kb ?_))))))))
 clear hstopo31
 cases hok : resOk zs at' hints q ty [] with
 | false =>
  have e2 : resN zs at' hints q ty [] = zeroT := by unfold resN; rw [hok]; rfl
  rw [e2]
  refine Kc (Ka Y (Kw Y Y (Ka Y (Kg Y (Kg Y (Kg Y (Kk Y (Ka Y (Ka Y (Kg Y (Kg Y (Kg Y (Kg Y (Kk Y (Ka Y (Ka Y (Kg Y (Kg Y (Kg Y (Kg Y (Kk Y (Ka Y (Kd (kCondT Y (Kbc (Kp (ok_laws_tasks) trivial rfl rfl rfl rfl rfl (Ka Y (Kd (Kr (Er (ra := [.one (.d _)]) rfl rfl))))))))))))))))))))))))))))))
 | true =>
  have e2 : resN zs at' hints q ty [] = resT zs at' hints q ty [] := by unfold resN; rw [hok]; rfl
  obtain ⟨r1, r2, r3⟩ := res_ri hok
  rw [e2]
  have hTa := r3.small.a
  have h2 : at'[2] = 3 → at' = [1, 2, 3] := fun h => by
   rcases hat with rfl | rfl | rfl | rfl
   ·rfl
   ·simp at h
   ·rw [hbad] at hok; cases hok
   ·simp at h
  refine Kc (Ka Y (Kw Y Y (Ka Y (Ki Y (Ka Y (Ki Y (Kq Y Y (Ki Y (Kj Y Y Y (Kl Y (Ka Y (Ka Y (kGIN Y (fun g0 => om) (fun g0 => Ki Y (Ka Y (Ki Y (kIadR (m := 2) Y Y Y prl (Ki Y (Ky Y Y (Ki Y (Kj Y Y Y (Kl Y (Ka Y (Ka Y (kGIN Y (fun g1 => Kg Y (Kg Y (Kg Y (Kg Y (Kk Y (Ka Y (Kd (kCondT Y (Kbc (Kp (ok_laws_tasks) trivial rfl rfl rfl rfl rfl (Ka Y (Kd (Kr (Er (ra := [.one (.d _)]) rfl rfl)))))))))))))) (fun g1 => Ki Y (Ka Y (Ki Y (kIadR (m := 0) Y Y Y prl (Ki Y (Ky Y Y (Ki Y (Kj Y Y Y (Kl Y (Ka Y (Kd (kCondIN Y (fun g2 => om) (fun g2 => Kn (Kbc (Ka Y (Kdb (Kbc (Ka Y (Kd (Kt ?_)))))))))))))))))))))))))))))))))))))))))))))
  refine kSub (Sub.frzBox (rid 8 0) (rid 27 2) 2 rfl rfl rfl rfl rfl) ?_
  refine kSub (Sub.frzBox (rid 8 0) (rid 27 4) 4 rfl rfl rfl rfl rfl) ?_
  refine kSub (Sub.frzBox (rid 8 0) (rid 27 5) 5 rfl rfl rfl rfl rfl) ?_
  refine kSub (Sub.frzBox (rid 8 0) (rid 27 6) 6 rfl rfl rfl rfl rfl) ?_
  refine kSub (Sub.frzBox (rid 8 0) (rid 27 7) 7 rfl rfl rfl rfl rfl) ?_
  refine kSub (Sub.frzBox (rid 8 0) (rid 27 12) 12 rfl rfl rfl rfl rfl) ?_
  have h3 := h2 (by assumption)
  subst h3
  obtain ⟨m1, m2⟩ := hmain2 (by rcases hhi with rfl | rfl <;> simp)
  clear hmain2 hbad e2 r1 r2 r3 h2 hat hok
  generalize resT zs [1, 2, 3] hints q ty [] = T at *
  refine kLoop (α := { j : Nat // j ≤ 2 }) (fun y => ⟨tabSl [(3, .c (.d (encL 2 Zone.cells zs))), (6, .c (.ptr (rid 6 0) 1 0)), (8, .c (.ptr (rid 8 0) 1 0)), (10, .i (bstN zs q y.1)), (11, .i ((y.1 : Int) + 1))], obTab 1 [(rid 6 0, ⟨1, 0, .box [.d (encBB q), .d (.sc (.int .i64 ty))]⟩), (rid 8 0, ⟨1, 0, .box (T.cells.map .d)⟩)], []⟩) (fun y => 2 - y.1) ⟨0, Nat.zero_le _⟩ .normA ?_
  rintro ⟨j, hj⟩
  simp only
  rcases Nat.lt_or_ge j 2 with hlt | hge
  ·have hjz : j + 1 < zs.length := by omega
   have hzj := hzs _ (List.getElem_mem hjz)
   have hzo := (zoneOk_small hzj).o
   have hzn := (zoneP.1 hzj).o
   have hzo1 := hzo.len
   have hzo2 := hzo.mem
   have hq1 := hqs.len
   have hq2 := hqs.mem
   have hg : zs.getD (j + 1) emptyZ = zs[j + 1] := by rw [List.getD_eq_getElem?_getD, List.getElem?_eq_getElem hjz]; rfl
   have hst : bstN zs q (j + 1) = if underN q zs[j + 1].origin then ((j + 1 : Nat) : Int) else bstN zs q j := by rw [← hg]; rfl
   refine Kb (Kbc (Ka Y (Ka Y (Kq Y Y (Kj Y Y Y (Kd (Km Y (fun g0 => Kn (Kb (Kt (Kb (kRegD (Kf Y Y (Ke Y Y Y (Ka Y (Ka Y (kIadR Y Y Y prl (kFadD Y (Ky Y Y (Ks Y Y (Kp (ok_impl_Under _ _ prx prx prx prx) ⟨⟨⟨Y, trivial⟩, leb⟩, ⟨⟨Y, trivial⟩, leb⟩, trivial⟩ Y Y Y Y Y (Kd (kH (kCond Y (fun g1 => Kc (Ka Y (Ka Y (Kd (Kv (Kc (Ka Y (kAdd Y Y om (Ka Y (Kd ?_)))))))))) (fun g1 => Kn (Kv (Kc (Ka Y (kAdd Y Y om (Ka Y (Kd ?_)))))))))))))))))))))))) (fun g0 => om))))))))
   ·refine kInv ⟨⟨j + 1, by omega⟩, by simp only; omega, ?_⟩
    simp only [Bool.and_eq_true] at g1
    rw [hst, if_pos g1.2]
    exact .normA
   ·refine kInv ⟨⟨j + 1, by omega⟩, by simp only; omega, ?_⟩
    rw [hqn, hzn, Bool.true_and, Bool.true_and] at g1
    rw [hst, if_neg (by rw [g1]; decide)]
    exact .normA
  ·have he : j = 2 := by omega
   subst he
   rw [hb1]
   have hzb := hzs _ (List.getElem_mem hbi)
   have hzm' := hzm _ (List.getElem_mem hbi)
   have hlk : lookN zs[bi] q ty = lookupN zs[bi] q ty := by unfold lookN; rw [hzb, hqn, htyk]; rfl
   have hsr : (lookN zs[bi] q ty).2 = 0 → sameRs T.answers (lookN zs[bi] q ty).1 = true := fun h => by
    rw [(m1 (hlk ▸ h)).2, hlk]
    exact sameRs_refl fun r hr => zone_rrs hzb r ((zone_look hzb).2 r hr)
   have hls : SmallRs (lookN zs[bi] q ty).1 := by
    rw [hlk]
    have := zone_look (n := q) (t := ty) hzb
    exact ⟨by omega, fun r hr => rrOk_small (zone_rrs hzb r (this.2 r hr))⟩
   refine Kb (Kbc (Ka Y (Ka Y (Kq Y Y (Kj Y Y Y (Kd (Km Y (fun g0 => om) (fun g0 => kExit (kExC (kExI (kExB (Kb (kRegD (Ka Y (Ka Y (kIadR Y Y Y prl (Ky Y Y (Kf Y Y (Ke Y Y Y (Kf Y Y (kMem [(28672, ⟨1, 0, .box [.d _, .d _]⟩)] [(72, .c (.ptr 28672 1 1)), (69, .g [.d _, .d _]), (71, .g [.d _])] [28672] ⟨Y, trivial⟩ ⟨Y, Y, Y, trivial⟩ Y (Ke Y Y Y (Ks Y Y (Ku true (ok_impl_Lookup _ _ _ prx prx) ⟨⟨⟨Y, Y, trivial⟩, leb⟩, ⟨⟨Y, trivial⟩, leb⟩, rfl, trivial⟩ Y Y Y (fun _ => (kMovT Y (kExtC Y Y (kExtC Y Y (Ka Y (Ka Y (Kd (kH (Kb (Kbc (Ka Y (Kj Y Y Y (Kd (kCondIN Y (fun g1 => Kbc (Kp (ok_laws_tasks) trivial rfl rfl rfl rfl rfl (Ka Y (Ki Y (Ka Y (Ki Y (Kj Y Y Y (Ki Y (Ka Y (kGIN Y (fun g2 => Kg Y (Kg Y (Kg Y (Kg Y (kMem [(36864, ⟨1, 0, .box [.d _, .d _, .d _, .d _, .d _, .d _, .d _, .d _, .d _, .d _, .d _, .d _, .d _]⟩)] [(8, .c (.ptr 36864 1 0)), (87, .c (.un)), (83, .c (.d _)), (80, .c (.d _))] [] ⟨Y, trivial⟩ ⟨Y, Y, Y, Y, trivial⟩ Y (kGU Y (kGU Y (kGU Y (kGU Y (Kg Y (Ki Y (Kk Y (Ka Y (Kk Y (Ka Y (Ka Y (Kd (Kr (Er (ra := [.one (.d _)]) rfl rfl))))))))))))))))))) (fun g2 => Ki Y (Kf Y Y (Ki Y (Ke Y Y Y (Ki Y (Kj Y Y Y (kMem [(36864, ⟨1, 0, .box [.d _, .d _, .d _, .d _, .d _, .d _, .d _, .d _, .d _, .d _, .d _, .d _, .d _]⟩)] [(86, .c (.d _)), (8, .c (.ptr 36864 1 0)), (83, .c (.d _)), (80, .c (.d _))] [] ⟨Y, trivial⟩ ⟨Y, Y, Y, Y, trivial⟩ Y (Ki Y (Ka Y (kGP Y (fun g3 => Ki Y (Kf Y Y (Ki Y (Ke Y Y Y (Ki Y (Kq Y Y (Ki Y (Kj Y Y Y (Ki Y (Kk Y (Ka Y (Ki Y (Kl Y (Ka Y (Kk Y (Ka Y (Ka Y (Kd (Kr (Er (ra := [.one (.d _)]) rfl ?_)))))))))))))))))))) (fun g3 => Kg Y (Kg Y (Kg Y (Kg Y (Ki Y (Kl Y (Ka Y (Ki Y (Kl Y (Ka Y (Kk Y (Ka Y (Ka Y (Kd (Kr (Er (ra := [.one (.d _)]) rfl ?_)))))))))))))))))))))))))))))))))))) (fun g1 => Kn (Kbc (Kf Y Y (Ke Y Y Y (Kj Y Y Y (Ka Y (kGP Y (fun g4 => Ki Y (Kf Y Y (Ki Y (Ke Y Y Y (Ki Y (Ka Y (kMem [(307200, ⟨2, 0, .arr true _⟩)] [(100, .c (.d _)), (101, .c (.arr 307200 2)), (98, .c (.d _))] [] ⟨Y, trivial⟩ ⟨Y, Y, Y, trivial⟩ Y (Ki Y (Kp (ok_laws_sameRrs _ _ prx prx) ⟨Y, Y, trivial⟩ Y Y Y Y Y (Kk Y (Ka Y (Ka Y (Kd (Kr (Er (ra := [.one (.d _)]) rfl ?_))))))))))))))) (fun g4 => Kg Y (Kg Y (Kg Y (Kg Y (Kl Y (Ka Y (Ka Y (Kd (Kr (Er (ra := [.one (.d _)]) rfl ?_)))))))))))))))))))))))))))))))))))))))))))))))))))))))
   ·rw [(m2 (hlk ▸ g2)).2]; rfl
   ·exact absurd (m2 (hlk ▸ g2)).1 g3
   ·rw [hsr g1]
   ·exact absurd (m1 (hlk ▸ g1)).1 g4

end Go.Proofs.YtdfcphdolipapaaGreat.FnFindsFn
