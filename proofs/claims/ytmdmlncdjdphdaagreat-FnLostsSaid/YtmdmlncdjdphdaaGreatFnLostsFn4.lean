/- What the functions that FnLosts reaches compute, one contract each; each with the bounds that it states. -/
import Derived.Test.YtmdmlncdjdphdaaGreatFnLostsFn3
import Derived.Test.YtmdmlncdjdphdaaGreatProg
import Derived.KernelRfl
set_option maxRecDepth 100000
set_option maxHeartbeats 8000000
set_option linter.unusedVariables false
set_option linter.unusedSimpArgs false
namespace Go.Proofs.YtmdmlncdjdphdaaGreat.FnLostsFn
open Go Hearth Go.Proofs

def c_impl_Lost : C := (.g (.o 0 1 (.box 1 (.t 0)) (.o 1 2 (.alloc 2 [(.i 0), (.i 0), (.n 1), (.i 0), (.n 1), (.n 1), (.n 1), (.n 1), (.i 0), (.i 0), (.i 0), (.i 0), (.n 7)]) (.o 2 3 (.mov (.v (.bool false))) .done))) (.seq (.g (.o 0 4 (.load (some 13) (.t 1)) (.o 1 5 (.call 5 35 [(.t 4)]) (.o 2 6 (.un .not (.t 5)) (.o 3 7 (.mov (.t 6)) (.op 4 [] (some 8) (some (7, false)) false (.fad (.t 1) 0) (.op 5 [] (some 9) (some (7, false)) false (.load none (.t 8)) (.op 6 [] (some 10) (some (7, false)) false (.bin .eql (.t 9) (.i 1)) (.o 7 11 (.pick (.t 7) (.v (.bool true)) (.t 10)) .done)))))))) (.cond (.t 11) (.g (.o 0 12 (.build [(.i 0), (.i 0), (.n 1), (.i 0), (.n 1), (.n 1), (.n 1), (.n 1), (.i 0), (.i 0), (.i 0), (.i 0), (.n 7)] []) (.op 1 [] none none false (.store (some 13) (.t 2) (.t 12)) (.o 2 3 (.mov (.v (.bool false))) .done))) .ret) .skip)) (.g (.o 0 13 (.load (some 13) (.t 1)) (.o 1 14 (.call 14 104 [(.t 13)]) (.o 2 15 (.call 15 105 [(.t 14)]) (.op 3 [] none none false (.store (some 13) (.t 2) (.t 15)) (.o 4 3 (.mov (.v (.bool true))) .done))))) .ret)))
theorem dg_impl_Lost : Tryz.f33.body.bind (digC Tryz.prog Tryz.f33.ntmps []) = some c_impl_Lost := by kernel_rfl
theorem rs_impl_Lost : resSlots Tryz.prog Tryz.f33 = some [.m 2 (some 13), .s 3] := by kernel_rfl
theorem ok_impl_Lost (t : Task) (hs : SmallT t) :
    FnOK Tryz.prog 33 [.agg (t.cells.map .d)] (fun ra _ => ra = [.agg [.d (.sc (.int .i64 (lostN t).state)), .d (.sc (.int .i64 (lostN t).id)), .own true (encBB (lostN t).fname), .d (.sc (.int .i64 (lostN t).ftype)), .own true (encBB (lostN t).name), .own true (encBB (lostN t).zone), .own true (encI (lostN t).hints), .own true (encI (lostN t).servers), .d (.sc (.int .i64 (lostN t).turn)), .d (.sc (.int .i64 (lostN t).sends)), .d (.sc (.int .i64 (lostN t).steps)), .d (.sc (.int .i64 (lostN t).code)), .own true (encR (lostN t).answers)], .one (.d (.sc (.bool (lostOk t))))]) := by
  refine FnOK.ofK Tryz.func33 (by kernel_rfl) dg_impl_Lost rs_impl_Lost rfl rfl ?_
  delta c_impl_Lost T.o X.i C.g
  have hl := hs.lost
  cases h1 : taskOk t
  · rw [show lostN t = zeroT by unfold lostN lostOk; rw [h1]; rfl, show lostOk t = false by unfold lostOk; rw [h1]; rfl]
    refine Kbc (kBox Y Y Y Y Y (kAlloc Y Y (Ka Y (Kdb (Kbc (Ke Y Y Y (Kp (ok_impl_TaskOk _ prx) ⟨⟨⟨Y, Y, Y, Y, Y, Y, Y, Y, Y, Y, Y, Y, Y, trivial⟩, leb⟩, trivial⟩ Y Y Y Y Y (Kw Y Y (Ka Y (kGN Y (fun g0 => Kg Y (Kg Y (Kg Y (Kk Y (Ka Y (Kd (kCondT Y (Kbc (kBuildG Y (Ko Y Y Y Y (Ka Y (Kd (Kr (Er (ra := [.agg [(.d _), (.d _), (.own true _), (.d _), (.own true _), (.own true _), (.own true _), (.own true _), (.d _), (.d _), (.d _), (.d _), (.own true _)], .one (.d _)]) rfl rfl)))))))))))))) (fun g0 => (by (simp [*] at g0)))))))))))))
  obtain ⟨f1, f2, f3, f4, f5, f6, f7⟩ := taskOk_facts h1
  by_cases h2 : t.state = 1
  · rw [show lostN t = zeroT by unfold lostN lostOk; rw [h2]; simp, show lostOk t = false by unfold lostOk; rw [h2]; simp]
    refine Kbc (kBox Y Y Y Y Y (kAlloc Y Y (Ka Y (Kdb (Kbc (Ke Y Y Y (Kp (ok_impl_TaskOk _ prx) ⟨⟨⟨Y, Y, Y, Y, Y, Y, Y, Y, Y, Y, Y, Y, Y, trivial⟩, leb⟩, trivial⟩ Y Y Y Y Y (Kw Y Y (Ka Y (kGN Y (fun g0 => (by (simp [*] at g0))) (fun g0 => Ki Y (Kf Y Y (Ki Y (Ke Y Y Y (Ki Y (Kj Y Y Y (Kl Y (Ka Y (Kd (Km Y (fun g1 => Kbc (kBuildG Y (Ko Y Y Y Y (Ka Y (Kd (Kr (Er (ra := [.agg [(.d _), (.d _), (.own true _), (.d _), (.own true _), (.own true _), (.own true _), (.own true _), (.d _), (.d _), (.d _), (.d _), (.own true _)], .one (.d _)]) rfl rfl))))))) (fun g1 => om)))))))))))))))))))))
  obtain ⟨f8, f9⟩ := f7 h2
  rw [show lostN t = lostT t by unfold lostN lostOk; rw [h1]; simp [h2], show lostOk t = true by unfold lostOk; rw [h1]; simp [h2]]
  refine Kbc (kBox Y Y Y Y Y (kAlloc Y Y (Ka Y (Kdb (Kbc (Ke Y Y Y (Kp (ok_impl_TaskOk _ prx) ⟨⟨⟨Y, Y, Y, Y, Y, Y, Y, Y, Y, Y, Y, Y, Y, trivial⟩, leb⟩, trivial⟩ Y Y Y Y Y (Kw Y Y (Ka Y (kGN Y (fun g0 => (by (simp [*] at g0))) (fun g0 => Ki Y (Kf Y Y (Ki Y (Ke Y Y Y (Ki Y (Kj Y Y Y (Kl Y (Ka Y (Kd (Km Y (fun g1 => om) (fun g1 => Kn (Kbc (Ke Y Y Y (kCallD2 (ok_impl_Task_lost _ prx prx prx) ⟨⟨⟨Y, Y, Y, Y, Y, Y, Y, Y, Y, Y, Y, Y, Y, trivial⟩, leb⟩, trivial⟩ Y Y Y Y (Ku true (ok_impl_Task_copied _ prx) ⟨⟨⟨Y, Y, Y, Y, Y, Y, Y, Y, Y, Y, Y, Y, Y, trivial⟩, leb⟩, trivial⟩ Y Y Y (fun _ => (Ko Y Y Y Y (Ka Y (Kd (Kr (Er (ra := [.agg [(.d _), (.d _), (.own true _), (.d _), (.own true _), (.own true _), (.own true _), (.own true _), (.d _), (.d _), (.d _), (.d _), (.own true _)], .one (.d _)]) rfl rfl)))))))))))))))))))))))))))))))

def c_laws_name : C := (.g (.o 0 2 (.alloc 2 [(.n 1)]) .done) (.g (.o 0 6 (.mov (.t 0)) (.o 1 7 (.s2b (.t 6)) (.o 2 8 (.call 8 170 [(.t 7)]) (.o 3 5 (.mov (.t 8)) (.o 4 9 (.ext (.t 5) 0) (.o 5 10 (.ext (.t 5) 1) (.o 6 3 (.alloc 3 [(.n 1)]) (.op 7 [] none none false (.store (some 1) (.t 3) (.t 9)) (.o 8 4 (.mov (.t 10)) .done))))))))) (.g (.o 0 11 (.load (some 1) (.t 3)) (.op 1 [] none none false (.store (some 1) (.t 2) (.t 11)) .done)) .ret)))
theorem dg_laws_name : Tryz.f79.body.bind (digC Tryz.prog Tryz.f79.ntmps []) = some c_laws_name := by kernel_rfl
theorem rs_laws_name : resSlots Tryz.prog Tryz.f79 = some [.m 2 (some 1)] := by kernel_rfl
theorem ok_laws_name (b : ByteArray) (hb : b.size ≤ 4194303) :
    FnOK Tryz.prog 79 [.one (.d (.sc (.string b)))] (fun ra _ => ra = [.agg [.own true (encBB (readN b.toList))]]) := by
  refine FnOK.ofK Tryz.func79 (by kernel_rfl) dg_laws_name rs_laws_name rfl rfl ?_
  delta c_laws_name T.o X.i C.g
  have h : b.toList.length ≤ 4194303 := by rw [bt_len]; exact hb
  refine Kbc (kAlloc Y Y (Kdb (Kc (Ka Y (kS2b Y om (Ku true (ok_spec_NameRead _ pry) ⟨Y, trivial⟩ Y Y Y (fun _ => (kMovT Y (kExtC Y Y (kExtC Y Y (kAlloc Y Y (Ko Y Y Y Y (Ka Y (Kdb (Kc (Ke Y Y Y (Ko Y Y Y Y (Kd (Kr (Er (ra := [.agg [(.own true _)]]) rfl rfl))))))))))))))))))))

def c_impl_Begin : C := (.g (.o 0 3 (.box 3 (.t 0)) (.o 1 6 (.alloc 6 [(.i 0), (.i 0), (.n 1), (.i 0), (.n 1), (.n 1), (.n 1), (.n 1), (.i 0), (.i 0), (.i 0), (.i 0), (.n 7)]) (.o 2 7 (.mov (.v (.bool false))) .done))) (.g (.o 0 9 (.mov (.t 2)) (.o 1 10 (.load (some 2) (.t 3)) (.o 2 11 (.fad (.t 3) 0) (.o 3 12 (.load (some 1) (.t 11)) (.o 4 13 (.mov (.t 1)) (.o 5 14 (.mov (.t 1)) (.o 6 15 (.build [(.i 0), (.i 0), (.n 1), (.i 0), (.n 1), (.n 1), (.n 1), (.n 1), (.i 0), (.i 0), (.i 0), (.i 0), (.n 7)] [(1, 1, (.t 9)), (2, 2, (.t 10)), (4, 1, (.t 12)), (6, 1, (.t 13)), (7, 1, (.t 14))]) (.o 7 8 (.alloc 8 [(.i 0), (.i 0), (.n 1), (.i 0), (.n 1), (.n 1), (.n 1), (.n 1), (.i 0), (.i 0), (.i 0), (.i 0), (.n 7)]) (.op 8 [] none none false (.store (some 13) (.t 8) (.t 15)) .done))))))))) (.seq (.g (.o 0 16 (.load (some 13) (.t 8)) (.o 1 17 (.call 17 35 [(.t 16)]) (.o 2 18 (.un .not (.t 17)) .done))) (.cond (.t 18) (.g (.o 0 19 (.build [(.i 0), (.i 0), (.n 1), (.i 0), (.n 1), (.n 1), (.n 1), (.n 1), (.i 0), (.i 0), (.i 0), (.i 0), (.n 7)] []) (.op 1 [] none none false (.store (some 13) (.t 6) (.t 19)) (.o 2 7 (.mov (.v (.bool false))) .done))) .ret) .skip)) (.g (.o 0 20 (.load (some 13) (.t 8)) (.o 1 21 (.call 21 105 [(.t 20)]) (.op 2 [] none none false (.store (some 13) (.t 6) (.t 21)) (.o 3 7 (.mov (.v (.bool true))) .done)))) .ret))))
theorem dg_impl_Begin : Tryz.f106.body.bind (digC Tryz.prog Tryz.f106.ntmps []) = some c_impl_Begin := by kernel_rfl
theorem rs_impl_Begin : resSlots Tryz.prog Tryz.f106 = some [.m 6 (some 13), .s 7] := by kernel_rfl
theorem ok_impl_Begin (q : List (List UInt8)) (ty : Int) (h : List Int) (id : Int) (hq : SmallBB q) (hh : h.length ≤ 4194304) :
    FnOK Tryz.prog 106 [.agg [.d (encBB q), .d (.sc (.int .i64 ty))], .one (.d (encI h)), .one (.d (.sc (.int .i64 id)))] (fun ra _ => ra = [.agg [.d (.sc (.int .i64 (beginN q ty h id).state)), .d (.sc (.int .i64 (beginN q ty h id).id)), .own true (encBB (beginN q ty h id).fname), .d (.sc (.int .i64 (beginN q ty h id).ftype)), .own true (encBB (beginN q ty h id).name), .own true (encBB (beginN q ty h id).zone), .own true (encI (beginN q ty h id).hints), .own true (encI (beginN q ty h id).servers), .d (.sc (.int .i64 (beginN q ty h id).turn)), .d (.sc (.int .i64 (beginN q ty h id).sends)), .d (.sc (.int .i64 (beginN q ty h id).steps)), .d (.sc (.int .i64 (beginN q ty h id).code)), .own true (encR (beginN q ty h id).answers)], .one (.d (.sc (.bool (taskOk (askT q ty h id)))))]) := by
  refine FnOK.ofK Tryz.func106 (by kernel_rfl) dg_impl_Begin rs_impl_Begin rfl rfl ?_
  delta c_impl_Begin T.o X.i C.g
  have hs : SmallT (askT q ty h id) := ⟨hq, hq, .nil, hh, hh, ⟨Nat.zero_le _, nofun⟩⟩
  refine Kb (kCut ⟨tabSl [(1, .dv (encI h)), (2, .i id), (3, .c (.ptr (rid 3 0) 1 0)), (6, .c (.ptr (rid 6 0) 1 0)), (7, .b false)], obTab 1 [(rid 3 0, ⟨1, 0, .box [.d (encBB q), .d (.sc (.int .i64 ty))]⟩), (rid 6 0, ⟨1, 0, .box [.d (.sc (.int .i64 0)), .d (.sc (.int .i64 0)), .nil 1, .d (.sc (.int .i64 0)), .nil 1, .nil 1, .nil 1, .nil 1, .d (.sc (.int .i64 0)), .d (.sc (.int .i64 0)), .d (.sc (.int .i64 0)), .d (.sc (.int .i64 0)), .nil 7]⟩)], []⟩ ?_ (fun x hc => ?_))
  case refine_2 => refine kReg (kBox rfl rfl rfl rfl rfl (kAlloc rfl rfl (kMovC rfl (kDone (kMem [(16384, ⟨1, 0, .box [.d _, .d _]⟩), (28672, ⟨1, 0, .box [.d _, .d _, .nil 1, .d _, .nil 1, .nil 1, .nil 1, .nil 1, .d _, .d _, .d _, .d _, .nil 7]⟩)] [(1, .c (.d _)), (2, .c (.d _)), (3, .c (.ptr 16384 1 0)), (6, .c (.ptr 28672 1 0)), (7, .c (.d _))] [] ⟨rfl, rfl, trivial⟩ ⟨rfl, rfl, rfl, rfl, rfl, trivial⟩ rfl (hc _ .normA))))))
  refine Kb (kCut ⟨tabSl [(6, .c (.ptr (rid 6 0) 1 0)), (7, .b false), (8, .c (.ptr (rid 8 0) 1 0))], obTab 1 [(rid 6 0, ⟨1, 0, .box [.d (.sc (.int .i64 0)), .d (.sc (.int .i64 0)), .nil 1, .d (.sc (.int .i64 0)), .nil 1, .nil 1, .nil 1, .nil 1, .d (.sc (.int .i64 0)), .d (.sc (.int .i64 0)), .d (.sc (.int .i64 0)), .d (.sc (.int .i64 0)), .nil 7]⟩), (rid 8 0, ⟨1, 0, .box ((askT q ty h id).cells.map .d)⟩)], []⟩ ?_ (fun x hc => ?_))
  case refine_2 => refine kReg (kMovC rfl (kLoadP rfl rfl rfl (kFadP rfl rfl (kLoadP rfl rfl rfl (kMovC rfl (kMovC rfl (kBuildG rfl (kAlloc rfl rfl (kMem [(36864, ⟨2, 0, .box [.d _, .d _, .nil 1, .d _, .nil 1, .nil 1, .nil 1, .nil 1, .d _, .d _, .d _, .d _, .nil 7]⟩)] [(8, .c (.ptr 36864 2 0)), (15, .g [.d _, .d _, .d _, .d _, .d _, .nil 1, .d _, .d _, .d _, .d _, .d _, .d _, .nil 7])] [] ⟨rfl, trivial⟩ ⟨rfl, rfl, trivial⟩ rfl (kStoreP rfl rfl rfl rfl (kDone (kMem [(28672, ⟨1, 0, .box [.d _, .d _, .nil 1, .d _, .nil 1, .nil 1, .nil 1, .nil 1, .d _, .d _, .d _, .d _, .nil 7]⟩), (36864, ⟨2, 0, .box [.d _, .d _, .d _, .d _, .d _, .nil 1, .d _, .d _, .d _, .d _, .d _, .d _, .nil 7]⟩)] [(6, .c (.ptr 28672 1 0)), (7, .c (.d _)), (8, .c (.ptr 36864 2 0))] [] ⟨rfl, rfl, trivial⟩ ⟨rfl, rfl, rfl, trivial⟩ rfl (hc _ .normA)))))))))))))
  cases hok : taskOk (askT q ty h id)
  · rw [show beginN q ty h id = zeroT by unfold beginN; rw [hok]; rfl]
    refine Kb (Kbc (Ke Y Y Y (Kp (ok_impl_TaskOk _ pr) ⟨⟨⟨Y, Y, Y, Y, Y, Y, Y, Y, Y, Y, Y, Y, Y, trivial⟩, leb⟩, trivial⟩ Y Y Y Y Y (Kw Y Y (Kd (kCondN Y (fun g0 => Kbc (kMem [(28672, ⟨1, 0, .box [.d _, .d _, .nil 1, .d _, .nil 1, .nil 1, .nil 1, .nil 1, .d _, .d _, .d _, .d _, .nil 7]⟩)] [(6, .c (.ptr 28672 1 0))] [] ⟨Y, trivial⟩ ⟨Y, trivial⟩ Y (kBuildG Y (kMem [(28672, ⟨1, 0, .box [.d _, .d _, .nil 1, .d _, .nil 1, .nil 1, .nil 1, .nil 1, .d _, .d _, .d _, .d _, .nil 7]⟩)] [(6, .c (.ptr 28672 1 0)), (19, .g [.d _, .d _, .nil 1, .d _, .nil 1, .nil 1, .nil 1, .nil 1, .d _, .d _, .d _, .d _, .nil 7])] [] ⟨Y, trivial⟩ ⟨Y, Y, trivial⟩ Y (Ko Y Y Y Y (Ka Y (Kd (kMem [(28672, ⟨1, 0, .box [.d _, .d _, .nil 1, .d _, .nil 1, .nil 1, .nil 1, .nil 1, .d _, .d _, .d _, .d _, .nil 7]⟩)] [(6, .c (.ptr 28672 1 0)), (7, .c (.d _))] [] ⟨Y, trivial⟩ ⟨Y, Y, trivial⟩ Y (Kr (Er (ra := [.agg [(.d _), (.d _), (.own true _), (.d _), (.own true _), (.own true _), (.own true _), (.own true _), (.d _), (.d _), (.d _), (.d _), (.own true _)], .one (.d _)]) rfl rfl)))))))))) (fun g0 => (by (simp [*] at g0)))))))))
  · rw [show beginN q ty h id = askT q ty h id by unfold beginN; rw [hok]; rfl]
    refine Kb (Kbc (Ke Y Y Y (Kp (ok_impl_TaskOk _ pr) ⟨⟨⟨Y, Y, Y, Y, Y, Y, Y, Y, Y, Y, Y, Y, Y, trivial⟩, leb⟩, trivial⟩ Y Y Y Y Y (Kw Y Y (Kd (kCondN Y (fun g0 => (by (simp [*] at g0))) (fun g0 => Kn (Kbc (Ke Y Y Y (Ku true (ok_impl_Task_copied _ pr) ⟨⟨⟨Y, Y, Y, Y, Y, Y, Y, Y, Y, Y, Y, Y, Y, trivial⟩, leb⟩, trivial⟩ Y Y Y (fun _ => (kMem [(28672, ⟨1, 0, .box [.d _, .d _, .nil 1, .d _, .nil 1, .nil 1, .nil 1, .nil 1, .d _, .d _, .d _, .d _, .nil 7]⟩), (90114, ⟨2, 0, .arr true _⟩), (90116, ⟨2, 0, .arr true _⟩), (90117, ⟨2, 0, .arr true _⟩), (90118, ⟨2, 0, .arr true _⟩), (90119, ⟨2, 0, .arr true _⟩), (90124, ⟨2, 0, .arr true _⟩)] [(6, .c (.ptr 28672 1 0)), (21, .g [.d _, .d _, .arr 90114 2, .d _, .arr 90116 2, .arr 90117 2, .arr 90118 2, .arr 90119 2, .d _, .d _, .d _, .d _, .arr 90124 2])] [] ⟨Y, Y, Y, Y, Y, Y, Y, trivial⟩ ⟨Y, Y, trivial⟩ Y (Ko Y Y Y Y (Ka Y (Kd (kMem [(28672, ⟨1, 0, .box [.d _, .d _, .arr 90114 2, .d _, .arr 90116 2, .arr 90117 2, .arr 90118 2, .arr 90119 2, .d _, .d _, .d _, .d _, .arr 90124 2]⟩), (90114, ⟨2, 0, .arr true _⟩), (90116, ⟨2, 0, .arr true _⟩), (90117, ⟨2, 0, .arr true _⟩), (90118, ⟨2, 0, .arr true _⟩), (90119, ⟨2, 0, .arr true _⟩), (90124, ⟨2, 0, .arr true _⟩)] [(6, .c (.ptr 28672 1 0)), (7, .c (.d _))] [] ⟨Y, Y, Y, Y, Y, Y, Y, trivial⟩ ⟨Y, Y, trivial⟩ Y (Kr (Er (ra := [.agg [(.d _), (.d _), (.own true _), (.d _), (.own true _), (.own true _), (.own true _), (.own true _), (.d _), (.d _), (.d _), (.d _), (.own true _)], .one (.d _)]) rfl rfl))))))))))))))))))

def c_impl_Task_question : C := (.g (.o 0 1 (.box 1 (.t 0)) (.o 1 2 (.alloc 2 [(.i 0), (.v (.bool false)), (.i 0), (.v (.bool false)), (.i 0), (.n 2), (.n 7), (.n 7), (.n 7), (.n 9), (.n 9)]) .done)) (.seq (.reg true (.op 0 [] (some 3) none true (.fad (.t 1) 1) (.op 1 [] (some 4) none true (.load none (.t 3)) (.op 2 [] (some 5) none true (.fad (.t 1) 4) (.op 3 [] (some 6) none true (.load (some 1) (.t 5)) (.op 5 [] (some 8) none true (.fad (.t 1) 2) (.op 6 [] (some 9) none true (.fad (.t 8) 1) (.op 7 [] (some 10) none true (.load none (.t 9)) (.op 4 [3] (some 7) none false (.call 7 151 [(.t 6)]) (.op 8 [] (some 11) none true (.build [(.n 1), (.i 0)] [(0, 1, (.t 7)), (1, 1, (.t 10))]) (.op 9 [3, 7] (some 12) none false (.lit 12 2 [(.n 1), (.i 0)] 1 [(0, 2, (.t 11))]) (.op 10 [] (some 13) none true (.build [(.i 0), (.v (.bool false)), (.i 0), (.v (.bool false)), (.i 0), (.n 2), (.n 7), (.n 7), (.n 7), (.n 9), (.n 9)] [(0, 1, (.t 4)), (5, 1, (.t 12))]) (.op 11 [1, 3, 7] none none false (.store (some 11) (.t 2) (.t 13)) .done))))))))))))) .ret))
theorem dg_impl_Task_question : Tryz.f189.body.bind (digC Tryz.prog Tryz.f189.ntmps []) = some c_impl_Task_question := by kernel_rfl
theorem rs_impl_Task_question : resSlots Tryz.prog Tryz.f189 = some [.m 2 (some 11)] := by kernel_rfl
theorem ok_impl_Task_question (t : Task) (hs : SmallT t) :
    FnOK Tryz.prog 189 [.agg (t.cells.map .d)] (fun ra _ => ra = [.agg [.d (.sc (.int .i64 t.id)), .d (.sc (.bool false)), .d (.sc (.int .i64 0)), .d (.sc (.bool false)), .d (.sc (.int .i64 0)), .own true (encQ [⟨t.name, t.ftype⟩]), .own true (encR []), .own true (encR []), .own true (encR []), .own true nilW, .own true nilW]]) := by
  refine FnOK.ofK Tryz.func189 (by kernel_rfl) dg_impl_Task_question rs_impl_Task_question rfl rfl ?_
  delta c_impl_Task_question T.o X.i C.g
  have n1 := hs.n.len
  have n2 := hs.n.mem
  refine Kbc (kBox Y Y Y Y Y (kAlloc Y Y (Kdb (kRegD (Kf Y Y (Ke Y Y Y (Kf Y Y (Ke Y Y Y (Kf Y Y (Kf Y Y (kMem [(8192, ⟨1, 0, .box [.d _, .d _, .d _, .d _, .d _, .d _, .d _, .d _, .d _, .d _, .d _, .d _, .d _]⟩), (12288, ⟨1, 0, .box [.d _, .d _, .d _, .d _, .d _, .nil 2, .nil 7, .nil 7, .nil 7, .nil 9, .nil 9]⟩)] [(9, .c (.ptr 8192 1 3)), (6, .g [.d _]), (7, .c (.un)), (10, .c (.un)), (11, .c (.un)), (4, .c (.d _)), (12, .c (.un)), (2, .c (.ptr 12288 1 0)), (13, .c (.un))] [8192, 8192] ⟨Y, Y, trivial⟩ ⟨Y, Y, Y, Y, Y, Y, Y, Y, Y, trivial⟩ Y (Ke Y Y Y (Kx Y Y (Ku true (ok_impl_Name_copied _ pr pr) ⟨⟨⟨Y, trivial⟩, leb⟩, trivial⟩ Y Y Y (fun _ => (kMem [(32768, ⟨1, 0, .arr true _⟩), (12288, ⟨1, 0, .box [.d _, .d _, .d _, .d _, .d _, .nil 2, .nil 7, .nil 7, .nil 7, .nil 9, .nil 9]⟩)] [(7, .g [.arr 32768 1]), (10, .c (.d _)), (11, .c (.un)), (4, .c (.d _)), (12, .c (.un)), (2, .c (.ptr 12288 1 0)), (13, .c (.un))] [8192, 8192, 8192] ⟨Y, Y, trivial⟩ ⟨Y, Y, Y, Y, Y, Y, Y, trivial⟩ Y (kBuildG Y (Kx Y Y (kLit Y Y Y Y (kMem [(53248, ⟨1, 0, .arr true _⟩), (12288, ⟨1, 0, .box [.d _, .d _, .d _, .d _, .d _, .nil 2, .nil 7, .nil 7, .nil 7, .nil 9, .nil 9]⟩)] [(4, .c (.d _)), (12, .c (.arr 53248 1)), (2, .c (.ptr 12288 1 0)), (13, .c (.un))] [8192, 8192, 8192] ⟨Y, Y, trivial⟩ ⟨Y, Y, Y, Y, trivial⟩ Y (kBuildG Y (kMem [(12288, ⟨1, 0, .box [.d _, .d _, .d _, .d _, .d _, .nil 2, .nil 7, .nil 7, .nil 7, .nil 9, .nil 9]⟩), (53248, ⟨1, 0, .arr true _⟩)] [(2, .c (.ptr 12288 1 0)), (13, .g [.d _, .d _, .d _, .d _, .d _, .arr 53248 1, .nil 7, .nil 7, .nil 7, .nil 9, .nil 9])] [8192, 8192, 8192] ⟨Y, Y, trivial⟩ ⟨Y, Y, trivial⟩ Y (Ks Y Y (Ko Y Y Y Y (Kd (kH (kMem [(12288, ⟨1, 0, .box [.d _, .d _, .d _, .d _, .d _, .arr 53248 1, .nil 7, .nil 7, .nil 7, .nil 9, .nil 9]⟩), (53248, ⟨1, 0, .arr true _⟩)] [(2, .c (.ptr 12288 1 0))] [] ⟨Y, Y, trivial⟩ ⟨Y, trivial⟩ Y (Kr (Er (ra := [.agg [(.d _), (.d _), (.d _), (.d _), (.d _), (.own true _), (.own true _), (.own true _), (.own true _), (.own true _), (.own true _)]]) rfl rfl)))))))))))))))))))))))))))))

def c_impl_AskOf : C := (.g (.o 0 1 (.box 1 (.t 0)) (.o 1 2 (.mov (.i 0)) (.o 2 3 (.alloc 3 [(.i 0), (.v (.bool false)), (.i 0), (.v (.bool false)), (.i 0), (.n 2), (.n 7), (.n 7), (.n 7), (.n 9), (.n 9)]) (.o 3 4 (.mov (.v (.bool false))) .done)))) (.seq (.g (.o 0 5 (.load (some 13) (.t 1)) (.o 1 6 (.call 6 35 [(.t 5)]) (.o 2 7 (.un .not (.t 6)) (.o 3 8 (.mov (.t 7)) (.op 4 [] (some 9) (some (8, false)) false (.fad (.t 1) 0) (.op 5 [] (some 10) (some (8, false)) false (.load none (.t 9)) (.op 6 [] (some 11) (some (8, false)) false (.bin .eql (.t 10) (.i 1)) (.o 7 12 (.pick (.t 8) (.v (.bool true)) (.t 11)) .done)))))))) (.cond (.t 12) (.g (.o 0 13 (.build [(.i 0), (.v (.bool false)), (.i 0), (.v (.bool false)), (.i 0), (.n 2), (.n 7), (.n 7), (.n 7), (.n 9), (.n 9)] []) (.o 1 2 (.mov (.i 0)) (.op 2 [] none none false (.store (some 11) (.t 3) (.t 13)) (.o 3 4 (.mov (.v (.bool false))) .done)))) .ret) .skip)) (.seq (.reg true (.op 0 [] (some 14) none true (.fad (.t 1) 7) (.op 1 [] (some 15) none true (.load none (.t 14)) (.op 2 [] (some 16) none true (.fad (.t 1) 8) (.op 3 [] (some 17) none true (.load none (.t 16)) (.op 4 [] (some 18) none true (.iad 1 (.t 15) (.t 17)) (.op 5 [] (some 19) none true (.load none (.t 18)) (.op 6 [] (some 20) none true (.load (some 13) (.t 1)) (.op 7 [6] (some 21) none false (.call 21 189 [(.t 20)]) (.op 8 [] (some 2) none true (.mov (.t 19)) (.op 9 [6, 5, 1, 3] none none false (.store (some 11) (.t 3) (.t 21)) (.op 10 [] (some 4) none true (.mov (.v (.bool true))) .done)))))))))))) .ret)))
theorem dg_impl_AskOf : Tryz.f107.body.bind (digC Tryz.prog Tryz.f107.ntmps []) = some c_impl_AskOf := by kernel_rfl
theorem rs_impl_AskOf : resSlots Tryz.prog Tryz.f107 = some [.s 2, .m 3 (some 11), .s 4] := by kernel_rfl
theorem ok_impl_AskOf (t : Task) (hs : SmallT t) :
    FnOK Tryz.prog 107 [.agg (t.cells.map .d)] (fun ra _ => ra = [.one (.d (.sc (.int .i64 (askIp t)))), .agg [.d (.sc (.int .i64 (askId t))), .d (.sc (.bool false)), .d (.sc (.int .i64 0)), .d (.sc (.bool false)), .d (.sc (.int .i64 0)), .own true (encQ (askQs t)), .own true (encR []), .own true (encR []), .own true (encR []), .own true nilW, .own true nilW], .one (.d (.sc (.bool (askOk t))))]) := by
  refine FnOK.ofK Tryz.func107 (by kernel_rfl) dg_impl_AskOf rs_impl_AskOf rfl rfl ?_
  delta c_impl_AskOf T.o X.i C.g
  have s1 := hs.s
  cases h : askOk t
  · rw [show askIp t = 0 by simp [askIp, h], show askId t = 0 by simp [askId, h], show askQs t = [] by simp [askQs, h]]
    unfold askOk at h
    refine Kbc (kBox Y Y Y Y Y (Ka Y (kAlloc Y Y (Ka Y (Kdb (Kbc (Ke Y Y Y (Kp (ok_impl_TaskOk _ pr) ⟨⟨⟨Y, Y, Y, Y, Y, Y, Y, Y, Y, Y, Y, Y, Y, trivial⟩, leb⟩, trivial⟩ Y Y Y Y Y (Kw Y Y (Ka Y (kGN Y (fun g0 => (Kg Y (Kg Y (Kg Y (Kk Y (Ka Y (Kd (kCondT Y (Kbc (kBuildG Y (Ka Y (Ko Y Y Y Y (Ka Y (Kd (Kr (Er (ra := [.one (.d _), .agg [(.d _), (.d _), (.d _), (.d _), (.d _), (.own true _), (.own true _), (.own true _), (.own true _), (.own true _), (.own true _)], .one (.d _)]) rfl rfl)))))))))))))))) (fun g0 => (Ki Y (Kf Y Y (Ki Y (Ke Y Y Y (Ki Y (Kj Y Y Y (Kl Y (Ka Y (Kd (Km Y (fun g1 => Kbc (kBuildG Y (Ka Y (Ko Y Y Y Y (Ka Y (Kd (Kr (Er (ra := [.one (.d _), .agg [(.d _), (.d _), (.d _), (.d _), (.d _), (.own true _), (.own true _), (.own true _), (.own true _), (.own true _), (.own true _)], .one (.d _)]) rfl rfl)))))))) (fun g1 => Kn (Kb (kRegD (Kf Y Y (Ke Y Y Y (Kf Y Y (Ke Y Y Y ?_)))))))))))))))))))))))))))))
    all_goals simp_all
  · have h' := h
    unfold askOk at h'
    simp only [Bool.and_eq_true] at h'
    obtain ⟨a1, a2⟩ := h'
    have ht := task_turn a1
    have hst : t.state ≠ 1 := by simpa using a2
    have hget : t.servers.getD t.turn.toNat 0 = t.servers[t.turn.toNat]'(by omega) := by
      rw [List.getD_eq_getElem?_getD, List.getElem?_eq_getElem (by omega)]; rfl
    rw [show askIp t = t.servers[t.turn.toNat]'(by omega) by unfold askIp; rw [h, if_pos rfl, hget], show askId t = t.id by simp [askId, h], show askQs t = [⟨t.name, t.ftype⟩] by simp [askQs, h]]
    refine Kbc (kBox Y Y Y Y Y (Ka Y (kAlloc Y Y (Ka Y (Kdb (Kbc (Ke Y Y Y (Kp (ok_impl_TaskOk _ pr) ⟨⟨⟨Y, Y, Y, Y, Y, Y, Y, Y, Y, Y, Y, Y, Y, trivial⟩, leb⟩, trivial⟩ Y Y Y Y Y (Kw Y Y (Ka Y (kGN Y (fun g0 => (by (simp [*] at g0))) (fun g0 => (Ki Y (Kf Y Y (Ki Y (Ke Y Y Y (Ki Y (Kj Y Y Y (Kl Y (Ka Y (Kd (Km Y (fun g1 => om) (fun g1 => Kn (Kb (kRegD (Kf Y Y (Ke Y Y Y (Kf Y Y (Ke Y Y Y (kIadT Y Y om (Ky Y Y (Ke Y Y Y (Kx Y Y (Ku true (ok_impl_Task_question _ pr) ⟨⟨⟨Y, Y, Y, Y, Y, Y, Y, Y, Y, Y, Y, Y, Y, trivial⟩, leb⟩, trivial⟩ Y Y Y (fun _ => (Ka Y (Ks Y Y (Ko Y Y Y Y (Ka Y (Kd (kH (Kr (Er (ra := [.one (.d _), .agg [(.d _), (.d _), (.d _), (.d _), (.d _), (.own true _), (.own true _), (.own true _), (.own true _), (.own true _), (.own true _)], .one (.d _)]) rfl rfl)))))))))))))))))))))))))))))))))))))))))))

def c_spec_l2text : C := (.g (.o 0 1 (.box 1 (.t 0)) (.o 1 2 (.mov (.n 1)) .done)) (.seq (.g (.o 0 5 (.fad (.t 1) 0) (.o 1 6 (.load none (.t 5)) (.o 2 7 (.len (.t 6)) (.o 3 8 (.bin .eql (.t 7) (.i 0)) .done)))) (.cond (.t 8) (.g (.o 0 9 (.lit 9 1 [(.v (.int .u8 0))] 1 [(0, 1, (.v (.int .u8 46)))]) (.o 1 10 (.s2s (.t 9)) (.o 2 2 (.mov (.t 10)) .done))) .ret) .skip)) (.g (.o 0 3 (.mov (.n 1)) .done) (.seq (.g (.o 0 4 (.mov (.i 0)) .done) (.block 0 (.loop (.seq (.g (.o 0 11 (.mov (.t 4)) (.o 1 12 (.fad (.t 1) 0) (.o 2 13 (.load none (.t 12)) (.o 3 14 (.len (.t 13)) (.o 4 15 (.bin .lss (.t 11) (.t 14)) .done))))) (.cond (.t 15) .skip (.exit 0))) (.seq (.block 1 (.reg false (.o 0 18 (.mov (.t 3)) (.o 1 19 (.fad (.t 1) 0) (.o 2 20 (.load none (.t 19)) (.o 3 21 (.mov (.t 4)) (.o 4 22 (.iad 1 (.t 20) (.t 21)) (.o 5 23 (.load none (.t 22)) (.o 6 24 (.app 24 1 1 (.t 18) (.t 23)) (.o 7 25 (.lit 25 1 [(.v (.int .u8 0))] 1 [(0, 1, (.v (.int .u8 46)))]) (.o 8 26 (.app 26 1 1 (.t 24) (.t 25)) (.o 9 3 (.mov (.t 26)) .done)))))))))))) (.reg false (.o 0 16 (.mov (.t 4)) (.o 1 17 (.bin .add (.t 16) (.i 1)) (.o 2 4 (.mov (.t 17)) .done))))))))) (.g (.o 0 27 (.mov (.t 3)) (.o 1 2 (.mov (.t 27)) .done)) .ret)))))
theorem dg_spec_l2text : Tryz.f261.body.bind (digC Tryz.prog Tryz.f261.ntmps []) = some c_spec_l2text := by kernel_rfl
theorem rs_spec_l2text : resSlots Tryz.prog Tryz.f261 = some [.s 2] := by kernel_rfl
theorem ok_spec_l2text (a : List (List UInt8)) (ha : SmallBB a) :
    FnOK Tryz.prog 261 [.agg [.d (encBB a)]] (fun ra _ => ra = [.one (.d (encB (textN a)))]) := by
  refine FnOK.ofK Tryz.func261 (by kernel_rfl) dg_spec_l2text rs_spec_l2text rfl rfl ?_
  delta c_spec_l2text T.o X.i C.g
  have a1 := ha.len
  have a2 := ha.flat
  refine Kbc (kBox Y Y Y Y Y (Ka Y (Kdb (Kbc (Kf Y Y (Ke Y Y Y (Kq Y Y (Kj Y Y Y (Kd (Km Y (fun g0 => Kbc (kLitG Y Y Y Y (kS2sB (y := 46) (ys := []) Y Y Y (Ka Y (Kd (Kr (Er (ra := [.one (.d _)]) rfl ?_))))))) (fun g0 => Kn (Kbc (Ka Y (Kdb (Kbc (Ka Y (Kd (Kt ?_))))))))))))))))))
  · have : a = [] := List.eq_nil_of_length_eq_zero (by omega)
    subst this; rfl
  have hne : a ≠ [] := fun h => g0 (by rw [h]; rfl)
  rw [show textN a = textL a by unfold textN; rw [if_neg hne]]
  refine kSub (Sub.nilArr (j := 3) (id := rid 5000 0) (sz := 1) rfl (by decide)) ?_
  refine kLoop (α := { i : Nat // i ≤ a.length }) (fun y => ⟨tabSl [(1, .c (.ptr (rid 1 0) 1 0)), (3, .c (.arr (rid 5000 0) 1)), (4, .i y.1)], obTab 1 [(rid 1 0, ⟨1, 0, .box [.d (encBB a)]⟩), (rid 5000 0, ⟨1, 0, .arr true (encB (textL (a.take y.1)))⟩)], []⟩) (fun y => a.length - y.1) ⟨0, by simp⟩ .normA ?_
  rintro ⟨i, hi⟩
  simp only
  have hle := textL_le a i
  rcases Nat.lt_or_ge i a.length with hlt | hge
  · have hst := textL_take a i hlt
    have hle2 := textL_le a (i + 1)
    have hle3 : (textL (a.take (i + 1))).length = (textL (a.take i)).length + a[i].length + 1 := by rw [hst]; simp only [List.length_append, List.length_cons, List.length_nil]
    refine Kb (Kbc (Ka Y (Kf Y Y (Ke Y Y Y (Kq Y Y (Kj Y Y Y (Kd (Km Y (fun g0 => Kn (Kb (Kt (Kc (Ka Y (Kf Y Y (Ke Y Y Y (Ka Y (kIadR Y Y Y om (Ky Y Y (kAppR Y Y Y (src_encB _ _) rfl rfl rfl rfl prl (kLitG Y Y Y Y (kAppR1 (z := (46 : UInt8)) rfl rfl rfl rfl rfl rfl rfl rfl prl (Ka Y (Kd (Kv (Kc (Ka Y (kAdd Y Y om (Ka Y (Kd ?_))))))))))))))))))))) (fun g0 => om)))))))))
    refine kInv ⟨⟨i + 1, by omega⟩, by simp only; omega, ?_⟩
    simp only [hst]
    exact .normA
  · refine Kb (Kbc (Ka Y (Kf Y Y (Ke Y Y Y (Kq Y Y (Kj Y Y Y (Kd (Km Y (fun g0 => om) (fun g0 => kExit (kExC (kExI (kExB (Kbc (Ka Y (Ka Y (Kd (Kr (Er (ra := [.one (.d _)]) rfl ?_))))))))))))))))))
    rw [show i = a.length by omega, List.take_length]

def c_spec_NameText : C := (.g (.o 0 1 (.box 1 (.t 0)) (.o 1 2 (.mov (.n 1)) .done)) (.seq (.g (.o 0 3 (.load (some 1) (.t 1)) (.o 1 4 (.call 4 47 [(.t 3)]) (.o 2 5 (.un .not (.t 4)) .done))) (.cond (.t 5) (.g (.o 0 2 (.mov (.n 1)) .done) .ret) .skip)) (.g (.o 0 6 (.load (some 1) (.t 1)) (.o 1 7 (.call 7 261 [(.t 6)]) (.o 2 2 (.mov (.t 7)) .done))) .ret)))
theorem dg_spec_NameText : Tryz.f190.body.bind (digC Tryz.prog Tryz.f190.ntmps []) = some c_spec_NameText := by kernel_rfl
theorem rs_spec_NameText : resSlots Tryz.prog Tryz.f190 = some [.s 2] := by kernel_rfl
theorem ok_spec_NameText (a : List (List UInt8)) (ha : SmallBB a) :
    FnOK Tryz.prog 190 [.agg [.d (encBB a)]] (fun ra _ => ra = [.one (.d (encB (if nameOk a then textN a else [])))]) := by
  refine FnOK.ofK Tryz.func190 (by kernel_rfl) dg_spec_NameText rs_spec_NameText rfl rfl ?_
  delta c_spec_NameText T.o X.i C.g
  have a1 := ha.len
  have a2 := ha.mem
  cases hno : nameOk a
  · refine Kbc (kBox Y Y Y Y Y (Ka Y (Kdb (Kbc (Ke Y Y Y (Kp (ok_spec_NameOk _ pry pry) ⟨⟨⟨Y, trivial⟩, leb⟩, trivial⟩ Y Y Y Y Y (Kw Y Y (Kd (kCondN Y (fun g0 => Kbc (Ka Y (Kd (Kr (Er (ra := [.one (.d _)]) rfl rfl))))) (fun g0 => (by (simp [*] at g0))))))))))))
    all_goals rfl
  · refine Kbc (kBox Y Y Y Y Y (Ka Y (Kdb (Kbc (Ke Y Y Y (Kp (ok_spec_NameOk _ pry pry) ⟨⟨⟨Y, trivial⟩, leb⟩, trivial⟩ Y Y Y Y Y (Kw Y Y (Kd (kCondN Y (fun g0 => (by (simp [*] at g0))) (fun g0 => Kn (Kbc (Ke Y Y Y (kCallD2 (ok_spec_l2text _ pry) ⟨⟨⟨Y, trivial⟩, leb⟩, trivial⟩ Y Y Y Y (Ka Y (Kd (Kr (Er (ra := [.one (.d _)]) rfl rfl)))))))))))))))))
    all_goals rfl

def c_laws_same : C := (.g (.o 0 4 (.mov (.v (.bool false))) .done) (.g (.o 0 5 (.mov (.t 0)) (.o 1 6 (.b2s (.t 5)) (.o 2 7 (.mov (.t 1)) (.o 3 8 (.b2s (.t 7)) (.o 4 9 (.bin .eql (.t 6) (.t 8)) (.o 5 4 (.mov (.t 9)) .done)))))) .ret))
theorem dg_laws_same : Tryz.f17.body.bind (digC Tryz.prog Tryz.f17.ntmps []) = some c_laws_same := by kernel_rfl
theorem rs_laws_same : resSlots Tryz.prog Tryz.f17 = some [.s 4] := by kernel_rfl
theorem ok_laws_same (a b : List UInt8) :
    FnOK Tryz.prog 17 [.one (.d (encB a)), .one (.d (encB b))] (fun ra _ => ra = [.one (.d (.sc (.bool (decide (a = b)))))]) := by
  refine FnOK.ofK Tryz.func17 (by kernel_rfl) dg_laws_same rs_laws_same rfl rfl ?_
  delta c_laws_same T.o X.i C.g
  refine Kbc (Ka Y (Kdb (Kc (Ka Y (kB2s Y Y (Ka Y (kB2s Y Y (Kj Y Y Y (Ka Y (Kd (Kr (Er (ra := [.one (.d _)]) rfl ?_))))))))))))
  refine congrArg (fun z : Bool => [RA.one (RV.d (DV.sc (Value.bool z)))]) ?_
  rw [ByteArray.toList_eq, ByteArray.toList_eq, Bool.eq_iff_iff]
  simp

def c_laws_sameName : C := (.g (.o 0 2 (.box 2 (.t 0)) (.o 1 3 (.box 3 (.t 1)) (.o 2 4 (.mov (.v (.bool false))) .done))) (.seq (.reg true (.op 0 [] (some 5) none true (.load (some 1) (.t 2)) (.op 2 [] (some 7) none true (.load (some 1) (.t 3)) (.op 1 [0] (some 6) none false (.call 6 190 [(.t 5)]) (.op 3 [2, 0] (some 8) none false (.call 8 190 [(.t 7)]) (.op 4 [0, 2] (some 9) none false (.call 9 17 [(.t 6), (.t 8)]) (.op 5 [] (some 4) none true (.mov (.t 9)) .done))))))) .ret))
theorem dg_laws_sameName : Tryz.f108.body.bind (digC Tryz.prog Tryz.f108.ntmps []) = some c_laws_sameName := by kernel_rfl
theorem rs_laws_sameName : resSlots Tryz.prog Tryz.f108 = some [.s 4] := by kernel_rfl
theorem ok_laws_sameName (a b : List (List UInt8)) (ha : SmallBB a) (hb : SmallBB b) :
    FnOK Tryz.prog 108 [.agg [.d (encBB a)], .agg [.d (encBB b)]] (fun ra _ => ra = [.one (.d (.sc (.bool (decide ((if nameOk a then textN a else []) = (if nameOk b then textN b else []))))))]) := by
  refine FnOK.ofK Tryz.func108 (by kernel_rfl) dg_laws_sameName rs_laws_sameName rfl rfl ?_
  delta c_laws_sameName T.o X.i C.g
  refine Kbc (kBox Y Y Y Y Y (kBox Y Y Y Y Y (Ka Y (Kdb (kRegD (Ke Y Y Y (Ke Y Y Y (Kx Y Y (kCallD2 (ok_spec_NameText _ pry) ⟨⟨⟨Y, trivial⟩, leb⟩, trivial⟩ Y Y Y Y (Ks Y Y (kCallD2 (ok_spec_NameText _ pry) ⟨⟨⟨Y, trivial⟩, leb⟩, trivial⟩ Y Y Y Y (Ks Y Y (Kp (ok_laws_same _ _) ⟨Y, Y, trivial⟩ Y Y Y Y Y (Ka Y (Kd (kH (Kr (Er (ra := [.one (.d _)]) rfl rfl))))))))))))))))))

def c_laws_tasks : C := (.g (.o 0 0 (.mov (.v (.bool false))) .done) (.g (.o 0 7 (.call 7 79 [(.v (.string ⟨#[97, 46]⟩))]) (.o 1 8 (.build [(.n 1), (.i 0)] [(0, 1, (.t 7)), (1, 1, (.i 1))]) (.o 2 9 (.lit 9 1 [(.i 0)] 1 [(0, 1, (.i 1))]) (.o 3 10 (.call 10 106 [(.t 8), (.t 9), (.i 5)]) (.o 4 6 (.mov (.t 10)) (.o 5 11 (.ext (.t 6) 0) (.o 6 12 (.ext (.t 6) 1) (.o 7 1 (.alloc 1 [(.i 0), (.i 0), (.n 1), (.i 0), (.n 1), (.n 1), (.n 1), (.n 1), (.i 0), (.i 0), (.i 0), (.i 0), (.n 7)]) (.op 8 [] none none false (.store (some 13) (.t 1) (.t 11)) (.o 9 2 (.mov (.t 12)) .done)))))))))) (.g (.o 0 14 (.load (some 13) (.t 1)) (.o 1 15 (.call 15 107 [(.t 14)]) (.o 2 13 (.mov (.t 15)) (.o 3 16 (.ext (.t 13) 0) (.o 4 17 (.ext (.t 13) 1) (.o 5 18 (.ext (.t 13) 2) (.o 6 4 (.alloc 4 [(.i 0), (.v (.bool false)), (.i 0), (.v (.bool false)), (.i 0), (.n 2), (.n 7), (.n 7), (.n 7), (.n 9), (.n 9)]) (.o 7 3 (.mov (.t 16)) (.op 8 [] none none false (.store (some 11) (.t 4) (.t 17)) (.o 9 5 (.mov (.t 18)) .done)))))))))) (.seq (.reg true (.op 0 [] (some 19) none true (.mov (.t 2)) (.op 1 [] (some 20) none true (.mov (.t 19)) (.op 2 [] (some 21) (some (20, true)) true (.mov (.t 5)) (.op 3 [] (some 22) none true (.pick (.t 20) (.t 21) (.v (.bool false))) (.op 4 [] (some 23) none true (.mov (.t 22)) (.op 5 [] (some 24) (some (23, true)) true (.mov (.t 3)) (.op 6 [] (some 25) (some (23, true)) true (.bin .eql (.t 24) (.i 1)) (.op 7 [] (some 26) none true (.pick (.t 23) (.t 25) (.v (.bool false))) (.op 8 [] (some 27) none true (.mov (.t 26)) (.op 9 [] (some 28) (some (27, true)) true (.fad (.t 4) 0) (.op 10 [] (some 29) (some (27, true)) true (.load none (.t 28)) (.op 11 [] (some 30) (some (27, true)) true (.bin .eql (.t 29) (.i 5)) (.op 12 [] (some 31) none true (.pick (.t 27) (.t 30) (.v (.bool false))) (.op 13 [] (some 32) none true (.mov (.t 31)) (.op 14 [] (some 33) (some (32, true)) true (.fad (.t 4) 5) (.op 15 [] (some 34) (some (32, true)) true (.load none (.t 33)) (.op 16 [] (some 35) (some (32, true)) true (.iad 2 (.t 34) (.i 0)) (.op 17 [] (some 36) (some (32, true)) true (.fad (.t 35) 0) (.op 18 [] (some 37) (some (32, true)) true (.load (some 1) (.t 36)) (.op 19 [10] (some 38) (some (32, true)) false (.call 38 79 [(.v (.string ⟨#[97, 46]⟩))]) (.op 20 [18, 15, 10] (some 39) (some (32, true)) false (.call 39 108 [(.t 37), (.t 38)]) (.op 21 [] (some 40) none true (.pick (.t 32) (.t 39) (.v (.bool false))) (.op 22 [] (some 0) none true (.mov (.t 40)) .done)))))))))))))))))))))))) .ret))))
theorem dg_laws_tasks : Tryz.f34.body.bind (digC Tryz.prog Tryz.f34.ntmps []) = some c_laws_tasks := by kernel_rfl
theorem rs_laws_tasks : resSlots Tryz.prog Tryz.f34 = some [.s 0] := by kernel_rfl
theorem ok_laws_tasks : FnOK Tryz.prog 34 [] (fun ra _ => ra = [.one (.d (.sc (.bool true)))]) := by
  refine FnOK.ofK Tryz.func34 (by kernel_rfl) dg_laws_tasks rs_laws_tasks rfl rfl ?_
  delta c_laws_tasks T.o X.i C.g
  have e : readN (ByteArray.mk #[97, 46]).toList = [[97]] := by rw [bt_list]; decide
  have sa : SmallBB [[97]] := SmallBB.ok (by decide)
  have ok := ok_laws_name ⟨#[97, 46]⟩ (by decide)
  rw [e] at ok
  have ok2 := ok_impl_Begin [[97]] 1 [1] 5 sa (by decide)
  rw [show beginN [[97]] 1 [1] 5 = askT [[97]] 1 [1] 5 by decide, show taskOk (askT [[97]] 1 [1] 5) = true by decide] at ok2
  have ok3 := ok_impl_AskOf (askT [[97]] 1 [1] 5) ⟨sa, sa, .nil, by decide, by decide, .nil⟩
  rw [show askIp (askT [[97]] 1 [1] 5) = 1 by decide, show askId (askT [[97]] 1 [1] 5) = 5 by decide, show askQs (askT [[97]] 1 [1] 5) = [⟨[[97]], 1⟩] by decide, show askOk (askT [[97]] 1 [1] 5) = true by decide] at ok3
  have e2 : decide ((if nameOk [[97]] then textN [[97]] else []) = (if nameOk (readN (ByteArray.mk #[97, 46]).toList) then textN (readN (ByteArray.mk #[97, 46]).toList) else [])) = true := by rw [e]; rfl
  have ok4 := ok_laws_sameName [[97]] (readN (ByteArray.mk #[97, 46]).toList) sa (by rw [e]; exact sa)
  rw [e2] at ok4
  refine Kbc (Ka Y (Kd ?_))
  refine Kbc (Ku true ok ⟨Y, trivial⟩ Y Y Y (fun _ => ?_))
  refine kBuildG Y (kLitD Y Y Y Y ?_)
  refine Ku true ok2 ⟨⟨⟨Y, Y, trivial⟩, leb⟩, rfl, rfl, trivial⟩ Y Y Y (fun _ => ?_)
  refine kMovT Y (kExtC Y Y (kExtC Y Y (kAlloc Y Y (Ko Y Y Y Y (Ka Y (Kdb (Kc (Ke Y Y Y ?_))))))))
  refine Ku true ok3 ⟨⟨⟨Y, Y, Y, Y, Y, Y, Y, Y, Y, Y, Y, Y, Y, trivial⟩, leb⟩, trivial⟩ Y Y Y (fun _ => ?_)
  refine kMovT Y (kExtC Y Y (kExtC Y Y (kExtC Y Y (kAlloc Y Y (Ka Y (Ko Y Y Y Y (Ka Y (Kdb (kRegD (Ka Y (Ka Y (Ki Y (Ka Y (Kk Y (Ka Y (Ka Y (Ki Y (Ka Y (Ki Y (Kj Y Y Y (Kk Y (Ka Y (Ka Y (Ki Y (Kf Y Y (Ki Y (Ke Y Y Y (Ki Y (Kj Y Y Y (Kk Y (Ka Y (Ka Y (Ki Y (Kf Y Y (Ki Y (Ke Y Y Y (Ki Y (kIadAR (m := 0) Y Y Y Y prl (Ki Y (kFadE Y Y (Ki Y (kLoadER Y Y prl rfl (Kx Y Y (Ki Y (Ku true (ok_laws_name _ pry) ⟨Y, trivial⟩ Y Y Y (fun _ => (Ks Y Y (Ki Y ?_))))))))))))))))))))))))))))))))))))))))))))))))
  refine Ku true ok4 ⟨⟨⟨Y, trivial⟩, leb⟩, ⟨⟨Y, trivial⟩, leb⟩, trivial⟩ Y Y Y (fun _ => ?_)
  refine Kk Y (Ka Y (Ka Y (Kd (kH (Kr (Er (ra := [.one (.d _)]) rfl rfl))))))

theorem lost_step {t : Task} (h : taskOk t = true) (h0 : ¬ t.state = 1) : taskOk (lostT t) = true ∧ ((lostT t).state = 1 → (lostT t).code = 2 ∧ (lostT t).answers = []) ∧ (¬ (lostT t).state = 1 → (lostT t).sends = t.sends + 1) := by
  unfold taskOk at h
  simp only [Bool.and_eq_true, decide_eq_true_eq, Bool.or_eq_true, beq_iff_eq] at h
  obtain ⟨⟨⟨⟨⟨⟨⟨⟨⟨⟨⟨⟨h1, h2⟩, h3⟩, h4⟩, h5⟩, h6⟩, h7⟩, h8⟩, h9⟩, h10⟩, h11⟩, h12⟩, h13⟩ := h
  have h13 := h13.resolve_left h0
  have hip : 1 ≤ t.servers.length := by
    unfold ipsOk at h7
    simp only [Bool.and_eq_true, decide_eq_true_eq] at h7
    omega
  have m1 := Int.tmod_nonneg (a := t.turn + 1) (t.servers.length : Int) (by omega)
  have m2 := Int.tmod_lt_of_pos (t.turn + 1) (show (0 : Int) < (t.servers.length : Int) by omega)
  unfold lostT nextT sentT
  split
  · unfold endT
    refine ⟨?_, fun _ => ⟨rfl, rfl⟩, fun h => absurd rfl h⟩
    unfold taskOk
    simp only [Bool.and_eq_true, decide_eq_true_eq, Bool.or_eq_true, beq_iff_eq]
    exact ⟨⟨⟨⟨⟨⟨⟨⟨⟨⟨⟨⟨by omega, h2⟩, h3⟩, h4⟩, h5⟩, h6⟩, h7⟩, by omega⟩, by omega⟩, h10⟩, by omega⟩, rfl⟩, .inl trivial⟩
  · refine ⟨?_, fun h => absurd h h0, fun _ => rfl⟩
    unfold taskOk
    simp only [Bool.and_eq_true, decide_eq_true_eq, Bool.or_eq_true, beq_iff_eq]
    exact ⟨⟨⟨⟨⟨⟨⟨⟨⟨⟨⟨⟨h1, h2⟩, h3⟩, h4⟩, h5⟩, h6⟩, h7⟩, by omega⟩, by omega⟩, h10⟩, h11⟩, h12⟩, .inr ⟨⟨h13.1.1, by omega⟩, h13.2⟩⟩
def c_laws_FnLosts : C := (.g (.o 0 2 (.mov (.v (.bool false))) .done) (.g (.o 0 7 (.mov (.t 0)) (.o 1 8 (.call 8 32 [(.t 7)]) (.o 2 3 (.alloc 3 [(.i 0), (.i 0), (.n 1), (.i 0), (.n 1), (.n 1), (.n 1), (.n 1), (.i 0), (.i 0), (.i 0), (.i 0), (.n 7)]) (.op 3 [] none none false (.store (some 13) (.t 3) (.t 8)) .done)))) (.g (.o 0 10 (.load (some 13) (.t 3)) (.o 1 11 (.call 11 33 [(.t 10)]) (.o 2 9 (.mov (.t 11)) (.o 3 12 (.ext (.t 9) 0) (.o 4 13 (.ext (.t 9) 1) (.o 5 4 (.alloc 4 [(.i 0), (.i 0), (.n 1), (.i 0), (.n 1), (.n 1), (.n 1), (.n 1), (.i 0), (.i 0), (.i 0), (.i 0), (.n 7)]) (.op 6 [] none none false (.store (some 13) (.t 4) (.t 12)) (.o 7 5 (.mov (.t 13)) .done)))))))) (.seq (.g (.o 0 14 (.mov (.t 5)) (.o 1 15 (.un .not (.t 14)) .done)) (.cond (.t 15) (.g (.o 0 16 (.fad (.t 4) 7) (.o 1 17 (.load none (.t 16)) (.o 2 18 (.len (.t 17)) (.o 3 19 (.bin .eql (.t 18) (.i 0)) (.o 4 20 (.mov (.t 19)) (.op 5 [] (some 21) (some (20, true)) false (.call 21 34 []) (.o 6 22 (.pick (.t 20) (.t 21) (.v (.bool false))) (.o 7 2 (.mov (.t 22)) .done)))))))) .ret) .skip)) (.seq (.g (.o 0 6 (.mov (.i 0)) .done) (.block 0 (.loop (.seq (.g (.o 0 23 (.mov (.t 6)) (.o 1 24 (.bin .leq (.t 23) (.i 12)) (.o 2 25 (.mov (.t 24)) (.op 3 [] (some 26) (some (25, true)) false (.fad (.t 4) 0) (.op 4 [] (some 27) (some (25, true)) false (.load none (.t 26)) (.op 5 [] (some 28) (some (25, true)) false (.bin .eql (.t 27) (.i 0)) (.o 6 29 (.pick (.t 25) (.t 28) (.v (.bool false))) .done))))))) (.cond (.t 29) .skip (.exit 0))) (.seq (.block 1 (.reg false (.o 0 33 (.load (some 13) (.t 4)) (.o 1 34 (.call 34 33 [(.t 33)]) (.o 2 32 (.mov (.t 34)) (.o 3 35 (.ext (.t 32) 0) (.o 4 36 (.ext (.t 32) 1) (.op 5 [] none none false (.store (some 13) (.t 4) (.t 35)) .done)))))))) (.reg false (.o 0 30 (.mov (.t 6)) (.o 1 31 (.bin .add (.t 30) (.i 1)) (.o 2 6 (.mov (.t 31)) .done))))))))) (.g (.o 0 37 (.fad (.t 4) 0) (.o 1 38 (.load none (.t 37)) (.o 2 39 (.bin .eql (.t 38) (.i 1)) (.o 3 40 (.mov (.t 39)) (.op 4 [] (some 41) (some (40, true)) false (.fad (.t 4) 11) (.op 5 [] (some 42) (some (40, true)) false (.load none (.t 41)) (.op 6 [] (some 43) (some (40, true)) false (.bin .eql (.t 42) (.i 2)) (.o 7 44 (.pick (.t 40) (.t 43) (.v (.bool false))) (.o 8 45 (.mov (.t 44)) (.op 9 [] (some 46) (some (45, true)) false (.fad (.t 4) 12) (.op 10 [] (some 47) (some (45, true)) false (.load none (.t 46)) (.op 11 [] (some 48) (some (45, true)) false (.len (.t 47)) (.op 12 [] (some 49) (some (45, true)) false (.bin .eql (.t 48) (.i 0)) (.o 13 50 (.pick (.t 45) (.t 49) (.v (.bool false))) (.o 14 51 (.mov (.t 50)) (.op 15 [] (some 52) (some (51, true)) false (.load (some 13) (.t 4)) (.op 16 [] (some 53) (some (51, true)) false (.call 53 35 [(.t 52)]) (.o 17 54 (.pick (.t 51) (.t 53) (.v (.bool false))) (.o 18 55 (.mov (.t 54)) (.op 19 [] (some 56) (some (55, true)) false (.call 56 34 []) (.o 20 57 (.pick (.t 55) (.t 56) (.v (.bool false))) (.o 21 2 (.mov (.t 57)) .done)))))))))))))))))))))) .ret))))))
theorem dg_laws_FnLosts : Tryz.f5.body.bind (digC Tryz.prog Tryz.f5.ntmps []) = some c_laws_FnLosts := by kernel_rfl
theorem rs_laws_FnLosts : resSlots Tryz.prog Tryz.f5 = some [.s 2] := by kernel_rfl
theorem ok_laws_FnLosts (code : List UInt8) (hb : (code.length : Int) ≤ 9223372036854775807) :
    FnOK Tryz.prog 5 [.one (.d (encB code))] (fun ra _ => ra = [.one (.d (.sc (.bool true)))]) := by
  refine FnOK.ofK Tryz.func5 (by kernel_rfl) dg_laws_FnLosts rs_laws_FnLosts rfl rfl ?_
  delta c_laws_FnLosts T.o X.i C.g
  refine Kbc (Ka Y (Kdb (Kc (Ka Y (kCallX false (ok_spec_DrawLost _ prx) ⟨Y, trivial⟩ Y (fun _ => rfl) (fun _ => rfl) (fun x0 _ hx0 => (kAlloc Y Y (kMem [(16384, ⟨1, 0, .box [.d _, .d _, .nil 1, .d _, .nil 1, .nil 1, .nil 1, .nil 1, .d _, .d _, .d _, .d _, .nil 7]⟩)] [(3, .c (.ptr 16384 1 0)), (8, .g [.d _, .d _, .d _, .d _, .d _, .d _, .d _, .d _, .d _, .d _, .d _, .d _, .d _])] [] ⟨Y, trivial⟩ ⟨Y, Y, trivial⟩ Y (Ko Y Y Y Y (Kdb (Kc (Ke Y Y Y (Ku true (ok_impl_Lost _ prx) ⟨⟨⟨Y, Y, Y, Y, Y, Y, Y, Y, Y, Y, Y, Y, Y, trivial⟩, leb⟩, trivial⟩ Y Y Y (fun _ => (kMovT Y (kExtC Y Y (kExtC Y Y (kAlloc Y Y (kMem [(20480, ⟨1, 0, .box [.d _, .d _, .nil 1, .d _, .nil 1, .nil 1, .nil 1, .nil 1, .d _, .d _, .d _, .d _, .nil 7]⟩), (49154, ⟨1, 0, .arr true _⟩), (49156, ⟨1, 0, .arr true _⟩), (49157, ⟨1, 0, .arr true _⟩), (49158, ⟨1, 0, .arr true _⟩), (49159, ⟨1, 0, .arr true _⟩), (49164, ⟨1, 0, .arr true _⟩)] [(4, .c (.ptr 20480 1 0)), (12, .g [.d _, .d _, .arr 49154 1, .d _, .arr 49156 1, .arr 49157 1, .arr 49158 1, .arr 49159 1, .d _, .d _, .d _, .d _, .arr 49164 1]), (13, .c (.d _))] [] ⟨Y, Y, Y, Y, Y, Y, Y, trivial⟩ ⟨Y, Y, Y, trivial⟩ Y (Ko Y Y Y Y (Ka Y (Kdb (Kbc (Ka Y (Kw Y Y (Kd (kCondN Y (fun g1 => Kbc (Kf Y Y (Ke Y Y Y (Kq Y Y (Kj Y Y Y (Ka Y (kGP Y (fun g2 => Ki Y (Kp (ok_laws_tasks) trivial rfl rfl rfl rfl rfl (Kk Y (Ka Y (Ka Y (Kd (Kr (Er (ra := [.one (.d _)]) rfl rfl)))))))) (fun g2 => Kg Y (Kl Y (Ka Y (Ka Y (Kd (Kr (Er (ra := [.one (.d _)]) rfl ?_)))))))))))))) (fun g1 => Kn (Kb (Kbc (Ka Y (Kd (Kt ?_)))))))))))))))))))))))))))))))))
  · rename_i g1 g2
    exact absurd (by unfold lostN; rw [g1]; rfl) g2
  · have hlo : lostN x0 = lostT x0 := by unfold lostN; rw [g1]; rfl
    have hk : taskOk x0 = true ∧ ¬ x0.state = 1 := by simpa [lostOk] using g1
    obtain ⟨s1, s2, s3⟩ := lost_step hk.1 hk.2
    have hT := hx0.lost
    have f0 := (taskOk_facts hk.1)
    have hs1 : ¬ (lostT x0).state = 1 → 1 ≤ (lostT x0).sends := fun h => by have := s3 h; omega
    rw [hlo]
    generalize lostT x0 = u0 at s1 s2 hs1 hT ⊢
    refine kSub (Sub.frzBox (rid 4 0) (rid 11 2) 2 rfl rfl rfl rfl rfl) ?_
    refine kSub (Sub.frzBox (rid 4 0) (rid 11 4) 4 rfl rfl rfl rfl rfl) ?_
    refine kSub (Sub.frzBox (rid 4 0) (rid 11 5) 5 rfl rfl rfl rfl rfl) ?_
    refine kSub (Sub.frzBox (rid 4 0) (rid 11 6) 6 rfl rfl rfl rfl rfl) ?_
    refine kSub (Sub.frzBox (rid 4 0) (rid 11 7) 7 rfl rfl rfl rfl rfl) ?_
    refine kSub (Sub.frzBox (rid 4 0) (rid 11 12) 12 rfl rfl rfl rfl rfl) ?_
    refine kLoop (α := { y : Nat × Task // y.1 ≤ 13 ∧ SmallT y.2 ∧ taskOk y.2 = true ∧ (y.2.state = 1 → y.2.code = 2 ∧ y.2.answers = []) ∧ (¬ y.2.state = 1 → (y.1 + 1 : Int) ≤ y.2.sends) }) (fun y => ⟨tabSl [(4, .c (.ptr (rid 4 0) 1 0)), (6, .i y.1.1)], obTab 1 [(rid 4 0, ⟨1, 0, .box (y.1.2.cells.map .d)⟩)], []⟩) (fun y => 13 - y.1.1) ⟨(0, u0), ⟨Nat.zero_le _, hT, s1, s2, by simpa using hs1⟩⟩ .normA ?_
    clear hT s1 s2 hs1 u0 hlo hk s3 f0 g1 hx0
    rintro ⟨⟨i, u⟩, hi, hu1, hu2, hu3, hu4⟩
    simp only at hi hu1 hu2 hu3 hu4 ⊢
    have hf := taskOk_facts hu2
    have hst01 : 0 ≤ u.state ∧ u.state ≤ 1 := by
      unfold taskOk at hu2
      simp only [Bool.and_eq_true, decide_eq_true_eq] at hu2
      exact hu2.1.1.1.1.1.1.1.1.1.1.1.1
    have hstep : ¬ u.state = 1 → taskOk (lostN u) = true ∧ SmallT (lostN u) ∧ ((lostN u).state = 1 → (lostN u).code = 2 ∧ (lostN u).answers = []) ∧ (¬ (lostN u).state = 1 → ((i + 1 : Nat) + 1 : Int) ≤ (lostN u).sends) := fun h => by
      have hlo : lostN u = lostT u := by unfold lostN lostOk; rw [hu2, show (u.state == 1) = false by simpa using h]; rfl
      obtain ⟨s1, s2, s3⟩ := lost_step hu2 h
      rw [hlo]
      exact ⟨s1, hu1.lost, s2, fun h' => by have := s3 h'; have := hu4 h; omega⟩
    refine Kb (Kbc (Ka Y (Kj Y Y Y (Ka Y (kGP Y (fun g0 => Ki Y (Kf Y Y (Ki Y (Ke Y Y Y (Ki Y (Kj Y Y Y (Kk Y (Ka Y (Kd (Km Y (fun g1 => Kn (Kb (Kt (Kc (Ke Y Y Y (Ku true (ok_impl_Lost _ prx) ⟨⟨⟨Y, Y, Y, Y, Y, Y, Y, Y, Y, Y, Y, Y, Y, trivial⟩, leb⟩, trivial⟩ Y Y Y (fun _ => (kMem [(20480, ⟨1, 0, .box [.d _, .d _, .d _, .d _, .d _, .d _, .d _, .d _, .d _, .d _, .d _, .d _, .d _]⟩)] [(4, .c (.ptr 20480 1 0))] [] ⟨Y, trivial⟩ ⟨Y, trivial⟩ Y (kMovT Y (kExtC Y Y (kExtC Y Y (kMem [(20480, ⟨1, 0, .box [.d _, .d _, .d _, .d _, .d _, .d _, .d _, .d _, .d _, .d _, .d _, .d _, .d _]⟩), (143362, ⟨2, 0, .arr true _⟩), (143364, ⟨2, 0, .arr true _⟩), (143365, ⟨2, 0, .arr true _⟩), (143366, ⟨2, 0, .arr true _⟩), (143367, ⟨2, 0, .arr true _⟩), (143372, ⟨2, 0, .arr true _⟩)] [(4, .c (.ptr 20480 1 0)), (35, .g [.d _, .d _, .arr 143362 2, .d _, .arr 143364 2, .arr 143365 2, .arr 143366 2, .arr 143367 2, .d _, .d _, .d _, .d _, .arr 143372 2])] [] ⟨Y, Y, Y, Y, Y, Y, Y, trivial⟩ ⟨Y, Y, trivial⟩ Y (Ko Y Y Y Y (Kd (Kv (Kc (Ka Y (kAdd Y Y om (Ka Y (Kd ?_)))))))))))))))))))) (fun g1 => kExit (kExC (kExI (kExB (Kbc (Kf Y Y (Ke Y Y Y (kMem [(20480, ⟨1, 0, .box [.d _, .d _, .d _, .d _, .d _, .d _, .d _, .d _, .d _, .d _, .d _, .d _, .d _]⟩)] [(38, .c (.d _)), (4, .c (.ptr 20480 1 0))] [] ⟨Y, trivial⟩ ⟨Y, Y, trivial⟩ Y (Kj Y Y Y (Ka Y (kGP Y (fun g2 => Ki Y (Kf Y Y (Ki Y (Ke Y Y Y (Ki Y (Kj Y Y Y (Kk Y (Ka Y (Ka Y (kGP Y (fun g3 => Ki Y (Kf Y Y (Ki Y (Ke Y Y Y (kMem [(20480, ⟨1, 0, .box [.d _, .d _, .d _, .d _, .d _, .d _, .d _, .d _, .d _, .d _, .d _, .d _, .d _]⟩)] [(47, .c (.d _)), (45, .c (.d _)), (4, .c (.ptr 20480 1 0))] [] ⟨Y, trivial⟩ ⟨Y, Y, Y, trivial⟩ Y (Ki Y (Kq Y Y (Ki Y (Kj Y Y Y (Kk Y (Ka Y (Ka Y (kGP Y (fun g4 => Ki Y (Ke Y Y Y (Ki Y (Kp (ok_impl_TaskOk _ prx) ⟨⟨⟨Y, Y, Y, Y, Y, Y, Y, Y, Y, Y, Y, Y, Y, trivial⟩, leb⟩, trivial⟩ Y Y Y Y Y (Kk Y (Ka Y (Ka Y (kGS Y (fun g5 => Ki Y (Kp (ok_laws_tasks) trivial rfl rfl rfl rfl rfl (Kk Y (Ka Y (Ka Y (Kd (Kr (Er (ra := [.one (.d _)]) rfl rfl)))))))) (fun g5 => (by (simp [*] at g5))))))))))) (fun g4 => (by (simp [*] at g4)))))))))))))))) (fun g3 => om))))))))))) (fun g2 => om)))))))))))))))))))))) (fun g0 => Kg Y (Kg Y (Kg Y (Kl Y (Ka Y (Kd (kCondF Y (kExit (kExC (kExI (kExB (Kbc (Kf Y Y (Ke Y Y Y (Kj Y Y Y (kMem [(20480, ⟨1, 0, .box [.d _, .d _, .d _, .d _, .d _, .d _, .d _, .d _, .d _, .d _, .d _, .d _, .d _]⟩)] [(39, .c (.d _)), (4, .c (.ptr 20480 1 0))] [] ⟨Y, trivial⟩ ⟨Y, Y, trivial⟩ Y (Ka Y (kGP Y (fun g6 => Ki Y (Kf Y Y (Ki Y (Ke Y Y Y (Ki Y (Kj Y Y Y (Kk Y (Ka Y (Ka Y (kGP Y (fun g7 => Ki Y (Kf Y Y (Ki Y (Ke Y Y Y (kMem [(20480, ⟨1, 0, .box [.d _, .d _, .d _, .d _, .d _, .d _, .d _, .d _, .d _, .d _, .d _, .d _, .d _]⟩)] [(47, .c (.d _)), (45, .c (.d _)), (4, .c (.ptr 20480 1 0))] [] ⟨Y, trivial⟩ ⟨Y, Y, Y, trivial⟩ Y (Ki Y (Kq Y Y (Ki Y (Kj Y Y Y (Kk Y (Ka Y (Ka Y (kGP Y (fun g8 => Ki Y (Ke Y Y Y (Ki Y (Kp (ok_impl_TaskOk _ prx) ⟨⟨⟨Y, Y, Y, Y, Y, Y, Y, Y, Y, Y, Y, Y, Y, trivial⟩, leb⟩, trivial⟩ Y Y Y Y Y (Kk Y (Ka Y (Ka Y (kGS Y (fun g9 => Ki Y (Kp (ok_laws_tasks) trivial rfl rfl rfl rfl rfl (Kk Y (Ka Y (Ka Y (Kd (Kr (Er (ra := [.one (.d _)]) rfl rfl)))))))) (fun g9 => (by (simp [*] at g9))))))))))) (fun g8 => (by (simp [*] at g8)))))))))))))))) (fun g7 => om))))))))))) (fun g6 => om))))))))))))))))))))))))
    · obtain ⟨s1, s2, s3, s4⟩ := hstep (by omega)
      exact kInv ⟨⟨(i + 1, lostN u), by omega, s2, s1, s3, s4⟩, by simp only; omega, (Sub.frzBox (rid 4 0) (rid 34 2) 2 rfl rfl rfl rfl rfl).trans ((Sub.frzBox (rid 4 0) (rid 34 4) 4 rfl rfl rfl rfl rfl).trans ((Sub.frzBox (rid 4 0) (rid 34 5) 5 rfl rfl rfl rfl rfl).trans ((Sub.frzBox (rid 4 0) (rid 34 6) 6 rfl rfl rfl rfl rfl).trans ((Sub.frzBox (rid 4 0) (rid 34 7) 7 rfl rfl rfl rfl rfl).trans ((Sub.frzBox (rid 4 0) (rid 34 12) 12 rfl rfl rfl rfl rfl).trans (.normA))))))⟩

end Go.Proofs.YtmdmlncdjdphdaaGreat.FnLostsFn
