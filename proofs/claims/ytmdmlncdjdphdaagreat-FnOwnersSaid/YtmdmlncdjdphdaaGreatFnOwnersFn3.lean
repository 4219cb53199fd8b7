/- What the functions that FnOwners reaches compute, one contract each; each with the bounds that it states. -/
import Derived.Test.YtmdmlncdjdphdaaGreatFnOwnersFn2
import Derived.Test.YtmdmlncdjdphdaaGreatProg
import Derived.KernelRfl
set_option maxRecDepth 100000
set_option maxHeartbeats 8000000
set_option linter.unusedVariables false
set_option linter.unusedSimpArgs false
namespace Go.Proofs.YtmdmlncdjdphdaaGreat.FnOwnersFn
open Go Hearth Go.Proofs

def c_impl_Serial : C := (.g (.o 0 1 (.box 1 (.t 0)) (.o 1 2 (.mov (.i 0)) .done)) (.seq (.g (.o 0 3 (.load (some 2) (.t 1)) (.o 1 4 (.call 4 70 [(.t 3)]) (.o 2 5 (.un .not (.t 4)) .done))) (.cond (.t 5) (.g (.o 0 2 (.mov (.i 0)) .done) .ret) .skip)) (.g (.o 0 6 (.load (some 2) (.t 1)) (.o 1 7 (.call 7 171 [(.t 6)]) (.o 2 2 (.mov (.t 7)) .done))) .ret)))
theorem dg_impl_Serial : Tryz.f80.body.bind (digC Tryz.prog Tryz.f80.ntmps []) = some c_impl_Serial := by kernel_rfl
theorem rs_impl_Serial : resSlots Tryz.prog Tryz.f80 = some [.s 2] := by kernel_rfl
theorem ok_impl_Serial (z : Zone) (hs : SmallZ z) :
    FnOK Tryz.prog 80 [.agg (z.cells.map .d)] (fun ra _ => ra = [.one (.d (.sc (.int .i64 (serialN z))))]) := by
  refine FnOK.ofK Tryz.func80 (by kernel_rfl) dg_impl_Serial rs_impl_Serial rfl rfl ?_
  delta c_impl_Serial T.o X.i C.g
  cases h : zoneOk z
  · rw [show serialN z = 0 by unfold serialN; rw [h]; rfl]
    refine Kbc (kBox Y Y Y Y Y (Ka Y (Kdb (Kbc (Ke Y Y Y (Kp (ok_impl_ZoneOk _ pry) ⟨⟨⟨Y, Y, trivial⟩, leb⟩, trivial⟩ Y Y Y Y Y (Kw Y Y (Kd (kCondN Y (fun g0 => Kbc (Ka Y (Kd (Kr (Er (ra := [.one (.d _)]) rfl rfl))))) (fun g0 => (by (simp [*] at g0))))))))))))
  · obtain ⟨h0, h1, e⟩ := serialN_eq h
    rw [e]
    refine Kbc (kBox Y Y Y Y Y (Ka Y (Kdb (Kbc (Ke Y Y Y (Kp (ok_impl_ZoneOk _ pry) ⟨⟨⟨Y, Y, trivial⟩, leb⟩, trivial⟩ Y Y Y Y Y (Kw Y Y (Kd (kCondN Y (fun g0 => (by (simp [*] at g0))) (fun g0 => Kn (Kbc (Ke Y Y Y (Kp (ok_impl_Zone_serial _ pry pry pry pry) ⟨⟨⟨Y, Y, trivial⟩, leb⟩, trivial⟩ Y Y Y Y Y (Ka Y (Kd (Kr (Er (ra := [.one (.d _)]) rfl rfl)))))))))))))))))

def c_laws_zones : C := (.g (.o 0 0 (.mov (.v (.bool false))) .done) (.g (.o 0 4 (.call 4 79 [(.v (.string ⟨#[104, 111, 109, 101, 46]⟩))]) (.o 1 5 (.call 5 78 [(.t 4), (.i 5)]) (.o 2 3 (.mov (.t 5)) (.o 3 6 (.ext (.t 3) 0) (.o 4 7 (.ext (.t 3) 1) (.o 5 1 (.alloc 1 [(.n 1), (.n 7)]) (.op 6 [] none none false (.store (some 2) (.t 1) (.t 6)) (.o 7 2 (.mov (.t 7)) .done)))))))) (.g (.o 0 8 (.mov (.t 2)) (.o 1 9 (.mov (.t 8)) (.op 2 [] (some 10) (some (9, true)) false (.fad (.t 1) 1) (.op 3 [] (some 11) (some (9, true)) false (.load none (.t 10)) (.op 4 [] (some 12) (some (9, true)) false (.len (.t 11)) (.op 5 [] (some 13) (some (9, true)) false (.bin .eql (.t 12) (.i 1)) (.o 6 14 (.pick (.t 9) (.t 13) (.v (.bool false))) (.o 7 15 (.mov (.t 14)) (.op 8 [] (some 16) (some (15, true)) false (.load (some 2) (.t 1)) (.op 9 [] (some 17) (some (15, true)) false (.call 17 80 [(.t 16)]) (.op 10 [] (some 18) (some (15, true)) false (.bin .eql (.t 17) (.i 5)) (.o 11 19 (.pick (.t 15) (.t 18) (.v (.bool false))) (.o 12 0 (.mov (.t 19)) .done))))))))))))) .ret)))
theorem dg_laws_zones : Tryz.f15.body.bind (digC Tryz.prog Tryz.f15.ntmps []) = some c_laws_zones := by kernel_rfl
theorem rs_laws_zones : resSlots Tryz.prog Tryz.f15 = some [.s 0] := by kernel_rfl
theorem ok_laws_zones : FnOK Tryz.prog 15 [] (fun ra _ => ra = [.one (.d (.sc (.bool true)))]) := by
  refine FnOK.ofK Tryz.func15 (by kernel_rfl) dg_laws_zones rs_laws_zones rfl rfl ?_
  delta c_laws_zones T.o X.i C.g
  have e : readN (ByteArray.mk #[104, 111, 109, 101, 46]).toList = [[104, 111, 109, 101]] := by rw [bt_list]; decide
  have sa : SmallBB [[104, 111, 109, 101]] := SmallBB.ok (by decide)
  have ok := ok_laws_name ⟨#[104, 111, 109, 101, 46]⟩ (by decide)
  rw [e] at ok
  have hz : zoneOk (newZ [[104, 111, 109, 101]] 5) = true := by decide
  have ok2 := ok_impl_ZoneNew [[104, 111, 109, 101]] 5 sa
  rw [show zoneNewN [[104, 111, 109, 101]] 5 = newZ [[104, 111, 109, 101]] 5 by unfold zoneNewN; rw [hz]; rfl, hz] at ok2
  have ok3 := ok_impl_Serial (newZ [[104, 111, 109, 101]] 5) (SmallZ.top 5 sa)
  rw [show serialN (newZ [[104, 111, 109, 101]] 5) = 5 by decide] at ok3
  refine Kbc (Ka Y (Kd ?_))
  refine Kbc (Ku true ok ⟨Y, trivial⟩ Y Y Y (fun _ => ?_))
  refine Ku true ok2 ⟨⟨⟨Y, trivial⟩, leb⟩, rfl, trivial⟩ Y Y Y (fun _ => ?_)
  refine kMovT Y (kExtC Y Y (kExtC Y Y (kAlloc Y Y (Ko Y Y Y Y (Ka Y (Kdb (Kc (Ka Y (Ka Y (Ki Y (Kf Y Y (Ki Y (Ke Y Y Y (Ki Y (Kq Y Y (Ki Y (Kj Y Y Y (Kk Y (Ka Y (Ka Y (Ki Y (Ke Y Y Y (Ki Y ?_)))))))))))))))))))))))
  refine Ku true ok3 ⟨⟨⟨Y, Y, trivial⟩, leb⟩, trivial⟩ Y Y Y (fun _ => ?_)
  refine Ki Y (Kj Y Y Y (Kk Y (Ka Y (Ka Y (Kd (Kr (Er (ra := [.one (.d _)]) rfl rfl)))))))

def c_laws_same : C := (.g (.o 0 4 (.mov (.v (.bool false))) .done) (.g (.o 0 5 (.mov (.t 0)) (.o 1 6 (.b2s (.t 5)) (.o 2 7 (.mov (.t 1)) (.o 3 8 (.b2s (.t 7)) (.o 4 9 (.bin .eql (.t 6) (.t 8)) (.o 5 4 (.mov (.t 9)) .done)))))) .ret))
theorem dg_laws_same : Tryz.f17.body.bind (digC Tryz.prog Tryz.f17.ntmps []) = some c_laws_same := by kernel_rfl
theorem rs_laws_same : resSlots Tryz.prog Tryz.f17 = some [.s 4] := by kernel_rfl
theorem ok_laws_same (a b : List UInt8) :
    FnOK Tryz.prog 17 [.one (.d (encB a)), .one (.d (encB b))] (fun ra _ => ra = [.one (.d (.sc (.bool (decide (a = b)))))]) := by
  refine FnOK.ofK Tryz.func17 (by kernel_rfl) dg_laws_same rs_laws_same rfl rfl ?_
  delta c_laws_same T.o X.i C.g
  refine Kbc (Ka Y (Kdb (Kc (Ka Y (kB2s Y Y (Ka Y (kB2s Y Y (Kj Y Y Y (Ka Y (Kd (Kr (Er (ra := [.one (.d _)]) rfl ?_))))))))))))
  refine congrArg (fun z : Bool => [RA.one (RV.d (DV.sc (Value.bool z)))]) ?_
  rw [ByteArray.toList_eq, ByteArray.toList_eq, Bool.eq_iff_iff]
  simp

def wantF (l : List Rr) (b : List UInt8) (i : Nat) : Bool := decide ((l.length : Int) > 0) && (l.take i).all fun r => decide (r.text = b)
theorem wantF_zero (l : List Rr) (b : List UInt8) : wantF l b 0 = decide ((l.length : Int) > 0) := by simp [wantF]
theorem wantF_succ {l : List Rr} {b : List UInt8} {i : Nat} (h : i < l.length) : wantF l b (i + 1) = (wantF l b i && decide (l[i].text = b)) := by
  unfold wantF
  rw [← List.take_append_getElem h, List.all_append, Bool.and_assoc]
  simp
theorem wantF_all (l : List Rr) (b : List UInt8) : wantF l b l.length = mineF l b := by
  unfold wantF mineF
  rw [List.take_length]
  congr 1
  refine congrArg (fun f => l.all f) (funext fun r => ?_)
  by_cases h : r.text = b
  · rw [decide_eq_true h, h]; simp
  · rw [decide_eq_false h]; simp [h]
def c_laws_FnOwners : C := (.g (.o 0 2 (.mov (.v (.bool false))) .done) (.g (.o 0 12 (.mov (.t 0)) (.o 1 13 (.call 13 12 [(.t 12)]) (.o 2 11 (.mov (.t 13)) (.o 3 14 (.ext (.t 11) 0) (.o 4 15 (.ext (.t 11) 1) (.o 5 16 (.ext (.t 11) 2) (.o 6 3 (.alloc 3 [(.n 1), (.n 7)]) (.o 7 4 (.alloc 4 [(.n 1)]) (.op 8 [] none none false (.store (some 2) (.t 3) (.t 14)) (.op 9 [] none none false (.store (some 1) (.t 4) (.t 15)) (.o 10 5 (.mov (.t 16)) .done))))))))))) (.g (.o 0 18 (.load (some 2) (.t 3)) (.o 1 19 (.load (some 1) (.t 4)) (.o 2 20 (.mov (.t 5)) (.o 3 21 (.call 21 13 [(.t 18), (.t 19), (.t 20)]) (.o 4 17 (.mov (.t 21)) (.o 5 22 (.ext (.t 17) 0) (.o 6 23 (.ext (.t 17) 1) (.o 7 6 (.mov (.t 22)) (.o 8 7 (.mov (.t 23)) .done))))))))) (.seq (.g (.o 0 24 (.load (some 2) (.t 3)) (.o 1 25 (.call 25 14 [(.t 24)]) (.o 2 26 (.un .not (.t 25)) .done))) (.cond (.t 26) (.g (.o 0 27 (.mov (.t 6)) (.o 1 28 (.un .not (.t 27)) (.o 2 29 (.mov (.t 28)) (.op 3 [] (some 30) (some (29, true)) false (.mov (.t 7)) (.op 4 [] (some 31) (some (29, true)) false (.un .not (.t 30)) (.o 5 32 (.pick (.t 29) (.t 31) (.v (.bool false))) (.o 6 33 (.mov (.t 32)) (.op 7 [] (some 34) (some (33, true)) false (.call 34 15 []) (.o 8 35 (.pick (.t 33) (.t 34) (.v (.bool false))) (.o 9 2 (.mov (.t 35)) .done)))))))))) .ret) .skip)) (.g (.o 0 36 (.load (some 2) (.t 3)) (.o 1 37 (.load (some 1) (.t 4)) (.o 2 38 (.call 38 16 [(.t 36), (.t 37), (.i 49)]) (.o 3 8 (.mov (.t 38)) .done)))) (.g (.o 0 39 (.mov (.t 8)) (.o 1 40 (.len (.t 39)) (.o 2 41 (.bin .gtr (.t 40) (.i 0)) (.o 3 9 (.mov (.t 41)) .done)))) (.seq (.g (.o 0 10 (.mov (.i 0)) .done) (.block 0 (.loop (.seq (.g (.o 0 42 (.mov (.t 10)) (.o 1 43 (.mov (.t 8)) (.o 2 44 (.len (.t 43)) (.o 3 45 (.bin .lss (.t 42) (.t 44)) .done)))) (.cond (.t 45) .skip (.exit 0))) (.seq (.block 1 (.reg false (.o 0 48 (.mov (.t 9)) (.o 1 49 (.mov (.t 48)) (.op 2 [] (some 50) (some (49, true)) false (.mov (.t 8)) (.op 3 [] (some 51) (some (49, true)) false (.mov (.t 10)) (.op 4 [] (some 52) (some (49, true)) false (.iad 7 (.t 50) (.t 51)) (.op 5 [] (some 53) (some (49, true)) false (.fad (.t 52) 5) (.op 6 [] (some 54) (some (49, true)) false (.load none (.t 53)) (.op 7 [] (some 55) (some (49, true)) false (.mov (.t 5)) (.op 8 [] (some 56) (some (49, true)) false (.call 56 17 [(.t 54), (.t 55)]) (.o 9 57 (.pick (.t 49) (.t 56) (.v (.bool false))) (.o 10 9 (.mov (.t 57)) .done))))))))))))) (.reg false (.o 0 46 (.mov (.t 10)) (.o 1 47 (.bin .add (.t 46) (.i 1)) (.o 2 10 (.mov (.t 47)) .done))))))))) (.g (.o 0 58 (.mov (.t 6)) (.o 1 59 (.load (some 2) (.t 3)) (.o 2 60 (.load (some 1) (.t 4)) (.o 3 61 (.call 61 16 [(.t 59), (.t 60), (.i 255)]) (.o 4 62 (.len (.t 61)) (.o 5 63 (.bin .eql (.t 62) (.i 0)) (.o 6 64 (.beq false (.t 58) (.t 63)) (.o 7 65 (.mov (.t 64)) (.op 8 [] (some 66) (some (65, true)) false (.mov (.t 7)) (.op 9 [] (some 67) (some (65, true)) false (.mov (.t 9)) (.op 10 [] (some 68) (some (65, true)) false (.beq false (.t 66) (.t 67)) (.o 11 69 (.pick (.t 65) (.t 68) (.v (.bool false))) (.o 12 70 (.mov (.t 69)) (.op 13 [] (some 71) (some (70, true)) false (.call 71 15 []) (.o 14 72 (.pick (.t 70) (.t 71) (.v (.bool false))) (.o 15 2 (.mov (.t 72)) .done)))))))))))))))) .ret))))))))
theorem dg_laws_FnOwners : Tryz.f3.body.bind (digC Tryz.prog Tryz.f3.ntmps []) = some c_laws_FnOwners := by kernel_rfl
theorem rs_laws_FnOwners : resSlots Tryz.prog Tryz.f3 = some [.s 2] := by kernel_rfl
theorem ok_laws_FnOwners (code : List UInt8) (hb : (code.length : Int) ≤ 9223372036854775807) :
    FnOK Tryz.prog 3 [.one (.d (encB code))] (fun ra _ => ra = [.one (.d (.sc (.bool true)))]) := by
  refine FnOK.ofK Tryz.func3 (by kernel_rfl) dg_laws_FnOwners rs_laws_FnOwners rfl rfl ?_
  delta c_laws_FnOwners T.o X.i C.g
  have hstopo18 := trivial
  refine Kbc (Ka Y (Kdb (Kc (Ka Y (kCallX false (ok_spec_DrawOwner _ prx) ⟨Y, trivial⟩ Y (fun _ => rfl) (fun _ => rfl) (fun x0 _ hx0 => (kMovT Y (kExtC Y Y (kExtC Y Y (kExtC Y Y (kAlloc Y Y (kAlloc Y Y (kMem [(16384, ⟨1, 0, .box [.nil 1, .nil 7]⟩), (20480, ⟨1, 0, .box [.nil 1]⟩)] [(3, .c (.ptr 16384 1 0)), (14, .g [.d _, .d _]), (4, .c (.ptr 20480 1 0)), (15, .g [.d _]), (16, .c (.d _))] [] ⟨Y, Y, trivial⟩ ⟨Y, Y, Y, Y, Y, trivial⟩ Y (Ko Y Y Y Y (Ko Y Y Y Y (Ka Y (Kdb ?_)))))))))))))))))
  clear hstopo18
  obtain ⟨z, n, id⟩ := x0
  obtain ⟨hz, hn⟩ := hx0
  simp only at hz hn ⊢
  have hns := SmallBB.ok hn
  refine Kc (Ke Y Y Y (Ke Y Y Y (Ka Y (Kp (ok_impl_Owner _ _ _ prx prx) ⟨⟨⟨Y, Y, trivial⟩, leb⟩, ⟨⟨Y, trivial⟩, leb⟩, rfl, trivial⟩ Y Y Y Y Y (kMovT Y (kExtC Y Y (kExtC Y Y (Ka Y (Ka Y (Kdb (Kbc (kMem [(16384, ⟨1, 0, .box [.d _, .d _]⟩)] [(3, .c (.ptr 16384 1 0)), (24, .c (.un)), (25, .c (.un))] [] ⟨Y, trivial⟩ ⟨Y, Y, Y, trivial⟩ Y (Ke Y Y Y (Kp (ok_spec_ZoneOk _ prx) ⟨⟨⟨Y, Y, trivial⟩, leb⟩, trivial⟩ Y Y Y Y Y (Kw Y Y (Kd (kCondN Y (fun g0 => Kbc (Ka Y (Kw Y Y (Ka Y (kGN Y (fun g1 => Ki Y (Ka Y (Ki Y (Kw Y Y (Kk Y (Ka Y (Ka Y (kGN Y (fun g2 => Ki Y (Kp (ok_laws_zones) trivial rfl rfl rfl rfl rfl (Kk Y (Ka Y (Ka Y (Kd (Kr (Er (ra := [.one (.d _)]) rfl rfl)))))))) (fun g2 => Kg Y (Kl Y (Ka Y (Ka Y (Kd (Kr (Er (ra := [.one (.d _)]) rfl ?_))))))))))))))) (fun g1 => Kg Y (Kg Y (Kl Y (Ka Y (Ka Y (Kg Y (Kl Y (Ka Y (Ka Y (Kd (Kr (Er (ra := [.one (.d _)]) rfl ?_))))))))))))))))) (fun g0 => Kn (Kbc (Ke Y Y Y (Ke Y Y Y (Ku true (ok_impl_SetOf _ _ _ prx prx) ⟨⟨⟨Y, Y, trivial⟩, leb⟩, ⟨⟨Y, trivial⟩, leb⟩, rfl, trivial⟩ Y Y Y (fun _ => (Ka Y (Kdb (Kc (Ka Y (kMem [(159744, ⟨1, 0, .arr true _⟩)] [(39, .c (.arr 159744 1)), (40, .c (.un)), (41, .c (.un))] [] ⟨Y, trivial⟩ ⟨Y, Y, Y, trivial⟩ Y (Kq Y Y (Kj Y Y Y (Ka Y (Kdb (Kbc (Ka Y (Kd (Kt ?_))))))))))))))))))))))))))))))))))))
  · exfalso; simp_all [ownF]
  · exfalso; simp_all [ownF]
  have e9 : setN z n 49 = setOf z.rrs n 49 := by unfold setN; rw [g0, hn]; rfl
  have e5 : setN z n 255 = setOf z.rrs n 255 := by unfold setN; rw [g0, hn]; rfl
  have eo : ownF z n id = (decide (((setN z n 255).length : Int) = 0), mineF (setN z n 49) id) := by unfold ownF; rw [e9, e5, g0, hn]; rfl
  have hll := hz.r.len
  have hle : (setN z n 49).length ≤ z.rrs.length := by rw [e9]; exact List.length_filter_le _ _
  refine kSub (Sub.frz (j := 8) rfl rfl (Nat.zero_lt_succ _)) ?_
  refine kLoop (α := { y : Nat × Bool // y.1 ≤ (setN z n 49).length ∧ y.2 = wantF (setN z n 49) id y.1 }) (fun y => ⟨tabSl [(3, .c (.ptr (rid 3 0) 1 0)), (4, .c (.ptr (rid 4 0) 1 0)), (5, .dv (encB id)), (6, .b (ownF z n id).1), (7, .b (ownF z n id).2), (8, .dv (encR (setN z n 49))), (9, .b y.1.2), (10, .i y.1.1)], obTab 1 [(rid 3 0, ⟨1, 0, .box [.d (encBB z.origin), .d (encR z.rrs)]⟩), (rid 4 0, ⟨1, 0, .box [.d (encBB n)]⟩)], []⟩) (fun y => (setN z n 49).length - y.1.1) ⟨(0, decide (((setN z n 49).length : Int) > 0)), by simp only; exact ⟨Nat.zero_le _, (wantF_zero _ _).symm⟩⟩ .normA ?_
  rintro ⟨⟨i, w⟩, hi, hw⟩
  simp only at hi hw ⊢
  generalize hl : setN z n 49 = l at *
  rcases Nat.lt_or_ge i l.length with hlt | hge
  · cases w
    · refine Kb (Kbc (Ka Y (Ka Y (Kq Y Y (Kj Y Y Y (Kd (Km Y (fun g0 => Kn (Kb (Kt (Kc (Ka Y (Ka Y (Kg Y (Kg Y (Kg Y (Kg Y (Kg Y (Kg Y (Kg Y (Kl Y (Ka Y (Ka Y (Kd (Kv (Kc (Ka Y (kAdd Y Y om (Ka Y (Kd ?_))))))))))))))))))))))) (fun g0 => om))))))))
      refine kInv ⟨⟨(i + 1, false), by simp only; omega, by simp only; rw [wantF_succ hlt, ← hw]; rfl⟩, by simp only; omega, ?_⟩
      exact .normA
    · refine Kb (Kbc (Ka Y (Ka Y (Kq Y Y (Kj Y Y Y (Kd (Km Y (fun g0 => Kn (Kb (Kt (Kc (Ka Y (Ka Y (Ki Y (Ka Y (Ki Y (Ka Y (Ki Y (kIadR Y Y Y prl (Ki Y (kFadD Y (Ki Y (Ky Y Y (Ki Y (Ka Y (Ki Y (Kp (ok_laws_same _ _) ⟨Y, Y, trivial⟩ Y Y Y Y Y (Kk Y (Ka Y (Ka Y (Kd (Kv (Kc (Ka Y (kAdd Y Y om (Ka Y (Kd ?_)))))))))))))))))))))))))))))) (fun g0 => om))))))))
      refine kInv ⟨⟨(i + 1, decide (l[i].text = id)), by simp only; omega, by simp only; rw [wantF_succ hlt, ← hw]; rfl⟩, by simp only; omega, ?_⟩
      exact .normA
  · obtain rfl : i = l.length := by omega
    rw [wantF_all] at hw
    subst hw
    rw [eo]
    simp only
    refine Kb (Kbc (Ka Y (Ka Y (Kq Y Y (Kj Y Y Y (Kd (Km Y (fun g0 => om) (fun g0 => kExit (kExC (kExI (kExB (Kbc (Ka Y (Ke Y Y Y (Ke Y Y Y (Ku true (ok_impl_SetOf _ _ _ prx prx) ⟨⟨⟨Y, Y, trivial⟩, leb⟩, ⟨⟨Y, trivial⟩, leb⟩, rfl, trivial⟩ Y Y Y (fun _ => (Kq Y Y (Kj Y Y Y (kBeq Y Y (Ka Y (kGP Y (fun g1 => Ki Y (Ka Y (Ki Y (Ka Y (Ki Y (kBeq Y Y (Kk Y (Ka Y (Ka Y (kGP Y (fun g2 => Ki Y (Kp (ok_laws_zones) trivial rfl rfl rfl rfl rfl (Kk Y (Ka Y (Ka Y (Kd (Kr (Er (ra := [.one (.d _)]) rfl rfl)))))))) (fun g2 => (by (simp at g2))))))))))))) (fun g1 => Kg Y (Kg Y (Kg Y (Kl Y (Ka Y (Ka Y (Kg Y (Kl Y (Ka Y (Ka Y (Kd (Kr (Er (ra := [.one (.d _)]) rfl ?_)))))))))))))))))))))))))))))))))))
    exact absurd rfl (by assumption)

end Go.Proofs.YtmdmlncdjdphdaaGreat.FnOwnersFn
