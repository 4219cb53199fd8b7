/- What the functions that FnExactAdd reaches compute, one contract each; each with the bounds that it states. -/
import Derived.Shelf.SlSortCmp.WholeK
import Derived.Test.YtdfcphdolipapaaGreatFnExactAddFn1
import Derived.Test.YtdfcphdolipapaaGreatProg
import Derived.KernelRfl
set_option maxRecDepth 100000
set_option maxHeartbeats 8000000
set_option linter.unusedVariables false
set_option linter.unusedSimpArgs false
namespace Go.Proofs.YtdfcphdolipapaaGreat.FnExactAddFn
open Go Hearth Go.Proofs

def c_impl_RrOk : C := (.g (.o 0 1 (.box 1 (.t 0)) (.o 1 2 (.mov (.v (.bool false))) .done)) (.seq (.g (.o 0 7 (.fad (.t 1) 0) (.o 1 8 (.load (some 1) (.t 7)) (.o 2 9 (.call 9 90 [(.t 8)]) (.o 3 10 (.un .not (.t 9)) (.o 4 11 (.mov (.t 10)) (.op 5 [] (some 12) (some (11, false)) false (.fad (.t 1) 1) (.op 6 [] (some 13) (some (11, false)) false (.load none (.t 12)) (.op 7 [] (some 14) (some (11, false)) false (.call 14 133 [(.t 13)]) (.op 8 [] (some 15) (some (11, false)) false (.un .not (.t 14)) (.o 9 16 (.pick (.t 11) (.v (.bool true)) (.t 15)) (.o 10 17 (.mov (.t 16)) (.op 11 [] (some 18) (some (17, false)) false (.fad (.t 1) 2) (.op 12 [] (some 19) (some (17, false)) false (.load none (.t 18)) (.op 13 [] (some 20) (some (17, false)) false (.call 20 121 [(.t 19), (.i 0), (.i 100000)]) (.op 14 [] (some 21) (some (17, false)) false (.un .not (.t 20)) (.o 15 22 (.pick (.t 17) (.v (.bool true)) (.t 21)) .done)))))))))))))))) (.cond (.t 22) (.g (.o 0 2 (.mov (.v (.bool false))) .done) .ret) .skip)) (.g (.o 0 23 (.fad (.t 1) 6) (.o 1 24 (.load none (.t 23)) (.o 2 25 (.len (.t 24)) (.o 3 26 (.bin .eql (.t 25) (.i 0)) (.o 4 3 (.mov (.t 26)) .done))))) (.seq (.g (.o 0 27 (.fad (.t 1) 1) (.o 1 28 (.load none (.t 27)) (.o 2 29 (.bin .eql (.t 28) (.i 6)) .done))) (.cond (.t 29) (.reg false (.o 0 30 (.fad (.t 1) 6) (.o 1 31 (.load none (.t 30)) (.o 2 32 (.len (.t 31)) (.o 3 33 (.bin .eql (.t 32) (.i 2)) (.o 4 34 (.mov (.t 33)) (.op 5 [] (some 35) (some (34, true)) false (.fad (.t 1) 6) (.op 6 [] (some 36) (some (34, true)) false (.load none (.t 35)) (.op 7 [] (some 37) (some (34, true)) false (.iad 1 (.t 36) (.i 0)) (.op 8 [] (some 38) (some (34, true)) false (.load none (.t 37)) (.op 9 [] (some 39) (some (34, true)) false (.call 39 143 [(.t 38)]) (.o 10 40 (.pick (.t 34) (.t 39) (.v (.bool false))) (.o 11 41 (.mov (.t 40)) (.op 12 [] (some 42) (some (41, true)) false (.fad (.t 1) 6) (.op 13 [] (some 43) (some (41, true)) false (.load none (.t 42)) (.op 14 [] (some 44) (some (41, true)) false (.iad 1 (.t 43) (.i 1)) (.op 15 [] (some 45) (some (41, true)) false (.load none (.t 44)) (.op 16 [] (some 46) (some (41, true)) false (.call 46 121 [(.t 45), (.i 0), (.i 100000)]) (.o 17 47 (.pick (.t 41) (.t 46) (.v (.bool false))) (.o 18 3 (.mov (.t 47)) .done)))))))))))))))))))) .skip)) (.g (.o 0 48 (.fad (.t 1) 3) (.o 1 49 (.load none (.t 48)) (.o 2 50 (.bin .eql (.t 49) (.i 0)) (.o 3 51 (.mov (.t 50)) (.op 4 [] (some 52) (some (51, false)) false (.fad (.t 1) 1) (.op 5 [] (some 53) (some (51, false)) false (.load none (.t 52)) (.op 6 [] (some 54) (some (51, false)) false (.bin .eql (.t 53) (.i 1)) (.op 7 [] (some 55) (some (51, false)) false (.mov (.t 54)) (.op 8 [] (some 56) (some (55, true)) false (.fad (.t 1) 3) (.op 9 [] (some 57) (some (55, true)) false (.load none (.t 56)) (.op 10 [] (some 58) (some (55, true)) false (.call 58 143 [(.t 57)]) (.op 11 [] (some 59) (some (51, false)) false (.pick (.t 55) (.t 58) (.v (.bool false))) (.o 12 60 (.pick (.t 51) (.v (.bool true)) (.t 59)) (.o 13 4 (.mov (.t 60)) .done)))))))))))))) (.g (.o 0 61 (.fad (.t 1) 4) (.o 1 62 (.fad (.t 61) 0) (.o 2 63 (.load none (.t 62)) (.o 3 64 (.len (.t 63)) (.o 4 65 (.bin .eql (.t 64) (.i 0)) (.o 5 66 (.mov (.t 65)) (.op 6 [] (some 67) (some (66, false)) false (.fad (.t 1) 1) (.op 7 [] (some 68) (some (66, false)) false (.load none (.t 67)) (.op 8 [] (some 69) (some (66, false)) false (.call 69 144 [(.t 68)]) (.op 9 [] (some 70) (some (66, false)) false (.mov (.t 69)) (.op 10 [] (some 71) (some (70, true)) false (.fad (.t 1) 4) (.op 11 [] (some 72) (some (70, true)) false (.load (some 1) (.t 71)) (.op 12 [] (some 73) (some (70, true)) false (.call 73 90 [(.t 72)]) (.op 13 [] (some 74) (some (66, false)) false (.pick (.t 70) (.t 73) (.v (.bool false))) (.o 14 75 (.pick (.t 66) (.v (.bool true)) (.t 74)) (.o 15 5 (.mov (.t 75)) .done)))))))))))))))) (.g (.o 0 76 (.fad (.t 1) 5) (.o 1 77 (.load none (.t 76)) (.o 2 78 (.len (.t 77)) (.o 3 79 (.bin .eql (.t 78) (.i 0)) (.o 4 80 (.mov (.t 79)) (.op 5 [] (some 81) (some (80, false)) false (.fad (.t 1) 1) (.op 6 [] (some 82) (some (80, false)) false (.load none (.t 81)) (.op 7 [] (some 83) (some (80, false)) false (.call 83 145 [(.t 82)]) (.op 8 [] (some 84) (some (80, false)) false (.mov (.t 83)) (.op 9 [] (some 85) (some (84, true)) false (.fad (.t 1) 5) (.op 10 [] (some 86) (some (84, true)) false (.load none (.t 85)) (.op 11 [] (some 87) (some (84, true)) false (.len (.t 86)) (.op 12 [] (some 88) (some (84, true)) false (.bin .leq (.t 87) (.i 40)) (.op 13 [] (some 89) (some (80, false)) false (.pick (.t 84) (.t 88) (.v (.bool false))) (.o 14 90 (.pick (.t 80) (.v (.bool true)) (.t 89)) (.o 15 6 (.mov (.t 90)) .done)))))))))))))))) (.g (.o 0 91 (.mov (.t 3)) (.o 1 92 (.mov (.t 91)) (.op 2 [] (some 93) (some (92, true)) false (.mov (.t 4)) (.o 3 94 (.pick (.t 92) (.t 93) (.v (.bool false))) (.o 4 95 (.mov (.t 94)) (.op 5 [] (some 96) (some (95, true)) false (.mov (.t 5)) (.o 6 97 (.pick (.t 95) (.t 96) (.v (.bool false))) (.o 7 98 (.mov (.t 97)) (.op 8 [] (some 99) (some (98, true)) false (.mov (.t 6)) (.o 9 100 (.pick (.t 98) (.t 99) (.v (.bool false))) (.o 10 2 (.mov (.t 100)) .done))))))))))) .ret))))))))
theorem dg_impl_RrOk : Tryz.f60.body.bind (digC Tryz.prog Tryz.f60.ntmps []) = some c_impl_RrOk := by kernel_rfl
theorem rs_impl_RrOk : resSlots Tryz.prog Tryz.f60 = some [.s 2] := by kernel_rfl
theorem ok_impl_RrOk (r : Rr) (hs : SmallR r) :
    FnOK Tryz.prog 60 [.agg (r.cells.map .d)] (fun ra _ => ra = [.one (.d (.sc (.bool (rrOk r))))]) := by
  refine FnOK.ofK Tryz.func60 (by kernel_rfl) dg_impl_RrOk rs_impl_RrOk rfl rfl ?_
  delta c_impl_RrOk T.o X.i C.g
  have n1 := hs.n.len
  have n2 := hs.n.mem
  have t1 := hs.t.len
  have t2 := hs.t.mem
  have x1 := hs.x
  have m1 := hs.m
  refine Kbc (kBox Y Y Y Y Y (Ka Y (Kd ?_)))
  by_cases h0 : nameOk r.name = true ∧ tyOk r.ty = true ∧ (0 ≤ r.ttl ∧ r.ttl ≤ 100000)
  case neg =>
    rw [show rrOk r = false by simp only [rrOk]; revert h0; cases nameOk r.name <;> cases tyOk r.ty <;> simp <;> intros <;> omega]
    refine Kb ?_
    cases h1 : nameOk r.name
    case false => refine kSeq (kReg (kFadP rfl rfl (kLoadP rfl rfl rfl (kCallD (ok_impl_NameOk _ pr pr) ⟨⟨⟨rfl, trivial⟩, leb⟩, trivial⟩ rfl rfl rfl rfl rfl (kUn rfl rfl (kMovC rfl (kGN rfl (fun g0 => kGF rfl (kGF rfl (kGF rfl (kGF rfl (kPickT rfl (kMovC rfl (kMovC rfl (kGF rfl (kGF rfl (kGF rfl (kGF rfl (kPickT rfl (kMovC rfl (kDone (kCondT rfl (kSeq (kReg (kMovC rfl (kDone (kRet (endRetA (ra := [.one (.d _)]) rfl rfl))))))))))))))))))))) (fun g0 => (by (simp [*] at g0))))))))))
    cases h2 : tyOk r.ty
    case false => refine kSeq (kReg (kFadP rfl rfl (kLoadP rfl rfl rfl (kCallD (ok_impl_NameOk _ pr pr) ⟨⟨⟨rfl, trivial⟩, leb⟩, trivial⟩ rfl rfl rfl rfl rfl (kUn rfl rfl (kMovC rfl (kGN rfl (fun g0 => (by (simp [*] at g0))) (fun g0 => kGT rfl (kFadP rfl rfl (kGT rfl (kLoadP rfl rfl rfl (kGT rfl (kCallD (ok_impl_TypeOk _) ⟨rfl, trivial⟩ rfl rfl rfl rfl rfl (kGT rfl (kUn rfl rfl (kPickF rfl (kMovC rfl (kMovC rfl (kGN rfl (fun g1 => kGF rfl (kGF rfl (kGF rfl (kGF rfl (kPickT rfl (kMovC rfl (kDone (kCondT rfl (kSeq (kReg (kMovC rfl (kDone (kRet (endRetA (ra := [.one (.d _)]) rfl rfl)))))))))))))) (fun g1 => (by (simp [*] at g1))))))))))))))))))))))
    have h3 : ¬ (0 ≤ r.ttl ∧ r.ttl ≤ 100000) := fun h => h0 ⟨h1, h2, h⟩
    refine Kbc (Kf Y Y (Ke Y Y Y (Kp (ok_impl_NameOk _ pr pr) ⟨⟨⟨Y, trivial⟩, leb⟩, trivial⟩ Y Y Y Y Y (Kw Y Y (Ka Y (kGN Y (fun g0 => (by (simp [*] at g0))) (fun g0 => Ki Y (Kf Y Y (Ki Y (Ke Y Y Y (Ki Y (Kp (ok_impl_TypeOk _) ⟨Y, trivial⟩ Y Y Y Y Y (Ki Y (Kw Y Y (Kl Y (Ka Y (Ka Y (kGN Y (fun g1 => (by (simp [*] at g1))) (fun g1 => Ki Y (Kf Y Y (Ki Y (Ke Y Y Y (Ki Y (Kp (ok_impl_within _ _ _) ⟨Y, Y, Y, trivial⟩ Y Y Y Y Y (Ki Y (Kw Y Y (Kl Y (Ka Y (Kd (kCondN Y (fun g2 => Kbc (Ka Y (Kd (Kr (Er (ra := [.one (.d _)]) rfl rfl))))) (fun g2 => (by (simp [*] at g2)))))))))))))))))))))))))))))))))
  obtain ⟨h1, h2, h3⟩ := h0
  rw [show rrOk r = dataOk r by simp only [rrOk]; rw [h1, h2, decide_eq_true h3.1, decide_eq_true h3.2]; rfl]
  refine Kb (kCut ⟨tabSl [(1, .c (.ptr (rid 1 0) 1 0))], obTab 1 [(rid 1 0, ⟨1, 0, .box (r.cells.map .d)⟩)], []⟩ ?_ (fun x hc => ?_))
  case refine_2 =>
    refine Kbc (Kf Y Y (Ke Y Y Y (Kp (ok_impl_NameOk _ pr pr) ⟨⟨⟨Y, trivial⟩, leb⟩, trivial⟩ Y Y Y Y Y (Kw Y Y (Ka Y (kGN Y (fun g0 => (by (simp [*] at g0))) (fun g0 => Ki Y (Kf Y Y (Ki Y (Ke Y Y Y (Ki Y (Kp (ok_impl_TypeOk _) ⟨Y, trivial⟩ Y Y Y Y Y (Ki Y (Kw Y Y (Kl Y (Ka Y (Ka Y (kGN Y (fun g1 => (by (simp [*] at g1))) (fun g1 => Ki Y (Kf Y Y (Ki Y (Ke Y Y Y (Ki Y (Kp (ok_impl_within _ _ _) ⟨Y, Y, Y, trivial⟩ Y Y Y Y Y (Ki Y (Kw Y Y (Kl Y (Ka Y (Kd (kCondN Y (fun g2 => (by (simp [*] at g2))) (fun g2 => Kn (hc _ .normA))))))))))))))))))))))))))))))))
  refine Kb (kCut ⟨tabSl [(1, .c (.ptr (rid 1 0) 1 0)), (3, .b (((r.nums.length : Int) == 0)))], obTab 1 [(rid 1 0, ⟨1, 0, .box (r.cells.map .d)⟩)], []⟩ ?_ (fun x hc => ?_))
  case refine_2 => refine kReg (kFadP rfl rfl (kLoadP rfl rfl rfl (kLenR rfl rfl (kBin rfl rfl rfl (kMovC rfl (kDone (hc _ .normA)))))))
  refine Kb (kCut ⟨tabSl [(1, .c (.ptr (rid 1 0) 1 0)), (3, .b ((if r.ty == 6 then numsOk r.nums else ((r.nums.length : Int) == 0))))], obTab 1 [(rid 1 0, ⟨1, 0, .box (r.cells.map .d)⟩)], []⟩ ?_ (fun x hc => ?_))
  case refine_2 =>
    refine Kbc (Kf Y Y (Ke Y Y Y (Kj Y Y Y (Kd (Km Y (fun g0 => Kc (Kf Y Y (Ke Y Y Y (Kq Y Y (Kj Y Y Y (Ka Y (kGP Y (fun g1 => Ki Y (Kf Y Y (Ki Y (Ke Y Y Y (Ki Y (kIadR Y Y Y om (Ki Y (Ky Y Y (Ki Y (Kp (ok_impl_isWord _) ⟨Y, trivial⟩ Y Y Y Y Y (Kk Y (Ka Y (Ka Y (kGS Y (fun g2 => Ki Y (Kf Y Y (Ki Y (Ke Y Y Y (Ki Y (kIadR Y Y Y om (Ki Y (Ky Y Y (Ki Y (Kp (ok_impl_within _ _ _) ⟨Y, Y, Y, trivial⟩ Y Y Y Y Y (Kk Y (Ka Y (Ka Y (Kd (hc _ .normA))))))))))))))) (fun g2 => Kg Y (Kg Y (Kg Y (Kg Y (Kg Y (Kl Y (Ka Y (Ka Y (Kd (hc _ .normA)))))))))))))))))))))))) (fun g1 => Kg Y (Kg Y (Kg Y (Kg Y (Kg Y (Kl Y (Ka Y (Ka Y (Kg Y (Kg Y (Kg Y (Kg Y (Kg Y (Kl Y (Ka Y (Ka Y (Kd (hc _ .normA))))))))))))))))))))))))) (fun g0 => Kn (hc _ .normA)))))))
  refine Kb (kCut ⟨tabSl [(1, .c (.ptr (rid 1 0) 1 0)), (3, .b ((if r.ty == 6 then numsOk r.nums else ((r.nums.length : Int) == 0)))), (4, .b ((if r.ty == 1 then isW r.addr else r.addr == 0)))], obTab 1 [(rid 1 0, ⟨1, 0, .box (r.cells.map .d)⟩)], []⟩ ?_ (fun x hc => ?_))
  case refine_2 =>
    refine Kc (Kf Y Y (Ke Y Y Y (Kj Y Y Y (Ka Y (kGP Y (fun g0 => Kg Y (Kg Y (Kg Y (Kg Y (kGU Y (kGU Y (kGU Y (Kg Y (Kk Y (Ka Y (Ka Y (Kd (hc _ .normA))))))))))))) (fun g0 => Ki Y (Kf Y Y (Ki Y (Ke Y Y Y (Ki Y (Kj Y Y Y (Ki Y (Ka Y (kGP Y (fun g1 => Ki Y (Kf Y Y (Ki Y (Ke Y Y Y (Ki Y (Kp (ok_impl_isWord _) ⟨Y, trivial⟩ Y Y Y Y Y (Ki Y (Kk Y (Ka Y (Kl Y (Ka Y (Ka Y (Kd (hc _ .normA)))))))))))))) (fun g1 => Kg Y (Kg Y (Kg Y (Ki Y (Kl Y (Ka Y (Kl Y (Ka Y (Ka Y (Kd (hc _ .normA)))))))))))))))))))))))))
  refine Kb (kCut ⟨tabSl [(1, .c (.ptr (rid 1 0) 1 0)), (3, .b ((if r.ty == 6 then numsOk r.nums else ((r.nums.length : Int) == 0)))), (4, .b ((if r.ty == 1 then isW r.addr else r.addr == 0))), (5, .b ((if hasTo r.ty then nameOk r.to else ((r.to.length : Int) == 0))))], obTab 1 [(rid 1 0, ⟨1, 0, .box (r.cells.map .d)⟩)], []⟩ ?_ (fun x hc => ?_))
  case refine_2 =>
    refine Kc (Kf Y Y (Kf Y Y (Ke Y Y Y (Kq Y Y (Kj Y Y Y (Ka Y (kGP Y (fun g0 => Kg Y (Kg Y (Kg Y (Kg Y (kGU Y (kGU Y (kGU Y (Kg Y (Kk Y (Ka Y (Ka Y (Kd (hc _ .normA))))))))))))) (fun g0 => Ki Y (Kf Y Y (Ki Y (Ke Y Y Y (Ki Y (Kp (ok_impl_hasTo _) ⟨Y, trivial⟩ Y Y Y Y Y (Ki Y (Ka Y (kGS Y (fun g1 => Ki Y (Kf Y Y (Ki Y (Ke Y Y Y (Ki Y (Kp (ok_impl_NameOk _ pr pr) ⟨⟨⟨Y, trivial⟩, leb⟩, trivial⟩ Y Y Y Y Y (Ki Y (Kk Y (Ka Y (Kl Y (Ka Y (Ka Y (Kd (hc _ .normA)))))))))))))) (fun g1 => Kg Y (Kg Y (Kg Y (Ki Y (Kl Y (Ka Y (Kl Y (Ka Y (Ka Y (Kd (hc _ .normA)))))))))))))))))))))))))))
  refine Kb (kCut ⟨tabSl [(1, .c (.ptr (rid 1 0) 1 0)), (3, .b ((if r.ty == 6 then numsOk r.nums else ((r.nums.length : Int) == 0)))), (4, .b ((if r.ty == 1 then isW r.addr else r.addr == 0))), (5, .b ((if hasTo r.ty then nameOk r.to else ((r.to.length : Int) == 0)))), (6, .b ((if hasText r.ty then decide ((r.text.length : Int) ≤ 40) else ((r.text.length : Int) == 0))))], obTab 1 [(rid 1 0, ⟨1, 0, .box (r.cells.map .d)⟩)], []⟩ ?_ (fun x hc => ?_))
  case refine_2 =>
    refine Kc (Kf Y Y (Ke Y Y Y (Kq Y Y (Kj Y Y Y (Ka Y (kGP Y (fun g0 => Kg Y (Kg Y (Kg Y (Kg Y (kGU Y (kGU Y (kGU Y (kGU Y (Kg Y (Kk Y (Ka Y (Ka Y (Kd (hc _ .normA)))))))))))))) (fun g0 => Ki Y (Kf Y Y (Ki Y (Ke Y Y Y (Ki Y (Kp (ok_impl_hasText _) ⟨Y, trivial⟩ Y Y Y Y Y (Ki Y (Ka Y (kGS Y (fun g1 => Ki Y (Kf Y Y (Ki Y (Ke Y Y Y (Ki Y (Kq Y Y (Ki Y (Kj Y Y Y (Ki Y (Kk Y (Ka Y (Kl Y (Ka Y (Ka Y (Kd (hc _ .normA)))))))))))))))) (fun g1 => Kg Y (Kg Y (Kg Y (Kg Y (Ki Y (Kl Y (Ka Y (Kl Y (Ka Y (Ka Y (Kd (hc _ .normA)))))))))))))))))))))))))))
  refine Kbc (Ka Y (Ka Y (kGS Y (fun g0 => Ki Y (Ka Y (Kk Y (Ka Y (Ka Y (kGS Y (fun g1 => Ki Y (Ka Y (Kk Y (Ka Y (Ka Y (kGS Y (fun g2 => Ki Y (Ka Y (Kk Y (Ka Y (Ka Y (Kd (Kr (Er (ra := [.one (.d _)]) rfl ?_)))))))) (fun g2 => Kg Y (Kl Y (Ka Y (Ka Y (Kd (Kr (Er (ra := [.one (.d _)]) rfl ?_))))))))))))) (fun g1 => Kg Y (Kl Y (Ka Y (Ka Y (Kg Y (Kl Y (Ka Y (Ka Y (Kd (Kr (Er (ra := [.one (.d _)]) rfl ?_))))))))))))))))) (fun g0 => Kg Y (Kl Y (Ka Y (Ka Y (Kg Y (Kl Y (Ka Y (Ka Y (Kg Y (Kl Y (Ka Y (Ka Y (Kd (Kr (Er (ra := [.one (.d _)]) rfl ?_))))))))))))))))))
  all_goals simp only [dataOk, *, Bool.true_and, Bool.false_and, Bool.and_true, Bool.and_false]

def c_impl_all_impl_Rr_1 : C := (.g (.o 0 2 (.box 2 (.t 0)) (.o 1 3 (.mov (.v (.bool false))) .done)) (.g (.o 0 4 (.load none (.t 1)) (.o 1 5 (.load (some 7) (.t 2)) (.o 2 6 (.callv 6 (.t 4) [(.t 5)]) (.o 3 7 (.un .not (.t 6)) (.o 4 3 (.mov (.t 7)) .done))))) .ret))
theorem dg_impl_all_impl_Rr_1 : Tryz.f174.body.bind (digC Tryz.prog Tryz.f174.ntmps []) = some c_impl_all_impl_Rr_1 := by kernel_rfl
theorem rs_impl_all_impl_Rr_1 : resSlots Tryz.prog Tryz.f174 = some [.s 3] := by kernel_rfl
theorem ok_impl_all_impl_Rr_1 (x : Rr) (D : Rr → Prop) (g : Rr → Bool) (hx : D x) :
    FnOK Tryz.prog 174 [.agg (x.cells.map .d), .one (.ptr [.fv false (fcAgg D Rr.cells g)])] (fun ra _ => ra = [.one (.d (.sc (.bool (!g x))))]) := by
  refine FnOK.ofK Tryz.func174 (by kernel_rfl) dg_impl_all_impl_Rr_1 rs_impl_all_impl_Rr_1 rfl rfl ?_
  delta c_impl_all_impl_Rr_1 T.o X.i C.g
  refine Kbc (kBox Y Y Y Y Y (Ka Y (Kdb (Kc (kLoadC Y Y (Ke Y Y Y ?_))))))
  refine kCallv Y ⟨x, hx, rfl, rfl⟩ ⟨⟨⟨Y, Y, Y, Y, Y, Y, Y, trivial⟩, leb⟩, trivial⟩ (.inr ?_) rfl ?_ rfl ?_
  · rintro _ rfl; rfl
  · rintro _ rfl; exact leb
  rintro _ rfl
  refine Kw Y Y (Ka Y (Kd (Kr (Er (ra := [.one (.d _)]) rfl rfl))))

def c_slices_IndexFunc_Limpl_Rr_impl_Rr : C := (.g (.o 0 4 (.mov (.i 0)) .done) (.seq (.g (.o 0 6 (.mov (.t 0)) (.o 1 7 (.len (.t 6)) (.o 2 8 (.mov (.i 0)) .done))) (.block 0 (.loop (.g (.o 0 9 (.bin .lss (.t 8) (.t 7)) .done) (.seq (.cond (.t 9) .skip (.exit 0)) (.seq (.block 1 (.g (.o 0 10 (.mov (.t 8)) (.o 1 5 (.mov (.t 10)) .done)) (.g (.o 0 11 (.mov (.t 1)) (.o 1 12 (.mov (.t 0)) (.o 2 13 (.mov (.t 5)) (.o 3 14 (.iad 7 (.t 12) (.t 13)) (.o 4 15 (.load (some 7) (.t 14)) (.o 5 16 (.callv 16 (.t 11) [(.t 15)]) .done)))))) (.cond (.t 16) (.g (.o 0 17 (.mov (.t 5)) (.o 1 4 (.mov (.t 17)) .done)) .ret) .skip)))) (.reg false (.o 0 18 (.bin .add (.t 8) (.i 1)) (.o 1 8 (.mov (.t 18)) .done))))))))) (.g (.o 0 4 (.mov (.i (-1))) .done) .ret)))
theorem dg_slices_IndexFunc_Limpl_Rr_impl_Rr : Tryz.f244.body.bind (digC Tryz.prog Tryz.f244.ntmps []) = some c_slices_IndexFunc_Limpl_Rr_impl_Rr := by kernel_rfl
theorem rs_slices_IndexFunc_Limpl_Rr_impl_Rr : resSlots Tryz.prog Tryz.f244 = some [.s 4] := by kernel_rfl
theorem ok_slices_IndexFunc_Limpl_Rr_impl_Rr (l : List Rr) (D : Rr → Prop) (g : Rr → Bool) (hl : l.length ≤ 4194304) (hD : ∀ x ∈ l, D x) :
    FnOK Tryz.prog 244 [.one (.d (encR l)), .one (.fv false (fcAgg D Rr.cells g))] (fun ra _ => ra = [.one (.d (.sc (.int .i64 (idx g l))))]) := by
  refine FnOK.ofK Tryz.func244 (by kernel_rfl) dg_slices_IndexFunc_Limpl_Rr_impl_Rr rs_slices_IndexFunc_Limpl_Rr_impl_Rr rfl rfl ?_
  delta c_slices_IndexFunc_Limpl_Rr_impl_Rr T.o X.i C.g
  refine Kbc (Ka Y (Kdb (Kbc (Ka Y (Kq Y Y (Ka Y (Kd (Kt ?_))))))))
  refine kLoop (α := { i : Nat // i ≤ l.length ∧ ∀ x ∈ l.take i, g x = false })
    (fun y => ⟨tabSl [(0, .dv (encR l)), (1, .c (.fv false (fcAgg D Rr.cells g))), (7, .i l.length), (8, .i y.1)], obTab 1 [], []⟩) (fun y => l.length - y.1) ⟨0, by simp⟩
    .normA ?_
  rintro ⟨i, hi, hg⟩
  simp only
  rcases Nat.lt_or_ge i l.length with hlt | hge
  · refine Kbc (Kj Y Y Y (Kdb (Km Y (fun g0 => Kn (Kb (Kt (Kbc (Ka Y (Ka Y (Kdb (Kc (Ka Y (Ka Y (Ka Y (kIadR Y Y Y om (Ky Y Y ?_))))))))))))) (fun g0 => om))))
    refine kCallv Y ⟨l[i], hD _ (List.getElem_mem hlt), rfl, rfl⟩ ⟨⟨⟨Y, Y, Y, Y, Y, Y, Y, trivial⟩, leb⟩, trivial⟩ (.inr ?_) rfl ?_ rfl ?_
    · rintro _ rfl; rfl
    · rintro _ rfl; exact leb
    rintro _ rfl
    refine Kd (kCond Y (fun g0 => Kbc (Ka Y (Ka Y (Kd (Kr (Er (ra := [.one (.d _)]) rfl ?_)))))) (fun g0 => Kn (Kv (Kc (kAdd Y Y om (Ka Y (Kd ?_)))))))
    · have : l.findIdx? g = some i := by
        rw [List.findIdx?_eq_some_iff_getElem]
        refine ⟨hlt, by assumption, fun j hj => ?_⟩
        simpa using hg _ (by rw [List.mem_take_iff_getElem]; exact ⟨j, by omega, rfl⟩)
      simp [idx, this]
    · refine kInv ⟨⟨i + 1, hlt, ?_⟩, by simp only; omega, .normA⟩
      intro x hx
      rw [← List.take_append_getElem hlt, List.mem_append] at hx
      rcases hx with hx | hx
      · exact hg x hx
      · simp at hx; rw [hx]; assumption
  · refine Kbc (Kj Y Y Y (Kdb (Km Y (fun g0 => om) (fun g0 => kExit (kExC (kExI (kExB (Kbc (Ka Y (Kd (Kr (Er (ra := [.one (.d _)]) rfl ?_))))))))))))
    have : l.findIdx? g = none := by
      rw [List.findIdx?_eq_none_iff]
      intro x hx
      rw [show i = l.length by omega, List.take_length] at hg
      exact hg x hx
    simp [idx, this]

def c_slices_ContainsFunc_Limpl_Rr_impl_Rr : C := (.g (.o 0 4 (.mov (.v (.bool false))) .done) (.g (.o 0 5 (.mov (.t 0)) (.o 1 6 (.mov (.t 1)) (.o 2 7 (.call 7 244 [(.t 5), (.t 6)]) (.o 3 8 (.bin .geq (.t 7) (.i 0)) (.o 4 4 (.mov (.t 8)) .done))))) .ret))
theorem dg_slices_ContainsFunc_Limpl_Rr_impl_Rr : Tryz.f173.body.bind (digC Tryz.prog Tryz.f173.ntmps []) = some c_slices_ContainsFunc_Limpl_Rr_impl_Rr := by kernel_rfl
theorem rs_slices_ContainsFunc_Limpl_Rr_impl_Rr : resSlots Tryz.prog Tryz.f173 = some [.s 4] := by kernel_rfl
theorem ok_slices_ContainsFunc_Limpl_Rr_impl_Rr (l : List Rr) (D : Rr → Prop) (g : Rr → Bool) (hl : l.length ≤ 4194304) (hD : ∀ x ∈ l, D x) :
    FnOK Tryz.prog 173 [.one (.d (encR l)), .one (.fv false (fcAgg D Rr.cells g))] (fun ra _ => ra = [.one (.d (.sc (.bool (l.any g))))]) := by
  refine FnOK.ofK Tryz.func173 (by kernel_rfl) dg_slices_ContainsFunc_Limpl_Rr_impl_Rr rs_slices_ContainsFunc_Limpl_Rr_impl_Rr rfl rfl ?_
  delta c_slices_ContainsFunc_Limpl_Rr_impl_Rr T.o X.i C.g
  refine Kbc (Ka Y (Kdb (Kc (Ka Y (Ka Y ?_)))))
  refine Ku true (ok_slices_IndexFunc_Limpl_Rr_impl_Rr l D g hl hD) ⟨rfl, ⟨fun h => h, fun _ _ h => h⟩, trivial⟩ rfl rfl rfl fun os => ?_
  rw [← idx_ge g l]
  refine Kj Y Y Y (Ka Y (Kd (Kr (Er (ra := [.one (.d _)]) rfl rfl))))

def c_impl_all_impl_Rr : C := (.g (.o 0 3 (.box 3 (.t 1)) (.o 1 4 (.mov (.v (.bool false))) .done)) (.g (.o 0 5 (.mov (.t 0)) (.o 1 6 (.clo 174 [] [(.t 3)]) (.o 2 7 (.call 7 173 [(.t 5), (.t 6)]) (.o 3 8 (.un .not (.t 7)) (.o 4 4 (.mov (.t 8)) .done))))) .ret))
theorem dg_impl_all_impl_Rr : Tryz.f93.body.bind (digC Tryz.prog Tryz.f93.ntmps []) = some c_impl_all_impl_Rr := by kernel_rfl
theorem rs_impl_all_impl_Rr : resSlots Tryz.prog Tryz.f93 = some [.s 4] := by kernel_rfl
theorem ok_impl_all_impl_Rr (l : List Rr) (D : Rr → Prop) (g : Rr → Bool) (hl : l.length ≤ 4194304) (hD : ∀ x ∈ l, D x) :
    FnOK Tryz.prog 93 [.one (.d (encR l)), .one (.fv false (fcAgg D Rr.cells g))] (fun ra _ => ra = [.one (.d (.sc (.bool (l.all g))))]) := by
  refine FnOK.ofK Tryz.func93 (by kernel_rfl) dg_impl_all_impl_Rr rs_impl_all_impl_Rr rfl rfl ?_
  delta c_impl_all_impl_Rr T.o X.i C.g
  refine Kbc (kBox Y Y Y Y Y (Ka Y (Kdb (Kc (Ka Y (kClo Y Y ?_))))))
  refine Ku true (ok_slices_ContainsFunc_Limpl_Rr_impl_Rr l D (fun x => !g x) hl hD) ⟨rfl, ⟨rfl, ⟨_, Tryz.func174, rfl, by kernel_rfl⟩, _, rfl, ?_⟩, trivial⟩ rfl rfl rfl fun os => ?_
  · rintro _ R ⟨x, hx, rfl, rfl⟩
    exact ⟨by rintro _ rfl; rfl, ok_impl_all_impl_Rr_1 x D g hx⟩
  rw [List.all_eq_not_any_not]
  refine Kw Y Y (Ka Y (Kd (Kr (Er (ra := [.one (.d _)]) rfl rfl))))

theorem ok_bytes_Compare (a b : List UInt8) : FnOK Tryz.prog 178 [.one (.d (encB a)), .one (.d (encB b))] (fun ra _ => ra = [.one (.d (.sc (.int .i64 (cmpB a b))))]) := by
  refine FnOK.ofWalkB Tryz.func178 rfl (by kernel_rfl) fun w va vb h1 h2 => ?_
  have hc := run_compare (P := Tryz.prog) (w := w) (va := va) (vb := vb) Tryz.func246 (by kernel_rfl) rfl (by kernel_rfl) (by kernel_rfl) h1 h2
  go_enter Tryz.func178, Tryz.ntmps178
  go_wp2
  all_goals go_ret
  exact ⟨rfl, Go.RowKit.Below.refl _ _, by first | exact Nat.le_refl _ | exact Nat.le_succ _ | (simp only [Go.World.drew, Go.World.drewN]; omega)⟩

def c_cmp_isNaN_int : C := (.g (.o 0 2 (.mov (.v (.bool false))) .done) (.g (.o 0 3 (.mov (.t 0)) (.o 1 4 (.mov (.t 0)) (.o 2 5 (.bin .neq (.t 3) (.t 4)) (.o 3 2 (.mov (.t 5)) .done)))) .ret))
theorem dg_cmp_isNaN_int : Tryz.f245.body.bind (digC Tryz.prog Tryz.f245.ntmps []) = some c_cmp_isNaN_int := by kernel_rfl
theorem rs_cmp_isNaN_int : resSlots Tryz.prog Tryz.f245 = some [.s 2] := by kernel_rfl
theorem ok_cmp_isNaN_int (a : Int) :
    FnOK Tryz.prog 245 [.one (.d (.sc (.int .i64 a)))] (fun ra _ => ra = [.one (.d (.sc (.bool false)))]) := by
  refine FnOK.ofK Tryz.func245 (by kernel_rfl) dg_cmp_isNaN_int rs_cmp_isNaN_int rfl rfl ?_
  delta c_cmp_isNaN_int T.o X.i C.g
  refine Kbc (Ka Y (Kdb (Kc (Ka Y (Ka Y (Kj Y Y Y (Ka Y (Kd (Kr (Er (ra := [.one (.d _)]) rfl ?_))))))))))
  rw [show (a != a) = false by simp]

def c_cmp_Compare_int : C := (.g (.o 0 4 (.mov (.i 0)) .done) (.g (.o 0 7 (.mov (.t 0)) (.o 1 8 (.call 8 245 [(.t 7)]) (.o 2 5 (.mov (.t 8)) .done))) (.g (.o 0 9 (.mov (.t 1)) (.o 1 10 (.call 10 245 [(.t 9)]) (.o 2 6 (.mov (.t 10)) .done))) (.seq (.g (.o 0 11 (.mov (.t 5)) .done) (.cond (.t 11) (.seq (.g (.o 0 12 (.mov (.t 6)) .done) (.cond (.t 12) (.g (.o 0 4 (.mov (.i 0)) .done) .ret) .skip)) (.g (.o 0 4 (.mov (.i (-1))) .done) .ret)) .skip)) (.seq (.g (.o 0 13 (.mov (.t 6)) .done) (.cond (.t 13) (.g (.o 0 4 (.mov (.i 1)) .done) .ret) .skip)) (.seq (.g (.o 0 14 (.mov (.t 0)) (.o 1 15 (.mov (.t 1)) (.o 2 16 (.bin .lss (.t 14) (.t 15)) .done))) (.cond (.t 16) (.g (.o 0 4 (.mov (.i (-1))) .done) .ret) .skip)) (.seq (.g (.o 0 17 (.mov (.t 0)) (.o 1 18 (.mov (.t 1)) (.o 2 19 (.bin .gtr (.t 17) (.t 18)) .done))) (.cond (.t 19) (.g (.o 0 4 (.mov (.i 1)) .done) .ret) .skip)) (.g (.o 0 4 (.mov (.i 0)) .done) .ret))))))))
theorem dg_cmp_Compare_int : Tryz.f177.body.bind (digC Tryz.prog Tryz.f177.ntmps []) = some c_cmp_Compare_int := by kernel_rfl
theorem rs_cmp_Compare_int : resSlots Tryz.prog Tryz.f177 = some [.s 4] := by kernel_rfl
theorem ok_cmp_Compare_int (a b : Int) :
    FnOK Tryz.prog 177 [.one (.d (.sc (.int .i64 a))), .one (.d (.sc (.int .i64 b)))] (fun ra _ => ra = [.one (.d (.sc (.int .i64 (cmpI a b))))]) := by
  refine FnOK.ofK Tryz.func177 (by kernel_rfl) dg_cmp_Compare_int rs_cmp_Compare_int rfl rfl ?_
  delta c_cmp_Compare_int T.o X.i C.g
  refine Kbc (Ka Y (Kdb (Kc (Ka Y (Kp (ok_cmp_isNaN_int _) ⟨Y, trivial⟩ Y Y Y Y Y (Ka Y (Kdb (Kc (Ka Y (Kp (ok_cmp_isNaN_int _) ⟨Y, trivial⟩ Y Y Y Y Y (Ka Y (Kdb (Kbc (Ka Y (Kd (kCondF Y (Kn (Kb (Kbc (Ka Y (Kd (kCondF Y (Kn (Kb (Kbc (Ka Y (Ka Y (Kj Y Y Y (Kd (Km Y (fun g0 => Kbc (Ka Y (Kd (Kr (Er (ra := [.one (.d _)]) rfl ?_))))) (fun g0 => Kn (Kb (Kbc (Ka Y (Ka Y (Kj Y Y Y (Kd (Km Y (fun g1 => Kbc (Ka Y (Kd (Kr (Er (ra := [.one (.d _)]) rfl ?_))))) (fun g1 => Kn (Kbc (Ka Y (Kd (Kr (Er (ra := [.one (.d _)]) rfl ?_))))))))))))))))))))))))))))))))))))))))))))
  all_goals (refine congrArg (fun z : Int => [RA.one (RV.d (DV.sc (Value.int IntKind.i64 z)))]) ?_; unfold cmpI; split <;> first | omega | (split <;> omega))

def c_impl_Name_compare : C := (.g (.o 0 2 (.box 2 (.t 0)) (.o 1 3 (.box 3 (.t 1)) (.o 2 4 (.mov (.i 0)) .done))) (.seq (.g (.o 0 5 (.mov (.i 1)) .done) (.block 0 (.loop (.seq (.g (.o 0 7 (.mov (.t 5)) (.o 1 8 (.fad (.t 2) 0) (.o 2 9 (.load none (.t 8)) (.o 3 10 (.len (.t 9)) (.o 4 11 (.fad (.t 3) 0) (.o 5 12 (.load none (.t 11)) (.o 6 13 (.len (.t 12)) (.o 7 14 (.mm false (.t 10) (.t 13)) (.o 8 15 (.bin .leq (.t 7) (.t 14)) .done))))))))) (.cond (.t 15) .skip (.exit 0))) (.seq (.block 1 (.seq (.reg true (.op 0 [] (some 18) none true (.fad (.t 2) 0) (.op 1 [] (some 19) none true (.load none (.t 18)) (.op 2 [] (some 20) none true (.fad (.t 2) 0) (.op 3 [] (some 21) none true (.load none (.t 20)) (.op 4 [] (some 22) none true (.len (.t 21)) (.op 5 [] (some 23) none true (.mov (.t 5)) (.op 6 [] (some 24) none true (.bin .sub (.t 22) (.t 23)) (.op 7 [] (some 25) none true (.iad 1 (.t 19) (.t 24)) (.op 8 [] (some 26) none true (.load none (.t 25)) (.op 9 [] (some 27) none true (.fad (.t 3) 0) (.op 10 [] (some 28) none true (.load none (.t 27)) (.op 11 [] (some 29) none true (.fad (.t 3) 0) (.op 12 [] (some 30) none true (.load none (.t 29)) (.op 13 [] (some 31) none true (.len (.t 30)) (.op 14 [] (some 32) none true (.mov (.t 5)) (.op 15 [] (some 33) none true (.bin .sub (.t 31) (.t 32)) (.op 16 [] (some 34) none true (.iad 1 (.t 28) (.t 33)) (.op 17 [] (some 35) none true (.load none (.t 34)) (.op 18 [8, 1, 3, 17, 10, 12] (some 36) none false (.call 36 178 [(.t 26), (.t 35)]) (.op 19 [] (some 6) none true (.mov (.t 36)) .done))))))))))))))))))))) (.g (.o 0 37 (.mov (.t 6)) (.o 1 38 (.bin .neq (.t 37) (.i 0)) .done)) (.cond (.t 38) (.g (.o 0 39 (.mov (.t 6)) (.o 1 4 (.mov (.t 39)) .done)) .ret) .skip)))) (.reg false (.o 0 16 (.mov (.t 5)) (.o 1 17 (.bin .add (.t 16) (.i 1)) (.o 2 5 (.mov (.t 17)) .done))))))))) (.g (.o 0 40 (.fad (.t 2) 0) (.o 1 41 (.load none (.t 40)) (.o 2 42 (.len (.t 41)) (.o 3 43 (.fad (.t 3) 0) (.o 4 44 (.load none (.t 43)) (.o 5 45 (.len (.t 44)) (.o 6 46 (.call 46 177 [(.t 42), (.t 45)]) (.o 7 4 (.mov (.t 46)) .done)))))))) .ret)))
theorem dg_impl_Name_compare : Tryz.f176.body.bind (digC Tryz.prog Tryz.f176.ntmps []) = some c_impl_Name_compare := by kernel_rfl
theorem rs_impl_Name_compare : resSlots Tryz.prog Tryz.f176 = some [.s 4] := by kernel_rfl
theorem ok_impl_Name_compare (a b : List (List UInt8)) (ha : a.length ≤ 4194304) (hb : b.length ≤ 4194304) :
    FnOK Tryz.prog 176 [.agg [.d (encBB a)], .agg [.d (encBB b)]] (fun ra _ => ra = [.one (.d (.sc (.int .i64 (cmpN a b))))]) := by
  refine FnOK.ofK Tryz.func176 (by kernel_rfl) dg_impl_Name_compare rs_impl_Name_compare rfl rfl ?_
  delta c_impl_Name_compare T.o X.i C.g
  refine Kbc (kBox Y Y Y Y Y (kBox Y Y Y Y Y (Ka Y (Kdb (Kbc (Ka Y (Kd (Kt ?_))))))))
  refine kLoop (α := { k : Nat // k ≤ a.length ∧ k ≤ b.length ∧ cmpN a b = cmpL (a.reverse.drop k) (b.reverse.drop k) })
    (fun y => ⟨tabSl [(2, .c (.ptr (rid 2 0) 1 0)), (3, .c (.ptr (rid 3 0) 1 0)), (5, .i (y.1 + 1))], obTab 1 [(rid 2 0, ⟨1, 0, .box [.d (encBB a)]⟩), (rid 3 0, ⟨1, 0, .box [.d (encBB b)]⟩)], []⟩) (fun y => a.length - y.1) ⟨0, by simp [cmpN]⟩
    .normA ?_
  rintro ⟨k, h1, h2, h3⟩
  simp only
  rcases Nat.lt_or_ge k a.length with hla | hga
  · rcases Nat.lt_or_ge k b.length with hlb | hgb
    · have hst := cmpL_step a b k hla hlb (a.length - (k + 1) : Int).toNat (b.length - (k + 1) : Int).toNat (by omega) (by omega)
      refine Kb (Kbc (Ka Y (Kf Y Y (Ke Y Y Y (Kq Y Y (Kf Y Y (Ke Y Y Y (Kq Y Y (kMmMin Y Y (Kj Y Y Y (Kd (Km Y (fun g0 => Kn (Kb (Kt (Kb (kRegD (Kf Y Y (Ke Y Y Y (Kf Y Y (Ke Y Y Y (Kq Y Y (Ka Y (kDif Y Y om (kIadT Y Y om (Ky Y Y (Kf Y Y (Ke Y Y Y (Kf Y Y (Ke Y Y Y (Kq Y Y (Ka Y (kDif Y Y om (kIadT Y Y om (Ky Y Y (Ks Y Y (Kp (ok_bytes_Compare _ _) ⟨Y, Y, trivial⟩ Y Y Y Y Y (Ka Y (Kd (kH (Kbc (Ka Y (Kj Y Y Y (Kd (kCondIN Y (fun g1 => Kbc (Ka Y (Ka Y (Kd (Kr (Er (ra := [.one (.d _)]) rfl ?_)))))) (fun g1 => Kn (Kv (Kc (Ka Y (kAdd Y Y om (Ka Y (Kd ?_)))))))))))))))))))))))))))))))))))))))) (fun g0 => om)))))))))))))
      · rw [h3, hst, if_neg (by assumption)]
      · refine kInv ⟨⟨k + 1, hla, hlb, ?_⟩, by simp only; omega, .normA⟩
        rw [h3, hst, if_pos (by assumption)]
    · rw [cmpL_end a b k h1 h2 (by omega)] at h3
      refine Kb (Kbc (Ka Y (Kf Y Y (Ke Y Y Y (Kq Y Y (Kf Y Y (Ke Y Y Y (Kq Y Y (kMmMin Y Y (Kj Y Y Y (Kd (Km Y (fun g0 => om) (fun g0 => kExit (kExC (kExI (kExB (Kbc (Kf Y Y (Ke Y Y Y (Kq Y Y (Kf Y Y (Ke Y Y Y (Kq Y Y (Kp (ok_cmp_Compare_int _ _) ⟨Y, Y, trivial⟩ Y Y Y Y Y (Ka Y (Kd (Kr (Er (ra := [.one (.d _)]) rfl ?_))))))))))))))))))))))))))))
      all_goals (rw [h3]; refine congrArg (fun z : Int => [RA.one (RV.d (DV.sc (Value.int IntKind.i64 z)))]) ?_; unfold cmpI; split <;> (repeat' split) <;> omega)
  · rw [cmpL_end a b k h1 h2 (by omega)] at h3
    refine Kb (Kbc (Ka Y (Kf Y Y (Ke Y Y Y (Kq Y Y (Kf Y Y (Ke Y Y Y (Kq Y Y (kMmMin Y Y (Kj Y Y Y (Kd (Km Y (fun g0 => om) (fun g0 => kExit (kExC (kExI (kExB (Kbc (Kf Y Y (Ke Y Y Y (Kq Y Y (Kf Y Y (Ke Y Y Y (Kq Y Y (Kp (ok_cmp_Compare_int _ _) ⟨Y, Y, trivial⟩ Y Y Y Y Y (Ka Y (Kd (Kr (Er (ra := [.one (.d _)]) rfl ?_))))))))))))))))))))))))))))
    all_goals (rw [h3]; refine congrArg (fun z : Int => [RA.one (RV.d (DV.sc (Value.int IntKind.i64 z)))]) ?_; unfold cmpI; split <;> (repeat' split) <;> omega)

def c_impl_two : C := (.g (.o 0 2 (.mov (.n 1)) .done) (.g (.o 0 3 (.mov (.t 0)) (.o 1 4 (.bin .shr (.t 3) (.v (.int .u64 8))) (.o 2 5 (.conv .u8 (.t 4)) (.o 3 6 (.mov (.t 0)) (.o 4 7 (.conv .u8 (.t 6)) (.o 5 8 (.lit 8 1 [(.v (.int .u8 0))] 2 [(0, 1, (.t 5)), (1, 1, (.t 7))]) (.o 6 2 (.mov (.t 8)) .done))))))) .ret))
theorem dg_impl_two : Tryz.f261.body.bind (digC Tryz.prog Tryz.f261.ntmps []) = some c_impl_two := by kernel_rfl
theorem rs_impl_two : resSlots Tryz.prog Tryz.f261 = some [.s 2] := by kernel_rfl
theorem ok_impl_two (n : Int) :
    FnOK Tryz.prog 261 [.one (.d (.sc (.int .i64 n)))] (fun ra _ => ra = [.one (.own true (encB (w2 n)))]) := by
  refine FnOK.ofK Tryz.func261 (by kernel_rfl) dg_impl_two rs_impl_two rfl rfl ?_
  delta c_impl_two T.o X.i C.g
  refine Kbc (Ka Y (Kdb (Kc (Ka Y (kShr (m := 8) Y Y Y (kConvU8 Y (Ka Y (kConvU8 Y (kLit Y Y Y Y (Ka Y (Kd (Kr (Er (ra := [.one (.own true _)]) rfl rfl)))))))))))))

def c_impl_four : C := (.g (.o 0 2 (.mov (.n 1)) .done) (.g (.o 0 3 (.mov (.t 0)) (.o 1 4 (.bin .shr (.t 3) (.v (.int .u64 16))) (.o 2 5 (.call 5 261 [(.t 4)]) (.o 3 6 (.mov (.t 0)) (.o 4 7 (.call 7 261 [(.t 6)]) (.o 5 8 (.app 8 1 1 (.t 5) (.t 7)) (.o 6 2 (.mov (.t 8)) .done))))))) .ret))
theorem dg_impl_four : Tryz.f200.body.bind (digC Tryz.prog Tryz.f200.ntmps []) = some c_impl_four := by kernel_rfl
theorem rs_impl_four : resSlots Tryz.prog Tryz.f200 = some [.s 2] := by kernel_rfl
theorem ok_impl_four (n : Int) :
    FnOK Tryz.prog 200 [.one (.d (.sc (.int .i64 n)))] (fun ra _ => ra = [.one (.own true (encB (w4 n)))]) := by
  refine FnOK.ofK Tryz.func200 (by kernel_rfl) dg_impl_four rs_impl_four rfl rfl ?_
  delta c_impl_four T.o X.i C.g
  rw [← w4_two]
  have hl : ∀ m, (w2 m).length = 2 := fun _ => rfl
  have l1 := hl (sr n 16)
  have l2 := hl n
  refine Kbc (Ka Y (Kdb (Kc (Ka Y (kShr (m := 16) Y Y Y (Ku true (ok_impl_two _) ⟨Y, trivial⟩ Y Y Y (fun _ => (Ka Y (Ku true (ok_impl_two _) ⟨Y, trivial⟩ Y Y Y (fun _ => (kAppR Y Y Y Y Y Y Y Y om (Ka Y (Kd (Kr (Er (ra := [.one (.own true _)]) rfl rfl)))))))))))))))

def c_impl_Name_wire : C := (.g (.o 0 1 (.box 1 (.t 0)) (.o 1 2 (.mov (.n 1)) .done)) (.g (.o 0 6 (.lit 6 1 [(.v (.int .u8 0))] 0 []) (.o 1 3 (.mov (.t 6)) .done)) (.seq (.g (.o 0 7 (.fad (.t 1) 0) (.o 1 8 (.load none (.t 7)) (.o 2 9 (.len (.t 8)) (.o 3 10 (.mov (.i 0)) .done)))) (.block 0 (.loop (.g (.o 0 11 (.bin .lss (.t 10) (.t 9)) .done) (.seq (.cond (.t 11) .skip (.exit 0)) (.seq (.block 1 (.g (.o 0 12 (.iad 1 (.t 8) (.t 10)) (.o 1 13 (.load none (.t 12)) (.o 2 5 (.mov (.t 13)) .done))) (.reg false (.o 0 14 (.mov (.t 3)) (.o 1 15 (.mov (.t 5)) (.o 2 16 (.len (.t 15)) (.o 3 17 (.conv .u8 (.t 16)) (.o 4 18 (.lit 18 1 [(.v (.int .u8 0))] 1 [(0, 1, (.t 17))]) (.o 5 19 (.app 19 1 1 (.t 14) (.t 18)) (.o 6 20 (.mov (.t 5)) (.o 7 21 (.app 21 1 1 (.t 19) (.t 20)) (.o 8 3 (.mov (.t 21)) .done)))))))))))) (.reg false (.o 0 22 (.bin .add (.t 10) (.i 1)) (.o 1 10 (.mov (.t 22)) .done))))))))) (.g (.o 0 23 (.mov (.t 3)) (.o 1 24 (.lit 24 1 [(.v (.int .u8 0))] 1 [(0, 1, (.v (.int .u8 0)))]) (.o 2 25 (.app 25 1 1 (.t 23) (.t 24)) (.o 3 2 (.mov (.t 25)) .done)))) .ret))))
theorem dg_impl_Name_wire : Tryz.f247.body.bind (digC Tryz.prog Tryz.f247.ntmps []) = some c_impl_Name_wire := by kernel_rfl
theorem rs_impl_Name_wire : resSlots Tryz.prog Tryz.f247 = some [.s 2] := by kernel_rfl
theorem ok_impl_Name_wire (a : List (List UInt8)) (hs : SmallBB a) :
    FnOK Tryz.prog 247 [.agg [.d (encBB a)]] (fun ra _ => ra = [.one (.own true (encB (wireN a)))]) := by
  refine FnOK.ofK Tryz.func247 (by kernel_rfl) dg_impl_Name_wire rs_impl_Name_wire rfl rfl ?_
  delta c_impl_Name_wire T.o X.i C.g
  have h1 := hs.len
  have h2 := hs.flat
  refine Kbc (kBox Y Y Y Y Y (Ka Y (Kdb (Kc (kLit Y Y Y Y (Ka Y (Kdb (Kbc (Kf Y Y (Ke Y Y Y (Kq Y Y (Ka Y (Kd (Kt ?_))))))))))))))
  refine kLoop (α := { i : Nat // i ≤ a.length }) (fun y => ⟨tabSl [(3, .c (.arr (rid 6 0) 1)), (8, .dv (encBB a)), (9, .i a.length), (10, .i y.1)], obTab 1 [(rid 6 0, ⟨1, 0, .arr true (encB (wireL (a.take y.1)))⟩)], []⟩) (fun y => a.length - y.1) ⟨0, by simp⟩ .normA ?_
  rintro ⟨i, hi⟩
  simp only
  have hl := wireL_le a i
  rcases Nat.lt_or_ge i a.length with hlt | hge
  · have hst := wireL_take a i hlt
    have hm := hs.mem _ (List.getElem_mem hlt)
    have hlen : (wireL (a.take i) ++ [u8 a[i].length]).length = (wireL (a.take i)).length + 1 := by simp
    refine Kbc (Kj Y Y Y (Kdb (Km Y (fun g0 => Kn (Kb (Kt (Kbc (kIadR Y Y Y om (Ky Y Y (Ka Y (Kd (Kc (Ka Y (Ka Y (Kq Y Y (kConvU8 Y (kLit Y Y Y Y (kAppR1 Y Y Y Y Y Y Y Y om (Ka Y (kAppR Y Y Y (src_encB _ _) rfl rfl rfl rfl om (Ka Y (Kd (Kv (Kc (kAdd Y Y om (Ka Y (Kd ?_)))))))))))))))))))))))) (fun g0 => om))))
    refine kInv ⟨⟨i + 1, by omega⟩, by simp only; omega, ?_⟩
    simp only [hst]
    exact .normA
  · have he : wireN a = wireL (a.take i) ++ [0] := by rw [show i = a.length by omega, List.take_length]; rfl
    rw [he]
    refine Kbc (Kj Y Y Y (Kdb (Km Y (fun g0 => om) (fun g0 => kExit (kExC (kExI (kExB (Kbc (Ka Y (kLit Y Y Y Y (kAppR1 (z := (0 : UInt8)) rfl rfl rfl rfl rfl rfl rfl rfl om (Ka Y (Kd (Kr (Er (ra := [.one (.own true _)]) rfl rfl)))))))))))))))

def c_impl_Rr_data : C := (.g (.o 0 1 (.box 1 (.t 0)) (.o 1 2 (.mov (.n 1)) .done)) (.seq (.block 0 (.g (.o 0 7 (.fad (.t 1) 1) (.o 1 8 (.load none (.t 7)) (.o 2 9 (.bin .eql (.t 8) (.i 1)) (.o 3 6 (.mov (.t 9)) .done)))) (.cond (.t 6) (.g (.o 0 10 (.fad (.t 1) 3) (.o 1 11 (.load none (.t 10)) (.o 2 12 (.call 12 200 [(.t 11)]) (.o 3 2 (.mov (.t 12)) .done)))) .ret) (.g (.o 0 14 (.fad (.t 1) 1) (.o 1 15 (.load none (.t 14)) (.o 2 16 (.call 16 144 [(.t 15)]) (.o 3 13 (.mov (.t 16)) .done)))) (.cond (.t 13) (.g (.o 0 17 (.fad (.t 1) 4) (.o 1 18 (.load (some 1) (.t 17)) (.o 2 19 (.call 19 247 [(.t 18)]) (.o 3 3 (.mov (.t 19)) .done)))) (.seq (.g (.o 0 20 (.fad (.t 1) 6) (.o 1 21 (.load none (.t 20)) (.o 2 22 (.len (.t 21)) (.o 3 23 (.mov (.i 0)) .done)))) (.block 1 (.loop (.g (.o 0 24 (.bin .lss (.t 23) (.t 22)) .done) (.seq (.cond (.t 24) .skip (.exit 1)) (.seq (.block 2 (.g (.o 0 25 (.iad 1 (.t 21) (.t 23)) (.o 1 26 (.load none (.t 25)) (.o 2 5 (.mov (.t 26)) .done))) (.reg false (.o 0 27 (.mov (.t 3)) (.o 1 28 (.mov (.t 5)) (.o 2 29 (.call 29 200 [(.t 28)]) (.o 3 30 (.app 30 1 1 (.t 27) (.t 29)) (.o 4 3 (.mov (.t 30)) .done)))))))) (.reg false (.o 0 31 (.bin .add (.t 23) (.i 1)) (.o 1 23 (.mov (.t 31)) .done))))))))) (.g (.o 0 32 (.mov (.t 3)) (.o 1 2 (.mov (.t 32)) .done)) .ret))) .skip))))) (.g (.o 0 33 (.fad (.t 1) 5) (.o 1 34 (.load none (.t 33)) (.o 2 35 (.len (.t 34)) (.o 3 36 (.conv .u8 (.t 35)) (.o 4 37 (.lit 37 1 [(.v (.int .u8 0))] 1 [(0, 1, (.t 36))]) (.o 5 38 (.fad (.t 1) 5) (.o 6 39 (.load none (.t 38)) (.o 7 40 (.app 40 1 1 (.t 37) (.t 39)) (.o 8 2 (.mov (.t 40)) .done))))))))) .ret)))
theorem dg_impl_Rr_data : Tryz.f179.body.bind (digC Tryz.prog Tryz.f179.ntmps []) = some c_impl_Rr_data := by kernel_rfl
theorem rs_impl_Rr_data : resSlots Tryz.prog Tryz.f179 = some [.s 2] := by kernel_rfl
theorem ok_impl_Rr_data (r : Rr) (hs : SmallR r) :
    FnOK Tryz.prog 179 [.agg (r.cells.map .d)] (fun ra _ => ra = [.one (.own true (encB (rdata r)))]) := by
  refine FnOK.ofK Tryz.func179 (by kernel_rfl) dg_impl_Rr_data rs_impl_Rr_data rfl rfl ?_
  delta c_impl_Rr_data T.o X.i C.g
  have ht := hs.t
  have t1 := hs.t.len
  have t2 := hs.t.flat
  have x1 := hs.x
  have m1 := hs.m
  by_cases h1 : r.ty = 1
  · rw [rdata_A h1]
    refine Kbc (kBox Y Y Y Y Y (Ka Y (Kdb (Kt (Kbc (Kf Y Y (Ke Y Y Y (Kj Y Y Y (Ka Y (Kd (Km Y (fun g0 => Kbc (Kf Y Y (Ke Y Y Y (Ku true (ok_impl_four _) ⟨Y, trivial⟩ Y Y Y (fun _ => (Ka Y (Kd (Kr (Er (ra := [.one (.own true _)]) rfl rfl))))))))) (fun g0 => om))))))))))))
  cases h2 : hasTo r.ty
  · rw [rdata_text h1 h2]
    refine Kbc (kBox Y Y Y Y Y (Ka Y (Kdb (Kt (Kbc (Kf Y Y (Ke Y Y Y (Kj Y Y Y (Ka Y (Kd (Km Y (fun g0 => om) (fun g0 => Kbc (Kf Y Y (Ke Y Y Y (Kp (ok_impl_hasTo _) ⟨Y, trivial⟩ Y Y Y Y Y (Ka Y (Kd (kCond Y (fun g1 => (by (simp [*] at g1))) (fun g1 => Kn (Kv (Kbc (Kf Y Y (Ke Y Y Y (Kq Y Y (kConvU8 Y (kLit Y Y Y Y (Kf Y Y (Ke Y Y Y (kApp1R Y Y (src_encB _ _) rfl rfl rfl rfl rfl om (Ka Y (Kd (Kr (Er (ra := [.one (.own true _)]) rfl rfl)))))))))))))))))))))))))))))))))
  · rw [rdata_to h1 h2]
    refine Kbc (kBox Y Y Y Y Y (Ka Y (Kdb (Kt (Kbc (Kf Y Y (Ke Y Y Y (Kj Y Y Y (Ka Y (Kd (Km Y (fun g0 => om) (fun g0 => Kbc (Kf Y Y (Ke Y Y Y (Kp (ok_impl_hasTo _) ⟨Y, trivial⟩ Y Y Y Y Y (Ka Y (Kd (kCond Y (fun g1 => Kbc (Kf Y Y (Ke Y Y Y (Ku true (ok_impl_Name_wire _ pr) ⟨⟨⟨Y, trivial⟩, leb⟩, trivial⟩ Y Y Y (fun _ => (Ka Y (Kdb (Kbc (Kf Y Y (Ke Y Y Y (Kq Y Y (Ka Y (Kd (Kt ?_)))))))))))))) (fun g1 => (by (simp [*] at g1)))))))))))))))))))))
    refine kLoop (α := { i : Nat // i ≤ r.nums.length }) (fun y => ⟨tabSl [(3, .c (.arr (rid 19 0) 1)), (21, .dv (Hearth.encI r.nums)), (22, .i r.nums.length), (23, .i y.1)], obTab 1 [(rid 19 0, ⟨1, 0, .arr true (encB (wireN r.to ++ (r.nums.take y.1).flatMap w4))⟩)], []⟩) (fun y => r.nums.length - y.1) ⟨0, by simp⟩ (by simp only [List.take_zero, List.flatMap_nil, List.append_nil]; exact .normA) ?_
    rintro ⟨i, hi⟩
    simp only
    have hl : (wireN r.to ++ (r.nums.take i).flatMap w4).length ≤ 33554432 := by
      rw [List.length_append, wireN_len, w4s_len, List.length_take]; omega
    have hl4 : ∀ n, (w4 n).length = 4 := w4_len
    rcases Nat.lt_or_ge i r.nums.length with hlt | hge
    · have hst : wireN r.to ++ (r.nums.take (i + 1)).flatMap w4 = wireN r.to ++ (r.nums.take i).flatMap w4 ++ w4 r.nums[i] := by rw [flatMap_take _ _ _ hlt, List.append_assoc]
      have h4 := hl4 r.nums[i]
      refine Kbc (Kj Y Y Y (Kdb (Km Y (fun g0 => Kn (Kb (Kt (Kbc (kIadR Y Y Y om (Ky Y Y (Ka Y (Kd (Kc (Ka Y (Ka Y (Ku true (ok_impl_four _) ⟨Y, trivial⟩ Y Y Y (fun _ => (kAppR Y Y Y Y Y Y Y Y om (Ka Y (Kd (Kv (Kc (kAdd Y Y om (Ka Y (Kd ?_))))))))))))))))))))) (fun g0 => om))))
      refine kInv ⟨⟨i + 1, by omega⟩, by simp only; omega, ?_⟩
      simp only [hst]
      exact .normA
    · rw [show i = r.nums.length by omega, List.take_length]
      refine Kbc (Kj Y Y Y (Kdb (Km Y (fun g0 => om) (fun g0 => kExit (kExC (kExI (kExB (Kbc (Ka Y (Ka Y (Kd (Kr (Er (ra := [.one (.own true _)]) rfl rfl)))))))))))))

def c_cmp_Or_int : C := (.g (.o 0 2 (.mov (.i 0)) .done) (.g (.o 0 3 (.mov (.i 0)) .done) (.seq (.g (.o 0 6 (.mov (.t 0)) (.o 1 7 (.len (.t 6)) (.o 2 8 (.mov (.i 0)) .done))) (.block 0 (.loop (.g (.o 0 9 (.bin .lss (.t 8) (.t 7)) .done) (.seq (.cond (.t 9) .skip (.exit 0)) (.seq (.block 1 (.g (.o 0 10 (.iad 1 (.t 6) (.t 8)) (.o 1 11 (.load none (.t 10)) (.o 2 5 (.mov (.t 11)) .done))) (.g (.o 0 12 (.mov (.t 5)) (.o 1 13 (.mov (.t 3)) (.o 2 14 (.bin .neq (.t 12) (.t 13)) .done))) (.cond (.t 14) (.g (.o 0 15 (.mov (.t 5)) (.o 1 2 (.mov (.t 15)) .done)) .ret) .skip)))) (.reg false (.o 0 16 (.bin .add (.t 8) (.i 1)) (.o 1 8 (.mov (.t 16)) .done))))))))) (.g (.o 0 17 (.mov (.t 3)) (.o 1 2 (.mov (.t 17)) .done)) .ret))))
theorem dg_cmp_Or_int : Tryz.f175.body.bind (digC Tryz.prog Tryz.f175.ntmps []) = some c_cmp_Or_int := by kernel_rfl
theorem rs_cmp_Or_int : resSlots Tryz.prog Tryz.f175 = some [.s 2] := by kernel_rfl
theorem ok_cmp_Or_int (l : List Int) (h : l.length ≤ 4194304) :
    FnOK Tryz.prog 175 [.one (.d (Hearth.encI l))] (fun ra _ => ra = [.one (.d (.sc (.int .i64 (orL l))))]) := by
  refine FnOK.ofK Tryz.func175 (by kernel_rfl) dg_cmp_Or_int rs_cmp_Or_int rfl rfl ?_
  delta c_cmp_Or_int T.o X.i C.g
  refine Kbc (Ka Y (Kdb (Kc (Ka Y (Kdb (Kbc (Ka Y (Kq Y Y (Ka Y (Kd (Kt ?_)))))))))))
  refine kLoop (α := { i : Nat // i ≤ l.length ∧ orL l = orL (l.drop i) }) (fun y => ⟨tabSl [(3, .i 0), (6, .dv (Hearth.encI l)), (7, .i l.length), (8, .i y.1)], obTab 1 [], []⟩) (fun y => l.length - y.1) ⟨0, by simp⟩ .normA ?_
  rintro ⟨i, hi, hr⟩
  simp only
  rcases Nat.lt_or_ge i l.length with hlt | hge
  · have hst := orL_drop l i hlt
    refine Kbc (Kj Y Y Y (Kdb (Km Y (fun g0 => Kn (Kb (Kt (Kbc (kIadR Y Y Y om (Ky Y Y (Ka Y (Kdb (Kc (Ka Y (Ka Y (Kj Y Y Y (Kd (kCondIN Y (fun g1 => Kbc (Ka Y (Ka Y (Kd (Kr (Er (ra := [.one (.d _)]) rfl ?_)))))) (fun g1 => Kn (Kv (Kc (kAdd Y Y om (Ka Y (Kd ?_)))))))))))))))))))) (fun g0 => om))))
    · rw [hr, hst, if_neg (by assumption)]
    · exact kInv ⟨⟨i + 1, by omega, by rw [hr, hst, if_pos (by assumption)]⟩, by simp only; omega, .normA⟩
  · have hst : orL l = 0 := by rw [hr, List.drop_eq_nil_of_le hge]; rfl
    rw [hst]
    refine Kbc (Kj Y Y Y (Kdb (Km Y (fun g0 => om) (fun g0 => kExit (kExC (kExI (kExB (Kbc (Ka Y (Ka Y (Kd (Kr (Er (ra := [.one (.d _)]) rfl rfl)))))))))))))
theorem ok_cmp_Or_int3 (a b c : Int) :
    FnOK Tryz.prog 175 [.one (.d (.sl 1 [[.sc (.int .i64 a)], [.sc (.int .i64 b)], [.sc (.int .i64 c)]]))] (fun ra _ => ra = [.one (.d (.sc (.int .i64 (orL [a, b, c]))))]) := ok_cmp_Or_int [a, b, c] (by simp)
def c_impl_Rr_compare : C := (.g (.o 0 2 (.box 2 (.t 0)) (.o 1 3 (.box 3 (.t 1)) (.o 2 4 (.mov (.i 0)) .done))) (.seq (.reg true (.op 0 [] (some 5) none true (.fad (.t 2) 0) (.op 1 [] (some 6) none true (.load (some 1) (.t 5)) (.op 2 [] (some 7) none true (.fad (.t 3) 0) (.op 3 [] (some 8) none true (.load (some 1) (.t 7)) (.op 5 [] (some 10) none true (.fad (.t 2) 1) (.op 6 [] (some 11) none true (.load none (.t 10)) (.op 7 [] (some 12) none true (.fad (.t 3) 1) (.op 8 [] (some 13) none true (.load none (.t 12)) (.op 10 [] (some 15) none true (.load (some 7) (.t 2)) (.op 12 [] (some 17) none true (.load (some 7) (.t 3)) (.op 4 [1, 3] (some 9) none false (.call 9 176 [(.t 6), (.t 8)]) (.op 9 [6, 8, 1, 3] (some 14) none false (.call 14 177 [(.t 11), (.t 13)]) (.op 11 [10, 6, 8, 1, 3] (some 16) none false (.call 16 179 [(.t 15)]) (.op 13 [12, 10, 6, 8, 1, 3] (some 18) none false (.call 18 179 [(.t 17)]) (.op 14 [10, 6, 8, 1, 3, 12] (some 19) none false (.call 19 178 [(.t 16), (.t 18)]) (.op 15 [1, 3, 6, 8, 10, 12] (some 20) none false (.lit 20 1 [(.i 0)] 3 [(0, 1, (.t 9)), (1, 1, (.t 14)), (2, 1, (.t 19))]) (.op 16 [1, 3, 6, 8, 10, 12] (some 21) none false (.call 21 175 [(.t 20)]) (.op 17 [] (some 4) none true (.mov (.t 21)) .done))))))))))))))))))) .ret))
theorem dg_impl_Rr_compare : Tryz.f94.body.bind (digC Tryz.prog Tryz.f94.ntmps []) = some c_impl_Rr_compare := by kernel_rfl
theorem rs_impl_Rr_compare : resSlots Tryz.prog Tryz.f94 = some [.s 4] := by kernel_rfl
theorem ok_impl_Rr_compare (a b : Rr) (ha : SmallR a) (hb : SmallR b) :
    FnOK Tryz.prog 94 [.agg (a.cells.map .d), .agg (b.cells.map .d)] (fun ra _ => ra = [.one (.d (.sc (.int .i64 (cmpR a b))))]) := by
  refine FnOK.ofK Tryz.func94 (by kernel_rfl) dg_impl_Rr_compare rs_impl_Rr_compare rfl rfl ?_
  delta c_impl_Rr_compare T.o X.i C.g
  have n1 := ha.n.len
  have n2 := hb.n.len
  have r1 := rdata_le ha
  have r2 := rdata_le hb
  rw [cmpR_or]
  refine Kbc (kBox Y Y Y Y Y (kBox Y Y Y Y Y (Ka Y (Kdb (kRegD (Kf Y Y (Ke Y Y Y (Kf Y Y (Ke Y Y Y (Kf Y Y (Ke Y Y Y (Kf Y Y (Ke Y Y Y (Ke Y Y Y (Ke Y Y Y (Kx Y Y (Kp (ok_impl_Name_compare _ _ pr pr) ⟨⟨⟨Y, trivial⟩, leb⟩, ⟨⟨Y, trivial⟩, leb⟩, trivial⟩ Y Y Y Y Y (Kx Y Y (Kp (ok_cmp_Compare_int _ _) ⟨Y, Y, trivial⟩ Y Y Y Y Y (Kx Y Y (Ku true (ok_impl_Rr_data _ pr) ⟨⟨⟨Y, Y, Y, Y, Y, Y, Y, trivial⟩, leb⟩, trivial⟩ Y Y Y (fun _ => (Ks Y Y (Ku true (ok_impl_Rr_data _ pr) ⟨⟨⟨Y, Y, Y, Y, Y, Y, Y, trivial⟩, leb⟩, trivial⟩ Y Y Y (fun _ => (Ks Y Y (Kp (ok_bytes_Compare _ _) ⟨Y, Y, trivial⟩ Y Y Y Y Y (Ks Y Y (kLit Y Y Y Y (Ks Y Y (Kp (ok_cmp_Or_int3 _ _ _) ⟨Y, trivial⟩ Y Y Y Y Y (Ka Y (Kd (kH (Kr (Er (ra := [.one (.d _)]) rfl rfl))))))))))))))))))))))))))))))))))))

def c_slices_EqualFunc_LLbyte_LLbyte_Lbyte_Lbyte : C := (.g (.o 0 6 (.mov (.v (.bool false))) .done) (.seq (.g (.o 0 10 (.mov (.t 0)) (.o 1 11 (.len (.t 10)) (.o 2 12 (.mov (.t 1)) (.o 3 13 (.len (.t 12)) (.o 4 14 (.bin .neq (.t 11) (.t 13)) .done))))) (.cond (.t 14) (.g (.o 0 6 (.mov (.v (.bool false))) .done) .ret) .skip)) (.seq (.g (.o 0 15 (.mov (.t 0)) (.o 1 16 (.len (.t 15)) (.o 2 17 (.mov (.i 0)) .done))) (.block 0 (.loop (.g (.o 0 18 (.bin .lss (.t 17) (.t 16)) .done) (.seq (.cond (.t 18) .skip (.exit 0)) (.seq (.block 1 (.g (.o 0 19 (.mov (.t 17)) (.o 1 20 (.iad 1 (.t 15) (.t 17)) (.o 2 21 (.load none (.t 20)) (.o 3 7 (.mov (.t 19)) (.o 4 8 (.mov (.t 21)) .done))))) (.g (.o 0 22 (.mov (.t 1)) (.o 1 23 (.mov (.t 7)) (.o 2 24 (.iad 1 (.t 22) (.t 23)) (.o 3 25 (.load none (.t 24)) (.o 4 9 (.mov (.t 25)) .done))))) (.g (.o 0 26 (.mov (.t 2)) (.o 1 27 (.mov (.t 8)) (.o 2 28 (.mov (.t 9)) (.o 3 29 (.callv 29 (.t 26) [(.t 27), (.t 28)]) (.o 4 30 (.un .not (.t 29)) .done))))) (.cond (.t 30) (.g (.o 0 6 (.mov (.v (.bool false))) .done) .ret) .skip))))) (.reg false (.o 0 31 (.bin .add (.t 17) (.i 1)) (.o 1 17 (.mov (.t 31)) .done))))))))) (.g (.o 0 6 (.mov (.v (.bool true))) .done) .ret))))
theorem dg_slices_EqualFunc_LLbyte_LLbyte_Lbyte_Lbyte : Tryz.f180.body.bind (digC Tryz.prog Tryz.f180.ntmps []) = some c_slices_EqualFunc_LLbyte_LLbyte_Lbyte_Lbyte := by kernel_rfl
theorem rs_slices_EqualFunc_LLbyte_LLbyte_Lbyte_Lbyte : resSlots Tryz.prog Tryz.f180 = some [.s 6] := by kernel_rfl
def fcEq : FC := fun l R => ∃ x y : List UInt8, l = [DA.one (encB x), DA.one (encB y)] ∧ R = fun ra => ra = [.one (.d (.sc (.bool (x == y))))]
theorem ok_slices_EqualFunc_LLbyte_LLbyte_Lbyte_Lbyte (a b : List (List UInt8)) (ha : a.length ≤ 4194304) (hb : b.length ≤ 4194304) :
    FnOK Tryz.prog 180 [.one (.d (encBB a)), .one (.d (encBB b)), .one (.fv false fcEq)] (fun ra _ => ra = [.one (.d (.sc (.bool (decide (a = b)))))]) := by
  refine FnOK.ofK Tryz.func180 (by kernel_rfl) dg_slices_EqualFunc_LLbyte_LLbyte_Lbyte_Lbyte rs_slices_EqualFunc_LLbyte_LLbyte_Lbyte_Lbyte rfl rfl ?_
  delta c_slices_EqualFunc_LLbyte_LLbyte_Lbyte_Lbyte T.o X.i C.g
  refine Kbc (Ka Y (Kdb (Kbc (Ka Y (Kq Y Y (Ka Y (Kq Y Y (Kj Y Y Y (Kd (kCondIN Y (fun g0 => Kbc (Ka Y (Kd (Kr (Er (ra := [.one (.d _)]) rfl ?_))))) (fun g0 => Kn (Kb (Kbc (Ka Y (Kq Y Y (Ka Y (Kd (Kt ?_))))))))))))))))))
  · rw [decide_eq_false (by rintro rfl; simp_all)]
  have hab : a.length = b.length := by omega
  refine kLoop (α := { i : Nat // i ≤ a.length ∧ a.take i = b.take i })
    (fun y => ⟨tabSl [(1, .dv (encBB b)), (2, .c (.fv false fcEq)), (15, .dv (encBB a)), (16, .i a.length), (17, .i y.1)], obTab 1 [], []⟩) (fun y => a.length - y.1) ⟨0, by simp⟩
    .normA ?_
  rintro ⟨i, hi, he⟩
  simp only
  rcases Nat.lt_or_ge i a.length with hlt | hge
  · refine Kbc (Kj Y Y Y (Kdb (Km Y (fun g0 => Kn (Kb (Kt (Kbc (Ka Y (kIadR Y Y Y om (Ky Y Y (Ka Y (Ka Y (Kdb (Kc (Ka Y (Ka Y (kIadR Y Y Y om (Ky Y Y (Ka Y (Kdb (Kc (Ka Y (Ka Y (Ka Y ?_))))))))))))))))))))) (fun g0 => om))))
    refine kCallv Y ⟨a[i], b[i], rfl, rfl⟩ ⟨Y, Y, trivial⟩ (.inr ?_) rfl ?_ rfl ?_
    · rintro _ rfl; rfl
    · rintro _ rfl; exact leb
    rintro _ rfl
    refine Kw Y Y (Kd (kCondN Y (fun g0 => Kbc (Ka Y (Kd (Kr (Er (ra := [.one (.d _)]) rfl ?_))))) (fun g0 => Kn (Kv (Kc (kAdd Y Y om (Ka Y (Kd ?_))))))))
    · rw [decide_eq_false]
      rintro rfl
      simp_all
    · refine kInv ⟨⟨i + 1, by omega, ?_⟩, by simp only; omega, .normA⟩
      rw [← List.take_append_getElem (by omega), ← List.take_append_getElem (by omega), he]
      simp_all
  · refine Kbc (Kj Y Y Y (Kdb (Km Y (fun g0 => om) (fun g0 => kExit (kExC (kExI (kExB (Kbc (Ka Y (Kd (Kr (Er (ra := [.one (.d _)]) rfl ?_))))))))))))
    rw [show i = a.length by omega, List.take_length, hab, List.take_length] at he
    rw [he, decide_eq_true rfl]

def c_bytes_Equal : C := (.g (.o 0 4 (.mov (.v (.bool false))) .done) (.g (.o 0 5 (.mov (.t 0)) (.o 1 6 (.b2s (.t 5)) (.o 2 7 (.mov (.t 1)) (.o 3 8 (.b2s (.t 7)) (.o 4 9 (.bin .eql (.t 6) (.t 8)) (.o 5 4 (.mov (.t 9)) .done)))))) .ret))
theorem dg_bytes_Equal : Tryz.f108.body.bind (digC Tryz.prog Tryz.f108.ntmps []) = some c_bytes_Equal := by kernel_rfl
theorem rs_bytes_Equal : resSlots Tryz.prog Tryz.f108 = some [.s 4] := by kernel_rfl
theorem ok_bytes_Equal (a b : List UInt8) :
    FnOK Tryz.prog 108 [.one (.d (encB a)), .one (.d (encB b))] (fun ra _ => ra = [.one (.d (.sc (.bool (a == b))))]) := by
  refine FnOK.ofK Tryz.func108 (by kernel_rfl) dg_bytes_Equal rs_bytes_Equal rfl rfl ?_
  delta c_bytes_Equal T.o X.i C.g
  refine Kbc (Ka Y (Kdb (Kc (Ka Y (kB2s Y Y (Ka Y (kB2s Y Y (Kj Y Y Y (Ka Y (Kd (Kr (Er (ra := [.one (.d _)]) rfl ?_))))))))))))
  simp only [bt_list]

def c_impl_Name_under : C := (.g (.o 0 2 (.box 2 (.t 0)) (.o 1 3 (.box 3 (.t 1)) (.o 2 4 (.mov (.v (.bool false))) .done))) (.g (.o 0 6 (.fad (.t 2) 0) (.o 1 7 (.load none (.t 6)) (.o 2 8 (.len (.t 7)) (.o 3 9 (.fad (.t 3) 0) (.o 4 10 (.load none (.t 9)) (.o 5 11 (.len (.t 10)) (.o 6 12 (.bin .sub (.t 8) (.t 11)) (.o 7 5 (.mov (.t 12)) .done)))))))) (.seq (.reg true (.op 0 [] (some 13) none true (.mov (.t 5)) (.op 1 [] (some 14) none true (.bin .geq (.t 13) (.i 0)) (.op 2 [] (some 15) none true (.mov (.t 14)) (.op 3 [] (some 16) (some (15, true)) true (.fad (.t 2) 0) (.op 4 [] (some 17) (some (15, true)) true (.load none (.t 16)) (.op 5 [] (some 18) (some (15, true)) true (.mov (.t 5)) (.op 6 [] (some 19) (some (15, true)) true (.mm true (.t 18) (.i 0)) (.op 7 [] (some 20) (some (15, true)) true (.cut 1 (.t 17) (some (.t 19)) none) (.op 8 [] (some 21) (some (15, true)) true (.fad (.t 3) 0) (.op 9 [] (some 22) (some (15, true)) true (.load none (.t 21)) (.op 10 [4, 9] (some 23) (some (15, true)) false (.call 23 180 [(.t 20), (.t 22), (.fn 108)]) (.op 11 [] (some 24) none true (.pick (.t 15) (.t 23) (.v (.bool false))) (.op 12 [] (some 4) none true (.mov (.t 24)) .done)))))))))))))) .ret)))
theorem dg_impl_Name_under : Tryz.f95.body.bind (digC Tryz.prog Tryz.f95.ntmps []) = some c_impl_Name_under := by kernel_rfl
theorem rs_impl_Name_under : resSlots Tryz.prog Tryz.f95 = some [.s 4] := by kernel_rfl
theorem ok_impl_Name_under (n z : List (List UInt8)) (hn : n.length ≤ 4194304) (hz : z.length ≤ 4194304) :
    FnOK Tryz.prog 95 [.agg [.d (encBB n)], .agg [.d (encBB z)]] (fun ra _ => ra = [.one (.d (.sc (.bool (underN n z))))]) := by
  refine FnOK.ofK Tryz.func95 (by kernel_rfl) dg_impl_Name_under rs_impl_Name_under rfl rfl ?_
  delta c_impl_Name_under T.o X.i C.g
  have hd : ∀ m, (n.drop m).length ≤ 4194304 := fun m => by simp; omega
  refine Kbc (kBox Y Y Y Y Y (kBox Y Y Y Y Y (Ka Y (Kdb (Kc (Kf Y Y (Ke Y Y Y (Kq Y Y (Kf Y Y (Ke Y Y Y (Kq Y Y (kDif Y Y om (Ka Y (Kdb (kRegD (Ka Y (Kj Y Y Y (Ka Y (kGP Y (fun g0 => Ki Y (Kf Y Y (Ki Y (Ke Y Y Y (Ki Y (Ka Y (Ki Y (kMm Y Y (Ki Y (kCutLT Y Y om (Ki Y (Kf Y Y (Ki Y (Ke Y Y Y (Ks Y Y (Ki Y ?_)))))))))))))))) (fun g0 => Kg Y (Kg Y (Kg Y (Kg Y (Kg Y (Kg Y (Kg Y (Ks Y Y (Kg Y (Kl Y (Ka Y (Ka Y (Kd (kH (Kr (Er (ra := [.one (.d _)]) rfl ?_)))))))))))))))))))))))))))))))))))
  · refine Kp (ok_slices_EqualFunc_LLbyte_LLbyte_Lbyte_Lbyte _ z (hd _) hz) ⟨rfl, rfl, ⟨rfl, rfl, ⟨_, Tryz.func108, rfl, by kernel_rfl⟩, ?_⟩, trivial⟩ Y Y Y Y Y ?_
    · rintro _ R ⟨x, y, rfl, rfl⟩
      exact ok_bytes_Equal x y
    refine Kk Y (Ka Y (Ka Y (Kd (kH (Kr (Er (ra := [.one (.d _)]) rfl ?_))))))
    simp only [if_true, underN]
    rw [if_neg (by omega), show (n.length - z.length : Int).toNat = n.length - z.length by omega, decide_eq_true (show z.length ≤ n.length by omega), Bool.true_and]
  · rw [show underN n z = false by simp only [underN]; rw [decide_eq_false (by omega)]; rfl]

def c_impl_Name_is : C := (.g (.o 0 2 (.box 2 (.t 0)) (.o 1 3 (.box 3 (.t 1)) (.o 2 4 (.mov (.v (.bool false))) .done))) (.g (.o 0 5 (.load (some 1) (.t 2)) (.o 1 6 (.load (some 1) (.t 3)) (.o 2 7 (.call 7 176 [(.t 5), (.t 6)]) (.o 3 8 (.bin .eql (.t 7) (.i 0)) (.o 4 4 (.mov (.t 8)) .done))))) .ret))
theorem dg_impl_Name_is : Tryz.f96.body.bind (digC Tryz.prog Tryz.f96.ntmps []) = some c_impl_Name_is := by kernel_rfl
theorem rs_impl_Name_is : resSlots Tryz.prog Tryz.f96 = some [.s 4] := by kernel_rfl
theorem ok_impl_Name_is (a b : List (List UInt8)) (ha : a.length ≤ 4194304) (hb : b.length ≤ 4194304) :
    FnOK Tryz.prog 96 [.agg [.d (encBB a)], .agg [.d (encBB b)]] (fun ra _ => ra = [.one (.d (.sc (.bool (decide (a = b)))))]) := by
  refine FnOK.ofK Tryz.func96 (by kernel_rfl) dg_impl_Name_is rs_impl_Name_is rfl rfl ?_
  delta c_impl_Name_is T.o X.i C.g
  rw [← cmpN_zero]
  refine Kbc (kBox Y Y Y Y Y (kBox Y Y Y Y Y (Ka Y (Kdb (Kc (Ke Y Y Y (Ke Y Y Y (Kp (ok_impl_Name_compare _ _ pr pr) ⟨⟨⟨Y, trivial⟩, leb⟩, ⟨⟨Y, trivial⟩, leb⟩, trivial⟩ Y Y Y Y Y (Kj Y Y Y (Ka Y (Kd (Kr (Er (ra := [.one (.d _)]) rfl rfl)))))))))))))

def c_impl_Zone_set : C := (.g (.o 0 3 (.box 3 (.t 0)) (.o 1 4 (.box 4 (.t 1)) (.o 2 6 (.mov (.n 7)) .done))) (.g (.o 0 10 (.lit 10 7 [(.n 1), (.i 0), (.i 0), (.i 0), (.n 1), (.n 1), (.n 1)] 0 []) (.o 1 7 (.mov (.t 10)) .done)) (.seq (.g (.o 0 11 (.fad (.t 3) 1) (.o 1 12 (.load none (.t 11)) (.o 2 13 (.len (.t 12)) (.o 3 14 (.mov (.i 0)) .done)))) (.block 0 (.loop (.g (.o 0 15 (.bin .lss (.t 14) (.t 13)) .done) (.seq (.cond (.t 15) .skip (.exit 0)) (.seq (.block 1 (.g (.o 0 16 (.iad 7 (.t 12) (.t 14)) (.o 1 17 (.load (some 7) (.t 16)) (.o 2 9 (.alloc 9 [(.n 1), (.i 0), (.i 0), (.i 0), (.n 1), (.n 1), (.n 1)]) (.op 3 [] none none false (.store (some 7) (.t 9) (.t 17)) .done)))) (.g (.o 0 18 (.fad (.t 9) 0) (.o 1 19 (.load (some 1) (.t 18)) (.o 2 20 (.load (some 1) (.t 4)) (.o 3 21 (.call 21 96 [(.t 19), (.t 20)]) (.o 4 22 (.mov (.t 21)) (.op 5 [] (some 23) (some (22, true)) false (.mov (.t 2)) (.op 6 [] (some 24) (some (22, true)) false (.bin .eql (.t 23) (.i 255)) (.op 7 [] (some 25) (some (22, true)) false (.mov (.t 24)) (.op 8 [] (some 26) (some (25, false)) false (.fad (.t 9) 1) (.op 9 [] (some 27) (some (25, false)) false (.load none (.t 26)) (.op 10 [] (some 28) (some (25, false)) false (.mov (.t 2)) (.op 11 [] (some 29) (some (25, false)) false (.bin .eql (.t 27) (.t 28)) (.op 12 [] (some 30) (some (22, true)) false (.pick (.t 25) (.v (.bool true)) (.t 29)) (.o 13 31 (.pick (.t 22) (.t 30) (.v (.bool false))) .done)))))))))))))) (.cond (.t 31) (.reg false (.o 0 32 (.mov (.t 7)) (.o 1 33 (.load (some 7) (.t 9)) (.o 2 34 (.lit 34 7 [(.n 1), (.i 0), (.i 0), (.i 0), (.n 1), (.n 1), (.n 1)] 1 [(0, 7, (.t 33))]) (.o 3 35 (.app 35 7 120 (.t 32) (.t 34)) (.o 4 7 (.mov (.t 35)) .done)))))) .skip)))) (.reg false (.o 0 36 (.bin .add (.t 14) (.i 1)) (.o 1 14 (.mov (.t 36)) .done))))))))) (.g (.o 0 37 (.mov (.t 7)) (.o 1 6 (.mov (.t 37)) .done)) .ret))))
theorem dg_impl_Zone_set : Tryz.f92.body.bind (digC Tryz.prog Tryz.f92.ntmps []) = some c_impl_Zone_set := by kernel_rfl
theorem rs_impl_Zone_set : resSlots Tryz.prog Tryz.f92 = some [.s 6] := by kernel_rfl
theorem ok_impl_Zone_set (z : Zone) (n : List (List UInt8)) (t : Int) (hs : SmallZ z) (hn : n.length ≤ 4194304) :
    FnOK Tryz.prog 92 [.agg (z.cells.map .d), .agg [.d (encBB n)], .one (.d (.sc (.int .i64 t)))] (fun ra _ => ra = [.one (.d (encR (setOf z.rrs n t)))]) := by
  refine FnOK.ofK Tryz.func92 (by kernel_rfl) dg_impl_Zone_set rs_impl_Zone_set rfl rfl ?_
  delta c_impl_Zone_set T.o X.i C.g
  have h1 := hs.r.len
  refine Kbc (kBox Y Y Y Y Y (kBox Y Y Y Y Y (Ka Y (Kdb (Kc (kLit Y Y Y Y (Ka Y (Kdb (Kbc (Kf Y Y (Ke Y Y Y (Kq Y Y (Ka Y (Kd (Kt ?_)))))))))))))))
  refine kLoop (α := { i : Nat // i ≤ z.rrs.length }) (fun y => ⟨tabSl [(2, .i t), (4, .c (.ptr (rid 4 0) 1 0)), (7, .c (.arr (rid 10 0) 1)), (12, .dv (encR z.rrs)), (13, .i z.rrs.length), (14, .i y.1)], obTab 1 [(rid 4 0, ⟨1, 0, .box [.d (encBB n)]⟩), (rid 10 0, ⟨1, 0, .arr false (encR (setOf (z.rrs.take y.1) n t))⟩)], []⟩) (fun y => z.rrs.length - y.1) ⟨0, by simp⟩ .normA ?_
  rintro ⟨i, hi⟩
  simp only
  have hlen : (z.rrs.take i).length = i := by simp; omega
  have hle : (setOf (z.rrs.take i) n t).length ≤ z.rrs.length := filter_len _ z.rrs i
  rcases Nat.lt_or_ge i z.rrs.length with hlt | hge
  · have hbi := hs.r.mem _ (List.getElem_mem hlt)
    have n1 := hbi.n.len
    have no : ∀ h : (decide (z.rrs[i].name = n) && (t == 255 || z.rrs[i].ty == t)) = false, setOf (z.rrs.take (i + 1)) n t = setOf (z.rrs.take i) n t := fun h => filter_no hlt h
    have yes : ∀ h : (decide (z.rrs[i].name = n) && (t == 255 || z.rrs[i].ty == t)) = true, setOf (z.rrs.take (i + 1)) n t = setOf (z.rrs.take i) n t ++ [z.rrs[i]] := fun h => filter_yes hlt h
    by_cases p1 : z.rrs[i].name = n
    · by_cases p2 : t = 255
      · have hst := yes (by simp [p1, p2])
        refine Kbc (Kj Y Y Y (Kdb (Km Y (fun g0 => Kn (Kb (Kt (Kbc (kIadR Y Y Y om (Ky Y Y (kAlloc Y Y (Ko Y Y Y Y (Kdb (Kc (Kf Y Y (Ke Y Y Y (Ke Y Y Y (Kp (ok_impl_Name_is _ _ pr pr) ⟨⟨⟨Y, trivial⟩, leb⟩, ⟨⟨Y, trivial⟩, leb⟩, trivial⟩ Y Y Y Y Y (Ka Y (kGP Y (fun g1 => Ki Y (Ka Y (Ki Y (Kj Y Y Y (Ki Y (Ka Y (kGP Y (fun g2 => Kg Y (Kg Y (Kg Y (Kg Y (Ki Y (Kk Y (Ka Y (Kk Y (Ka Y (Kd (kCondT Y (Kc (Ka Y (Ke Y Y Y (kLit Y Y Y Y (kAppRec Y Y Y Y Y Y Y om (Ka Y (Kd (Kv (Kc (kAdd Y Y om (Ka Y (Kd ?_))))))))))))))))))))))) (fun g2 => om)))))))) (fun g1 => (by (simp [*] at g1))))))))))))))))))) (fun g0 => om))))
        refine kInv ⟨⟨i + 1, by omega⟩, by simp only; omega, ?_⟩
        simp only [hst]
        exact .normA
      · by_cases p3 : z.rrs[i].ty = t
        · have hst := yes (by simp [p1, p3])
          refine Kbc (Kj Y Y Y (Kdb (Km Y (fun g0 => Kn (Kb (Kt (Kbc (kIadR Y Y Y om (Ky Y Y (kAlloc Y Y (Ko Y Y Y Y (Kdb (Kc (Kf Y Y (Ke Y Y Y (Ke Y Y Y (Kp (ok_impl_Name_is _ _ pr pr) ⟨⟨⟨Y, trivial⟩, leb⟩, ⟨⟨Y, trivial⟩, leb⟩, trivial⟩ Y Y Y Y Y (Ka Y (kGP Y (fun g1 => Ki Y (Ka Y (Ki Y (Kj Y Y Y (Ki Y (Ka Y (kGP Y (fun g2 => om) (fun g2 => Ki Y (Kf Y Y (Ki Y (Ke Y Y Y (Ki Y (Ka Y (Ki Y (Kj Y Y Y (Ki Y (Kl Y (Ka Y (Kk Y (Ka Y (Kd (Km Y (fun g3 => Kc (Ka Y (Ke Y Y Y (kLit Y Y Y Y (kAppRec Y Y Y Y Y Y Y om (Ka Y (Kd (Kv (Kc (kAdd Y Y om (Ka Y (Kd ?_)))))))))))) (fun g3 => om))))))))))))))))))))))) (fun g1 => (by (simp [*] at g1))))))))))))))))))) (fun g0 => om))))
          refine kInv ⟨⟨i + 1, by omega⟩, by simp only; omega, ?_⟩
          simp only [hst]
          exact .normA
        · have hst := no (by simp [p2, p3])
          refine Kbc (Kj Y Y Y (Kdb (Km Y (fun g0 => Kn (Kb (Kt (Kbc (kIadR Y Y Y om (Ky Y Y (kAlloc Y Y (Ko Y Y Y Y (Kdb (Kc (Kf Y Y (Ke Y Y Y (Ke Y Y Y (Kp (ok_impl_Name_is _ _ pr pr) ⟨⟨⟨Y, trivial⟩, leb⟩, ⟨⟨Y, trivial⟩, leb⟩, trivial⟩ Y Y Y Y Y (Ka Y (kGP Y (fun g1 => Ki Y (Ka Y (Ki Y (Kj Y Y Y (Ki Y (Ka Y (kGP Y (fun g2 => om) (fun g2 => Ki Y (Kf Y Y (Ki Y (Ke Y Y Y (Ki Y (Ka Y (Ki Y (Kj Y Y Y (Ki Y (Kl Y (Ka Y (Kk Y (Ka Y (Kd (Km Y (fun g3 => om) (fun g3 => Kn (Kv (Kc (kAdd Y Y om (Ka Y (Kd ?_)))))))))))))))))))))))))))) (fun g1 => (by (simp [*] at g1))))))))))))))))))) (fun g0 => om))))
          refine kInv ⟨⟨i + 1, by omega⟩, by simp only; omega, ?_⟩
          simp only [hst]
          exact .normA
    · have hst := no (by simp [p1])
      refine Kbc (Kj Y Y Y (Kdb (Km Y (fun g0 => Kn (Kb (Kt (Kbc (kIadR Y Y Y om (Ky Y Y (kAlloc Y Y (Ko Y Y Y Y (Kdb (Kc (Kf Y Y (Ke Y Y Y (Ke Y Y Y (Kp (ok_impl_Name_is _ _ pr pr) ⟨⟨⟨Y, trivial⟩, leb⟩, ⟨⟨Y, trivial⟩, leb⟩, trivial⟩ Y Y Y Y Y (Ka Y (kGP Y (fun g1 => (by (simp [*] at g1))) (fun g1 => Kg Y (Kg Y (Kg Y (kGU Y (kGU Y (kGU Y (kGU Y (Kg Y (Kl Y (Ka Y (Kd (kCondF Y (Kn (Kv (Kc (kAdd Y Y om (Ka Y (Kd ?_)))))))))))))))))))))))))))))))))) (fun g0 => om))))
      refine kInv ⟨⟨i + 1, by omega⟩, by simp only; omega, ?_⟩
      simp only [hst]
      exact .normA
  · refine Kbc (Kj Y Y Y (Kdb (Km Y (fun g0 => om) (fun g0 => kExit (kExC (kExI (kExB (Kbc (Ka Y (Ka Y (Kd (Kr (Er (ra := [.one (.d _)]) rfl ?_)))))))))))))
    rw [show i = z.rrs.length by omega, List.take_length]

def c_impl_ZoneOk : C := (.g (.o 0 1 (.box 1 (.t 0)) (.o 1 2 (.mov (.v (.bool false))) .done)) (.seq (.g (.o 0 6 (.fad (.t 1) 0) (.o 1 7 (.load (some 1) (.t 6)) (.o 2 8 (.call 8 90 [(.t 7)]) (.o 3 9 (.un .not (.t 8)) (.o 4 10 (.mov (.t 9)) (.op 5 [] (some 11) (some (10, false)) false (.fad (.t 1) 1) (.op 6 [] (some 12) (some (10, false)) false (.load none (.t 11)) (.op 7 [] (some 13) (some (10, false)) false (.len (.t 12)) (.op 8 [] (some 14) (some (10, false)) false (.bin .gtr (.t 13) (.i 60)) (.o 9 15 (.pick (.t 10) (.v (.bool true)) (.t 14)) (.o 10 16 (.mov (.t 15)) (.op 11 [] (some 17) (some (16, false)) false (.fad (.t 1) 1) (.op 12 [] (some 18) (some (16, false)) false (.load none (.t 17)) (.op 13 [] (some 19) (some (16, false)) false (.call 19 93 [(.t 18), (.fn 60)]) (.op 14 [] (some 20) (some (16, false)) false (.un .not (.t 19)) (.o 15 21 (.pick (.t 16) (.v (.bool true)) (.t 20)) .done)))))))))))))))) (.cond (.t 21) (.g (.o 0 2 (.mov (.v (.bool false))) .done) .ret) .skip)) (.g (.o 0 3 (.mov (.i 0)) .done) (.seq (.g (.o 0 22 (.fad (.t 1) 1) (.o 1 23 (.load none (.t 22)) (.o 2 24 (.len (.t 23)) (.o 3 25 (.mov (.i 0)) .done)))) (.block 0 (.loop (.g (.o 0 26 (.bin .lss (.t 25) (.t 24)) .done) (.seq (.cond (.t 26) .skip (.exit 0)) (.seq (.block 1 (.g (.o 0 27 (.mov (.t 25)) (.o 1 28 (.iad 7 (.t 23) (.t 25)) (.o 2 29 (.load (some 7) (.t 28)) (.o 3 5 (.alloc 5 [(.n 1), (.i 0), (.i 0), (.i 0), (.n 1), (.n 1), (.n 1)]) (.o 4 4 (.mov (.t 27)) (.op 5 [] none none false (.store (some 7) (.t 5) (.t 29)) .done)))))) (.seq (.seq (.reg true (.op 0 [] (some 30) none true (.mov (.t 4)) (.op 1 [] (some 31) none true (.bin .gtr (.t 30) (.i 0)) (.op 2 [] (some 32) none true (.mov (.t 31)) (.op 3 [] (some 33) (some (32, true)) true (.fad (.t 1) 1) (.op 4 [] (some 34) (some (32, true)) true (.load none (.t 33)) (.op 5 [] (some 35) (some (32, true)) true (.mov (.t 4)) (.op 6 [] (some 36) (some (32, true)) true (.bin .sub (.t 35) (.i 1)) (.op 7 [] (some 37) (some (32, true)) true (.iad 7 (.t 34) (.t 36)) (.op 8 [] (some 38) (some (32, true)) true (.load (some 7) (.t 37)) (.op 9 [] (some 39) (some (32, true)) true (.load (some 7) (.t 5)) (.op 10 [8, 4, 9] (some 40) (some (32, true)) false (.call 40 94 [(.t 38), (.t 39)]) (.op 11 [] (some 41) (some (32, true)) true (.bin .geq (.t 40) (.i 0)) (.op 12 [] (some 42) none true (.pick (.t 32) (.t 41) (.v (.bool false))) (.op 13 [] (some 43) none true (.mov (.t 42)) (.op 14 [] (some 44) (some (43, false)) true (.fad (.t 5) 0) (.op 15 [] (some 45) (some (43, false)) true (.load (some 1) (.t 44)) (.op 16 [] (some 46) (some (43, false)) true (.fad (.t 1) 0) (.op 17 [] (some 47) (some (43, false)) true (.load (some 1) (.t 46)) (.op 18 [15, 8, 9, 4, 17] (some 48) (some (43, false)) false (.call 48 95 [(.t 45), (.t 47)]) (.op 19 [] (some 49) (some (43, false)) true (.un .not (.t 48)) (.op 20 [] (some 50) none true (.pick (.t 43) (.v (.bool true)) (.t 49)) .done)))))))))))))))))))))) (.cond (.t 50) (.g (.o 0 2 (.mov (.v (.bool false))) .done) .ret) .skip)) (.seq (.g (.o 0 51 (.fad (.t 5) 1) (.o 1 52 (.load none (.t 51)) (.o 2 53 (.bin .eql (.t 52) (.i 6)) .done))) (.cond (.t 53) (.g (.o 0 54 (.mov (.t 3)) (.o 1 55 (.bin .add (.t 54) (.i 1)) (.o 2 3 (.mov (.t 55)) .done))) (.g (.o 0 56 (.fad (.t 5) 0) (.o 1 57 (.load (some 1) (.t 56)) (.o 2 58 (.fad (.t 1) 0) (.o 3 59 (.load (some 1) (.t 58)) (.o 4 60 (.call 60 96 [(.t 57), (.t 59)]) (.o 5 61 (.un .not (.t 60)) .done)))))) (.cond (.t 61) (.g (.o 0 2 (.mov (.v (.bool false))) .done) .ret) .skip))) .skip)) (.g (.o 0 62 (.fad (.t 5) 1) (.o 1 63 (.load none (.t 62)) (.o 2 64 (.bin .eql (.t 63) (.i 5)) (.o 3 65 (.mov (.t 64)) (.op 4 [] (some 66) (some (65, true)) false (.load (some 2) (.t 1)) (.op 5 [] (some 67) (some (65, true)) false (.fad (.t 5) 0) (.op 6 [] (some 68) (some (65, true)) false (.load (some 1) (.t 67)) (.op 7 [] (some 69) (some (65, true)) false (.call 69 92 [(.t 66), (.t 68), (.i 255)]) (.op 8 [] (some 70) (some (65, true)) false (.len (.t 69)) (.op 9 [] (some 71) (some (65, true)) false (.bin .gtr (.t 70) (.i 1)) (.o 10 72 (.pick (.t 65) (.t 71) (.v (.bool false))) .done))))))))))) (.cond (.t 72) (.g (.o 0 2 (.mov (.v (.bool false))) .done) .ret) .skip)))))) (.reg false (.o 0 73 (.bin .add (.t 25) (.i 1)) (.o 1 25 (.mov (.t 73)) .done))))))))) (.g (.o 0 74 (.mov (.t 3)) (.o 1 75 (.bin .eql (.t 74) (.i 1)) (.o 2 2 (.mov (.t 75)) .done))) .ret)))))
theorem dg_impl_ZoneOk : Tryz.f27.body.bind (digC Tryz.prog Tryz.f27.ntmps []) = some c_impl_ZoneOk := by kernel_rfl
theorem rs_impl_ZoneOk : resSlots Tryz.prog Tryz.f27 = some [.s 2] := by kernel_rfl
theorem ok_impl_ZoneOk (z : Zone) (hs : SmallZ z) :
    FnOK Tryz.prog 27 [.agg (z.cells.map .d)] (fun ra _ => ra = [.one (.d (.sc (.bool (zoneOk z))))]) := by
  refine FnOK.ofK Tryz.func27 (by kernel_rfl) dg_impl_ZoneOk rs_impl_ZoneOk rfl rfl ?_
  delta c_impl_ZoneOk T.o X.i C.g
  have o1 := hs.o.len
  have o2 := hs.o.mem
  have h1 := hs.r.len
  have hm := hs.r.mem
  have hr := hs.r
  cases a1 : nameOk z.origin
  · rw [show zoneOk z = false by unfold zoneOk; rw [a1]; rfl]
    refine Kbc (kBox Y Y Y Y Y (Ka Y (Kdb (Kbc (Kf Y Y (Ke Y Y Y (Kp (ok_impl_NameOk _ pr pr) ⟨⟨⟨Y, trivial⟩, leb⟩, trivial⟩ Y Y Y Y Y (Kw Y Y (Ka Y (kGN Y (fun g0 => Kg Y (Kg Y (Kg Y (Kg Y (Kk Y (Ka Y (Ka Y (Kg Y (Kg Y (Kg Y (Kg Y (Kk Y (Ka Y (Kd (kCondT Y (Kbc (Ka Y (Kd (Kr (Er (ra := [.one (.d _)]) rfl rfl)))))))))))))))))))) (fun g0 => (by (simp [*] at g0)))))))))))))
  by_cases a2 : z.rrs.length ≤ 60
  case neg =>
    rw [show zoneOk z = false by unfold zoneOk; rw [decide_eq_false a2]; simp]
    refine Kbc (kBox Y Y Y Y Y (Ka Y (Kdb (Kbc (Kf Y Y (Ke Y Y Y (Kp (ok_impl_NameOk _ pr pr) ⟨⟨⟨Y, trivial⟩, leb⟩, trivial⟩ Y Y Y Y Y (Kw Y Y (Ka Y (kGN Y (fun g0 => (by (simp [*] at g0))) (fun g0 => Ki Y (Kf Y Y (Ki Y (Ke Y Y Y (Ki Y (Kq Y Y (Ki Y (Kj Y Y Y (Kl Y (Ka Y (Ka Y (kGP Y (fun g1 => Kg Y (Kg Y (Kg Y (Kg Y (Kk Y (Ka Y (Kd (kCondT Y (Kbc (Ka Y (Kd (Kr (Er (ra := [.one (.d _)]) rfl rfl))))))))))))) (fun g1 => om)))))))))))))))))))))))
  refine Kbc (kBox Y Y Y Y Y (Ka Y (Kdb (Kbc (Kf Y Y (Ke Y Y Y (Kp (ok_impl_NameOk _ pr pr) ⟨⟨⟨Y, trivial⟩, leb⟩, trivial⟩ Y Y Y Y Y (Kw Y Y (Ka Y (kGN Y (fun g0 => (by (simp [*] at g0))) (fun g0 => Ki Y (Kf Y Y (Ki Y (Ke Y Y Y (Ki Y (Kq Y Y (Ki Y (Kj Y Y Y (Kl Y (Ka Y (Ka Y (kGP Y (fun g1 => om) (fun g1 => Ki Y (Kf Y Y (Ki Y (Ke Y Y Y (Ki Y ?_)))))))))))))))))))))))))))
  refine Kp (ok_impl_all_impl_Rr z.rrs SmallR rrOk h1 hm) ⟨rfl, ⟨rfl, rfl, ⟨_, Tryz.func60, rfl, by kernel_rfl⟩, ?_⟩, trivial⟩ Y Y Y Y Y ?_
  · rintro _ R ⟨x, h, rfl, rfl⟩
    exact ok_impl_RrOk x h
  cases a3 : z.rrs.all rrOk
  · rw [show zoneOk z = false by unfold zoneOk; rw [a3]; simp]
    refine Ki Y (Kw Y Y (Kl Y (Ka Y (Kd (kCondT Y (Kbc (Ka Y (Kd (Kr (Er (ra := [.one (.d _)]) rfl rfl))))))))))
  refine Ki Y (Kw Y Y (Kl Y (Ka Y (Kd (kCondF Y (Kn (Kbc (Ka Y (Kdb (Kbc (Kf Y Y (Ke Y Y Y (Kq Y Y (Ka Y (Kd (Kt ?_))))))))))))))))
  refine kLoop (α := { i : Nat // i ≤ z.rrs.length ∧ (List.range i).all (zAt z) = true }) (fun y => ⟨tabSl [(1, .c (.ptr (rid 1 0) 1 0)), (3, .i (zTops (z.rrs.take y.1))), (23, .dv (encR z.rrs)), (24, .i z.rrs.length), (25, .i y.1)], obTab 1 [(rid 1 0, ⟨1, 0, .box (z.cells.map .d)⟩)], []⟩) (fun y => z.rrs.length - y.1) ⟨0, by simp⟩ .normA ?_
  rintro ⟨i, hi, hz⟩
  simp only
  have ht := zTops_le z.rrs i
  rcases Nat.lt_or_ge i z.rrs.length with hlt | hge
  · have hbi := hm _ (List.getElem_mem hlt)
    have n1 := hbi.n.len
    have n2 := hbi.n.mem
    have hts := zTops_succ z.rrs i hlt
    have hq := zAt_eq hlt
    rw [aloneR_eq hlt] at hq
    have hset : (setOf z.rrs z.rrs[i].name 255).length ≤ z.rrs.length := List.length_filter_le _ _
    refine Kb ?_
    refine Kc (Kj Y Y Y (Kdb (Km Y (fun g0 => Kn (Kb (Kt (Kbc (Ka Y (kIadR Y Y Y om (Ky Y Y (kAlloc Y Y (Ka Y (Ko Y Y Y Y (Kdb (Kb (kRegD (Ka Y (Kj Y Y Y (Ka Y (kGP Y (fun g1 => Ki Y (Kf Y Y (Ki Y (Ke Y Y Y (Ki Y (Ka Y (Ki Y (kDif Y Y om (Ki Y (kIadT Y Y om (Ki Y (Ky Y Y (Ki Y (Ke Y Y Y (Ks Y Y (Ki Y (Kp (ok_impl_Rr_compare _ _ pr pr) ⟨⟨⟨Y, Y, Y, Y, Y, Y, Y, trivial⟩, leb⟩, ⟨⟨Y, Y, Y, Y, Y, Y, Y, trivial⟩, leb⟩, trivial⟩ Y Y Y Y Y (Ki Y (Kj Y Y Y (Kk Y (Ka Y (Ka Y (kGP Y (fun g2 => Kg Y (Kg Y (Kg Y (Kg Y (Ks Y Y (Kg Y (Kg Y (Kk Y (Ka Y (Kd (kH (kCondT Y (Kbc (Ka Y (Kd (Kr (Er (ra := [.one (.d _)]) rfl ?_))))))))))))))))) (fun g2 => Ki Y (Kf Y Y (Ki Y (Ke Y Y Y (Ki Y (Kf Y Y (Ki Y (Ke Y Y Y (Ks Y Y (Ki Y (Kp (ok_impl_Name_under _ _ pr pr) ⟨⟨⟨Y, trivial⟩, leb⟩, ⟨⟨Y, trivial⟩, leb⟩, trivial⟩ Y Y Y Y Y (Ki Y (Kw Y Y (Kl Y (Ka Y (Kd (kH (kCondN Y (fun g3 => Kbc (Ka Y (Kd (Kr (Er (ra := [.one (.d _)]) rfl ?_))))) (fun g3 => Kn (Kb (Kbc (Kf Y Y (Ke Y Y Y (Kj Y Y Y (Kd (Km Y (fun g4 => Kbc (Ka Y (kAdd Y Y om (Ka Y (Kdb (Kc (Kf Y Y (Ke Y Y Y (Kf Y Y (Ke Y Y Y (Kp (ok_impl_Name_is _ _ pr pr) ⟨⟨⟨Y, trivial⟩, leb⟩, ⟨⟨Y, trivial⟩, leb⟩, trivial⟩ Y Y Y Y Y (Kw Y Y (Kd (kCondN Y (fun g5 => Kbc (Ka Y (Kd (Kr (Er (ra := [.one (.d _)]) rfl ?_))))) (fun g5 => Kn (Kbc (Kf Y Y (Ke Y Y Y (Kj Y Y Y (Ka Y (kGP Y (fun g6 => om) (fun g6 => Kg Y (Kg Y (Kg Y (Kg Y (Kg Y (Kg Y (Kl Y (Ka Y (Kd (kCondF Y (Kn (Kv (Kc (kAdd Y Y om (Ka Y (Kd ?_))))))))))))))))))))))))))))))))))))) (fun g4 => Kn (Kbc (Kf Y Y (Ke Y Y Y (Kj Y Y Y (Ka Y (kGP Y (fun g7 => Ki Y (Ke Y Y Y (Ki Y (Kf Y Y (Ki Y (Ke Y Y Y (Ki Y (kCallD2 (ok_impl_Zone_set _ _ _ pr pr) ⟨⟨⟨Y, Y, trivial⟩, leb⟩, ⟨⟨Y, trivial⟩, leb⟩, rfl, trivial⟩ Y Y Y Y (Ki Y (Kq Y Y (Ki Y (Kj Y Y Y (Kk Y (Ka Y (Kd (Km Y (fun g8 => Kbc (Ka Y (Kd (Kr (Er (ra := [.one (.d _)]) rfl ?_))))) (fun g8 => Kn (Kv (Kc (kAdd Y Y om (Ka Y (Kd ?_)))))))))))))))))))))) (fun g7 => Kg Y (Kg Y (Kg Y (Kg Y (Kg Y (Kg Y (Kl Y (Ka Y (Kd (kCondF Y (Kn (Kv (Kc (kAdd Y Y om (Ka Y (Kd ?_)))))))))))))))))))))))))))))))))))))))))))))))))))))))))))))))))))))))) (fun g1 => Kg Y (Kg Y (Kg Y (Kg Y (Kg Y (Kg Y (Kg Y (Ks Y Y (Kg Y (Kg Y (Kl Y (Ka Y (Ka Y (Ki Y (Kf Y Y (Ki Y (Ke Y Y Y (Ki Y (Kf Y Y (Ki Y (Ke Y Y Y (Ks Y Y (Ki Y (Kp (ok_impl_Name_under _ _ pr pr) ⟨⟨⟨Y, trivial⟩, leb⟩, ⟨⟨Y, trivial⟩, leb⟩, trivial⟩ Y Y Y Y Y (Ki Y (Kw Y Y (Kl Y (Ka Y (Kd (kH (kCondN Y (fun g9 => Kbc (Ka Y (Kd (Kr (Er (ra := [.one (.d _)]) rfl ?_))))) (fun g9 => Kn (Kb (Kbc (Kf Y Y (Ke Y Y Y (Kj Y Y Y (Kd (Km Y (fun g10 => Kbc (Ka Y (kAdd Y Y om (Ka Y (Kdb (Kc (Kf Y Y (Ke Y Y Y (Kf Y Y (Ke Y Y Y (Kp (ok_impl_Name_is _ _ pr pr) ⟨⟨⟨Y, trivial⟩, leb⟩, ⟨⟨Y, trivial⟩, leb⟩, trivial⟩ Y Y Y Y Y (Kw Y Y (Kd (kCondN Y (fun g11 => Kbc (Ka Y (Kd (Kr (Er (ra := [.one (.d _)]) rfl ?_))))) (fun g11 => Kn (Kbc (Kf Y Y (Ke Y Y Y (Kj Y Y Y (Ka Y (kGP Y (fun g12 => om) (fun g12 => Kg Y (Kg Y (Kg Y (Kg Y (Kg Y (Kg Y (Kl Y (Ka Y (Kd (kCondF Y (Kn (Kv (Kc (kAdd Y Y om (Ka Y (Kd ?_))))))))))))))))))))))))))))))))))))) (fun g10 => Kn (Kbc (Kf Y Y (Ke Y Y Y (Kj Y Y Y (Ka Y (kGP Y (fun g13 => Ki Y (Ke Y Y Y (Ki Y (Kf Y Y (Ki Y (Ke Y Y Y (Ki Y (kCallD2 (ok_impl_Zone_set _ _ _ pr pr) ⟨⟨⟨Y, Y, trivial⟩, leb⟩, ⟨⟨Y, trivial⟩, leb⟩, rfl, trivial⟩ Y Y Y Y (Ki Y (Kq Y Y (Ki Y (Kj Y Y Y (Kk Y (Ka Y (Kd (Km Y (fun g14 => Kbc (Ka Y (Kd (Kr (Er (ra := [.one (.d _)]) rfl ?_))))) (fun g14 => Kn (Kv (Kc (kAdd Y Y om (Ka Y (Kd ?_)))))))))))))))))))))) (fun g13 => Kg Y (Kg Y (Kg Y (Kg Y (Kg Y (Kg Y (Kl Y (Ka Y (Kd (kCondF Y (Kn (Kv (Kc (kAdd Y Y om (Ka Y (Kd ?_))))))))))))))))))))))))))))))))))))))))))))))))))))))))))))))))))))))))))))))) (fun g0 => om))))
    all_goals first
      | (refine congrArg (fun z : Bool => [RA.one (RV.d (DV.sc (Value.bool z)))]) (zone_no hlt (Bool.eq_false_iff.2 fun h => ?_)).symm
         rw [hq] at h
         simp only [Bool.and_eq_true, decide_eq_true_eq, Bool.or_eq_true, Bool.not_eq_true', beq_eq_false_iff_ne] at h
         obtain ⟨⟨⟨k1, k2⟩, k3⟩, k4⟩ := h
         first
           | (rw [prevB_pos (by omega) hlt (by omega), decide_eq_true_eq] at k2; omega)
           | (simp_all; done)
           | (simp_all; omega))
      | (have e1 : prevB z.rrs i = true := by
           first
             | (rw [prevB_pos (by omega) hlt (by omega)]; exact decide_eq_true (by omega))
             | (have : i = 0 := by omega
                subst this; exact prevB_zero)
         have e2 : (!(z.rrs[i].ty == 5) || decide ((setOf z.rrs z.rrs[i].name 255).length ≤ 1)) = true := by
           first
             | assumption
             | (simp [*]; done)
             | (rw [decide_eq_true (by omega)]; simp)
         have e3 : (!(z.rrs[i].ty == 6) || decide (z.rrs[i].name = z.origin)) = true := by
           first
             | (simp [*]; done)
             | (simp_all; done)
         first
           | rw [if_pos (by assumption)] at hts
           | rw [if_neg (by assumption)] at hts
         have hz' : zAt z i = true := by rw [hq, e1, e2, e3]; simp [*]
         exact kInv ⟨⟨i + 1, by omega, range_all hz hz'⟩, by simp only; omega, .normA⟩)
  · rw [show zoneOk z = decide (zTops z.rrs = 1) by unfold zoneOk; rw [a1, decide_eq_true a2, a3, show (List.range z.rrs.length).all (zAt z) = true by rw [show z.rrs.length = i by omega]; exact hz]; rfl]
    refine Kbc (Kj Y Y Y (Kdb (Km Y (fun g0 => om) (fun g0 => kExit (kExC (kExI (kExB (Kbc (Ka Y (Kj Y Y Y (Ka Y (Kd (Kr (Er (ra := [.one (.d _)]) rfl ?_))))))))))))))
    rw [show i = z.rrs.length by omega, List.take_length]
    rfl

def c_impl_Zone_kept : C := (.g (.o 0 2 (.box 2 (.t 0)) (.o 1 4 (.alloc 4 [(.n 1), (.n 7)]) .done)) (.g (.o 0 8 (.fad (.t 2) 0) (.o 1 9 (.load (some 1) (.t 8)) (.o 2 10 (.build [(.n 1), (.n 7)] [(0, 1, (.t 9))]) (.o 3 5 (.alloc 5 [(.n 1), (.n 7)]) (.op 4 [] none none false (.store (some 2) (.t 5) (.t 10)) .done))))) (.seq (.g (.o 0 11 (.fad (.t 2) 1) (.o 1 12 (.load none (.t 11)) (.o 2 13 (.len (.t 12)) (.o 3 14 (.mov (.i 0)) .done)))) (.block 0 (.loop (.g (.o 0 15 (.bin .lss (.t 14) (.t 13)) .done) (.seq (.cond (.t 15) .skip (.exit 0)) (.seq (.block 1 (.g (.o 0 16 (.iad 7 (.t 12) (.t 14)) (.o 1 17 (.load (some 7) (.t 16)) (.o 2 7 (.alloc 7 [(.n 1), (.i 0), (.i 0), (.i 0), (.n 1), (.n 1), (.n 1)]) (.op 3 [] none none false (.store (some 7) (.t 7) (.t 17)) .done)))) (.g (.o 0 18 (.mov (.t 1)) (.o 1 19 (.load (some 7) (.t 7)) (.o 2 20 (.callv 20 (.t 18) [(.t 19)]) .done))) (.cond (.t 20) (.reg false (.o 0 21 (.fad (.t 5) 1) (.o 1 22 (.load none (.t 21)) (.o 2 23 (.load (some 7) (.t 7)) (.o 3 24 (.lit 24 7 [(.n 1), (.i 0), (.i 0), (.i 0), (.n 1), (.n 1), (.n 1)] 1 [(0, 7, (.t 23))]) (.o 4 25 (.app 25 7 120 (.t 22) (.t 24)) (.o 5 26 (.fad (.t 5) 1) (.op 6 [] none none false (.store none (.t 26) (.t 25)) .done)))))))) .skip)))) (.reg false (.o 0 27 (.bin .add (.t 14) (.i 1)) (.o 1 14 (.mov (.t 27)) .done))))))))) (.g (.o 0 28 (.load (some 2) (.t 5)) (.op 1 [] none none false (.store (some 2) (.t 4) (.t 28)) .done)) .ret))))
theorem dg_impl_Zone_kept : Tryz.f146.body.bind (digC Tryz.prog Tryz.f146.ntmps []) = some c_impl_Zone_kept := by kernel_rfl
theorem rs_impl_Zone_kept : resSlots Tryz.prog Tryz.f146 = some [.m 4 (some 2)] := by kernel_rfl
theorem ok_impl_Zone_kept_own (z : Zone) (D : Rr → Prop) (g : Rr → Bool) (hs : SmallZ z) (hD : ∀ x ∈ z.rrs, D x) :
    FnOK Tryz.prog 146 [.agg (z.cells.map .d), .one (.fv false (fcAgg D Rr.cells g))] (fun ra _ => ra = [.agg [.d (encBB z.origin), .own false (encR (z.rrs.filter g))]]) := by
  refine FnOK.ofK Tryz.func146 (by kernel_rfl) dg_impl_Zone_kept rs_impl_Zone_kept rfl rfl ?_
  delta c_impl_Zone_kept T.o X.i C.g
  have h1 := hs.r.len
  refine Kbc (kBox Y Y Y Y Y (kAlloc Y Y (Kdb (Kc (Kf Y Y (Ke Y Y Y (kBuildG Y (kAlloc Y Y (kMem [(24576, ⟨1, 0, .box [.nil 1, .nil 7]⟩)] [(5, .c (.ptr 24576 1 0)), (10, .g [.d _, .nil 7])] [] ⟨Y, trivial⟩ ⟨Y, Y, trivial⟩ Y (Ko Y Y Y Y (Kdb (Kbc (Kf Y Y (Ke Y Y Y (Kq Y Y (Ka Y (Kd (Kt ?_))))))))))))))))))
  refine kSub (Sub.nilBox (id := rid 5 0) (id2 := rid 5000 0) (j := 1) rfl rfl rfl (by decide) (by decide)) ?_
  refine kLoop (α := { i : Nat // i ≤ z.rrs.length }) (fun y => ⟨tabSl [(1, .c (.fv false (fcAgg D Rr.cells g))), (4, .c (.ptr (rid 4 0) 1 0)), (5, .c (.ptr (rid 5 0) 1 0)), (12, .dv (encR z.rrs)), (13, .i z.rrs.length), (14, .i y.1)], obTab 1 [(rid 4 0, ⟨1, 0, .box [.nil 1, .nil 7]⟩), (rid 5 0, ⟨1, 0, .box [.d (encBB z.origin), .arr (rid 5000 0) 1]⟩), (rid 5000 0, ⟨1, 0, .arr false (encR ((z.rrs.take y.1).filter g))⟩)], []⟩) (fun y => z.rrs.length - y.1) ⟨0, by simp⟩ .normA ?_
  rintro ⟨i, hi⟩
  simp only
  have hle := filter_len g z.rrs i
  rcases Nat.lt_or_ge i z.rrs.length with hlt | hge
  · refine Kbc (Kj Y Y Y (Kdb (Km Y (fun g0 => Kn (Kb (Kt (Kbc (kIadR Y Y Y prl (Ky Y Y (kAlloc Y Y (kMem [(32768, ⟨2, 0, .box [.nil 1, .d _, .d _, .d _, .nil 1, .nil 1, .nil 1]⟩)] [(7, .c (.ptr 32768 2 0)), (17, .g [.d _, .d _, .d _, .d _, .d _, .d _, .d _])] [] ⟨Y, trivial⟩ ⟨Y, Y, trivial⟩ Y (Ko Y Y Y Y (Kdb (Kc (Ka Y (Ke Y Y Y ?_))))))))))))) (fun g0 => om))))
    refine kCallv Y ⟨z.rrs[i], hD _ (List.getElem_mem hlt), rfl, rfl⟩ ⟨⟨⟨Y, Y, Y, Y, Y, Y, Y, trivial⟩, leb⟩, trivial⟩ (.inr ?_) rfl ?_ rfl ?_
    · rintro _ rfl; rfl
    · rintro _ rfl; exact leb
    rintro _ rfl
    cases hu : g z.rrs[i]
    · have hst := filter_no hlt hu
      refine Kd (kCondF Y (Kn (Kv (Kc (kAdd Y Y om (Ka Y (Kd ?_)))))))
      refine kInv ⟨⟨i + 1, by omega⟩, by simp only; omega, ?_⟩
      simp only [hst]
      exact .normA
    · have hst := filter_yes hlt hu
      refine Kd (kCondT Y (Kc (Kf Y Y (Ke Y Y Y (Ke Y Y Y (kMem [(20484096, ⟨1, 0, .arr false _⟩), (24576, ⟨1, 0, .box [.d _, .arr 20484096 1]⟩)] [(23, .g [.d _, .d _, .d _, .d _, .d _, .d _, .d _]), (22, .c (.arr 20484096 1)), (5, .c (.ptr 24576 1 0))] [] ⟨Y, Y, trivial⟩ ⟨Y, Y, Y, trivial⟩ Y (kLitG Y Y Y Y (kAppRec Y Y Y Y Y Y Y prl (Kf Y Y (Ko Y Y Y Y (Kd (Kv (Kc (kAdd Y Y om (Ka Y (Kd ?_))))))))))))))))
      refine kInv ⟨⟨i + 1, by omega⟩, by simp only; omega, ?_⟩
      simp only [hst]
      exact .normA
  · refine Kbc (Kj Y Y Y (Kdb (Km Y (fun g0 => om) (fun g0 => kExit (kExC (kExI (kExB (Kbc (Ke Y Y Y (kMem [(20480, ⟨1, 0, .box [.nil 1, .nil 7]⟩), (20484096, ⟨1, 0, .arr false _⟩)] [(4, .c (.ptr 20480 1 0)), (28, .g [.d _, .arr 20484096 1])] [] ⟨Y, Y, trivial⟩ ⟨Y, Y, trivial⟩ Y (Ko Y Y Y Y (Kd (kMem [(20480, ⟨1, 0, .box [.d _, .arr 20484096 1]⟩), (20484096, ⟨1, 0, .arr false _⟩)] [(4, .c (.ptr 20480 1 0))] [] ⟨Y, Y, trivial⟩ ⟨Y, trivial⟩ Y (Kr (Er (ra := [.agg [(.d _), (.own false _)]]) rfl ?_)))))))))))))))
    rw [show i = z.rrs.length by omega, List.take_length]

def c_impl_Rr_same : C := (.g (.o 0 2 (.box 2 (.t 0)) (.o 1 3 (.box 3 (.t 1)) (.o 2 4 (.mov (.v (.bool false))) .done))) (.g (.o 0 5 (.load (some 7) (.t 2)) (.o 1 6 (.load (some 7) (.t 3)) (.o 2 7 (.call 7 94 [(.t 5), (.t 6)]) (.o 3 8 (.bin .eql (.t 7) (.i 0)) (.o 4 4 (.mov (.t 8)) .done))))) .ret))
theorem dg_impl_Rr_same : Tryz.f148.body.bind (digC Tryz.prog Tryz.f148.ntmps []) = some c_impl_Rr_same := by kernel_rfl
theorem rs_impl_Rr_same : resSlots Tryz.prog Tryz.f148 = some [.s 4] := by kernel_rfl
theorem ok_impl_Rr_same (a b : Rr) (ha : SmallR a) (hb : SmallR b) :
    FnOK Tryz.prog 148 [.agg (a.cells.map .d), .agg (b.cells.map .d)] (fun ra _ => ra = [.one (.d (.sc (.bool (cmpR a b == 0))))]) := by
  refine FnOK.ofK Tryz.func148 (by kernel_rfl) dg_impl_Rr_same rs_impl_Rr_same rfl rfl ?_
  delta c_impl_Rr_same T.o X.i C.g
  refine Kbc (kBox Y Y Y Y Y (kBox Y Y Y Y Y (Ka Y (Kdb (Kc (Ke Y Y Y (Ke Y Y Y (Kp (ok_impl_Rr_compare _ _ pr pr) ⟨⟨⟨Y, Y, Y, Y, Y, Y, Y, trivial⟩, leb⟩, ⟨⟨Y, Y, Y, Y, Y, Y, Y, trivial⟩, leb⟩, trivial⟩ Y Y Y Y Y (Kj Y Y Y (Ka Y (Kd (Kr (Er (ra := [.one (.d _)]) rfl rfl)))))))))))))

def c_impl_Zone_with_1 : C := (.g (.o 0 2 (.box 2 (.t 0)) (.o 1 3 (.mov (.v (.bool false))) .done)) (.g (.o 0 4 (.load (some 7) (.t 2)) (.o 1 5 (.load (some 7) (.t 1)) (.o 2 6 (.call 6 148 [(.t 4), (.t 5)]) (.o 3 7 (.un .not (.t 6)) (.o 4 3 (.mov (.t 7)) .done))))) .ret))
theorem dg_impl_Zone_with_1 : Tryz.f147.body.bind (digC Tryz.prog Tryz.f147.ntmps []) = some c_impl_Zone_with_1 := by kernel_rfl
theorem rs_impl_Zone_with_1 : resSlots Tryz.prog Tryz.f147 = some [.s 3] := by kernel_rfl
theorem ok_impl_Zone_with_1 (o r : Rr) (ho : SmallR o) (hr : SmallR r) :
    FnOK Tryz.prog 147 [.agg (o.cells.map .d), .one (.ptr (r.cells.map .d))] (fun ra _ => ra = [.one (.d (.sc (.bool (!(cmpR o r == 0)))))]) := by
  refine FnOK.ofK Tryz.func147 (by kernel_rfl) dg_impl_Zone_with_1 rs_impl_Zone_with_1 rfl rfl ?_
  delta c_impl_Zone_with_1 T.o X.i C.g
  refine Kbc (kBox Y Y Y Y Y (Ka Y (Kdb (Kc (Ke Y Y Y (kLoadC Y Y (Kp (ok_impl_Rr_same _ _ prx prx) ⟨⟨⟨Y, Y, Y, Y, Y, Y, Y, trivial⟩, leb⟩, ⟨⟨Y, Y, Y, Y, Y, Y, Y, trivial⟩, leb⟩, trivial⟩ Y Y Y Y Y (Kw Y Y (Ka Y (Kd (Kr (Er (ra := [.one (.d _)]) rfl rfl))))))))))))

def c_bytes_Clone : C := (.g (.o 0 2 (.mov (.n 1)) .done) (.seq (.g (.o 0 3 (.mov (.t 0)) (.o 1 4 (.eqn false (.t 3)) .done)) (.cond (.t 4) (.g (.o 0 2 (.mov (.n 1)) .done) .ret) .skip)) (.g (.o 0 5 (.lit 5 1 [(.v (.int .u8 0))] 0 []) (.o 1 6 (.mov (.t 0)) (.o 2 7 (.app 7 1 1 (.t 5) (.t 6)) (.o 3 2 (.mov (.t 7)) .done)))) .ret)))
theorem dg_bytes_Clone : Tryz.f192.body.bind (digC Tryz.prog Tryz.f192.ntmps []) = some c_bytes_Clone := by kernel_rfl
theorem rs_bytes_Clone : resSlots Tryz.prog Tryz.f192 = some [.s 2] := by kernel_rfl
theorem ok_bytes_Clone (b : List UInt8) (hb : b.length ≤ 140737488355328) :
    FnOK Tryz.prog 192 [.one (.d (encB b))] (fun ra _ => ra = [.one (.own true (encB b))]) := by
  refine FnOK.ofK Tryz.func192 (by kernel_rfl) dg_bytes_Clone rs_bytes_Clone rfl rfl ?_
  delta c_bytes_Clone T.o X.i C.g
  refine Kbc (Ka Y (Kd ?_))
  refine Kb (Kbc (Ka Y (kEqn Y Y Y fun n hn => Kd ?_)))
  refine kCond Y (fun h => ?_) (fun h => ?_)
  · refine Kbc (Ka Y (Kd (Kr ?_)))
    refine endRet (ra := [.one (.own true (.sl 1 []))]) rfl ⟨⟨rfl, trivial⟩, nodupB_sound rfl, trivial, trivial⟩ ?_
    have : b = [] := by
      rw [len_encB] at hn
      cases b with
      | nil => rfl
      | cons x l => have := hn (by simp); simp [this] at h
    rw [this]; rfl
  · refine Kn (Kbc ?_)
    refine kLit Y Y Y Y (Ka Y ?_)
    refine kApp (cy := .d (encB b)) rfl rfl rfl (src_encB _ b) rfl rfl ⟨rfl, rfl, Nat.zero_lt_one⟩ Y ?_ (Ka Y (Kd (Kr ?_)))
    · show ((DV.sl 1 (chunk 1 0 [])).len + (encB b).len) * 1 ≤ _ ∧ _
      rw [len_encB]; simp [DV.len, chunk]; omega
    refine endRet (ra := [.one (.own true _)]) rfl ⟨⟨⟨⟨_, rfl, fun _ => rfl⟩, .inl (Nat.zero_lt_succ _)⟩, trivial⟩, nodupB_sound rfl, trivial, trivial⟩ ?_
    exact congrArg (fun x => [RA.one (RV.own true x)]) (app_nil_encB b)

def c_impl_Name_copied : C := (.g (.o 0 1 (.box 1 (.t 0)) (.o 1 2 (.alloc 2 [(.n 1)]) .done)) (.g (.o 0 6 (.build [(.n 1)] []) (.o 1 3 (.alloc 3 [(.n 1)]) (.op 2 [] none none false (.store (some 1) (.t 3) (.t 6)) .done))) (.seq (.g (.o 0 7 (.fad (.t 1) 0) (.o 1 8 (.load none (.t 7)) (.o 2 9 (.len (.t 8)) (.o 3 10 (.mov (.i 0)) .done)))) (.block 0 (.loop (.g (.o 0 11 (.bin .lss (.t 10) (.t 9)) .done) (.seq (.cond (.t 11) .skip (.exit 0)) (.seq (.block 1 (.g (.o 0 12 (.iad 1 (.t 8) (.t 10)) (.o 1 13 (.load none (.t 12)) (.o 2 5 (.mov (.t 13)) .done))) (.reg true (.op 0 [] (some 14) none true (.fad (.t 3) 0) (.op 1 [] (some 15) none true (.load none (.t 14)) (.op 2 [] (some 16) none true (.mov (.t 5)) (.o 3 17 (.call 17 192 [(.t 16)]) (.o 4 18 (.lit 18 1 [(.n 1)] 1 [(0, 1, (.t 17))]) (.op 5 [1] (some 19) none false (.app 19 1 24 (.t 15) (.t 18)) (.op 6 [] (some 20) none true (.fad (.t 3) 0) (.op 7 [1] none none false (.store none (.t 20) (.t 19)) .done))))))))))) (.reg false (.o 0 21 (.bin .add (.t 10) (.i 1)) (.o 1 10 (.mov (.t 21)) .done))))))))) (.g (.o 0 22 (.load (some 1) (.t 3)) (.op 1 [] none none false (.store (some 1) (.t 2) (.t 22)) .done)) .ret))))
theorem dg_impl_Name_copied : Tryz.f150.body.bind (digC Tryz.prog Tryz.f150.ntmps []) = some c_impl_Name_copied := by kernel_rfl
theorem rs_impl_Name_copied : resSlots Tryz.prog Tryz.f150 = some [.m 2 (some 1)] := by kernel_rfl
theorem ok_impl_Name_copied (a : List (List UInt8)) (ha : a.length ≤ 4194304) (hb : ∀ b ∈ a, b.length ≤ 4194304) :
    FnOK Tryz.prog 150 [.agg [.d (encBB a)]] (fun ra _ => ra = [.agg [.own true (encBB a)]]) := by
  refine FnOK.ofK Tryz.func150 (by kernel_rfl) dg_impl_Name_copied rs_impl_Name_copied rfl rfl ?_
  delta c_impl_Name_copied T.o X.i C.g
  refine Kbc (kBox Y Y Y Y Y (kAlloc Y Y (Kd ?_)))
  refine Kbc (kBuild Y (kAlloc Y Y (Ko Y Y Y Y (Kd ?_))))
  refine Kb (Kbc (Kf Y Y (Ke Y Y Y (kLen Y Y Y (Ka Y (Kd (Kt ?_)))))))
  rw [len_encBB]
  refine kSub (Sub.nilBox (id := rid 3 0) (id2 := rid 5000 0) (j := 0) rfl rfl rfl (by decide) (by decide)) ?_
  refine kLoop (α := { i : Nat // i ≤ a.length })
    (fun y => ⟨tabSl [(1, .c (.ptr (rid 1 0) 1 0)), (2, .c (.ptr (rid 2 0) 1 0)), (3, .c (.ptr (rid 3 0) 1 0)), (8, .dv (encBB a)), (9, .i a.length), (10, .i y.1)],
      obTab 1 [(rid 1 0, ⟨1, 0, .box [.d (encBB a)]⟩), (rid 2 0, ⟨1, 0, .box [.nil 1]⟩), (rid 3 0, ⟨1, 0, .box [.arr (rid 5000 0) 1]⟩), (rid 5000 0, ⟨1, 0, .arr true (encBB (a.take y.1))⟩)], []⟩) (fun y => a.length - y.1) ⟨0, by simp⟩
    (.norm ?_ ?_) ?_
  · repeat' first | exact trivial | exact rfl | exact .inl rfl | refine ⟨_, rfl, ?_⟩ | refine ⟨?_, ?_⟩ | fail
  · repeat' first | exact trivial | exact rfl | exact .inl rfl | refine ⟨_, rfl, ?_⟩ | refine ⟨?_, ?_⟩ | fail
  rintro ⟨i, hi⟩
  simp only at hi ⊢
  refine Kbc (Kj Y Y Y (Kdb ?_))
  refine kCond Y (fun h1 => ?_) (fun h1 => ?_)
  · have hlt : i < a.length := by simp at h1; omega
    refine Kn (Kb (Kt (Kbc ?_)))
    refine kIadD Y Y Y Y ?_ ?_
    · rw [len_encBB]; omega
    rw [show (encBB a).row (i : Int).toNat = [encB a[i]] from row_encBB a i hlt]
    refine Ky Y Y (Ka Y (Kd (kRegD (Kf Y Y (Ke Y Y Y (Ka Y ?_))))))
    refine Ku false (ok_bytes_Clone a[i] (Nat.le_trans (hb _ (List.getElem_mem hlt)) om)) ⟨Y, trivial⟩ rfl rfl rfl fun os => ?_
    refine kLit Y Y Y Y (Ks Y Y ?_)
    refine kApp Y Y Y Y Y Y ⟨rfl, rfl, Nat.zero_lt_one⟩ Y ?_ ?_
    · show ((encBB (a.take i)).len + (DV.sl 1 [[encB a[i]]]).len) * 24 ≤ _ ∧ (encBB (a.take i)).len + (DV.sl 1 [[encB a[i]]]).len ≤ _
      rw [len_encBB, List.length_take]; simp [DV.len, DV.rows]; omega
    refine Kf Y Y (Ks Y Y (Ko Y Y Y Y (Kd (kH (Kv (Kc (kAdd Y Y om (Ka Y (Kd ?_)))))))))
    refine kInv ⟨⟨i + 1, hlt⟩, by simp only; omega, .norm ?_ ?_⟩
    · repeat' first | exact trivial | exact rfl | exact .inl rfl | refine ⟨_, rfl, ?_⟩ | refine ⟨?_, ?_⟩ | fail
    · repeat' first | exact trivial | exact rfl | exact .inl rfl | refine ⟨_, rfl, ?_⟩ | refine ⟨?_, ?_⟩ | fail
      rw [← List.take_append_getElem hlt, ← app_encBB]
      rfl
  · refine kExit (kExC (kExI (kExB (Kbc (Ke Y Y Y (Ko Y Y Y Y (Kd ?_)))))))
    have hge : i = a.length := by simp at h1; omega
    subst hge
    refine Kr (endRet (ra := [.agg [.own true _]]) rfl ⟨⟨⟨⟨⟨⟨_, rfl, fun _ => rfl⟩, .inl Nat.zero_lt_one⟩, trivial⟩, leb⟩, trivial⟩, nodupB_sound rfl, ⟨trivial, trivial⟩, trivial⟩ ?_)
    rw [List.take_length]

def c_slices_Clone_Lint_int : C := (.g (.o 0 2 (.mov (.n 1)) .done) (.seq (.g (.o 0 3 (.mov (.t 0)) (.o 1 4 (.eqn false (.t 3)) .done)) (.cond (.t 4) (.g (.o 0 2 (.mov (.n 1)) .done) .ret) .skip)) (.g (.o 0 5 (.lit 5 1 [(.i 0)] 0 []) (.o 1 6 (.mov (.t 0)) (.o 2 7 (.app 7 1 8 (.t 5) (.t 6)) (.o 3 2 (.mov (.t 7)) .done)))) .ret)))
theorem dg_slices_Clone_Lint_int : Tryz.f229.body.bind (digC Tryz.prog Tryz.f229.ntmps []) = some c_slices_Clone_Lint_int := by kernel_rfl
theorem rs_slices_Clone_Lint_int : resSlots Tryz.prog Tryz.f229 = some [.s 2] := by kernel_rfl
theorem ok_slices_Clone_Lint_int (b : List Int) (hb : b.length ≤ 4194304) :
    FnOK Tryz.prog 229 [.one (.d (Hearth.encI b))] (fun ra _ => ra = [.one (.own true (Hearth.encI b))]) := by
  refine FnOK.ofK Tryz.func229 (by kernel_rfl) dg_slices_Clone_Lint_int rs_slices_Clone_Lint_int rfl rfl ?_
  delta c_slices_Clone_Lint_int T.o X.i C.g
  refine Kbc (Ka Y (Kd ?_))
  refine Kb (Kbc (Ka Y (kEqn Y Y Y fun n hn => Kd ?_)))
  refine kCond Y (fun h => ?_) (fun h => ?_)
  · refine Kbc (Ka Y (Kd (Kr ?_)))
    refine endRet (ra := [.one (.own true (.sl 1 []))]) rfl ⟨⟨rfl, trivial⟩, nodupB_sound rfl, trivial, trivial⟩ ?_
    have : b = [] := by
      rw [len_encI] at hn
      cases b with
      | nil => rfl
      | cons x l => have := hn (by simp); simp [this] at h
    rw [this]; rfl
  · refine Kn (Kbc ?_)
    refine kLit Y Y Y Y (Ka Y ?_)
    refine kApp (cy := .d (Hearth.encI b)) rfl rfl rfl (src_encI _ b) rfl rfl ⟨rfl, rfl, Nat.zero_lt_one⟩ Y ?_ (Ka Y (Kd (Kr ?_)))
    · show ((DV.sl 1 (chunk 1 0 [])).len + (Hearth.encI b).len) * 8 ≤ _ ∧ _
      rw [len_encI]; simp [DV.len, chunk]; omega
    refine endRet (ra := [.one (.own true _)]) rfl ⟨⟨⟨⟨_, rfl, fun _ => rfl⟩, .inl (Nat.zero_lt_succ _)⟩, trivial⟩, nodupB_sound rfl, trivial, trivial⟩ ?_
    exact congrArg (fun x => [RA.one (RV.own true x)]) (app_nil_encI b)

def c_impl_Rr_copied : C := (.g (.o 0 1 (.box 1 (.t 0)) (.o 1 2 (.alloc 2 [(.n 1), (.i 0), (.i 0), (.i 0), (.n 1), (.n 1), (.n 1)]) .done)) (.seq (.reg true (.op 0 [] (some 3) none true (.fad (.t 1) 0) (.op 1 [] (some 4) none true (.load (some 1) (.t 3)) (.op 3 [] (some 6) none true (.fad (.t 1) 4) (.op 4 [] (some 7) none true (.load (some 1) (.t 6)) (.op 6 [] (some 9) none true (.fad (.t 1) 5) (.op 7 [] (some 10) none true (.load none (.t 9)) (.op 9 [] (some 12) none true (.fad (.t 1) 6) (.op 10 [] (some 13) none true (.load none (.t 12)) (.op 2 [1] (some 5) none false (.call 5 150 [(.t 4)]) (.op 12 [] (some 15) none true (.fad (.t 1) 0) (.op 5 [4, 1] (some 8) none false (.call 8 150 [(.t 7)]) (.op 8 [7, 4, 1] (some 11) none false (.call 11 192 [(.t 10)]) (.op 11 [10, 7, 4, 1] (some 14) none false (.call 14 229 [(.t 13)]) (.op 13 [1, 4, 7, 10] none none false (.store (some 1) (.t 15) (.t 5)) (.op 14 [] (some 16) none true (.fad (.t 1) 4) (.op 15 [1, 4, 7, 10] none none false (.store (some 1) (.t 16) (.t 8)) (.op 16 [] (some 17) none true (.fad (.t 1) 5) (.op 17 [1, 4, 7, 10] none none false (.store none (.t 17) (.t 11)) (.op 18 [] (some 18) none true (.fad (.t 1) 6) (.op 19 [1, 4, 7, 10] none none false (.store none (.t 18) (.t 14)) .done))))))))))))))))))))) (.g (.o 0 19 (.load (some 7) (.t 1)) (.op 1 [] none none false (.store (some 7) (.t 2) (.t 19)) .done)) .ret)))
theorem dg_impl_Rr_copied : Tryz.f172.body.bind (digC Tryz.prog Tryz.f172.ntmps []) = some c_impl_Rr_copied := by kernel_rfl
theorem rs_impl_Rr_copied : resSlots Tryz.prog Tryz.f172 = some [.m 2 (some 7)] := by kernel_rfl
theorem ok_impl_Rr_copied (r : Rr) (hs : SmallR r) :
    FnOK Tryz.prog 172 [.agg (r.cells.map .d)] (fun ra _ => ra = [.agg [.own true (encBB r.name), .d (.sc (.int .i64 r.ty)), .d (.sc (.int .i64 r.ttl)), .d (.sc (.int .i64 r.addr)), .own true (encBB r.to), .own true (encB r.text), .own true (Hearth.encI r.nums)]]) := by
  refine FnOK.ofK Tryz.func172 (by kernel_rfl) dg_impl_Rr_copied rs_impl_Rr_copied rfl rfl ?_
  delta c_impl_Rr_copied T.o X.i C.g
  have n1 := hs.n.len
  have n2 := hs.n.mem
  have t1 := hs.t.len
  have t2 := hs.t.mem
  have x1 := hs.x
  have m1 := hs.m
  refine Kb (kCut ⟨tabSl [(1, .c (.ptr (rid 1 0) 1 0)), (2, .c (.ptr (rid 2 0) 1 0))], obTab 1 [(rid 1 0, ⟨1, 0, .box (r.cells.map .d)⟩), (rid 2 0, ⟨1, 0, .box [.nil 1, .d (.sc (.int .i64 0)), .d (.sc (.int .i64 0)), .d (.sc (.int .i64 0)), .nil 1, .nil 1, .nil 1]⟩)], []⟩ ?_ (fun x hc => ?_))
  case refine_2 => refine kReg (kBox rfl rfl rfl rfl rfl (kAlloc rfl rfl (kDone (hc _ .normA))))
  refine Kb (kCut ⟨tabSl [(1, .c (.ptr (rid 1 0) 1 0)), (2, .c (.ptr (rid 2 0) 1 0))], obTab 1 [(rid 1 0, ⟨1, 0, .box [.arr (rid 5 0) 1, .d (.sc (.int .i64 r.ty)), .d (.sc (.int .i64 r.ttl)), .d (.sc (.int .i64 r.addr)), .arr (rid 8 0) 1, .arr (rid 11 0) 1, .arr (rid 14 0) 1]⟩), (rid 2 0, ⟨1, 0, .box [.nil 1, .d (.sc (.int .i64 0)), .d (.sc (.int .i64 0)), .d (.sc (.int .i64 0)), .nil 1, .nil 1, .nil 1]⟩), (rid 5 0, ⟨1, 0, .arr true (encBB r.name)⟩), (rid 8 0, ⟨1, 0, .arr true (encBB r.to)⟩), (rid 11 0, ⟨1, 0, .arr true (encB r.text)⟩), (rid 14 0, ⟨1, 0, .arr true (Hearth.encI r.nums)⟩)], []⟩ ?_ (fun x hc => ?_))
  case refine_2 => refine kRegD (kFadP rfl rfl (kLoadP rfl rfl rfl (kFadP rfl rfl (kLoadP rfl rfl rfl (kFadP rfl rfl (kLoadP rfl rfl rfl (kFadP rfl rfl (kLoadP rfl rfl rfl (kRelK rfl rfl (kCall1 true (ok_impl_Name_copied _ pr pr) ⟨⟨⟨rfl, trivial⟩, leb⟩, trivial⟩ rfl rfl rfl (fun _ => (kFadP rfl rfl (kRelK rfl rfl (kCall1 true (ok_impl_Name_copied _ pr pr) ⟨⟨⟨rfl, trivial⟩, leb⟩, trivial⟩ rfl rfl rfl (fun _ => (kRelK rfl rfl (kCall1 true (ok_bytes_Clone _ pr) ⟨rfl, trivial⟩ rfl rfl rfl (fun _ => (kRelF rfl rfl (kCall1 true (ok_slices_Clone_Lint_int _ pr) ⟨rfl, trivial⟩ rfl rfl rfl (fun _ => (kRelF rfl rfl (kStoreP rfl rfl rfl rfl (kFadP rfl rfl (kRelF rfl rfl (kStoreP rfl rfl rfl rfl (kFadP rfl rfl (kRelF rfl rfl (kStoreP rfl rfl rfl rfl (kFadP rfl rfl (kRelF rfl rfl (kStoreP rfl rfl rfl rfl (kDone (kH (kMem [(8192, ⟨1, 0, .box [.arr 24576 2, .d _, .d _, .d _, .arr 36864 2, .arr 49152 2, .arr 61440 2]⟩), (12288, ⟨1, 0, .box [.nil 1, .d _, .d _, .d _, .nil 1, .nil 1, .nil 1]⟩), (24576, ⟨2, 0, .arr true _⟩), (36864, ⟨2, 0, .arr true _⟩), (49152, ⟨2, 0, .arr true _⟩), (61440, ⟨2, 0, .arr true _⟩)] [(1, .c (.ptr 8192 1 0)), (2, .c (.ptr 12288 1 0))] [] ⟨rfl, rfl, rfl, rfl, rfl, rfl, trivial⟩ ⟨rfl, rfl, trivial⟩ rfl (hc _ .normA))))))))))))))))))))))))))))))))))))
  refine Kb (kCut ⟨tabSl [(2, .c (.ptr (rid 2 0) 1 0))], obTab 1 [(rid 2 0, ⟨1, 0, .box [.arr (rid 5 0) 1, .d (.sc (.int .i64 r.ty)), .d (.sc (.int .i64 r.ttl)), .d (.sc (.int .i64 r.addr)), .arr (rid 8 0) 1, .arr (rid 11 0) 1, .arr (rid 14 0) 1]⟩), (rid 5 0, ⟨1, 0, .arr true (encBB r.name)⟩), (rid 8 0, ⟨1, 0, .arr true (encBB r.to)⟩), (rid 11 0, ⟨1, 0, .arr true (encB r.text)⟩), (rid 14 0, ⟨1, 0, .arr true (Hearth.encI r.nums)⟩)], []⟩ ?_ (fun x hc => ?_))
  case refine_2 => refine kReg (kLoadP rfl rfl rfl (kStoreP rfl rfl rfl rfl (kDone (hc _ .normA))))
  refine (Kr (Er (ra := [.agg [(.own true _), (.d _), (.d _), (.d _), (.own true _), (.own true _), (.own true _)]]) rfl rfl))

def c_impl_copyRrs : C := (.g (.o 0 2 (.mov (.n 7)) .done) (.g (.o 0 6 (.lit 6 7 [(.n 1), (.i 0), (.i 0), (.i 0), (.n 1), (.n 1), (.n 1)] 0 []) (.o 1 3 (.mov (.t 6)) .done)) (.seq (.g (.o 0 7 (.mov (.t 0)) (.o 1 8 (.len (.t 7)) (.o 2 9 (.mov (.i 0)) .done))) (.block 0 (.loop (.g (.o 0 10 (.bin .lss (.t 9) (.t 8)) .done) (.seq (.cond (.t 10) .skip (.exit 0)) (.seq (.block 1 (.g (.o 0 11 (.iad 7 (.t 7) (.t 9)) (.o 1 12 (.load (some 7) (.t 11)) (.o 2 5 (.alloc 5 [(.n 1), (.i 0), (.i 0), (.i 0), (.n 1), (.n 1), (.n 1)]) (.op 3 [] none none false (.store (some 7) (.t 5) (.t 12)) .done)))) (.reg false (.o 0 13 (.mov (.t 3)) (.o 1 14 (.load (some 7) (.t 5)) (.o 2 15 (.call 15 172 [(.t 14)]) (.o 3 16 (.lit 16 7 [(.n 1), (.i 0), (.i 0), (.i 0), (.n 1), (.n 1), (.n 1)] 1 [(0, 7, (.t 15))]) (.o 4 17 (.app 17 7 120 (.t 13) (.t 16)) (.o 5 3 (.mov (.t 17)) .done))))))))) (.reg false (.o 0 18 (.bin .add (.t 9) (.i 1)) (.o 1 9 (.mov (.t 18)) .done))))))))) (.g (.o 0 19 (.mov (.t 3)) (.o 1 2 (.mov (.t 19)) .done)) .ret))))
theorem dg_impl_copyRrs : Tryz.f91.body.bind (digC Tryz.prog Tryz.f91.ntmps []) = some c_impl_copyRrs := by kernel_rfl
theorem rs_impl_copyRrs : resSlots Tryz.prog Tryz.f91 = some [.s 2] := by kernel_rfl
theorem ok_impl_copyRrs (l : List Rr) (hs : SmallRs l) :
    FnOK Tryz.prog 91 [.one (.d (encR l))] (fun ra _ => ra = [.one (.own true (encR l))]) := by
  refine FnOK.ofK Tryz.func91 (by kernel_rfl) dg_impl_copyRrs rs_impl_copyRrs rfl rfl ?_
  delta c_impl_copyRrs T.o X.i C.g
  have h1 := hs.len
  refine Kbc (Ka Y (Kdb (Kc (kLit Y Y Y Y (Ka Y (Kdb (Kbc (Ka Y (Kq Y Y (Ka Y (Kd (Kt ?_))))))))))))
  refine kLoop (α := { i : Nat // i ≤ l.length }) (fun y => ⟨tabSl [(3, .c (.arr (rid 6 0) 1)), (7, .dv (encR l)), (8, .i l.length), (9, .i y.1)], obTab 1 [(rid 6 0, ⟨1, 0, .arr true (encR (l.take y.1))⟩)], []⟩) (fun y => l.length - y.1) ⟨0, by simp⟩ .normA ?_
  rintro ⟨i, hi⟩
  simp only
  have hlen : (l.take i).length = i := by simp; omega
  rcases Nat.lt_or_ge i l.length with hlt | hge
  · have hbi := hs.mem _ (List.getElem_mem hlt)
    refine Kbc (Kj Y Y Y (Kdb (Km Y (fun g0 => Kn (Kb (Kt (Kbc (kIadR Y Y Y om (Ky Y Y (kAlloc Y Y (Ko Y Y Y Y (Kd (Kc (Ka Y (Ke Y Y Y (Ku true (ok_impl_Rr_copied _ pr) ⟨⟨⟨Y, Y, Y, Y, Y, Y, Y, trivial⟩, leb⟩, trivial⟩ Y Y Y (fun _ => (kLit Y Y Y Y (kAppRec Y Y Y Y Y Y Y om (Ka Y (Kd (Kv (Kc (kAdd Y Y om (Ka Y (Kd ?_))))))))))))))))))))))) (fun g0 => om))))
    exact kInv ⟨⟨i + 1, by omega⟩, by simp only; omega, .normA⟩
  · refine Kbc (Kj Y Y Y (Kdb (Km Y (fun g0 => om) (fun g0 => kExit (kExC (kExI (kExB (Kbc (Ka Y (Ka Y (Kd (Kr (Er (ra := [.one (.own true _)]) rfl ?_)))))))))))))
    rw [show i = l.length by omega, List.take_length]

def c_impl_Zone_copied : C := (.g (.o 0 1 (.box 1 (.t 0)) (.o 1 2 (.alloc 2 [(.n 1), (.n 7)]) .done)) (.seq (.reg true (.op 0 [] (some 3) none true (.fad (.t 1) 0) (.op 1 [] (some 4) none true (.load (some 1) (.t 3)) (.op 3 [] (some 6) none true (.fad (.t 1) 1) (.op 4 [] (some 7) none true (.load none (.t 6)) (.op 2 [1] (some 5) none false (.call 5 150 [(.t 4)]) (.op 5 [4, 1] (some 8) none false (.call 8 91 [(.t 7)]) (.op 6 [] (some 9) none true (.build [(.n 1), (.n 7)] [(0, 1, (.t 5)), (1, 1, (.t 8))]) (.op 7 [1, 4] none none false (.store (some 2) (.t 2) (.t 9)) .done))))))))) .ret))
theorem dg_impl_Zone_copied : Tryz.f62.body.bind (digC Tryz.prog Tryz.f62.ntmps []) = some c_impl_Zone_copied := by kernel_rfl
theorem rs_impl_Zone_copied : resSlots Tryz.prog Tryz.f62 = some [.m 2 (some 2)] := by kernel_rfl
theorem ok_impl_Zone_copied (z : Zone) (hs : SmallZ z) :
    FnOK Tryz.prog 62 [.agg (z.cells.map .d)] (fun ra _ => ra = [.agg [.own true (encBB z.origin), .own true (encR z.rrs)]]) := by
  refine FnOK.ofK Tryz.func62 (by kernel_rfl) dg_impl_Zone_copied rs_impl_Zone_copied rfl rfl ?_
  delta c_impl_Zone_copied T.o X.i C.g
  have o1 := hs.o.len
  have o2 := hs.o.mem
  have h1 := hs.r
  refine Kbc (kBox Y Y Y Y Y (kAlloc Y Y (Kdb (kRegD (Kf Y Y (Ke Y Y Y (Kf Y Y (Ke Y Y Y (Kx Y Y (Ku true (ok_impl_Name_copied _ pr pr) ⟨⟨⟨Y, trivial⟩, leb⟩, trivial⟩ Y Y Y (fun _ => (Ks Y Y (Ku true (ok_impl_copyRrs _ pr) ⟨Y, trivial⟩ Y Y Y (fun _ => (kBuildG Y (Ks Y Y (Ko Y Y Y Y (Kd (kH (Kr (Er (ra := [.agg [(.own true _), (.own true _)]]) rfl rfl)))))))))))))))))))))

def c_laws_eqByteS : C := (.g (.o 0 4 (.mov (.v (.bool false))) .done) (.seq (.g (.o 0 6 (.mov (.t 0)) (.o 1 7 (.len (.t 6)) (.o 2 8 (.mov (.t 1)) (.o 3 9 (.len (.t 8)) (.o 4 10 (.bin .neq (.t 7) (.t 9)) .done))))) (.cond (.t 10) (.g (.o 0 4 (.mov (.v (.bool false))) .done) .ret) .skip)) (.seq (.g (.o 0 5 (.mov (.i 0)) .done) (.block 0 (.loop (.seq (.g (.o 0 11 (.mov (.t 5)) (.o 1 12 (.mov (.t 0)) (.o 2 13 (.len (.t 12)) (.o 3 14 (.bin .lss (.t 11) (.t 13)) .done)))) (.cond (.t 14) .skip (.exit 0))) (.seq (.block 1 (.seq (.reg true (.op 0 [] (some 17) none true (.mov (.t 0)) (.op 1 [] (some 18) none true (.mov (.t 5)) (.op 2 [] (some 19) none true (.iad 1 (.t 17) (.t 18)) (.op 3 [] (some 20) none true (.load none (.t 19)) (.op 4 [] (some 21) none true (.mov (.t 1)) (.op 5 [] (some 22) none true (.mov (.t 5)) (.op 6 [] (some 23) none true (.iad 1 (.t 21) (.t 22)) (.op 7 [] (some 24) none true (.load none (.t 23)) (.op 8 [] (some 25) none true (.bin .neq (.t 20) (.t 24)) .done)))))))))) (.cond (.t 25) (.g (.o 0 4 (.mov (.v (.bool false))) .done) .ret) .skip))) (.reg false (.o 0 15 (.mov (.t 5)) (.o 1 16 (.bin .add (.t 15) (.i 1)) (.o 2 5 (.mov (.t 16)) .done))))))))) (.g (.o 0 4 (.mov (.v (.bool true))) .done) .ret))))
theorem dg_laws_eqByteS : Tryz.f34.body.bind (digC Tryz.prog Tryz.f34.ntmps []) = some c_laws_eqByteS := by kernel_rfl
theorem rs_laws_eqByteS : resSlots Tryz.prog Tryz.f34 = some [.s 4] := by kernel_rfl
theorem ok_laws_eqByteS (a b : List UInt8) (ha : a.length ≤ 4194304) :
    FnOK Tryz.prog 34 [.one (.d (encB a)), .one (.d (encB b))] (fun ra _ => ra = [.one (.d (.sc (.bool (decide (a = b)))))]) := by
  refine FnOK.ofK Tryz.func34 (by kernel_rfl) dg_laws_eqByteS rs_laws_eqByteS rfl rfl ?_
  delta c_laws_eqByteS T.o X.i C.g
  refine Kbc (Ka Y (Kd ?_))
  refine Kb (Kbc ?_)
  refine Ka Y (kLen Y Y Y (Ka Y (kLen Y Y Y (Kj Y Y Y (Kd ?_)))))
  refine kCond Y (fun h => ?_) (fun h => ?_)
  · refine Kbc (Ka Y (Kd (Kr ?_)))
    refine endRet (ra := [.one (.d _)]) rfl ⟨⟨⟨rfl, .inl rfl⟩, trivial⟩, .nil, trivial, trivial, trivial⟩ ?_
    have : a ≠ b := by rintro rfl; simp at h
    simp [this]
  refine Kn (Kb (Kbc (Ka Y (Kd ?_))))
  have hl : a.length = b.length := by simp [len_encB] at h; omega
  refine Kt ?_
  refine kLoop (α := { i : Nat // i ≤ a.length ∧ a.take i = b.take i })
    (fun y => ⟨tabSl [(0, .dv (encB a)), (1, .dv (encB b)), (5, .i y.1)], (St.init [.one (.d (encB a)), .one (.d (encB b))]).ob, []⟩) (fun y => a.length - y.1) ⟨0, by simp⟩ (.tab rfl ⟨.refl _, .refl _, .refl _, trivial⟩) ?_
  rintro ⟨i, hi, he⟩
  refine Kb (Kbc ?_)
  refine Ka Y (Ka Y (kLen Y Y Y (Kj Y Y Y (Kd ?_))))
  refine kCond Y (fun h1 => ?_) (fun h1 => ?_)
  · have hlt : i < a.length := by simp [len_encB] at h1; omega
    refine Kn (Kb (Kt (Kb (kRegD ?_))))
    refine Ka Y (Ka Y (kIadD Y Y Y Y ?_ ?_))
    · simp [len_encB]; omega
    rw [show (encB a).row (i : Int).toNat = _ from row_encB a i hlt]
    refine Ky Y Y ?_
    refine Ka Y (Ka Y (kIadD Y Y Y Y ?_ ?_))
    · simp [len_encB]; omega
    rw [show (encB b).row (i : Int).toNat = _ from row_encB b i (by omega)]
    refine Ky Y Y ?_
    refine Kj Y Y Y (Kd (kH ?_))
    refine kCond Y (fun h2 => ?_) (fun h2 => ?_)
    · refine Kbc (Ka Y (Kd (Kr ?_)))
      refine endRet (ra := [.one (.d _)]) rfl ⟨⟨⟨rfl, .inl rfl⟩, trivial⟩, .nil, trivial, trivial, trivial⟩ ?_
      have : a ≠ b := by rintro rfl; simp at h2
      simp [this]
    · refine Kn (Kv (Kc (Ka Y (kAdd Y Y ?_ (Ka Y (Kd (kInv ?_)))))))
      · simp only; omega
      · have h3 : a[i] = b[i] := by
          simp at h2
          exact UInt8.toNat_inj.1 (by omega)
        refine ⟨⟨i + 1, hlt, ?_⟩, ?_, .tab rfl ⟨.refl _, .refl _, .refl _, trivial⟩⟩
        · rw [List.take_add_one, List.take_add_one, he, List.getElem?_eq_getElem hlt, List.getElem?_eq_getElem (by omega), h3]
        · simp only; omega
  · refine kExit (kExC (kExI (kExB ?_)))
    have hge : i = a.length := by simp [len_encB] at h1; omega
    refine Kbc (Ka Y (Kd (Kr ?_)))
    refine endRet (ra := [.one (.d _)]) rfl ⟨⟨⟨rfl, .inl rfl⟩, trivial⟩, .nil, trivial, trivial, trivial⟩ ?_
    have : a = b := by
      rw [hge, List.take_length] at he
      rw [he, hl, List.take_length]
    simp [this]

def c_laws_eqByteSS : C := (.g (.o 0 4 (.mov (.v (.bool false))) .done) (.seq (.g (.o 0 6 (.mov (.t 0)) (.o 1 7 (.len (.t 6)) (.o 2 8 (.mov (.t 1)) (.o 3 9 (.len (.t 8)) (.o 4 10 (.bin .neq (.t 7) (.t 9)) .done))))) (.cond (.t 10) (.g (.o 0 4 (.mov (.v (.bool false))) .done) .ret) .skip)) (.seq (.g (.o 0 5 (.mov (.i 0)) .done) (.block 0 (.loop (.seq (.g (.o 0 11 (.mov (.t 5)) (.o 1 12 (.mov (.t 0)) (.o 2 13 (.len (.t 12)) (.o 3 14 (.bin .lss (.t 11) (.t 13)) .done)))) (.cond (.t 14) .skip (.exit 0))) (.seq (.block 1 (.seq (.reg true (.op 0 [] (some 17) none true (.mov (.t 0)) (.op 1 [] (some 18) none true (.mov (.t 5)) (.op 2 [] (some 19) none true (.iad 1 (.t 17) (.t 18)) (.op 3 [] (some 20) none true (.load none (.t 19)) (.op 4 [] (some 21) none true (.mov (.t 1)) (.op 5 [] (some 22) none true (.mov (.t 5)) (.op 6 [] (some 23) none true (.iad 1 (.t 21) (.t 22)) (.op 7 [] (some 24) none true (.load none (.t 23)) (.op 8 [3, 7] (some 25) none false (.call 25 34 [(.t 20), (.t 24)]) (.op 9 [] (some 26) none true (.un .not (.t 25)) .done))))))))))) (.cond (.t 26) (.g (.o 0 4 (.mov (.v (.bool false))) .done) .ret) .skip))) (.reg false (.o 0 15 (.mov (.t 5)) (.o 1 16 (.bin .add (.t 15) (.i 1)) (.o 2 5 (.mov (.t 16)) .done))))))))) (.g (.o 0 4 (.mov (.v (.bool true))) .done) .ret))))
theorem dg_laws_eqByteSS : Tryz.f151.body.bind (digC Tryz.prog Tryz.f151.ntmps []) = some c_laws_eqByteSS := by kernel_rfl
theorem rs_laws_eqByteSS : resSlots Tryz.prog Tryz.f151 = some [.s 4] := by kernel_rfl
theorem ok_laws_eqByteSS (a b : List (List UInt8)) (ha : a.length ≤ 4194304) (ha2 : ∀ x ∈ a, x.length ≤ 4194304) :
    FnOK Tryz.prog 151 [.one (.d (encBB a)), .one (.d (encBB b))] (fun ra _ => ra = [.one (.d (.sc (.bool (decide (a = b)))))]) := by
  refine FnOK.ofK Tryz.func151 (by kernel_rfl) dg_laws_eqByteSS rs_laws_eqByteSS rfl rfl ?_
  delta c_laws_eqByteSS T.o X.i C.g
  refine Kbc (Ka Y (Kdb (Kbc (Ka Y (Kq Y Y (Ka Y (Kq Y Y (Kj Y Y Y (Kd (kCondN Y (fun g0 => Kbc (Ka Y (Kd (Kr (Er (ra := [.one (.d _)]) rfl ?_))))) (fun g0 => Kn (Kb (Kbc (Ka Y (Kd (Kt ?_))))))))))))))))
  · rw [decide_eq_false (by rintro rfl; simp_all)]
  have hab : a.length = b.length := by simp at *; omega
  refine kLoop (α := { i : Nat // i ≤ a.length ∧ a.take i = b.take i })
    (fun y => ⟨tabSl [(0, .dv (encBB a)), (1, .dv (encBB b)), (5, .i y.1)], obTab 1 [], []⟩) (fun y => a.length - y.1) ⟨0, by simp⟩
    .normA ?_
  rintro ⟨i, hi, he⟩
  simp only
  refine Kb (Kbc (Ka Y (Ka Y (Kq Y Y (Kj Y Y Y (Kd (Km Y (fun g0 => Kn (Kb (Kt (Kb (kRegD (Ka Y (Ka Y (kIadR Y Y Y om (Ky Y Y (Ka Y (Ka Y (kIadR Y Y Y om (Ky Y Y (Ks Y Y (Kp (ok_laws_eqByteS _ _ (by first | assumption | omega | solve_by_elim [List.getElem_mem])) ⟨Y, Y, trivial⟩ Y Y Y Y Y (Kw Y Y (Kd (kH (kCondN Y (fun g1 => Kbc (Ka Y (Kd (Kr (Er (ra := [.one (.d _)]) rfl ?_))))) (fun g1 => Kn (Kv (Kc (Ka Y (kAdd Y Y om (Ka Y (Kd ?_)))))))))))))))))))))))))) (fun g0 => kExit (kExC (kExI (kExB (Kbc (Ka Y (Kd (Kr (Er (ra := [.one (.d _)]) rfl ?_))))))))))))))))
  · rw [decide_eq_false]
    rintro rfl
    simp_all
  · refine kInv ⟨⟨i + 1, by omega, ?_⟩, by simp only; omega, .normA⟩
    rw [← List.take_append_getElem (by omega), ← List.take_append_getElem (by omega), he]
    simp_all
  · have hge : i = a.length := by omega
    rw [hge, List.take_length, hab, List.take_length] at he
    rw [he, decide_eq_true rfl]

def c_laws_eqName : C := (.g (.o 0 2 (.box 2 (.t 0)) (.o 1 3 (.box 3 (.t 1)) (.o 2 4 (.mov (.v (.bool false))) .done))) (.seq (.g (.o 0 5 (.fad (.t 2) 0) (.o 1 6 (.load none (.t 5)) (.o 2 7 (.fad (.t 3) 0) (.o 3 8 (.load none (.t 7)) (.o 4 9 (.call 9 151 [(.t 6), (.t 8)]) (.o 5 10 (.un .not (.t 9)) .done)))))) (.cond (.t 10) (.g (.o 0 4 (.mov (.v (.bool false))) .done) .ret) .skip)) (.g (.o 0 4 (.mov (.v (.bool true))) .done) .ret)))
theorem dg_laws_eqName : Tryz.f63.body.bind (digC Tryz.prog Tryz.f63.ntmps []) = some c_laws_eqName := by kernel_rfl
theorem rs_laws_eqName : resSlots Tryz.prog Tryz.f63 = some [.s 4] := by kernel_rfl
theorem ok_laws_eqName (a b : List (List UInt8)) (ha : a.length ≤ 4194304) (ha2 : ∀ x ∈ a, x.length ≤ 4194304) :
    FnOK Tryz.prog 63 [.agg [.d (encBB a)], .agg [.d (encBB b)]] (fun ra _ => ra = [.one (.d (.sc (.bool (decide (a = b)))))]) := by
  refine FnOK.ofK Tryz.func63 (by kernel_rfl) dg_laws_eqName rs_laws_eqName rfl rfl ?_
  delta c_laws_eqName T.o X.i C.g
  refine Kbc (kBox Y Y Y Y Y (kBox Y Y Y Y Y (Ka Y (Kdb (Kbc (Kf Y Y (Ke Y Y Y (Kf Y Y (Ke Y Y Y (Kp (ok_laws_eqByteSS _ _ (by first | assumption | omega | solve_by_elim [List.getElem_mem]) (by first | assumption | omega | solve_by_elim [List.getElem_mem])) ⟨Y, Y, trivial⟩ Y Y Y Y Y (Kw Y Y (Kd (kCondN Y (fun g0 => Kbc (Ka Y (Kd (Kr (Er (ra := [.one (.d _)]) rfl ?_))))) (fun g0 => Kn (Kbc (Ka Y (Kd (Kr (Er (ra := [.one (.d _)]) rfl ?_)))))))))))))))))))
  all_goals simp_all

def c_laws_eqIntS : C := (.g (.o 0 4 (.mov (.v (.bool false))) .done) (.seq (.g (.o 0 6 (.mov (.t 0)) (.o 1 7 (.len (.t 6)) (.o 2 8 (.mov (.t 1)) (.o 3 9 (.len (.t 8)) (.o 4 10 (.bin .neq (.t 7) (.t 9)) .done))))) (.cond (.t 10) (.g (.o 0 4 (.mov (.v (.bool false))) .done) .ret) .skip)) (.seq (.g (.o 0 5 (.mov (.i 0)) .done) (.block 0 (.loop (.seq (.g (.o 0 11 (.mov (.t 5)) (.o 1 12 (.mov (.t 0)) (.o 2 13 (.len (.t 12)) (.o 3 14 (.bin .lss (.t 11) (.t 13)) .done)))) (.cond (.t 14) .skip (.exit 0))) (.seq (.block 1 (.seq (.reg true (.op 0 [] (some 17) none true (.mov (.t 0)) (.op 1 [] (some 18) none true (.mov (.t 5)) (.op 2 [] (some 19) none true (.iad 1 (.t 17) (.t 18)) (.op 3 [] (some 20) none true (.load none (.t 19)) (.op 4 [] (some 21) none true (.mov (.t 1)) (.op 5 [] (some 22) none true (.mov (.t 5)) (.op 6 [] (some 23) none true (.iad 1 (.t 21) (.t 22)) (.op 7 [] (some 24) none true (.load none (.t 23)) (.op 8 [] (some 25) none true (.bin .neq (.t 20) (.t 24)) .done)))))))))) (.cond (.t 25) (.g (.o 0 4 (.mov (.v (.bool false))) .done) .ret) .skip))) (.reg false (.o 0 15 (.mov (.t 5)) (.o 1 16 (.bin .add (.t 15) (.i 1)) (.o 2 5 (.mov (.t 16)) .done))))))))) (.g (.o 0 4 (.mov (.v (.bool true))) .done) .ret))))
theorem dg_laws_eqIntS : Tryz.f65.body.bind (digC Tryz.prog Tryz.f65.ntmps []) = some c_laws_eqIntS := by kernel_rfl
theorem rs_laws_eqIntS : resSlots Tryz.prog Tryz.f65 = some [.s 4] := by kernel_rfl
theorem ok_laws_eqIntS (a b : List Int) (ha : a.length ≤ 4194304) :
    FnOK Tryz.prog 65 [.one (.d (Hearth.encI a)), .one (.d (Hearth.encI b))] (fun ra _ => ra = [.one (.d (.sc (.bool (decide (a = b)))))]) := by
  refine FnOK.ofK Tryz.func65 (by kernel_rfl) dg_laws_eqIntS rs_laws_eqIntS rfl rfl ?_
  delta c_laws_eqIntS T.o X.i C.g
  refine Kbc (Ka Y (Kdb (Kbc (Ka Y (Kq Y Y (Ka Y (Kq Y Y (Kj Y Y Y (Kd (kCondIN Y (fun g0 => Kbc (Ka Y (Kd (Kr (Er (ra := [.one (.d _)]) rfl ?_))))) (fun g0 => Kn (Kb (Kbc (Ka Y (Kd (Kt ?_))))))))))))))))
  · rw [decide_eq_false (by rintro rfl; simp_all)]
  have hab : a.length = b.length := by omega
  refine kLoop (α := { i : Nat // i ≤ a.length ∧ a.take i = b.take i })
    (fun y => ⟨tabSl [(0, .dv (Hearth.encI a)), (1, .dv (Hearth.encI b)), (5, .i y.1)], obTab 1 [], []⟩) (fun y => a.length - y.1) ⟨0, by simp⟩
    .normA ?_
  rintro ⟨i, hi, he⟩
  simp only
  refine Kb (Kbc (Ka Y (Ka Y (Kq Y Y (Kj Y Y Y (Kd (Km Y (fun g0 => Kn (Kb (Kt (Kb (kRegD (Ka Y (Ka Y (kIadR Y Y Y om (Ky Y Y (Ka Y (Ka Y (kIadR Y Y Y om (Ky Y Y (Kj Y Y Y (Kd (kH (kCondIN Y (fun g1 => Kbc (Ka Y (Kd (Kr (Er (ra := [.one (.d _)]) rfl ?_))))) (fun g1 => Kn (Kv (Kc (Ka Y (kAdd Y Y om (Ka Y (Kd ?_)))))))))))))))))))))))) (fun g0 => kExit (kExC (kExI (kExB (Kbc (Ka Y (Kd (Kr (Er (ra := [.one (.d _)]) rfl ?_))))))))))))))))
  · rw [decide_eq_false]
    rintro rfl
    simp_all
  · refine kInv ⟨⟨i + 1, by omega, ?_⟩, by simp only; omega, .normA⟩
    rw [← List.take_append_getElem (by omega), ← List.take_append_getElem (by omega), he]
    simp_all
  · have hge : i = a.length := by omega
    rw [hge, List.take_length, hab, List.take_length] at he
    rw [he, decide_eq_true rfl]

def c_laws_eqRr : C := (.g (.o 0 2 (.box 2 (.t 0)) (.o 1 3 (.box 3 (.t 1)) (.o 2 4 (.mov (.v (.bool false))) .done))) (.seq (.g (.o 0 5 (.fad (.t 2) 0) (.o 1 6 (.load (some 1) (.t 5)) (.o 2 7 (.fad (.t 3) 0) (.o 3 8 (.load (some 1) (.t 7)) (.o 4 9 (.call 9 63 [(.t 6), (.t 8)]) (.o 5 10 (.un .not (.t 9)) .done)))))) (.cond (.t 10) (.g (.o 0 4 (.mov (.v (.bool false))) .done) .ret) .skip)) (.seq (.g (.o 0 11 (.fad (.t 2) 1) (.o 1 12 (.load none (.t 11)) (.o 2 13 (.fad (.t 3) 1) (.o 3 14 (.load none (.t 13)) (.o 4 15 (.bin .neq (.t 12) (.t 14)) .done))))) (.cond (.t 15) (.g (.o 0 4 (.mov (.v (.bool false))) .done) .ret) .skip)) (.seq (.g (.o 0 16 (.fad (.t 2) 2) (.o 1 17 (.load none (.t 16)) (.o 2 18 (.fad (.t 3) 2) (.o 3 19 (.load none (.t 18)) (.o 4 20 (.bin .neq (.t 17) (.t 19)) .done))))) (.cond (.t 20) (.g (.o 0 4 (.mov (.v (.bool false))) .done) .ret) .skip)) (.seq (.g (.o 0 21 (.fad (.t 2) 3) (.o 1 22 (.load none (.t 21)) (.o 2 23 (.fad (.t 3) 3) (.o 3 24 (.load none (.t 23)) (.o 4 25 (.bin .neq (.t 22) (.t 24)) .done))))) (.cond (.t 25) (.g (.o 0 4 (.mov (.v (.bool false))) .done) .ret) .skip)) (.seq (.g (.o 0 26 (.fad (.t 2) 4) (.o 1 27 (.load (some 1) (.t 26)) (.o 2 28 (.fad (.t 3) 4) (.o 3 29 (.load (some 1) (.t 28)) (.o 4 30 (.call 30 63 [(.t 27), (.t 29)]) (.o 5 31 (.un .not (.t 30)) .done)))))) (.cond (.t 31) (.g (.o 0 4 (.mov (.v (.bool false))) .done) .ret) .skip)) (.seq (.g (.o 0 32 (.fad (.t 2) 5) (.o 1 33 (.load none (.t 32)) (.o 2 34 (.fad (.t 3) 5) (.o 3 35 (.load none (.t 34)) (.o 4 36 (.call 36 34 [(.t 33), (.t 35)]) (.o 5 37 (.un .not (.t 36)) .done)))))) (.cond (.t 37) (.g (.o 0 4 (.mov (.v (.bool false))) .done) .ret) .skip)) (.seq (.g (.o 0 38 (.fad (.t 2) 6) (.o 1 39 (.load none (.t 38)) (.o 2 40 (.fad (.t 3) 6) (.o 3 41 (.load none (.t 40)) (.o 4 42 (.call 42 65 [(.t 39), (.t 41)]) (.o 5 43 (.un .not (.t 42)) .done)))))) (.cond (.t 43) (.g (.o 0 4 (.mov (.v (.bool false))) .done) .ret) .skip)) (.g (.o 0 4 (.mov (.v (.bool true))) .done) .ret)))))))))
theorem dg_laws_eqRr : Tryz.f16.body.bind (digC Tryz.prog Tryz.f16.ntmps []) = some c_laws_eqRr := by kernel_rfl
theorem rs_laws_eqRr : resSlots Tryz.prog Tryz.f16 = some [.s 4] := by kernel_rfl
theorem ok_laws_eqRr (a b : Rr) (hs : SmallR a) :
    FnOK Tryz.prog 16 [.agg (a.cells.map .d), .agg (b.cells.map .d)] (fun ra _ => ra = [.one (.d (.sc (.bool (decide (a = b)))))]) := by
  refine FnOK.ofK Tryz.func16 (by kernel_rfl) dg_laws_eqRr rs_laws_eqRr rfl rfl ?_
  delta c_laws_eqRr T.o X.i C.g
  have n1 := hs.n.len
  have n2 := hs.n.mem
  have t1 := hs.t.len
  have t2 := hs.t.mem
  have x1 := hs.x
  have m1 := hs.m
  refine Kbc (kBox Y Y Y Y Y (kBox Y Y Y Y Y (Ka Y (Kdb (Kbc (Kf Y Y (Ke Y Y Y (Kf Y Y (Ke Y Y Y (Kp (ok_laws_eqName _ _ pr pr) ⟨⟨⟨Y, trivial⟩, leb⟩, ⟨⟨Y, trivial⟩, leb⟩, trivial⟩ Y Y Y Y Y (Kw Y Y (Kd (kCondN Y (fun g0 => Kbc (Ka Y (Kd (Kr (Er (ra := [.one (.d _)]) rfl ?_))))) (fun g0 => Kn (Kb (Kbc (Kf Y Y (Ke Y Y Y (Kf Y Y (Ke Y Y Y (Kj Y Y Y (Kd (kCondIN Y (fun g1 => Kbc (Ka Y (Kd (Kr (Er (ra := [.one (.d _)]) rfl ?_))))) (fun g1 => Kn (Kb (Kbc (Kf Y Y (Ke Y Y Y (Kf Y Y (Ke Y Y Y (Kj Y Y Y (Kd (kCondIN Y (fun g2 => Kbc (Ka Y (Kd (Kr (Er (ra := [.one (.d _)]) rfl ?_))))) (fun g2 => Kn (Kb (Kbc (Kf Y Y (Ke Y Y Y (Kf Y Y (Ke Y Y Y (Kj Y Y Y (Kd (kCondIN Y (fun g3 => Kbc (Ka Y (Kd (Kr (Er (ra := [.one (.d _)]) rfl ?_))))) (fun g3 => Kn (Kb (Kbc (Kf Y Y (Ke Y Y Y (Kf Y Y (Ke Y Y Y (Kp (ok_laws_eqName _ _ pr pr) ⟨⟨⟨Y, trivial⟩, leb⟩, ⟨⟨Y, trivial⟩, leb⟩, trivial⟩ Y Y Y Y Y (Kw Y Y (Kd (kCondN Y (fun g4 => Kbc (Ka Y (Kd (Kr (Er (ra := [.one (.d _)]) rfl ?_))))) (fun g4 => Kn (Kb (Kbc (Kf Y Y (Ke Y Y Y (Kf Y Y (Ke Y Y Y (Kp (ok_laws_eqByteS _ _ pr) ⟨Y, Y, trivial⟩ Y Y Y Y Y (Kw Y Y (Kd (kCondN Y (fun g5 => Kbc (Ka Y (Kd (Kr (Er (ra := [.one (.d _)]) rfl ?_))))) (fun g5 => Kn (Kb (Kbc (Kf Y Y (Ke Y Y Y (Kf Y Y (Ke Y Y Y (Kp (ok_laws_eqIntS _ _ pr) ⟨Y, Y, trivial⟩ Y Y Y Y Y (Kw Y Y (Kd (kCondN Y (fun g6 => Kbc (Ka Y (Kd (Kr (Er (ra := [.one (.d _)]) rfl ?_))))) (fun g6 => Kn (Kbc (Ka Y (Kd (Kr (Er (ra := [.one (.d _)]) rfl ?_))))))))))))))))))))))))))))))))))))))))))))))))))))))))))))))))))))))))))))))))))
  all_goals (refine congrArg (fun z : Bool => [RA.one (RV.d (DV.sc (Value.bool z)))]) ?_; clear n1 n2 t1 t2 x1 m1 hs; cases a; cases b; simp_all)

def c_laws_eqRrS : C := (.g (.o 0 4 (.mov (.v (.bool false))) .done) (.seq (.g (.o 0 6 (.mov (.t 0)) (.o 1 7 (.len (.t 6)) (.o 2 8 (.mov (.t 1)) (.o 3 9 (.len (.t 8)) (.o 4 10 (.bin .neq (.t 7) (.t 9)) .done))))) (.cond (.t 10) (.g (.o 0 4 (.mov (.v (.bool false))) .done) .ret) .skip)) (.seq (.g (.o 0 5 (.mov (.i 0)) .done) (.block 0 (.loop (.seq (.g (.o 0 11 (.mov (.t 5)) (.o 1 12 (.mov (.t 0)) (.o 2 13 (.len (.t 12)) (.o 3 14 (.bin .lss (.t 11) (.t 13)) .done)))) (.cond (.t 14) .skip (.exit 0))) (.seq (.block 1 (.seq (.reg true (.op 0 [] (some 17) none true (.mov (.t 0)) (.op 1 [] (some 18) none true (.mov (.t 5)) (.op 2 [] (some 19) none true (.iad 7 (.t 17) (.t 18)) (.op 3 [] (some 20) none true (.load (some 7) (.t 19)) (.op 4 [] (some 21) none true (.mov (.t 1)) (.op 5 [] (some 22) none true (.mov (.t 5)) (.op 6 [] (some 23) none true (.iad 7 (.t 21) (.t 22)) (.op 7 [] (some 24) none true (.load (some 7) (.t 23)) (.op 8 [3, 7] (some 25) none false (.call 25 16 [(.t 20), (.t 24)]) (.op 9 [] (some 26) none true (.un .not (.t 25)) .done))))))))))) (.cond (.t 26) (.g (.o 0 4 (.mov (.v (.bool false))) .done) .ret) .skip))) (.reg false (.o 0 15 (.mov (.t 5)) (.o 1 16 (.bin .add (.t 15) (.i 1)) (.o 2 5 (.mov (.t 16)) .done))))))))) (.g (.o 0 4 (.mov (.v (.bool true))) .done) .ret))))
theorem dg_laws_eqRrS : Tryz.f64.body.bind (digC Tryz.prog Tryz.f64.ntmps []) = some c_laws_eqRrS := by kernel_rfl
theorem rs_laws_eqRrS : resSlots Tryz.prog Tryz.f64 = some [.s 4] := by kernel_rfl
theorem ok_laws_eqRrS (a b : List Rr) (hs : SmallRs a) :
    FnOK Tryz.prog 64 [.one (.d (encR a)), .one (.d (encR b))] (fun ra _ => ra = [.one (.d (.sc (.bool (decide (a = b)))))]) := by
  refine FnOK.ofK Tryz.func64 (by kernel_rfl) dg_laws_eqRrS rs_laws_eqRrS rfl rfl ?_
  delta c_laws_eqRrS T.o X.i C.g
  have ha := hs.len
  refine Kbc (Ka Y (Kdb (Kbc (Ka Y (Kq Y Y (Ka Y (Kq Y Y (Kj Y Y Y (Kd (kCondIN Y (fun g0 => Kbc (Ka Y (Kd (Kr (Er (ra := [.one (.d _)]) rfl ?_))))) (fun g0 => Kn (Kb (Kbc (Ka Y (Kd (Kt ?_))))))))))))))))
  · rw [decide_eq_false (by rintro rfl; simp_all)]
  have hab : a.length = b.length := by omega
  refine kLoop (α := { i : Nat // i ≤ a.length ∧ a.take i = b.take i })
    (fun y => ⟨tabSl [(0, .dv (encR a)), (1, .dv (encR b)), (5, .i y.1)], obTab 1 [], []⟩) (fun y => a.length - y.1) ⟨0, by simp⟩
    .normA ?_
  rintro ⟨i, hi, he⟩
  simp only
  rcases Nat.lt_or_ge i a.length with hlt | hge
  · have hbi := hs.mem _ (List.getElem_mem hlt)
    refine Kb (Kbc (Ka Y (Ka Y (Kq Y Y (Kj Y Y Y (Kd (Km Y (fun g0 => Kn (Kb (Kt (Kb (kRegD (Ka Y (Ka Y (kIadR Y Y Y om (Ky Y Y (Ka Y (Ka Y (kIadR Y Y Y om (Ky Y Y (Ks Y Y (Kp (ok_laws_eqRr _ _ pr) ⟨⟨⟨Y, Y, Y, Y, Y, Y, Y, trivial⟩, leb⟩, ⟨⟨Y, Y, Y, Y, Y, Y, Y, trivial⟩, leb⟩, trivial⟩ Y Y Y Y Y (Kw Y Y (Kd (kH (kCondN Y (fun g1 => Kbc (Ka Y (Kd (Kr (Er (ra := [.one (.d _)]) rfl ?_))))) (fun g1 => Kn (Kv (Kc (Ka Y (kAdd Y Y om (Ka Y (Kd ?_)))))))))))))))))))))))))) (fun g0 => om))))))))
    · rw [decide_eq_false]
      rintro rfl
      simp_all
    · refine kInv ⟨⟨i + 1, by omega, ?_⟩, by simp only; omega, .normA⟩
      rw [← List.take_append_getElem (by omega), ← List.take_append_getElem (by omega), he]
      simp_all
  · refine Kb (Kbc (Ka Y (Ka Y (Kq Y Y (Kj Y Y Y (Kd (Km Y (fun g0 => om) (fun g0 => kExit (kExC (kExI (kExB (Kbc (Ka Y (Kd (Kr (Er (ra := [.one (.d _)]) rfl ?_))))))))))))))))
    have hge : i = a.length := by omega
    rw [hge, List.take_length, hab, List.take_length] at he
    rw [he, decide_eq_true rfl]

def c_laws_eqZone : C := (.g (.o 0 2 (.box 2 (.t 0)) (.o 1 3 (.box 3 (.t 1)) (.o 2 4 (.mov (.v (.bool false))) .done))) (.seq (.g (.o 0 5 (.fad (.t 2) 0) (.o 1 6 (.load (some 1) (.t 5)) (.o 2 7 (.fad (.t 3) 0) (.o 3 8 (.load (some 1) (.t 7)) (.o 4 9 (.call 9 63 [(.t 6), (.t 8)]) (.o 5 10 (.un .not (.t 9)) .done)))))) (.cond (.t 10) (.g (.o 0 4 (.mov (.v (.bool false))) .done) .ret) .skip)) (.seq (.g (.o 0 11 (.fad (.t 2) 1) (.o 1 12 (.load none (.t 11)) (.o 2 13 (.fad (.t 3) 1) (.o 3 14 (.load none (.t 13)) (.o 4 15 (.call 15 64 [(.t 12), (.t 14)]) (.o 5 16 (.un .not (.t 15)) .done)))))) (.cond (.t 16) (.g (.o 0 4 (.mov (.v (.bool false))) .done) .ret) .skip)) (.g (.o 0 4 (.mov (.v (.bool true))) .done) .ret))))
theorem dg_laws_eqZone : Tryz.f15.body.bind (digC Tryz.prog Tryz.f15.ntmps []) = some c_laws_eqZone := by kernel_rfl
theorem rs_laws_eqZone : resSlots Tryz.prog Tryz.f15 = some [.s 4] := by kernel_rfl
theorem ok_laws_eqZone (a b : Zone) (hs : SmallZ a) :
    FnOK Tryz.prog 15 [.agg (a.cells.map .d), .agg (b.cells.map .d)] (fun ra _ => ra = [.one (.d (.sc (.bool (decide (a = b)))))]) := by
  refine FnOK.ofK Tryz.func15 (by kernel_rfl) dg_laws_eqZone rs_laws_eqZone rfl rfl ?_
  delta c_laws_eqZone T.o X.i C.g
  have o1 := hs.o.len
  have o2 := hs.o.mem
  have h1 := hs.r
  refine Kbc (kBox Y Y Y Y Y (kBox Y Y Y Y Y (Ka Y (Kdb (Kbc (Kf Y Y (Ke Y Y Y (Kf Y Y (Ke Y Y Y (Kp (ok_laws_eqName _ _ pr pr) ⟨⟨⟨Y, trivial⟩, leb⟩, ⟨⟨Y, trivial⟩, leb⟩, trivial⟩ Y Y Y Y Y (Kw Y Y (Kd (kCondN Y (fun g0 => Kbc (Ka Y (Kd (Kr (Er (ra := [.one (.d _)]) rfl ?_))))) (fun g0 => Kn (Kb (Kbc (Kf Y Y (Ke Y Y Y (Kf Y Y (Ke Y Y Y (Kp (ok_laws_eqRrS _ _ pr) ⟨Y, Y, trivial⟩ Y Y Y Y Y (Kw Y Y (Kd (kCondN Y (fun g1 => Kbc (Ka Y (Kd (Kr (Er (ra := [.one (.d _)]) rfl ?_))))) (fun g1 => Kn (Kbc (Ka Y (Kd (Kr (Er (ra := [.one (.d _)]) rfl ?_))))))))))))))))))))))))))))))
  all_goals (refine congrArg (fun z : Bool => [RA.one (RV.d (DV.sc (Value.bool z)))]) ?_; clear o1 o2 h1 hs; cases a; cases b; simp_all)

def c_laws_markByteS : C := (.g (.o 0 4 (.mov (.i 0)) .done) (.seq (.g (.o 0 5 (.mov (.i 0)) .done) (.block 0 (.loop (.seq (.g (.o 0 6 (.mov (.t 5)) (.o 1 7 (.mov (.t 0)) (.o 2 8 (.len (.t 7)) (.o 3 9 (.bin .lss (.t 6) (.t 8)) .done)))) (.cond (.t 9) .skip (.exit 0))) (.seq (.block 1 (.g (.o 0 12 (.mov (.t 0)) (.o 1 13 (.mov (.t 5)) (.o 2 14 (.mov (.t 1)) (.o 3 15 (.conv .u8 (.t 14)) (.o 4 16 (.iad 1 (.t 12) (.t 13)) (.op 5 [] none none false (.store none (.t 16) (.t 15)) .done)))))) (.reg false (.o 0 17 (.mov (.t 1)) (.o 1 18 (.bin .add (.t 17) (.i 1)) (.o 2 1 (.mov (.t 18)) .done)))))) (.reg false (.o 0 10 (.mov (.t 5)) (.o 1 11 (.bin .add (.t 10) (.i 1)) (.o 2 5 (.mov (.t 11)) .done))))))))) (.g (.o 0 19 (.mov (.t 1)) (.o 1 4 (.mov (.t 19)) .done)) .ret)))
theorem dg_laws_markByteS : Tryz.f35.body.bind (digC Tryz.prog Tryz.f35.ntmps []) = some c_laws_markByteS := by kernel_rfl
theorem rs_laws_markByteS : resSlots Tryz.prog Tryz.f35 = some [.s 4] := by kernel_rfl
theorem ok_laws_markByteS (a : List UInt8) (k : Int) (h0 : 0 ≤ k) (hk : k + a.length ≤ 9223372036854775807) :
    FnOK Tryz.prog 35 [.one (.arr false true (encB a)), .one (.d (.sc (.int .i64 k)))] (fun ra os => ra = [.one (.d (.sc (.int .i64 (k + a.length))))] ∧ os.a 0 = encB (marks a.length k)) := by
  refine FnOK.ofK Tryz.func35 (by kernel_rfl) dg_laws_markByteS rs_laws_markByteS rfl rfl ?_
  delta c_laws_markByteS T.o X.i C.g
  generalize hgas : [GA.one (.arr false true (encB a)), GA.one (.d (.sc (.int .i64 k)))] = gas
  have hob : (St.init gas).ob 0 = ⟨0, 0, .arr true (encB a)⟩ := by rw [← hgas]; rfl
  have s0 : (St.init gas).sl 0 = .c (.arr 0 0) := by rw [← hgas]; rfl
  have s1 : (St.init gas).sl 1 = .i k := by rw [← hgas]; rfl
  refine kSub (t := ⟨tabSl [(0, .c (.arr 0 0)), (1, .i k)], (St.init gas).ob, []⟩) (.tab rfl ⟨s0 ▸ .refl _, s1 ▸ .refl _, trivial⟩) ?_
  refine Kbc (Ka Y (Kd ?_))
  refine Kb (Kbc (Ka Y (Kd (Kt ?_))))
  refine kLoop (α := { i : Nat // i ≤ a.length })
    (fun y => ⟨tabSl [(0, .c (.arr 0 0)), (1, .i (k + (y.1 : Int))), (5, .i y.1)], upd (St.init gas).ob 0 ⟨0, y.1, .arr true (encB (marks y.1 k ++ a.drop y.1))⟩, []⟩) (fun y => a.length - y.1) ⟨0, by simp⟩
    (.tab (upd_self (by rw [hob]; rfl)) ⟨.refl _, by simpa using .refl _, .refl _, trivial⟩) ?_
  rintro ⟨i, hi⟩
  simp only
  have hlen : (marks i k ++ a.drop i).length = a.length := by simp [marks_len]; omega
  refine Kb (Kbc ?_)
  refine Ka Y (Ka Y (kLen Y Y Y (Kj Y Y Y (Kd ?_))))
  rw [len_encB, hlen]
  refine kCond Y (fun h1 => ?_) (fun h1 => ?_)
  · have hlt : i < a.length := by simp at h1; omega
    refine Kn (Kb (Kt (Kbc ?_)))
    refine Ka Y (Ka Y (Ka Y (kConv Y (kIadA Y Y Y Y ?_ ?_))))
    · rw [len_encB, hlen]; omega
    refine kStoreE1 Y Y Y Y (by simp [encB, DV.esz]) (Kd ?_)
    rw [show (Int.toNat (i : Int)) = i from rfl, setRow_encB _ _ _ (by omega)]
    refine Kc (Ka Y (kAdd Y Y ?_ (Ka Y (Kd (Kv ?_)))))
    · omega
    refine Kc (Ka Y (kAdd Y Y ?_ (Ka Y (Kd (kInv ?_)))))
    · omega
    refine ⟨⟨i + 1, hlt⟩, by simp only; omega, .tab ?_ ⟨.refl _, ?_, .refl _, trivial⟩⟩
    · show _ = upd (upd (St.init gas).ob 0 _) 0 _
      rw [upd_upd, take_set_succ _ _ _ _ hlt (marks_len i k), marks_succ]
      rfl
    · show WkV (.i (k + i + 1)) (.i (k + ((i + 1 : Nat) : Int)))
      rw [show k + ((i + 1 : Nat) : Int) = k + i + 1 by omega]
      exact .refl _
  · refine kExit (kExC (kExI (kExB ?_)))
    have hge : i = a.length := by simp at h1; omega
    subst hge
    refine Kbc (Ka Y (Ka Y (Kd (Kr ?_))))
    rw [← hgas]
    refine endRet (ra := [.one (.d _)]) rfl ⟨⟨⟨rfl, .inl rfl⟩, trivial⟩, .nil, ⟨rfl, fun _ => rfl, rfl⟩, trivial, trivial⟩ ?_
    refine ⟨rfl, ?_⟩
    show encB (marks a.length k ++ a.drop a.length) = _
    simp

def c_laws_markByteSS : C := (.g (.o 0 4 (.mov (.i 0)) .done) (.seq (.g (.o 0 5 (.mov (.i 0)) .done) (.block 0 (.loop (.seq (.g (.o 0 6 (.mov (.t 5)) (.o 1 7 (.mov (.t 0)) (.o 2 8 (.len (.t 7)) (.o 3 9 (.bin .lss (.t 6) (.t 8)) .done)))) (.cond (.t 9) .skip (.exit 0))) (.seq (.block 1 (.reg false (.o 0 12 (.mov (.t 0)) (.o 1 13 (.mov (.t 5)) (.o 2 14 (.iad 1 (.t 12) (.t 13)) (.o 3 15 (.load none (.t 14)) (.o 4 16 (.mov (.t 1)) (.o 5 17 (.call 17 35 [(.t 15), (.t 16)]) (.o 6 1 (.mov (.t 17)) .done))))))))) (.reg false (.o 0 10 (.mov (.t 5)) (.o 1 11 (.bin .add (.t 10) (.i 1)) (.o 2 5 (.mov (.t 11)) .done))))))))) (.g (.o 0 18 (.mov (.t 1)) (.o 1 4 (.mov (.t 18)) .done)) .ret)))
theorem dg_laws_markByteSS : Tryz.f152.body.bind (digC Tryz.prog Tryz.f152.ntmps []) = some c_laws_markByteSS := by kernel_rfl
theorem rs_laws_markByteSS : resSlots Tryz.prog Tryz.f152 = some [.s 4] := by kernel_rfl
theorem ok_laws_markByteSS (a : List (List UInt8)) (k : Int) (h0 : 0 ≤ k) (hk : k + a.flatten.length ≤ 9223372036854775807) (hl : a.length ≤ 4194304) :
    FnOK Tryz.prog 152 [.one (.arr false true (encBB a)), .one (.d (.sc (.int .i64 k)))] (fun ra os => ra = [.one (.d (.sc (.int .i64 (k + a.flatten.length))))] ∧ os.a 0 = encBB (markss a k)) := by
  refine FnOK.ofK Tryz.func152 (by kernel_rfl) dg_laws_markByteSS rs_laws_markByteSS rfl rfl ?_
  delta c_laws_markByteSS T.o X.i C.g
  refine Kbc (Ka Y (Kd ?_))
  refine Kb (Kbc (Ka Y (Kd (Kt ?_))))
  refine kLoop (α := { i : Nat // i ≤ a.length })
    (fun y => ⟨tabSl [(0, .c (.arr 0 0)), (1, .i (k + (a.take y.1).flatten.length)), (5, .i y.1)], upd (St.init [.one (.arr false true (encBB a)), .one (.d (.sc (.int .i64 k)))]).ob 0 ⟨0, y.1, .arr true (encBB (markss (a.take y.1) k ++ a.drop y.1))⟩, []⟩) (fun y => a.length - y.1) ⟨0, by simp⟩
    (.tab (upd_self rfl) ⟨.refl _, by simpa using .refl _, .refl _, trivial⟩) ?_
  rintro ⟨i, hi⟩
  simp only
  have hlen : (markss (a.take i) k).length = i := by rw [markss_len]; simp; omega
  have hlen' : (markss (a.take i) k ++ a.drop i).length = a.length := by simp [hlen]; omega
  refine Kb (Kbc ?_)
  refine Ka Y (Ka Y (kLen Y Y Y (Kj Y Y Y (Kd ?_))))
  rw [len_encBB, hlen']
  refine kCond Y (fun h1 => ?_) (fun h1 => ?_)
  · have hlt : i < a.length := by simp at h1; omega
    have hget : (markss (a.take i) k ++ a.drop i)[i]'(by omega) = a[i] := by
      rw [List.getElem_append_right (by omega)]; simp [hlen]
    have hat : (encBB (markss (a.take i) k ++ a.drop i)).at i 0 = encB a[i] := by rw [at_encBB _ _ (by omega), hget]
    have hfl : (a.take (i + 1)).flatten.length = (a.take i).flatten.length + a[i].length := by
      rw [← List.take_append_getElem hlt, List.flatten_append, List.length_append]; simp only [List.flatten_cons, List.flatten_nil, List.append_nil]
    have htot : (a.take (i + 1)).flatten.length ≤ a.flatten.length := by
      have := congrArg (fun l => (List.flatten l).length) (List.take_append_drop (i + 1) a)
      simp only [List.flatten_append, List.length_append] at this
      omega
    refine Kn (Kb (Kt (Kc ?_)))
    refine Ka Y (Ka Y (kIadA Y Y Y Y ?_ ?_))
    · rw [len_encBB, hlen']; omega
    refine kLoadE Y Y (v := .c (.sub 0 0 i i 0)) ?_ (Ka Y ?_)
    · show pickCells none (AC.ofCells 0 0 i i 0 (((encBB (markss (a.take i) k ++ a.drop i)).row i).drop 0)) = _
      rw [row_encBB _ _ (by omega)]
      rfl
    refine kCallS (ok_laws_markByteS a[i] (k + (a.take i).flatten.length) om om) rfl ⟨⟨rfl, rfl, rfl, rfl, rfl, rfl, hat.symm, rfl⟩, rfl, trivial⟩ ?_ rfl ?_
    · simp [encBB, DV.rows, hlen]; omega
    rintro ra os ⟨rfl, ho⟩
    refine ⟨_, rfl, ?_⟩
    refine Ka Y (Kd (Kv ?_))
    refine Kc (Ka Y (kAdd Y Y ?_ (Ka Y (Kd (kInv ?_)))))
    · omega
    refine ⟨⟨i + 1, hlt⟩, by simp only; omega, .tab ?_ ⟨.refl _, ?_, .refl _, trivial⟩⟩
    · refine Eq.trans ?_ (upd_upd _ _ _ _).symm
      refine congrArg (upd _ _) ?_
      show _ = Ob.mk _ _ (OK.arr _ ((encBB (markss (a.take i) k ++ a.drop i)).setCell i 0 (os.a 0)))
      rw [ho, setCell_encBB _ _ _ (by omega), take_set_succ _ _ _ _ hlt hlen, ← List.take_append_getElem hlt, markss_append]
    · show WkV (.i (k + ((a.take i).flatten.length : Int) + a[i].length)) (.i (k + ((a.take (i + 1)).flatten.length : Int)))
      rw [hfl, show k + (((a.take i).flatten.length + a[i].length : Nat) : Int) = k + ((a.take i).flatten.length : Int) + a[i].length by omega]
      exact .refl _
  · refine kExit (kExC (kExI (kExB ?_)))
    have hge : i = a.length := by simp at h1; omega
    subst hge
    refine Kbc (Ka Y (Ka Y (Kd (Kr ?_))))
    refine endRet (ra := [.one (.d _)]) rfl ⟨⟨⟨rfl, .inl rfl⟩, trivial⟩, .nil, ⟨rfl, fun _ => rfl, rfl⟩, trivial, trivial⟩ ?_
    refine ⟨by simp, ?_⟩
    show encBB (markss (a.take a.length) k ++ a.drop a.length) = _
    simp

def c_laws_markName : C := (.g (.o 0 2 (.box 2 (.t 0)) (.o 1 4 (.mov (.i 0)) .done)) (.g (.o 0 5 (.fad (.t 2) 0) (.o 1 6 (.load none (.t 5)) (.o 2 7 (.mov (.t 1)) (.o 3 8 (.call 8 152 [(.t 6), (.t 7)]) (.o 4 1 (.mov (.t 8)) .done))))) (.g (.o 0 9 (.mov (.t 1)) (.o 1 4 (.mov (.t 9)) .done)) .ret)))
theorem dg_laws_markName : Tryz.f66.body.bind (digC Tryz.prog Tryz.f66.ntmps []) = some c_laws_markName := by kernel_rfl
theorem rs_laws_markName : resSlots Tryz.prog Tryz.f66 = some [.s 4] := by kernel_rfl
theorem ok_laws_markName (a : List (List UInt8)) (k : Int) (h0 : 0 ≤ k) (hk : k + a.flatten.length ≤ 9223372036854775807) (hl : a.length ≤ 4194304) :
    FnOK Tryz.prog 66 [.agg [.arr false true (encBB a)], .one (.d (.sc (.int .i64 k)))] (fun ra os => ra = [.one (.d (.sc (.int .i64 (k + a.flatten.length))))] ∧ os.a 0 = encBB (markss a k)) := by
  refine FnOK.ofK Tryz.func66 (by kernel_rfl) dg_laws_markName rs_laws_markName rfl rfl ?_
  delta c_laws_markName T.o X.i C.g
  refine Kbc (kBox Y Y Y Y Y (Ka Y (Kdb (Kc (Kf Y Y (Ke Y Y Y (Ka Y ?_)))))))
  refine kCall false (ok_laws_markByteSS a k h0 hk hl) ⟨⟨_, rfl, .inl rfl⟩, rfl, trivial⟩ rfl nofun (by rintro ra os ⟨rfl, _⟩; exact leb) ?_
  rintro ra os ⟨rfl, ho⟩
  refine Ka Y (Kdb (Kc (Ka Y (Ka Y (Kd ?_)))))
  refine Kr (endRet (ra := [.one (.d _)]) rfl ?_ ⟨rfl, ho⟩)
  (repeat' first | exact trivial | exact rfl | exact .inl rfl | exact nodupB_sound rfl | exact .inl (Nat.zero_lt_succ _) | exact fun _ => rfl | exact leb | exact ⟨_, rfl, fun _ => rfl⟩ | refine ⟨?_, ?_⟩ | fail)
  rw [show os.a (aid 0 0) = _ from ho]
  rfl

def c_laws_markIntS : C := (.g (.o 0 4 (.mov (.i 0)) .done) (.seq (.g (.o 0 5 (.mov (.i 0)) .done) (.block 0 (.loop (.seq (.g (.o 0 6 (.mov (.t 5)) (.o 1 7 (.mov (.t 0)) (.o 2 8 (.len (.t 7)) (.o 3 9 (.bin .lss (.t 6) (.t 8)) .done)))) (.cond (.t 9) .skip (.exit 0))) (.seq (.block 1 (.g (.o 0 12 (.mov (.t 0)) (.o 1 13 (.mov (.t 5)) (.o 2 14 (.mov (.t 1)) (.o 3 15 (.iad 1 (.t 12) (.t 13)) (.op 4 [] none none false (.store none (.t 15) (.t 14)) .done))))) (.reg false (.o 0 16 (.mov (.t 1)) (.o 1 17 (.bin .add (.t 16) (.i 1)) (.o 2 1 (.mov (.t 17)) .done)))))) (.reg false (.o 0 10 (.mov (.t 5)) (.o 1 11 (.bin .add (.t 10) (.i 1)) (.o 2 5 (.mov (.t 11)) .done))))))))) (.g (.o 0 18 (.mov (.t 1)) (.o 1 4 (.mov (.t 18)) .done)) .ret)))
theorem dg_laws_markIntS : Tryz.f68.body.bind (digC Tryz.prog Tryz.f68.ntmps []) = some c_laws_markIntS := by kernel_rfl
theorem rs_laws_markIntS : resSlots Tryz.prog Tryz.f68 = some [.s 4] := by kernel_rfl
theorem ok_laws_markIntS (a : List Int) (k : Int) (h0 : 0 ≤ k) (hk : k + a.length ≤ 9223372036854775807) :
    FnOK Tryz.prog 68 [.one (.arr false true (Hearth.encI a)), .one (.d (.sc (.int .i64 k)))] (fun ra os => ra = [.one (.d (.sc (.int .i64 (k + a.length))))] ∧ os.a 0 = Hearth.encI (marksI a.length k)) := by
  refine FnOK.ofK Tryz.func68 (by kernel_rfl) dg_laws_markIntS rs_laws_markIntS rfl rfl ?_
  delta c_laws_markIntS T.o X.i C.g
  refine Kbc (Ka Y (Kdb (Kbc (Ka Y (Kd (Kt ?_))))))
  refine kLoop (α := { i : Nat // i ≤ a.length })
    (fun y => ⟨tabSl [(0, .c (.arr 0 0)), (1, .i (k + (y.1 : Int))), (5, .i y.1)], upd (St.init [.one (.arr false true (Hearth.encI a)), .one (.d (.sc (.int .i64 k)))]).ob 0 ⟨0, y.1, .arr true (Hearth.encI (marksI y.1 k ++ a.drop y.1))⟩, []⟩) (fun y => a.length - y.1) ⟨0, by simp⟩
    (.tab (upd_self rfl) ⟨.refl _, by simpa using .refl _, .refl _, trivial⟩) ?_
  rintro ⟨i, hi⟩
  simp only
  have hlen : (marksI i k ++ a.drop i).length = a.length := by simp [marksI_len]; omega
  rcases Nat.lt_or_ge i a.length with hlt | hge
  · refine Kb (Kbc (Ka Y (Ka Y (Kq Y Y (Kj Y Y Y (Kd (Km Y (fun g0 => Kn (Kb (Kt (Kbc (Ka Y (Ka Y (Ka Y (kIadAR Y Y Y Y om (kStoreER Y Y Y Y Y Y Y om rfl (Kd (Kc (Ka Y (kAdd Y Y om (Ka Y (Kd (Kv (Kc (Ka Y (kAdd Y Y om (Ka Y (Kd ?_))))))))))))))))))))) (fun g0 => om))))))))
    refine kInv ⟨⟨i + 1, hlt⟩, by simp only; omega, .tab ?_ ⟨.refl _, ?_, .refl _, trivial⟩⟩
    · show _ = upd (upd _ 0 _) 0 _
      rw [upd_upd]
      refine congrArg (upd _ _) ?_
      rw [marksI_succ]
      exact congrArg (fun z => Ob.mk 0 (i + 1) (OK.arr true (Hearth.encI z))) (take_set_succ _ _ _ _ hlt (marksI_len i k)).symm
    · show WkV (.i (k + i + 1)) (.i (k + ((i + 1 : Nat) : Int)))
      rw [show k + ((i + 1 : Nat) : Int) = k + i + 1 by omega]
      exact .refl _
  · refine Kb (Kbc (Ka Y (Ka Y (Kq Y Y (Kj Y Y Y (Kd (Km Y (fun g0 => om) (fun g0 => kExit (kExC (kExI (kExB (Kbc (Ka Y (Ka Y (Kd (Kr (Er (ra := [.one (.d _)]) rfl ?_)))))))))))))))))
    obtain rfl : i = a.length := by omega
    refine ⟨rfl, ?_⟩
    show Hearth.encI (marksI a.length k ++ a.drop a.length) = _
    simp

def c_laws_markRrS : C := (.g (.o 0 4 (.mov (.i 0)) .done) (.seq (.g (.o 0 5 (.mov (.i 0)) .done) (.block 0 (.loop (.seq (.g (.o 0 6 (.mov (.t 5)) (.o 1 7 (.mov (.t 0)) (.o 2 8 (.len (.t 7)) (.o 3 9 (.bin .lss (.t 6) (.t 8)) .done)))) (.cond (.t 9) .skip (.exit 0))) (.seq (.block 1 (.g (.o 0 12 (.mov (.t 0)) (.o 1 13 (.mov (.t 5)) (.o 2 14 (.iad 7 (.t 12) (.t 13)) (.o 3 15 (.fad (.t 14) 0) (.o 4 16 (.fad (.t 15) 0) (.o 5 17 (.load none (.t 16)) (.o 6 18 (.mov (.t 1)) (.o 7 19 (.call 19 152 [(.t 17), (.t 18)]) (.o 8 1 (.mov (.t 19)) .done))))))))) (.g (.o 0 20 (.mov (.t 0)) (.o 1 21 (.mov (.t 5)) (.o 2 22 (.mov (.t 1)) (.o 3 23 (.iad 7 (.t 20) (.t 21)) (.o 4 24 (.fad (.t 23) 1) (.op 5 [] none none false (.store none (.t 24) (.t 22)) .done)))))) (.g (.o 0 25 (.mov (.t 1)) (.o 1 26 (.bin .add (.t 25) (.i 1)) (.o 2 1 (.mov (.t 26)) .done))) (.g (.o 0 27 (.mov (.t 0)) (.o 1 28 (.mov (.t 5)) (.o 2 29 (.mov (.t 1)) (.o 3 30 (.iad 7 (.t 27) (.t 28)) (.o 4 31 (.fad (.t 30) 2) (.op 5 [] none none false (.store none (.t 31) (.t 29)) .done)))))) (.g (.o 0 32 (.mov (.t 1)) (.o 1 33 (.bin .add (.t 32) (.i 1)) (.o 2 1 (.mov (.t 33)) .done))) (.g (.o 0 34 (.mov (.t 0)) (.o 1 35 (.mov (.t 5)) (.o 2 36 (.mov (.t 1)) (.o 3 37 (.iad 7 (.t 34) (.t 35)) (.o 4 38 (.fad (.t 37) 3) (.op 5 [] none none false (.store none (.t 38) (.t 36)) .done)))))) (.g (.o 0 39 (.mov (.t 1)) (.o 1 40 (.bin .add (.t 39) (.i 1)) (.o 2 1 (.mov (.t 40)) .done))) (.g (.o 0 41 (.mov (.t 0)) (.o 1 42 (.mov (.t 5)) (.o 2 43 (.iad 7 (.t 41) (.t 42)) (.o 3 44 (.fad (.t 43) 4) (.o 4 45 (.fad (.t 44) 0) (.o 5 46 (.load none (.t 45)) (.o 6 47 (.mov (.t 1)) (.o 7 48 (.call 48 152 [(.t 46), (.t 47)]) (.o 8 1 (.mov (.t 48)) .done))))))))) (.g (.o 0 49 (.mov (.t 0)) (.o 1 50 (.mov (.t 5)) (.o 2 51 (.iad 7 (.t 49) (.t 50)) (.o 3 52 (.fad (.t 51) 5) (.o 4 53 (.load none (.t 52)) (.o 5 54 (.mov (.t 1)) (.o 6 55 (.call 55 35 [(.t 53), (.t 54)]) (.o 7 1 (.mov (.t 55)) .done)))))))) (.reg false (.o 0 56 (.mov (.t 0)) (.o 1 57 (.mov (.t 5)) (.o 2 58 (.iad 7 (.t 56) (.t 57)) (.o 3 59 (.fad (.t 58) 6) (.o 4 60 (.load none (.t 59)) (.o 5 61 (.mov (.t 1)) (.o 6 62 (.call 62 68 [(.t 60), (.t 61)]) (.o 7 1 (.mov (.t 62)) .done))))))))))))))))))) (.reg false (.o 0 10 (.mov (.t 5)) (.o 1 11 (.bin .add (.t 10) (.i 1)) (.o 2 5 (.mov (.t 11)) .done))))))))) (.g (.o 0 63 (.mov (.t 1)) (.o 1 4 (.mov (.t 63)) .done)) .ret)))
theorem dg_laws_markRrS : Tryz.f67.body.bind (digC Tryz.prog Tryz.f67.ntmps []) = some c_laws_markRrS := by kernel_rfl
theorem rs_laws_markRrS : resSlots Tryz.prog Tryz.f67 = some [.s 4] := by kernel_rfl
theorem ok_laws_markRrS (l : List Rr) (k : Int) (h0 : 0 ≤ k) (hk : k + cntRs l ≤ 9223372036854775807) (hs : SmallRs l) :
    FnOK Tryz.prog 67 [.one (.arr false true (encR l)), .one (.d (.sc (.int .i64 k)))] (fun ra os => ra = [.one (.d (.sc (.int .i64 (k + cntRs l))))] ∧ os.a 0 = encR (markRs l k)) := by
  refine FnOK.ofK Tryz.func67 (by kernel_rfl) dg_laws_markRrS rs_laws_markRrS rfl rfl ?_
  delta c_laws_markRrS T.o X.i C.g
  have h1 := hs.len
  refine Kbc (Ka Y (Kdb (Kbc (Ka Y (Kd (Kt ?_))))))
  generalize hF : (St.init [.one (.arr false true (encR l)), .one (.d (.sc (.int .i64 k)))]).ob = F
  refine kLoop (α := { i : Nat // i ≤ l.length })
    (fun y => ⟨tabSl [(0, .c (.arr 0 0)), (1, .i (k + (cntRs (l.take y.1) : Int))), (5, .i y.1)], upd F 0 ⟨0, 7 * y.1, .arr true (encR (markRs (l.take y.1) k ++ l.drop y.1))⟩, []⟩) (fun y => l.length - y.1) ⟨0, by simp⟩
    (.tab (by subst hF; exact upd_self rfl) ⟨.refl _, by simpa using .refl _, .refl _, trivial⟩) ?_
  rintro ⟨i, hi⟩
  simp only
  have hlen : (markRs (l.take i) k).length = i := by rw [markRs_len]; simp; omega
  have hlen' : (markRs (l.take i) k ++ l.drop i).length = l.length := by simp [hlen]; omega
  have hle := cntRs_le l i
  have hle2 := cntRs_le l (i + 1)
  rcases Nat.lt_or_ge i l.length with hlt | hge
  · have hbi := hs.mem _ (List.getElem_mem hlt)
    have hsuc := cntRs_take l i hlt
    have hget : (markRs (l.take i) k ++ l.drop i)[i]'(by omega) = l[i] := by
      rw [List.getElem_append_right (by omega)]; simp [hlen]
    have hset := set_self (markRs (l.take i) k ++ l.drop i) i (by omega)
    rw [hget] at hset
    have hfin : ∀ R : Rr, R = markR l[i] (k + cntRs (l.take i)) → (markRs (l.take i) k ++ l.drop i).set i R = markRs (l.take (i + 1)) k ++ l.drop (i + 1) := by
      rintro R rfl
      rw [take_set_succ _ _ _ _ hlt hlen, ← List.take_append_getElem hlt, markRs_append]
    have hc : cntR l[i] = l[i].name.flatten.length + 3 + l[i].to.flatten.length + l[i].text.length + l[i].nums.length := rfl
    clear hget
    revert hset hfin hlen'
    generalize markRs (l.take i) k ++ l.drop i = L
    generalize hr : l[i] = r at hc hbi hsuc
    generalize hK : k + (cntRs (l.take i) : Int) = K
    intro hlen' hset hfin
    have n1 := hbi.n.len
    have t1 := hbi.t.len
    have x1 := hbi.x
    have m1 := hbi.m
    have hiL : i < L.length := by omega
    have hKn : 0 ≤ K := by omega
    have hKm : K + cntR r ≤ 9223372036854775807 := by omega
    refine kSub (t := ⟨tabSl [(0, .c (.arr 0 0)), (1, .i (K)), (5, .i i)], upd F 0 ⟨0, 7 * i, .arr true (encR (L.set i r))⟩, []⟩) (.tab (by rw [hset]) ⟨.refl _, .refl _, .refl _, trivial⟩) ?_
    refine Kb (Kbc (Ka Y (Ka Y (kLen Y Y Y (Kj Y Y Y (Kd ?_))))))
    rw [len_encR, List.length_set]
    refine kCond Y (fun h1 => ?_) (fun h1 => by exfalso; simp at h1; omega)
    refine Kn (Kb (Kt ?_))
    refine Kbc ?_
    refine Ka Y (Ka Y (kIadA Y Y Y Y ?_ ?_))
    · rw [len_encR, List.length_set]; omega
    refine kFadE Y Y (kFadE Y Y (?_))
    refine kLoadE Y Y (v := .c (.sub 0 0 (7 * i) i 0)) ?_ (Ka Y ?_)
    · show pickCells none (AC.ofCells 0 0 (7 * i) i 0 (((encR (L.set i ⟨r.name, r.ty, r.ttl, r.addr, r.to, r.text, r.nums⟩)).row i).drop 0)) = _
      rw [row_encRS _ _ _ hiL]
      rfl
    refine kCallS (ok_laws_markByteSS r.name K om om n1) rfl ⟨⟨rfl, rfl, rfl, rfl, rfl, rfl, (at_encRS L i 0 ⟨r.name, r.ty, r.ttl, r.addr, r.to, r.text, r.nums⟩ hiL).symm, rfl⟩, rfl, trivial⟩ ?_ rfl ?_
    · simp [encR, DV.rows]; omega
    rintro ra os ⟨rfl, ho⟩
    refine ⟨_, rfl, ?_⟩
    refine Ka Y (Kd ?_)
    refine kSub (t := ⟨tabSl [(0, .c (.arr 0 0)), (1, .i (K + (r.name.flatten.length : Int))), (5, .i i)], upd F 0 ⟨0, (7 * i + 1), .arr true (encR (L.set i ⟨markss r.name (K), r.ty, r.ttl, r.addr, r.to, r.text, r.nums⟩))⟩, []⟩) (.tab ?_ ⟨.refl _, .refl _, .refl _, trivial⟩) ?_
    · refine Eq.trans ?_ (upd_upd _ _ _ _).symm
      refine congrArg (upd _ _) ?_
      show _ = Ob.mk _ _ (OK.arr _ ((encR (L.set i ⟨r.name, r.ty, r.ttl, r.addr, r.to, r.text, r.nums⟩)).setCell i 0 (os.a 0)))
      rw [ho, setCell_encRS L i 0 ⟨r.name, r.ty, r.ttl, r.addr, r.to, r.text, r.nums⟩ ⟨markss r.name (K), r.ty, r.ttl, r.addr, r.to, r.text, r.nums⟩ _ hiL rfl]
      try rfl
    refine Kbc ?_
    refine Ka Y (Ka Y (Ka Y (kIadA Y Y Y Y ?_ (kFadE Y Y ?_))))
    · rw [len_encR, List.length_set]; omega
    refine kStoreE1 Y Y Y Y (by simp [encR, DV.esz]) (Kd ?_)
    refine kSub (t := ⟨tabSl [(0, .c (.arr 0 0)), (1, .i (K + (r.name.flatten.length : Int))), (5, .i i)], upd F 0 ⟨0, (7 * i + 2), .arr true (encR (L.set i ⟨markss r.name (K), (K + (r.name.flatten.length : Int)), r.ttl, r.addr, r.to, r.text, r.nums⟩))⟩, []⟩) (.tab ?_ ⟨.refl _, .refl _, .refl _, trivial⟩) ?_
    · refine Eq.trans ?_ (upd_upd _ _ _ _).symm
      refine congrArg (upd _ _) ?_
      show _ = Ob.mk _ _ (OK.arr _ (setRow (encR (L.set i ⟨markss r.name (K), r.ty, r.ttl, r.addr, r.to, r.text, r.nums⟩)) i 1 _))
      rw [setRow_encRS L i 1 ⟨markss r.name (K), r.ty, r.ttl, r.addr, r.to, r.text, r.nums⟩ ⟨markss r.name (K), (K + (r.name.flatten.length : Int)), r.ttl, r.addr, r.to, r.text, r.nums⟩ _ hiL rfl]
      try rfl
    refine Kbc (Ka Y (kAdd Y Y om (Ka Y (Kd ?_))))
    refine Kbc ?_
    refine Ka Y (Ka Y (Ka Y (kIadA Y Y Y Y ?_ (kFadE Y Y ?_))))
    · rw [len_encR, List.length_set]; omega
    refine kStoreE1 Y Y Y Y (by simp [encR, DV.esz]) (Kd ?_)
    refine kSub (t := ⟨tabSl [(0, .c (.arr 0 0)), (1, .i (K + (r.name.flatten.length : Int) + 1)), (5, .i i)], upd F 0 ⟨0, (7 * i + 3), .arr true (encR (L.set i ⟨markss r.name (K), (K + (r.name.flatten.length : Int)), (K + (r.name.flatten.length : Int) + 1), r.addr, r.to, r.text, r.nums⟩))⟩, []⟩) (.tab ?_ ⟨.refl _, .refl _, .refl _, trivial⟩) ?_
    · refine Eq.trans ?_ (upd_upd _ _ _ _).symm
      refine congrArg (upd _ _) ?_
      show _ = Ob.mk _ _ (OK.arr _ (setRow (encR (L.set i ⟨markss r.name (K), (K + (r.name.flatten.length : Int)), r.ttl, r.addr, r.to, r.text, r.nums⟩)) i 2 _))
      rw [setRow_encRS L i 2 ⟨markss r.name (K), (K + (r.name.flatten.length : Int)), r.ttl, r.addr, r.to, r.text, r.nums⟩ ⟨markss r.name (K), (K + (r.name.flatten.length : Int)), (K + (r.name.flatten.length : Int) + 1), r.addr, r.to, r.text, r.nums⟩ _ hiL rfl]
      try rfl
    refine Kbc (Ka Y (kAdd Y Y om (Ka Y (Kd ?_))))
    refine Kbc ?_
    refine Ka Y (Ka Y (Ka Y (kIadA Y Y Y Y ?_ (kFadE Y Y ?_))))
    · rw [len_encR, List.length_set]; omega
    refine kStoreE1 Y Y Y Y (by simp [encR, DV.esz]) (Kd ?_)
    refine kSub (t := ⟨tabSl [(0, .c (.arr 0 0)), (1, .i (K + (r.name.flatten.length : Int) + 1 + 1)), (5, .i i)], upd F 0 ⟨0, (7 * i + 4), .arr true (encR (L.set i ⟨markss r.name (K), (K + (r.name.flatten.length : Int)), (K + (r.name.flatten.length : Int) + 1), (K + (r.name.flatten.length : Int) + 1 + 1), r.to, r.text, r.nums⟩))⟩, []⟩) (.tab ?_ ⟨.refl _, .refl _, .refl _, trivial⟩) ?_
    · refine Eq.trans ?_ (upd_upd _ _ _ _).symm
      refine congrArg (upd _ _) ?_
      show _ = Ob.mk _ _ (OK.arr _ (setRow (encR (L.set i ⟨markss r.name (K), (K + (r.name.flatten.length : Int)), (K + (r.name.flatten.length : Int) + 1), r.addr, r.to, r.text, r.nums⟩)) i 3 _))
      rw [setRow_encRS L i 3 ⟨markss r.name (K), (K + (r.name.flatten.length : Int)), (K + (r.name.flatten.length : Int) + 1), r.addr, r.to, r.text, r.nums⟩ ⟨markss r.name (K), (K + (r.name.flatten.length : Int)), (K + (r.name.flatten.length : Int) + 1), (K + (r.name.flatten.length : Int) + 1 + 1), r.to, r.text, r.nums⟩ _ hiL rfl]
      try rfl
    refine Kbc (Ka Y (kAdd Y Y om (Ka Y (Kd ?_))))
    refine Kbc ?_
    refine Ka Y (Ka Y (kIadA Y Y Y Y ?_ ?_))
    · rw [len_encR, List.length_set]; omega
    refine kFadE Y Y (kFadE Y Y (?_))
    refine kLoadE Y Y (v := .c (.sub 0 0 (7 * i + 4) i 4)) ?_ (Ka Y ?_)
    · show pickCells none (AC.ofCells 0 0 (7 * i + 4) i 4 (((encR (L.set i ⟨markss r.name (K), (K + (r.name.flatten.length : Int)), (K + (r.name.flatten.length : Int) + 1), (K + (r.name.flatten.length : Int) + 1 + 1), r.to, r.text, r.nums⟩)).row i).drop 4)) = _
      rw [row_encRS _ _ _ hiL]
      rfl
    refine kCallS (ok_laws_markByteSS r.to _ om om t1) rfl ⟨⟨rfl, rfl, rfl, rfl, rfl, rfl, (at_encRS L i 4 ⟨markss r.name (K), (K + (r.name.flatten.length : Int)), (K + (r.name.flatten.length : Int) + 1), (K + (r.name.flatten.length : Int) + 1 + 1), r.to, r.text, r.nums⟩ hiL).symm, rfl⟩, rfl, trivial⟩ ?_ rfl ?_
    · simp [encR, DV.rows]; omega
    rintro ra os ⟨rfl, ho⟩
    refine ⟨_, rfl, ?_⟩
    refine Ka Y (Kd ?_)
    refine kSub (t := ⟨tabSl [(0, .c (.arr 0 0)), (1, .i (K + (r.name.flatten.length : Int) + 1 + 1 + 1 + (r.to.flatten.length : Int))), (5, .i i)], upd F 0 ⟨0, (7 * i + 5), .arr true (encR (L.set i ⟨markss r.name (K), (K + (r.name.flatten.length : Int)), (K + (r.name.flatten.length : Int) + 1), (K + (r.name.flatten.length : Int) + 1 + 1), markss r.to (K + (r.name.flatten.length : Int) + 1 + 1 + 1), r.text, r.nums⟩))⟩, []⟩) (.tab ?_ ⟨.refl _, .refl _, .refl _, trivial⟩) ?_
    · refine Eq.trans ?_ (upd_upd _ _ _ _).symm
      refine congrArg (upd _ _) ?_
      show _ = Ob.mk _ _ (OK.arr _ ((encR (L.set i ⟨markss r.name (K), (K + (r.name.flatten.length : Int)), (K + (r.name.flatten.length : Int) + 1), (K + (r.name.flatten.length : Int) + 1 + 1), r.to, r.text, r.nums⟩)).setCell i 4 (os.a 0)))
      rw [ho, setCell_encRS L i 4 ⟨markss r.name (K), (K + (r.name.flatten.length : Int)), (K + (r.name.flatten.length : Int) + 1), (K + (r.name.flatten.length : Int) + 1 + 1), r.to, r.text, r.nums⟩ ⟨markss r.name (K), (K + (r.name.flatten.length : Int)), (K + (r.name.flatten.length : Int) + 1), (K + (r.name.flatten.length : Int) + 1 + 1), markss r.to (K + (r.name.flatten.length : Int) + 1 + 1 + 1), r.text, r.nums⟩ _ hiL rfl]
      try rfl
    refine Kbc ?_
    refine Ka Y (Ka Y (kIadA Y Y Y Y ?_ ?_))
    · rw [len_encR, List.length_set]; omega
    refine kFadE Y Y (?_)
    refine kLoadE Y Y (v := .c (.sub 0 0 (7 * i + 5) i 5)) ?_ (Ka Y ?_)
    · show pickCells none (AC.ofCells 0 0 (7 * i + 5) i 5 (((encR (L.set i ⟨markss r.name (K), (K + (r.name.flatten.length : Int)), (K + (r.name.flatten.length : Int) + 1), (K + (r.name.flatten.length : Int) + 1 + 1), markss r.to (K + (r.name.flatten.length : Int) + 1 + 1 + 1), r.text, r.nums⟩)).row i).drop 5)) = _
      rw [row_encRS _ _ _ hiL]
      rfl
    refine kCallS (ok_laws_markByteS r.text _ om om) rfl ⟨⟨rfl, rfl, rfl, rfl, rfl, rfl, (at_encRS L i 5 ⟨markss r.name (K), (K + (r.name.flatten.length : Int)), (K + (r.name.flatten.length : Int) + 1), (K + (r.name.flatten.length : Int) + 1 + 1), markss r.to (K + (r.name.flatten.length : Int) + 1 + 1 + 1), r.text, r.nums⟩ hiL).symm, rfl⟩, rfl, trivial⟩ ?_ rfl ?_
    · simp [encR, DV.rows]; omega
    rintro ra os ⟨rfl, ho⟩
    refine ⟨_, rfl, ?_⟩
    refine Ka Y (Kd ?_)
    refine kSub (t := ⟨tabSl [(0, .c (.arr 0 0)), (1, .i (K + (r.name.flatten.length : Int) + 1 + 1 + 1 + (r.to.flatten.length : Int) + (r.text.length : Int))), (5, .i i)], upd F 0 ⟨0, (7 * i + 6), .arr true (encR (L.set i ⟨markss r.name (K), (K + (r.name.flatten.length : Int)), (K + (r.name.flatten.length : Int) + 1), (K + (r.name.flatten.length : Int) + 1 + 1), markss r.to (K + (r.name.flatten.length : Int) + 1 + 1 + 1), marks r.text.length (K + (r.name.flatten.length : Int) + 1 + 1 + 1 + (r.to.flatten.length : Int)), r.nums⟩))⟩, []⟩) (.tab ?_ ⟨.refl _, .refl _, .refl _, trivial⟩) ?_
    · refine Eq.trans ?_ (upd_upd _ _ _ _).symm
      refine congrArg (upd _ _) ?_
      show _ = Ob.mk _ _ (OK.arr _ ((encR (L.set i ⟨markss r.name (K), (K + (r.name.flatten.length : Int)), (K + (r.name.flatten.length : Int) + 1), (K + (r.name.flatten.length : Int) + 1 + 1), markss r.to (K + (r.name.flatten.length : Int) + 1 + 1 + 1), r.text, r.nums⟩)).setCell i 5 (os.a 0)))
      rw [ho, setCell_encRS L i 5 ⟨markss r.name (K), (K + (r.name.flatten.length : Int)), (K + (r.name.flatten.length : Int) + 1), (K + (r.name.flatten.length : Int) + 1 + 1), markss r.to (K + (r.name.flatten.length : Int) + 1 + 1 + 1), r.text, r.nums⟩ ⟨markss r.name (K), (K + (r.name.flatten.length : Int)), (K + (r.name.flatten.length : Int) + 1), (K + (r.name.flatten.length : Int) + 1 + 1), markss r.to (K + (r.name.flatten.length : Int) + 1 + 1 + 1), marks r.text.length (K + (r.name.flatten.length : Int) + 1 + 1 + 1 + (r.to.flatten.length : Int)), r.nums⟩ _ hiL rfl]
      try rfl
    refine Kc ?_
    refine Ka Y (Ka Y (kIadA Y Y Y Y ?_ ?_))
    · rw [len_encR, List.length_set]; omega
    refine kFadE Y Y (?_)
    refine kLoadE Y Y (v := .c (.sub 0 0 (7 * i + 6) i 6)) ?_ (Ka Y ?_)
    · show pickCells none (AC.ofCells 0 0 (7 * i + 6) i 6 (((encR (L.set i ⟨markss r.name (K), (K + (r.name.flatten.length : Int)), (K + (r.name.flatten.length : Int) + 1), (K + (r.name.flatten.length : Int) + 1 + 1), markss r.to (K + (r.name.flatten.length : Int) + 1 + 1 + 1), marks r.text.length (K + (r.name.flatten.length : Int) + 1 + 1 + 1 + (r.to.flatten.length : Int)), r.nums⟩)).row i).drop 6)) = _
      rw [row_encRS _ _ _ hiL]
      rfl
    refine kCallS (ok_laws_markIntS r.nums _ om om) rfl ⟨⟨rfl, rfl, rfl, rfl, rfl, rfl, (at_encRS L i 6 ⟨markss r.name (K), (K + (r.name.flatten.length : Int)), (K + (r.name.flatten.length : Int) + 1), (K + (r.name.flatten.length : Int) + 1 + 1), markss r.to (K + (r.name.flatten.length : Int) + 1 + 1 + 1), marks r.text.length (K + (r.name.flatten.length : Int) + 1 + 1 + 1 + (r.to.flatten.length : Int)), r.nums⟩ hiL).symm, rfl⟩, rfl, trivial⟩ ?_ rfl ?_
    · simp [encR, DV.rows]; omega
    rintro ra os ⟨rfl, ho⟩
    refine ⟨_, rfl, ?_⟩
    refine Ka Y (Kd (Kv ?_))
    refine kSub (t := ⟨tabSl [(0, .c (.arr 0 0)), (1, .i (K + (r.name.flatten.length : Int) + 1 + 1 + 1 + (r.to.flatten.length : Int) + (r.text.length : Int) + (r.nums.length : Int))), (5, .i i)], upd F 0 ⟨0, (7 * i + 7), .arr true (encR (L.set i ⟨markss r.name (K), (K + (r.name.flatten.length : Int)), (K + (r.name.flatten.length : Int) + 1), (K + (r.name.flatten.length : Int) + 1 + 1), markss r.to (K + (r.name.flatten.length : Int) + 1 + 1 + 1), marks r.text.length (K + (r.name.flatten.length : Int) + 1 + 1 + 1 + (r.to.flatten.length : Int)), marksI r.nums.length (K + (r.name.flatten.length : Int) + 1 + 1 + 1 + (r.to.flatten.length : Int) + (r.text.length : Int))⟩))⟩, []⟩) (.tab ?_ ⟨.refl _, .refl _, .refl _, trivial⟩) ?_
    · refine Eq.trans ?_ (upd_upd _ _ _ _).symm
      refine congrArg (upd _ _) ?_
      show _ = Ob.mk _ _ (OK.arr _ ((encR (L.set i ⟨markss r.name (K), (K + (r.name.flatten.length : Int)), (K + (r.name.flatten.length : Int) + 1), (K + (r.name.flatten.length : Int) + 1 + 1), markss r.to (K + (r.name.flatten.length : Int) + 1 + 1 + 1), marks r.text.length (K + (r.name.flatten.length : Int) + 1 + 1 + 1 + (r.to.flatten.length : Int)), r.nums⟩)).setCell i 6 (os.a 0)))
      rw [ho, setCell_encRS L i 6 ⟨markss r.name (K), (K + (r.name.flatten.length : Int)), (K + (r.name.flatten.length : Int) + 1), (K + (r.name.flatten.length : Int) + 1 + 1), markss r.to (K + (r.name.flatten.length : Int) + 1 + 1 + 1), marks r.text.length (K + (r.name.flatten.length : Int) + 1 + 1 + 1 + (r.to.flatten.length : Int)), r.nums⟩ ⟨markss r.name (K), (K + (r.name.flatten.length : Int)), (K + (r.name.flatten.length : Int) + 1), (K + (r.name.flatten.length : Int) + 1 + 1), markss r.to (K + (r.name.flatten.length : Int) + 1 + 1 + 1), marks r.text.length (K + (r.name.flatten.length : Int) + 1 + 1 + 1 + (r.to.flatten.length : Int)), marksI r.nums.length (K + (r.name.flatten.length : Int) + 1 + 1 + 1 + (r.to.flatten.length : Int) + (r.text.length : Int))⟩ _ hiL rfl]
      try rfl
    rw [hfin _ (by rw [← hr, ← hK]; rfl)]
    refine Kc (Ka Y (kAdd Y Y om (Ka Y (Kd (kInv ?_)))))
    refine ⟨⟨i + 1, hlt⟩, by simp only; omega, .tab rfl ⟨.refl _, ?_, .refl _, trivial⟩⟩
    refine Eq.mp (congrArg (fun z => WkV _ (.i z)) ?_) (.refl _)
    show _ = k + ((cntRs (l.take (i + 1)) : Nat) : Int)
    omega
  · refine Kb (Kbc (Ka Y (Ka Y (kLen Y Y Y (Kj Y Y Y (Kd ?_))))))
    rw [len_encR, hlen']
    refine kCond Y (fun h1 => by exfalso; simp at h1; omega) (fun h1 => ?_)
    refine kExit (kExC (kExI (kExB ?_)))
    obtain rfl : i = l.length := by omega
    refine Kbc (Ka Y (Ka Y (Kd (Kr ?_))))
    subst hF
    refine endRet (ra := [.one (.d _)]) rfl ⟨⟨⟨rfl, .inl rfl⟩, trivial⟩, .nil, ⟨rfl, fun _ => rfl, rfl⟩, trivial, trivial⟩ ?_
    refine ⟨by simp, ?_⟩
    show encR (markRs (l.take l.length) k ++ l.drop l.length) = _
    simp

def c_laws_markZone : C := (.g (.o 0 2 (.box 2 (.t 0)) (.o 1 4 (.mov (.i 0)) .done)) (.g (.o 0 5 (.fad (.t 2) 0) (.o 1 6 (.load (some 1) (.t 5)) (.o 2 7 (.mov (.t 1)) (.o 3 8 (.call 8 66 [(.t 6), (.t 7)]) (.o 4 1 (.mov (.t 8)) .done))))) (.g (.o 0 9 (.fad (.t 2) 1) (.o 1 10 (.load none (.t 9)) (.o 2 11 (.mov (.t 1)) (.o 3 12 (.call 12 67 [(.t 10), (.t 11)]) (.o 4 1 (.mov (.t 12)) .done))))) (.g (.o 0 13 (.mov (.t 1)) (.o 1 4 (.mov (.t 13)) .done)) .ret))))
theorem dg_laws_markZone : Tryz.f17.body.bind (digC Tryz.prog Tryz.f17.ntmps []) = some c_laws_markZone := by kernel_rfl
theorem rs_laws_markZone : resSlots Tryz.prog Tryz.f17 = some [.s 4] := by kernel_rfl
theorem ok_laws_markZone (z : Zone) (k : Int) (h0 : 0 ≤ k) (hk : k + cntZ z ≤ 9223372036854775807) (hs : SmallZ z) :
    FnOK Tryz.prog 17 [.agg [.arr false true (encBB z.origin), .arr false true (encR z.rrs)], .one (.d (.sc (.int .i64 k)))] (fun ra os => ra = [.one (.d (.sc (.int .i64 (k + cntZ z))))] ∧ outsAre [(0, encBB (markZ z k).origin), (1, encR (markZ z k).rrs)] os) := by
  refine FnOK.ofK Tryz.func17 (by kernel_rfl) dg_laws_markZone rs_laws_markZone rfl rfl ?_
  delta c_laws_markZone T.o X.i C.g
  have o1 := hs.o.len
  have o2 := hs.o.mem
  have h1 := hs.r
  have hc : k + (cntZ z : Int) = k + (z.origin.flatten.length : Int) + (cntRs z.rrs : Int) := by unfold cntZ cntBB; omega
  refine Kbc (kBox Y Y Y Y Y (Ka Y (Kdb (Kc (Kf Y Y (Ke Y Y Y (Ka Y (kCallA (ok_laws_markName _ _ pr pr pr) ⟨⟨⟨⟨_, rfl, .inl rfl⟩, trivial⟩, leb⟩, rfl, trivial⟩ Y Y Y Y (Ka Y (Kdb (Kc (Kf Y Y (Ke Y Y Y (Ka Y (kCallA (ok_laws_markRrS _ _ pr pr pr) ⟨⟨_, rfl, .inl rfl⟩, rfl, trivial⟩ Y Y Y Y (Ka Y (Kdb (Kc (Ka Y (Ka Y (Kd (Kr (Er (ra := [.one (.d _)]) rfl ?_)))))))))))))))))))))))
  refine ⟨?_, rfl, rfl, trivial⟩
  rw [hc]

def c_laws_markRr : C := (.g (.o 0 2 (.box 2 (.t 0)) (.o 1 4 (.mov (.i 0)) .done)) (.g (.o 0 5 (.fad (.t 2) 0) (.o 1 6 (.load (some 1) (.t 5)) (.o 2 7 (.mov (.t 1)) (.o 3 8 (.call 8 66 [(.t 6), (.t 7)]) (.o 4 1 (.mov (.t 8)) .done))))) (.g (.o 0 9 (.fad (.t 2) 4) (.o 1 10 (.load (some 1) (.t 9)) (.o 2 11 (.mov (.t 1)) (.o 3 12 (.call 12 66 [(.t 10), (.t 11)]) (.o 4 1 (.mov (.t 12)) .done))))) (.g (.o 0 13 (.fad (.t 2) 5) (.o 1 14 (.load none (.t 13)) (.o 2 15 (.mov (.t 1)) (.o 3 16 (.call 16 35 [(.t 14), (.t 15)]) (.o 4 1 (.mov (.t 16)) .done))))) (.g (.o 0 17 (.fad (.t 2) 6) (.o 1 18 (.load none (.t 17)) (.o 2 19 (.mov (.t 1)) (.o 3 20 (.call 20 68 [(.t 18), (.t 19)]) (.o 4 1 (.mov (.t 20)) .done))))) (.g (.o 0 21 (.mov (.t 1)) (.o 1 4 (.mov (.t 21)) .done)) .ret))))))
theorem dg_laws_markRr : Tryz.f18.body.bind (digC Tryz.prog Tryz.f18.ntmps []) = some c_laws_markRr := by kernel_rfl
theorem rs_laws_markRr : resSlots Tryz.prog Tryz.f18 = some [.s 4] := by kernel_rfl
theorem ok_laws_markRr (r : Rr) (k : Int) (h0 : 0 ≤ k) (hk : k + r.name.flatten.length + r.to.flatten.length + r.text.length + r.nums.length ≤ 9223372036854775807) (hs : SmallR r) :
    FnOK Tryz.prog 18 [.agg [.arr false true (encBB r.name), .d (.sc (.int .i64 r.ty)), .d (.sc (.int .i64 r.ttl)), .d (.sc (.int .i64 r.addr)), .arr false true (encBB r.to), .arr false true (encB r.text), .arr false true (Hearth.encI r.nums)], .one (.d (.sc (.int .i64 k)))]
      (fun ra os => ra = [.one (.d (.sc (.int .i64 (k + r.name.flatten.length + r.to.flatten.length + r.text.length + r.nums.length))))] ∧ outsAre [(0, encBB (markss r.name k)), (4, encBB (markss r.to (k + r.name.flatten.length))), (5, encB (marks r.text.length (k + r.name.flatten.length + r.to.flatten.length))), (6, Hearth.encI (marksI r.nums.length (k + r.name.flatten.length + r.to.flatten.length + r.text.length)))] os) := by
  refine FnOK.ofK Tryz.func18 (by kernel_rfl) dg_laws_markRr rs_laws_markRr rfl rfl ?_
  delta c_laws_markRr T.o X.i C.g
  have n1 := hs.n.len
  have t1 := hs.t.len
  have x1 := hs.x
  have m1 := hs.m
  refine Kbc (kBox Y Y Y Y Y (Ka Y (Kdb (Kc (Kf Y Y (Ke Y Y Y (Ka Y (kCallA (ok_laws_markName _ _ pr pr pr) ⟨⟨⟨⟨_, rfl, .inl rfl⟩, trivial⟩, leb⟩, rfl, trivial⟩ Y Y Y Y (Ka Y (Kdb (Kc (Kf Y Y (Ke Y Y Y (kMem [(4, ⟨0, 0, .arr true _⟩)] [(1, .c (.d _)), (10, .g [.arr 4 0]), (11, .c (.un)), (12, .c (.un))] [] ⟨Y, trivial⟩ ⟨Y, Y, Y, Y, trivial⟩ Y (Ka Y (kCallA (ok_laws_markName _ _ pr pr pr) ⟨⟨⟨⟨_, rfl, .inl rfl⟩, trivial⟩, leb⟩, rfl, trivial⟩ Y Y Y Y (Ka Y (Kdb (Kc (Kf Y Y (Ke Y Y Y (Ka Y (kCallA (ok_laws_markByteS _ _ pr pr) ⟨⟨_, rfl, .inl rfl⟩, rfl, trivial⟩ Y Y Y Y (Ka Y (Kdb (Kc (Kf Y Y (kMem [(12288, ⟨1, 0, .box [.arr 0 0, .d _, .d _, .d _, .arr 4 0, .arr 5 0, .arr 6 0]⟩), (0, ⟨0, 1, .arr true _⟩), (4, ⟨0, 1, .arr true _⟩), (5, ⟨0, 1, .arr true _⟩), (6, ⟨0, 0, .arr true _⟩)] [(17, .c (.ptr 12288 1 6)), (1, .c (.d _)), (18, .c (.un)), (19, .c (.un)), (20, .c (.un))] [] ⟨Y, Y, Y, Y, Y, trivial⟩ ⟨Y, Y, Y, Y, Y, trivial⟩ Y (Ke Y Y Y (Ka Y (kCallA (ok_laws_markIntS _ _ pr pr) ⟨⟨_, rfl, .inl rfl⟩, rfl, trivial⟩ Y Y Y Y (Ka Y (Kdb (Kc (Ka Y (Ka Y (Kd (Kr (Er (ra := [.one (.d _)]) rfl ?_)))))))))))))))))))))))))))))))))))))))
  exact ⟨rfl, rfl, rfl, rfl, rfl, trivial⟩

def c_laws_heldByteS : C := (.g (.o 0 4 (.mov (.i 0)) .done) (.seq (.g (.o 0 5 (.mov (.i 0)) .done) (.block 0 (.loop (.seq (.g (.o 0 6 (.mov (.t 5)) (.o 1 7 (.mov (.t 0)) (.o 2 8 (.len (.t 7)) (.o 3 9 (.bin .lss (.t 6) (.t 8)) .done)))) (.cond (.t 9) .skip (.exit 0))) (.seq (.block 1 (.seq (.g (.o 0 12 (.mov (.t 0)) (.o 1 13 (.mov (.t 5)) (.o 2 14 (.iad 1 (.t 12) (.t 13)) (.o 3 15 (.load none (.t 14)) (.o 4 16 (.mov (.t 1)) (.o 5 17 (.conv .u8 (.t 16)) (.o 6 18 (.bin .neq (.t 15) (.t 17)) .done))))))) (.cond (.t 18) (.g (.o 0 4 (.mov (.i (-1))) .done) .ret) .skip)) (.reg false (.o 0 19 (.mov (.t 1)) (.o 1 20 (.bin .add (.t 19) (.i 1)) (.o 2 1 (.mov (.t 20)) .done)))))) (.reg false (.o 0 10 (.mov (.t 5)) (.o 1 11 (.bin .add (.t 10) (.i 1)) (.o 2 5 (.mov (.t 11)) .done))))))))) (.g (.o 0 21 (.mov (.t 1)) (.o 1 4 (.mov (.t 21)) .done)) .ret)))
theorem dg_laws_heldByteS : Tryz.f113.body.bind (digC Tryz.prog Tryz.f113.ntmps []) = some c_laws_heldByteS := by kernel_rfl
theorem rs_laws_heldByteS : resSlots Tryz.prog Tryz.f113 = some [.s 4] := by kernel_rfl
theorem ok_laws_heldByteS (n : Nat) (k : Int) (h0 : 0 ≤ k) (hk : k + n ≤ 9223372036854775807) :
    FnOK Tryz.prog 113 [.one (.d (encB (marks n k))), .one (.d (.sc (.int .i64 k)))] (fun ra _ => ra = [.one (.d (.sc (.int .i64 (k + n))))]) := by
  refine FnOK.ofK Tryz.func113 (by kernel_rfl) dg_laws_heldByteS rs_laws_heldByteS rfl rfl ?_
  delta c_laws_heldByteS T.o X.i C.g
  have hm := marks_len n k
  refine Kbc (Ka Y (Kdb (Kbc (Ka Y (Kd (Kt ?_))))))
  refine kLoop (α := { i : Nat // i ≤ n })
    (fun y => ⟨tabSl [(0, .dv (encB (marks n k))), (1, .i (k + y.1)), (5, .i y.1)], obTab 1 [], []⟩) (fun y => n - y.1) ⟨0, by simp⟩
    .normA ?_
  rintro ⟨i, hi⟩
  simp only
  refine Kb (Kbc (Ka Y (Ka Y (Kq Y Y (Kj Y Y Y (Kd (Km Y (fun g0 => Kn (Kb (Kt (Kb (Kbc (Ka Y (Ka Y (kIadR Y Y Y om (Ky Y Y (Ka Y (kConv Y (Kj Y Y Y (Kd (kCondN Y (fun g1 => Kbc (Ka Y (Kd (Kr (Er (ra := [.one (.d _)]) rfl ?_))))) (fun g1 => Kn (Kc (Ka Y (kAdd Y Y om (Ka Y (Kd (Kv (Kc (Ka Y (kAdd Y Y om (Ka Y (Kd ?_)))))))))))))))))))))))))) (fun g0 => kExit (kExC (kExI (kExB (Kbc (Ka Y (Ka Y (Kd (Kr (Er (ra := [.one (.d _)]) rfl ?_)))))))))))))))))
  · rw [marks_get, beq_self_eq_true] at g1; cases g1
  · exact kInv ⟨⟨i + 1, by omega⟩, by simp only; omega, .normA⟩
  · rw [show i = n by omega]

def c_laws_heldByteSS : C := (.g (.o 0 4 (.mov (.i 0)) .done) (.seq (.g (.o 0 5 (.mov (.i 0)) .done) (.block 0 (.loop (.seq (.g (.o 0 6 (.mov (.t 5)) (.o 1 7 (.mov (.t 0)) (.o 2 8 (.len (.t 7)) (.o 3 9 (.bin .lss (.t 6) (.t 8)) .done)))) (.cond (.t 9) .skip (.exit 0))) (.seq (.block 1 (.g (.o 0 12 (.mov (.t 0)) (.o 1 13 (.mov (.t 5)) (.o 2 14 (.iad 1 (.t 12) (.t 13)) (.o 3 15 (.load none (.t 14)) (.o 4 16 (.mov (.t 1)) (.o 5 17 (.call 17 113 [(.t 15), (.t 16)]) (.o 6 1 (.mov (.t 17)) .done))))))) (.g (.o 0 18 (.mov (.t 1)) (.o 1 19 (.bin .lss (.t 18) (.i 0)) .done)) (.cond (.t 19) (.g (.o 0 4 (.mov (.i (-1))) .done) .ret) .skip)))) (.reg false (.o 0 10 (.mov (.t 5)) (.o 1 11 (.bin .add (.t 10) (.i 1)) (.o 2 5 (.mov (.t 11)) .done))))))))) (.g (.o 0 20 (.mov (.t 1)) (.o 1 4 (.mov (.t 20)) .done)) .ret)))
theorem dg_laws_heldByteSS : Tryz.f153.body.bind (digC Tryz.prog Tryz.f153.ntmps []) = some c_laws_heldByteSS := by kernel_rfl
theorem rs_laws_heldByteSS : resSlots Tryz.prog Tryz.f153 = some [.s 4] := by kernel_rfl
theorem ok_laws_heldByteSS (a : List (List UInt8)) (k : Int) (h0 : 0 ≤ k) (hk : k + a.flatten.length ≤ 9223372036854775807) (hl : a.length ≤ 4194304) :
    FnOK Tryz.prog 153 [.one (.d (encBB (markss a k))), .one (.d (.sc (.int .i64 k)))] (fun ra _ => ra = [.one (.d (.sc (.int .i64 (k + a.flatten.length))))]) := by
  refine FnOK.ofK Tryz.func153 (by kernel_rfl) dg_laws_heldByteSS rs_laws_heldByteSS rfl rfl ?_
  delta c_laws_heldByteSS T.o X.i C.g
  have hm := markss_len a k
  refine Kbc (Ka Y (Kdb (Kbc (Ka Y (Kd (Kt ?_))))))
  refine kLoop (α := { i : Nat // i ≤ a.length })
    (fun y => ⟨tabSl [(0, .dv (encBB (markss a k))), (1, .i (k + (a.take y.1).flatten.length)), (5, .i y.1)], obTab 1 [], []⟩) (fun y => a.length - y.1) ⟨0, by simp⟩
    .normA ?_
  rintro ⟨i, hi⟩
  simp only
  have hsuc : ∀ h : i < a.length, (a.take (i + 1)).flatten.length = (a.take i).flatten.length + a[i].length := take_flat a i
  have hle := flat_le a i
  have hle2 := flat_le a (i + 1)
  refine Kb (Kbc (Ka Y (Ka Y (Kq Y Y (Kj Y Y Y (Kd (Km Y (fun g0 => Kn (Kb (Kt (Kbc (Ka Y (Ka Y (kIadR Y Y Y om (Ky Y Y (Ka Y ?_))))))))) (fun g0 => kExit (kExC (kExI (kExB (Kbc (Ka Y (Ka Y (Kd (Kr (Er (ra := [.one (.d _)]) rfl ?_)))))))))))))))))
  · have hlt : i < a.length := by omega
    have := hsuc hlt
    rw [markss_get a k i (by omega) hlt]
    refine Ku true (ok_laws_heldByteS a[i].length (k + (a.take i).flatten.length) om om) ⟨Y, Y, trivial⟩ Y Y Y (fun _ => ?_)
    refine Ka Y (Kdb (Kc (Ka Y (Kj Y Y Y (Kd (Km Y (fun g0 => Kbc (Ka Y (Kd (Kr (Er (ra := [.one (.d _)]) rfl ?_))))) (fun g0 => Kn (Kv (Kc (Ka Y (kAdd Y Y om (Ka Y (Kd ?_)))))))))))))
    · omega
    · exact kInv ⟨⟨i + 1, by omega⟩, by simp only; omega, .normA⟩
  · rw [show i = a.length by omega, List.take_length]

def c_laws_heldName : C := (.g (.o 0 2 (.box 2 (.t 0)) (.o 1 4 (.mov (.i 0)) .done)) (.g (.o 0 5 (.fad (.t 2) 0) (.o 1 6 (.load none (.t 5)) (.o 2 7 (.mov (.t 1)) (.o 3 8 (.call 8 153 [(.t 6), (.t 7)]) (.o 4 1 (.mov (.t 8)) .done))))) (.seq (.g (.o 0 9 (.mov (.t 1)) (.o 1 10 (.bin .lss (.t 9) (.i 0)) .done)) (.cond (.t 10) (.g (.o 0 4 (.mov (.i (-1))) .done) .ret) .skip)) (.g (.o 0 11 (.mov (.t 1)) (.o 1 4 (.mov (.t 11)) .done)) .ret))))
theorem dg_laws_heldName : Tryz.f69.body.bind (digC Tryz.prog Tryz.f69.ntmps []) = some c_laws_heldName := by kernel_rfl
theorem rs_laws_heldName : resSlots Tryz.prog Tryz.f69 = some [.s 4] := by kernel_rfl
theorem ok_laws_heldName (a : List (List UInt8)) (k : Int) (h0 : 0 ≤ k) (hk : k + a.flatten.length ≤ 9223372036854775807) (hl : a.length ≤ 4194304) :
    FnOK Tryz.prog 69 [.agg [.d (encBB (markss a k))], .one (.d (.sc (.int .i64 k)))] (fun ra _ => ra = [.one (.d (.sc (.int .i64 (k + a.flatten.length))))]) := by
  refine FnOK.ofK Tryz.func69 (by kernel_rfl) dg_laws_heldName rs_laws_heldName rfl rfl ?_
  delta c_laws_heldName T.o X.i C.g
  refine Kbc (kBox Y Y Y Y Y (Ka Y (Kdb (Kc (Kf Y Y (Ke Y Y Y (Ka Y (Ku true (ok_laws_heldByteSS _ _ (by first | assumption | omega | solve_by_elim [List.getElem_mem]) (by first | assumption | omega | solve_by_elim [List.getElem_mem]) (by first | assumption | omega | solve_by_elim [List.getElem_mem])) ⟨Y, Y, trivial⟩ Y Y Y (fun _ => (Ka Y (Kdb (Kbc (Ka Y (Kj Y Y Y (Kd (Km Y (fun g0 => om) (fun g0 => Kn (Kbc (Ka Y (Ka Y (Kd (Kr (Er (ra := [.one (.d _)]) rfl rfl)))))))))))))))))))))))

def c_laws_heldIntS : C := (.g (.o 0 4 (.mov (.i 0)) .done) (.seq (.g (.o 0 5 (.mov (.i 0)) .done) (.block 0 (.loop (.seq (.g (.o 0 6 (.mov (.t 5)) (.o 1 7 (.mov (.t 0)) (.o 2 8 (.len (.t 7)) (.o 3 9 (.bin .lss (.t 6) (.t 8)) .done)))) (.cond (.t 9) .skip (.exit 0))) (.seq (.block 1 (.seq (.g (.o 0 12 (.mov (.t 0)) (.o 1 13 (.mov (.t 5)) (.o 2 14 (.iad 1 (.t 12) (.t 13)) (.o 3 15 (.load none (.t 14)) (.o 4 16 (.mov (.t 1)) (.o 5 17 (.bin .neq (.t 15) (.t 16)) .done)))))) (.cond (.t 17) (.g (.o 0 4 (.mov (.i (-1))) .done) .ret) .skip)) (.reg false (.o 0 18 (.mov (.t 1)) (.o 1 19 (.bin .add (.t 18) (.i 1)) (.o 2 1 (.mov (.t 19)) .done)))))) (.reg false (.o 0 10 (.mov (.t 5)) (.o 1 11 (.bin .add (.t 10) (.i 1)) (.o 2 5 (.mov (.t 11)) .done))))))))) (.g (.o 0 20 (.mov (.t 1)) (.o 1 4 (.mov (.t 20)) .done)) .ret)))
theorem dg_laws_heldIntS : Tryz.f154.body.bind (digC Tryz.prog Tryz.f154.ntmps []) = some c_laws_heldIntS := by kernel_rfl
theorem rs_laws_heldIntS : resSlots Tryz.prog Tryz.f154 = some [.s 4] := by kernel_rfl
theorem ok_laws_heldIntS (n : Nat) (k : Int) (h0 : 0 ≤ k) (hk : k + n ≤ 9223372036854775807) :
    FnOK Tryz.prog 154 [.one (.d (Hearth.encI (marksI n k))), .one (.d (.sc (.int .i64 k)))] (fun ra _ => ra = [.one (.d (.sc (.int .i64 (k + n))))]) := by
  refine FnOK.ofK Tryz.func154 (by kernel_rfl) dg_laws_heldIntS rs_laws_heldIntS rfl rfl ?_
  delta c_laws_heldIntS T.o X.i C.g
  have hm := marksI_len n k
  refine Kbc (Ka Y (Kdb (Kbc (Ka Y (Kd (Kt ?_))))))
  refine kLoop (α := { i : Nat // i ≤ n })
    (fun y => ⟨tabSl [(0, .dv (Hearth.encI (marksI n k))), (1, .i (k + y.1)), (5, .i y.1)], obTab 1 [], []⟩) (fun y => n - y.1) ⟨0, by simp⟩
    .normA ?_
  rintro ⟨i, hi⟩
  simp only
  rcases Nat.lt_or_ge i n with hlt | hge
  · have hg := marksI_get n k i (by omega)
    refine Kb (Kbc (Ka Y (Ka Y (Kq Y Y (Kj Y Y Y (Kd (Km Y (fun g0 => Kn (Kb (Kt (Kb (Kbc (Ka Y (Ka Y (kIadR Y Y Y om (Ky Y Y (Ka Y (Kj Y Y Y (Kd (kCondIN Y (fun g1 => om) (fun g1 => Kn (Kc (Ka Y (kAdd Y Y om (Ka Y (Kd (Kv (Kc (Ka Y (kAdd Y Y om (Ka Y (Kd ?_))))))))))))))))))))))))) (fun g0 => om))))))))
    exact kInv ⟨⟨i + 1, by omega⟩, by simp only; omega, .normA⟩
  · refine Kb (Kbc (Ka Y (Ka Y (Kq Y Y (Kj Y Y Y (Kd (Km Y (fun g0 => om) (fun g0 => kExit (kExC (kExI (kExB (Kbc (Ka Y (Ka Y (Kd (Kr (Er (ra := [.one (.d _)]) rfl ?_)))))))))))))))))
    rw [show i = n by omega]

def c_laws_heldRrS : C := (.g (.o 0 4 (.mov (.i 0)) .done) (.seq (.g (.o 0 5 (.mov (.i 0)) .done) (.block 0 (.loop (.seq (.g (.o 0 6 (.mov (.t 5)) (.o 1 7 (.mov (.t 0)) (.o 2 8 (.len (.t 7)) (.o 3 9 (.bin .lss (.t 6) (.t 8)) .done)))) (.cond (.t 9) .skip (.exit 0))) (.seq (.block 1 (.g (.o 0 12 (.mov (.t 0)) (.o 1 13 (.mov (.t 5)) (.o 2 14 (.iad 7 (.t 12) (.t 13)) (.o 3 15 (.fad (.t 14) 0) (.o 4 16 (.fad (.t 15) 0) (.o 5 17 (.load none (.t 16)) (.o 6 18 (.mov (.t 1)) (.o 7 19 (.call 19 153 [(.t 17), (.t 18)]) (.o 8 1 (.mov (.t 19)) .done))))))))) (.seq (.g (.o 0 20 (.mov (.t 1)) (.o 1 21 (.bin .lss (.t 20) (.i 0)) .done)) (.cond (.t 21) (.g (.o 0 4 (.mov (.i (-1))) .done) .ret) .skip)) (.seq (.g (.o 0 22 (.mov (.t 0)) (.o 1 23 (.mov (.t 5)) (.o 2 24 (.iad 7 (.t 22) (.t 23)) (.o 3 25 (.fad (.t 24) 1) (.o 4 26 (.load none (.t 25)) (.o 5 27 (.mov (.t 1)) (.o 6 28 (.bin .neq (.t 26) (.t 27)) .done))))))) (.cond (.t 28) (.g (.o 0 4 (.mov (.i (-1))) .done) .ret) .skip)) (.g (.o 0 29 (.mov (.t 1)) (.o 1 30 (.bin .add (.t 29) (.i 1)) (.o 2 1 (.mov (.t 30)) .done))) (.seq (.g (.o 0 31 (.mov (.t 0)) (.o 1 32 (.mov (.t 5)) (.o 2 33 (.iad 7 (.t 31) (.t 32)) (.o 3 34 (.fad (.t 33) 2) (.o 4 35 (.load none (.t 34)) (.o 5 36 (.mov (.t 1)) (.o 6 37 (.bin .neq (.t 35) (.t 36)) .done))))))) (.cond (.t 37) (.g (.o 0 4 (.mov (.i (-1))) .done) .ret) .skip)) (.g (.o 0 38 (.mov (.t 1)) (.o 1 39 (.bin .add (.t 38) (.i 1)) (.o 2 1 (.mov (.t 39)) .done))) (.seq (.g (.o 0 40 (.mov (.t 0)) (.o 1 41 (.mov (.t 5)) (.o 2 42 (.iad 7 (.t 40) (.t 41)) (.o 3 43 (.fad (.t 42) 3) (.o 4 44 (.load none (.t 43)) (.o 5 45 (.mov (.t 1)) (.o 6 46 (.bin .neq (.t 44) (.t 45)) .done))))))) (.cond (.t 46) (.g (.o 0 4 (.mov (.i (-1))) .done) .ret) .skip)) (.g (.o 0 47 (.mov (.t 1)) (.o 1 48 (.bin .add (.t 47) (.i 1)) (.o 2 1 (.mov (.t 48)) .done))) (.g (.o 0 49 (.mov (.t 0)) (.o 1 50 (.mov (.t 5)) (.o 2 51 (.iad 7 (.t 49) (.t 50)) (.o 3 52 (.fad (.t 51) 4) (.o 4 53 (.fad (.t 52) 0) (.o 5 54 (.load none (.t 53)) (.o 6 55 (.mov (.t 1)) (.o 7 56 (.call 56 153 [(.t 54), (.t 55)]) (.o 8 1 (.mov (.t 56)) .done))))))))) (.seq (.g (.o 0 57 (.mov (.t 1)) (.o 1 58 (.bin .lss (.t 57) (.i 0)) .done)) (.cond (.t 58) (.g (.o 0 4 (.mov (.i (-1))) .done) .ret) .skip)) (.g (.o 0 59 (.mov (.t 0)) (.o 1 60 (.mov (.t 5)) (.o 2 61 (.iad 7 (.t 59) (.t 60)) (.o 3 62 (.fad (.t 61) 5) (.o 4 63 (.load none (.t 62)) (.o 5 64 (.mov (.t 1)) (.o 6 65 (.call 65 113 [(.t 63), (.t 64)]) (.o 7 1 (.mov (.t 65)) .done)))))))) (.seq (.g (.o 0 66 (.mov (.t 1)) (.o 1 67 (.bin .lss (.t 66) (.i 0)) .done)) (.cond (.t 67) (.g (.o 0 4 (.mov (.i (-1))) .done) .ret) .skip)) (.g (.o 0 68 (.mov (.t 0)) (.o 1 69 (.mov (.t 5)) (.o 2 70 (.iad 7 (.t 68) (.t 69)) (.o 3 71 (.fad (.t 70) 6) (.o 4 72 (.load none (.t 71)) (.o 5 73 (.mov (.t 1)) (.o 6 74 (.call 74 154 [(.t 72), (.t 73)]) (.o 7 1 (.mov (.t 74)) .done)))))))) (.g (.o 0 75 (.mov (.t 1)) (.o 1 76 (.bin .lss (.t 75) (.i 0)) .done)) (.cond (.t 76) (.g (.o 0 4 (.mov (.i (-1))) .done) .ret) .skip)))))))))))))))) (.reg false (.o 0 10 (.mov (.t 5)) (.o 1 11 (.bin .add (.t 10) (.i 1)) (.o 2 5 (.mov (.t 11)) .done))))))))) (.g (.o 0 77 (.mov (.t 1)) (.o 1 4 (.mov (.t 77)) .done)) .ret)))
theorem dg_laws_heldRrS : Tryz.f70.body.bind (digC Tryz.prog Tryz.f70.ntmps []) = some c_laws_heldRrS := by kernel_rfl
theorem rs_laws_heldRrS : resSlots Tryz.prog Tryz.f70 = some [.s 4] := by kernel_rfl
theorem ok_laws_heldRrS (l : List Rr) (k : Int) (h0 : 0 ≤ k) (hk : k + cntRs l ≤ 9223372036854775807) (hs : SmallRs l) :
    FnOK Tryz.prog 70 [.one (.d (encR (markRs l k))), .one (.d (.sc (.int .i64 k)))] (fun ra _ => ra = [.one (.d (.sc (.int .i64 (k + cntRs l))))]) := by
  refine FnOK.ofK Tryz.func70 (by kernel_rfl) dg_laws_heldRrS rs_laws_heldRrS rfl rfl ?_
  delta c_laws_heldRrS T.o X.i C.g
  have hm := markRs_len l k
  have h1 := hs.len
  refine Kbc (Ka Y (Kdb (Kbc (Ka Y (Kd (Kt ?_))))))
  refine kLoop (α := { i : Nat // i ≤ l.length }) (fun y => ⟨tabSl [(0, .dv (encR (markRs l k))), (1, .i (k + cntRs (l.take y.1))), (5, .i y.1)], obTab 1 [], []⟩) (fun y => l.length - y.1) ⟨0, by simp⟩ .normA ?_
  rintro ⟨i, hi⟩
  simp only
  have hle := cntRs_le l i
  have hle2 := cntRs_le l (i + 1)
  rcases Nat.lt_or_ge i l.length with hlt | hge
  · have hbi := hs.mem _ (List.getElem_mem hlt)
    have n1 := hbi.n.len
    have t1 := hbi.t.len
    have hsuc := cntRs_take l i hlt
    have hrow := markRs_get l k i (by omega) hlt
    have hc : cntR l[i] = cntBB l[i].name + 3 + cntBB l[i].to + l[i].text.length + l[i].nums.length := rfl
    have hcb : cntBB l[i].name = l[i].name.flatten.length := rfl
    have hct : cntBB l[i].to = l[i].to.flatten.length := rfl
    have e1 : (markR l[i] (k + ↑(cntRs (List.take i l)))).ty = k + (cntRs (l.take i) : Int) + (l[i].name.flatten.length : Int) := rfl
    have e2 : (markR l[i] (k + ↑(cntRs (List.take i l)))).ttl = k + (cntRs (l.take i) : Int) + (l[i].name.flatten.length : Int) + 1 := rfl
    have e3 : (markR l[i] (k + ↑(cntRs (List.take i l)))).addr = k + (cntRs (l.take i) : Int) + (l[i].name.flatten.length : Int) + 1 + 1 := rfl
    refine Kb (Kbc (Ka Y (Ka Y (Kq Y Y (Kj Y Y Y (Kd (Km Y (fun g0 => Kn (Kb (Kt (Kbc (Ka Y (Ka Y (kIadRW Y Y Y om hrow (kFadD Y (kFadD Y (Ky Y Y (Ka Y (Kp (ok_laws_heldByteSS _ _ pr pr pr) ⟨Y, Y, trivial⟩ Y Y Y Y Y (Ka Y (Kdb (Kbc (Ka Y (Kj Y Y Y (Kd (Km Y (fun g1 => om) (fun g1 => Kn (Kb (Kbc (Ka Y (Ka Y (kIadRW Y Y Y om hrow (kFadD Y (Ky Y Y (Ka Y (Kj Y Y Y (Kd (kCondIN Y (fun g2 => om) (fun g2 => Kn (Kbc (Ka Y (kAdd Y Y om (Ka Y (Kdb (Kbc (Ka Y (Ka Y (kIadRW Y Y Y om hrow (kFadD Y (Ky Y Y (Ka Y (Kj Y Y Y (Kd (kCondIN Y (fun g3 => om) (fun g3 => Kn (Kbc (Ka Y (kAdd Y Y om (Ka Y (Kdb (Kbc (Ka Y (Ka Y (kIadRW Y Y Y om hrow (kFadD Y (Ky Y Y (Ka Y (Kj Y Y Y (Kd (kCondIN Y (fun g4 => om) (fun g4 => Kn (Kbc (Ka Y (kAdd Y Y om (Ka Y (Kdb (Kc (Ka Y (Ka Y (kIadRW Y Y Y om hrow (kFadD Y (kFadD Y (Ky Y Y (Ka Y (Kp (ok_laws_heldByteSS _ _ pr pr pr) ⟨Y, Y, trivial⟩ Y Y Y Y Y (Ka Y (Kdb (Kbc (Ka Y (Kj Y Y Y (Kd (Km Y (fun g5 => om) (fun g5 => Kn (Kbc (Ka Y (Ka Y (kIadRW Y Y Y om hrow (kFadD Y (Ky Y Y (Ka Y (Kp (ok_laws_heldByteS _ _ pr pr) ⟨Y, Y, trivial⟩ Y Y Y Y Y (Ka Y (Kdb (Kbc (Ka Y (Kj Y Y Y (Kd (Km Y (fun g6 => om) (fun g6 => Kn (Kbc (Ka Y (Ka Y (kIadRW Y Y Y om hrow (kFadD Y (Ky Y Y (Ka Y (Kp (ok_laws_heldIntS _ _ pr pr) ⟨Y, Y, trivial⟩ Y Y Y Y Y (Ka Y (Kdb (Kc (Ka Y (Kj Y Y Y (Kd (Km Y (fun g7 => om) (fun g7 => Kn (Kv (Kc (Ka Y (kAdd Y Y om (Ka Y (Kd ?_)))))))))))))))))))))))))))))))))))))))))))))))))))))))))))))))))))))))))))))))))))))))))))))))))))))))))))))))))))))))))))) (fun g0 => om))))))))
    exact kInv ⟨⟨i + 1, by omega⟩, by simp only; omega, .normA⟩
  · refine Kb (Kbc (Ka Y (Ka Y (Kq Y Y (Kj Y Y Y (Kd (Km Y (fun g0 => om) (fun g0 => kExit (kExC (kExI (kExB (Kbc (Ka Y (Ka Y (Kd (Kr (Er (ra := [.one (.d _)]) rfl ?_)))))))))))))))))
    rw [show i = l.length by omega, List.take_length]

def c_laws_heldZone : C := (.g (.o 0 2 (.box 2 (.t 0)) (.o 1 4 (.mov (.i 0)) .done)) (.g (.o 0 5 (.fad (.t 2) 0) (.o 1 6 (.load (some 1) (.t 5)) (.o 2 7 (.mov (.t 1)) (.o 3 8 (.call 8 69 [(.t 6), (.t 7)]) (.o 4 1 (.mov (.t 8)) .done))))) (.seq (.g (.o 0 9 (.mov (.t 1)) (.o 1 10 (.bin .lss (.t 9) (.i 0)) .done)) (.cond (.t 10) (.g (.o 0 4 (.mov (.i (-1))) .done) .ret) .skip)) (.g (.o 0 11 (.fad (.t 2) 1) (.o 1 12 (.load none (.t 11)) (.o 2 13 (.mov (.t 1)) (.o 3 14 (.call 14 70 [(.t 12), (.t 13)]) (.o 4 1 (.mov (.t 14)) .done))))) (.seq (.g (.o 0 15 (.mov (.t 1)) (.o 1 16 (.bin .lss (.t 15) (.i 0)) .done)) (.cond (.t 16) (.g (.o 0 4 (.mov (.i (-1))) .done) .ret) .skip)) (.g (.o 0 17 (.mov (.t 1)) (.o 1 4 (.mov (.t 17)) .done)) .ret))))))
theorem dg_laws_heldZone : Tryz.f19.body.bind (digC Tryz.prog Tryz.f19.ntmps []) = some c_laws_heldZone := by kernel_rfl
theorem rs_laws_heldZone : resSlots Tryz.prog Tryz.f19 = some [.s 4] := by kernel_rfl
theorem ok_laws_heldZone (z : Zone) (k : Int) (h0 : 0 ≤ k) (hk : k + cntZ z ≤ 9223372036854775807) (hs : SmallZ z) :
    FnOK Tryz.prog 19 [.agg ((markZ z k).cells.map .d), .one (.d (.sc (.int .i64 k)))] (fun ra _ => ra = [.one (.d (.sc (.int .i64 (k + cntZ z))))]) := by
  refine FnOK.ofK Tryz.func19 (by kernel_rfl) dg_laws_heldZone rs_laws_heldZone rfl rfl ?_
  delta c_laws_heldZone T.o X.i C.g
  have o1 := hs.o.len
  have o2 := hs.o.mem
  have h1 := hs.r
  have hc : k + (cntZ z : Int) = k + (z.origin.flatten.length : Int) + (cntRs z.rrs : Int) := by unfold cntZ cntBB; omega
  refine Kbc (kBox Y Y Y Y Y (Ka Y (Kdb (Kc (Kf Y Y (Ke Y Y Y (Ka Y (Kp (ok_laws_heldName _ _ pr pr pr) ⟨⟨⟨Y, trivial⟩, leb⟩, rfl, trivial⟩ Y Y Y Y Y (Ka Y (Kdb (Kbc (Ka Y (Kj Y Y Y (Kd (Km Y (fun g0 => om) (fun g0 => Kn (Kbc (Kf Y Y (Ke Y Y Y (Ka Y (Kp (ok_laws_heldRrS _ _ pr pr pr) ⟨Y, Y, trivial⟩ Y Y Y Y Y (Ka Y (Kdb (Kbc (Ka Y (Kj Y Y Y (Kd (Km Y (fun g1 => om) (fun g1 => Kn (Kbc (Ka Y (Ka Y (Kd (Kr (Er (ra := [.one (.d _)]) rfl ?_)))))))))))))))))))))))))))))))))))
  rw [hc]

theorem ext_grown {w w' : World} {M : Nat → Prop} (h : Ext w w' M) (hM : ∀ b, ¬ M b) : ∃ q os, w' = Go.Sort.grow (w.drewN q) os := by
  obtain ⟨h1, h2, h3, h4, h5, h6⟩ := h
  refine ⟨w'.drawn - w.drawn, w'.heap.extract w.heap.size w'.heap.size, ?_⟩
  have e1 : w'.heap = w.heap ++ w'.heap.extract w.heap.size w'.heap.size := by
    apply Array.ext_getElem?
    intro i
    rw [Array.getElem?_append]
    split
    · rename_i hi
      exact h5 i hi (hM i)
    · rename_i hi
      rw [Array.getElem?_extract]
      by_cases hlt : i < w'.heap.size
      · rw [if_pos (by omega), show w.heap.size + (i - w.heap.size) = i by omega]
      · rw [if_neg (by omega), Array.getElem?_eq_none (by omega)]
  have e2 : w'.drawn = w.drawn + (w'.drawn - w.drawn) := by omega
  obtain ⟨heap, tape, drawn, os, output⟩ := w'
  obtain ⟨heap0, tape0, drawn0, os0, output0⟩ := w
  simp only at e1 e2 h1 h2 h3
  subst h1 h2 h3
  simp only [Go.Sort.grow, World.drewN]
  rw [← e1, ← e2]
section
variable {α : Type} [Inhabited α] {enc : α → List Value} {k : Nat} {w : World} {blk m : Nat} {dk : Array α} {os : Array Obj}
theorem sortWorldK_same {c : Nat} (hc : c < w.heap.size) (hne : c ≠ blk) : (Go.Proofs.sortWorldK enc k w blk 0 m dk os).heap[c]? = w.heap[c]? := by
  unfold Go.Proofs.sortWorldK
  have h : c < (Go.Sort.putRowK enc k (Go.Sort.ahead w m) blk 0 dk).heap.size := by rw [show (Go.Sort.putRowK enc k (Go.Sort.ahead w m) blk 0 dk).heap.size = w.heap.size from by simp [Go.Sort.putRowK]]; exact hc
  rw [Go.Sort.heap_grow_old _ _ h]
  simp only [Go.Sort.putRowK, Go.Sort.putRow, Go.Sort.mapBlock, Go.Sort.heap_ahead, Array.getElem?_modify]
  rw [if_neg (Ne.symm hne)]
theorem sortWorldK_size : w.heap.size ≤ (Go.Proofs.sortWorldK enc k w blk 0 m dk os).heap.size := by
  unfold Go.Proofs.sortWorldK
  rw [Go.Sort.size_grow, show (Go.Sort.putRowK enc k (Go.Sort.ahead w m) blk 0 dk).heap.size = w.heap.size from by simp [Go.Sort.putRowK]]
  exact Nat.le_add_right _ _
theorem sortWorldK_row {cur : Array Value} {e : TypeId} (hb : w.heap[blk]? = some (.cells cur e (0, 0))) : (Go.Proofs.sortWorldK enc k w blk 0 m dk os).heap[blk]? = some (.cells (Go.Sort.putCells id 0 (Go.Sort.flatK enc k dk) cur) e (0, 0)) := by
  unfold Go.Proofs.sortWorldK
  have hlt : blk < w.heap.size := (Array.getElem?_eq_some_iff.1 hb).1
  have h : blk < (Go.Sort.putRowK enc k (Go.Sort.ahead w m) blk 0 dk).heap.size := by rw [show (Go.Sort.putRowK enc k (Go.Sort.ahead w m) blk 0 dk).heap.size = w.heap.size from by simp [Go.Sort.putRowK]]; exact hlt
  rw [Go.Sort.heap_grow_old _ _ h]
  simp only [Go.Sort.putRowK, Go.Sort.putRow, Go.Sort.mapBlock, Go.Sort.heap_ahead, Array.getElem?_modify, if_true, hb, Option.map_some, Go.Sort.onCells]
end
theorem putCells_size {F cur : Array Value} : (Go.Sort.putCells id 0 F cur).size = cur.size := by simp [Go.Sort.putCells]
theorem putCells_at {F cur : Array Value} {t : Nat} (h : t < F.size) (h' : F.size ≤ cur.size) : (Go.Sort.putCells id 0 F cur)[t]? = some F[t]! := by
  simp only [Go.Sort.putCells, Array.getElem?_mapIdx]
  rw [Array.getElem?_eq_getElem (by omega)]
  simp only [Option.map_some]
  rw [if_pos ⟨Nat.zero_le _, by omega⟩]
  simp
theorem sortFunc_ok {P : Program} {ρ : Go.Shelf.Ren} (L : Go.Proofs.SlLaysF0.n6 P ρ) {g : Nat} (he : Hearth.Enters P (ρ.f 6)) (hg : Hearth.Enters P g) {α : Type} (sz : Nat) (enc : α → List DV) (l : List α) (cf : α → α → Int) (dp : Bool)
    (aE : ∀ w, (isAgg (ρ.t 24)).run P w = .ok true w) (zE : ∀ w, (Go.sizeOf (ρ.t 24)).run P w = .ok sz w) (hsz : 0 < sz ∧ sz ≤ 64) (hne : l ≠ []) (hlt : l.length < 4611686018427387904)
    (hO : Go.Sort.SWO (Go.Proofs.ltOf fun i j : Fin l.length => cf l[i] l[j]))
    (hcmp : ∀ x ∈ l, ∀ y ∈ l, FnOK P g [.agg ((enc x).map .d), .agg ((enc y).map .d)] (fun ra _ => ra = [.one (.d (.sc (.int .i64 (cf x y))))])) :
    FnOK P (ρ.f 6) [.one (.arr false dp (.sl sz (l.map enc))), .one (.d (.sc (.func (.func g) #[] #[])))]
      (fun ra os => ∃ l' : List α, (l'.Perm l ∧ ∀ i j (h : i < j) (hj : j < l'.length), ¬ cf l'[j] l'[i] < 0) ∧ ra = [] ∧ os.a 0 = .sl sz (l'.map enc)) := by
  have hpos : 0 < l.length := List.length_pos_iff.2 hne
  haveI : Inhabited (Fin l.length) := ⟨⟨0, hpos⟩⟩
  refine ⟨he, fun w S Fs vs hs hv hdis hFl hS hF => ?_⟩
  have hs2 : vs.size = 2 := hs
  obtain ⟨_, hp0⟩ := (hv 0 _ vs[0] rfl (Array.getElem?_eq_getElem (by omega)))
  have hp1 : vs[1] = .func (.func g) #[] #[] := Pers.scEq (hv 1 _ vs[1] rfl (Array.getElem?_eq_getElem (by omega)))
  have hvs : vs = #[vs[0], .func (.func g) #[] #[]] := by
    apply Array.ext
    · simpa using hs2
    · intro i h1' h2'
      match i with
      | 0 => rfl
      | 1 => exact hp1
      | i + 2 => omega
  rcases hp0 with ⟨h0, _⟩ | ⟨b, cap, cur, e, us, FsN, g1, g2, g3, g4, g5, g6, g7, g8, g9, g10, g11⟩
  · exact absurd (by simpa [DV.rows] using h0) hne
  simp only [DV.rows, DV.esz] at g1 g4 g6 g7 g8 g11
  simp only [List.length_map] at g1 g4
  have hrow : ∀ i (hi : i < l.length), (l.map enc)[i]? = some (enc l[i]) := fun i hi => by simp [hi]
  have hencl : ∀ i (hi : i < l.length), (enc l[i]).length = sz := fun i hi => g7 i _ (hrow i hi)
  have hbw : b < w.heap.size := (hFl _ b g3).1
  -- the elements' cells
  let encV : Fin l.length → List Value := fun i => (List.range sz).map (us i.1)
  have hk : ∀ x, (encV x).length = sz := fun x => by simp [encV]
  have hEnc : ∀ (x : Fin l.length) (j : Nat), j < sz → (encV x)[j]? = some (us x.1 j) := fun x j hj => by simp [encV, hj]
  let d0 : Array (Fin l.length) := Array.ofFn id
  have hd0 : d0.size = l.length := by simp [d0]
  have hd0g : ∀ i (hi : i < l.length), d0[i]! = ⟨i, hi⟩ := fun i hi => by
    rw [getElem!_pos d0 i (by rw [hd0]; exact hi)]; simp [d0]
  have hcellW : ∀ t, t < l.length * sz → t / sz < l.length ∧ cur[t]? = some (us (t / sz) (t % sz)) := by
    intro t ht
    have hi : t / sz < l.length := Nat.div_lt_of_lt_mul (by rw [Nat.mul_comm]; exact ht)
    have hj : t % sz < sz := Nat.mod_lt _ hsz.1
    have := g8 (t / sz) (t % sz) _ ((enc l[t / sz])[t % sz]'(by rw [hencl _ hi]; exact hj)) (hrow _ hi) (List.getElem?_eq_getElem _)
    rw [Nat.div_add_mod' t sz] at this
    exact ⟨hi, this⟩
  have hH : Go.Sort.HoldsK encV sz w b 0 d0 := by
    intro t ht
    rw [Go.Sort.size_flatK, hd0] at ht
    obtain ⟨hi, hc⟩ := hcellW t ht
    have hj : t % sz < sz := Nat.mod_lt _ hsz.1
    refine ⟨?_, ?_⟩
    · rw [Go.Sort.get_flatK _ _ _ _ (by rw [hd0]; exact ht), hd0g _ hi, List.getElem!_of_getElem? (hEnc ⟨t / sz, hi⟩ (t % sz) hj)]
      simp only [World.cell?, g2, Nat.zero_add]
      exact hc
    · simp [World.frozen?, g2]
  have h1 : ∀ x, ∀ v ∈ encV x, v.oneCell' = true := by
    intro x v hv
    simp only [encV, List.mem_map, List.mem_range] at hv
    obtain ⟨j, hj, rfl⟩ := hv
    exact (g11 x.1 j _ _ (hrow x.1 x.2) (List.getElem?_eq_getElem (by rw [hencl x.1 x.2]; exact hj))).one
  have hS' : ∀ c, S c → c < w.heap.size ∧ c ≠ b := fun c hc => ⟨hS c hc, fun e => (hFl _ b g3).2 (e ▸ hc)⟩
  have pers : ∀ (i j : Nat) (hi : i < l.length) (d : DV), (enc l[i])[j]? = some d → ∀ W : World, (∀ c, c < w.heap.size → c ≠ b → W.heap[c]? = w.heap[c]?) → Pers W (fun c => c < w.heap.size ∧ c ≠ b) d (us i j) := by
    intro i j hi d hd W hW
    have := (g11 i j _ d (hrow i hi) hd).toPers (S' := fun c => c < w.heap.size ∧ c ≠ b) hS' (fun c hc => ⟨(hFl _ c (g9 i j c hc).1).1, (g9 i j c hc).2⟩)
    exact this.mono fun c hc => ⟨hW c hc.1 hc.2, hc⟩
  have hC : Go.Proofs.CmpLays P g #[] encV sz (fun i j => cf l[i] l[j]) b 0 d0.size w := by
    intro m os dk hdk x y
    generalize hW : Go.Proofs.sortWorldK encV sz w b 0 m dk os = W
    have hWs : ∀ c, c < w.heap.size → c ≠ b → W.heap[c]? = w.heap[c]? := fun c h1 h2 => by rw [← hW]; exact sortWorldK_same h1 h2
    have hWz : w.heap.size ≤ W.heap.size := by rw [← hW]; exact sortWorldK_size
    have one : ∀ (x : Fin l.length) (Fs' : Nat → Nat → Prop) (t : Nat), GAr P W (fun c => c < w.heap.size ∧ c ≠ b) (fun b => b < W.heap.size ∧ ∀ q, ¬ (fun _ _ => False : Nat → Nat → Prop) q b) t Fs' (.agg ((enc l[x]).map .d)) (.agg (encV x).toArray) := by
      intro x Fs' t
      refine ⟨_, rfl, by simp [hk, hencl x.1 x.2], by simp [hencl x.1 x.2]; exact hsz.2, fun k p u hp hu => ?_⟩
      simp only [List.getElem?_map, Option.map_eq_some_iff] at hp
      obtain ⟨d, hd, rfl⟩ := hp
      have hks : k < sz := by rw [← hencl x.1 x.2]; exact (List.getElem?_eq_some_iff.1 hd).1
      have : u = us x.1 k := by
        have h2 := hEnc x k hks
        simp only [List.getElem?_toArray] at hu
        rw [h2] at hu; simpa using hu.symm
      rw [this]
      exact pers x.1 k x.2 d hd W hWs
    have key := (hcmp l[x] (List.getElem_mem x.2) l[y] (List.getElem_mem y.2)).2 W (fun c => c < w.heap.size ∧ c ≠ b) (fun _ _ => False) #[.agg (encV x).toArray, .agg (encV y).toArray] rfl (fun t ga v h1 h2 => by
        match t with
        | 0 => simp at h1 h2; subst h1; subst h2; exact one x _ _
        | 1 => simp at h1 h2; subst h1; subst h2; exact one y _ _
        | t + 2 => simp at h1) (fun _ _ _ h => h.elim) (fun _ _ h => h.elim) (fun c hc => Nat.lt_of_lt_of_le hc.1 hWz) (fun _ _ h => h.elim)
    rw [Array.append_empty]
    refine key.mono ?_
    rintro e w' ⟨v, ra, os', G, rfl, rfl, hx, hf, ⟨rs, rfl, hr1, hr2⟩, _⟩
    have hr1' : rs.size = 1 := hr1
    rw [dif_pos hr1']
    have := Pers.scEq (hr2 0 _ rs[0] rfl (Array.getElem?_eq_getElem (by omega)))
    exact ⟨by rw [this], ext_grown hx (by rintro c ⟨q, h⟩; exact h)⟩
  have eg : ∀ args w, (callFunc g args).run P w = .ok (.enter g args) w := fun args w => Hearth.run_callFunc hg args
  have main := Go.Proofs.AnyQ.slices_SortFunc L sz aE zE encV hk h1 (fun i j => cf l[i] l[j]) hO g #[] b 0 cap d0 w eg hC hH hbw (by rw [hd0]; exact hlt)
  have hvs' : vs = #[.slice (some ⟨b, 0, none⟩) d0.size cap, .func (.func g) #[] #[]] := hvs.trans (by rw [g1, hd0])
  have main2 : Calls P (ρ.f 6) vs w fun e w' => e = .returned (.tuple #[]) ∧ ∃ d' n os, Go.Sort.PermIn 0 d0.size d0 d' ∧ Go.Sort.SortedIn (Go.Proofs.ltOf fun i j : Fin l.length => cf l[i] l[j]) 0 d0.size d' ∧ w' = Go.Proofs.sortWorldK encV sz w b 0 n d' os := by
    rw [hvs']; exact main
  refine main2.mono ?_
  clear main main2 hC hH
  rintro e w' ⟨rfl, d', n, os, ⟨p1, _, p3⟩, hsorted, rfl⟩
  have hn : d'.size = l.length := p1.trans hd0
  have p4 : d'.toList.Perm d0.toList := by
    have a1 : d'.extract 0 d0.size = d' := by rw [← p1]; simp
    have a2 : d0.extract 0 d0.size = d0 := by simp
    rwa [a1, a2] at p3
  have hget : ∀ i (hi : i < l.length), d'[i]! = d'[i]'(by rw [hn]; exact hi) := fun i hi => getElem!_pos d' i (by rw [hn]; exact hi)
  have hnd : d'.toList.Nodup := by
    refine p4.nodup_iff.2 ?_
    rw [List.nodup_iff_pairwise_ne, List.pairwise_iff_getElem]
    intro i j hi hj hij e
    simp [d0] at e
    omega
  have hinj : ∀ i i', i < l.length → i' < l.length → (d'[i]!).1 = (d'[i']!).1 → i = i' := by
    intro i i' hi hi' e
    rw [hget i hi, hget i' hi'] at e
    have e2 : d'.toList[i]'(by simpa [hn] using hi) = d'.toList[i']'(by simpa [hn] using hi') := by
      simp only [Array.getElem_toList]
      exact Fin.ext e
    rcases Nat.lt_trichotomy i i' with h | h | h
    · exact absurd e2 (List.pairwise_iff_getElem.1 hnd i i' _ _ h)
    · exact h
    · exact absurd e2.symm (List.pairwise_iff_getElem.1 hnd i' i _ _ h)
  let l' : List α := d'.toList.map fun i => l[i]
  have hl' : l'.length = l.length := by simp [l', hn]
  have hl'g : ∀ i (hi : i < l.length), l'[i]'(by rw [hl']; exact hi) = l[(d'[i]!).1] := by
    intro i hi
    simp only [l', List.getElem_map, Array.getElem_toList, hget i hi]
    rfl
  have hperm : l'.Perm l := by
    have h2 : (d0.toList.map fun i => l[i]) = l := by
      apply List.ext_getElem
      · simp [hd0]
      · intro i h1 h2
        simp [d0]
    have h3 := p4.map fun i : Fin l.length => l[i]
    rwa [h2] at h3
  refine ⟨.tuple #[], [], ⟨fun _ => .sl sz (l'.map enc), fun _ => []⟩, fun _ _ => False, rfl, ⟨l', ⟨hperm, fun i j h hj => ?_⟩, rfl, rfl⟩, ⟨rfl, rfl, rfl, sortWorldK_size, fun c hc hM => sortWorldK_same hc fun e => hM ⟨_, e ▸ g3⟩, Nat.le_add_right _ _⟩,
    ⟨fun _ _ _ h => h.elim, fun _ _ h => h.elim, fun _ _ h => h.elim⟩, ⟨#[], rfl, rfl, fun t a u h => by simp at h⟩, fun t k ga v p u hga hvt hp hu => ?_⟩
  · have hj' : j < l.length := hl' ▸ hj
    have := hsorted i j (Nat.zero_le _) h (by rw [hd0]; exact hj')
    simp only [Go.Proofs.ltOf, decide_eq_false_iff_not] at this
    rw [hl'g j hj', hl'g i (by omega)]
    exact this
  · match t with
    | 1 =>
      simp at hga; subst hga
      simp only [GA.at] at hp
      split at hp
      · simp at hp; subst hp; trivial
      · simp at hp
    | t + 2 => simp at hga
    | 0 =>
      simp at hga; subst hga
      simp only [GA.at] at hp
      split at hp
      · rename_i hk0
        subst hk0
        simp at hp; subst hp
        simp only at hu ⊢
        rw [hu]
        have hv0 : v = .slice (some ⟨b, 0, none⟩) l.length cap := by
          rw [Array.getElem?_eq_getElem (by omega)] at hvt
          simp at hvt
          rw [← hvt, g1]
        have hrow' : ∀ (i : Nat) (cs : List DV), (l'.map enc)[i]? = some cs → ∃ hi : i < l.length, cs = enc l[(d'[i]!).1] := by
          intro i cs h
          have hi : i < l.length := by
            have := (List.getElem?_eq_some_iff.1 h).1
            simpa [hl'] using this
          refine ⟨hi, ?_⟩
          rw [List.getElem?_map, List.getElem?_eq_getElem (by rw [hl']; exact hi), hl'g i hi] at h
          simpa using h.symm
        refine ⟨rfl, rfl, .inr ⟨b, cap, Go.Sort.putCells id 0 (Go.Sort.flatK encV sz d') cur, e, fun i j => us (d'[i]!).1 j, fun i j c => i < l.length ∧ FsN (d'[i]!).1 j c, by rw [hv0]; simp [DV.rows, hl'], sortWorldK_row g2, g3, by simpa [DV.rows, hl'] using g4, g5, by rw [putCells_size]; exact g6, ?_, ?_, fun i j c hc => g9 _ j c hc.2, ?_, ?_⟩⟩
        · intro i cs hcs
          obtain ⟨hi, rfl⟩ := hrow' i cs hcs
          exact hencl _ _
        · intro i j cs d hcs hd
          obtain ⟨hi, rfl⟩ := hrow' i cs hcs
          have hj : j < sz := by rw [← hencl (d'[i]!).1 (d'[i]!).2]; exact (List.getElem?_eq_some_iff.1 hd).1
          have ht : i * sz + j < d'.size * sz := by
            rw [hn]
            have := Nat.mul_le_mul_right sz (show i + 1 ≤ l.length from hi)
            rw [Nat.add_mul, Nat.one_mul] at this
            omega
          have hsz2 : (Go.Sort.flatK encV sz d').size ≤ cur.size := by
            rw [Go.Sort.size_flatK, hn, g6]
            exact Nat.mul_le_mul_right _ g4
          show (Go.Sort.putCells id 0 (Go.Sort.flatK encV sz d') cur)[i * sz + j]? = some (us (d'[i]!).1 j)
          rw [putCells_at (by rw [Go.Sort.size_flatK]; exact ht) hsz2, Go.Sort.get_flatK _ _ _ _ ht]
          have e1 : (i * sz + j) / sz = i := by rw [Nat.mul_comm, Nat.mul_add_div hsz.1, Nat.div_eq_of_lt hj, Nat.add_zero]
          have e2 : (i * sz + j) % sz = j := by rw [Nat.mul_comm, Nat.mul_add_mod, Nat.mod_eq_of_lt hj]
          rw [e1, e2, List.getElem!_of_getElem? (hEnc (d'[i]!) j hj)]
        · intro i j i' j' c h1 h2
          obtain ⟨e1, e2⟩ := g10 _ _ _ _ c h1.2 h2.2
          exact ⟨hinj i i' h1.1 h2.1 e1, e2⟩
        · intro i j cs d hcs hd
          obtain ⟨hi, rfl⟩ := hrow' i cs hcs
          refine (g11 (d'[i]!).1 j _ d (hrow _ (d'[i]!).2) hd).mono (fun h => h) (fun c hc => ⟨sortWorldK_same (hS' c hc).1 (hS' c hc).2, Nat.lt_of_lt_of_le (hS' c hc).1 sortWorldK_size, .inl hc, fun _ h => h⟩) _ fun c hc => ⟨sortWorldK_same (hFl _ c (g9 _ j c hc).1).1 (g9 _ j c hc).2, hi, hc⟩
      · simp at hp

def lays_slices_SortFunc_Limpl_Rr_impl_Rr_ren : Go.Shelf.Ren := ⟨fun | 6 => 149 | 15 => 232 | 14 => 231 | 28 => 295 | 29 => 296 | 20 => 287 | 21 => 288 | 22 => 289 | 23 => 290 | 24 => 291 | 25 => 292 | 26 => 293 | 27 => 294 | 46 => 325 | 47 => 326 | 48 => 327 | 49 => 328 | 50 => 329 | 57 => 347 | n => n, fun | 22 => 35 | 24 => 42 | 25 => 111 | 3 => 3 | 39 => 180 | 0 => 0 | 53 => 267 | 55 => 269 | 4 => 4 | 46 => 260 | 45 => 259 | 50 => 264 | 5 => 5 | 9 => 9 | 66 => 288 | 70 => 292 | 76 => 306 | 77 => 124 | n => n, fun | n => n⟩
theorem lays_slices_SortFunc_Limpl_Rr_impl_Rr : Go.Proofs.SlLaysF0.n6 Tryz.prog lays_slices_SortFunc_Limpl_Rr_impl_Rr_ren := {
  mixed := by kernel_rfl
  f6 := ⟨Tryz.f149.name, by decide, Tryz.func149.trans (congrArg some (by kernel_rfl))⟩
  f14 := ⟨Tryz.f231.name, by decide, Tryz.func231.trans (congrArg some (by kernel_rfl))⟩
  f15 := Tryz.func232.trans (congrArg some (by kernel_rfl))
  f20 := ⟨Tryz.f287.name, by decide, Tryz.func287.trans (congrArg some (by kernel_rfl))⟩
  f21 := ⟨Tryz.f288.name, by decide, Tryz.func288.trans (congrArg some (by kernel_rfl))⟩
  f22 := ⟨Tryz.f289.name, by decide, Tryz.func289.trans (congrArg some (by kernel_rfl))⟩
  f23 := ⟨Tryz.f290.name, by decide, Tryz.func290.trans (congrArg some (by kernel_rfl))⟩
  f24 := ⟨Tryz.f291.name, by decide, Tryz.func291.trans (congrArg some (by kernel_rfl))⟩
  f25 := ⟨Tryz.f292.name, by decide, Tryz.func292.trans (congrArg some (by kernel_rfl))⟩
  f26 := ⟨Tryz.f293.name, by decide, Tryz.func293.trans (congrArg some (by kernel_rfl))⟩
  f27 := ⟨Tryz.f294.name, by decide, Tryz.func294.trans (congrArg some (by kernel_rfl))⟩
  f28 := Tryz.func295.trans (congrArg some (by kernel_rfl))
  f29 := Tryz.func296.trans (congrArg some (by kernel_rfl))
  f46 := ⟨Tryz.f325.name, by decide, Tryz.func325.trans (congrArg some (by kernel_rfl))⟩
  f47 := Tryz.func326.trans (congrArg some (by kernel_rfl))
  f48 := Tryz.func327.trans (congrArg some (by kernel_rfl))
  f49 := ⟨Tryz.f328.name, by decide, Tryz.func328.trans (congrArg some (by kernel_rfl))⟩
  f50 := ⟨Tryz.f329.name, by decide, Tryz.func329.trans (congrArg some (by kernel_rfl))⟩
  f57 := ⟨Tryz.f347.name, by decide, Tryz.func347.trans (congrArg some (by kernel_rfl))⟩
  t0 := Tryz.underlying0
  a0 := Tryz.isAgg0
  z0 := Tryz.sizeOf0
  v0 := Tryz.zeroValue0
  t3 := Tryz.underlying3
  a3 := Tryz.isAgg3
  z3 := Tryz.sizeOf3
  v3 := Tryz.zeroValue3
  t4 := Tryz.underlying4
  a4 := Tryz.isAgg4
  z4 := Tryz.sizeOf4
  v4 := Tryz.zeroValue4
  t5 := Tryz.underlying5
  a5 := Tryz.isAgg5
  z5 := Tryz.sizeOf5
  v5 := Tryz.zeroValue5
  t9 := Tryz.underlying9
  a9 := Tryz.isAgg9
  z9 := Tryz.sizeOf9
  v9 := Tryz.zeroValue9
  t22 := Tryz.underlying35
  a22 := Tryz.isAgg35
  z22 := Tryz.sizeOf35
  v22 := Tryz.zeroValue35
  t25 := Tryz.underlying111
  a25 := Tryz.isAgg111
  z25 := Tryz.sizeOf111
  v25 := Tryz.zeroValue111
  t39 := Tryz.underlying180
  a39 := Tryz.isAgg180
  z39 := Tryz.sizeOf180
  v39 := Tryz.zeroValue180
  t45 := Tryz.underlying259
  a45 := Tryz.isAgg259
  z45 := Tryz.sizeOf259
  v45 := Tryz.zeroValue259
  t46 := Tryz.underlying260
  a46 := Tryz.isAgg260
  z46 := Tryz.sizeOf260
  v46 := Tryz.zeroValue260
  t50 := Tryz.underlying264
  a50 := Tryz.isAgg264
  z50 := Tryz.sizeOf264
  v50 := Tryz.zeroValue264
  t53 := Tryz.underlying267
  a53 := Tryz.isAgg267
  z53 := Tryz.sizeOf267
  v53 := Tryz.zeroValue267
  t55 := Tryz.underlying269
  a55 := Tryz.isAgg269
  z55 := Tryz.sizeOf269
  v55 := Tryz.zeroValue269
  t66 := Tryz.underlying288
  a66 := Tryz.isAgg288
  z66 := Tryz.sizeOf288
  v66 := Tryz.zeroValue288
  t70 := Tryz.underlying292
  a70 := Tryz.isAgg292
  z70 := Tryz.sizeOf292
  v70 := Tryz.zeroValue292
  t76 := Tryz.underlying306
  a76 := Tryz.isAgg306
  z76 := Tryz.sizeOf306
  v76 := Tryz.zeroValue306
  t77 := Tryz.underlying124
  a77 := Tryz.isAgg124
  z77 := Tryz.sizeOf124
  v77 := Tryz.zeroValue124 }
theorem ok_slices_SortFunc_Limpl_Rr_impl_Rr (l : List Rr) (dp : Bool) (hl : ∀ r ∈ l, SmallR r) (hne : l ≠ []) (hlen : l.length ≤ 4194304) :
    FnOK Tryz.prog 149 [.one (.arr false dp (encR l)), .one (.d (.sc (.func (.func 94) #[] #[])))]
      (fun ra os => ∃ l' : List Rr, (l'.Perm l ∧ ∀ i j (h : i < j) (hj : j < l'.length), ¬ cmpR l'[j] l'[i] < 0) ∧ ra = [] ∧ os.a 0 = encR l') := by
  refine sortFunc_ok (ρ := lays_slices_SortFunc_Limpl_Rr_impl_Rr_ren) lays_slices_SortFunc_Limpl_Rr_impl_Rr ⟨_, Tryz.func149, rfl, by kernel_rfl⟩ ⟨_, Tryz.func94, rfl, by kernel_rfl⟩ 7 Rr.cells l cmpR dp Tryz.isAgg42 Tryz.sizeOf42 (by decide) hne (by omega) ?_ (fun x hx y hy => ok_impl_Rr_compare x y (hl x hx) (hl y hy))
  refine ⟨fun i => ?_, fun i j k h1 h2 => ?_, fun i j k h1 h2 => ?_⟩
  · simp [Go.Proofs.ltOf, cmpR_self]
  · simp only [Go.Proofs.ltOf, decide_eq_true_eq] at h1 h2 ⊢
    exact cmpR_cmp.lt h1 h2
  · simp only [Go.Proofs.ltOf, decide_eq_false_iff_not] at h1 h2 ⊢
    have e1 := cmpR_cmp.neg l[i] l[j]
    have e2 := cmpR_cmp.neg l[j] l[k]
    have e3 := cmpR_cmp.neg l[i] l[k]
    have := cmpR_cmp.tr l[k] l[j] l[i] (by omega) (by omega)
    omega

section
variable {P : Program} {k : List It} {Q : Ex → St → Prop} {s : St} {r : T} {d : Option Nat} {q : Bool} {oi : Nat} {tags : List Nat}
theorem kCallEA {α : Type} {C : α → Prop} {f : α → List RA} {g : α → DV} {e fn : Nat} {args : List X} {gas : List GA} {p id v ev : Nat} {dp : Bool} {y : DV}
    (hok : FnOK P fn gas (fun ra' os => ∃ x, C x ∧ ra' = f x ∧ os.a p = g x)) (hm : matchGs P s (args.map s.ev) gas) (hb : callB s e (args.map s.ev) gas false = true)
    (hbs : bindGs 0 (args.map s.ev) gas = [(p, id, false)]) (ho : s.ob id = ⟨v, ev, .arr dp y⟩) (hl : ∀ x, decide ((f x).length ≤ 64) = true)
    (h : ∀ x, C x → kont P (.t r tags :: k) Q .normal ((s.after e (f x) [(p, id, false)] ⟨fun _ => g x, fun _ => []⟩).put d (resV s e (f x)))) : kont P (.t (.op oi [] d none q (.call e fn args) r) tags :: k) Q .normal s :=
  kCall false hok hm hb nofun (fun ra' _ ⟨x, _, e1, _⟩ => by rw [e1]; simpa using hl x) (fun ra' os ⟨x, hC, e1, hy⟩ => by
    subst e1
    rw [hbs, after_congr (os' := ⟨fun _ => g x, fun _ => []⟩) ho hy]
    exact h x hC)
end
theorem rd_subR {α : Type} {f : α → List DV} {l : List α} {s : St} {id ver ev i j sz : Nat} {dp : Bool} {d : DV} (ho : s.ob id = ⟨ver, ev, .arr dp (.sl sz (l.map f))⟩) (hi : i < l.length) (hd : (f l[i])[j]? = some d) : s.rd (.sub id ver ev i j) = some d := by
  simp only [St.rd, St.obj, ho, if_true]
  have h1 : (DV.sl sz (l.map f)).rows[i]? = some (f l[i]) := by simp [DV.rows, hi]
  rw [DV.at_eq h1 hd]
def withL (l : List Rr) (r : Rr) : List Rr := ((l.filter fun o => !(cmpR o r == 0)) ++ [r]).map (ttlR r)
def c_impl_Zone_with : C := (.g (.o 0 2 (.box 2 (.t 0)) (.o 1 3 (.box 3 (.t 1)) (.o 2 4 (.alloc 4 [(.n 1), (.n 7)]) .done))) (.g (.o 0 8 (.load (some 2) (.t 2)) (.o 1 9 (.clo 147 [] [(.t 3)]) (.o 2 10 (.call 10 146 [(.t 8), (.t 9)]) (.o 3 5 (.alloc 5 [(.n 1), (.n 7)]) (.op 4 [] none none false (.store (some 2) (.t 5) (.t 10)) .done))))) (.g (.o 0 11 (.fad (.t 5) 1) (.o 1 12 (.load none (.t 11)) (.o 2 13 (.load (some 7) (.t 3)) (.o 3 14 (.lit 14 7 [(.n 1), (.i 0), (.i 0), (.i 0), (.n 1), (.n 1), (.n 1)] 1 [(0, 7, (.t 13))]) (.o 4 15 (.app 15 7 120 (.t 12) (.t 14)) (.o 5 16 (.fad (.t 5) 1) (.op 6 [] none none false (.store none (.t 16) (.t 15)) .done))))))) (.seq (.g (.o 0 17 (.fad (.t 5) 1) (.o 1 18 (.load none (.t 17)) (.o 2 19 (.len (.t 18)) (.o 3 20 (.mov (.i 0)) .done)))) (.block 0 (.loop (.g (.o 0 21 (.bin .lss (.t 20) (.t 19)) .done) (.seq (.cond (.t 21) .skip (.exit 0)) (.seq (.block 1 (.g (.o 0 22 (.mov (.t 20)) (.o 1 23 (.iad 7 (.t 18) (.t 20)) (.o 2 24 (.load (some 7) (.t 23)) (.o 3 7 (.alloc 7 [(.n 1), (.i 0), (.i 0), (.i 0), (.n 1), (.n 1), (.n 1)]) (.o 4 6 (.mov (.t 22)) (.op 5 [] none none false (.store (some 7) (.t 7) (.t 24)) .done)))))) (.g (.o 0 25 (.fad (.t 7) 0) (.o 1 26 (.load (some 1) (.t 25)) (.o 2 27 (.fad (.t 3) 0) (.o 3 28 (.load (some 1) (.t 27)) (.o 4 29 (.call 29 96 [(.t 26), (.t 28)]) (.o 5 30 (.mov (.t 29)) (.op 6 [] (some 31) (some (30, true)) false (.fad (.t 7) 1) (.op 7 [] (some 32) (some (30, true)) false (.load none (.t 31)) (.op 8 [] (some 33) (some (30, true)) false (.fad (.t 3) 1) (.op 9 [] (some 34) (some (30, true)) false (.load none (.t 33)) (.op 10 [] (some 35) (some (30, true)) false (.bin .eql (.t 32) (.t 34)) (.o 11 36 (.pick (.t 30) (.t 35) (.v (.bool false))) .done)))))))))))) (.cond (.t 36) (.reg false (.o 0 37 (.fad (.t 5) 1) (.o 1 38 (.load none (.t 37)) (.o 2 39 (.mov (.t 6)) (.o 3 40 (.fad (.t 3) 2) (.o 4 41 (.load none (.t 40)) (.o 5 42 (.iad 7 (.t 38) (.t 39)) (.o 6 43 (.fad (.t 42) 2) (.op 7 [] none none false (.store none (.t 43) (.t 41)) .done))))))))) .skip)))) (.reg false (.o 0 44 (.bin .add (.t 20) (.i 1)) (.o 1 20 (.mov (.t 44)) .done))))))))) (.g (.o 0 45 (.fad (.t 5) 1) (.o 1 46 (.load none (.t 45)) (.o 2 47 (.call 47 149 [(.t 46), (.fn 94)]) .done))) (.g (.o 0 48 (.load (some 2) (.t 5)) (.op 1 [] none none false (.store (some 2) (.t 4) (.t 48)) .done)) .ret))))))
theorem dg_impl_Zone_with : Tryz.f61.body.bind (digC Tryz.prog Tryz.f61.ntmps []) = some c_impl_Zone_with := by kernel_rfl
theorem rs_impl_Zone_with : resSlots Tryz.prog Tryz.f61 = some [.m 4 (some 2)] := by kernel_rfl
theorem ok_impl_Zone_with (z : Zone) (r : Rr) (hs : SmallZ z) (hr : SmallR r) (hzb : z.rrs.length ≤ 1000000) :
    FnOK Tryz.prog 61 [.agg (z.cells.map .d), .agg (r.cells.map .d)] (fun ra _ => ∃ l : List Rr, (l.Perm (withL z.rrs r) ∧ ∀ i j (h : i < j) (hj : j < l.length), ¬ cmpR l[j] l[i] < 0) ∧ ra = [.agg [.d (encBB z.origin), .own false (encR l)]]) := by
  refine FnOK.ofK Tryz.func61 (by kernel_rfl) dg_impl_Zone_with rs_impl_Zone_with rfl rfl ?_
  delta c_impl_Zone_with T.o X.i C.g
  have hzl := hs.r.len
  have hzm := hs.r.mem
  refine Kbc (kBox Y Y Y Y Y (kBox Y Y Y Y Y (kAlloc Y Y (Kdb (Kc (Ke Y Y Y (kClo Y Y ?_)))))))
  refine Ku false (ok_impl_Zone_kept_own z SmallR (fun o => !(cmpR o r == 0)) hs hs.r.mem) ⟨⟨⟨Y, Y, trivial⟩, leb⟩, ⟨rfl, ⟨_, Tryz.func147, rfl, by kernel_rfl⟩, _, rfl, ?_⟩, trivial⟩ rfl rfl rfl fun os => ?_
  · rintro _ R ⟨x, hx, rfl, rfl⟩
    exact ⟨by rintro _ rfl; rfl, ok_impl_Zone_with_1 x r hx hr⟩
  have hfl := List.length_filter_le (fun o => !(cmpR o r == 0)) z.rrs
  refine kAlloc Y Y (kMem [(24576, ⟨1, 0, .box [.nil 1, .nil 7]⟩), (45057, ⟨1, 0, .arr false _⟩)] [(5, .c (.ptr 24576 1 0)), (10, .g [.d _, .arr 45057 1])] [] ⟨Y, Y, trivial⟩ ⟨Y, Y, trivial⟩ Y (Ko Y Y Y Y (Kdb (Kc (Kf Y Y (Ke Y Y Y (Ke Y Y Y (kLitG Y Y Y Y (kAppRec Y Y Y Y Y Y Y prl (kMem [(24576, ⟨1, 0, .box [.d _, .arr 45057 1]⟩), (45057, ⟨2, 0, .arr false _⟩)] [(5, .c (.ptr 24576 1 0)), (16, .c (.un)), (15, .c (.arr 45057 2))] [] ⟨Y, Y, trivial⟩ ⟨Y, Y, Y, trivial⟩ Y (Kf Y Y (Ko Y Y Y Y (Kdb (Kbc (Kf Y Y (Ke Y Y Y (Kq Y Y (Ka Y (Kd (Kt ?_))))))))))))))))))))
  obtain ⟨L, hL⟩ : ∃ L, L = (z.rrs.filter fun o => !(cmpR o r == 0)) ++ [r] := ⟨_, rfl⟩
  have hLs : ∀ x ∈ L, SmallR x := by
    rw [hL]
    intro x hx
    rcases List.mem_append.1 hx with hx | hx
    · exact hzm x (List.mem_filter.1 hx).1
    · simp only [List.mem_singleton] at hx; rw [hx]; exact hr
  have hLl : L.length ≤ 4194304 := by rw [hL, List.length_append, List.length_singleton]; omega
  have hLn : L ≠ [] := by rw [hL]; simp
  have hw : withL z.rrs r = L.map (ttlR r) := by rw [hL]; rfl
  rw [hw]
  refine kLoop (α := { y : Nat × List Rr // y.1 ≤ L.length ∧ y.2 = (L.take y.1).map (ttlR r) ++ L.drop y.1 }) (fun y => ⟨tabSl [(3, .c (.ptr (rid 3 0) 1 0)), (4, .c (.ptr (rid 4 0) 1 0)), (5, .c (.ptr (rid 5 0) 1 0)), (18, .c (.arr (rid 10 1) 1)), (19, .i L.length), (20, .i y.1.1)], obTab 1 [(rid 3 0, ⟨1, 0, .box (r.cells.map .d)⟩), (rid 4 0, ⟨1, 0, .box [.nil 1, .nil 7]⟩), (rid 5 0, ⟨1, 0, .box [.d (encBB z.origin), .arr (rid 10 1) 1]⟩), (rid 10 1, ⟨1, 0, .arr false (encR y.1.2)⟩)], []⟩) (fun y => L.length - y.1.1) ⟨(0, L), Nat.zero_le _, by simp⟩ (by rw [hL]; exact .normA) ?_
  rintro ⟨⟨i, V⟩, hi, hV⟩
  simp only at hi hV ⊢
  have hVl : V.length = L.length := by rw [hV]; simp; omega
  have hVs : ∀ x ∈ V, SmallR x := by
    rw [hV]
    intro x hx
    rcases List.mem_append.1 hx with hx | hx
    · obtain ⟨y, hy, rfl⟩ := List.mem_map.1 hx
      exact ttlR_small (hLs y (List.mem_of_mem_take hy))
    · exact hLs x (List.mem_of_mem_drop hx)
  rcases Nat.lt_or_ge i L.length with hlt | hge
  · have hiV : i < V.length := by omega
    have hVi : V[i] = L[i] := by
      simp only [hV]
      rw [List.getElem_append_right (by simp; omega)]
      simp; congr 1; omega
    have hsm := hVs _ (List.getElem_mem hiV)
    have hstep : V.set i (ttlR r L[i]) = (L.take (i + 1)).map (ttlR r) ++ L.drop (i + 1) := by
      rw [hV, List.set_append_right _ _ (by simp; omega)]
      rw [show i - (List.map (ttlR r) (List.take i L)).length = 0 by simp; omega, List.drop_eq_getElem_cons hlt, List.set_cons_zero, ← List.take_append_getElem hlt, List.map_append]
      simp
    have hn1 := hsm.n.len
    have hn2 := hr.n.len
    refine Kbc (Kj Y Y Y (Kdb (Km Y (fun g0 => Kn (Kb (Kt (Kbc (Ka Y (kIadAR Y Y Y Y prl (kLoadER Y Y prl rfl (kAlloc Y Y (Ka Y (kMem [(32768, ⟨2, 0, .box [.nil 1, .d _, .d _, .d _, .nil 1, .nil 1, .nil 1]⟩)] [(7, .c (.ptr 32768 2 0))] [] ⟨Y, trivial⟩ ⟨Y, trivial⟩ Y (Ko Y Y Y Y (Kdb (Kc (Kf Y Y (Ke Y Y Y (Kf Y Y (Ke Y Y Y ?_))))))))))))))))) (fun g0 => om))))
    refine Kp (ok_impl_Name_is V[i].name r.name hn1 hn2) ⟨⟨⟨rd_subR rfl hiV rfl, trivial⟩, leb⟩, ⟨⟨Y, trivial⟩, leb⟩, trivial⟩ Y Y Y Y Y ?_
    refine Ka Y (kGP Y (fun g0 => Ki Y (Kf Y Y (kMem [(16384, ⟨1, 0, .box [.d _, .d _, .d _, .d _, .d _, .d _, .d _]⟩)] [(31, .c (.ptr 32768 2 1)), (3, .c (.ptr 16384 1 0)), (30, .c (.d _))] [] ⟨Y, trivial⟩ ⟨Y, Y, Y, trivial⟩ Y (Ki Y (Ke Y Y Y (Ki Y (Kf Y Y (Ki Y (Ke Y Y Y (Ki Y (Kj Y Y Y (Kk Y (Ka Y (Kd (Km Y (fun g1 => Kc (Kf Y Y (Ke Y Y Y (Ka Y (Kf Y Y (kMem [(16384, ⟨1, 0, .box [.d _, .d _, .d _, .d _, .d _, .d _, .d _]⟩), (45057, ⟨1, 0, .arr false _⟩)] [(40, .c (.ptr 16384 1 2)), (38, .c (.arr 45057 1)), (39, .c (.d _))] [] ⟨Y, Y, trivial⟩ ⟨Y, Y, Y, trivial⟩ Y (Ke Y Y Y (kIadAR Y Y Y Y prl (kFadE Y Y ?_))))))))) (fun g1 => Kn (Kv (Kc (kAdd Y Y om (Ka Y (Kd ?_))))))))))))))))))))) (fun g0 => Kg Y (kMem [(16384, ⟨1, 0, .box [.d _, .d _, .d _, .d _, .d _, .d _, .d _]⟩)] [(31, .c (.un)), (3, .c (.ptr 16384 1 0)), (30, .c (.d _))] [] ⟨Y, trivial⟩ ⟨Y, Y, Y, trivial⟩ Y (Kg Y (Kg Y (Kg Y (Kg Y (Kl Y (Ka Y (Kd (kCondF Y (Kn (Kv (Kc (kAdd Y Y om (Ka Y (Kd ?_)))))))))))))))))
    · refine kStoreER (f := Rr.cells) (l := V) (i := i) (z := { V[i] with ttl := r.ttl }) Y Y Y Y Y Y Y hiV rfl ?_
      have he : ttlR r L[i] = { V[i] with ttl := r.ttl } := by rw [← hVi]; unfold ttlR; rw [if_pos ⟨by assumption, by assumption⟩]
      refine Kd (Kv (Kc (kAdd Y Y om (Ka Y (Kd ?_)))))
      exact kInv ⟨⟨(i + 1, V.set i { V[i] with ttl := r.ttl }), by omega, by rw [← he]; exact hstep⟩, by simp only; omega, .normA⟩
    · have he : ttlR r L[i] = L[i] := by rw [← hVi]; unfold ttlR; rw [if_neg (fun h => absurd h.2 (by assumption))]
      exact kInv ⟨⟨(i + 1, V), by omega, by rw [← hstep, he, ← hVi, List.set_getElem_self]⟩, by simp only; omega, .normA⟩
    · have he : ttlR r L[i] = L[i] := by rw [← hVi]; unfold ttlR; rw [if_neg (fun h => absurd h.1 (by assumption))]
      exact kInv ⟨⟨(i + 1, V), by omega, by rw [← hstep, he, ← hVi, List.set_getElem_self]⟩, by simp only; omega, .normA⟩
  · have hiL : i = L.length := by omega
    have hVe : V = L.map (ttlR r) := by rw [hV, hiL]; simp
    refine Kbc (Kj Y Y Y (Kdb (Km Y (fun g0 => om) (fun g0 => kExit (kExC (kExI (kExB (Kbc (Kf Y Y (Ke Y Y Y ?_))))))))))
    refine kCallEA (ok_slices_SortFunc_Limpl_Rr_impl_Rr V false hVs (by rw [hVe]; simpa using hLn) om) ⟨⟨false, rfl, .inl rfl⟩, rfl, trivial⟩ Y Y Y (fun _ => rfl) (fun l' hl' => ?_)
    rw [hVe] at hl'
    refine Kdb (Kc (Ke Y Y Y (kMem [(20480, ⟨1, 0, .box [.nil 1, .nil 7]⟩), (45057, ⟨1, 1, .arr false _⟩)] [(4, .c (.ptr 20480 1 0)), (48, .g [.d _, .arr 45057 1])] [] ⟨Y, Y, trivial⟩ ⟨Y, Y, trivial⟩ Y (Ko Y Y Y Y (Kd (kMem [(20480, ⟨1, 0, .box [.d _, .arr 45057 1]⟩), (45057, ⟨1, 1, .arr false _⟩)] [(4, .c (.ptr 20480 1 0))] [] ⟨Y, Y, trivial⟩ ⟨Y, trivial⟩ Y (Kr (Er (ra := [.agg [(.d _), (.own false _)]]) rfl ?_))))))))
    exact ⟨l', hl', rfl⟩

theorem cmpR_ttl1 (r x y : Rr) : cmpR (ttlR r x) y = cmpR x y := by
  unfold ttlR; split <;> rfl
theorem cmpR_ttl2 (r x y : Rr) : cmpR y (ttlR r x) = cmpR y x := by
  unfold ttlR; split <;> rfl
theorem addAt_true (r : Rr) : ∀ (l acc : List Rr), l.foldl (addSt r) (acc, true) = (acc ++ (l.filter fun y => cmpR r y != 0).map (ttlR r), true)
  | [], acc => by simp
  | y :: l, acc => by
    rw [List.foldl_cons]
    by_cases h : cmpR r y = 0
    · rw [show addSt r (acc, true) y = (acc, true) by simp [addSt, h], addAt_true r l, List.filter_cons]
      simp [h]
    · rw [show addSt r (acc, true) y = (acc ++ [ttlR r y], true) by simp [addSt, h], addAt_true r l, List.filter_cons]
      simp [h]
theorem sorted_map_ttl {l : List Rr} (r : Rr) (h : Sorted l) : Sorted (l.map (ttlR r)) := by
  unfold Sorted at *
  rw [List.pairwise_map]
  exact h.imp fun hab => by rw [cmpR_ttl1, cmpR_ttl2]; exact hab
theorem addAt_sorted (r : Rr) : ∀ (l acc : List Rr), Sorted acc → Sorted l → (∀ a ∈ acc, cmpR a r < 0) → (∀ a ∈ acc, ∀ x ∈ l, cmpR a x < 0) →
    Sorted (if (l.foldl (addSt r) (acc, false)).2 then (l.foldl (addSt r) (acc, false)).1 else (l.foldl (addSt r) (acc, false)).1 ++ [r])
  | [], acc, h1, _, h3, _ => by
    simp only [List.foldl_nil, Bool.false_eq_true, if_false]
    unfold Sorted at *
    rw [List.pairwise_append]
    exact ⟨h1, List.pairwise_singleton _ _, fun a ha b hb => by simp only [List.mem_singleton] at hb; rw [hb]; exact h3 a ha⟩
  | y :: l, acc, h1, h2, h3, h4 => by
    rw [List.foldl_cons]
    unfold Sorted at h2
    rw [List.pairwise_cons] at h2
    have neg := cmpR_cmp.neg r y
    by_cases hle : cmpR r y ≤ 0
    · have e : addSt r (acc, false) y = (acc ++ [r] ++ ([y].filter fun y => cmpR r y != 0).map (ttlR r), true) := by
        by_cases h : cmpR r y = 0
        · simp [addSt, h]
        · simp [addSt, h, hle]
      rw [e, addAt_true]
      simp only [if_true]
      have e2 : acc ++ [r] ++ ([y].filter fun y => cmpR r y != 0).map (ttlR r) ++ (l.filter fun y => cmpR r y != 0).map (ttlR r) = acc ++ (r :: ((y :: l).filter fun y => cmpR r y != 0).map (ttlR r)) := by
        rw [show y :: l = [y] ++ l from rfl, List.filter_append, List.map_append]; simp
      rw [e2]
      have hs : Sorted ((y :: l).filter fun y => cmpR r y != 0) := List.Pairwise.filter _ (List.pairwise_cons.2 h2)
      have hr : ∀ x ∈ ((y :: l).filter fun y => cmpR r y != 0), cmpR r x < 0 := by
        intro x hx
        obtain ⟨hx, hne⟩ := List.mem_filter.1 hx
        have hne : cmpR r x ≠ 0 := by simpa using hne
        rcases List.mem_cons.1 hx with rfl | hx
        · omega
        · exact cmpR_cmp.le_lt hle (h2.1 x hx)
      have hms := sorted_map_ttl r hs
      unfold Sorted at hms h1 ⊢
      rw [List.pairwise_append, List.pairwise_cons]
      refine ⟨h1, ⟨fun x hx => ?_, hms⟩, fun a ha x hx => ?_⟩
      · obtain ⟨u, hu, rfl⟩ := List.mem_map.1 hx
        rw [cmpR_ttl2]; exact hr u hu
      · rcases List.mem_cons.1 hx with rfl | hx
        · exact h3 a ha
        · obtain ⟨u, hu, rfl⟩ := List.mem_map.1 hx
          rw [cmpR_ttl2]; exact h4 a ha u (List.mem_filter.1 hu).1
    · have e : addSt r (acc, false) y = (acc ++ [ttlR r y], false) := by
        simp [addSt, hle, show ¬ cmpR r y = 0 by omega]
      rw [e]
      refine addAt_sorted r l _ ?_ h2.2 ?_ ?_
      · unfold Sorted at h1 ⊢
        rw [List.pairwise_append]
        exact ⟨h1, List.pairwise_singleton _ _, fun a ha b hb => by simp only [List.mem_singleton] at hb; rw [hb, cmpR_ttl2]; exact h4 a ha y (List.mem_cons_self ..)⟩
      · intro a ha
        rcases List.mem_append.1 ha with ha | ha
        · exact h3 a ha
        · simp only [List.mem_singleton] at ha; rw [ha, cmpR_ttl1]; omega
      · intro a ha x hx
        rcases List.mem_append.1 ha with ha | ha
        · exact h4 a ha x (List.mem_cons_of_mem _ hx)
        · simp only [List.mem_singleton] at ha; rw [ha, cmpR_ttl1]; exact h2.1 x hx
theorem addL_sorted {l : List Rr} (r : Rr) (h : Sorted l) : Sorted (addL l r) := by
  have := addAt_sorted r l [] List.Pairwise.nil h nofun nofun
  exact this
theorem sorted_ext : ∀ {a b : List Rr}, Sorted a → Sorted b → (∀ x, x ∈ a ↔ x ∈ b) → a = b
  | [], [], _, _, _ => rfl
  | [], y :: b, _, _, h => absurd ((h y).2 (List.mem_cons_self ..)) (by simp)
  | x :: a, [], _, _, h => absurd ((h x).1 (List.mem_cons_self ..)) (by simp)
  | x :: a, y :: b, ha, hb, h => by
    unfold Sorted at ha hb
    rw [List.pairwise_cons] at ha hb
    have hxy : x = y := by
      rcases List.mem_cons.1 ((h x).1 (List.mem_cons_self ..)) with e | hx
      · exact e
      · rcases List.mem_cons.1 ((h y).2 (List.mem_cons_self ..)) with e | hy
        · exact e.symm
        · have h1 := hb.1 x hx
          have h2 := ha.1 y hy
          have := cmpR_cmp.neg x y
          omega
    subst hxy
    rw [sorted_ext ha.2 hb.2 fun u => ⟨fun hu => ?_, fun hu => ?_⟩]
    · rcases List.mem_cons.1 ((h u).1 (List.mem_cons_of_mem _ hu)) with e | hu'
      · have := ha.1 u hu; rw [e, cmpR_self] at this; omega
      · exact hu'
    · rcases List.mem_cons.1 ((h u).2 (List.mem_cons_of_mem _ hu)) with e | hu'
      · have := hb.1 u hu; rw [e, cmpR_self] at this; omega
      · exact hu'
theorem ttlR_self (r : Rr) : ttlR r r = r := by unfold ttlR; rw [if_pos ⟨rfl, rfl⟩]
theorem with_eq {l l' : List Rr} {r : Rr} (hs : Sorted l) (hp : l'.Perm (withL l r)) (hl : ∀ i j (h : i < j) (hj : j < l'.length), ¬ cmpR l'[j] l'[i] < 0) : l' = addL l r := by
  have hw : (withL l r).Pairwise fun a b => cmpR a b ≠ 0 := by
    unfold withL
    rw [List.pairwise_map, List.pairwise_append]
    refine ⟨?_, List.pairwise_singleton _ _, fun a ha b hb => ?_⟩
    · exact (List.Pairwise.filter _ hs).imp fun hab => by rw [cmpR_ttl1, cmpR_ttl2]; omega
    · simp only [List.mem_singleton] at hb
      rw [cmpR_ttl1, cmpR_ttl2, hb]
      simpa using (List.mem_filter.1 ha).2
  have hd : l'.Pairwise fun a b => cmpR a b ≠ 0 := (hp.pairwise_iff (fun {a b} h => by have := cmpR_cmp.neg a b; omega)).2 hw
  have hs' : Sorted l' := by
    unfold Sorted
    rw [List.pairwise_iff_getElem] at hd ⊢
    intro i j hi hj hij
    have h1 := hd i j hi hj hij
    have h2 := hl i j hij hj
    have := cmpR_cmp.neg l'[i] l'[j]
    omega
  refine sorted_ext hs' (addL_sorted r hs) fun x => ?_
  rw [hp.mem_iff, mem_addL]
  unfold withL
  simp only [List.mem_map, List.mem_append, List.mem_filter, List.mem_singleton]
  constructor
  · rintro ⟨y, ⟨hy, hne⟩ | rfl, rfl⟩
    · have := cmpR_cmp.neg r y
      exact .inr ⟨y, hy, by have : cmpR y r ≠ 0 := by simpa using hne
                            omega, rfl⟩
    · exact .inl (ttlR_self _)
  · rintro (rfl | ⟨y, hy, hne, rfl⟩)
    · exact ⟨x, .inr rfl, ttlR_self _⟩
    · have := cmpR_cmp.neg r y
      exact ⟨y, .inl ⟨hy, by simp; omega⟩, rfl⟩

def c_impl_Add : C := (.g (.o 0 2 (.box 2 (.t 0)) (.o 1 3 (.box 3 (.t 1)) (.o 2 4 (.alloc 4 [(.n 1), (.n 7)]) (.o 3 5 (.mov (.v (.bool false))) .done)))) (.seq (.g (.o 0 7 (.load (some 2) (.t 2)) (.o 1 8 (.call 8 27 [(.t 7)]) (.o 2 9 (.un .not (.t 8)) (.o 3 10 (.mov (.t 9)) (.op 4 [] (some 11) (some (10, false)) false (.load (some 7) (.t 3)) (.op 5 [] (some 12) (some (10, false)) false (.call 12 60 [(.t 11)]) (.op 6 [] (some 13) (some (10, false)) false (.un .not (.t 12)) (.o 7 14 (.pick (.t 10) (.v (.bool true)) (.t 13)) .done)))))))) (.cond (.t 14) (.g (.o 0 15 (.build [(.n 1), (.n 7)] []) (.op 1 [] none none false (.store (some 2) (.t 4) (.t 15)) (.o 2 5 (.mov (.v (.bool false))) .done))) .ret) .skip)) (.seq (.g (.o 0 16 (.load (some 2) (.t 2)) (.o 1 17 (.load (some 7) (.t 3)) (.o 2 18 (.call 18 61 [(.t 16), (.t 17)]) (.o 3 6 (.alloc 6 [(.n 1), (.n 7)]) (.op 4 [] none none false (.store (some 2) (.t 6) (.t 18)) .done))))) (.g (.o 0 19 (.load (some 2) (.t 6)) (.o 1 20 (.call 20 27 [(.t 19)]) .done)) (.cond (.t 20) (.g (.o 0 21 (.load (some 2) (.t 6)) (.o 1 22 (.call 22 62 [(.t 21)]) (.op 2 [] none none false (.store (some 2) (.t 4) (.t 22)) (.o 3 5 (.mov (.v (.bool true))) .done)))) .ret) .skip))) (.g (.o 0 23 (.load (some 2) (.t 2)) (.o 1 24 (.call 24 62 [(.t 23)]) (.op 2 [] none none false (.store (some 2) (.t 4) (.t 24)) (.o 3 5 (.mov (.v (.bool false))) .done)))) .ret))))
theorem dg_impl_Add : Tryz.f14.body.bind (digC Tryz.prog Tryz.f14.ntmps []) = some c_impl_Add := by kernel_rfl
theorem rs_impl_Add : resSlots Tryz.prog Tryz.f14 = some [.m 4 (some 2), .s 5] := by kernel_rfl
theorem ok_impl_Add (z : Zone) (r : Rr) (hs : SmallZ z) (hr : SmallR r) :
    FnOK Tryz.prog 14 [.agg (z.cells.map .d), .agg (r.cells.map .d)] (fun ra _ => ra = [.agg [.own true (encBB (addN z r).origin), .own true (encR (addN z r).rrs)], .one (.d (.sc (.bool (addOk z r))))]) := by
  refine FnOK.ofK Tryz.func14 (by kernel_rfl) dg_impl_Add rs_impl_Add rfl rfl ?_
  delta c_impl_Add T.o X.i C.g
  cases a1 : zoneOk z
  · rw [show addN z r = zeroZ by unfold addN; rw [a1]; rfl, show addOk z r = false by unfold addOk; rw [a1]; rfl]
    refine Kbc (kBox Y Y Y Y Y (kBox Y Y Y Y Y (kAlloc Y Y (Ka Y (Kdb (Kbc (Ke Y Y Y (Kp (ok_impl_ZoneOk _ prx) ⟨⟨⟨Y, Y, trivial⟩, leb⟩, trivial⟩ Y Y Y Y Y (Kw Y Y (Ka Y (kMem [(16384, ⟨1, 0, .box [.d _, .d _, .d _, .d _, .d _, .d _, .d _]⟩)] [(3, .c (.ptr 16384 1 0)), (11, .c (.un)), (12, .c (.un)), (10, .c (.d _)), (13, .c (.un))] [] ⟨Y, trivial⟩ ⟨Y, Y, Y, Y, Y, trivial⟩ Y (kGN Y (fun g0 => Kg Y (Kg Y (Kg Y (Kk Y (Ka Y (Kd (kCondT Y (Kbc (kMem [(20480, ⟨1, 0, .box [.nil 1, .nil 7]⟩)] [(4, .c (.ptr 20480 1 0)), (15, .c (.un))] [] ⟨Y, trivial⟩ ⟨Y, Y, trivial⟩ Y (kBuildG Y (kMem [(20480, ⟨1, 0, .box [.nil 1, .nil 7]⟩)] [(4, .c (.ptr 20480 1 0)), (15, .g [.nil 1, .nil 7])] [] ⟨Y, trivial⟩ ⟨Y, Y, trivial⟩ Y (Ko Y Y Y Y (Ka Y (Kd (kMem [(20480, ⟨1, 0, .box [.nil 1, .nil 7]⟩)] [(4, .c (.ptr 20480 1 0)), (5, .c (.d _))] [] ⟨Y, trivial⟩ ⟨Y, Y, trivial⟩ Y (Kr (Er (ra := [.agg [(.own true _), (.own true _)], .one (.d _)]) rfl rfl))))))))))))))))) (fun g0 => (by (simp [*] at g0)))))))))))))))
  cases a2 : rrOk r
  · rw [show addN z r = zeroZ by unfold addN; rw [a1, a2]; rfl, show addOk z r = false by unfold addOk; rw [a1, a2]; rfl]
    refine Kbc (kBox Y Y Y Y Y (kBox Y Y Y Y Y (kAlloc Y Y (Ka Y (Kdb (Kbc (Ke Y Y Y (Kp (ok_impl_ZoneOk _ prx) ⟨⟨⟨Y, Y, trivial⟩, leb⟩, trivial⟩ Y Y Y Y Y (Kw Y Y (Ka Y (kMem [(16384, ⟨1, 0, .box [.d _, .d _, .d _, .d _, .d _, .d _, .d _]⟩)] [(3, .c (.ptr 16384 1 0)), (11, .c (.un)), (12, .c (.un)), (10, .c (.d _)), (13, .c (.un))] [] ⟨Y, trivial⟩ ⟨Y, Y, Y, Y, Y, trivial⟩ Y (kGN Y (fun g0 => (by (simp [*] at g0))) (fun g0 => Ki Y (Ke Y Y Y (Ki Y (Kp (ok_impl_RrOk _ prx) ⟨⟨⟨Y, Y, Y, Y, Y, Y, Y, trivial⟩, leb⟩, trivial⟩ Y Y Y Y Y (Ki Y (Kw Y Y (Kl Y (Ka Y (Kd (kCondN Y (fun g1 => Kbc (kMem [(20480, ⟨1, 0, .box [.nil 1, .nil 7]⟩)] [(4, .c (.ptr 20480 1 0)), (15, .c (.un))] [] ⟨Y, trivial⟩ ⟨Y, Y, trivial⟩ Y (kBuildG Y (kMem [(20480, ⟨1, 0, .box [.nil 1, .nil 7]⟩)] [(4, .c (.ptr 20480 1 0)), (15, .g [.nil 1, .nil 7])] [] ⟨Y, trivial⟩ ⟨Y, Y, trivial⟩ Y (Ko Y Y Y Y (Ka Y (Kd (kMem [(20480, ⟨1, 0, .box [.nil 1, .nil 7]⟩)] [(4, .c (.ptr 20480 1 0)), (5, .c (.d _))] [] ⟨Y, trivial⟩ ⟨Y, Y, trivial⟩ Y (Kr (Er (ra := [.agg [(.own true _), (.own true _)], .one (.d _)]) rfl rfl)))))))))) (fun g1 => (by (simp [*] at g1)))))))))))))))))))))))))
  have hp := zoneP.1 a1
  have hl : z.rrs.length ≤ 1000000 := by have := hp.len; omega
  have hz2 := addZ_small a1 a2
  refine Kbc (kBox Y Y Y Y Y (kBox Y Y Y Y Y (kAlloc Y Y (Ka Y (Kdb (Kbc (Ke Y Y Y (Kp (ok_impl_ZoneOk _ prx) ⟨⟨⟨Y, Y, trivial⟩, leb⟩, trivial⟩ Y Y Y Y Y (Kw Y Y (Ka Y (kMem [(16384, ⟨1, 0, .box [.d _, .d _, .d _, .d _, .d _, .d _, .d _]⟩)] [(3, .c (.ptr 16384 1 0)), (11, .c (.un)), (12, .c (.un)), (10, .c (.d _)), (13, .c (.un))] [] ⟨Y, trivial⟩ ⟨Y, Y, Y, Y, Y, trivial⟩ Y (kGN Y (fun g0 => (by (simp [*] at g0))) (fun g0 => Ki Y (Ke Y Y Y (Ki Y (Kp (ok_impl_RrOk _ prx) ⟨⟨⟨Y, Y, Y, Y, Y, Y, Y, trivial⟩, leb⟩, trivial⟩ Y Y Y Y Y (Ki Y (Kw Y Y (Kl Y (Ka Y (Kd (kCondN Y (fun g1 => (by (simp [*] at g1))) (fun g1 => Kn (Kb (Kbc (Ke Y Y Y (Ke Y Y Y (kCallX false (ok_impl_Zone_with _ _ prx prx prx) ⟨⟨⟨Y, Y, trivial⟩, leb⟩, ⟨⟨Y, Y, Y, Y, Y, Y, Y, trivial⟩, leb⟩, trivial⟩ Y (fun _ => rfl) (fun _ => rfl) (fun x2 _ hx2 => (kMem [(77825, ⟨1, 0, .arr false _⟩)] [(6, .c (.un)), (18, .g [.d _, .arr 77825 1])] [] ⟨Y, trivial⟩ ⟨Y, Y, trivial⟩ Y (kAlloc Y Y (kMem [(28672, ⟨1, 0, .box [.nil 1, .nil 7]⟩), (77825, ⟨1, 0, .arr false _⟩)] [(6, .c (.ptr 28672 1 0)), (18, .g [.d _, .arr 77825 1])] [] ⟨Y, Y, trivial⟩ ⟨Y, Y, trivial⟩ Y (Ko Y Y Y Y (Kdb (Kc (Ke Y Y Y ?_))))))))))))))))))))))))))))))))))))
  have e2 := with_eq hp.sorted hx2.1 hx2.2
  subst e2
  refine Kp (ok_impl_ZoneOk (addZ z r) hz2) ⟨⟨⟨Y, Y, trivial⟩, leb⟩, trivial⟩ Y Y Y Y Y ?_
  cases a3 : zoneOk (addZ z r)
  · rw [show addN z r = z by unfold addN; rw [a1, a2, a3]; rfl, show addOk z r = false by unfold addOk; rw [a1, a2, a3]; rfl]
    refine Kd (kCondF Y (Kn (Kbc (Ke Y Y Y (Ku true (ok_impl_Zone_copied _ prx) ⟨⟨⟨Y, Y, trivial⟩, leb⟩, trivial⟩ Y Y Y (fun _ => (kMem [(20480, ⟨1, 0, .box [.nil 1, .nil 7]⟩), (102400, ⟨1, 0, .arr true _⟩), (102401, ⟨1, 0, .arr true _⟩)] [(4, .c (.ptr 20480 1 0)), (24, .g [.arr 102400 1, .arr 102401 1])] [] ⟨Y, Y, Y, trivial⟩ ⟨Y, Y, trivial⟩ Y (Ko Y Y Y Y (Ka Y (Kd (kMem [(20480, ⟨1, 0, .box [.arr 102400 1, .arr 102401 1]⟩), (102400, ⟨1, 0, .arr true _⟩), (102401, ⟨1, 0, .arr true _⟩)] [(4, .c (.ptr 20480 1 0)), (5, .c (.d _))] [] ⟨Y, Y, Y, trivial⟩ ⟨Y, Y, trivial⟩ Y (Kr (Er (ra := [.agg [(.own true _), (.own true _)], .one (.d _)]) rfl rfl)))))))))))))
  · rw [show addN z r = addZ z r by unfold addN; rw [a1, a2, a3]; rfl, show addOk z r = true by unfold addOk; rw [a1, a2, a3]; rfl]
    refine Kd (kCondT Y (Kbc (Ke Y Y Y ?_)))
    refine Ku true (ok_impl_Zone_copied (addZ z r) hz2) ⟨⟨⟨Y, Y, trivial⟩, leb⟩, trivial⟩ Y Y Y (fun _ => ?_)
    refine kMem [(20480, ⟨1, 0, .box [.nil 1, .nil 7]⟩), (94208, ⟨1, 0, .arr true _⟩), (94209, ⟨1, 0, .arr true _⟩)] [(4, .c (.ptr 20480 1 0)), (22, .g [.arr 94208 1, .arr 94209 1])] [] ⟨Y, Y, Y, trivial⟩ ⟨Y, Y, trivial⟩ Y (Ko Y Y Y Y (Ka Y (Kd (kMem [(20480, ⟨1, 0, .box [.arr 94208 1, .arr 94209 1]⟩), (94208, ⟨1, 0, .arr true _⟩), (94209, ⟨1, 0, .arr true _⟩)] [(4, .c (.ptr 20480 1 0)), (5, .c (.d _))] [] ⟨Y, Y, Y, trivial⟩ ⟨Y, Y, trivial⟩ Y (Kr (Er (ra := [.agg [(.own true _), (.own true _)], .one (.d _)]) rfl rfl))))))

end Go.Proofs.YtdfcphdolipapaaGreat.FnExactAddFn
