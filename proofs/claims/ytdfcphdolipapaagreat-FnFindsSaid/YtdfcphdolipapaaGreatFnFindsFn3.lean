/- What the functions that FnFinds reaches compute, one contract each; each with the bounds that it states. -/
import Derived.Test.YtdfcphdolipapaaGreatFnFindsFn2
import Derived.Test.YtdfcphdolipapaaGreatProg
import Derived.KernelRfl
set_option maxRecDepth 100000
set_option maxHeartbeats 8000000
set_option linter.unusedVariables false
set_option linter.unusedSimpArgs false
namespace Go.Proofs.YtdfcphdolipapaaGreat.FnFindsFn
open Go Hearth Go.Proofs

def c_impl_Msg_wire : C := (.g (.o 0 1 (.box 1 (.t 0)) (.o 1 2 (.mov (.n 1)) .done)) (.g (.o 0 15 (.fad (.t 1) 2) (.o 1 16 (.load none (.t 15)) (.o 2 17 (.bin .shl (.t 16) (.v (.int .u64 11))) (.o 3 18 (.fad (.t 1) 4) (.o 4 19 (.load none (.t 18)) (.o 5 20 (.bin .or (.t 17) (.t 19)) (.o 6 3 (.mov (.t 20)) .done))))))) (.seq (.g (.o 0 21 (.fad (.t 1) 1) (.o 1 22 (.load none (.t 21)) .done)) (.cond (.t 22) (.reg false (.o 0 23 (.mov (.t 3)) (.o 1 24 (.bin .or (.t 23) (.i 32768)) (.o 2 3 (.mov (.t 24)) .done)))) .skip)) (.seq (.g (.o 0 25 (.fad (.t 1) 3) (.o 1 26 (.load none (.t 25)) .done)) (.cond (.t 26) (.reg false (.o 0 27 (.mov (.t 3)) (.o 1 28 (.bin .or (.t 27) (.i 1024)) (.o 2 3 (.mov (.t 28)) .done)))) .skip)) (.g (.o 0 29 (.lit 29 1 [(.v (.int .u8 0))] 0 []) (.o 1 4 (.mov (.t 29)) .done)) (.seq (.g (.o 0 30 (.fad (.t 1) 0) (.o 1 31 (.load none (.t 30)) (.o 2 32 (.mov (.t 3)) (.o 3 33 (.fad (.t 1) 6) (.o 4 34 (.load none (.t 33)) (.o 5 35 (.len (.t 34)) (.o 6 36 (.fad (.t 1) 9) (.o 7 37 (.load none (.t 36)) (.o 8 38 (.len (.t 37)) (.o 9 39 (.bin .add (.t 35) (.t 38)) (.o 10 40 (.fad (.t 1) 7) (.o 11 41 (.load none (.t 40)) (.o 12 42 (.len (.t 41)) (.o 13 43 (.fad (.t 1) 10) (.o 14 44 (.load none (.t 43)) (.o 15 45 (.len (.t 44)) (.o 16 46 (.bin .add (.t 42) (.t 45)) (.o 17 47 (.fad (.t 1) 8) (.o 18 48 (.load none (.t 47)) (.o 19 49 (.len (.t 48)) (.o 20 50 (.lit 50 1 [(.i 0)] 6 [(0, 1, (.t 31)), (1, 1, (.t 32)), (2, 1, (.i 1)), (3, 1, (.t 39)), (4, 1, (.t 46)), (5, 1, (.t 49))]) (.o 21 51 (.len (.t 50)) (.o 22 52 (.mov (.i 0)) .done))))))))))))))))))))))) (.block 0 (.loop (.g (.o 0 53 (.bin .lss (.t 52) (.t 51)) .done) (.seq (.cond (.t 53) .skip (.exit 0)) (.seq (.block 1 (.g (.o 0 54 (.iad 1 (.t 50) (.t 52)) (.o 1 55 (.load none (.t 54)) (.o 2 6 (.mov (.t 55)) .done))) (.reg false (.o 0 56 (.mov (.t 4)) (.o 1 57 (.mov (.t 6)) (.o 2 58 (.call 58 261 [(.t 57)]) (.o 3 59 (.app 59 1 1 (.t 56) (.t 58)) (.o 4 4 (.mov (.t 59)) .done)))))))) (.reg false (.o 0 60 (.bin .add (.t 52) (.i 1)) (.o 1 52 (.mov (.t 60)) .done))))))))) (.seq (.reg true (.op 0 [] (some 61) none true (.mov (.t 4)) (.op 1 [] (some 62) none true (.fad (.t 1) 5) (.op 2 [] (some 63) none true (.load none (.t 62)) (.op 3 [] (some 64) none true (.iad 2 (.t 63) (.i 0)) (.op 4 [] (some 65) none true (.fad (.t 64) 0) (.op 5 [] (some 66) none true (.load (some 1) (.t 65)) (.op 7 [] (some 68) none true (.fad (.t 1) 5) (.op 8 [] (some 69) none true (.load none (.t 68)) (.op 9 [] (some 70) none true (.iad 2 (.t 69) (.i 0)) (.op 10 [] (some 71) none true (.fad (.t 70) 1) (.op 11 [] (some 72) none true (.load none (.t 71)) (.op 6 [5, 2] (some 67) none false (.call 67 247 [(.t 66)]) (.op 12 [11, 8, 5, 2] (some 73) none false (.call 73 261 [(.t 72)]) (.op 13 [11, 8, 5, 2] (some 74) none false (.call 74 261 [(.i 1)]) (.op 14 [5, 2, 11, 8] (some 75) none false (.lit 75 1 [(.n 1)] 4 [(0, 1, (.t 61)), (1, 1, (.t 67)), (2, 1, (.t 73)), (3, 1, (.t 74))]) (.op 15 [5, 2, 11, 8] (some 76) none false (.call 76 201 [(.t 75)]) (.op 16 [] (some 4) none true (.mov (.t 76)) .done)))))))))))))))))) (.seq (.g (.o 0 77 (.fad (.t 1) 9) (.o 1 78 (.load none (.t 77)) (.o 2 79 (.fad (.t 1) 10) (.o 3 80 (.load none (.t 79)) (.o 4 81 (.lit 81 1 [(.n 9)] 2 [(0, 1, (.t 78)), (1, 1, (.t 80))]) (.o 5 82 (.len (.t 81)) (.o 6 83 (.mov (.i 0)) .done))))))) (.block 2 (.loop (.g (.o 0 84 (.bin .lss (.t 83) (.t 82)) .done) (.seq (.cond (.t 84) .skip (.exit 2)) (.seq (.block 3 (.g (.o 0 85 (.iad 1 (.t 81) (.t 83)) (.o 1 86 (.load none (.t 85)) (.o 2 8 (.mov (.t 86)) .done))) (.g (.o 0 87 (.mov (.t 8)) (.o 1 88 (.len (.t 87)) (.o 2 89 (.mov (.i 0)) .done))) (.block 4 (.loop (.g (.o 0 90 (.bin .lss (.t 89) (.t 88)) .done) (.seq (.cond (.t 90) .skip (.exit 4)) (.seq (.block 5 (.g (.o 0 91 (.iad 9 (.t 87) (.t 89)) (.o 1 92 (.load (some 9) (.t 91)) (.o 2 10 (.alloc 10 [(.n 1), (.i 0), (.i 0), (.i 0), (.n 1), (.n 1), (.n 1), (.i 0), (.v (.bool false))]) (.op 3 [] none none false (.store (some 9) (.t 10) (.t 92)) .done)))) (.reg false (.o 0 93 (.mov (.t 4)) (.o 1 94 (.load (some 9) (.t 10)) (.o 2 95 (.call 95 262 [(.t 94)]) (.o 3 96 (.app 96 1 1 (.t 93) (.t 95)) (.o 4 4 (.mov (.t 96)) .done)))))))) (.reg false (.o 0 97 (.bin .add (.t 89) (.i 1)) (.o 1 89 (.mov (.t 97)) .done))))))))))) (.reg false (.o 0 98 (.bin .add (.t 83) (.i 1)) (.o 1 83 (.mov (.t 98)) .done))))))))) (.seq (.g (.o 0 99 (.fad (.t 1) 6) (.o 1 100 (.load none (.t 99)) (.o 2 101 (.fad (.t 1) 7) (.o 3 102 (.load none (.t 101)) (.o 4 103 (.fad (.t 1) 8) (.o 5 104 (.load none (.t 103)) (.o 6 105 (.lit 105 1 [(.n 7)] 3 [(0, 1, (.t 100)), (1, 1, (.t 102)), (2, 1, (.t 104))]) (.o 7 106 (.len (.t 105)) (.o 8 107 (.mov (.i 0)) .done))))))))) (.block 6 (.loop (.g (.o 0 108 (.bin .lss (.t 107) (.t 106)) .done) (.seq (.cond (.t 108) .skip (.exit 6)) (.seq (.block 7 (.g (.o 0 109 (.iad 1 (.t 105) (.t 107)) (.o 1 110 (.load none (.t 109)) (.o 2 12 (.mov (.t 110)) .done))) (.g (.o 0 111 (.mov (.t 12)) (.o 1 112 (.len (.t 111)) (.o 2 113 (.mov (.i 0)) .done))) (.block 8 (.loop (.g (.o 0 114 (.bin .lss (.t 113) (.t 112)) .done) (.seq (.cond (.t 114) .skip (.exit 8)) (.seq (.block 9 (.g (.o 0 115 (.iad 7 (.t 111) (.t 113)) (.o 1 116 (.load (some 7) (.t 115)) (.o 2 14 (.alloc 14 [(.n 1), (.i 0), (.i 0), (.i 0), (.n 1), (.n 1), (.n 1)]) (.op 3 [] none none false (.store (some 7) (.t 14) (.t 116)) .done)))) (.reg false (.o 0 117 (.mov (.t 4)) (.o 1 118 (.load (some 7) (.t 14)) (.o 2 119 (.call 119 263 [(.t 118)]) (.o 3 120 (.app 120 1 1 (.t 117) (.t 119)) (.o 4 4 (.mov (.t 120)) .done)))))))) (.reg false (.o 0 121 (.bin .add (.t 113) (.i 1)) (.o 1 113 (.mov (.t 121)) .done))))))))))) (.reg false (.o 0 122 (.bin .add (.t 107) (.i 1)) (.o 1 107 (.mov (.t 122)) .done))))))))) (.g (.o 0 123 (.mov (.t 4)) (.o 1 2 (.mov (.t 123)) .done)) .ret))))))))))
theorem dg_impl_Msg_wire : Tryz.f199.body.bind (digC Tryz.prog Tryz.f199.ntmps []) = some c_impl_Msg_wire := by kernel_rfl
theorem rs_impl_Msg_wire : resSlots Tryz.prog Tryz.f199 = some [.s 2] := by kernel_rfl
theorem ok_impl_Msg_wire (m : Msg) (hs : SmallM m) (hk : msgMay m = true) :
  FnOK Tryz.prog 199 [.agg (m.cells.map .d)] (fun ra _ => ra = [.one (.own true (encB (msgB m (flagsI m) ((m.an.length : Int) + m.pr.length) ((m.au.length : Int) + m.up.length))))]) := by
 refine FnOK.ofK Tryz.func199 (by kernel_rfl) dg_impl_Msg_wire rs_impl_Msg_wire rfl rfl ?_
 delta c_impl_Msg_wire T.o X.i C.g
 have p := MayP.of hk
 have b1 := hs.q
 have b2 := hs.a
 have b3 := hs.b
 have b4 := hs.c
 have b5 := hs.p
 have b6 := hs.u
 obtain ⟨p1, p2⟩ := p.id
 obtain ⟨p3, p4⟩ := p.cd
 have p5 := p.q1
 have p6 := p.qn
 obtain ⟨p7, p8⟩ := p.qt
 obtain ⟨p9, p10⟩ := p.an
 obtain ⟨p11, p12⟩ := p.au
 obtain ⟨p13, p14⟩ := p.mo
 obtain ⟨p15, p16⟩ := p.pr
 obtain ⟨p17, p18⟩ := p.up
 have hop : m.op = 0 ∨ m.op = 5 := p.op.imp (fun h => h.1) (fun h => h.1)
 refine Kb (kCut ⟨tabSl [(1, .c (.ptr (rid 1 0) 1 0)), (2, .c (.nil 1))], obTab 1 [(rid 1 0, ⟨1, 0, .box (m.cells.map .d)⟩)], []⟩ ?_ (fun x hc => ?_))
 case refine_2 => refine kReg (kBox rfl rfl rfl rfl rfl (kMovC rfl (kDone (hc _ .normA))))
 refine Kb (kCut ⟨tabSl [(1, .c (.ptr (rid 1 0) 1 0)), (2, .c (.nil 1)), (3, .i (orI (m.op * 2048) m.code))], obTab 1 [(rid 1 0, ⟨1, 0, .box (m.cells.map .d)⟩)], []⟩ ?_ (fun x hc => ?_))
 case refine_2 =>
  refine Kc (Kf Y Y (Ke Y Y Y (kShl11 Y Y om ?_)))
  refine Kf Y Y (Ke Y Y Y (Kj Y Y Y (Ka Y (Kd (hc _ .normA)))))
 refine Kb (kCut ⟨tabSl [(1, .c (.ptr (rid 1 0) 1 0)), (2, .c (.nil 1)), (3, .i (if m.reply then orI (orI (m.op * 2048) m.code) 32768 else orI (m.op * 2048) m.code))], obTab 1 [(rid 1 0, ⟨1, 0, .box (m.cells.map .d)⟩)], []⟩ ?_ (fun x hc => ?_))
 case refine_2 =>
  revert hc
  cases hr : m.reply
  ·intro hc
   refine Kbc (Kf Y Y (Ke Y Y Y (Kd (kCond Y (fun g0 => (by (simp [*] at g0))) (fun g0 => Kn (hc _ .normA))))))
  ·intro hc
   refine Kbc (Kf Y Y (Ke Y Y Y (Kd (kCond Y (fun g0 => Kc (Ka Y (Kj Y Y Y (Ka Y (Kd (hc _ .normA)))))) (fun g0 => (by (simp [*] at g0)))))))
 refine Kb (kCut ⟨tabSl [(1, .c (.ptr (rid 1 0) 1 0)), (2, .c (.nil 1)), (3, .i (flagsI m))], obTab 1 [(rid 1 0, ⟨1, 0, .box (m.cells.map .d)⟩)], []⟩ ?_ (fun x hc => ?_))
 case refine_2 =>
  revert hc
  unfold flagsI
  cases hr : m.auth
  ·intro hc
   refine Kbc (Kf Y Y (Ke Y Y Y (Kd (kCond Y (fun g0 => (by (simp [*] at g0))) (fun g0 => Kn (hc _ .normA))))))
  ·intro hc
   refine Kbc (Kf Y Y (Ke Y Y Y (Kd (kCond Y (fun g0 => Kc (Ka Y (Kj Y Y Y (Ka Y (Kd (hc _ .normA)))))) (fun g0 => (by (simp [*] at g0)))))))
 generalize flagsI m = F at *
 have hq0 : 0 < m.qs.length := by omega
 have hqd : m.qs.getD 0 ⟨[], 0⟩ = m.qs[0] := by simp [List.getD_eq_getElem?_getD, hq0]
 rw [hqd] at p6 p7 p8
 have hqs := b1.mem _ (List.getElem_mem hq0)
 have hqw := wireN_small p6
 refine Kb (kCut ⟨tabSl [(1, .c (.ptr (rid 1 0) 1 0)), (2, .c (.nil 1)), (3, .i F), (4, .c (.arr (rid 29 0) 1))], obTab 1 [(rid 1 0, ⟨1, 0, .box (m.cells.map .d)⟩), (rid 29 0, ⟨1, 0, .arr true (encB ([]))⟩)], []⟩ ?_ (fun x hc => ?_))
 case refine_2 => refine kReg (kLitG rfl rfl rfl rfl (kMovC rfl (kDone (hc _ .normA))))
 refine Kb (kCut ⟨tabSl [(1, .c (.ptr (rid 1 0) 1 0)), (2, .c (.nil 1)), (4, .c (.arr (rid 5000 0) 1))], obTab 1 [(rid 1 0, ⟨1, 0, .box (m.cells.map .d)⟩), (rid 5000 0, ⟨1, 0, .arr true (encB (w2 m.id ++ w2 F ++ w2 1 ++ w2 ((m.an.length : Int) + m.pr.length) ++ w2 ((m.au.length : Int) + m.up.length) ++ w2 m.mo.length))⟩)], []⟩ ?_ (fun x hc => ?_))
 case refine_2 =>
  refine Kbc (Kf Y Y (Ke Y Y Y (Ka Y (Kf Y Y (Ke Y Y Y (Kq Y Y (Kf Y Y (Ke Y Y Y (Kq Y Y (kAdd Y Y om (Kf Y Y (Ke Y Y Y (Kq Y Y (Kf Y Y (Ke Y Y Y (Kq Y Y (kAdd Y Y om (Kf Y Y (Ke Y Y Y (Kq Y Y (kLitG Y Y Y Y (kLen Y Y Y (Ka Y (Kd (Kt ?_)))))))))))))))))))))))))
  refine kLoop (α := { i : Nat // i ≤ 6 }) (fun y => ⟨tabSl [(1, .c (.ptr (rid 1 0) 1 0)), (2, .c (.nil 1)), (4, .c (.arr (rid 5000 0) 1)), (50, .dv (encI [m.id, F, 1, (m.an.length : Int) + m.pr.length, (m.au.length : Int) + m.up.length, m.mo.length])), (51, .i 6), (52, .i y.1)], obTab 1 [(rid 1 0, ⟨1, 0, .box (m.cells.map .d)⟩), (rid 5000 0, ⟨1, 0, .arr true (encB (([m.id, F, 1, (m.an.length : Int) + m.pr.length, (m.au.length : Int) + m.up.length, (m.mo.length : Int)].take y.1).flatMap w2))⟩)], []⟩) (fun y => 6 - y.1) ⟨0, by simp⟩ (by
   refine Sub.trans (Sub.frz (j := 50) (id := rid 50 0) rfl rfl (by decide)) ?_
   refine Sub.trans (Sub.renSlot 4 (rid 29 0) (rid 5000 0) rfl rfl rfl rfl) ?_
   exact .normA) ?_
  rintro ⟨i, hi⟩
  simp only
  have hl6 : ([m.id, F, 1, (m.an.length : Int) + m.pr.length, (m.au.length : Int) + m.up.length, (m.mo.length : Int)]).length = 6 := rfl
  have hle : (([m.id, F, 1, (m.an.length : Int) + m.pr.length, (m.au.length : Int) + m.up.length, (m.mo.length : Int)].take i).flatMap w2).length ≤ 12 := by
   refine Nat.le_trans (flatMap_le (k := 2) fun x _ => by rw [w2_len]; exact Nat.le_refl _) ?_
   simp only [List.length_take]; omega
  rcases Nat.lt_or_ge i 6 with hlt | hge
  ·have hst := flatMap_take w2 [m.id, F, 1, (m.an.length : Int) + m.pr.length, (m.au.length : Int) + m.up.length, (m.mo.length : Int)] i hlt
   refine Kbc (Kj Y Y Y (Kdb (Km Y (fun g0 => Kn (Kb (Kt (Kbc (kIadR Y Y Y prl (Ky Y Y (Ka Y (Kd (Kc (Ka Y (Ka Y (Ku true (ok_impl_two _) ⟨Y, trivial⟩ Y Y Y (fun _ => (kAppR2 Y Y Y Y Y Y Y Y prl (Ka Y (Kd (Kv (Kc (kAdd Y Y om (Ka Y (Kd ?_))))))))))))))))))))) (fun g0 => om))))
   refine kInv ⟨⟨i + 1, hlt⟩, by simp only; omega, ?_⟩
   simp only [hst]
   exact .normA
  ·refine Kbc (Kj Y Y Y (Kdb (Km Y (fun g0 => om) (fun g0 => kExit (kExC (kExI (kExB ?_)))))))
   refine hc _ ?_
   rw [show i = 6 by omega, show ([m.id, F, 1, (m.an.length : Int) + m.pr.length, (m.au.length : Int) + m.up.length, (m.mo.length : Int)].take 6).flatMap w2 = w2 m.id ++ w2 F ++ w2 1 ++ w2 ((m.an.length : Int) + m.pr.length) ++ w2 ((m.au.length : Int) + m.up.length) ++ w2 m.mo.length by simp [List.flatMap_cons]]
   exact .normA
 refine Kb (kCut ⟨tabSl [(1, .c (.ptr (rid 1 0) 1 0)), (2, .c (.nil 1)), (4, .c (.arr (rid 76 0) 1))], obTab 1 [(rid 1 0, ⟨1, 0, .box (m.cells.map .d)⟩), (rid 76 0, ⟨1, 0, .arr true (encB (headB m F ((m.an.length : Int) + m.pr.length) ((m.au.length : Int) + m.up.length)))⟩)], []⟩ ?_ (fun x hc => ?_))
 case refine_2 =>
  refine kRegD (Ka Y (Kf Y Y (Ke Y Y Y (kIadR (m := 0) Y Y Y prl (kFadD Y (Ky Y Y (Kf Y Y (Ke Y Y Y (kIadR (m := 0) Y Y Y prl (kFadD Y (Ky Y Y (Kx Y Y (Ku true (ok_impl_Name_wire _ prx) ⟨⟨⟨Y, trivial⟩, leb⟩, trivial⟩ Y Y Y (fun _ => (Ks Y Y (Ku true (ok_impl_two _) ⟨Y, trivial⟩ Y Y Y (fun _ => (Ks Y Y (Ku true (ok_impl_two _) ⟨Y, trivial⟩ Y Y Y (fun _ => (Ks Y Y (kLitD Y Y Y Y (Ks Y Y ?_)))))))))))))))))))))))
  refine Ku true (ok_slices_Concat_Lbyte_byte [w2 m.id ++ w2 F ++ w2 1 ++ w2 ((m.an.length : Int) + m.pr.length) ++ w2 ((m.au.length : Int) + m.up.length) ++ w2 m.mo.length, wireN (m.qs[0]).name, w2 (m.qs[0]).ty, w2 1] (by simp) (by simp only [List.flatten_cons, List.flatten_nil, List.length_append, List.length_nil, w2_len]; omega)) ⟨Y, trivial⟩ Y Y Y (fun _ => ?_)
  refine Ka Y (Kd (kH ?_))
  refine hc _ ?_
  rw [show headB m F ((m.an.length : Int) + m.pr.length) ((m.au.length : Int) + m.up.length) = [w2 m.id ++ w2 F ++ w2 1 ++ w2 ((m.an.length : Int) + m.pr.length) ++ w2 ((m.au.length : Int) + m.up.length) ++ w2 m.mo.length, wireN (m.qs[0]).name, w2 (m.qs[0]).ty, w2 1].flatten by unfold headB; rw [hqd]; simp [List.flatten_cons]]
  exact .normA
 have hH : (headB m F ((m.an.length : Int) + m.pr.length) ((m.au.length : Int) + m.up.length)).length ≤ 200 := by rw [headB_len, hqd]; omega
 generalize hH1 : headB m F ((m.an.length : Int) + m.pr.length) ((m.au.length : Int) + m.up.length) = H at *
 have hWs : ∀ w ∈ ([m.pr, m.up]).flatten, wantOk w = true ∧ SmallW w := fun w hw => by
  simp only [List.flatten_cons, List.flatten_nil, List.append_nil, List.mem_append] at hw
  rcases hw with hw | hw
  ·exact ⟨p16 w hw, b5.mem w hw⟩
  ·exact ⟨p18 w hw, b6.mem w hw⟩
 have hWn : ([m.pr, m.up]).flatten.length ≤ 24 := by simp; omega
 have hWf := flatMap_le (f := wantB) (l := ([m.pr, m.up]).flatten) (k := 307) fun w hw => wantB_small (hWs w hw).1
 have hWf2 := Nat.le_trans hWf (Nat.mul_le_mul_right _ hWn)
 refine kSub (t := ⟨tabSl [(1, .c (.ptr (rid 1 0) 1 0)), (2, .c (.nil 1)), (4, .c (.arr (rid 5000 0) 1))], obTab 1 [(rid 1 0, ⟨1, 0, .box (m.cells.map .d)⟩), (rid 5000 0, ⟨1, 0, .arr true (encB (H))⟩)], []⟩) ((Sub.renSlot 4 (rid 76 0) (rid 5000 0) rfl rfl rfl rfl).trans .normA) ?_
 refine Kb (kCut ⟨tabSl [(1, .c (.ptr (rid 1 0) 1 0)), (2, .c (.nil 1)), (4, .c (.arr (rid 5000 0) 1))], obTab 1 [(rid 1 0, ⟨1, 0, .box (m.cells.map .d)⟩), (rid 5000 0, ⟨1, 0, .arr true (encB (H ++ ([m.pr, m.up].flatten).flatMap wantB))⟩)], []⟩ ?_ (fun x hc => ?_))
 case refine_2 =>
  have hlen : ∀ i (h : i < 2), (([m.pr, m.up])[i]).length ≤ 12 := fun i h => by
   rcases i with _ | _ | i
   ·exact p15
   ·exact p17
   ·omega
  refine Kbc (Kf Y Y (Ke Y Y Y (Kf Y Y (Ke Y Y Y (kLitG Y Y Y Y (kLen Y Y Y (Ka Y (Kd (Kt ?_)))))))))
  refine kLoop (α := { i : Nat // i ≤ 2 }) (fun y => ⟨tabSl [(1, .c (.ptr (rid 1 0) 1 0)), (2, .c (.nil 1)), (4, .c (.arr (rid 5000 0) 1)), (81, .dv (.sl 1 ([m.pr, m.up].map fun l => [encW l]))), (82, .i 2), (83, .i y.1)], obTab 1 [(rid 1 0, ⟨1, 0, .box (m.cells.map .d)⟩), (rid 5000 0, ⟨1, 0, .arr true (encB (H ++ (([m.pr, m.up].take y.1).flatten).flatMap wantB))⟩)], []⟩) (fun y => 2 - y.1) ⟨0, by simp⟩ (by
   refine Sub.trans (Sub.frz (j := 81) (id := rid 81 0) rfl rfl (by decide)) ?_
   simp only [List.take_zero, List.flatten_nil, List.flatMap_nil, List.append_nil]
   exact .normA) ?_
  rintro ⟨i, hi⟩
  simp only
  have hlL : ([m.pr, m.up] : List (List Want)).length = 2 := rfl
  have hle0 := flat_inner0 wantB [m.pr, m.up] i
  have hLi : (H ++ (([m.pr, m.up].take i).flatten).flatMap wantB).length ≤ 10000 := by rw [List.length_append]; omega
  rcases Nat.lt_or_ge i 2 with hlt | hge
  ·have hst := flat_step wantB [m.pr, m.up] i hlt
   have hmem : ∀ x ∈ [m.pr, m.up][i], x ∈ ([m.pr, m.up]).flatten := fun x hx => List.mem_flatten.2 ⟨_, List.getElem_mem hlt, hx⟩
   have hin := fun j => flat_inner wantB [m.pr, m.up] i j hlt
   have hll : ([m.pr, m.up][i]).length ≤ 12 := hlen i hlt
   refine Kbc (Kj Y Y Y (Kdb (Km Y (fun g0 => Kn (Kb (Kt (Kbc (kIadR Y Y Y prl (Ky Y Y (Ka Y (Kdb (Kc (Ka Y (Kq Y Y (Ka Y (Kd (Kt ?_)))))))))))))) (fun g0 => om))))
   refine kLoop (α := { j : Nat // j ≤ ([m.pr, m.up][i]).length }) (fun y => ⟨tabSl [(1, .c (.ptr (rid 1 0) 1 0)), (2, .c (.nil 1)), (4, .c (.arr (rid 5000 0) 1)), (81, .dv (.sl 1 ([m.pr, m.up].map fun l => [encW l]))), (82, .i 2), (83, .i i), (87, .dv (encW [m.pr, m.up][i])), (88, .i ([m.pr, m.up][i]).length), (89, .i y.1)], obTab 1 [(rid 1 0, ⟨1, 0, .box (m.cells.map .d)⟩), (rid 5000 0, ⟨1, 0, .arr true (encB (H ++ ((([m.pr, m.up].take i).flatten).flatMap wantB ++ ([m.pr, m.up][i].take y.1).flatMap wantB)))⟩)], []⟩) (fun y => ([m.pr, m.up][i]).length - y.1) ⟨0, by simp⟩ (by
    simp only [List.take_zero, List.flatMap_nil, List.append_nil]
    exact .normA) ?_
   rintro ⟨j, hj⟩
   simp only
   have hin := hin j
   have hLj : (H ++ ((([m.pr, m.up].take i).flatten).flatMap wantB ++ ([m.pr, m.up][i].take j).flatMap wantB)).length ≤ 10000 := by rw [List.length_append]; omega
   rcases Nat.lt_or_ge j ([m.pr, m.up][i]).length with hlt2 | hge2
   ·have hw := hWs _ (hmem _ (List.getElem_mem hlt2))
    obtain ⟨hw1, hw2⟩ := hw
    have hwb := wantB_small hw1
    have hst2 := flatMap_take wantB [m.pr, m.up][i] j hlt2
    refine Kbc (Kj Y Y Y (Kdb (Km Y (fun g0 => Kn (Kb (Kt (Kbc (kIadR Y Y Y prl (Ky Y Y (kAlloc Y Y (Ko Y Y Y Y (Kd (Kc (Ka Y (Ke Y Y Y (Ku true (ok_impl_Want_wire _ prx prx) ⟨⟨⟨Y, Y, Y, Y, Y, Y, Y, Y, Y, trivial⟩, leb⟩, trivial⟩ Y Y Y (fun _ => (kAppR Y Y Y (src_ownB rfl) rfl rfl rfl rfl prl (Ka Y (Kd (Kv (Kc (kAdd Y Y om (Ka Y (Kd ?_)))))))))))))))))))))) (fun g0 => om))))
    refine kInv ⟨⟨j + 1, hlt2⟩, by simp only; omega, ?_⟩
    simp only [hst2, ← List.append_assoc]
    exact .normA
   ·refine Kbc (Kj Y Y Y (Kdb (Km Y (fun g0 => om) (fun g0 => kExit (kExC (kExI (kExB (Kv (Kc (kAdd Y Y om (Ka Y (Kd ?_))))))))))))
    refine kInv ⟨⟨i + 1, hlt⟩, by simp only; omega, ?_⟩
    rw [hst, show j = ([m.pr, m.up][i]).length by omega, List.take_length]
    exact .normA
  ·refine Kbc (Kj Y Y Y (Kdb (Km Y (fun g0 => om) (fun g0 => kExit (kExC (kExI (kExB ?_)))))))
   refine hc _ ?_
   rw [show i = 2 by omega]
   exact .normA
 have hHl : (H ++ ([m.pr, m.up].flatten).flatMap wantB).length ≤ 10000 := by rw [List.length_append]; omega
 generalize hH2 : H ++ ([m.pr, m.up].flatten).flatMap wantB = H2 at *
 have hRs : ∀ r ∈ ([m.an, m.au, m.mo]).flatten, rrOk r = true ∧ SmallR r := fun r hr => by
  simp only [List.flatten_cons, List.flatten_nil, List.append_nil, List.mem_append] at hr
  rcases hr with hr | hr | hr
  ·exact ⟨p10 r hr, b2.mem r hr⟩
  ·exact ⟨p12 r hr, b3.mem r hr⟩
  ·exact ⟨p14 r hr, b4.mem r hr⟩
 have hRn : ([m.an, m.au, m.mo]).flatten.length ≤ 36 := by simp; omega
 have hRf := flatMap_le (f := fun r => rrB r 1) (l := ([m.an, m.au, m.mo]).flatten) (k := 307) fun r hr => rrB_small (hRs r hr).1 1
 have hRf2 := Nat.le_trans hRf (Nat.mul_le_mul_right _ hRn)
 refine Kb (kCut ⟨tabSl [(1, .c (.ptr (rid 1 0) 1 0)), (2, .c (.nil 1)), (4, .c (.arr (rid 5000 0) 1))], obTab 1 [(rid 1 0, ⟨1, 0, .box (m.cells.map .d)⟩), (rid 5000 0, ⟨1, 0, .arr true (encB (H2 ++ ([m.an, m.au, m.mo].flatten).flatMap fun r => rrB r 1))⟩)], []⟩ ?_ (fun x hc => ?_))
 case refine_2 =>
  have hlen : ∀ i (h : i < 3), (([m.an, m.au, m.mo])[i]).length ≤ 12 := fun i h => by
   rcases i with _ | _ | _ | i
   ·exact p9
   ·exact p11
   ·exact p13
   ·omega
  refine Kbc (Kf Y Y (Ke Y Y Y (Kf Y Y (Ke Y Y Y (Kf Y Y (Ke Y Y Y (kLitG Y Y Y Y (kLen Y Y Y (Ka Y (Kd (Kt ?_)))))))))))
  refine kLoop (α := { i : Nat // i ≤ 3 }) (fun y => ⟨tabSl [(1, .c (.ptr (rid 1 0) 1 0)), (2, .c (.nil 1)), (4, .c (.arr (rid 5000 0) 1)), (105, .dv (.sl 1 ([m.an, m.au, m.mo].map fun l => [encR l]))), (106, .i 3), (107, .i y.1)], obTab 1 [(rid 1 0, ⟨1, 0, .box (m.cells.map .d)⟩), (rid 5000 0, ⟨1, 0, .arr true (encB (H2 ++ (([m.an, m.au, m.mo].take y.1).flatten).flatMap (fun r => rrB r 1)))⟩)], []⟩) (fun y => 3 - y.1) ⟨0, by simp⟩ (by
   refine Sub.trans (Sub.frz (j := 105) (id := rid 105 0) rfl rfl (by decide)) ?_
   simp only [List.take_zero, List.flatten_nil, List.flatMap_nil, List.append_nil]
   exact .normA) ?_
  rintro ⟨i, hi⟩
  simp only
  have hlL : ([m.an, m.au, m.mo] : List (List Rr)).length = 3 := rfl
  have hle0 := flat_inner0 (fun r => rrB r 1) [m.an, m.au, m.mo] i
  have hLi : (H2 ++ (([m.an, m.au, m.mo].take i).flatten).flatMap (fun r => rrB r 1)).length ≤ 30000 := by rw [List.length_append]; omega
  rcases Nat.lt_or_ge i 3 with hlt | hge
  ·have hst := flat_step (fun r => rrB r 1) [m.an, m.au, m.mo] i hlt
   have hmem : ∀ x ∈ [m.an, m.au, m.mo][i], x ∈ ([m.an, m.au, m.mo]).flatten := fun x hx => List.mem_flatten.2 ⟨_, List.getElem_mem hlt, hx⟩
   have hin := fun j => flat_inner (fun r => rrB r 1) [m.an, m.au, m.mo] i j hlt
   have hll : ([m.an, m.au, m.mo][i]).length ≤ 12 := hlen i hlt
   refine Kbc (Kj Y Y Y (Kdb (Km Y (fun g0 => Kn (Kb (Kt (Kbc (kIadR Y Y Y prl (Ky Y Y (Ka Y (Kdb (Kc (Ka Y (Kq Y Y (Ka Y (Kd (Kt ?_)))))))))))))) (fun g0 => om))))
   refine kLoop (α := { j : Nat // j ≤ ([m.an, m.au, m.mo][i]).length }) (fun y => ⟨tabSl [(1, .c (.ptr (rid 1 0) 1 0)), (2, .c (.nil 1)), (4, .c (.arr (rid 5000 0) 1)), (105, .dv (.sl 1 ([m.an, m.au, m.mo].map fun l => [encR l]))), (106, .i 3), (107, .i i), (111, .dv (encR [m.an, m.au, m.mo][i])), (112, .i ([m.an, m.au, m.mo][i]).length), (113, .i y.1)], obTab 1 [(rid 1 0, ⟨1, 0, .box (m.cells.map .d)⟩), (rid 5000 0, ⟨1, 0, .arr true (encB (H2 ++ ((([m.an, m.au, m.mo].take i).flatten).flatMap (fun r => rrB r 1) ++ ([m.an, m.au, m.mo][i].take y.1).flatMap (fun r => rrB r 1))))⟩)], []⟩) (fun y => ([m.an, m.au, m.mo][i]).length - y.1) ⟨0, by simp⟩ (by
    simp only [List.take_zero, List.flatMap_nil, List.append_nil]
    exact .normA) ?_
   rintro ⟨j, hj⟩
   simp only
   have hin := hin j
   have hLj : (H2 ++ ((([m.an, m.au, m.mo].take i).flatten).flatMap (fun r => rrB r 1) ++ ([m.an, m.au, m.mo][i].take j).flatMap (fun r => rrB r 1))).length ≤ 30000 := by rw [List.length_append]; omega
   rcases Nat.lt_or_ge j ([m.an, m.au, m.mo][i]).length with hlt2 | hge2
   ·have hw := hRs _ (hmem _ (List.getElem_mem hlt2))
    obtain ⟨hw1, hw2⟩ := hw
    have hwb := rrB_small hw1 1
    have hst2 := flatMap_take (fun r => rrB r 1) [m.an, m.au, m.mo][i] j hlt2
    refine Kbc (Kj Y Y Y (Kdb (Km Y (fun g0 => Kn (Kb (Kt (Kbc (kIadR Y Y Y prl (Ky Y Y (kAlloc Y Y (Ko Y Y Y Y (Kd (Kc (Ka Y (Ke Y Y Y (Ku true (ok_impl_Rr_wire _ prx prx) ⟨⟨⟨Y, Y, Y, Y, Y, Y, Y, trivial⟩, leb⟩, trivial⟩ Y Y Y (fun _ => (kAppR Y Y Y (src_ownB rfl) rfl rfl rfl rfl prl (Ka Y (Kd (Kv (Kc (kAdd Y Y om (Ka Y (Kd ?_)))))))))))))))))))))) (fun g0 => om))))
    refine kInv ⟨⟨j + 1, hlt2⟩, by simp only; omega, ?_⟩
    simp only [hst2, ← List.append_assoc]
    exact .normA
   ·refine Kbc (Kj Y Y Y (Kdb (Km Y (fun g0 => om) (fun g0 => kExit (kExC (kExI (kExB (Kv (Kc (kAdd Y Y om (Ka Y (Kd ?_))))))))))))
    refine kInv ⟨⟨i + 1, hlt⟩, by simp only; omega, ?_⟩
    rw [hst, show j = ([m.an, m.au, m.mo][i]).length by omega, List.take_length]
    exact .normA
  ·refine Kbc (Kj Y Y Y (Kdb (Km Y (fun g0 => om) (fun g0 => kExit (kExC (kExI (kExB ?_)))))))
   refine hc _ ?_
   rw [show i = 3 by omega]
   exact .normA
 refine Kbc (Ka Y (Ka Y (Kd (Kr (Er (ra := [.one (.own true _)]) rfl ?_)))))
 refine congrArg (fun z => [RA.one (RV.own true (encB z))]) ?_
 unfold msgB
 rw [hH1, ← hH2, flat2, flat3]
 simp only [List.append_assoc]

def c_impl_MsgOk : C := (.g (.o 0 1 (.box 1 (.t 0)) (.o 1 2 (.mov (.v (.bool false))) .done)) (.g (.o 0 3 (.load (some 11) (.t 1)) (.o 1 4 (.call 4 260 [(.t 3)]) (.o 2 5 (.mov (.t 4)) (.op 3 [] (some 6) (some (5, true)) false (.load (some 11) (.t 1)) (.op 4 [] (some 7) (some (5, true)) false (.call 7 199 [(.t 6)]) (.op 5 [] (some 8) (some (5, true)) false (.len (.t 7)) (.op 6 [] (some 9) (some (5, true)) false (.bin .leq (.t 8) (.i 512)) (.o 7 10 (.pick (.t 5) (.t 9) (.v (.bool false))) (.o 8 2 (.mov (.t 10)) .done))))))))) .ret))
theorem dg_impl_MsgOk : Tryz.f198.body.bind (digC Tryz.prog Tryz.f198.ntmps []) = some c_impl_MsgOk := by kernel_rfl
theorem rs_impl_MsgOk : resSlots Tryz.prog Tryz.f198 = some [.s 2] := by kernel_rfl
theorem ok_impl_MsgOk (m : Msg) (hs : SmallM m) :
  FnOK Tryz.prog 198 [.agg (m.cells.map .d)] (fun ra _ => ra = [.one (.d (.sc (.bool (msgOk m))))]) := by
 refine FnOK.ofK Tryz.func198 (by kernel_rfl) dg_impl_MsgOk rs_impl_MsgOk rfl rfl ?_
 delta c_impl_MsgOk T.o X.i C.g
 cases hk : msgMay m
 ·refine Kbc (kBox Y Y Y Y Y (Ka Y (Kdb (Kc (Ke Y Y Y (Kp (ok_impl_Msg_shaped _ prx) ⟨⟨⟨Y, Y, Y, Y, Y, Y, Y, Y, Y, Y, Y, trivial⟩, leb⟩, trivial⟩ Y Y Y Y Y (Ka Y (kGS Y (fun g0 => (by (simp [*] at g0))) (fun g0 => Kg Y (Kg Y (Kg Y (Kg Y (Kl Y (Ka Y (Ka Y (Kd (Kr (Er (ra := [.one (.d _)]) rfl ?_))))))))))))))))))
  rw [show msgOk m = false by unfold msgOk; rw [hk]; rfl]
 ·refine Kbc (kBox Y Y Y Y Y (Ka Y (Kdb (Kc (Ke Y Y Y (Kp (ok_impl_Msg_shaped _ prx) ⟨⟨⟨Y, Y, Y, Y, Y, Y, Y, Y, Y, Y, Y, trivial⟩, leb⟩, trivial⟩ Y Y Y Y Y (Ka Y (kGS Y (fun g0 => Ki Y (Ke Y Y Y (Ki Y (Ku true (ok_impl_Msg_wire _ prx prx) ⟨⟨⟨Y, Y, Y, Y, Y, Y, Y, Y, Y, Y, Y, trivial⟩, leb⟩, trivial⟩ Y Y Y (fun _ => (kMem [(32768, ⟨1, 0, .arr true _⟩)] [(7, .c (.arr 32768 1)), (8, .c (.un)), (5, .c (.d _)), (9, .c (.un)), (10, .c (.un))] [] ⟨Y, trivial⟩ ⟨Y, Y, Y, Y, Y, trivial⟩ Y (Ki Y (Kq Y Y (Ki Y (Kj Y Y Y (Kk Y (Ka Y (Ka Y (Kd (Kr (Er (ra := [.one (.d _)]) rfl ?_)))))))))))))))) (fun g0 => (by (simp [*] at g0)))))))))))
  rw [msgB_len]
  rw [show msgOk m = decide (msgLen m ≤ 512) by unfold msgOk; rw [hk]; rfl]
  refine congrArg (fun z : Bool => [RA.one (RV.d (DV.sc (Value.bool z)))]) ?_
  rw [Bool.eq_iff_iff]
  simp
  omega

def c_slices_Clone_Lint_int : C := (.g (.o 0 2 (.mov (.n 1)) .done) (.seq (.g (.o 0 3 (.mov (.t 0)) (.o 1 4 (.eqn false (.t 3)) .done)) (.cond (.t 4) (.g (.o 0 2 (.mov (.n 1)) .done) .ret) .skip)) (.g (.o 0 5 (.lit 5 1 [(.i 0)] 0 []) (.o 1 6 (.mov (.t 0)) (.o 2 7 (.app 7 1 8 (.t 5) (.t 6)) (.o 3 2 (.mov (.t 7)) .done)))) .ret)))
theorem dg_slices_Clone_Lint_int : Tryz.f229.body.bind (digC Tryz.prog Tryz.f229.ntmps []) = some c_slices_Clone_Lint_int := by kernel_rfl
theorem rs_slices_Clone_Lint_int : resSlots Tryz.prog Tryz.f229 = some [.s 2] := by kernel_rfl
theorem ok_slices_Clone_Lint_int (b : List Int) (hb : b.length ≤ 4194304) :
  FnOK Tryz.prog 229 [.one (.d (encI b))] (fun ra _ => ra = [.one (.own true (encI b))]) := by
 refine FnOK.ofK Tryz.func229 (by kernel_rfl) dg_slices_Clone_Lint_int rs_slices_Clone_Lint_int rfl rfl ?_
 delta c_slices_Clone_Lint_int T.o X.i C.g
 refine Kbc (Ka Y (Kd ?_))
 refine Kb (Kbc (Ka Y (kEqn Y Y Y fun n hn => Kd ?_)))
 refine kCond Y (fun h => ?_) (fun h => ?_)
 ·refine Kbc (Ka Y (Kd (Kr ?_)))
  refine endRet (ra := [.one (.own true (.sl 1 []))]) rfl ⟨⟨rfl, trivial⟩, nodupB_sound rfl, trivial, trivial⟩ ?_
  have : b = [] := by
   rw [len_encI] at hn
   cases b with
   | nil => rfl
   | cons x l => have := hn (by simp); simp [this] at h
  rw [this]; rfl
 ·refine Kn (Kbc ?_)
  refine kLit Y Y Y Y (Ka Y ?_)
  refine kApp (cy := .d (encI b)) rfl rfl rfl (src_encI _ b) rfl rfl ⟨rfl, rfl, Nat.zero_lt_one⟩ Y ?_ (Ka Y (Kd (Kr ?_)))
  ·show ((DV.sl 1 (chunk 1 0 [])).len + (encI b).len) * 8 ≤ _ ∧ _
   rw [len_encI]; simp [DV.len, chunk]; omega
  refine endRet (ra := [.one (.own true _)]) rfl ⟨⟨⟨⟨_, rfl, fun _ => rfl⟩, .inl (Nat.zero_lt_succ _)⟩, trivial⟩, nodupB_sound rfl, trivial, trivial⟩ ?_
  exact congrArg (fun x => [RA.one (RV.own true x)]) (app_nil_encI b)

def c_impl_Rr_copied : C := (.g (.o 0 1 (.box 1 (.t 0)) (.o 1 2 (.alloc 2 [(.n 1), (.i 0), (.i 0), (.i 0), (.n 1), (.n 1), (.n 1)]) .done)) (.seq (.reg true (.op 0 [] (some 3) none true (.fad (.t 1) 0) (.op 1 [] (some 4) none true (.load (some 1) (.t 3)) (.op 3 [] (some 6) none true (.fad (.t 1) 4) (.op 4 [] (some 7) none true (.load (some 1) (.t 6)) (.op 6 [] (some 9) none true (.fad (.t 1) 5) (.op 7 [] (some 10) none true (.load none (.t 9)) (.op 9 [] (some 12) none true (.fad (.t 1) 6) (.op 10 [] (some 13) none true (.load none (.t 12)) (.op 2 [1] (some 5) none false (.call 5 150 [(.t 4)]) (.op 12 [] (some 15) none true (.fad (.t 1) 0) (.op 5 [4, 1] (some 8) none false (.call 8 150 [(.t 7)]) (.op 8 [7, 4, 1] (some 11) none false (.call 11 192 [(.t 10)]) (.op 11 [10, 7, 4, 1] (some 14) none false (.call 14 229 [(.t 13)]) (.op 13 [1, 4, 7, 10] none none false (.store (some 1) (.t 15) (.t 5)) (.op 14 [] (some 16) none true (.fad (.t 1) 4) (.op 15 [1, 4, 7, 10] none none false (.store (some 1) (.t 16) (.t 8)) (.op 16 [] (some 17) none true (.fad (.t 1) 5) (.op 17 [1, 4, 7, 10] none none false (.store none (.t 17) (.t 11)) (.op 18 [] (some 18) none true (.fad (.t 1) 6) (.op 19 [1, 4, 7, 10] none none false (.store none (.t 18) (.t 14)) .done))))))))))))))))))))) (.g (.o 0 19 (.load (some 7) (.t 1)) (.op 1 [] none none false (.store (some 7) (.t 2) (.t 19)) .done)) .ret)))
theorem dg_impl_Rr_copied : Tryz.f172.body.bind (digC Tryz.prog Tryz.f172.ntmps []) = some c_impl_Rr_copied := by kernel_rfl
theorem rs_impl_Rr_copied : resSlots Tryz.prog Tryz.f172 = some [.m 2 (some 7)] := by kernel_rfl
theorem ok_impl_Rr_copied (r : Rr) (hs : SmallR r) :
  FnOK Tryz.prog 172 [.agg (r.cells.map .d)] (fun ra _ => ra = [.agg [.own true (encBB r.name), .d (.sc (.int .i64 r.ty)), .d (.sc (.int .i64 r.ttl)), .d (.sc (.int .i64 r.addr)), .own true (encBB r.to), .own true (encB r.text), .own true (encI r.nums)]]) := by
 refine FnOK.ofK Tryz.func172 (by kernel_rfl) dg_impl_Rr_copied rs_impl_Rr_copied rfl rfl ?_
 delta c_impl_Rr_copied T.o X.i C.g
 have n1 := hs.n.len
 have n2 := hs.n.mem
 have t1 := hs.t.len
 have t2 := hs.t.mem
 have x1 := hs.x
 have m1 := hs.m
 refine Kb (kCut ⟨tabSl [(1, .c (.ptr (rid 1 0) 1 0)), (2, .c (.ptr (rid 2 0) 1 0))], obTab 1 [(rid 1 0, ⟨1, 0, .box (r.cells.map .d)⟩), (rid 2 0, ⟨1, 0, .box [.nil 1, .d (.sc (.int .i64 0)), .d (.sc (.int .i64 0)), .d (.sc (.int .i64 0)), .nil 1, .nil 1, .nil 1]⟩)], []⟩ ?_ (fun x hc => ?_))
 case refine_2 => refine kReg (kBox rfl rfl rfl rfl rfl (kAlloc rfl rfl (kDone (hc _ .normA))))
 refine Kb (kCut ⟨tabSl [(1, .c (.ptr (rid 1 0) 1 0)), (2, .c (.ptr (rid 2 0) 1 0))], obTab 1 [(rid 1 0, ⟨1, 0, .box [.arr (rid 5 0) 1, .d (.sc (.int .i64 r.ty)), .d (.sc (.int .i64 r.ttl)), .d (.sc (.int .i64 r.addr)), .arr (rid 8 0) 1, .arr (rid 11 0) 1, .arr (rid 14 0) 1]⟩), (rid 2 0, ⟨1, 0, .box [.nil 1, .d (.sc (.int .i64 0)), .d (.sc (.int .i64 0)), .d (.sc (.int .i64 0)), .nil 1, .nil 1, .nil 1]⟩), (rid 5 0, ⟨1, 0, .arr true (encBB r.name)⟩), (rid 8 0, ⟨1, 0, .arr true (encBB r.to)⟩), (rid 11 0, ⟨1, 0, .arr true (encB r.text)⟩), (rid 14 0, ⟨1, 0, .arr true (encI r.nums)⟩)], []⟩ ?_ (fun x hc => ?_))
 case refine_2 => refine kRegD (kFadP rfl rfl (kLoadP rfl rfl rfl (kFadP rfl rfl (kLoadP rfl rfl rfl (kFadP rfl rfl (kLoadP rfl rfl rfl (kFadP rfl rfl (kLoadP rfl rfl rfl (kRelK rfl rfl (kCall1 true (ok_impl_Name_copied _ pr pr) ⟨⟨⟨rfl, trivial⟩, leb⟩, trivial⟩ rfl rfl rfl (fun _ => (kFadP rfl rfl (kRelK rfl rfl (kCall1 true (ok_impl_Name_copied _ pr pr) ⟨⟨⟨rfl, trivial⟩, leb⟩, trivial⟩ rfl rfl rfl (fun _ => (kRelK rfl rfl (kCall1 true (ok_bytes_Clone _ pr) ⟨rfl, trivial⟩ rfl rfl rfl (fun _ => (kRelF rfl rfl (kCall1 true (ok_slices_Clone_Lint_int _ pr) ⟨rfl, trivial⟩ rfl rfl rfl (fun _ => (kRelF rfl rfl (kStoreP rfl rfl rfl rfl (kFadP rfl rfl (kRelF rfl rfl (kStoreP rfl rfl rfl rfl (kFadP rfl rfl (kRelF rfl rfl (kStoreP rfl rfl rfl rfl (kFadP rfl rfl (kRelF rfl rfl (kStoreP rfl rfl rfl rfl (kDone (kH (kMem [(8192, ⟨1, 0, .box [.arr 24576 2, .d _, .d _, .d _, .arr 36864 2, .arr 49152 2, .arr 61440 2]⟩), (12288, ⟨1, 0, .box [.nil 1, .d _, .d _, .d _, .nil 1, .nil 1, .nil 1]⟩), (24576, ⟨2, 0, .arr true _⟩), (36864, ⟨2, 0, .arr true _⟩), (49152, ⟨2, 0, .arr true _⟩), (61440, ⟨2, 0, .arr true _⟩)] [(1, .c (.ptr 8192 1 0)), (2, .c (.ptr 12288 1 0))] [] ⟨rfl, rfl, rfl, rfl, rfl, rfl, trivial⟩ ⟨rfl, rfl, trivial⟩ rfl (hc _ .normA))))))))))))))))))))))))))))))))))))
 refine Kb (kCut ⟨tabSl [(2, .c (.ptr (rid 2 0) 1 0))], obTab 1 [(rid 2 0, ⟨1, 0, .box [.arr (rid 5 0) 1, .d (.sc (.int .i64 r.ty)), .d (.sc (.int .i64 r.ttl)), .d (.sc (.int .i64 r.addr)), .arr (rid 8 0) 1, .arr (rid 11 0) 1, .arr (rid 14 0) 1]⟩), (rid 5 0, ⟨1, 0, .arr true (encBB r.name)⟩), (rid 8 0, ⟨1, 0, .arr true (encBB r.to)⟩), (rid 11 0, ⟨1, 0, .arr true (encB r.text)⟩), (rid 14 0, ⟨1, 0, .arr true (encI r.nums)⟩)], []⟩ ?_ (fun x hc => ?_))
 case refine_2 => refine kReg (kLoadP rfl rfl rfl (kStoreP rfl rfl rfl rfl (kDone (hc _ .normA))))
 refine (Kr (Er (ra := [.agg [(.own true _), (.d _), (.d _), (.d _), (.own true _), (.own true _), (.own true _)]]) rfl rfl))

def c_impl_copyRrs : C := (.g (.o 0 2 (.mov (.n 7)) .done) (.g (.o 0 6 (.lit 6 7 [(.n 1), (.i 0), (.i 0), (.i 0), (.n 1), (.n 1), (.n 1)] 0 []) (.o 1 3 (.mov (.t 6)) .done)) (.seq (.g (.o 0 7 (.mov (.t 0)) (.o 1 8 (.len (.t 7)) (.o 2 9 (.mov (.i 0)) .done))) (.block 0 (.loop (.g (.o 0 10 (.bin .lss (.t 9) (.t 8)) .done) (.seq (.cond (.t 10) .skip (.exit 0)) (.seq (.block 1 (.g (.o 0 11 (.iad 7 (.t 7) (.t 9)) (.o 1 12 (.load (some 7) (.t 11)) (.o 2 5 (.alloc 5 [(.n 1), (.i 0), (.i 0), (.i 0), (.n 1), (.n 1), (.n 1)]) (.op 3 [] none none false (.store (some 7) (.t 5) (.t 12)) .done)))) (.reg false (.o 0 13 (.mov (.t 3)) (.o 1 14 (.load (some 7) (.t 5)) (.o 2 15 (.call 15 172 [(.t 14)]) (.o 3 16 (.lit 16 7 [(.n 1), (.i 0), (.i 0), (.i 0), (.n 1), (.n 1), (.n 1)] 1 [(0, 7, (.t 15))]) (.o 4 17 (.app 17 7 120 (.t 13) (.t 16)) (.o 5 3 (.mov (.t 17)) .done))))))))) (.reg false (.o 0 18 (.bin .add (.t 9) (.i 1)) (.o 1 9 (.mov (.t 18)) .done))))))))) (.g (.o 0 19 (.mov (.t 3)) (.o 1 2 (.mov (.t 19)) .done)) .ret))))
theorem dg_impl_copyRrs : Tryz.f91.body.bind (digC Tryz.prog Tryz.f91.ntmps []) = some c_impl_copyRrs := by kernel_rfl
theorem rs_impl_copyRrs : resSlots Tryz.prog Tryz.f91 = some [.s 2] := by kernel_rfl
theorem ok_impl_copyRrs (l : List Rr) (hs : SmallRs l) :
  FnOK Tryz.prog 91 [.one (.d (encR l))] (fun ra _ => ra = [.one (.own true (encR l))]) := by
 refine FnOK.ofK Tryz.func91 (by kernel_rfl) dg_impl_copyRrs rs_impl_copyRrs rfl rfl ?_
 delta c_impl_copyRrs T.o X.i C.g
 have h1 := hs.len
 refine Kbc (Ka Y (Kdb (Kc (kLit Y Y Y Y (Ka Y (Kdb (Kbc (Ka Y (Kq Y Y (Ka Y (Kd (Kt ?_))))))))))))
 refine kLoop (α := { i : Nat // i ≤ l.length }) (fun y => ⟨tabSl [(3, .c (.arr (rid 6 0) 1)), (7, .dv (encR l)), (8, .i l.length), (9, .i y.1)], obTab 1 [(rid 6 0, ⟨1, 0, .arr true (encR (l.take y.1))⟩)], []⟩) (fun y => l.length - y.1) ⟨0, by simp⟩ .normA ?_
 rintro ⟨i, hi⟩
 simp only
 have hlen : (l.take i).length = i := by simp; omega
 rcases Nat.lt_or_ge i l.length with hlt | hge
 ·have hbi := hs.mem _ (List.getElem_mem hlt)
  refine Kbc (Kj Y Y Y (Kdb (Km Y (fun g0 => Kn (Kb (Kt (Kbc (kIadR Y Y Y om (Ky Y Y (kAlloc Y Y (Ko Y Y Y Y (Kd (Kc (Ka Y (Ke Y Y Y (Ku true (ok_impl_Rr_copied _ pr) ⟨⟨⟨Y, Y, Y, Y, Y, Y, Y, trivial⟩, leb⟩, trivial⟩ Y Y Y (fun _ => (kLit Y Y Y Y (kAppRec Y Y Y Y Y Y Y om (Ka Y (Kd (Kv (Kc (kAdd Y Y om (Ka Y (Kd ?_))))))))))))))))))))))) (fun g0 => om))))
  exact kInv ⟨⟨i + 1, by omega⟩, by simp only; omega, .normA⟩
 ·refine Kbc (Kj Y Y Y (Kdb (Km Y (fun g0 => om) (fun g0 => kExit (kExC (kExI (kExB (Kbc (Ka Y (Ka Y (Kd (Kr (Er (ra := [.one (.own true _)]) rfl ?_)))))))))))))
  rw [show i = l.length by omega, List.take_length]

def c_impl_Zone_answer : C := (.g (.o 0 2 (.box 2 (.t 0)) (.o 1 3 (.box 3 (.t 1)) (.o 2 4 (.alloc 4 [(.i 0), (.v (.bool false)), (.i 0), (.v (.bool false)), (.i 0), (.n 2), (.n 7), (.n 7), (.n 7), (.n 9), (.n 9)]) .done))) (.seq (.reg true (.op 0 [] (some 12) none true (.load (some 11) (.t 3)) (.op 2 [] (some 14) none true (.fad (.t 3) 5) (.op 3 [] (some 15) none true (.load none (.t 14)) (.op 4 [] (some 16) none true (.iad 2 (.t 15) (.i 0)) (.op 5 [] (some 17) none true (.fad (.t 16) 0) (.op 6 [] (some 18) none true (.load (some 1) (.t 17)) (.alt (.op 1 [0] (some 13) none false (.call 13 280 [(.t 12), (.i 0)]) (.alt (.o 7 5 (.alloc 5 [(.i 0), (.v (.bool false)), (.i 0), (.v (.bool false)), (.i 0), (.n 2), (.n 7), (.n 7), (.n 7), (.n 9), (.n 9)]) (.o 8 6 (.alloc 6 [(.n 1)]) (.op 9 [0] none none false (.store (some 11) (.t 5) (.t 13)) (.op 10 [6, 3, 0] none none false (.store (some 1) (.t 6) (.t 18)) .done)))) (.o 8 6 (.alloc 6 [(.n 1)]) (.o 7 5 (.alloc 5 [(.i 0), (.v (.bool false)), (.i 0), (.v (.bool false)), (.i 0), (.n 2), (.n 7), (.n 7), (.n 7), (.n 9), (.n 9)]) (.op 9 [0] none none false (.store (some 11) (.t 5) (.t 13)) (.op 10 [6, 3, 0] none none false (.store (some 1) (.t 6) (.t 18)) .done)))))) (.alt (.o 7 5 (.alloc 5 [(.i 0), (.v (.bool false)), (.i 0), (.v (.bool false)), (.i 0), (.n 2), (.n 7), (.n 7), (.n 7), (.n 9), (.n 9)]) (.alt (.op 1 [0] (some 13) none false (.call 13 280 [(.t 12), (.i 0)]) (.o 8 6 (.alloc 6 [(.n 1)]) (.op 9 [0] none none false (.store (some 11) (.t 5) (.t 13)) (.op 10 [6, 3, 0] none none false (.store (some 1) (.t 6) (.t 18)) .done)))) (.o 8 6 (.alloc 6 [(.n 1)]) (.op 1 [0] (some 13) none false (.call 13 280 [(.t 12), (.i 0)]) (.op 9 [0] none none false (.store (some 11) (.t 5) (.t 13)) (.op 10 [6, 3, 0] none none false (.store (some 1) (.t 6) (.t 18)) .done)))))) (.o 8 6 (.alloc 6 [(.n 1)]) (.alt (.op 1 [0] (some 13) none false (.call 13 280 [(.t 12), (.i 0)]) (.o 7 5 (.alloc 5 [(.i 0), (.v (.bool false)), (.i 0), (.v (.bool false)), (.i 0), (.n 2), (.n 7), (.n 7), (.n 7), (.n 9), (.n 9)]) (.op 9 [0] none none false (.store (some 11) (.t 5) (.t 13)) (.op 10 [6, 3, 0] none none false (.store (some 1) (.t 6) (.t 18)) .done)))) (.o 7 5 (.alloc 5 [(.i 0), (.v (.bool false)), (.i 0), (.v (.bool false)), (.i 0), (.n 2), (.n 7), (.n 7), (.n 7), (.n 9), (.n 9)]) (.op 1 [0] (some 13) none false (.call 13 280 [(.t 12), (.i 0)]) (.op 9 [0] none none false (.store (some 11) (.t 5) (.t 13)) (.op 10 [6, 3, 0] none none false (.store (some 1) (.t 6) (.t 18)) .done))))))))))))))) (.seq (.g (.o 0 19 (.mov (.i 0)) .done) (.block 0 (.loop (.g (.o 0 20 (.bin .lss (.t 19) (.i 6)) .done) (.seq (.cond (.t 20) .skip (.exit 0)) (.seq (.block 1 (.g (.o 0 21 (.mov (.t 19)) (.o 1 7 (.mov (.t 21)) .done)) (.seq (.reg true (.op 0 [] (some 23) none true (.load (some 2) (.t 2)) (.op 1 [] (some 24) none true (.load (some 1) (.t 6)) (.op 2 [] (some 25) none true (.fad (.t 3) 5) (.op 3 [] (some 26) none true (.load none (.t 25)) (.op 4 [] (some 27) none true (.iad 2 (.t 26) (.i 0)) (.op 5 [] (some 28) none true (.fad (.t 27) 1) (.op 6 [] (some 29) none true (.load none (.t 28)) (.op 7 [0, 1, 6, 3] (some 30) none false (.call 30 138 [(.t 23), (.t 24), (.t 29)]) (.op 8 [] (some 22) none true (.mov (.t 30)) (.op 9 [] (some 31) none true (.ext (.t 22) 0) (.op 10 [] (some 32) none true (.ext (.t 22) 1) (.op 11 [] (some 8) none true (.mov (.t 31)) (.op 12 [] (some 9) none true (.mov (.t 32)) .done)))))))))))))) (.seq (.g (.o 0 33 (.mov (.t 9)) .done) (.block 2 (.seq (.g (.o 0 38 (.bin .eql (.t 33) (.i 0)) (.o 1 37 (.mov (.t 38)) .done)) (.cond (.t 37) .skip (.reg false (.o 0 39 (.bin .eql (.t 33) (.i 1)) (.o 1 37 (.mov (.t 39)) .done))))) (.cond (.t 37) (.reg false (.o 0 40 (.fad (.t 5) 6) (.o 1 41 (.load none (.t 40)) (.o 2 42 (.mov (.t 8)) (.o 3 43 (.app 43 7 120 (.t 41) (.t 42)) (.o 4 44 (.fad (.t 5) 3) (.op 5 [] none none false (.store none (.t 44) (.v (.bool true))) (.o 6 45 (.fad (.t 5) 6) (.op 7 [] none none false (.store none (.t 45) (.t 43)) .done))))))))) (.g (.o 0 47 (.bin .eql (.t 33) (.i 2)) (.o 1 46 (.mov (.t 47)) .done)) (.cond (.t 46) (.g (.o 0 48 (.mov (.t 8)) (.o 1 49 (.fad (.t 5) 7) (.op 2 [] none none false (.store none (.t 49) (.t 48)) .done))) (.g (.o 0 50 (.mov (.t 8)) (.o 1 51 (.len (.t 50)) (.o 2 52 (.mov (.i 0)) .done))) (.block 3 (.loop (.g (.o 0 53 (.bin .lss (.t 52) (.t 51)) .done) (.seq (.cond (.t 53) .skip (.exit 3)) (.seq (.block 4 (.g (.o 0 54 (.iad 7 (.t 50) (.t 52)) (.o 1 55 (.load (some 7) (.t 54)) (.o 2 11 (.alloc 11 [(.n 1), (.i 0), (.i 0), (.i 0), (.n 1), (.n 1), (.n 1)]) (.op 3 [] none none false (.store (some 7) (.t 11) (.t 55)) .done)))) (.reg true (.op 0 [] (some 56) none true (.fad (.t 5) 8) (.op 1 [] (some 57) none true (.load none (.t 56)) (.op 2 [] (some 58) none true (.load (some 2) (.t 2)) (.op 3 [] (some 59) none true (.fad (.t 11) 4) (.op 4 [] (some 60) none true (.load (some 1) (.t 59)) (.op 5 [2, 4] (some 61) none false (.call 61 92 [(.t 58), (.t 60), (.i 1)]) (.op 6 [1, 2, 4] (some 62) none false (.app 62 7 120 (.t 57) (.t 61)) (.op 7 [] (some 63) none true (.fad (.t 5) 8) (.op 8 [1, 2, 4] none none false (.store none (.t 63) (.t 62)) .done)))))))))))) (.reg false (.o 0 64 (.bin .add (.t 52) (.i 1)) (.o 1 52 (.mov (.t 64)) .done)))))))))) (.seq (.g (.o 0 66 (.bin .eql (.t 33) (.i 3)) (.o 1 65 (.mov (.t 66)) .done)) (.cond (.t 65) .skip (.reg false (.o 0 67 (.bin .eql (.t 33) (.i 4)) (.o 1 65 (.mov (.t 67)) .done))))) (.cond (.t 65) (.seq (.reg true (.op 0 [] (some 68) none true (.fad (.t 2) 1) (.op 1 [] (some 69) none true (.load none (.t 68)) (.op 2 [] (some 70) none true (.load (some 2) (.t 2)) (.op 4 [] (some 72) none true (.load (some 2) (.t 2)) (.op 8 [] (some 76) none true (.fad (.t 5) 3) (.op 3 [2] (some 71) none false (.call 71 238 [(.t 70)]) (.op 5 [4, 2] (some 73) none false (.call 73 238 [(.t 72)]) (.op 6 [] (some 74) none true (.bin .add (.t 73) (.i 1)) (.op 7 [] (some 75) none true (.cut 7 (.t 69) (some (.t 71)) (some (.t 74))) (.op 9 [4, 2] none none false (.store none (.t 76) (.v (.bool true))) (.op 10 [] (some 77) none true (.fad (.t 5) 7) (.op 11 [1, 2, 4] none none false (.store none (.t 77) (.t 75)) .done))))))))))))) (.g (.o 0 78 (.mov (.t 9)) (.o 1 79 (.bin .eql (.t 78) (.i 4)) .done)) (.cond (.t 79) (.reg false (.o 0 80 (.fad (.t 5) 4) (.op 1 [] none none false (.store none (.t 80) (.i 3)) .done))) .skip))) (.g (.o 0 34 (.mov (.t 7)) (.o 1 35 (.bin .eql (.t 34) (.i 0)) .done)) (.cond (.t 35) (.reg false (.o 0 36 (.fad (.t 5) 4) (.op 1 [] none none false (.store none (.t 36) (.i 5)) .done))) .skip)))))))))) (.seq (.g (.o 0 81 (.mov (.t 9)) (.o 1 82 (.bin .neq (.t 81) (.i 1)) .done)) (.cond (.t 82) (.exit 0) .skip)) (.reg false (.o 0 83 (.mov (.t 8)) (.o 1 84 (.iad 7 (.t 83) (.i 0)) (.o 2 85 (.fad (.t 84) 4) (.o 3 86 (.load (some 1) (.t 85)) (.op 4 [] none none false (.store (some 1) (.t 6) (.t 86)) .done))))))))))) (.reg false (.o 0 87 (.bin .add (.t 19) (.i 1)) (.o 1 19 (.mov (.t 87)) .done))))))))) (.seq (.g (.o 0 88 (.load (some 11) (.t 5)) (.o 1 89 (.call 89 198 [(.t 88)]) (.o 2 90 (.un .not (.t 89)) .done))) (.cond (.t 90) (.g (.o 0 91 (.load (some 11) (.t 3)) (.o 1 92 (.call 92 280 [(.t 91), (.i 2)]) (.op 2 [] none none false (.store (some 11) (.t 4) (.t 92)) .done))) .ret) .skip)) (.seq (.reg true (.op 0 [] (some 93) none true (.fad (.t 5) 6) (.op 1 [] (some 94) none true (.load none (.t 93)) (.op 3 [] (some 96) none true (.fad (.t 5) 7) (.op 4 [] (some 97) none true (.load none (.t 96)) (.op 6 [] (some 99) none true (.fad (.t 5) 8) (.op 7 [] (some 100) none true (.load none (.t 99)) (.op 2 [1] (some 95) none false (.call 95 91 [(.t 94)]) (.op 9 [] (some 102) none true (.fad (.t 5) 6) (.op 5 [4, 1] (some 98) none false (.call 98 91 [(.t 97)]) (.op 8 [7, 4, 1] (some 101) none false (.call 101 91 [(.t 100)]) (.op 10 [1, 4, 7] none none false (.store none (.t 102) (.t 95)) (.op 11 [] (some 103) none true (.fad (.t 5) 7) (.op 12 [1, 4, 7] none none false (.store none (.t 103) (.t 98)) (.op 13 [] (some 104) none true (.fad (.t 5) 8) (.op 14 [1, 4, 7] none none false (.store none (.t 104) (.t 101)) .done)))))))))))))))) (.g (.o 0 105 (.load (some 11) (.t 5)) (.op 1 [] none none false (.store (some 11) (.t 4) (.t 105)) .done)) .ret))))))
theorem dg_impl_Zone_answer : Tryz.f281.body.bind (digC Tryz.prog Tryz.f281.ntmps []) = some c_impl_Zone_answer := by kernel_rfl
theorem rs_impl_Zone_answer : resSlots Tryz.prog Tryz.f281 = some [.m 4 (some 11)] := by kernel_rfl
theorem ok_impl_Zone_answer (z : Zone) (m : Msg) (hz : zoneOk z = true) (hm : msgOk m = true) (hop : m.op = 0) :
  FnOK Tryz.prog 281 [.agg (z.cells.map .d), .agg (m.cells.map .d)] (fun ra _ => ra = [.agg [.d (.sc (.int .i64 (ansM z m).id)), .d (.sc (.bool (ansM z m).reply)), .d (.sc (.int .i64 (ansM z m).op)), .d (.sc (.bool (ansM z m).auth)), .d (.sc (.int .i64 (ansM z m).code)), .d (encQ (ansM z m).qs), .d (encR (ansM z m).an), .d (encR (ansM z m).au), .d (encR (ansM z m).mo), .d (encW (ansM z m).pr), .d (encW (ansM z m).up)]]) := by
 refine FnOK.ofK Tryz.func281 (by kernel_rfl) dg_impl_Zone_answer rs_impl_Zone_answer rfl rfl ?_
 delta c_impl_Zone_answer T.o X.i C.g
 have hsz := zoneOk_small hz
 have hmm : msgMay m = true := by unfold msgOk at hm; simp only [Bool.and_eq_true] at hm; exact hm.1
 have hp := MayP.of hmm
 have hq1 := hp.q1
 have hsm : SmallM m := msgOk_small hm
 have hq0 : 0 < m.qs.length := by omega
 have hqg : m.qs.getD 0 ⟨[], 0⟩ = m.qs[0]'hq0 := by simp [List.getD_eq_getElem?_getD, hq1]
 have hask : askedT (m.qs[0]'hq0).ty = true := by
  rw [← hqg]
  unfold msgMay at hmm
  simp only [Bool.and_eq_true] at hmm
  exact hmm.1.1.2.2
 have hstop := trivial
 refine Kbc (kBox Y Y Y Y Y (kBox Y Y Y Y Y (kAlloc Y Y (Kdb ?_))))
 clear hstop
 refine kCut ⟨tabSl [(2, .c (.ptr (rid 2 0) 1 0)), (3, .c (.ptr (rid 3 0) 1 0)), (4, .c (.ptr (rid 4 0) 1 0)), (5, .c (.ptr (rid 5 0) 1 0)), (6, .c (.ptr (rid 6 0) 1 0))], obTab 1 [(rid 2 0, ⟨1, 0, .box (z.cells.map .d)⟩), (rid 3 0, ⟨1, 0, .box (m.cells.map .d)⟩), (rid 4 0, ⟨1, 0, .box [.d (.sc (.int .i64 0)), .d (.sc (.bool false)), .d (.sc (.int .i64 0)), .d (.sc (.bool false)), .d (.sc (.int .i64 0)), .nil 2, .nil 7, .nil 7, .nil 7, .nil 9, .nil 9]⟩), (rid 5 0, ⟨1, 0, .box [.d (.sc (.int .i64 m.id)), .d (.sc (.bool true)), .d (.sc (.int .i64 m.op)), .d (.sc (.bool false)), .d (.sc (.int .i64 0)), .arr (rid 13 5) 1, .arr (rid 13 6) 1, .arr (rid 13 7) 1, .arr (rid 13 8) 1, .arr (rid 13 9) 1, .arr (rid 13 10) 1]⟩), (rid 13 7, ⟨1, 0, .arr true (encR [])⟩), (rid 13 5, ⟨1, 0, .arr true (encQ [m.qs.getD 0 ⟨[], 0⟩])⟩), (rid 13 6, ⟨1, 0, .arr false (encR [])⟩), (rid 13 8, ⟨1, 0, .arr false (encR [])⟩), (rid 13 9, ⟨1, 0, .arr true (encW [])⟩), (rid 13 10, ⟨1, 0, .arr true (encW [])⟩), (rid 6 0, ⟨1, 0, .box [.d (encBB (m.qs[0]'hq0).name)]⟩)], []⟩ ?_ (fun x hc => ?_)
 case refine_2 =>
  refine kRegD (Ke Y Y Y (Kf Y Y (Ke Y Y Y (kIadR (m := 0) Y Y Y prl (kFadD Y (Ky Y Y (kAlt (Kx Y Y (Ku true (ok_impl_Msg_reply _ _ prx prx) ⟨⟨⟨Y, Y, Y, Y, Y, Y, Y, Y, Y, Y, Y, trivial⟩, leb⟩, rfl, trivial⟩ Y Y Y (fun _ => (kAlt (kAlloc Y Y (kAlloc Y Y (Kx Y Y (Ko Y Y Y Y (Ks Y Y (Ko Y Y Y Y (Kd (kH (hc _ .normA))))))))) (kAlloc Y Y (kAlloc Y Y (Kx Y Y (Ko Y Y Y Y (Ks Y Y (Ko Y Y Y Y (Kd (kH (hc _ .normA))))))))))))) (kAlt (kAlloc Y Y (kAlt (Kx Y Y (Ku true (ok_impl_Msg_reply _ _ prx prx) ⟨⟨⟨Y, Y, Y, Y, Y, Y, Y, Y, Y, Y, Y, trivial⟩, leb⟩, rfl, trivial⟩ Y Y Y (fun _ => (kAlloc Y Y (Kx Y Y (Ko Y Y Y Y (Ks Y Y (Ko Y Y Y Y (Kd (kH (hc _ .normA))))))))))) (kAlloc Y Y (Kx Y Y (Ku true (ok_impl_Msg_reply _ _ prx prx) ⟨⟨⟨Y, Y, Y, Y, Y, Y, Y, Y, Y, Y, Y, trivial⟩, leb⟩, rfl, trivial⟩ Y Y Y (fun _ => (Kx Y Y (Ko Y Y Y Y (Ks Y Y (Ko Y Y Y Y (Kd (kH (hc _ .normA))))))))))))) (kAlloc Y Y (kAlt (Kx Y Y (Ku true (ok_impl_Msg_reply _ _ prx prx) ⟨⟨⟨Y, Y, Y, Y, Y, Y, Y, Y, Y, Y, Y, trivial⟩, leb⟩, rfl, trivial⟩ Y Y Y (fun _ => (kAlloc Y Y (Kx Y Y (Ko Y Y Y Y (Ks Y Y (Ko Y Y Y Y (Kd (kH (hc _ .normA))))))))))) (kAlloc Y Y (Kx Y Y (Ku true (ok_impl_Msg_reply _ _ prx prx) ⟨⟨⟨Y, Y, Y, Y, Y, Y, Y, Y, Y, Y, Y, trivial⟩, leb⟩, rfl, trivial⟩ Y Y Y (fun _ => (Kx Y Y (Ko Y Y Y Y (Ks Y Y (Ko Y Y Y Y (Kd (kH (hc _ .normA)))))))))))))))))))))
 refine kSub (Sub.frzBox (rid 5 0) (rid 13 7) 7 rfl rfl rfl rfl rfl) ?_
 obtain ⟨R, hR⟩ : ∃ R, R = ansRaw z m := ⟨_, rfl⟩
 refine Kb (kCut ⟨tabSl [(2, .c (.ptr (rid 2 0) 1 0)), (3, .c (.ptr (rid 3 0) 1 0)), (4, .c (.ptr (rid 4 0) 1 0)), (5, .c (.ptr (rid 5 0) 1 0))], obTab 1 [(rid 2 0, ⟨1, 0, .box (z.cells.map .d)⟩), (rid 3 0, ⟨1, 0, .box (m.cells.map .d)⟩), (rid 4 0, ⟨1, 0, .box [.d (.sc (.int .i64 0)), .d (.sc (.bool false)), .d (.sc (.int .i64 0)), .d (.sc (.bool false)), .d (.sc (.int .i64 0)), .nil 2, .nil 7, .nil 7, .nil 7, .nil 9, .nil 9]⟩), (rid 5 0, ⟨1, 0, .box [.d (.sc (.int .i64 R.id)), .d (.sc (.bool R.reply)), .d (.sc (.int .i64 R.op)), .d (.sc (.bool R.auth)), .d (.sc (.int .i64 R.code)), .arr (rid 13 5) 1, .arr (rid 13 6) 1, .d (encR R.au), .arr (rid 13 8) 1, .arr (rid 13 9) 1, .arr (rid 13 10) 1]⟩), (rid 13 5, ⟨1, 0, .arr true (encQ R.qs)⟩), (rid 13 6, ⟨1, 0, .arr false (encR R.an)⟩), (rid 13 8, ⟨1, 0, .arr false (encR R.mo)⟩), (rid 13 9, ⟨1, 0, .arr true (encW R.pr)⟩), (rid 13 10, ⟨1, 0, .arr true (encW R.up)⟩)], []⟩ ?_ (fun x hc => ?_))
 case refine_2 =>
  refine Kbc (Ka Y (Kd (Kt ?_)))
  refine kLoop (α := { y : Nat × Msg × List (List UInt8) // (y.1 ≤ 6 ∧ nameOk y.2.2 = true) ∧ AnsP z m y.1 y.2.1 ∧ R = ansGo z (m.qs[0]'hq0).ty (6 - y.1) (decide (y.1 = 0)) y.2.1 y.2.2 }) (fun y => ⟨tabSl [(2, .c (.ptr (rid 2 0) 1 0)), (3, .c (.ptr (rid 3 0) 1 0)), (4, .c (.ptr (rid 4 0) 1 0)), (5, .c (.ptr (rid 5 0) 1 0)), (6, .c (.ptr (rid 6 0) 1 0)), (19, .i y.1.1)], obTab 1 [(rid 2 0, ⟨1, 0, .box (z.cells.map .d)⟩), (rid 3 0, ⟨1, 0, .box (m.cells.map .d)⟩), (rid 4 0, ⟨1, 0, .box [.d (.sc (.int .i64 0)), .d (.sc (.bool false)), .d (.sc (.int .i64 0)), .d (.sc (.bool false)), .d (.sc (.int .i64 0)), .nil 2, .nil 7, .nil 7, .nil 7, .nil 9, .nil 9]⟩), (rid 5 0, ⟨1, 0, .box [.d (.sc (.int .i64 m.id)), .d (.sc (.bool true)), .d (.sc (.int .i64 m.op)), .d (.sc (.bool y.1.2.1.auth)), .d (.sc (.int .i64 0)), .arr (rid 13 5) 1, .arr (rid 13 6) 1, .d (encR []), .arr (rid 13 8) 1, .arr (rid 13 9) 1, .arr (rid 13 10) 1]⟩), (rid 13 5, ⟨1, 0, .arr true (encQ [m.qs.getD 0 ⟨[], 0⟩])⟩), (rid 13 6, ⟨1, 0, .arr false (encR y.1.2.1.an)⟩), (rid 13 8, ⟨1, 0, .arr false (encR [])⟩), (rid 13 9, ⟨1, 0, .arr true (encW [])⟩), (rid 13 10, ⟨1, 0, .arr true (encW [])⟩), (rid 6 0, ⟨1, 0, .box [.d (encBB y.1.2.2)]⟩)], []⟩) (fun y => 6 - y.1.1) ⟨(0, repM m 0, (m.qs[0]'hq0).name), ⟨Nat.zero_le _, (hqg ▸ hp.qn)⟩, repM_p z m, (by rw [hR]; unfold ansRaw; rw [hqg]; rfl)⟩ .normA ?_
  rintro ⟨⟨i, ⟨oid, orp, oop, oau, ocd, oqs, oan, oas, omo, opr, oup⟩, n⟩, ⟨hi, hn⟩, hA, hG⟩
  simp only at hi hn hA hG ⊢
  have hA0 := hA
  obtain ⟨a1, a2, a3, a4, a5, a6, a7, a8, a9, a10⟩ := hA0
  simp only at a1 a2 a3 a4 a5 a6 a7 a8 a9 a10
  subst a1 a2 a3 a4 a6 a7 a8 a9 a10
  rcases Nat.lt_or_ge i 6 with hlt | hge
  ·have hsn : SmallBB n := .ok hn
   have hl := zone_look (n := n) (t := (m.qs[0]'hq0).ty) hz
   have hlr : SmallRs (lookupN z n (m.qs[0]'hq0).ty).1 := ⟨by omega, fun r hr => hsz.r.mem r (hl.2 r hr)⟩
   have han := a5.1
   obtain ⟨k, hk⟩ : ∃ k, 6 - i = k + 1 := ⟨5 - i, by omega⟩
   rw [hk] at hG
   unfold ansGo at hG
   have htp := topIx_lt hz
   have hpos := zoneOk_pos hz
   have hlk := look_alias (t := (m.qs[0]'hq0).ty) hz hn hask
   rcases look_codes z n (m.qs[0]'hq0).ty with e | e | e | e | e | e
   ·have hR5 : R = ⟨m.id, true, m.op, true, 0, [m.qs.getD 0 ⟨[], 0⟩], oan ++ (lookupN z n (m.qs[0]'hq0).ty).1, [], [], [], []⟩ := by rw [hG, if_pos e]
    subst hR5
    clear hG hR
    refine Kbc (Kj Y Y Y (Kdb (Km Y (fun g0 => Kn (Kb (Kt (Kbc (Ka Y (Ka Y (Kdb (kRegD (Ke Y Y Y (Ke Y Y Y (Kf Y Y (Ke Y Y Y (kIadR (m := 0) Y Y Y prl (kFadD Y (Ky Y Y (Ks Y Y (kCallD2 (ok_impl_Zone_lookup _ _ _ prx prx) ⟨⟨⟨Y, Y, trivial⟩, leb⟩, ⟨⟨Y, trivial⟩, leb⟩, rfl, trivial⟩ Y Y Y Y (kMovT Y (kExtC Y Y (kExtC Y Y (Ka Y (Ka Y (Kd (kH (Kb (Kbc (Ka Y (Kd (Kt (Kb (Kbc (Kj Y Y Y (Ka Y (Kd (Km Y (fun g1 => Kn (Km Y (fun g2 => Kc (Kf Y Y (Ke Y Y Y (Ka Y ?_)))) (fun g2 => om))) (fun g1 => om)))))))))))))))))))))))))))))))))))) (fun g0 => om))))
    refine kAppR (f := Rr.cells) (l := oan) (l' := (lookupN z n (m.qs[0]'hq0).ty).1) rfl rfl rfl rfl rfl rfl rfl rfl om ?_
    refine Kf Y Y (Ko Y Y Y Y (Kf Y Y (Ko Y Y Y Y (Kd (Kv (Kb (Kbc (Ka Y (Kj Y Y Y (Kd (kCondIN Y (fun g0 => kExit (kExC (kExB' rfl (kExC (kExI (kExB (hc _ .normA))))))) (fun g0 => om))))))))))))
   ·rw [if_neg (by omega), if_pos e] at hG
    have hlk := hlk e
    have e0 : (lookupN z n (m.qs[0]'hq0).ty).1.getD 0 emptyR = (lookupN z n (m.qs[0]'hq0).ty).1[0]'(by omega) := by simp [List.getD_eq_getElem?_getD, hlk.1]
    refine Kbc (Kj Y Y Y (Kdb (Km Y (fun g0 => Kn (Kb (Kt (Kbc (Ka Y (Ka Y (Kdb (kRegD (Ke Y Y Y (Ke Y Y Y (Kf Y Y (Ke Y Y Y (kIadR (m := 0) Y Y Y prl (kFadD Y (Ky Y Y (Ks Y Y (kCallD2 (ok_impl_Zone_lookup _ _ _ prx prx) ⟨⟨⟨Y, Y, trivial⟩, leb⟩, ⟨⟨Y, trivial⟩, leb⟩, rfl, trivial⟩ Y Y Y Y (kMovT Y (kExtC Y Y (kExtC Y Y (Ka Y (Ka Y (Kd (kH (Kb (Kbc (Ka Y (Kd (Kt (Kb (Kbc (Kj Y Y Y (Ka Y (Kd (Km Y (fun g1 => om) (fun g1 => Kc (Kj Y Y Y (Ka Y (Kd (Km Y (fun g2 => Kc (Kf Y Y (Ke Y Y Y (Ka Y ?_)))) (fun g2 => om))))))))))))))))))))))))))))))))))))))))) (fun g0 => om))))
    refine kAppR (f := Rr.cells) (l := oan) (l' := (lookupN z n (m.qs[0]'hq0).ty).1) rfl rfl rfl rfl rfl rfl rfl rfl om ?_
    refine (Kf Y Y (Ko Y Y Y Y (Kf Y Y (Ko Y Y Y Y (Kd (Kv (Kb (Kbc (Ka Y (Kj Y Y Y (Kd (kCondIN Y (fun g0 => om) (fun g0 => Kn (Kc (Ka Y (kIadR (m := 0) Y Y Y prl (kFadD Y (Ky Y Y (Ko Y Y Y Y (Kd (Kv (Kc (kAdd Y Y om (Ka Y (Kd ?_)))))))))))))))))))))))))
    exact kInv ⟨⟨(i + 1, ⟨m.id, true, m.op, true, 0, [m.qs.getD 0 ⟨[], 0⟩], oan ++ (lookupN z n (m.qs[0]'hq0).ty).1, [], [], [], []⟩, ((lookupN z n (m.qs[0]'hq0).ty).1[0]'om).to), ⟨by omega, by rw [← e0]; exact hlk.2⟩, hA.more hz, by rw [hG, e0, show 6 - (i + 1) = k by omega]; rfl⟩, by simp only; omega, .normA⟩
   ·have hR5 : R = ⟨m.id, true, m.op, oau, 0, [m.qs.getD 0 ⟨[], 0⟩], oan, (lookupN z n (m.qs[0]'hq0).ty).1, glueZ z (lookupN z n (m.qs[0]'hq0).ty).1, [], []⟩ := by rw [hG, if_neg (by omega), if_neg (by omega), if_pos e]; rfl
    subst hR5
    clear hG hR
    refine Kbc (Kj Y Y Y (Kdb (Km Y (fun g0 => Kn (Kb (Kt (Kbc (Ka Y (Ka Y (Kdb (kRegD (Ke Y Y Y (Ke Y Y Y (Kf Y Y (Ke Y Y Y (kIadR (m := 0) Y Y Y prl (kFadD Y (Ky Y Y (Ks Y Y (kCallD2 (ok_impl_Zone_lookup _ _ _ prx prx) ⟨⟨⟨Y, Y, trivial⟩, leb⟩, ⟨⟨Y, trivial⟩, leb⟩, rfl, trivial⟩ Y Y Y Y (kMovT Y (kExtC Y Y (kExtC Y Y (Ka Y (Ka Y (Kd (kH (Kb (Kbc (Ka Y (Kd (Kt (Kb (Kbc (Kj Y Y Y (Ka Y (Kd (Km Y (fun g1 => om) (fun g1 => Kc (Kj Y Y Y (Ka Y (Kd (Km Y (fun g2 => om) (fun g2 => Kbc (Kj Y Y Y (Ka Y (Kd (Km Y (fun g3 => Kbc (Ka Y (Kf Y Y (Ko Y Y Y Y (Kdb (Kc (Ka Y (Kq Y Y (Ka Y (Kd (Kt ?_))))))))))) (fun g3 => om)))))))))))))))))))))))))))))))))))))))))))))) (fun g0 => om))))
    refine kLoop (α := { j : Nat // j ≤ (lookupN z n (m.qs[0]'hq0).ty).1.length }) (fun y => ⟨tabSl [(2, .c (.ptr (rid 2 0) 1 0)), (3, .c (.ptr (rid 3 0) 1 0)), (4, .c (.ptr (rid 4 0) 1 0)), (5, .c (.ptr (rid 5 0) 1 0)), (6, .c (.ptr (rid 6 0) 1 0)), (8, .dv (encR (lookupN z n (m.qs[0]'hq0).ty).1)), (9, .i 2), (19, .i i), (50, .dv (encR (lookupN z n (m.qs[0]'hq0).ty).1)), (51, .i (lookupN z n (m.qs[0]'hq0).ty).1.length), (52, .i y.1)], obTab 1 [(rid 2 0, ⟨1, 0, .box (z.cells.map .d)⟩), (rid 3 0, ⟨1, 0, .box (m.cells.map .d)⟩), (rid 4 0, ⟨1, 0, .box [.d (.sc (.int .i64 0)), .d (.sc (.bool false)), .d (.sc (.int .i64 0)), .d (.sc (.bool false)), .d (.sc (.int .i64 0)), .nil 2, .nil 7, .nil 7, .nil 7, .nil 9, .nil 9]⟩), (rid 5 0, ⟨1, 0, .box [.d (.sc (.int .i64 m.id)), .d (.sc (.bool true)), .d (.sc (.int .i64 m.op)), .d (.sc (.bool oau)), .d (.sc (.int .i64 0)), .arr (rid 13 5) 1, .arr (rid 13 6) 1, .d (encR (lookupN z n (m.qs[0]'hq0).ty).1), .arr (rid 13 8) 1, .arr (rid 13 9) 1, .arr (rid 13 10) 1]⟩), (rid 13 5, ⟨1, 0, .arr true (encQ [m.qs.getD 0 ⟨[], 0⟩])⟩), (rid 13 6, ⟨1, 0, .arr false (encR oan)⟩), (rid 13 8, ⟨1, 0, .arr false (encR (glueZ z ((lookupN z n (m.qs[0]'hq0).ty).1.take y.1)))⟩), (rid 13 9, ⟨1, 0, .arr true (encW [])⟩), (rid 13 10, ⟨1, 0, .arr true (encW [])⟩), (rid 6 0, ⟨1, 0, .box [.d (encBB n)]⟩)], []⟩) (fun y => (lookupN z n (m.qs[0]'hq0).ty).1.length - y.1) ⟨0, Nat.zero_le _⟩ .normA ?_
    rintro ⟨j, hj⟩
    simp only
    have hgl := glue_le hz ((lookupN z n (m.qs[0]'hq0).ty).1.take j)
    rw [List.length_take, Nat.min_eq_left hj] at hgl
    rcases Nat.lt_or_ge j (lookupN z n (m.qs[0]'hq0).ty).1.length with hjl | hjg
    ·have hgt := glueZ_take (z := z) (lookupN z n (m.qs[0]'hq0).ty).1 j hjl
     have hbn := (hlr.mem _ (List.getElem_mem hjl)).t.len
     have hso : (setOf z.rrs (lookupN z n (m.qs[0]'hq0).ty).1[j].to 1).length ≤ 60 := Nat.le_trans (List.length_filter_le _ _) hpos.2
     refine Kbc (Kj Y Y Y (Kdb (Km Y (fun g0 => Kn (Kb (Kt (Kbc (kIadR Y Y Y prl (Ky Y Y (kAlloc Y Y (Ko Y Y Y Y (Kd (kRegD (Kf Y Y (Ke Y Y Y (Ke Y Y Y (Kf Y Y (Ke Y Y Y (Kx Y Y (kCallD2 (ok_impl_Zone_set _ _ _ prx prx) ⟨⟨⟨Y, Y, trivial⟩, leb⟩, ⟨⟨Y, trivial⟩, leb⟩, rfl, trivial⟩ Y Y Y Y (Ks Y Y ?_)))))))))))))))))) (fun g0 => om))))
     refine kAppR (f := Rr.cells) (l := glueZ z ((lookupN z n (m.qs[0]'hq0).ty).1.take j)) (l' := setOf z.rrs ((lookupN z n (m.qs[0]'hq0).ty).1[j]'hjl).to 1) rfl rfl rfl rfl rfl rfl rfl rfl om ?_
     refine Kf Y Y (Ks Y Y (Ko Y Y Y Y (Kd (kH (Kv (Kc (kAdd Y Y om (Ka Y (Kd ?_)))))))))
     refine kInv ⟨⟨j + 1, by omega⟩, by simp only; omega, ?_⟩
     simp only [hgt]
     exact .normA
    ·have hje : (lookupN z n (m.qs[0]'hq0).ty).1.take j = (lookupN z n (m.qs[0]'hq0).ty).1 := List.take_of_length_le hjg
     rw [hje]
     refine Kbc (Kj Y Y Y (Kdb (Km Y (fun g0 => om) (fun g0 => kExit (kExC (kExI (kExB (Kv (Kb (Kbc (Ka Y (Kj Y Y Y (Kd (kCondT Y (kExit (kExC (kExB' rfl (kExC (kExI (kExB (hc _ .normA)))))))))))))))))))))
   ·have hR5 : R = ⟨m.id, true, m.op, true, 0, [m.qs.getD 0 ⟨[], 0⟩], oan, ((z.rrs.drop (topIx z.rrs).toNat).take ((topIx z.rrs + 1).toNat - (topIx z.rrs).toNat)), [], [], []⟩ := by rw [hG, if_neg (by omega), if_neg (by omega), if_neg (by omega), if_pos e, zTop_cut hz]
    subst hR5
    clear hG hR
    refine Kbc (Kj Y Y Y (Kdb (Km Y (fun g0 => Kn (Kb (Kt (Kbc (Ka Y (Ka Y (Kdb (kRegD (Ke Y Y Y (Ke Y Y Y (Kf Y Y (Ke Y Y Y (kIadR (m := 0) Y Y Y prl (kFadD Y (Ky Y Y (Ks Y Y (kCallD2 (ok_impl_Zone_lookup _ _ _ prx prx) ⟨⟨⟨Y, Y, trivial⟩, leb⟩, ⟨⟨Y, trivial⟩, leb⟩, rfl, trivial⟩ Y Y Y Y (kMovT Y (kExtC Y Y (kExtC Y Y (Ka Y (Ka Y (Kd (kH (Kb (Kbc (Ka Y (Kd (Kt (Kb (Kbc (Kj Y Y Y (Ka Y (Kd (Km Y (fun g1 => om) (fun g1 => Kc (Kj Y Y Y (Ka Y (Kd (Km Y (fun g2 => om) (fun g2 => Kbc (Kj Y Y Y (Ka Y (Kd (Km Y (fun g3 => om) (fun g3 => Kb (Kbc (Kj Y Y Y (Ka Y (Kd (Km Y (fun g4 => Kn (Km Y (fun g5 => Kb (kRegD (Kf Y Y (Ke Y Y Y (Ke Y Y Y (Ke Y Y Y (Kf Y Y (Kx Y Y (Kp (ok_impl_Zone_top _ prx) ⟨⟨⟨Y, Y, trivial⟩, leb⟩, trivial⟩ Y Y Y Y Y (Kx Y Y (Kp (ok_impl_Zone_top _ prx) ⟨⟨⟨Y, Y, trivial⟩, leb⟩, trivial⟩ Y Y Y Y Y (kAdd Y Y om (kCutBT Y Y Y om (Kx Y Y (Ko Y Y Y Y (Kf Y Y (Ks Y Y (Ko Y Y Y Y (Kd (kH (Kbc (Ka Y (Kj Y Y Y (Kd (Km Y (fun g6 => om) (fun g6 => Kn (Kv (Kb (Kbc (Ka Y (Kj Y Y Y (Kd (kCondIN Y (fun g7 => kExit (kExC (kExB' rfl (kExC (kExI (kExB (hc _ .normA))))))) (fun g7 => om)))))))))))))))))))))))))))))))))) (fun g5 => om))) (fun g4 => om)))))))))))))))))))))))))))))))))))))))))))))))))))) (fun g0 => om))))
   ·have hR5 : R = ⟨m.id, true, m.op, true, 3, [m.qs.getD 0 ⟨[], 0⟩], oan, ((z.rrs.drop (topIx z.rrs).toNat).take ((topIx z.rrs + 1).toNat - (topIx z.rrs).toNat)), [], [], []⟩ := by rw [hG, if_neg (by omega), if_neg (by omega), if_neg (by omega), if_neg (by omega), if_pos e, zTop_cut hz]
    subst hR5
    clear hG hR
    refine Kbc (Kj Y Y Y (Kdb (Km Y (fun g0 => Kn (Kb (Kt (Kbc (Ka Y (Ka Y (Kdb (kRegD (Ke Y Y Y (Ke Y Y Y (Kf Y Y (Ke Y Y Y (kIadR (m := 0) Y Y Y prl (kFadD Y (Ky Y Y (Ks Y Y (kCallD2 (ok_impl_Zone_lookup _ _ _ prx prx) ⟨⟨⟨Y, Y, trivial⟩, leb⟩, ⟨⟨Y, trivial⟩, leb⟩, rfl, trivial⟩ Y Y Y Y (kMovT Y (kExtC Y Y (kExtC Y Y (Ka Y (Ka Y (Kd (kH (Kb (Kbc (Ka Y (Kd (Kt (Kb (Kbc (Kj Y Y Y (Ka Y (Kd (Km Y (fun g1 => om) (fun g1 => Kc (Kj Y Y Y (Ka Y (Kd (Km Y (fun g2 => om) (fun g2 => Kbc (Kj Y Y Y (Ka Y (Kd (Km Y (fun g3 => om) (fun g3 => Kb (Kbc (Kj Y Y Y (Ka Y (Kd (Km Y (fun g4 => om) (fun g4 => Kc (Kj Y Y Y (Ka Y (Kd (Km Y (fun g5 => Kb (kRegD (Kf Y Y (Ke Y Y Y (Ke Y Y Y (Ke Y Y Y (Kf Y Y (Kx Y Y (Kp (ok_impl_Zone_top _ prx) ⟨⟨⟨Y, Y, trivial⟩, leb⟩, trivial⟩ Y Y Y Y Y (Kx Y Y (Kp (ok_impl_Zone_top _ prx) ⟨⟨⟨Y, Y, trivial⟩, leb⟩, trivial⟩ Y Y Y Y Y (kAdd Y Y om (kCutBT Y Y Y om (Kx Y Y (Ko Y Y Y Y (Kf Y Y (Ks Y Y (Ko Y Y Y Y (Kd (kH (Kbc (Ka Y (Kj Y Y Y (Kd (Km Y (fun g6 => Kc (Kf Y Y (Ko Y Y Y Y (Kd (Kv (Kb (Kbc (Ka Y (Kj Y Y Y (Kd (kCondIN Y (fun g7 => kExit (kExC (kExB' rfl (kExC (kExI (kExB (hc _ .normA))))))) (fun g7 => om)))))))))))) (fun g6 => om)))))))))))))))))))))))))) (fun g5 => om))))))))))))))))))))))))))))))))))))))))))))))))))))))))) (fun g0 => om))))
   ·rw [if_neg (by omega), if_neg (by omega), if_neg (by omega), if_neg (by omega), if_neg (by omega)] at hG
    by_cases h0 : i = 0
    ·have hR5 : R = ⟨m.id, true, m.op, oau, 5, [m.qs.getD 0 ⟨[], 0⟩], oan, [], [], [], []⟩ := by rw [hG, if_pos (by simp [h0])]
     subst hR5
     clear hG hR
     refine Kbc (Kj Y Y Y (Kdb (Km Y (fun g0 => Kn (Kb (Kt (Kbc (Ka Y (Ka Y (Kdb (kRegD (Ke Y Y Y (Ke Y Y Y (Kf Y Y (Ke Y Y Y (kIadR (m := 0) Y Y Y prl (kFadD Y (Ky Y Y (Ks Y Y (kCallD2 (ok_impl_Zone_lookup _ _ _ prx prx) ⟨⟨⟨Y, Y, trivial⟩, leb⟩, ⟨⟨Y, trivial⟩, leb⟩, rfl, trivial⟩ Y Y Y Y (kMovT Y (kExtC Y Y (kExtC Y Y (Ka Y (Ka Y (Kd (kH (Kb (Kbc (Ka Y (Kd (Kt (Kb (Kbc (Kj Y Y Y (Ka Y (Kd (Km Y (fun g1 => om) (fun g1 => Kc (Kj Y Y Y (Ka Y (Kd (Km Y (fun g2 => om) (fun g2 => Kbc (Kj Y Y Y (Ka Y (Kd (Km Y (fun g3 => om) (fun g3 => Kb (Kbc (Kj Y Y Y (Ka Y (Kd (Km Y (fun g4 => om) (fun g4 => Kc (Kj Y Y Y (Ka Y (Kd (Km Y (fun g5 => om) (fun g5 => Kbc (Ka Y (Kj Y Y Y (Kd (Km Y (fun g6 => Kc (Kf Y Y (Ko Y Y Y Y (Kd (Kv (Kb (Kbc (Ka Y (Kj Y Y Y (Kd (kCondIN Y (fun g7 => kExit (kExC (kExB' rfl (kExC (kExI (kExB (hc _ .normA))))))) (fun g7 => om)))))))))))) (fun g6 => om)))))))))))))))))))))))))))))))))))))))))))))))))))))))))))))) (fun g0 => om))))
    ·have hR5 : R = ⟨m.id, true, m.op, oau, 0, [m.qs.getD 0 ⟨[], 0⟩], oan, [], [], [], []⟩ := by rw [hG, if_neg (by simp [h0])]
     subst hR5
     clear hG hR
     refine Kbc (Kj Y Y Y (Kdb (Km Y (fun g0 => Kn (Kb (Kt (Kbc (Ka Y (Ka Y (Kdb (kRegD (Ke Y Y Y (Ke Y Y Y (Kf Y Y (Ke Y Y Y (kIadR (m := 0) Y Y Y prl (kFadD Y (Ky Y Y (Ks Y Y (kCallD2 (ok_impl_Zone_lookup _ _ _ prx prx) ⟨⟨⟨Y, Y, trivial⟩, leb⟩, ⟨⟨Y, trivial⟩, leb⟩, rfl, trivial⟩ Y Y Y Y (kMovT Y (kExtC Y Y (kExtC Y Y (Ka Y (Ka Y (Kd (kH (Kb (Kbc (Ka Y (Kd (Kt (Kb (Kbc (Kj Y Y Y (Ka Y (Kd (Km Y (fun g1 => om) (fun g1 => Kc (Kj Y Y Y (Ka Y (Kd (Km Y (fun g2 => om) (fun g2 => Kbc (Kj Y Y Y (Ka Y (Kd (Km Y (fun g3 => om) (fun g3 => Kb (Kbc (Kj Y Y Y (Ka Y (Kd (Km Y (fun g4 => om) (fun g4 => Kc (Kj Y Y Y (Ka Y (Kd (Km Y (fun g5 => om) (fun g5 => Kbc (Ka Y (Kj Y Y Y (Kd (Km Y (fun g6 => om) (fun g6 => Kn (Kv (Kb (Kbc (Ka Y (Kj Y Y Y (Kd (kCondIN Y (fun g7 => kExit (kExC (kExB' rfl (kExC (kExI (kExB (hc _ .normA))))))) (fun g7 => om)))))))))))))))))))))))))))))))))))))))))))))))))))))))))))))))))))))) (fun g0 => om))))
  ·have e : 6 - i = 0 := by omega
   rw [e] at hG
   unfold ansGo at hG
   subst hG
   refine Kbc (Kj Y Y Y (Kdb (Km Y (fun g0 => om) (fun g0 => kExit (kExC (kExI (kExB (hc _ .normA))))))))
 have hRs : SmallM R := by rw [hR]; exact (ansRaw_e hz).small hz hm
 have hRR : SmallRs R.an ∧ SmallRs R.au ∧ SmallRs R.mo := ⟨hRs.a, hRs.b, hRs.c⟩
 obtain ⟨hR1, hR2, hR3⟩ := hRR
 unfold ansM
 rw [← hR]
 cases hok : msgOk R
 ·rw [if_neg (by simp)]
  refine Kb (Kbc (Ke Y Y Y (Kp (ok_impl_MsgOk _ prx) ⟨⟨⟨Y, Y, Y, Y, Y, Y, Y, Y, Y, Y, Y, trivial⟩, leb⟩, trivial⟩ Y Y Y Y Y (Kw Y Y (Kd (kCondN Y (fun g0 => Kbc (Ke Y Y Y (Ku true (ok_impl_Msg_reply _ _ prx prx) ⟨⟨⟨Y, Y, Y, Y, Y, Y, Y, Y, Y, Y, Y, trivial⟩, leb⟩, rfl, trivial⟩ Y Y Y (fun _ => (Ko Y Y Y Y (Kd (Kr (Er (ra := [.agg [(.d _), (.d _), (.d _), (.d _), (.d _), (.d _), (.d _), (.d _), (.d _), (.d _), (.d _)]]) rfl rfl)))))))) (fun g0 => Kn (Kb (kRegD (Kf Y Y (Ke Y Y Y (Kf Y Y (Ke Y Y Y (Kf Y Y (Ke Y Y Y (Kx Y Y (Ku true (ok_impl_copyRrs _ prx) ⟨Y, trivial⟩ Y Y Y (fun _ => (Kf Y Y (Kx Y Y (Ku true (ok_impl_copyRrs _ prx) ⟨Y, trivial⟩ Y Y Y (fun _ => (Ks Y Y (Ku true (ok_impl_copyRrs _ prx) ⟨Y, trivial⟩ Y Y Y (fun _ => (Ks Y Y (Ko Y Y Y Y (Kf Y Y (Ks Y Y (Ko Y Y Y Y (Kf Y Y (Ks Y Y (Ko Y Y Y Y (Kd (kH (Kbc (Ke Y Y Y (Ko Y Y Y Y (Kd (kMem [(20480, ⟨1, 0, .box [.d _, .d _, .d _, .d _, .d _, .arr 57349 1, .arr 393216 2, .arr 405504 2, .arr 417792 2, .arr 57353 1, .arr 57354 1]⟩), (57349, ⟨1, 0, .arr true _⟩), (393216, ⟨2, 0, .arr true _⟩), (405504, ⟨2, 0, .arr true _⟩), (417792, ⟨2, 0, .arr true _⟩), (57353, ⟨1, 0, .arr true _⟩), (57354, ⟨1, 0, .arr true _⟩)] [(4, .c (.ptr 20480 1 0))] [] ⟨Y, Y, Y, Y, Y, Y, Y, trivial⟩ ⟨Y, trivial⟩ Y (Kr (Er (ra := [.agg [(.d _), (.d _), (.d _), (.d _), (.d _), (.d _), (.d _), (.d _), (.d _), (.d _), (.d _)]]) rfl ?_))))))))))))))))))))))))))))))))))))))))))
  rw [hok] at g0; cases g0
 ·rw [if_pos rfl]
  refine Kb (Kbc (Ke Y Y Y (Kp (ok_impl_MsgOk _ prx) ⟨⟨⟨Y, Y, Y, Y, Y, Y, Y, Y, Y, Y, Y, trivial⟩, leb⟩, trivial⟩ Y Y Y Y Y (Kw Y Y (Kd (kCondN Y (fun g0 => Kbc (Ke Y Y Y (Ku true (ok_impl_Msg_reply _ _ prx prx) ⟨⟨⟨Y, Y, Y, Y, Y, Y, Y, Y, Y, Y, Y, trivial⟩, leb⟩, rfl, trivial⟩ Y Y Y (fun _ => (Ko Y Y Y Y (Kd (Kr (Er (ra := [.agg [(.d _), (.d _), (.d _), (.d _), (.d _), (.d _), (.d _), (.d _), (.d _), (.d _), (.d _)]]) rfl ?_)))))))) (fun g0 => Kn (Kb (kRegD (Kf Y Y (Ke Y Y Y (Kf Y Y (Ke Y Y Y (Kf Y Y (Ke Y Y Y (Kx Y Y (Ku true (ok_impl_copyRrs _ prx) ⟨Y, trivial⟩ Y Y Y (fun _ => (Kf Y Y (Kx Y Y (Ku true (ok_impl_copyRrs _ prx) ⟨Y, trivial⟩ Y Y Y (fun _ => (Ks Y Y (Ku true (ok_impl_copyRrs _ prx) ⟨Y, trivial⟩ Y Y Y (fun _ => (Ks Y Y (Ko Y Y Y Y (Kf Y Y (Ks Y Y (Ko Y Y Y Y (Kf Y Y (Ks Y Y (Ko Y Y Y Y (Kd (kH (Kbc (Ke Y Y Y (Ko Y Y Y Y (Kd (kMem [(20480, ⟨1, 0, .box [.d _, .d _, .d _, .d _, .d _, .arr 57349 1, .arr 393216 2, .arr 405504 2, .arr 417792 2, .arr 57353 1, .arr 57354 1]⟩), (57349, ⟨1, 0, .arr true _⟩), (393216, ⟨2, 0, .arr true _⟩), (405504, ⟨2, 0, .arr true _⟩), (417792, ⟨2, 0, .arr true _⟩), (57353, ⟨1, 0, .arr true _⟩), (57354, ⟨1, 0, .arr true _⟩)] [(4, .c (.ptr 20480 1 0))] [] ⟨Y, Y, Y, Y, Y, Y, Y, trivial⟩ ⟨Y, trivial⟩ Y (Kr (Er (ra := [.agg [(.d _), (.d _), (.d _), (.d _), (.d _), (.d _), (.d _), (.d _), (.d _), (.d _), (.d _)]]) rfl rfl))))))))))))))))))))))))))))))))))))))))))
  rw [hok] at g0; cases g0

def c_slices_Index_Lint_int : C := (.g (.o 0 4 (.mov (.i 0)) .done) (.seq (.g (.o 0 6 (.mov (.t 0)) (.o 1 7 (.len (.t 6)) (.o 2 8 (.mov (.i 0)) .done))) (.block 0 (.loop (.g (.o 0 9 (.bin .lss (.t 8) (.t 7)) .done) (.seq (.cond (.t 9) .skip (.exit 0)) (.seq (.block 1 (.g (.o 0 10 (.mov (.t 8)) (.o 1 5 (.mov (.t 10)) .done)) (.g (.o 0 11 (.mov (.t 1)) (.o 1 12 (.mov (.t 0)) (.o 2 13 (.mov (.t 5)) (.o 3 14 (.iad 1 (.t 12) (.t 13)) (.o 4 15 (.load none (.t 14)) (.o 5 16 (.bin .eql (.t 11) (.t 15)) .done)))))) (.cond (.t 16) (.g (.o 0 17 (.mov (.t 5)) (.o 1 4 (.mov (.t 17)) .done)) .ret) .skip)))) (.reg false (.o 0 18 (.bin .add (.t 8) (.i 1)) (.o 1 8 (.mov (.t 18)) .done))))))))) (.g (.o 0 4 (.mov (.i (-1))) .done) .ret)))
theorem dg_slices_Index_Lint_int : Tryz.f321.body.bind (digC Tryz.prog Tryz.f321.ntmps []) = some c_slices_Index_Lint_int := by kernel_rfl
theorem rs_slices_Index_Lint_int : resSlots Tryz.prog Tryz.f321 = some [.s 4] := by kernel_rfl
theorem ok_slices_Index_Lint_int (l : List Int) (v : Int) (hl : l.length ≤ 4194304) :
  FnOK Tryz.prog 321 [.one (.d (encI l)), .one (.d (.sc (.int .i64 v)))] (fun ra _ => ra = [.one (.d (.sc (.int .i64 (idx (fun x => v == x) l))))]) := by
 refine FnOK.ofK Tryz.func321 (by kernel_rfl) dg_slices_Index_Lint_int rs_slices_Index_Lint_int rfl rfl ?_
 delta c_slices_Index_Lint_int T.o X.i C.g
 refine Kbc (Ka Y (Kdb (Kbc (Ka Y (Kq Y Y (Ka Y (Kd (Kt ?_))))))))
 refine kLoop (α := { i : Nat // i ≤ l.length ∧ ∀ x ∈ l.take i, (v == x) = false })
  (fun y => ⟨tabSl [(0, .dv (encI l)), (1, .i v), (7, .i l.length), (8, .i y.1)], obTab 1 [], []⟩) (fun y => l.length - y.1) ⟨0, by simp⟩
  .normA ?_
 rintro ⟨i, hi, hg⟩
 simp only
 rcases Nat.lt_or_ge i l.length with hlt | hge
 ·refine Kbc (Kj Y Y Y (Kdb (Km Y (fun g0 => Kn (Kb (Kt (Kbc (Ka Y (Ka Y (Kdb (Kc (Ka Y (Ka Y (Ka Y (kIadR Y Y Y prl (Ky Y Y (Kj Y Y Y (Kd (Km Y (fun g1 => Kbc (Ka Y (Ka Y (Kd (Kr (Er (ra := [.one (.d _)]) rfl ?_)))))) (fun g1 => Kn (Kv (Kc (kAdd Y Y om (Ka Y (Kd ?_)))))))))))))))))))))) (fun g0 => om))))
  ·have : l.findIdx? (fun x => v == x) = some i := by
    rw [List.findIdx?_eq_some_iff_getElem]
    refine ⟨hlt, by simp_all, fun j hj => ?_⟩
    simpa using hg _ (by rw [List.mem_take_iff_getElem]; exact ⟨j, by omega, rfl⟩)
   simp [idx, this]
  ·refine kInv ⟨⟨i + 1, hlt, ?_⟩, by simp only; omega, .normA⟩
   intro x hx
   rw [← List.take_append_getElem hlt, List.mem_append] at hx
   rcases hx with hx | hx
   ·exact hg x hx
   ·simp at hx; rw [hx]; simp_all
 ·refine Kbc (Kj Y Y Y (Kdb (Km Y (fun g0 => om) (fun g0 => kExit (kExC (kExI (kExB (Kbc (Ka Y (Kd (Kr (Er (ra := [.one (.d _)]) rfl ?_))))))))))))
  have : l.findIdx? (fun x => v == x) = none := by
   rw [List.findIdx?_eq_none_iff]
   intro x hx
   rw [show i = l.length by omega, List.take_length] at hg
   exact hg x hx
  simp [idx, this]

def c_slices_Contains_Lint_int : C := (.g (.o 0 4 (.mov (.v (.bool false))) .done) (.g (.o 0 5 (.mov (.t 0)) (.o 1 6 (.mov (.t 1)) (.o 2 7 (.call 7 321 [(.t 5), (.t 6)]) (.o 3 8 (.bin .geq (.t 7) (.i 0)) (.o 4 4 (.mov (.t 8)) .done))))) .ret))
theorem dg_slices_Contains_Lint_int : Tryz.f279.body.bind (digC Tryz.prog Tryz.f279.ntmps []) = some c_slices_Contains_Lint_int := by kernel_rfl
theorem rs_slices_Contains_Lint_int : resSlots Tryz.prog Tryz.f279 = some [.s 4] := by kernel_rfl
theorem idx_contains (l : List Int) (v : Int) : decide (idx (fun x => v == x) l ≥ 0) = l.contains v := by
 rw [idx_ge, List.contains_eq_any_beq]
theorem ok_slices_Contains_Lint_int (l : List Int) (v : Int) (hl : l.length ≤ 4194304) :
  FnOK Tryz.prog 279 [.one (.d (encI l)), .one (.d (.sc (.int .i64 v)))] (fun ra _ => ra = [.one (.d (.sc (.bool (l.contains v))))]) := by
 refine FnOK.ofK Tryz.func279 (by kernel_rfl) dg_slices_Contains_Lint_int rs_slices_Contains_Lint_int rfl rfl ?_
 delta c_slices_Contains_Lint_int T.o X.i C.g
 refine Kbc (Ka Y (Kdb (Kc (Ka Y (Ka Y (Kp (ok_slices_Index_Lint_int _ _ prx) ⟨Y, Y, trivial⟩ Y Y Y Y Y (Kj Y Y Y (Ka Y (Kd (Kr (Er (ra := [.one (.d _)]) rfl ?_)))))))))))
 rw [idx_contains]

theorem bestN_cases (zs : List Zone) (at' : List Int) (ip : Int) (n : List (List UInt8)) (k : Nat) : bestN zs at' ip n k = -1 ∨ ∃ b : Nat, b < k ∧ bestN zs at' ip n k = (b : Int) := by
 have := bestN_rng zs at' ip n k
 by_cases h : bestN zs at' ip n k = -1
 ·exact .inl h
 ·exact .inr ⟨(bestN zs at' ip n k).toNat, by omega, by omega⟩
def c_impl_serve : C := (.g (.o 0 7 (.box 7 (.t 3)) (.o 1 8 (.alloc 8 [(.i 0), (.v (.bool false)), (.i 0), (.v (.bool false)), (.i 0), (.n 2), (.n 7), (.n 7), (.n 7), (.n 9), (.n 9)]) (.o 2 9 (.mov (.v (.bool false))) .done))) (.seq (.g (.o 0 13 (.mov (.t 1)) (.o 1 14 (.mov (.t 2)) (.o 2 15 (.call 15 279 [(.t 13), (.t 14)]) (.o 3 16 (.un .not (.t 15)) .done)))) (.cond (.t 16) (.g (.o 0 17 (.build [(.i 0), (.v (.bool false)), (.i 0), (.v (.bool false)), (.i 0), (.n 2), (.n 7), (.n 7), (.n 7), (.n 9), (.n 9)] []) (.op 1 [] none none false (.store (some 11) (.t 8) (.t 17)) (.o 2 9 (.mov (.v (.bool false))) .done))) .ret) .skip)) (.g (.o 0 10 (.mov (.i (-1))) .done) (.seq (.g (.o 0 18 (.mov (.t 0)) (.o 1 19 (.len (.t 18)) (.o 2 20 (.mov (.i 0)) .done))) (.block 0 (.loop (.g (.o 0 21 (.bin .lss (.t 20) (.t 19)) .done) (.seq (.cond (.t 21) .skip (.exit 0)) (.seq (.block 1 (.g (.o 0 22 (.mov (.t 20)) (.o 1 23 (.iad 2 (.t 18) (.t 20)) (.o 2 24 (.load (some 2) (.t 23)) (.o 3 12 (.alloc 12 [(.n 1), (.n 7)]) (.o 4 11 (.mov (.t 22)) (.op 5 [] none none false (.store (some 2) (.t 12) (.t 24)) .done)))))) (.seq (.reg true (.op 0 [] (some 25) none true (.mov (.t 1)) (.op 1 [] (some 26) none true (.mov (.t 11)) (.op 2 [] (some 27) none true (.iad 1 (.t 25) (.t 26)) (.op 3 [] (some 28) none true (.load none (.t 27)) (.op 4 [] (some 29) none true (.mov (.t 2)) (.op 5 [] (some 30) none true (.bin .eql (.t 28) (.t 29)) (.op 6 [] (some 31) none true (.mov (.t 30)) (.op 7 [] (some 32) (some (31, true)) true (.fad (.t 7) 5) (.op 8 [] (some 33) (some (31, true)) true (.load none (.t 32)) (.op 9 [] (some 34) (some (31, true)) true (.iad 2 (.t 33) (.i 0)) (.op 10 [] (some 35) (some (31, true)) true (.fad (.t 34) 0) (.op 11 [] (some 36) (some (31, true)) true (.load (some 1) (.t 35)) (.op 12 [] (some 37) (some (31, true)) true (.fad (.t 12) 0) (.op 13 [] (some 38) (some (31, true)) true (.load (some 1) (.t 37)) (.op 14 [11, 8, 3, 13] (some 39) (some (31, true)) false (.call 39 95 [(.t 36), (.t 38)]) (.op 15 [] (some 40) none true (.pick (.t 31) (.t 39) (.v (.bool false))) (.op 16 [] (some 41) none true (.mov (.t 40)) (.op 17 [] (some 42) (some (41, true)) true (.mov (.t 10)) (.op 18 [] (some 43) (some (41, true)) true (.bin .lss (.t 42) (.i 0)) (.op 19 [] (some 44) (some (41, true)) true (.mov (.t 43)) (.op 20 [] (some 45) (some (44, false)) true (.fad (.t 12) 0) (.op 21 [] (some 46) (some (44, false)) true (.fad (.t 45) 0) (.op 22 [] (some 47) (some (44, false)) true (.load none (.t 46)) (.op 23 [] (some 48) (some (44, false)) true (.len (.t 47)) (.op 24 [] (some 49) (some (44, false)) true (.mov (.t 0)) (.op 25 [] (some 50) (some (44, false)) true (.mov (.t 10)) (.op 26 [] (some 51) (some (44, false)) true (.iad 2 (.t 49) (.t 50)) (.op 27 [] (some 52) (some (44, false)) true (.fad (.t 51) 0) (.op 28 [] (some 53) (some (44, false)) true (.fad (.t 52) 0) (.op 29 [] (some 54) (some (44, false)) true (.load none (.t 53)) (.op 30 [] (some 55) (some (44, false)) true (.len (.t 54)) (.op 31 [] (some 56) (some (44, false)) true (.bin .gtr (.t 48) (.t 55)) (.op 32 [] (some 57) (some (41, true)) true (.pick (.t 44) (.v (.bool true)) (.t 56)) (.op 33 [] (some 58) none true (.pick (.t 41) (.t 57) (.v (.bool false))) .done))))))))))))))))))))))))))))))))))) (.cond (.t 58) (.reg false (.o 0 59 (.mov (.t 11)) (.o 1 10 (.mov (.t 59)) .done))) .skip)))) (.reg false (.o 0 60 (.bin .add (.t 20) (.i 1)) (.o 1 20 (.mov (.t 60)) .done))))))))) (.seq (.g (.o 0 61 (.mov (.t 10)) (.o 1 62 (.bin .lss (.t 61) (.i 0)) .done)) (.cond (.t 62) (.g (.o 0 63 (.load (some 11) (.t 7)) (.o 1 64 (.call 64 280 [(.t 63), (.i 5)]) (.op 2 [] none none false (.store (some 11) (.t 8) (.t 64)) (.o 3 9 (.mov (.v (.bool true))) .done)))) .ret) .skip)) (.seq (.reg true (.op 0 [] (some 65) none true (.mov (.t 0)) (.op 1 [] (some 66) none true (.mov (.t 10)) (.op 2 [] (some 67) none true (.iad 2 (.t 65) (.t 66)) (.op 3 [] (some 68) none true (.load (some 2) (.t 67)) (.op 4 [] (some 69) none true (.load (some 11) (.t 7)) (.op 5 [3, 4] (some 70) none false (.call 70 281 [(.t 68), (.t 69)]) (.op 6 [3, 4] none none false (.store (some 11) (.t 8) (.t 70)) (.op 7 [] (some 9) none true (.mov (.v (.bool true))) .done))))))))) .ret))))))
theorem dg_impl_serve : Tryz.f225.body.bind (digC Tryz.prog Tryz.f225.ntmps []) = some c_impl_serve := by kernel_rfl
theorem rs_impl_serve : resSlots Tryz.prog Tryz.f225 = some [.m 8 (some 11), .s 9] := by kernel_rfl
theorem ok_impl_serve (zs : List Zone) (at' : List Int) (ip : Int) (m : Msg) (hz : ∀ z ∈ zs, zoneOk z = true) (hzl : zs.length ≤ 5) (ha : at'.length = zs.length) (hm : msgOk m = true) (hop : m.op = 0) :
  FnOK Tryz.prog 225 [.one (.d (encL 2 Zone.cells zs)), .one (.d (encI at')), .one (.d (.sc (.int .i64 ip))), .agg (m.cells.map .d)] (fun ra _ => ra = [.agg [.d (.sc (.int .i64 (serveN zs at' ip m).1.id)), .d (.sc (.bool (serveN zs at' ip m).1.reply)), .d (.sc (.int .i64 (serveN zs at' ip m).1.op)), .d (.sc (.bool (serveN zs at' ip m).1.auth)), .d (.sc (.int .i64 (serveN zs at' ip m).1.code)), .d (encQ (serveN zs at' ip m).1.qs), .d (encR (serveN zs at' ip m).1.an), .d (encR (serveN zs at' ip m).1.au), .d (encR (serveN zs at' ip m).1.mo), .d (encW (serveN zs at' ip m).1.pr), .d (encW (serveN zs at' ip m).1.up)], .one (.d (.sc (.bool (serveN zs at' ip m).2)))]) := by
 refine FnOK.ofK Tryz.func225 (by kernel_rfl) dg_impl_serve rs_impl_serve rfl rfl ?_
 delta c_impl_serve T.o X.i C.g
 have hp := MayP.of (by unfold msgOk at hm; simp only [Bool.and_eq_true] at hm; exact hm.1)
 have hsm := msgOk_small hm
 have hq1 := hp.q1
 have hq0 : 0 < m.qs.length := by omega
 have hsq := hsm.q.mem _ (List.getElem_mem hq0)
 have hsq1 := hsq.len
 have hsq2 := hsq.mem
 have hqe : (m.qs.getD 0 ⟨[], 0⟩) = m.qs[0] := by rw [List.getD_eq_getElem?_getD, List.getElem?_eq_getElem hq0]; rfl
 have hal : at'.length ≤ 4194304 := by omega
 cases hc : at'.contains ip with
 | false =>
  have e : serveN zs at' ip m = (nothingM, false) := by unfold serveN; rw [hc]; rfl
  rw [e]
  refine Kbc (kBox Y Y Y Y Y (kAlloc Y Y (Ka Y (Kdb (Kbc (Ka Y (Ka Y (Kp (ok_slices_Contains_Lint_int _ _ prx) ⟨Y, Y, trivial⟩ Y Y Y Y Y (Kw Y Y (Kd (kCondN Y (fun g0 => Kbc (kBuildG Y (Ko Y Y Y Y (Ka Y (Kd (Kr (Er (ra := [.agg [(.d _), (.d _), (.d _), (.d _), (.d _), (.d _), (.d _), (.d _), (.d _), (.d _), (.d _)], .one (.d _)]) rfl rfl))))))) (fun g0 => Kn (Kbc (Ka Y (Kdb (Kbc (Ka Y (Kq Y Y (Ka Y (Kd (Kt ?_)))))))))))))))))))))
  rw [hc] at g0; cases g0
 | true =>
  have hstopo19 := trivial
  refine Kbc (kBox Y Y Y Y Y (kAlloc Y Y (Ka Y (Kdb (Kbc (Ka Y (Ka Y (Kp (ok_slices_Contains_Lint_int _ _ prx) ⟨Y, Y, trivial⟩ Y Y Y Y Y (Kw Y Y (Kd (kCondN Y (fun g0 => Kbc (kBuildG Y (Ko Y Y Y Y (Ka Y (Kd (Kr (Er (ra := [.agg [(.d _), (.d _), (.d _), (.d _), (.d _), (.d _), (.d _), (.d _), (.d _), (.d _), (.d _)], .one (.d _)]) rfl ?_))))))) (fun g0 => Kn (Kbc (Ka Y (Kdb (Kb ?_))))))))))))))))
  ·rw [hc] at g0; cases g0
  clear hstopo19
  have hne : ∀ b : Nat, b < zs.length → zs.getD b emptyZ = zs.getD b emptyZ := fun _ _ => rfl
  have gz : ∀ b : Nat, ∀ h : b < zs.length, zs.getD b emptyZ = zs[b] := fun b h => by rw [List.getD_eq_getElem?_getD, List.getElem?_eq_getElem h]; rfl
  have ga : ∀ b : Nat, ∀ h : b < at'.length, at'.getD b 0 = at'[b] := fun b h => by rw [List.getD_eq_getElem?_getD, List.getElem?_eq_getElem h]; rfl
  refine Kc (Ka Y (Kq Y Y (Ka Y (Kd (Kt ?_)))))
  refine kLoop (α := { i : Nat // i ≤ zs.length }) (fun y => ⟨tabSl [(0, .c (.d (encL 2 Zone.cells zs))), (1, .c (.d (encI at'))), (2, .i ip), (7, .c (.ptr (rid 7 0) 1 0)), (8, .c (.ptr (rid 8 0) 1 0)), (10, .i (bestN zs at' ip m.qs[0].name y.1)), (18, .c (.d (encL 2 Zone.cells zs))), (19, .i zs.length), (20, .i y.1)], obTab 1 [(rid 7 0, ⟨1, 0, .box (m.cells.map .d)⟩), (rid 8 0, ⟨1, 0, .box [.any, .any, .any, .any, .any, .any, .any, .any, .any, .any, .any]⟩)], []⟩) (fun y => zs.length - y.1) ⟨0, Nat.zero_le _⟩ .normA ?_
  rintro ⟨i, hi⟩
  simp only
  rcases Nat.lt_or_ge i zs.length with hlt | hge
  ·have hzo := zoneOk_small (hz _ (List.getElem_mem hlt))
   have hzn := hzo.o
   have hzn1 := hzn.len
   have hzn2 := hzn.mem
   have hai : i < at'.length := by omega
   have hb1 : bestN zs at' ip m.qs[0].name (i + 1) = if at'[i] = ip ∧ underN m.qs[0].name zs[i].origin = true ∧ (bestN zs at' ip m.qs[0].name i < 0 ∨ (zs.getD (bestN zs at' ip m.qs[0].name i).toNat emptyZ).origin.length < zs[i].origin.length) then (i : Int) else bestN zs at' ip m.qs[0].name i := by
    rw [← ga i hai, ← gz i hlt]; rfl
   rcases bestN_cases zs at' ip m.qs[0].name i with hbb | ⟨b, hbi, hbb⟩
   ·rw [hbb]
    rw [hbb] at hb1
    refine Kbc (Kj Y Y Y (Kdb (Km Y (fun g0 => Kn (Kb (Kt (Kbc (Ka Y (kIadR Y Y Y prl (Ky Y Y (kAlloc Y Y (Ka Y (Ko Y Y Y Y (Kdb (kRegD (Ka Y (Ka Y (kIadR Y Y Y prl (Ky Y Y (Ka Y (Kj Y Y Y (Ka Y (kGP Y (fun g1 => Ki Y (Kf Y Y (Ki Y (Ke Y Y Y (Ki Y (kIadR (m := 0) Y Y Y prl (Ki Y (kFadD Y (Ki Y (Ky Y Y (Ki Y (Kf Y Y (Ki Y (Ke Y Y Y (Ks Y Y (Ki Y (Kp (ok_impl_Name_under _ _ prx prx) ⟨⟨⟨Y, trivial⟩, leb⟩, ⟨⟨Y, trivial⟩, leb⟩, trivial⟩ Y Y Y Y Y (Kk Y (Ka Y (Ka Y (kGS Y (fun g2 => Ki Y (Ka Y (Ki Y (Kj Y Y Y (Ki Y (Ka Y (Kg Y (Kg Y (Kg Y (Kg Y (Kg Y (Kg Y (Kg Y (Kg Y (Kg Y (Kg Y (Kg Y (Kg Y (Ki Y (Kk Y (Ka Y (Kk Y (Ka Y (Kd (kH (kCondT Y (Kc (Ka Y (Ka Y (Kd (Kv (Kc (kAdd Y Y om (Ka Y (Kd ?_))))))))))))))))))))))))))))))))))) (fun g2 => Kg Y (Kg Y (Kg Y (kGU Y (kGU Y (kGU Y (kGU Y (kGU Y (kGU Y (kGU Y (kGU Y (kGU Y (kGU Y (kGU Y (kGU Y (Kg Y (Kl Y (Ka Y (Kd (kH (kCondF Y (Kn (Kv (Kc (kAdd Y Y om (Ka Y (Kd ?_)))))))))))))))))))))))))))))))))))))))))))))))) (fun g1 => Kg Y (Kg Y (Kg Y (Kg Y (Kg Y (Kg Y (Kg Y (Ks Y Y (Kg Y (Kl Y (Ka Y (Ka Y (Kg Y (Kg Y (Kg Y (kGU Y (kGU Y (kGU Y (kGU Y (kGU Y (kGU Y (kGU Y (kGU Y (kGU Y (kGU Y (kGU Y (kGU Y (Kg Y (Kl Y (Ka Y (Kd (kH (kCondF Y (Kn (Kv (Kc (kAdd Y Y om (Ka Y (Kd ?_))))))))))))))))))))))))))))))))))))))))))))))))))))))))))) (fun g0 => om))))
    ·refine kInv ⟨⟨i + 1, by omega⟩, by simp only; omega, ?_⟩
     rw [hb1, if_pos ⟨g1, g2, .inl (by decide)⟩]; exact .normA
    ·refine kInv ⟨⟨i + 1, by omega⟩, by simp only; omega, ?_⟩
     rw [hb1, if_neg fun h => by rw [g2] at h; exact absurd h.2.1 (by decide)]; exact .normA
    ·refine kInv ⟨⟨i + 1, by omega⟩, by simp only; omega, ?_⟩
     rw [hb1, if_neg fun h => g1 h.1]; exact .normA
   ·have hbl : b < zs.length := by omega
    rw [hbb]
    rw [hbb, Int.toNat_natCast, gz b hbl] at hb1
    have hzb := (zoneOk_small (hz _ (List.getElem_mem hbl))).o.len
    refine Kbc (Kj Y Y Y (Kdb (Km Y (fun g0 => Kn (Kb (Kt (Kbc (Ka Y (kIadR Y Y Y prl (Ky Y Y (kAlloc Y Y (Ka Y (Ko Y Y Y Y (Kdb (kRegD (Ka Y (Ka Y (kIadR Y Y Y prl (Ky Y Y (Ka Y (Kj Y Y Y (Ka Y (kGP Y (fun g1 => Ki Y (Kf Y Y (Ki Y (Ke Y Y Y (Ki Y (kIadR (m := 0) Y Y Y prl (Ki Y (kFadD Y (Ki Y (Ky Y Y (Ki Y (Kf Y Y (Ki Y (Ke Y Y Y (Ks Y Y (Ki Y (Kp (ok_impl_Name_under _ _ prx prx) ⟨⟨⟨Y, trivial⟩, leb⟩, ⟨⟨Y, trivial⟩, leb⟩, trivial⟩ Y Y Y Y Y (Kk Y (Ka Y (Ka Y (kGS Y (fun g2 => Ki Y (Ka Y (Ki Y (Kj Y Y Y (Ki Y (Ka Y (Ki Y (Kf Y Y (Ki Y (Kf Y Y (Ki Y (Ke Y Y Y (Ki Y (Kq Y Y (Ki Y (Ka Y (Ki Y (Ka Y (Ki Y (kIadR Y Y Y prl (Ki Y (kFadD Y (Ki Y (kFadD Y (Ki Y (Ky Y Y (Ki Y (Kq Y Y (Ki Y (Kj Y Y Y (Ki Y (Kl Y (Ka Y (Kk Y (Ka Y (Kd (kH (Km Y (fun g3 => Kc (Ka Y (Ka Y (Kd (Kv (Kc (kAdd Y Y om (Ka Y (Kd ?_))))))))) (fun g3 => Kn (Kv (Kc (kAdd Y Y om (Ka Y (Kd ?_)))))))))))))))))))))))))))))))))))))))))))) (fun g2 => Kg Y (Kg Y (Kg Y (kGU Y (kGU Y (kGU Y (kGU Y (kGU Y (kGU Y (kGU Y (kGU Y (kGU Y (kGU Y (kGU Y (kGU Y (Kg Y (Kl Y (Ka Y (Kd (kH (kCondF Y (Kn (Kv (Kc (kAdd Y Y om (Ka Y (Kd ?_)))))))))))))))))))))))))))))))))))))))))))))))) (fun g1 => Kg Y (Kg Y (Kg Y (Kg Y (Kg Y (Kg Y (Kg Y (Ks Y Y (Kg Y (Kl Y (Ka Y (Ka Y (Kg Y (Kg Y (Kg Y (kGU Y (kGU Y (kGU Y (kGU Y (kGU Y (kGU Y (kGU Y (kGU Y (kGU Y (kGU Y (kGU Y (kGU Y (Kg Y (Kl Y (Ka Y (Kd (kH (kCondF Y (Kn (Kv (Kc (kAdd Y Y om (Ka Y (Kd ?_))))))))))))))))))))))))))))))))))))))))))))))))))))))))))) (fun g0 => om))))
    ·refine kInv ⟨⟨i + 1, by omega⟩, by simp only; omega, ?_⟩
     rw [hb1, if_pos ⟨g1, g2, .inr (by omega)⟩]; exact .normA
    ·refine kInv ⟨⟨i + 1, by omega⟩, by simp only; omega, ?_⟩
     rw [hb1, if_neg fun h => by have := h.2.2; omega]; exact .normA
    ·refine kInv ⟨⟨i + 1, by omega⟩, by simp only; omega, ?_⟩
     rw [hb1, if_neg fun h => by rw [g2] at h; exact absurd h.2.1 (by decide)]; exact .normA
    ·refine kInv ⟨⟨i + 1, by omega⟩, by simp only; omega, ?_⟩
     rw [hb1, if_neg fun h => g1 h.1]; exact .normA
  ·have he : i = zs.length := by omega
   subst he
   rcases bestN_cases zs at' ip m.qs[0].name zs.length with hbb | ⟨b, hbi, hbb⟩
   ·have e : serveN zs at' ip m = (repM m 5, true) := by unfold serveN; rw [if_pos hc, hqe, hbb]; rfl
    rw [hbb, e]
    refine Kbc (Kj Y Y Y (Kdb (Km Y (fun g0 => om) (fun g0 => kExit (kExC (kExI (kExB (Kb (Kbc (Ka Y (Kj Y Y Y (Kd (kCondT Y (Kbc (Ke Y Y Y (Ku true (ok_impl_Msg_reply _ _ prx prx) ⟨⟨⟨Y, Y, Y, Y, Y, Y, Y, Y, Y, Y, Y, trivial⟩, leb⟩, rfl, trivial⟩ Y Y Y (fun _ => (Ko Y Y Y Y (Ka Y (Kd (Kr (Er (ra := [.agg [(.d _), (.d _), (.d _), (.d _), (.d _), (.d _), (.d _), (.d _), (.d _), (.d _), (.d _)], .one (.d _)]) rfl rfl))))))))))))))))))))))
   ·have e : serveN zs at' ip m = (ansM zs[b] m, true) := by
     unfold serveN; rw [if_pos hc, hqe, hbb, if_neg (by omega), Int.toNat_natCast, gz b hbi]
    have hzb := hz _ (List.getElem_mem hbi)
    rw [hbb, e]
    refine Kbc (Kj Y Y Y (Kdb (Km Y (fun g0 => om) (fun g0 => kExit (kExC (kExI (kExB (Kb (Kbc (Ka Y (Kj Y Y Y (Kd (kCondF Y (Kn (Kb (kRegD (Ka Y (Ka Y (kIadR Y Y Y prl (Ky Y Y (Ke Y Y Y (Ks Y Y (kCallD2 (ok_impl_Zone_answer _ _ prx prx prx) ⟨⟨⟨Y, Y, trivial⟩, leb⟩, ⟨⟨Y, Y, Y, Y, Y, Y, Y, Y, Y, Y, Y, trivial⟩, leb⟩, trivial⟩ Y Y Y Y (Ks Y Y (Ko Y Y Y Y (Ka Y (Kd (kH (Kr (Er (ra := [.agg [(.d _), (.d _), (.d _), (.d _), (.d _), (.d _), (.d _), (.d _), (.d _), (.d _), (.d _)], .one (.d _)]) rfl rfl))))))))))))))))))))))))))))))

theorem idx_succ {α : Type} (g : α → Bool) (l : List α) (i : Nat) (h : i < l.length) : idx g (l.take (i + 1)) = if idx g (l.take i) < 0 then (if g l[i] then (i : Int) else -1) else idx g (l.take i) := by
 unfold idx
 rw [← List.take_append_getElem h, List.findIdx?_append]
 cases hq : (l.take i).findIdx? g with
 | some j => simp only [Option.some_or]; rw [if_neg (by omega)]
 | none =>
  rw [if_pos (by decide)]
  by_cases hg : g l[i] = true
  ·simp [List.findIdx?_cons, hg, Nat.min_eq_left (Nat.le_of_lt h)]
  ·simp [List.findIdx?_cons, hg]
structure FJ (k : Nat) (u : Task) : Prop where
 k : (7 : Int) ≤ k + u.steps
 p : 0 ≤ u.steps ∧ u.steps ≤ 5
 n : SmallBB u.name
 z : SmallBB u.zone
 a : (u.answers.length : Int) ≤ 100 + u.steps
 m : ∀ r ∈ u.answers, SmallR r
theorem FJ.ali {k : Nat} {u : Task} (h : FJ (k + 1) u) {r : Rr} (hr : SmallR r) (h0 : ¬ (stpI (aliT u r)).state = 1) : FJ k (stpI (aliT u r)) := by
 have hk := h.k
 have hp := h.p
 have ha := h.a
 unfold stpI at h0 ⊢
 split at h0
 ·exact absurd rfl h0
 ·rename_i h6
  have h6' : ¬ u.steps + 1 = 6 := h6
  rw [if_neg h6]
  refine ⟨?_, ?_, hr.t, h.z, ?_, fun x hx => ?_⟩
  ·show (7 : Int) ≤ k + (u.steps + 1); omega
  ·show 0 ≤ u.steps + 1 ∧ u.steps + 1 ≤ 5; omega
  ·show ((u.answers ++ [r]).length : Int) ≤ 100 + (u.steps + 1)
   rw [List.length_append, List.length_singleton]; omega
  ·rcases List.mem_append.1 hx with hx | hx
   ·exact h.m x hx
   ·rw [List.mem_singleton] at hx; rw [hx]; exact hr
def c_impl_inside : C := (.g (.o 0 3 (.box 3 (.t 1)) (.o 1 4 (.mov (.n 7)) .done)) (.g (.o 0 8 (.lit 8 7 [(.n 1), (.i 0), (.i 0), (.i 0), (.n 1), (.n 1), (.n 1)] 0 []) (.o 1 5 (.mov (.t 8)) .done)) (.seq (.g (.o 0 9 (.mov (.t 0)) (.o 1 10 (.len (.t 9)) (.o 2 11 (.mov (.i 0)) .done))) (.block 0 (.loop (.g (.o 0 12 (.bin .lss (.t 11) (.t 10)) .done) (.seq (.cond (.t 12) .skip (.exit 0)) (.seq (.block 1 (.g (.o 0 13 (.iad 7 (.t 9) (.t 11)) (.o 1 14 (.load (some 7) (.t 13)) (.o 2 7 (.alloc 7 [(.n 1), (.i 0), (.i 0), (.i 0), (.n 1), (.n 1), (.n 1)]) (.op 3 [] none none false (.store (some 7) (.t 7) (.t 14)) .done)))) (.g (.o 0 15 (.fad (.t 7) 0) (.o 1 16 (.load (some 1) (.t 15)) (.o 2 17 (.load (some 1) (.t 3)) (.o 3 18 (.call 18 95 [(.t 16), (.t 17)]) .done)))) (.cond (.t 18) (.reg false (.o 0 19 (.mov (.t 5)) (.o 1 20 (.load (some 7) (.t 7)) (.o 2 21 (.lit 21 7 [(.n 1), (.i 0), (.i 0), (.i 0), (.n 1), (.n 1), (.n 1)] 1 [(0, 7, (.t 20))]) (.o 3 22 (.app 22 7 120 (.t 19) (.t 21)) (.o 4 5 (.mov (.t 22)) .done)))))) .skip)))) (.reg false (.o 0 23 (.bin .add (.t 11) (.i 1)) (.o 1 11 (.mov (.t 23)) .done))))))))) (.g (.o 0 24 (.mov (.t 5)) (.o 1 4 (.mov (.t 24)) .done)) .ret))))
theorem dg_impl_inside : Tryz.f322.body.bind (digC Tryz.prog Tryz.f322.ntmps []) = some c_impl_inside := by kernel_rfl
theorem rs_impl_inside : resSlots Tryz.prog Tryz.f322 = some [.s 4] := by kernel_rfl
theorem ok_impl_inside (l : List Rr) (z : List (List UInt8)) (hs : SmallRs l) (hz : z.length ≤ 4194304) (hz' : ∀ b ∈ z, b.length ≤ 4194304) :
  FnOK Tryz.prog 322 [.one (.d (encR l)), .agg [.d (encBB z)]] (fun ra _ => ra = [.one (.d (encR (insideR l z)))]) := by
 refine FnOK.ofK Tryz.func322 (by kernel_rfl) dg_impl_inside rs_impl_inside rfl rfl ?_
 delta c_impl_inside T.o X.i C.g
 have h1 := hs.len
 refine Kbc (kBox Y Y Y Y Y (Ka Y (Kdb (Kc (kLit Y Y Y Y (Ka Y (Kdb (Kbc (Ka Y (Kq Y Y (Ka Y (Kd (Kt ?_)))))))))))))
 refine kLoop (α := { i : Nat // i ≤ l.length }) (fun y => ⟨tabSl [(3, .c (.ptr (rid 3 0) 1 0)), (5, .c (.arr (rid 8 0) 1)), (9, .dv (encR l)), (10, .i l.length), (11, .i y.1)], obTab 1 [(rid 3 0, ⟨1, 0, .box [.d (encBB z)]⟩), (rid 8 0, ⟨1, 0, .arr false (encR (insideR (l.take y.1) z))⟩)], []⟩) (fun y => l.length - y.1) ⟨0, by simp⟩ .normA ?_
 rintro ⟨i, hi⟩
 simp only
 have hlen : (l.take i).length = i := by simp; omega
 have hle : (insideR (l.take i) z).length ≤ l.length := filter_len _ l i
 rcases Nat.lt_or_ge i l.length with hlt | hge
 ·have hbi := hs.mem _ (List.getElem_mem hlt)
  have n1 := hbi.n.len
  have n2 := hbi.n.mem
  cases hu : underN l[i].name z
  ·have hst : insideR (l.take (i + 1)) z = insideR (l.take i) z := filter_no hlt hu
   refine Kbc (Kj Y Y Y (Kdb (Km Y (fun g0 => Kn (Kb (Kt (Kbc (kIadR Y Y Y om (Ky Y Y (kAlloc Y Y (kMem [(32768, ⟨2, 0, .box [.nil 1, .d _, .d _, .d _, .nil 1, .nil 1, .nil 1]⟩)] [(7, .c (.ptr 32768 2 0)), (14, .g [.d _, .d _, .d _, .d _, .d _, .d _, .d _])] [] ⟨Y, trivial⟩ ⟨Y, Y, trivial⟩ Y (Ko Y Y Y Y (Kdb (Kc (Kf Y Y (Ke Y Y Y (Ke Y Y Y (Kp (ok_impl_Name_under _ _ pr pr) ⟨⟨⟨Y, trivial⟩, leb⟩, ⟨⟨Y, trivial⟩, leb⟩, trivial⟩ Y Y Y Y Y (Kd (kCond Y (fun g1 => (by (simp [*] at g1))) (fun g1 => Kn (Kv (Kc (kAdd Y Y om (Ka Y (Kd ?_))))))))))))))))))))))) (fun g0 => om))))
   refine kInv ⟨⟨i + 1, by omega⟩, by simp only; omega, ?_⟩
   simp only [hst]
   exact .normA
  ·have hst : insideR (l.take (i + 1)) z = insideR (l.take i) z ++ [l[i]] := filter_yes hlt hu
   refine Kbc (Kj Y Y Y (Kdb (Km Y (fun g0 => Kn (Kb (Kt (Kbc (kIadR Y Y Y om (Ky Y Y (kAlloc Y Y (kMem [(32768, ⟨2, 0, .box [.nil 1, .d _, .d _, .d _, .nil 1, .nil 1, .nil 1]⟩)] [(7, .c (.ptr 32768 2 0)), (14, .g [.d _, .d _, .d _, .d _, .d _, .d _, .d _])] [] ⟨Y, trivial⟩ ⟨Y, Y, trivial⟩ Y (Ko Y Y Y Y (Kdb (Kc (Kf Y Y (Ke Y Y Y (Ke Y Y Y (Kp (ok_impl_Name_under _ _ pr pr) ⟨⟨⟨Y, trivial⟩, leb⟩, ⟨⟨Y, trivial⟩, leb⟩, trivial⟩ Y Y Y Y Y (Kd (kCond Y (fun g1 => Kc (Ka Y (Ke Y Y Y (kLit Y Y Y Y (kMem [(36864, ⟨1, 0, .arr false _⟩), (90112, ⟨2, 0, .arr false _⟩)] [(19, .c (.arr 36864 1)), (21, .c (.arr 90112 2))] [] ⟨Y, Y, trivial⟩ ⟨Y, Y, trivial⟩ Y (kAppRec Y Y Y Y Y Y Y om (Ka Y (Kd (Kv (Kc (kAdd Y Y om (Ka Y (Kd ?_))))))))))))) (fun g1 => (by (simp [*] at g1)))))))))))))))))))) (fun g0 => om))))
   refine kInv ⟨⟨i + 1, by omega⟩, by simp only; omega, ?_⟩
   simp only [hst]
   exact .normA
 ·refine Kbc (Kj Y Y Y (Kdb (Km Y (fun g0 => om) (fun g0 => kExit (kExC (kExI (kExB (Kbc (Ka Y (Ka Y (Kd (kMem [(36864, ⟨1, 0, .arr false _⟩)] [(4, .c (.arr 36864 1))] [] ⟨Y, trivial⟩ ⟨Y, trivial⟩ Y (Kr (Er (ra := [.one (.d _)]) rfl ?_))))))))))))))
  rw [show i = l.length by omega, List.take_length]

theorem ok_slices_Grow_Limpl_Rr_impl_Rr (n : Nat) (hn : n ≤ 4194304) : FnOK Tryz.prog 346 [.one (.arr true true (.sl 7 [])), .one (.d (.sc (.int .i64 n)))] (fun ra _ => ra = [.one (.own true (.sl 7 []))]) := by
 refine FnOK.ofWalkGrow Tryz.func346 rfl (by kernel_rfl) fun w v hv => ?_
 have hs : (Tryz.prog.info? 42).map (fun i => (i.size, i.bytes, i.zero.map fun z => z.cells.size)) = some (7, 120, some 7) := by kernel_rfl
 obtain ⟨i0, hi0⟩ : ∃ i0, Tryz.prog.info? 42 = some i0 := by
  cases h : Tryz.prog.info? 42 with
  | none => rw [h] at hs; cases hs
  | some i => exact ⟨i, rfl⟩
 rw [hi0] at hs
 simp only [Option.map_some, Option.some.injEq, Prod.mk.injEq] at hs
 obtain ⟨s1, s2, s30⟩ := hs
 obtain ⟨z, s3, hzs⟩ := Option.map_eq_some_iff.1 s30
 have t22 : Tryz.prog.underlying 35 = some (.slice 42) := by kernel_rfl
 have t3 : Tryz.prog.underlying 3 = some (.int .i64) := by kernel_rfl
 obtain ⟨base, c, cs, rfl, hnil, hcl, hmax, hcs⟩ : ∃ (base : Option Addr) (c : Nat) (cs : List Value), v = .slice base 0 c ∧ (base = none → c = 0) ∧ cs.length = c * 7 ∧ c ≤ maxLen ∧ (∀ a, base = some a → ∀ j v, cs[j]? = some v → w.cell? (a.add j) = some v) := by
  rcases hv with rfl | ⟨b, c, cur, e0, rfl, hb, hmax, hcur⟩
  ·exact ⟨none, 0, [], rfl, fun _ => rfl, rfl, Nat.zero_le _, fun a ha => by cases ha⟩
  ·refine ⟨some ⟨b, 0, none⟩, c, cur.toList, rfl, fun h => (by cases h), by simpa using hcur, hmax, fun a ha j v hj => ?_⟩
   cases ha
   rw [addr_add, Nat.zero_add]
   simp only [World.cell?, hb]
   simpa using hj
 have hc63 : c ≤ 9223372036854775807 := by simpa [maxLen] using hmax
 have h1 : ¬ ((n : Int) < 0) := by omega
 have h2 : Go.RowKit.wrap64 ((c : Int) - ((0 : Nat) : Int)) = (c : Int) - ((0 : Nat) : Int) := by unfold Go.RowKit.wrap64; omega
 have h3 : Go.RowKit.wrap64 ((n : Int) - ((c : Int) - ((0 : Nat) : Int))) = (n : Int) - ((c : Int) - ((0 : Nat) : Int)) := by unfold Go.RowKit.wrap64; omega
 by_cases hroom : n ≤ c
 ·have h4 : ¬ ((n : Int) - ((c : Int) - ((0 : Nat) : Int)) > 0) := by omega
  have fin : Calls Tryz.prog 346 #[.slice base 0 c, .int .i64 n] w fun e w' => e = .returned (.slice base 0 c) ∧ w' = w := by
   go_enter Tryz.func346, Tryz.ntmps346
   go_wp2
   go_ret
   exact ⟨rfl, rfl⟩
  exact fin.mono fun e w' h => .inl h
 ·have h4 : (n : Int) - ((c : Int) - ((0 : Nat) : Int)) > 0 := by omega
  have hold : (Builtin.firstCells i0.size c (.slice base c c)).run Tryz.prog w.drew = .ok cs.toArray w.drew := by
   cases base with
   | none =>
    have h0 := hnil rfl
    subst h0
    have hc0 : cs = [] := List.length_eq_zero_iff.1 (by simpa using hcl)
    rw [hc0]
    exact run_firstCells_none w.drew i0.size 0 0 0
   | some a => exact run_firstCells_some w.drew i0.size c a c c cs (by rw [s1]; exact hcl) (fun j v hj => hcs a rfl j v hj)
  have hrz : ∀ ty, (Builtin.append_ #[35, 3] ty #[.slice base c c, .int .i64 ((n : Int) - ((c : Int) - ((0 : Nat) : Int)))]).run Tryz.prog w =
    .ok (.slice (some ⟨w.heap.size, 0, none⟩) n (grownCap w n c 42)) (w.drew.alloc (.cells (cs.toArray ++ Builtin.zeroCells z.cells (n - c) ++ Builtin.zeroCells z.cells (grownCap w n c 42 - n)) 42)) := fun ty => by
   have h := Lib.run_append_grow_zeros w 35 3 ty 42 i0 z .i64 .i64 t22 t3 hi0 s3 base c c cs hold (n - c) (by omega) (by omega) (by omega) (by omega) (by rw [s2]; omega) (by rw [show c + (n - c) = n by omega]; exact growslice_fits (by omega) (by rw [s2]; omega))
   rw [show c + (n - c) = n by omega] at h
   rw [show (n : Int) - ((c : Int) - ((0 : Nat) : Int)) = ((n - c : Nat) : Int) by omega]
   exact h
  have hGn : n ≤ grownCap w n c 42 := grownCap_ge w _ _ _
  have hGm : grownCap w n c 42 ≤ maxLen := grownCap_le_maxLen w n c 42 (by unfold maxLen; omega)
  obtain ⟨G, hG⟩ : ∃ G, G = grownCap w n c 42 := ⟨_, rfl⟩
  rw [← hG] at hrz hGn hGm
  have hG63 : G ≤ 9223372036854775807 := by unfold maxLen at hGm; omega
  have fin : Calls Tryz.prog 346 #[.slice base 0 c, .int .i64 n] w fun e w' => e = .returned (.slice (some ⟨w.heap.size, 0, none⟩) 0 G) ∧ w' = w.drew.alloc (.cells (cs.toArray ++ Builtin.zeroCells z.cells (n - c) ++ Builtin.zeroCells z.cells (G - n)) 42) := by
   clear hold hG hcs hGm
   go_enter Tryz.func346, Tryz.ntmps346
   cases base with
   | none =>
    have h0 := hnil rfl
    subst h0
    go_wp2_with (at_builtin; refine Lib.wpList_append_run _ rfl _ _ _ _ rfl _ _ rfl rfl _ _ (hrz _) ?_)
    all_goals (go_ret; exact ⟨rfl, rfl⟩)
   | some a =>
    obtain ⟨ab, ao, asp⟩ := a
    go_wp2_with (at_builtin; refine Lib.wpList_append_run _ rfl _ _ _ _ rfl _ _ rfl rfl _ _ (hrz _) ?_)
    all_goals (go_ret; exact ⟨rfl, rfl⟩)
  refine fin.mono fun e w' h => .inr ?_
  obtain ⟨rfl, rfl⟩ := h
  refine ⟨G, cs.toArray ++ Builtin.zeroCells z.cells (n - c) ++ Builtin.zeroCells z.cells (G - n), 42, rfl, ⟨(Go.RowKit.Below.refl _ w).drew.alloc (Nat.le_refl _) _, Nat.le_succ _⟩, (by show (w.heap.push _)[w.heap.size]? = _; exact Array.getElem?_push_size), hGm, ?_⟩
  have hz : ∀ n, (Builtin.zeroCells z.cells n).size = n * 7 := fun n => by rw [size_zeroCells, hzs]
  simp only [Array.size_append, List.size_toArray, hz, hcl]
  omega

def c_slices_Concat_Limpl_Rr_impl_Rr : C := (.g (.o 0 2 (.mov (.n 7)) .done) (.g (.o 0 3 (.mov (.i 0)) .done) (.seq (.g (.o 0 9 (.mov (.t 0)) (.o 1 10 (.len (.t 9)) (.o 2 11 (.mov (.i 0)) .done))) (.block 0 (.loop (.g (.o 0 12 (.bin .lss (.t 11) (.t 10)) .done) (.seq (.cond (.t 12) .skip (.exit 0)) (.seq (.block 1 (.g (.o 0 13 (.iad 1 (.t 9) (.t 11)) (.o 1 14 (.load none (.t 13)) (.o 2 5 (.mov (.t 14)) .done))) (.g (.o 0 15 (.mov (.t 3)) (.o 1 16 (.mov (.t 5)) (.o 2 17 (.len (.t 16)) (.o 3 18 (.bin .add (.t 15) (.t 17)) (.o 4 3 (.mov (.t 18)) .done))))) (.g (.o 0 19 (.mov (.t 3)) (.o 1 20 (.bin .lss (.t 19) (.i 0)) .done)) (.cond (.t 20) (.reg false (.op 0 [] (some 21) none false .bad (.op 1 [] none none false .bad .done))) .skip))))) (.reg false (.o 0 22 (.bin .add (.t 11) (.i 1)) (.o 1 11 (.mov (.t 22)) .done))))))))) (.g (.o 0 23 (.mov (.t 3)) (.o 1 24 (.call 24 346 [(.n 7), (.t 23)]) (.o 2 6 (.mov (.t 24)) .done))) (.seq (.g (.o 0 25 (.mov (.t 0)) (.o 1 26 (.len (.t 25)) (.o 2 27 (.mov (.i 0)) .done))) (.block 2 (.loop (.g (.o 0 28 (.bin .lss (.t 27) (.t 26)) .done) (.seq (.cond (.t 28) .skip (.exit 2)) (.seq (.block 3 (.g (.o 0 29 (.iad 1 (.t 25) (.t 27)) (.o 1 30 (.load none (.t 29)) (.o 2 8 (.mov (.t 30)) .done))) (.reg false (.o 0 31 (.mov (.t 6)) (.o 1 32 (.mov (.t 8)) (.o 2 33 (.app 33 7 120 (.t 31) (.t 32)) (.o 3 6 (.mov (.t 33)) .done))))))) (.reg false (.o 0 34 (.bin .add (.t 27) (.i 1)) (.o 1 27 (.mov (.t 34)) .done))))))))) (.g (.o 0 35 (.mov (.t 6)) (.o 1 2 (.mov (.t 35)) .done)) .ret))))))
theorem dg_slices_Concat_Limpl_Rr_impl_Rr : Tryz.f323.body.bind (digC Tryz.prog Tryz.f323.ntmps []) = some c_slices_Concat_Limpl_Rr_impl_Rr := by kernel_rfl
theorem rs_slices_Concat_Limpl_Rr_impl_Rr : resSlots Tryz.prog Tryz.f323 = some [.s 2] := by kernel_rfl
theorem ok_slices_Concat_Limpl_Rr_impl_Rr (a : List (List Rr)) (ha : a.length ≤ 4194304) (hf : a.flatten.length ≤ 4194304) :
  FnOK Tryz.prog 323 [.one (.d (encL 1 (fun b => [encR b]) a))] (fun ra _ => ra = [.one (.own false (encR a.flatten))]) := by
 refine FnOK.ofK Tryz.func323 (by kernel_rfl) dg_slices_Concat_Limpl_Rr_impl_Rr rs_slices_Concat_Limpl_Rr_impl_Rr rfl rfl ?_
 delta c_slices_Concat_Limpl_Rr_impl_Rr T.o X.i C.g
 refine Kbc (Ka Y (Kdb (Kc (Ka Y (Kdb (Kbc (Ka Y (Kq Y Y (Ka Y (Kd (Kt ?_)))))))))))
 refine kLoop (α := { i : Nat // i ≤ a.length }) (fun y => ⟨tabSl [(0, .dv (encL 1 (fun b => [encR b]) a)), (3, .i (a.take y.1).flatten.length), (9, .dv (encL 1 (fun b => [encR b]) a)), (10, .i a.length), (11, .i y.1)], obTab 1 [], []⟩) (fun y => a.length - y.1) ⟨0, by simp⟩ .normA ?_
 rintro ⟨i, hi⟩
 simp only
 have hle := flat_le a i
 rcases Nat.lt_or_ge i a.length with hlt | hge
 ·have hst : (a.take (i + 1)).flatten = (a.take i).flatten ++ a[i] := by rw [← List.take_append_getElem hlt, List.flatten_append]; simp
  have hle2 := flat_le a (i + 1)
  have hle3 : (a.take (i + 1)).flatten.length = (a.take i).flatten.length + a[i].length := by rw [hst, List.length_append]
  refine Kbc (Kj Y Y Y (Kdb (Km Y (fun g0 => Kn (Kb (Kt (Kbc (kIadR Y Y Y prl (Ky Y Y (Ka Y (Kdb (Kc (Ka Y (Ka Y (Kq Y Y (kAdd Y Y om (Ka Y (Kdb (Kc (Ka Y (Kj Y Y Y (Kd (kCondF Y (Kn (Kv (Kc (kAdd Y Y om (Ka Y (Kd ?_)))))))))))))))))))))))))) (fun g0 => om))))
  refine kInv ⟨⟨i + 1, hlt⟩, by simp only; omega, ?_⟩
  simp only [hle3]
  exact .normA
 ·have e : i = a.length := by omega
  subst e
  rw [List.take_length]
  refine Kbc (Kj Y Y Y (Kdb (Km Y (fun g0 => om) (fun g0 => kExit (kExC (kExI (kExB (Kbc (Ka Y (Ku true (ok_slices_Grow_Limpl_Rr_impl_Rr _ prx) ⟨⟨rfl, rfl⟩, rfl, trivial⟩ Y Y Y (fun _ => (Ka Y (Kdb (Kbc (Ka Y (Kq Y Y (Ka Y (Kd (Kt ?_)))))))))))))))))))
  refine kLoop (α := { i : Nat // i ≤ a.length }) (fun y => ⟨tabSl [(6, .c (.arr (rid 24 0) 1)), (25, .dv (encL 1 (fun b => [encR b]) a)), (26, .i a.length), (27, .i y.1)], obTab 1 [(rid 24 0, ⟨1, 0, .arr false (encR (a.take y.1).flatten)⟩)], []⟩) (fun y => a.length - y.1) ⟨0, by simp⟩ .normA ?_
  rintro ⟨i, hi⟩
  simp only
  have hle := flat_le a i
  rcases Nat.lt_or_ge i a.length with hlt | hge
  ·have hst : (a.take (i + 1)).flatten = (a.take i).flatten ++ a[i] := by rw [← List.take_append_getElem hlt, List.flatten_append]; simp
   have hle2 := flat_le a (i + 1)
   have hle3 : (a.take (i + 1)).flatten.length = (a.take i).flatten.length + a[i].length := by rw [hst, List.length_append]
   refine Kbc (Kj Y Y Y (Kdb (Km Y (fun g0 => Kn (Kb (Kt (Kbc (kIadR Y Y Y prl (Ky Y Y (Ka Y (Kd (Kc (Ka Y (Ka Y ?_))))))))))) (fun g0 => om))))
   refine kAppR (f := Rr.cells) (l := (a.take i).flatten) (l' := a[i]) rfl rfl rfl rfl rfl rfl rfl rfl om ?_
   refine Ka Y (Kd (Kv (Kc (kAdd Y Y om (Ka Y (Kd ?_))))))
   refine kInv ⟨⟨i + 1, hlt⟩, by simp only; omega, ?_⟩
   simp only [hst]
   exact .normA
  ·refine Kbc (Kj Y Y Y (Kdb (Km Y (fun g0 => om) (fun g0 => kExit (kExC (kExI (kExB (Kbc (Ka Y (Ka Y (Kd (kMem [(102400, ⟨1, 0, .arr false _⟩)] [(2, .c (.arr 102400 1))] [] ⟨Y, trivial⟩ ⟨Y, trivial⟩ Y (Kr (Er (ra := [.one (.own false _)]) rfl ?_))))))))))))))
   rw [show i = a.length by omega, List.take_length]

def c_impl_Task_end : C := (.g (.o 0 4 (.mov (.t 0)) (.o 1 5 (.mov (.t 0)) (.o 2 6 (.mov (.t 1)) (.o 3 7 (.nck (.t 4)) (.o 4 8 (.fad (.t 7) 0) (.op 5 [] none none false (.store none (.t 8) (.i 1)) (.o 6 9 (.nck (.t 5)) (.o 7 10 (.fad (.t 9) 11) (.op 8 [] none none false (.store none (.t 10) (.t 6)) .done))))))))) (.g (.o 0 11 (.mov (.t 1)) (.o 1 12 (.bin .neq (.t 11) (.i 0)) (.o 2 13 (.mov (.t 12)) (.op 3 [] (some 14) (some (13, true)) false (.mov (.t 1)) (.op 4 [] (some 15) (some (13, true)) false (.bin .neq (.t 14) (.i 3)) (.o 5 16 (.pick (.t 13) (.t 15) (.v (.bool false))) .done)))))) (.cond (.t 16) (.reg false (.o 0 17 (.mov (.t 0)) (.o 1 18 (.nck (.t 17)) (.o 2 19 (.fad (.t 18) 12) (.op 3 [] none none false (.store none (.t 19) (.n 7)) .done))))) .skip)))
theorem dg_impl_Task_end : Tryz.f285.body.bind (digC Tryz.prog Tryz.f285.ntmps []) = some c_impl_Task_end := by kernel_rfl
theorem rs_impl_Task_end : resSlots Tryz.prog Tryz.f285 = some [] := by kernel_rfl
theorem ok_impl_Task_end (t : Task) (c : Int) :
  FnOK Tryz.prog 285 [.one (.box t.cells), .one (.d (.sc (.int .i64 c)))] (fun ra os => ∃ x : Unit, True ∧ ra = [] ∧ os.b 0 = (endT t c).cells) := by
 refine FnOK.ofK Tryz.func285 (by kernel_rfl) dg_impl_Task_end rs_impl_Task_end rfl rfl ?_
 delta c_impl_Task_end T.o X.i C.g
 refine Kbc (Ka Y (Ka Y (Ka Y (kNck Y Y (Kf Y Y (Ko Y Y Y Y (kNck Y Y (Kf Y Y (Ko Y Y Y Y (Kdb (Kc (Ka Y (Kj Y Y Y (Ka Y (kGIN Y (fun g0 => Ki Y (Ka Y (Ki Y (Kj Y Y Y (Kk Y (Ka Y (Kd (kCondIN Y (fun g1 => Kc (kMem [(0, ⟨0, 0, .box [.d _, .d _, .d _, .d _, .d _, .d _, .d _, .d _, .d _, .d _, .d _, .d _, .d _]⟩)] [(0, .c (.ptr 0 0 0)), (17, .c (.un)), (18, .c (.un)), (19, .c (.un))] [] ⟨Y, trivial⟩ ⟨Y, Y, Y, Y, trivial⟩ Y (Ka Y (kNck Y Y (Kf Y Y (Ko Y Y Y Y (Kd (kEnd (endNormalA (ra := []) rfl ?_))))))))) (fun g1 => Kn (kEnd (endNormalA (ra := []) rfl ?_))))))))))) (fun g0 => Kg Y (Kg Y (Kl Y (Ka Y (Kd (kCondF Y (Kn (kEnd (endNormalA (ra := []) rfl ?_))))))))))))))))))))))))
 all_goals first
  | exact ⟨(), trivial, rfl, by unfold endT; rw [if_pos ⟨by assumption, by assumption⟩]; rfl⟩
  | exact ⟨(), trivial, rfl, by unfold endT; rw [if_neg (by omega)]; rfl⟩

def c_impl_Task_step : C := (.g (.o 0 2 (.mov (.t 0)) (.o 1 3 (.nck (.t 2)) (.o 2 4 (.fad (.t 3) 10) (.o 3 5 (.load none (.t 4)) (.o 4 6 (.bin .add (.t 5) (.i 1)) (.o 5 7 (.nck (.t 2)) (.o 6 8 (.fad (.t 7) 10) (.op 7 [] none none false (.store none (.t 8) (.t 6)) .done)))))))) (.g (.o 0 9 (.mov (.t 0)) (.o 1 10 (.nck (.t 9)) (.o 2 11 (.fad (.t 10) 10) (.o 3 12 (.load none (.t 11)) (.o 4 13 (.bin .eql (.t 12) (.i 6)) .done))))) (.cond (.t 13) (.reg false (.o 0 14 (.mov (.t 0)) (.o 1 15 (.call 15 285 [(.t 14), (.i 2)]) .done))) .skip)))
theorem dg_impl_Task_step : Tryz.f324.body.bind (digC Tryz.prog Tryz.f324.ntmps []) = some c_impl_Task_step := by kernel_rfl
theorem rs_impl_Task_step : resSlots Tryz.prog Tryz.f324 = some [] := by kernel_rfl
theorem ok_impl_Task_step (t : Task) (h : 0 ≤ t.steps ∧ t.steps ≤ 1000) :
  FnOK Tryz.prog 324 [.one (.box t.cells)] (fun ra os => ∃ x : Unit, True ∧ ra = [] ∧ os.b 0 = (stpI t).cells) := by
 refine FnOK.ofK Tryz.func324 (by kernel_rfl) dg_impl_Task_step rs_impl_Task_step rfl rfl ?_
 delta c_impl_Task_step T.o X.i C.g
 unfold stpI
 split
 ·refine Kbc (Ka Y (kNck Y Y (Kf Y Y (Ke Y Y Y (kAdd Y Y om (kNck Y Y (Kf Y Y (Ko Y Y Y Y (Kdb (Kc (Ka Y (kNck Y Y (kMem [(0, ⟨0, 0, .box [.d _, .d _, .d _, .d _, .d _, .d _, .d _, .d _, .d _, .d _, .d _, .d _, .d _]⟩)] [(10, .c (.ptr 0 0 0)), (11, .c (.un)), (12, .c (.un))] [] ⟨Y, trivial⟩ ⟨Y, Y, Y, trivial⟩ Y (Kf Y Y (Ke Y Y Y (Kj Y Y Y (Kd (Km Y (fun g0 => Kc (Ka Y ?_)) (fun g0 => om)))))))))))))))))))
  refine Kz (ok_impl_Task_end { t with steps := t.steps + 1 } 2) ⟨⟨rfl, _, rfl, rfl⟩, rfl, trivial⟩ Y Y Y (fun _ => rfl) (fun x0 hx0 => ?_)
  refine Kd (kEnd (endNormalA (ra := []) rfl ?_))
  exact ⟨(), trivial, rfl, rfl⟩
 ·refine Kbc (Ka Y (kNck Y Y (Kf Y Y (Ke Y Y Y (kAdd Y Y om (kNck Y Y (Kf Y Y (Ko Y Y Y Y (Kdb (Kc (Ka Y (kNck Y Y (kMem [(0, ⟨0, 0, .box [.d _, .d _, .d _, .d _, .d _, .d _, .d _, .d _, .d _, .d _, .d _, .d _, .d _]⟩)] [(10, .c (.ptr 0 0 0)), (11, .c (.un)), (12, .c (.un))] [] ⟨Y, trivial⟩ ⟨Y, Y, Y, trivial⟩ Y (Kf Y Y (Ke Y Y Y (Kj Y Y Y (Kd (Km Y (fun g0 => om) (fun g0 => Kn (kEnd (endNormalA (ra := []) rfl ?_)))))))))))))))))))))
  exact ⟨(), trivial, rfl, rfl⟩

def c_impl_Task_follow : C := (.g (.o 0 3 (.box 3 (.t 1)) (.o 1 4 (.mov (.v (.bool false))) .done)) (.seq (.reg true (.op 0 [] (some 11) none true (.fad (.t 3) 6) (.op 1 [] (some 12) none true (.load none (.t 11)) (.op 2 [] (some 13) none true (.mov (.t 0)) (.op 3 [] (some 14) none true (.nck (.t 13)) (.op 4 [] (some 15) none true (.fad (.t 14) 5) (.op 5 [] (some 16) none true (.load (some 1) (.t 15)) (.op 6 [1, 5] (some 17) none false (.call 17 322 [(.t 12), (.t 16)]) (.op 7 [] (some 5) none true (.mov (.t 17)) (.op 8 [] (some 6) none true (.mov (.v (.bool false))) .done)))))))))) (.block 0 (.loop (.block 1 (.g (.o 0 18 (.lit 18 7 [(.n 1), (.i 0), (.i 0), (.i 0), (.n 1), (.n 1), (.n 1)] 0 []) (.o 1 7 (.mov (.t 18)) .done)) (.g (.o 0 8 (.mov (.i (-1))) .done) (.seq (.g (.o 0 19 (.mov (.t 5)) (.o 1 20 (.len (.t 19)) (.o 2 21 (.mov (.i 0)) .done))) (.block 2 (.loop (.g (.o 0 22 (.bin .lss (.t 21) (.t 20)) .done) (.seq (.cond (.t 22) .skip (.exit 2)) (.seq (.block 3 (.g (.o 0 23 (.mov (.t 21)) (.o 1 24 (.iad 7 (.t 19) (.t 21)) (.o 2 25 (.load (some 7) (.t 24)) (.o 3 10 (.alloc 10 [(.n 1), (.i 0), (.i 0), (.i 0), (.n 1), (.n 1), (.n 1)]) (.o 4 9 (.mov (.t 23)) (.op 5 [] none none false (.store (some 7) (.t 10) (.t 25)) .done)))))) (.seq (.seq (.reg true (.op 0 [] (some 26) none true (.fad (.t 10) 0) (.op 1 [] (some 27) none true (.load (some 1) (.t 26)) (.op 2 [] (some 28) none true (.mov (.t 0)) (.op 3 [] (some 29) none true (.nck (.t 28)) (.op 4 [] (some 30) none true (.fad (.t 29) 4) (.op 5 [] (some 31) none true (.load (some 1) (.t 30)) (.op 6 [1, 5] (some 32) none false (.call 32 96 [(.t 27), (.t 31)]) (.op 7 [] (some 33) none true (.un .not (.t 32)) .done))))))))) (.cond (.t 33) (.exit 3) .skip)) (.seq (.seq (.reg true (.op 0 [] (some 34) none true (.fad (.t 10) 1) (.op 1 [] (some 35) none true (.load none (.t 34)) (.op 2 [] (some 36) none true (.mov (.t 0)) (.op 3 [] (some 37) none true (.nck (.t 36)) (.op 4 [] (some 38) none true (.fad (.t 37) 2) (.op 5 [] (some 39) none true (.fad (.t 38) 1) (.op 6 [] (some 40) none true (.load none (.t 39)) (.op 7 [] (some 41) none true (.bin .eql (.t 35) (.t 40)) .done))))))))) (.cond (.t 41) (.reg false (.o 0 42 (.mov (.t 7)) (.o 1 43 (.load (some 7) (.t 10)) (.o 2 44 (.lit 44 7 [(.n 1), (.i 0), (.i 0), (.i 0), (.n 1), (.n 1), (.n 1)] 1 [(0, 7, (.t 43))]) (.o 3 45 (.app 45 7 120 (.t 42) (.t 44)) (.o 4 7 (.mov (.t 45)) .done)))))) .skip)) (.g (.o 0 46 (.fad (.t 10) 1) (.o 1 47 (.load none (.t 46)) (.o 2 48 (.bin .eql (.t 47) (.i 5)) (.o 3 49 (.mov (.t 48)) (.op 4 [] (some 50) (some (49, true)) false (.mov (.t 8)) (.op 5 [] (some 51) (some (49, true)) false (.bin .lss (.t 50) (.i 0)) (.o 6 52 (.pick (.t 49) (.t 51) (.v (.bool false))) .done))))))) (.cond (.t 52) (.reg false (.o 0 53 (.mov (.t 9)) (.o 1 8 (.mov (.t 53)) .done))) .skip)))))) (.reg false (.o 0 54 (.bin .add (.t 21) (.i 1)) (.o 1 21 (.mov (.t 54)) .done))))))))) (.seq (.block 4 (.g (.o 0 56 (.mov (.t 7)) (.o 1 57 (.len (.t 56)) (.o 2 58 (.bin .gtr (.t 57) (.i 0)) (.o 3 55 (.mov (.t 58)) .done)))) (.cond (.t 55) (.g (.o 0 59 (.mov (.t 0)) (.o 1 60 (.mov (.t 0)) (.o 2 61 (.nck (.t 60)) (.o 3 62 (.fad (.t 61) 12) (.o 4 63 (.load none (.t 62)) (.o 5 64 (.mov (.t 7)) (.o 6 65 (.lit 65 1 [(.n 7)] 2 [(0, 1, (.t 63)), (1, 1, (.t 64))]) (.o 7 66 (.call 66 323 [(.t 65)]) (.o 8 67 (.nck (.t 59)) (.o 9 68 (.fad (.t 67) 12) (.op 10 [] none none false (.store none (.t 68) (.t 66)) .done))))))))))) (.seq (.g (.o 0 69 (.mov (.t 0)) (.o 1 70 (.nck (.t 69)) (.o 2 71 (.fad (.t 70) 12) (.o 3 72 (.load none (.t 71)) (.o 4 73 (.len (.t 72)) (.o 5 74 (.bin .gtr (.t 73) (.i 12)) .done)))))) (.cond (.t 74) (.reg false (.o 0 75 (.mov (.t 0)) (.o 1 76 (.call 76 285 [(.t 75), (.i 2)]) .done))) (.reg false (.o 0 77 (.mov (.t 0)) (.o 1 78 (.call 78 285 [(.t 77), (.i 0)]) .done))))) (.g (.o 0 4 (.mov (.v (.bool true))) .done) .ret))) (.g (.o 0 80 (.mov (.t 8)) (.o 1 81 (.bin .lss (.t 80) (.i 0)) (.o 2 79 (.mov (.t 81)) .done))) (.cond (.t 79) (.seq (.g (.o 0 82 (.mov (.t 6)) (.o 1 83 (.mov (.t 82)) (.op 2 [] (some 84) (some (83, true)) false (.fad (.t 3) 4) (.op 3 [] (some 85) (some (83, true)) false (.load none (.t 84)) (.op 4 [] (some 86) (some (83, true)) false (.bin .eql (.t 85) (.i 3)) (.o 5 87 (.pick (.t 83) (.t 86) (.v (.bool false))) .done)))))) (.cond (.t 87) (.reg false (.o 0 88 (.mov (.t 0)) (.o 1 89 (.call 89 285 [(.t 88), (.i 3)]) .done))) .skip)) (.g (.o 0 90 (.mov (.t 6)) (.o 1 4 (.mov (.t 90)) .done)) .ret)) .skip))))) (.g (.o 0 6 (.mov (.v (.bool true))) .done) (.seq (.reg true (.op 0 [] (some 91) none true (.mov (.t 0)) (.op 1 [] (some 92) none true (.mov (.t 0)) (.op 2 [] (some 93) none true (.nck (.t 92)) (.op 3 [] (some 94) none true (.fad (.t 93) 12) (.op 4 [] (some 95) none true (.load none (.t 94)) (.op 5 [] (some 96) none true (.mov (.t 5)) (.op 6 [] (some 97) none true (.mov (.t 8)) (.op 7 [] (some 98) none true (.mov (.t 8)) (.op 8 [] (some 99) none true (.bin .add (.t 98) (.i 1)) (.op 9 [] (some 100) none true (.cut 7 (.t 96) (some (.t 97)) (some (.t 99))) (.op 10 [4] (some 101) none false (.lit 101 1 [(.n 7)] 2 [(0, 1, (.t 95)), (1, 1, (.t 100))]) (.op 11 [4] (some 102) none false (.call 102 323 [(.t 101)]) (.op 12 [] (some 103) none true (.nck (.t 91)) (.op 13 [] (some 104) none true (.fad (.t 103) 12) (.op 14 [4] none none false (.store none (.t 104) (.t 102)) .done)))))))))))))))) (.g (.o 0 105 (.mov (.t 0)) (.o 1 106 (.mov (.t 5)) (.o 2 107 (.mov (.t 8)) (.o 3 108 (.iad 7 (.t 106) (.t 107)) (.o 4 109 (.fad (.t 108) 4) (.o 5 110 (.load (some 1) (.t 109)) (.o 6 111 (.nck (.t 105)) (.o 7 112 (.fad (.t 111) 4) (.op 8 [] none none false (.store (some 1) (.t 112) (.t 110)) .done))))))))) (.seq (.seq (.reg true (.op 0 [] (some 113) none true (.mov (.t 0)) (.op 1 [] (some 114) none true (.nck (.t 113)) (.op 2 [] (some 115) none true (.fad (.t 114) 4) (.op 3 [] (some 116) none true (.load (some 1) (.t 115)) (.op 4 [] (some 117) none true (.mov (.t 0)) (.op 5 [] (some 118) none true (.nck (.t 117)) (.op 6 [] (some 119) none true (.fad (.t 118) 5) (.op 7 [] (some 120) none true (.load (some 1) (.t 119)) (.op 8 [3, 7] (some 121) none false (.call 121 95 [(.t 116), (.t 120)]) (.op 9 [] (some 122) none true (.un .not (.t 121)) .done))))))))))) (.cond (.t 122) (.g (.o 0 123 (.mov (.t 0)) (.o 1 124 (.mov (.t 0)) (.o 2 125 (.mov (.t 0)) (.o 3 126 (.build [(.n 1)] []) (.o 4 127 (.mov (.t 0)) (.o 5 128 (.nck (.t 127)) (.o 6 129 (.fad (.t 128) 6) (.o 7 130 (.load none (.t 129)) (.o 8 131 (.nck (.t 123)) (.o 9 132 (.fad (.t 131) 5) (.op 10 [] none none false (.store (some 1) (.t 132) (.t 126)) (.o 11 133 (.nck (.t 124)) (.o 12 134 (.fad (.t 133) 7) (.op 13 [] none none false (.store none (.t 134) (.t 130)) (.o 14 135 (.nck (.t 125)) (.o 15 136 (.fad (.t 135) 8) (.op 16 [] none none false (.store none (.t 136) (.i 0)) .done))))))))))))))))) (.g (.o 0 137 (.mov (.t 0)) (.o 1 138 (.call 138 324 [(.t 137)]) .done)) (.g (.o 0 4 (.mov (.v (.bool true))) .done) .ret))) .skip)) (.g (.o 0 139 (.mov (.t 0)) (.o 1 140 (.call 140 324 [(.t 139)]) .done)) (.g (.o 0 141 (.mov (.t 0)) (.o 1 142 (.nck (.t 141)) (.o 2 143 (.fad (.t 142) 0) (.o 3 144 (.load none (.t 143)) (.o 4 145 (.bin .eql (.t 144) (.i 1)) .done))))) (.cond (.t 145) (.g (.o 0 4 (.mov (.v (.bool true))) .done) .ret) .skip))))))))))))))))
theorem dg_impl_Task_follow : Tryz.f284.body.bind (digC Tryz.prog Tryz.f284.ntmps []) = some c_impl_Task_follow := by kernel_rfl
theorem rs_impl_Task_follow : resSlots Tryz.prog Tryz.f284 = some [.s 4] := by kernel_rfl
theorem ok_impl_Task_follow (t : Task) (m : Msg) (ht : FJ 7 t) (hm : SmallRs m.an) (ha : m.an.length ≤ 12) :
  FnOK Tryz.prog 284 [.one (.box t.cells), .agg (m.cells.map .d)] (fun ra os => ∃ x : Unit, True ∧ ra = [.one (.d (.sc (.bool (folT t m).2)))] ∧ os.b 0 = (folT t m).1.cells) := by
 refine FnOK.ofK Tryz.func284 (by kernel_rfl) dg_impl_Task_follow rs_impl_Task_follow rfl rfl ?_
 delta c_impl_Task_follow T.o X.i C.g
 have hz := ht.z
 have hz1 := hz.len
 have hz2 := hz.mem
 refine Kbc (kBox Y Y Y Y Y (Ka Y (Kdb (kRegD (Kf Y Y (Ke Y Y Y (Ka Y (kNck Y Y (Kf Y Y (Ke Y Y Y (Ks Y Y (kCallD2 (ok_impl_inside _ _ prx prx prx) ⟨rfl, ⟨⟨Y, trivial⟩, leb⟩, trivial⟩ Y Y Y Y (Ka Y (Ka Y (Kd (kH (Kt ?_)))))))))))))))))
 have hL : SmallRs (insideR m.an t.zone) := hm.filter _
 have hL12 : (insideR m.an t.zone).length ≤ 12 := Nat.le_trans (List.length_filter_le _ _) ha
 have hgo : folT t m = folGo (insideR m.an t.zone) m.code 7 false t := rfl
 generalize insideR m.an t.zone = L at *
 have hLl := hL.len
 refine kLoop (α := { y : Nat × Bool × Task // FJ y.1 y.2.2 ∧ folGo L m.code y.1 y.2.1 y.2.2 = folT t m }) (fun y => ⟨tabSl [(0, .c (.ptr (aid 0 0) 0 0)), (3, .c (.ptr (rid 3 0) 1 0)), (5, .c (.d (encR L))), (6, .b y.1.2.1)], obTab 1 [(aid 0 0, ⟨0, 0, .box (y.1.2.2.cells.map .d)⟩), (rid 3 0, ⟨1, 0, .box (m.cells.map .d)⟩)], []⟩) (fun y => y.1.1) ⟨(7, false, t), ⟨ht, hgo.symm⟩⟩ .normA ?_
 clear hgo hz hz1 hz2
 rintro ⟨⟨k, al, u⟩, hu, hgo⟩
 simp only at hu hgo ⊢
 have hn := hu.n
 have hn1 := hn.len
 have hn2 := hn.mem
 have hz := hu.z
 have hz1 := hz.len
 have hz2 := hz.mem
 rw [← hgo]
 obtain ⟨k, rfl⟩ : ∃ k', k = k' + 1 := ⟨k - 1, by have := hu.k; have := hu.p; omega⟩
 have hup := hu.p
 have hua := hu.a
 refine Kt (Kbc (kLitG Y Y Y Y (Ka Y (Kdb (Kc (Ka Y (Kdb (Kbc (Ka Y (Kq Y Y (Ka Y (Kd (Kt ?_)))))))))))))
 refine kLoop (α := { i : Nat // i ≤ L.length }) (fun y => ⟨tabSl [(0, .c (.ptr (aid 0 0) 0 0)), (3, .c (.ptr (rid 3 0) 1 0)), (5, .c (.d (encR L))), (6, .b al), (7, .c (.arr (rid 18 0) 1)), (8, .i (aliI u (L.take y.1))), (19, .c (.d (encR L))), (20, .i L.length), (21, .i y.1)], obTab 1 [(aid 0 0, ⟨0, 0, .box (u.cells.map .d)⟩), (rid 3 0, ⟨1, 0, .box (m.cells.map .d)⟩), (rid 18 0, ⟨1, 0, .arr false (encR (ownF u (L.take y.1)))⟩)], []⟩) (fun y => L.length - y.1) ⟨0, Nat.zero_le _⟩ .normA ?_
 rintro ⟨i, hi⟩
 simp only
 rcases Nat.lt_or_ge i L.length with hlt | hge
 ·have hLi := hL.mem _ (List.getElem_mem hlt)
  have hLn := hLi.n
  have hLn1 := hLn.len
  have hLn2 := hLn.mem
  have hown : ownF u (L.take (i + 1)) = ownF u (L.take i) ++ (if decide (L[i].name = u.name) && L[i].ty == u.ftype then [L[i]] else []) := filter_step _ L i hlt
  have hali : aliI u (L.take (i + 1)) = if aliI u (L.take i) < 0 then (if decide (L[i].name = u.name) && L[i].ty == 5 then (i : Int) else -1) else aliI u (L.take i) := idx_succ _ L i hlt
  have hol : (ownF u (L.take i)).length ≤ L.length := filter_len _ L i
  have hge1 : -1 ≤ aliI u (L.take i) := (idx_le _ _).1
  have hO1 : (decide (L[i].name = u.name) && L[i].ty == u.ftype) = false → ownF u (L.take (i + 1)) = ownF u (L.take i) := fun h => by rw [hown, h]; simp
  have hO2 : (decide (L[i].name = u.name) && L[i].ty == u.ftype) = true → ownF u (L.take (i + 1)) = ownF u (L.take i) ++ [L[i]] := fun h => by rw [hown, h]; rfl
  have hA1 : (decide (L[i].name = u.name) && L[i].ty == 5) = false → aliI u (L.take (i + 1)) = aliI u (L.take i) := fun h => by
   rw [hali, h]; split
   ·simp only [Bool.false_eq_true, if_false]; omega
   ·rfl
  have hA2 : (decide (L[i].name = u.name) && L[i].ty == 5) = true → aliI u (L.take i) < 0 → aliI u (L.take (i + 1)) = i := fun h h0 => by rw [hali, h, if_pos h0]; rfl
  have hA3 : ¬ aliI u (L.take i) < 0 → aliI u (L.take (i + 1)) = aliI u (L.take i) := fun h0 => by rw [hali, if_neg h0]
  clear hown hali
  refine Kbc (Kj Y Y Y (Kdb (Km Y (fun g0 => Kn (Kb (Kt (Kbc (Ka Y (kIadR Y Y Y prl (Ky Y Y (kAlloc Y Y (Ka Y (kMem [(45056, ⟨2, 0, .box [.nil 1, .d _, .d _, .d _, .nil 1, .nil 1, .nil 1]⟩)] [(10, .c (.ptr 45056 2 0)), (25, .g [.d _, .d _, .d _, .d _, .d _, .d _, .d _])] [] ⟨Y, trivial⟩ ⟨Y, Y, trivial⟩ Y (Ko Y Y Y Y (Kdb (Kb (kRegD (Kf Y Y (Ke Y Y Y (Ka Y (kNck Y Y (Kf Y Y (Ke Y Y Y (Ks Y Y (Kp (ok_impl_Name_is _ _ prx prx) ⟨⟨⟨Y, trivial⟩, leb⟩, ⟨⟨Y, trivial⟩, leb⟩, trivial⟩ Y Y Y Y Y (Kw Y Y (Kd (kH (kCondN Y (fun g1 => kExit (kExC (kExB (Kc (kAdd Y Y om (Ka Y (Kd ?_))))))) (fun g1 => Kn (Kb (Kb (kRegD (Kf Y Y (Ke Y Y Y (Ka Y (kNck Y Y (Kf Y Y (Kf Y Y (Ke Y Y Y (Kj Y Y Y (Kd (kH (Km Y (fun g2 => Kc (Ka Y (Ke Y Y Y (kLitG Y Y Y Y (kAppRec Y Y Y Y Y Y Y prl (Ka Y (Kdb (Kc (Kf Y Y (Ke Y Y Y (Kj Y Y Y (Ka Y (kGP Y (fun g3 => Ki Y (Ka Y (Ki Y (Kj Y Y Y (Kk Y (Ka Y (Kd (Km Y (fun g4 => Kc (Ka Y (Ka Y (Kd (Kv (Kc (kAdd Y Y om (Ka Y (Kd ?_))))))))) (fun g4 => Kn (Kv (Kc (kAdd Y Y om (Ka Y (Kd ?_)))))))))))))) (fun g3 => Kg Y (Kg Y (Kl Y (Ka Y (Kd (kCondF Y (Kn (Kv (Kc (kAdd Y Y om (Ka Y (Kd ?_))))))))))))))))))))))))) (fun g2 => Kn (Kbc (Kf Y Y (Ke Y Y Y (Kj Y Y Y (Ka Y (kGP Y (fun g5 => Ki Y (Ka Y (Ki Y (Kj Y Y Y (Kk Y (Ka Y (Kd (Km Y (fun g6 => Kc (Ka Y (Ka Y (Kd (Kv (Kc (kAdd Y Y om (Ka Y (Kd ?_))))))))) (fun g6 => Kn (Kv (Kc (kAdd Y Y om (Ka Y (Kd ?_)))))))))))))) (fun g5 => Kg Y (Kg Y (Kl Y (Ka Y (Kd (kCondF Y (Kn (Kv (Kc (kAdd Y Y om (Ka Y (Kd ?_)))))))))))))))))))))))))))))))))))))))))))))))))))))))))))) (fun g0 => om))))
  all_goals refine kInv ⟨⟨i + 1, by omega⟩, by simp only; omega, ?_⟩
  all_goals simp only
  ·rw [hO1 (by rw [g1]; rfl), hA1 (by rw [g1]; rfl)]; exact .normA
  ·rw [hO2 (by rw [g1, beq_iff_eq.2 g2]; rfl), hA2 (by rw [g1, beq_iff_eq.2 g3]; rfl) (by assumption)]; exact .normA
  ·rw [hO2 (by rw [g1, beq_iff_eq.2 g2]; rfl), hA3 (by assumption)]; exact .normA
  ·rw [hO2 (by rw [g1, beq_iff_eq.2 g2]; rfl), hA1 (by rw [g1, beq_eq_false_iff_ne.2 g3]; rfl)]; exact .normA
  ·rw [hO1 (by rw [g1, beq_eq_false_iff_ne.2 g2]; rfl), hA2 (by rw [g1, beq_iff_eq.2 g5]; rfl) (by assumption)]; exact .normA
  ·rw [hO1 (by rw [g1, beq_eq_false_iff_ne.2 g2]; rfl), hA3 (by assumption)]; exact .normA
  ·rw [hO1 (by rw [g1, beq_eq_false_iff_ne.2 g2]; rfl), hA1 (by rw [g1, beq_eq_false_iff_ne.2 g5]; rfl)]; exact .normA
 ·have he : i = L.length := by omega
  subst he
  rw [List.take_length]
  refine kSub (Sub.frz (j := 7) rfl rfl (leb)) ?_
  have hol : (ownF u L).length ≤ L.length := List.length_filter_le _ _
  by_cases c1 : 0 < (ownF u L).length
  ·have e : folGo L m.code (k + 1) al u = (takenT u (ownF u L), true) := by rw [folGo, if_pos c1]
   rw [e]
   simp only
   refine Kbc (Kj Y Y Y (Kdb (Km Y (fun g0 => om) (fun g0 => kExit (kExC (kExI (kExB (Kb (Kt (Kbc (Ka Y (Kq Y Y (Kj Y Y Y (Ka Y (Kd (Km Y (fun g1 => Kbc (Ka Y (Ka Y (kNck Y Y (Kf Y Y (Ke Y Y Y (Ka Y (kMem [(0, ⟨0, 0, .box [.d _, .d _, .d _, .d _, .d _, .d _, .d _, .d _, .d _, .d _, .d _, .d _, .d _]⟩)] [(63, .c (.d _)), (64, .c (.d _)), (59, .c (.ptr 0 0 0))] [] ⟨Y, trivial⟩ ⟨Y, Y, Y, trivial⟩ Y (kLitD Y Y Y Y ?_))))))))) (fun g1 => om)))))))))))))))))
   refine Ku false (ok_slices_Concat_Limpl_Rr_impl_Rr [u.answers, ownF u L] (by simp) (by simp; omega)) ⟨Y, trivial⟩ Y Y Y (fun _ => ?_)
   rw [show [u.answers, ownF u L].flatten = u.answers ++ ownF u L by simp]
   have hstopo76 := trivial
   have hstopo78 := trivial
   refine kNck Y Y (Kf Y Y (Ko Y Y Y Y (Kdb (Kbc (Ka Y (kNck Y Y (Kf Y Y (kMem [(0, ⟨0, 0, .box [.d _, .d _, .d _, .d _, .d _, .d _, .d _, .d _, .d _, .d _, .d _, .d _, .arr 274432 2]⟩), (274432, ⟨2, 0, .arr false _⟩)] [(71, .c (.ptr 0 0 12))] [] ⟨Y, Y, trivial⟩ ⟨Y, trivial⟩ Y (Ke Y Y Y (Kq Y Y (Kj Y Y Y (Kd (Km Y (fun g0 => ?_) (fun g0 => ?_))))))))))))))
   all_goals clear hstopo76 hstopo78
   ·have e2 : takenT u (ownF u L) = endT { u with answers := u.answers ++ ownF u L } 2 := by
     rw [List.length_append] at g0
     unfold takenT; rw [if_pos (by omega)]
    rw [e2]
    refine kSub (Sub.frzBox (aid 0 0) (rid 66 0) 12 rfl rfl rfl rfl rfl) ?_
    refine kSub (t := ⟨tabSl [(0, .c (.ptr (aid 0 0) 0 0))], obTab 1 [(aid 0 0, ⟨0, 0, .box (({ u with answers := u.answers ++ ownF u L } : Task).cells.map .d)⟩)], []⟩) .normA ?_
    refine Kc (Ka Y (Kz (ok_impl_Task_end _ _) ⟨⟨rfl, _, rfl, rfl⟩, rfl, trivial⟩ Y Y Y (fun _ => rfl) (fun x0 hx0 => (Kdb (Kc (Ka Y (Kd (Kr (Er (ra := [.one (.d _)]) rfl ?_)))))))))
    exact ⟨(), trivial, rfl, rfl⟩
   ·have e2 : takenT u (ownF u L) = endT { u with answers := u.answers ++ ownF u L } 0 := by
     rw [List.length_append] at g0
     unfold takenT; rw [if_neg (by omega)]
    rw [e2]
    refine kSub (Sub.frzBox (aid 0 0) (rid 66 0) 12 rfl rfl rfl rfl rfl) ?_
    refine kSub (t := ⟨tabSl [(0, .c (.ptr (aid 0 0) 0 0))], obTab 1 [(aid 0 0, ⟨0, 0, .box (({ u with answers := u.answers ++ ownF u L } : Task).cells.map .d)⟩)], []⟩) .normA ?_
    refine Kc (Ka Y (Kz (ok_impl_Task_end _ _) ⟨⟨rfl, _, rfl, rfl⟩, rfl, trivial⟩ Y Y Y (fun _ => rfl) (fun x0 hx0 => (Kdb (Kc (Ka Y (Kd (Kr (Er (ra := [.one (.d _)]) rfl ?_)))))))))
    exact ⟨(), trivial, rfl, rfl⟩
  ·have c1' : ¬ ((ownF u L).length : Int) > 0 := by omega
   by_cases c2 : aliI u L < 0
   ·cases al with
    | false =>
     have e : folGo L m.code (k + 1) false u = (u, false) := by rw [folGo, if_neg c1, if_pos c2]; rfl
     rw [e]
     refine Kbc (Kj Y Y Y (Kdb (Km Y (fun g0 => om) (fun g0 => kExit (kExC (kExI (kExB (Kb (Kt (Kbc (Ka Y (Kq Y Y (Kj Y Y Y (Ka Y (Kd (Km Y (fun g1 => om) (fun g1 => Kbc (Ka Y (Kj Y Y Y (Ka Y (Kd (Km Y (fun g2 => Kb (Kbc (Ka Y (Ka Y (Kg Y (Kg Y (Kg Y (Kl Y (Ka Y (Kd (kCondF Y (Kn (Kbc (Ka Y (Ka Y (Kd (Kr (Er (ra := [.one (.d _)]) rfl ?_)))))))))))))))))) (fun g2 => om)))))))))))))))))))))))
     exact ⟨(), trivial, rfl, rfl⟩
    | true =>
     by_cases c3 : m.code = 3
     ·have e : folGo L m.code (k + 1) true u = (endT u 3, true) := by rw [folGo, if_neg c1, if_pos c2, c3]; rfl
      rw [e]
      refine Kbc (Kj Y Y Y (Kdb (Km Y (fun g0 => om) (fun g0 => kExit (kExC (kExI (kExB (Kb (Kt (Kbc (Ka Y (Kq Y Y (Kj Y Y Y (Ka Y (Kd (Km Y (fun g1 => om) (fun g1 => Kbc (Ka Y (Kj Y Y Y (Ka Y (Kd (Km Y (fun g2 => Kb (Kbc (Ka Y (Ka Y (Ki Y (Kf Y Y (Ki Y (Ke Y Y Y (Ki Y (Kj Y Y Y (Kk Y (Ka Y (Kd (Km Y (fun g3 => Kc (kMem [(0, ⟨0, 0, .box [.d _, .d _, .d _, .d _, .d _, .d _, .d _, .d _, .d _, .d _, .d _, .d _, .d _]⟩)] [(0, .c (.ptr 0 0 0))] [] ⟨Y, trivial⟩ ⟨Y, trivial⟩ Y (Ka Y (Kz (ok_impl_Task_end _ _) ⟨⟨rfl, _, rfl, rfl⟩, rfl, trivial⟩ Y Y Y (fun _ => rfl) (fun x4 hx4 => (Kdb (Kc (Ka Y (Ka Y (Kd (Kr (Er (ra := [.one (.d _)]) rfl ?_)))))))))))) (fun g3 => om))))))))))))))) (fun g2 => om)))))))))))))))))))))))
      exact ⟨(), trivial, rfl, rfl⟩
     ·have e : folGo L m.code (k + 1) true u = (u, true) := by rw [folGo, if_neg c1, if_pos c2, if_neg (by simp [c3])]
      rw [e]
      refine Kbc (Kj Y Y Y (Kdb (Km Y (fun g0 => om) (fun g0 => kExit (kExC (kExI (kExB (Kb (Kt (Kbc (Ka Y (Kq Y Y (Kj Y Y Y (Ka Y (Kd (Km Y (fun g1 => om) (fun g1 => Kbc (Ka Y (Kj Y Y Y (Ka Y (Kd (Km Y (fun g2 => Kb (Kbc (Ka Y (Ka Y (Ki Y (Kf Y Y (Ki Y (Ke Y Y Y (Ki Y (Kj Y Y Y (Kk Y (Ka Y (Kd (Km Y (fun g3 => om) (fun g3 => Kn (Kbc (Ka Y (Ka Y (Kd (Kr (Er (ra := [.one (.d _)]) rfl ?_))))))))))))))))))))) (fun g2 => om)))))))))))))))))))))))
      exact ⟨(), trivial, rfl, rfl⟩
   ·obtain ⟨j, hj, ej, el, _, _⟩ := ali_at c2
    have hLj := hL.mem _ (List.getElem_mem hj)
    have ecut : (L.drop j).take (j + 1 - j) = [L[j]] := by
     rw [show j + 1 - j = 1 by omega, List.drop_eq_getElem_cons hj]; rfl
    rw [ej]
    refine Kbc (Kj Y Y Y (Kdb (Km Y (fun g0 => om) (fun g0 => kExit (kExC (kExI (kExB (Kb (Kt (Kbc (Ka Y (Kq Y Y (Kj Y Y Y (Ka Y (Kd (Km Y (fun g1 => om) (fun g1 => Kbc (Ka Y (Kj Y Y Y (Ka Y (Kd (kCondF Y (Kn (Kv (Kbc (Ka Y (Kdb (kRegD (Ka Y (Ka Y (kNck Y Y (kMem [(0, ⟨0, 0, .box [.d _, .d _, .d _, .d _, .d _, .d _, .d _, .d _, .d _, .d _, .d _, .d _, .d _]⟩)] [(93, .c (.ptr 0 0 0)), (5, .c (.d _)), (8, .c (.d _)), (91, .c (.ptr 0 0 0))] [] ⟨Y, trivial⟩ ⟨Y, Y, Y, Y, trivial⟩ Y (Kf Y Y (Ke Y Y Y (Ka Y (Ka Y (Ka Y (kAdd Y Y om (kCutB Y Y Y Y Y om (Ks Y Y (kLitD Y Y Y Y (Ks Y Y ?_))))))))))))))))))))))))))))))))))))))))))
    rw [ecut]
    refine Ku false (ok_slices_Concat_Limpl_Rr_impl_Rr [u.answers, [L[j]]] (by simp) (by simp; omega)) ⟨Y, trivial⟩ Y Y Y (fun _ => ?_)
    rw [show [u.answers, [L[j]]].flatten = u.answers ++ [L[j]] by simp]
    have hstopr := trivial
    refine kNck Y Y (Kf Y Y (Ks Y Y (Ko Y Y Y Y (Kd (kH (Kbc (Ka Y (Ka Y (Ka Y (kIadR Y Y Y prl (kFadD Y (Ky Y Y (kNck Y Y (Kf Y Y (Ko Y Y Y Y (Kdb (Kb ?_)))))))))))))))))
    clear hstopr
    refine kSub (Sub.frzBox (aid 0 0) (rid 102 0) 12 rfl rfl rfl rfl rfl) ?_
    refine kSub (t := ⟨tabSl [(0, .c (.ptr (aid 0 0) 0 0)), (3, .c (.ptr (rid 3 0) 1 0)), (5, .c (.d (encR L))), (6, .b true)], obTab 1 [(aid 0 0, ⟨0, 0, .box ((aliT u L[j]).cells.map .d)⟩), (rid 3 0, ⟨1, 0, .box (m.cells.map .d)⟩)], []⟩) .normA ?_
    have hst1 : 0 ≤ (aliT u L[j]).steps ∧ (aliT u L[j]).steps ≤ 1000 := by show 0 ≤ u.steps ∧ u.steps ≤ 1000; omega
    have htn := hLj.t
    have htn1 := htn.len
    have htn2 := htn.mem
    have hstopo138 := trivial
    refine kRegD (Ka Y (kNck Y Y (Kf Y Y (Ke Y Y Y (Ka Y (kNck Y Y (Kf Y Y (Ke Y Y Y (Ks Y Y (Kp (ok_impl_Name_under _ _ prx prx) ⟨⟨⟨Y, trivial⟩, leb⟩, ⟨⟨Y, trivial⟩, leb⟩, trivial⟩ Y Y Y Y Y (Kw Y Y (Kd (kH (kCondN Y (fun g0 => Kbc (Ka Y (Ka Y (Ka Y (kBuildG Y (Ka Y (kNck Y Y (Kf Y Y (Ke Y Y Y (kNck Y Y (Kf Y Y (Ko Y Y Y Y (kMem [(0, ⟨0, 0, .box [.d _, .d _, .d _, .d _, .d _, .nil 1, .d _, .d _, .d _, .d _, .d _, .d _, .d _]⟩)] [(124, .c (.ptr 0 0 0)), (130, .c (.d _)), (125, .c (.ptr 0 0 0))] [] ⟨Y, trivial⟩ ⟨Y, Y, Y, trivial⟩ Y (kNck Y Y (Kf Y Y (Ko Y Y Y Y (kNck Y Y (Kf Y Y (Ko Y Y Y Y (Kdb ?_)))))))))))))))))))) (fun g0 => Kn (Kbc (Ka Y (Kz (ok_impl_Task_step _ prx) ⟨⟨rfl, _, rfl, rfl⟩, trivial⟩ Y Y Y (fun _ => rfl) (fun x1 hx1 => (Kdb (Kc (Ka Y (kNck Y Y (Kf Y Y (Ke Y Y Y (Kj Y Y Y (Kd (Km Y (fun g2 => Kbc (Ka Y (Kd (Kr (Er (ra := [.one (.d _)]) rfl ?_))))) (fun g2 => Kn (Kv ?_))))))))))))))))))))))))))))))
    all_goals clear hstopo138
    ·have e : folGo L m.code (k + 1) al u = (outT (aliT u L[j]), true) := by
      rw [folGo, if_neg c1, if_neg c2, el, if_neg (by rw [show underN L[j].to u.zone = false from g0]; decide)]
     rw [e]
     refine kSub (t := ⟨tabSl [(0, .c (.ptr (aid 0 0) 0 0))], obTab 1 [(aid 0 0, ⟨0, 0, .box (({ aliT u L[j] with zone := [], servers := u.hints, turn := 0 } : Task).cells.map .d)⟩)], []⟩) .normA ?_
     have hst2 : 0 ≤ ({ aliT u L[j] with zone := [], servers := u.hints, turn := 0 } : Task).steps ∧ ({ aliT u L[j] with zone := [], servers := u.hints, turn := 0 } : Task).steps ≤ 1000 := hst1
     refine Kc (Ka Y (Kz (ok_impl_Task_step _ prx) ⟨⟨rfl, _, rfl, rfl⟩, trivial⟩ Y Y Y (fun _ => rfl) (fun x0 hx0 => (Kdb (Kc (Ka Y (Kd (Kr (Er (ra := [.one (.d _)]) rfl ?_)))))))))
     exact ⟨(), trivial, rfl, rfl⟩
    ·have e : folGo L m.code (k + 1) al u = (stpI (aliT u L[j]), true) := by
      rw [folGo, if_neg c1, if_neg c2, el, if_pos (show underN L[j].to u.zone = true from g0), if_pos g2]
     rw [e]
     exact ⟨(), trivial, rfl, rfl⟩
    ·have e : folGo L m.code (k + 1) al u = folGo L m.code k true (stpI (aliT u L[j])) := by
      rw [folGo, if_neg c1, if_neg c2, el, if_pos (show underN L[j].to u.zone = true from g0), if_neg g2]
     exact kInv ⟨⟨(k, true, stpI (aliT u L[j])), ⟨hu.ali hLj g2, e.symm⟩⟩, Nat.lt_succ_self k, .normA⟩

theorem refSt_len {t : Task} (l : List Rr) (st : List Rr × Int) (x : Rr) : (refSt t st x).1.length ≤ st.1.length + 1 := by
 unfold refSt
 split
 ·split
  ·simp
  ·simp
 ·omega
theorem refF_len (t : Task) : ∀ (l : List Rr) (st : List Rr × Int), (l.foldl (refSt t) st).1.length ≤ st.1.length + l.length
 | [], st => by simp
 | x :: l, st => by
  rw [List.foldl_cons]
  have h1 := refF_len t l (refSt t st x)
  have h2 := refSt_len (t := t) l st x
  rw [List.length_cons]; omega
theorem srvS_len (r : Rr) : ∀ (l : List Rr) (s : List Int), s.length ≤ 4 → (l.foldl (srvSt r) s).length ≤ 4
 | [], s, h => h
 | x :: l, s, h => by
  rw [List.foldl_cons]
  refine srvS_len r l _ ?_
  unfold srvSt; split
  ·rw [List.length_append, List.length_singleton]; omega
  ·exact h
theorem srvF_len (L : List Rr) : ∀ (l : List Rr) (s : List Int), s.length ≤ 4 → (l.foldl (fun s r => L.foldl (srvSt r) s) s).length ≤ 4
 | [], s, h => h
 | x :: l, s, h => by
  rw [List.foldl_cons]
  exact srvF_len L l _ (srvS_len x L s h)

def c_impl_Task_next : C := (.reg true (.op 0 [] (some 2) none true (.mov (.t 0)) (.op 1 [] (some 3) none true (.mov (.t 0)) (.op 2 [] (some 4) none true (.nck (.t 3)) (.op 3 [] (some 5) none true (.fad (.t 4) 8) (.op 4 [] (some 6) none true (.load none (.t 5)) (.op 5 [] (some 7) none true (.bin .add (.t 6) (.i 1)) (.op 6 [] (some 8) none true (.mov (.t 0)) (.op 7 [] (some 9) none true (.nck (.t 8)) (.op 8 [] (some 10) none true (.fad (.t 9) 7) (.op 9 [] (some 11) none true (.load none (.t 10)) (.op 10 [] (some 12) none true (.len (.t 11)) (.op 11 [] (some 13) none true (.bin .rem (.t 7) (.t 12)) (.op 12 [] (some 14) none true (.nck (.t 2)) (.op 13 [] (some 15) none true (.fad (.t 14) 8) (.op 14 [4, 9] none none false (.store none (.t 15) (.t 13)) .done))))))))))))))))
theorem dg_impl_Task_next : Tryz.f283.body.bind (digC Tryz.prog Tryz.f283.ntmps []) = some c_impl_Task_next := by kernel_rfl
theorem rs_impl_Task_next : resSlots Tryz.prog Tryz.f283 = some [] := by kernel_rfl
theorem ok_impl_Task_next (t : Task) (h : 0 ≤ t.turn ∧ t.turn ≤ 3) (hl : 1 ≤ t.servers.length ∧ t.servers.length ≤ 4) :
  FnOK Tryz.prog 283 [.one (.box t.cells)] (fun ra os => ∃ x : Unit, True ∧ ra = [] ∧ os.b 0 = (nextT t).cells) := by
 refine FnOK.ofK Tryz.func283 (by kernel_rfl) dg_impl_Task_next rs_impl_Task_next rfl rfl ?_
 delta c_impl_Task_next T.o X.i C.g
 refine kRegD (Ka Y (Ka Y (kNck Y Y (Kf Y Y (Ke Y Y Y (kAdd Y Y om (Ka Y (kNck Y Y (Kf Y Y (Ke Y Y Y (kMem [(0, ⟨0, 0, .box [.d _, .d _, .d _, .d _, .d _, .d _, .d _, .d _, .d _, .d _, .d _, .d _, .d _]⟩)] [(11, .c (.d _)), (7, .c (.d _)), (12, .c (.un)), (2, .c (.ptr 0 0 0)), (14, .c (.un)), (15, .c (.un)), (13, .c (.un))] [0, 0] ⟨Y, trivial⟩ ⟨Y, Y, Y, Y, Y, Y, Y, trivial⟩ Y (Kq Y Y (kRem Y Y om (kNck Y Y (Kf Y Y (Ks Y Y (Ko Y Y Y Y (Kd (kH (kEnd (endNormalA (ra := []) rfl ?_)))))))))))))))))))))
 exact ⟨(), trivial, rfl, rfl⟩

def c_impl_Task_refer : C := (.g (.o 0 3 (.box 3 (.t 1)) .done) (.g (.o 0 14 (.lit 14 7 [(.n 1), (.i 0), (.i 0), (.i 0), (.n 1), (.n 1), (.n 1)] 0 []) (.o 1 4 (.mov (.t 14)) (.o 2 5 (.mov (.i 0)) .done))) (.seq (.g (.o 0 15 (.fad (.t 3) 7) (.o 1 16 (.load none (.t 15)) (.o 2 17 (.len (.t 16)) (.o 3 18 (.mov (.i 0)) .done)))) (.block 0 (.loop (.g (.o 0 19 (.bin .lss (.t 18) (.t 17)) .done) (.seq (.cond (.t 19) .skip (.exit 0)) (.seq (.block 1 (.g (.o 0 20 (.iad 7 (.t 16) (.t 18)) (.o 1 21 (.load (some 7) (.t 20)) (.o 2 7 (.alloc 7 [(.n 1), (.i 0), (.i 0), (.i 0), (.n 1), (.n 1), (.n 1)]) (.op 3 [] none none false (.store (some 7) (.t 7) (.t 21)) .done)))) (.g (.o 0 22 (.fad (.t 7) 0) (.o 1 23 (.fad (.t 22) 0) (.o 2 24 (.load none (.t 23)) (.o 3 25 (.len (.t 24)) (.o 4 8 (.mov (.t 25)) .done))))) (.seq (.seq (.reg true (.op 0 [] (some 26) none true (.fad (.t 7) 1) (.op 1 [] (some 27) none true (.load none (.t 26)) (.op 2 [] (some 28) none true (.bin .neq (.t 27) (.i 2)) (.op 3 [] (some 29) none true (.mov (.t 28)) (.op 4 [] (some 30) (some (29, false)) true (.fad (.t 7) 0) (.op 5 [] (some 31) (some (29, false)) true (.load (some 1) (.t 30)) (.op 6 [] (some 32) (some (29, false)) true (.mov (.t 0)) (.op 7 [] (some 33) (some (29, false)) true (.nck (.t 32)) (.op 8 [] (some 34) (some (29, false)) true (.fad (.t 33) 5) (.op 9 [] (some 35) (some (29, false)) true (.load (some 1) (.t 34)) (.op 10 [5, 1, 9] (some 36) (some (29, false)) false (.call 36 95 [(.t 31), (.t 35)]) (.op 11 [] (some 37) (some (29, false)) true (.un .not (.t 36)) (.op 12 [] (some 38) none true (.pick (.t 29) (.v (.bool true)) (.t 37)) (.op 13 [] (some 39) none true (.mov (.t 38)) (.op 14 [] (some 40) (some (39, false)) true (.mov (.t 8)) (.op 15 [] (some 41) (some (39, false)) true (.mov (.t 0)) (.op 16 [] (some 42) (some (39, false)) true (.nck (.t 41)) (.op 17 [] (some 43) (some (39, false)) true (.fad (.t 42) 5) (.op 18 [] (some 44) (some (39, false)) true (.fad (.t 43) 0) (.op 19 [] (some 45) (some (39, false)) true (.load none (.t 44)) (.op 20 [] (some 46) (some (39, false)) true (.len (.t 45)) (.op 21 [] (some 47) (some (39, false)) true (.bin .leq (.t 40) (.t 46)) (.op 22 [] (some 48) none true (.pick (.t 39) (.v (.bool true)) (.t 47)) (.op 23 [] (some 49) none true (.mov (.t 48)) (.op 24 [] (some 50) (some (49, false)) true (.mov (.t 0)) (.op 25 [] (some 51) (some (49, false)) true (.nck (.t 50)) (.op 26 [] (some 52) (some (49, false)) true (.fad (.t 51) 4) (.op 27 [] (some 53) (some (49, false)) true (.load (some 1) (.t 52)) (.op 28 [] (some 54) (some (49, false)) true (.fad (.t 7) 0) (.op 29 [] (some 55) (some (49, false)) true (.load (some 1) (.t 54)) (.op 30 [27, 5, 9, 19, 29, 1] (some 56) (some (49, false)) false (.call 56 95 [(.t 53), (.t 55)]) (.op 31 [] (some 57) (some (49, false)) true (.un .not (.t 56)) (.op 32 [] (some 58) none true (.pick (.t 49) (.v (.bool true)) (.t 57)) (.op 33 [] (some 59) none true (.mov (.t 58)) (.op 34 [] (some 60) (some (59, false)) true (.mov (.t 8)) (.op 35 [] (some 61) (some (59, false)) true (.mov (.t 5)) (.op 36 [] (some 62) (some (59, false)) true (.bin .lss (.t 60) (.t 61)) (.op 37 [] (some 63) none true (.pick (.t 59) (.v (.bool true)) (.t 62)) .done))))))))))))))))))))))))))))))))))))))) (.cond (.t 63) (.exit 1) .skip)) (.seq (.g (.o 0 64 (.mov (.t 8)) (.o 1 65 (.mov (.t 5)) (.o 2 66 (.bin .gtr (.t 64) (.t 65)) .done))) (.cond (.t 66) (.reg false (.o 0 67 (.mov (.t 8)) (.o 1 4 (.mov (.n 7)) (.o 2 5 (.mov (.t 67)) .done)))) .skip)) (.reg false (.o 0 68 (.mov (.t 4)) (.o 1 69 (.load (some 7) (.t 7)) (.o 2 70 (.lit 70 7 [(.n 1), (.i 0), (.i 0), (.i 0), (.n 1), (.n 1), (.n 1)] 1 [(0, 7, (.t 69))]) (.o 3 71 (.app 71 7 120 (.t 68) (.t 70)) (.o 4 4 (.mov (.t 71)) .done))))))))))) (.reg false (.o 0 72 (.bin .add (.t 18) (.i 1)) (.o 1 18 (.mov (.t 72)) .done))))))))) (.seq (.g (.o 0 73 (.mov (.t 4)) (.o 1 74 (.len (.t 73)) (.o 2 75 (.bin .eql (.t 74) (.i 0)) .done))) (.cond (.t 75) (.seq (.g (.o 0 76 (.fad (.t 3) 3) (.o 1 77 (.load none (.t 76)) .done)) (.cond (.t 77) (.reg false (.o 0 78 (.mov (.t 0)) (.o 1 79 (.call 79 285 [(.t 78), (.i 0)]) .done))) (.reg false (.o 0 80 (.mov (.t 0)) (.o 1 81 (.call 81 283 [(.t 80)]) .done))))) .ret) .skip)) (.g (.o 0 82 (.lit 82 1 [(.i 0)] 0 []) (.o 1 9 (.mov (.t 82)) .done)) (.seq (.g (.o 0 83 (.mov (.t 4)) (.o 1 84 (.len (.t 83)) (.o 2 85 (.mov (.i 0)) .done))) (.block 2 (.loop (.g (.o 0 86 (.bin .lss (.t 85) (.t 84)) .done) (.seq (.cond (.t 86) .skip (.exit 2)) (.seq (.block 3 (.g (.o 0 87 (.iad 7 (.t 83) (.t 85)) (.o 1 88 (.load (some 7) (.t 87)) (.o 2 11 (.alloc 11 [(.n 1), (.i 0), (.i 0), (.i 0), (.n 1), (.n 1), (.n 1)]) (.op 3 [] none none false (.store (some 7) (.t 11) (.t 88)) .done)))) (.seq (.reg true (.op 0 [] (some 89) none true (.fad (.t 3) 8) (.op 1 [] (some 90) none true (.load none (.t 89)) (.op 2 [] (some 91) none true (.mov (.t 0)) (.op 3 [] (some 92) none true (.nck (.t 91)) (.op 4 [] (some 93) none true (.fad (.t 92) 5) (.op 5 [] (some 94) none true (.load (some 1) (.t 93)) (.op 8 [] (some 97) none true (.mov (.i 0)) (.op 6 [1, 5] (some 95) none false (.call 95 322 [(.t 90), (.t 94)]) (.op 7 [] (some 96) none true (.len (.t 95)) .done)))))))))) (.block 4 (.loop (.g (.o 0 98 (.bin .lss (.t 97) (.t 96)) .done) (.seq (.cond (.t 98) .skip (.exit 4)) (.seq (.block 5 (.g (.o 0 99 (.iad 7 (.t 95) (.t 97)) (.o 1 100 (.load (some 7) (.t 99)) (.o 2 13 (.alloc 13 [(.n 1), (.i 0), (.i 0), (.i 0), (.n 1), (.n 1), (.n 1)]) (.op 3 [] none none false (.store (some 7) (.t 13) (.t 100)) .done)))) (.g (.o 0 101 (.fad (.t 13) 1) (.o 1 102 (.load none (.t 101)) (.o 2 103 (.bin .eql (.t 102) (.i 1)) (.o 3 104 (.mov (.t 103)) (.op 4 [] (some 105) (some (104, true)) false (.fad (.t 13) 0) (.op 5 [] (some 106) (some (104, true)) false (.load (some 1) (.t 105)) (.op 6 [] (some 107) (some (104, true)) false (.fad (.t 11) 4) (.op 7 [] (some 108) (some (104, true)) false (.load (some 1) (.t 107)) (.op 8 [] (some 109) (some (104, true)) false (.call 109 96 [(.t 106), (.t 108)]) (.o 9 110 (.pick (.t 104) (.t 109) (.v (.bool false))) (.o 10 111 (.mov (.t 110)) (.op 11 [] (some 112) (some (111, true)) false (.mov (.t 9)) (.op 12 [] (some 113) (some (111, true)) false (.len (.t 112)) (.op 13 [] (some 114) (some (111, true)) false (.bin .lss (.t 113) (.i 4)) (.o 14 115 (.pick (.t 111) (.t 114) (.v (.bool false))) .done))))))))))))))) (.cond (.t 115) (.reg false (.o 0 116 (.mov (.t 9)) (.o 1 117 (.fad (.t 13) 3) (.o 2 118 (.load none (.t 117)) (.o 3 119 (.lit 119 1 [(.i 0)] 1 [(0, 1, (.t 118))]) (.o 4 120 (.app 120 1 8 (.t 116) (.t 119)) (.o 5 9 (.mov (.t 120)) .done))))))) .skip)))) (.reg false (.o 0 121 (.bin .add (.t 97) (.i 1)) (.o 1 97 (.mov (.t 121)) .done))))))))))) (.reg false (.o 0 122 (.bin .add (.t 85) (.i 1)) (.o 1 85 (.mov (.t 122)) .done))))))))) (.seq (.g (.o 0 123 (.mov (.t 9)) (.o 1 124 (.len (.t 123)) (.o 2 125 (.bin .eql (.t 124) (.i 0)) .done))) (.cond (.t 125) (.g (.o 0 126 (.mov (.t 0)) (.o 1 127 (.call 127 285 [(.t 126), (.i 2)]) .done)) .ret) .skip)) (.g (.o 0 128 (.mov (.t 0)) (.o 1 129 (.mov (.t 0)) (.o 2 130 (.mov (.t 0)) (.o 3 131 (.mov (.t 4)) (.o 4 132 (.iad 7 (.t 131) (.i 0)) (.o 5 133 (.fad (.t 132) 0) (.o 6 134 (.load (some 1) (.t 133)) (.o 7 135 (.mov (.t 9)) (.o 8 136 (.nck (.t 128)) (.o 9 137 (.fad (.t 136) 5) (.op 10 [] none none false (.store (some 1) (.t 137) (.t 134)) (.o 11 138 (.nck (.t 129)) (.o 12 139 (.fad (.t 138) 7) (.op 13 [] none none false (.store none (.t 139) (.t 135)) (.o 14 140 (.nck (.t 130)) (.o 15 141 (.fad (.t 140) 8) (.op 16 [] none none false (.store none (.t 141) (.i 0)) .done))))))))))))))))) (.reg false (.o 0 142 (.mov (.t 0)) (.o 1 143 (.call 143 324 [(.t 142)]) .done)))))))))))
theorem dg_impl_Task_refer : Tryz.f286.body.bind (digC Tryz.prog Tryz.f286.ntmps []) = some c_impl_Task_refer := by kernel_rfl
theorem rs_impl_Task_refer : resSlots Tryz.prog Tryz.f286 = some [] := by kernel_rfl
theorem ok_impl_Task_refer (t : Task) (m : Msg) (hz : SmallBB t.zone) (hn : SmallBB t.name) (hs : 0 ≤ t.steps ∧ t.steps ≤ 1000) (h2 : 0 ≤ t.turn ∧ t.turn ≤ 3) (hl : 1 ≤ t.servers.length ∧ t.servers.length ≤ 4) (hu : SmallRs m.au) (hul : m.au.length ≤ 12) (hm : SmallRs m.mo) (hml : m.mo.length ≤ 12) :
  FnOK Tryz.prog 286 [.one (.box t.cells), .agg (m.cells.map .d)] (fun ra os => ∃ x : Unit, True ∧ ra = [] ∧ os.b 0 = (refT t m).cells) := by
 refine FnOK.ofK Tryz.func286 (by kernel_rfl) dg_impl_Task_refer rs_impl_Task_refer rfl rfl ?_
 delta c_impl_Task_refer T.o X.i C.g
 have hz1 := hz.len
 have hz2 := hz.mem
 have hn1 := hn.len
 have hn2 := hn.mem
 refine Kbc (kBox Y Y Y Y Y (Kdb (Kc (kLitG Y Y Y Y (Ka Y (Ka Y (Kdb (Kbc (Kf Y Y (Ke Y Y Y (Kq Y Y (Ka Y (Kd (Kt ?_))))))))))))))
 refine kLoop (α := { i : Nat // i ≤ m.au.length }) (fun y => ⟨tabSl [(0, .c (.ptr (aid 0 0) 0 0)), (3, .c (.ptr (rid 3 0) 1 0)), (4, .c (.arr (rid 14 0) 1)), (5, .i ((m.au.take y.1).foldl (refSt t) ([], 0)).2), (16, .c (.d (encR m.au))), (17, .i m.au.length), (18, .i y.1)], obTab 1 [(aid 0 0, ⟨0, 0, .box (t.cells.map .d)⟩), (rid 3 0, ⟨1, 0, .box (m.cells.map .d)⟩), (rid 14 0, ⟨1, 0, .arr false (encR ((m.au.take y.1).foldl (refSt t) ([], 0)).1)⟩)], []⟩) (fun y => m.au.length - y.1) ⟨0, Nat.zero_le _⟩ .normA ?_
 rintro ⟨i, hi⟩
 simp only
 rcases Nat.lt_or_ge i m.au.length with hlt | hge
 ·have hr := hu.mem _ (List.getElem_mem hlt)
  have hrn := hr.n
  have hrn1 := hrn.len
  have hrn2 := hrn.mem
  have hsu := foldl_succ (refSt t) m.au i hlt ([], 0)
  have hle := refF_len t (m.au.take i) ([], 0)
  generalize (m.au.take i).foldl (refSt t) ([], 0) = st at *
  obtain ⟨L, n⟩ := st
  simp only at hle ⊢
  have hL12 : L.length ≤ 12 := by simp only [List.length_nil, List.length_take] at hle; omega
  refine Kbc (Kj Y Y Y (Kdb (Km Y (fun g0 => Kn (Kb (Kt (Kbc (kIadR Y Y Y prl (Ky Y Y (kAlloc Y Y (Ko Y Y Y Y (Kdb (Kc (Kf Y Y (Kf Y Y (Ke Y Y Y (Kq Y Y (Ka Y (Kdb (Kb (kRegD (Kf Y Y (Ke Y Y Y (Kj Y Y Y (Ka Y (kGIN Y (fun g1 => Kg Y (Kg Y (Kg Y (Kg Y (Kg Y (Kg Y (Ks Y Y (Kg Y (Kg Y (Kk Y (Ka Y (Ka Y (Kg Y (Kg Y (Kg Y (Kg Y (Kg Y (Kg Y (Kg Y (Kg Y (Kk Y (Ka Y (Ka Y (Kg Y (Kg Y (Kg Y (Kg Y (Kg Y (Kg Y (Ks Y Y (Kg Y (Kg Y (Kk Y (Ka Y (Ka Y (Kg Y (Kg Y (Kg Y (Kk Y (Ka Y (Kd (kH (kCondT Y (kExit (kExC (kExB (Kc (kAdd Y Y om (Ka Y (Kd ?_)))))))))))))))))))))))))))))))))))))))))))))))))) (fun g1 => Ki Y (Kf Y Y (Ki Y (Ke Y Y Y (Ki Y (Ka Y (Ki Y (kNck Y Y (Ki Y (Kf Y Y (Ki Y (Ke Y Y Y (Ks Y Y (Ki Y (Kp (ok_impl_Name_under _ _ prx prx) ⟨⟨⟨Y, trivial⟩, leb⟩, ⟨⟨Y, trivial⟩, leb⟩, trivial⟩ Y Y Y Y Y (Ki Y (Kw Y Y (Kl Y (Ka Y (Ka Y (kGN Y (fun g2 => Kg Y (Kg Y (Kg Y (Kg Y (Kg Y (Kg Y (Kg Y (Kg Y (Kk Y (Ka Y (Ka Y (Kg Y (Kg Y (Kg Y (Kg Y (Kg Y (Kg Y (Ks Y Y (Kg Y (Kg Y (Kk Y (Ka Y (Ka Y (Kg Y (Kg Y (Kg Y (Kk Y (Ka Y (Kd (kH (kCondT Y (kExit (kExC (kExB (Kc (kAdd Y Y om (Ka Y (Kd ?_)))))))))))))))))))))))))))))))))))))) (fun g2 => Ki Y (Ka Y (Ki Y (Ka Y (Ki Y (kNck Y Y (Ki Y (Kf Y Y (Ki Y (Kf Y Y (Ki Y (Ke Y Y Y (Ki Y (Kq Y Y (Ki Y (Kj Y Y Y (Kl Y (Ka Y (Ka Y (kGP Y (fun g3 => Kg Y (Kg Y (Kg Y (Kg Y (Kg Y (Kg Y (Ks Y Y (Kg Y (Kg Y (Kk Y (Ka Y (Ka Y (Kg Y (Kg Y (Kg Y (Kk Y (Ka Y (Kd (kH (kCondT Y (kExit (kExC (kExB (Kc (kAdd Y Y om (Ka Y (Kd ?_))))))))))))))))))))))))))) (fun g3 => Ki Y (Ka Y (Ki Y (kNck Y Y (Ki Y (Kf Y Y (Ki Y (Ke Y Y Y (Ki Y (Kf Y Y (Ki Y (Ke Y Y Y (Ks Y Y (Ki Y (Kp (ok_impl_Name_under _ _ prx prx) ⟨⟨⟨Y, trivial⟩, leb⟩, ⟨⟨Y, trivial⟩, leb⟩, trivial⟩ Y Y Y Y Y (Ki Y (Kw Y Y (Kl Y (Ka Y (Ka Y (kGN Y (fun g4 => Kg Y (Kg Y (Kg Y (Kk Y (Ka Y (Kd (kH (kCondT Y (kExit (kExC (kExB (Kc (kAdd Y Y om (Ka Y (Kd ?_))))))))))))))) (fun g4 => Ki Y (Ka Y (Ki Y (Ka Y (Ki Y (Kj Y Y Y (Kl Y (Ka Y (Kd (kH (Km Y (fun g5 => kExit (kExC (kExB (Kc (kAdd Y Y om (Ka Y (Kd ?_))))))) (fun g5 => Kn (Kb (Kbc (Ka Y (Ka Y (Kj Y Y Y (Kd (Km Y (fun g6 => Kc (Ka Y (Ka Y (Ka Y (Kd (Kc (Ka Y (Ke Y Y Y (kLitG Y Y Y Y ?_))))))))) (fun g6 => Kn (Kc (Ka Y (Ke Y Y Y (kLitG Y Y Y Y (kAppRec Y Y Y Y Y Y Y prl (Ka Y (Kd (Kv (Kc (kAdd Y Y om (Ka Y (Kd ?_))))))))))))))))))))))))))))))))))))))))))))))))))))))))))))))))))))))))))))))))))))))))))))))))))))))))))))))))))))) (fun g0 => om))))
  ·refine kInv ⟨⟨i + 1, by omega⟩, by simp only; omega, ?_⟩
   rw [hsu, show refSt t (L, n) m.au[i] = (L, n) by unfold refSt; rw [if_neg]; rintro ⟨a1, a2, a3, a4, a5⟩; exact g1 a1]
   exact .normA
  ·refine kInv ⟨⟨i + 1, by omega⟩, by simp only; omega, ?_⟩
   rw [hsu, show refSt t (L, n) m.au[i] = (L, n) by unfold refSt; rw [if_neg]; rintro ⟨a1, a2, a3, a4, a5⟩; rw [g2] at a2; cases a2]
   exact .normA
  ·refine kInv ⟨⟨i + 1, by omega⟩, by simp only; omega, ?_⟩
   rw [hsu, show refSt t (L, n) m.au[i] = (L, n) by unfold refSt; rw [if_neg]; rintro ⟨a1, a2, a3, a4, a5⟩; omega]
   exact .normA
  ·refine kInv ⟨⟨i + 1, by omega⟩, by simp only; omega, ?_⟩
   rw [hsu, show refSt t (L, n) m.au[i] = (L, n) by unfold refSt; rw [if_neg]; rintro ⟨a1, a2, a3, a4, a5⟩; rw [g4] at a4; cases a4]
   exact .normA
  ·refine kInv ⟨⟨i + 1, by omega⟩, by simp only; omega, ?_⟩
   rw [hsu, show refSt t (L, n) m.au[i] = (L, n) by unfold refSt; rw [if_neg]; rintro ⟨a1, a2, a3, a4, a5⟩; simp only at a5; omega]
   exact .normA
  ·refine kAppRec (l := []) Y Y Y Y Y Y Y (by simp) ?_
   refine Ka Y (Kd (Kv (Kc (kAdd Y Y om (Ka Y (Kd ?_))))))
   refine kInv ⟨⟨i + 1, by omega⟩, by simp only; omega, ?_⟩
   rw [hsu, show refSt t (L, n) m.au[i] = ([m.au[i]], (m.au[i].name.length : Int)) by unfold refSt; rw [if_pos ⟨g1, g2, by omega, g4, by simp only; omega⟩, if_pos (by simp only; omega)]]
   exact (Sub.renSlot 4 (rid 71 0) (rid 14 0) rfl rfl rfl rfl).trans .normA
  ·refine kInv ⟨⟨i + 1, by omega⟩, by simp only; omega, ?_⟩
   rw [hsu, show refSt t (L, n) m.au[i] = (L ++ [m.au[i]], n) by unfold refSt; rw [if_pos ⟨g1, g2, by omega, g4, by simp only; omega⟩, if_neg (by simp only; omega)]]
   exact .normA
 ·have he : i = m.au.length := by omega
  subst he
  rw [List.take_length]
  have hRm := fun r (h : r ∈ refL t m) => refL_mem h
  have hRl : (refL t m).length ≤ m.au.length := by have := refF_len t m.au ([], 0); simpa [refL] using this
  have hfold : (m.au.foldl (refSt t) ([], 0)).1 = refL t m := rfl
  rw [hfold]
  unfold refT
  have hsv : srvL t m (refL t m) = (refL t m).foldl (fun s r => (insideR m.mo t.zone).foldl (srvSt r) s) [] := rfl
  generalize refL t m = R at *
  generalize (m.au.foldl (refSt t) ([], 0)).2 = n0
  refine kSub (Sub.frz (j := 4) rfl rfl (leb)) ?_
  by_cases c1 : R.length = 0
  ·rw [if_pos c1]
   cases hau : m.auth with
   | true =>
    refine Kbc (Kj Y Y Y (Kdb (Km Y (fun g0 => om) (fun g0 => kExit (kExC (kExI (kExB (Kb (Kbc (Ka Y (Kq Y Y (Kj Y Y Y (Kd (Km Y (fun g1 => Kb (Kbc (Kf Y Y (Ke Y Y Y (Kd (kCond Y (fun g2 => Kc (Ka Y (Kz (ok_impl_Task_end _ _) ⟨⟨rfl, _, rfl, rfl⟩, rfl, trivial⟩ Y Y Y (fun _ => rfl) (fun x3 hx3 => (Kd ?_))))) (fun g2 => (by (simp [*] at g2))))))))) (fun g1 => om)))))))))))))))
    exact Kr (Er (ra := []) Y ⟨(), trivial, rfl, rfl⟩)
   | false =>
    refine Kbc (Kj Y Y Y (Kdb (Km Y (fun g0 => om) (fun g0 => kExit (kExC (kExI (kExB (Kb (Kbc (Ka Y (Kq Y Y (Kj Y Y Y (Kd (Km Y (fun g1 => Kb (Kbc (Kf Y Y (Ke Y Y Y (Kd (kCond Y (fun g2 => (by (simp [*] at g2))) (fun g2 => Kc (Ka Y (Kz (ok_impl_Task_next _ prx prx) ⟨⟨rfl, _, rfl, rfl⟩, trivial⟩ Y Y Y (fun _ => rfl) (fun x3 hx3 => (Kd ?_))))))))))) (fun g1 => om)))))))))))))))
    exact Kr (Er (ra := []) Y ⟨(), trivial, rfl, rfl⟩)
  ·rw [if_neg c1]
   have hRs : SmallRs R := ⟨by omega, fun r hr => hu.mem r (hRm r hr).1⟩
   have hM : SmallRs (insideR m.mo t.zone) := hm.filter _
   have hMl : (insideR m.mo t.zone).length ≤ 12 := Nat.le_trans (List.length_filter_le _ _) hml
   refine Kbc (Kj Y Y Y (Kdb (Km Y (fun g0 => om) (fun g0 => kExit (kExC (kExI (kExB (Kb (Kbc (Ka Y (Kq Y Y (Kj Y Y Y (Kd (Km Y (fun g1 => om) (fun g1 => Kn (Kbc (kLitG Y Y Y Y (Ka Y (Kdb (Kbc (Ka Y (Kq Y Y (Ka Y (Kd (Kt ?_)))))))))))))))))))))))))
   refine kLoop (α := { j : Nat // j ≤ R.length }) (fun y => ⟨tabSl [(0, .c (.ptr (aid 0 0) 0 0)), (3, .c (.ptr (rid 3 0) 1 0)), (4, .c (.d (encR R))), (9, .c (.arr (rid 82 0) 1)), (83, .c (.d (encR R))), (84, .i R.length), (85, .i y.1)], obTab 1 [(aid 0 0, ⟨0, 0, .box (t.cells.map .d)⟩), (rid 3 0, ⟨1, 0, .box (m.cells.map .d)⟩), (rid 82 0, ⟨1, 0, .arr true (encI ((R.take y.1).foldl (fun s r => (insideR m.mo t.zone).foldl (srvSt r) s) []))⟩)], []⟩) (fun y => R.length - y.1) ⟨0, Nat.zero_le _⟩ .normA ?_
   rintro ⟨j, hj⟩
   simp only
   rcases Nat.lt_or_ge j R.length with hjl | hjl
   ·have hr := hRs.mem _ (List.getElem_mem hjl)
    have hrt := hr.t
    have hrt1 := hrt.len
    have hrt2 := hrt.mem
    have hfs := foldl_succ (fun s r => (insideR m.mo t.zone).foldl (srvSt r) s) R j hjl ([] : List Int)
    have hle := srvF_len (insideR m.mo t.zone) (R.take j) [] (Nat.zero_le _)
    generalize (R.take j).foldl (fun s r => (insideR m.mo t.zone).foldl (srvSt r) s) [] = s0 at *
    refine Kbc (Kj Y Y Y (Kdb (Km Y (fun g0 => Kn (Kb (Kt (Kbc (kIadR Y Y Y prl (Ky Y Y (kAlloc Y Y (Ko Y Y Y Y (Kdb (kRegD (Kf Y Y (Ke Y Y Y (Ka Y (kNck Y Y (Kf Y Y (Ke Y Y Y (Ka Y (Ks Y Y (kCallD2 (ok_impl_inside _ _ prx prx prx) ⟨rfl, ⟨⟨Y, trivial⟩, leb⟩, trivial⟩ Y Y Y Y (Kq Y Y (Kd (kH (Kt ?_))))))))))))))))))))))) (fun g0 => om))))
    generalize insideR m.mo t.zone = M at *
    refine kLoop (α := { i : Nat // i ≤ M.length }) (fun y => ⟨tabSl [(0, .c (.ptr (aid 0 0) 0 0)), (3, .c (.ptr (rid 3 0) 1 0)), (4, .c (.d (encR R))), (9, .c (.arr (rid 82 0) 1)), (11, .c (.ptr (rid 11 0) 1 0)), (83, .c (.d (encR R))), (84, .i R.length), (85, .i j), (95, .c (.d (encR M))), (96, .i M.length), (97, .i y.1)], obTab 1 [(aid 0 0, ⟨0, 0, .box (t.cells.map .d)⟩), (rid 3 0, ⟨1, 0, .box (m.cells.map .d)⟩), (rid 11 0, ⟨1, 0, .box (R[j].cells.map .d)⟩), (rid 82 0, ⟨1, 0, .arr true (encI ((M.take y.1).foldl (srvSt R[j]) s0))⟩)], []⟩) (fun y => M.length - y.1) ⟨0, Nat.zero_le _⟩ .normA ?_
    rintro ⟨i, hi⟩
    simp only
    rcases Nat.lt_or_ge i M.length with hlt | hge
    ·have ha := hM.mem _ (List.getElem_mem hlt)
     have han := ha.n
     have han1 := han.len
     have han2 := han.mem
     have hss := foldl_succ (srvSt R[j]) M i hlt s0
     have hsl := srvS_len R[j] (M.take i) s0 hle
     generalize (M.take i).foldl (srvSt R[j]) s0 = s1 at *
     refine Kbc (Kj Y Y Y (Kdb (Km Y (fun g0 => Kn (Kb (Kt (Kbc (kIadR Y Y Y prl (Ky Y Y (kAlloc Y Y (Ko Y Y Y Y (Kdb (Kc (Kf Y Y (Ke Y Y Y (Kj Y Y Y (Ka Y (kGP Y (fun g1 => Ki Y (Kf Y Y (Ki Y (Ke Y Y Y (Ki Y (Kf Y Y (Ki Y (Ke Y Y Y (Ki Y (Kp (ok_impl_Name_is _ _ prx prx) ⟨⟨⟨Y, trivial⟩, leb⟩, ⟨⟨Y, trivial⟩, leb⟩, trivial⟩ Y Y Y Y Y (Kk Y (Ka Y (Ka Y (kGP Y (fun g2 => Ki Y (Ka Y (Ki Y (Kq Y Y (Ki Y (Kj Y Y Y (Kk Y (Ka Y (Kd (Km Y (fun g3 => Kc (Ka Y (Kf Y Y (Ke Y Y Y (kLitG Y Y Y Y (kAppR1 Y Y Y Y Y Y Y Y prl (Ka Y (Kd (Kv (Kc (kAdd Y Y om (Ka Y (Kd ?_))))))))))))) (fun g3 => Kn (Kv (Kc (kAdd Y Y om (Ka Y (Kd ?_)))))))))))))))) (fun g2 => Kg Y (Kg Y (Kg Y (Kl Y (Ka Y (Kd (kCondF Y (Kn (Kv (Kc (kAdd Y Y om (Ka Y (Kd ?_))))))))))))))))))))))))))) (fun g1 => Kg Y (Kg Y (Kg Y (Kg Y (Kg Y (Kl Y (Ka Y (Ka Y (Kg Y (Kg Y (Kg Y (Kl Y (Ka Y (Kd (kCondF Y (Kn (Kv (Kc (kAdd Y Y om (Ka Y (Kd ?_)))))))))))))))))))))))))))))))))))) (fun g0 => om))))
     ·refine kInv ⟨⟨i + 1, by omega⟩, by simp only; omega, ?_⟩
      rw [hss, show srvSt R[j] s1 M[i] = s1 ++ [M[i].addr] by unfold srvSt; rw [if_pos ⟨g1, g2, by omega⟩]]
      exact .normA
     ·refine kInv ⟨⟨i + 1, by omega⟩, by simp only; omega, ?_⟩
      rw [hss, show srvSt R[j] s1 M[i] = s1 by unfold srvSt; rw [if_neg fun h => by omega]]
      exact .normA
     ·refine kInv ⟨⟨i + 1, by omega⟩, by simp only; omega, ?_⟩
      rw [hss, show srvSt R[j] s1 M[i] = s1 by unfold srvSt; rw [if_neg fun h => g2 h.2.1]]
      exact .normA
     ·refine kInv ⟨⟨i + 1, by omega⟩, by simp only; omega, ?_⟩
      rw [hss, show srvSt R[j] s1 M[i] = s1 by unfold srvSt; rw [if_neg fun h => g1 h.1]]
      exact .normA
    ·have he : i = M.length := by omega
     subst he
     rw [List.take_length]
     refine Kbc (Kj Y Y Y (Kdb (Km Y (fun g0 => om) (fun g0 => kExit (kExC (kExI (kExB (Kv (Kc (kAdd Y Y om (Ka Y (Kd ?_))))))))))))
     refine kInv ⟨⟨j + 1, by omega⟩, by simp only; omega, ?_⟩
     rw [hfs]
     exact .normA
   ·have he : j = R.length := by omega
    subst he
    rw [List.take_length, ← hsv]
    have hle : (srvL t m R).length ≤ 4 := by rw [hsv]; exact srvF_len _ R [] (Nat.zero_le _)
    generalize srvL t m R = S at *
    by_cases c2 : S.length = 0
    ·rw [if_pos c2]
     refine Kbc (Kj Y Y Y (Kdb (Km Y (fun g0 => om) (fun g0 => kExit (kExC (kExI (kExB (Kb (Kbc (Ka Y (Kq Y Y (Kj Y Y Y (Kd (Km Y (fun g1 => Kbc (Ka Y (Kz (ok_impl_Task_end _ _) ⟨⟨rfl, _, rfl, rfl⟩, rfl, trivial⟩ Y Y Y (fun _ => rfl) (fun x2 hx2 => (Kd ?_))))) (fun g1 => om)))))))))))))))
     exact Kr (Er (ra := []) Y ⟨(), trivial, rfl, rfl⟩)
    ·rw [if_neg c2]
     have hR0 : 0 < R.length := by omega
     have hg : R.getD 0 emptyR = R[0] := by rw [List.getD_eq_getElem?_getD, List.getElem?_eq_getElem hR0]; rfl
     rw [hg]
     have hstopo143 := trivial
     refine Kbc (Kj Y Y Y (Kdb (Km Y (fun g0 => om) (fun g0 => kExit (kExC (kExI (kExB (Kb (Kbc (Ka Y (Kq Y Y (Kj Y Y Y (Kd (Km Y (fun g1 => om) (fun g1 => Kn (Kbc (Ka Y (Ka Y (Ka Y (Ka Y (kIadR (m := 0) Y Y Y prl (kFadD Y (Ky Y Y (Ka Y (kNck Y Y (Kf Y Y (Ko Y Y Y Y (kNck Y Y (Kf Y Y (Ko Y Y Y Y (kNck Y Y (Kf Y Y (Ko Y Y Y Y (Kd ?_))))))))))))))))))))))))))))))))))
     clear hstopo143
     refine kSub (Sub.frzBox (aid 0 0) (rid 82 0) 7 rfl rfl rfl rfl rfl) ?_
     refine kSub (t := ⟨tabSl [(0, .c (.ptr (aid 0 0) 0 0))], obTab 1 [(aid 0 0, ⟨0, 0, .box (({ t with zone := R[0].name, servers := S, turn := 0 } : Task).cells.map .d)⟩)], []⟩) .normA ?_
     have hst2 : 0 ≤ ({ t with zone := R[0].name, servers := S, turn := 0 } : Task).steps ∧ ({ t with zone := R[0].name, servers := S, turn := 0 } : Task).steps ≤ 1000 := hs
     refine Kc (Ka Y (Kz (ok_impl_Task_step _ prx) ⟨⟨rfl, _, rfl, rfl⟩, trivial⟩ Y Y Y (fun _ => rfl) (fun x0 hx0 => (Kd (kEnd (endNormalA (ra := []) rfl ?_))))))
     exact ⟨(), trivial, rfl, rfl⟩

def c_impl_Task_send : C := (.g (.o 0 2 (.mov (.v (.bool false))) .done) (.g (.o 0 3 (.mov (.t 0)) (.o 1 4 (.nck (.t 3)) (.o 2 5 (.fad (.t 4) 9) (.o 3 6 (.load none (.t 5)) (.o 4 7 (.bin .add (.t 6) (.i 1)) (.o 5 8 (.nck (.t 3)) (.o 6 9 (.fad (.t 8) 9) (.op 7 [] none none false (.store none (.t 9) (.t 7)) .done)))))))) (.seq (.g (.o 0 10 (.mov (.t 0)) (.o 1 11 (.nck (.t 10)) (.o 2 12 (.fad (.t 11) 9) (.o 3 13 (.load none (.t 12)) (.o 4 14 (.bin .eql (.t 13) (.i 12)) .done))))) (.cond (.t 14) (.reg false (.o 0 15 (.mov (.t 0)) (.o 1 16 (.call 16 285 [(.t 15), (.i 2)]) .done))) .skip)) (.g (.o 0 17 (.mov (.t 0)) (.o 1 18 (.nck (.t 17)) (.o 2 19 (.fad (.t 18) 9) (.o 3 20 (.load none (.t 19)) (.o 4 21 (.bin .eql (.t 20) (.i 12)) (.o 5 2 (.mov (.t 21)) .done)))))) .ret))))
theorem dg_impl_Task_send : Tryz.f282.body.bind (digC Tryz.prog Tryz.f282.ntmps []) = some c_impl_Task_send := by kernel_rfl
theorem rs_impl_Task_send : resSlots Tryz.prog Tryz.f282 = some [.s 2] := by kernel_rfl
theorem ok_impl_Task_send (t : Task) (h : 0 ≤ t.sends ∧ t.sends < 12) :
  FnOK Tryz.prog 282 [.one (.box t.cells)] (fun ra os => ∃ x : Unit, True ∧ ra = [.one (.d (.sc (.bool (decide (t.sends + 1 = 12)))))] ∧ os.b 0 = (sentT t).cells) := by
 refine FnOK.ofK Tryz.func282 (by kernel_rfl) dg_impl_Task_send rs_impl_Task_send rfl rfl ?_
 delta c_impl_Task_send T.o X.i C.g
 unfold sentT
 split
 ·refine Kbc (Ka Y (Kdb (Kc (Ka Y (kNck Y Y (Kf Y Y (Ke Y Y Y (kAdd Y Y om (kNck Y Y (Kf Y Y (Ko Y Y Y Y (Kdb (Kbc (Ka Y (kMem [(0, ⟨0, 0, .box [.d _, .d _, .d _, .d _, .d _, .d _, .d _, .d _, .d _, .d _, .d _, .d _, .d _]⟩)] [(10, .c (.ptr 0 0 0)), (11, .c (.un)), (12, .c (.un)), (13, .c (.un))] [] ⟨Y, trivial⟩ ⟨Y, Y, Y, Y, trivial⟩ Y (kNck Y Y (Kf Y Y (Ke Y Y Y (Kj Y Y Y (Kd (Km Y (fun g0 => Kc (Ka Y ?_)) (fun g0 => om))))))))))))))))))))))
  refine Kz (ok_impl_Task_end { t with sends := t.sends + 1 } 2) ⟨⟨rfl, _, rfl, rfl⟩, rfl, trivial⟩ Y Y Y (fun _ => rfl) (fun x0 hx0 => ?_)
  refine Kdb (Kc (Ka Y (kNck Y Y (Kf Y Y (Ke Y Y Y (Kj Y Y Y (Ka Y (Kd (Kr (Er (ra := [.one (.d _)]) rfl ?_))))))))))
  exact ⟨(), trivial, rfl, rfl⟩
 ·refine Kbc (Ka Y (Kdb (Kc (Ka Y (kNck Y Y (Kf Y Y (Ke Y Y Y (kAdd Y Y om (kNck Y Y (Kf Y Y (Ko Y Y Y Y (Kdb (Kbc (Ka Y (kMem [(0, ⟨0, 0, .box [.d _, .d _, .d _, .d _, .d _, .d _, .d _, .d _, .d _, .d _, .d _, .d _, .d _]⟩)] [(10, .c (.ptr 0 0 0)), (11, .c (.un)), (12, .c (.un)), (13, .c (.un))] [] ⟨Y, trivial⟩ ⟨Y, Y, Y, Y, trivial⟩ Y (kNck Y Y (Kf Y Y (Ke Y Y Y (Kj Y Y Y (Kd (Km Y (fun g0 => om) (fun g0 => Kn (Kbc (Ka Y (kNck Y Y (Kf Y Y (Ke Y Y Y (Kj Y Y Y (Ka Y (Kd (Kr (Er (ra := [.one (.d _)]) rfl ?_))))))))))))))))))))))))))))))))
  exact ⟨(), trivial, rfl, rfl⟩

theorem FI.fj {t : Task} (h : FI (fun r => rrOk r = true) t 0) (h12 : ¬ t.sends + 1 = 12) : FJ 7 (sentT t) := by
 have h1 := h.b.sp
 have h2 := h.sp
 have h3 := h.an
 have h4 := h.se
 have e : sentT t = { t with sends := t.sends + 1 } := by unfold sentT; rw [if_neg (by omega)]
 rw [e]
 exact ⟨by simp only; omega, by simp only; omega, .ok h.b.n, .ok h.b.z, by simp only; omega, fun r hr => rrOk_small (h.wr r hr)⟩
def c_impl_Task_heard : C := (.g (.o 0 3 (.box 3 (.t 0)) (.o 1 5 (.box 5 (.t 2)) (.o 2 6 (.alloc 6 [(.i 0), (.i 0), (.n 1), (.i 0), (.n 1), (.n 1), (.n 1), (.n 1), (.i 0), (.i 0), (.i 0), (.i 0), (.n 7)]) (.o 3 7 (.mov (.v (.bool false))) .done)))) (.seq (.seq (.reg true (.op 0 [] (some 8) none true (.fad (.t 3) 0) (.op 1 [] (some 9) none true (.load none (.t 8)) (.op 2 [] (some 10) none true (.bin .eql (.t 9) (.i 1)) (.op 3 [] (some 11) none true (.mov (.t 10)) (.op 4 [] (some 12) (some (11, false)) true (.fad (.t 5) 1) (.op 5 [] (some 13) (some (11, false)) true (.load none (.t 12)) (.op 6 [] (some 14) (some (11, false)) true (.un .not (.t 13)) (.op 7 [] (some 15) none true (.pick (.t 11) (.v (.bool true)) (.t 14)) (.op 8 [] (some 16) none true (.mov (.t 15)) (.op 9 [] (some 17) (some (16, false)) true (.fad (.t 5) 2) (.op 10 [] (some 18) (some (16, false)) true (.load none (.t 17)) (.op 11 [] (some 19) (some (16, false)) true (.bin .neq (.t 18) (.i 0)) (.op 12 [] (some 20) none true (.pick (.t 16) (.v (.bool true)) (.t 19)) (.op 13 [] (some 21) none true (.mov (.t 20)) (.op 14 [] (some 22) (some (21, false)) true (.fad (.t 5) 0) (.op 15 [] (some 23) (some (21, false)) true (.load none (.t 22)) (.op 16 [] (some 24) (some (21, false)) true (.fad (.t 3) 1) (.op 17 [] (some 25) (some (21, false)) true (.load none (.t 24)) (.op 18 [] (some 26) (some (21, false)) true (.bin .neq (.t 23) (.t 25)) (.op 19 [] (some 27) none true (.pick (.t 21) (.v (.bool true)) (.t 26)) (.op 20 [] (some 28) none true (.mov (.t 27)) (.op 21 [] (some 29) (some (28, false)) true (.fad (.t 5) 5) (.op 22 [] (some 30) (some (28, false)) true (.load none (.t 29)) (.op 23 [] (some 31) (some (28, false)) true (.iad 2 (.t 30) (.i 0)) (.op 24 [] (some 32) (some (28, false)) true (.fad (.t 31) 0) (.op 25 [] (some 33) (some (28, false)) true (.load (some 1) (.t 32)) (.op 26 [] (some 34) (some (28, false)) true (.fad (.t 3) 4) (.op 27 [] (some 35) (some (28, false)) true (.load (some 1) (.t 34)) (.op 28 [25, 22, 15, 17, 10, 27, 5, 1] (some 36) (some (28, false)) false (.call 36 96 [(.t 33), (.t 35)]) (.op 29 [] (some 37) (some (28, false)) true (.un .not (.t 36)) (.op 30 [] (some 38) none true (.pick (.t 28) (.v (.bool true)) (.t 37)) (.op 31 [] (some 39) none true (.mov (.t 38)) (.op 32 [] (some 40) (some (39, false)) true (.fad (.t 5) 5) (.op 33 [] (some 41) (some (39, false)) true (.load none (.t 40)) (.op 34 [] (some 42) (some (39, false)) true (.iad 2 (.t 41) (.i 0)) (.op 35 [] (some 43) (some (39, false)) true (.fad (.t 42) 1) (.op 36 [] (some 44) (some (39, false)) true (.load none (.t 43)) (.op 37 [] (some 45) (some (39, false)) true (.fad (.t 3) 2) (.op 38 [] (some 46) (some (39, false)) true (.fad (.t 45) 1) (.op 39 [] (some 47) (some (39, false)) true (.load none (.t 46)) (.op 40 [] (some 48) (some (39, false)) true (.bin .neq (.t 44) (.t 47)) (.op 41 [] (some 49) none true (.pick (.t 39) (.v (.bool true)) (.t 48)) (.op 42 [] (some 50) none true (.mov (.t 49)) (.op 43 [] (some 51) (some (50, false)) true (.mov (.t 1)) (.op 44 [] (some 52) (some (50, false)) true (.fad (.t 3) 7) (.op 45 [] (some 53) (some (50, false)) true (.load none (.t 52)) (.op 46 [] (some 54) (some (50, false)) true (.fad (.t 3) 8) (.op 47 [] (some 55) (some (50, false)) true (.load none (.t 54)) (.op 48 [] (some 56) (some (50, false)) true (.iad 1 (.t 53) (.t 55)) (.op 49 [] (some 57) (some (50, false)) true (.load none (.t 56)) (.op 50 [] (some 58) (some (50, false)) true (.bin .neq (.t 51) (.t 57)) (.op 51 [] (some 59) none true (.pick (.t 50) (.v (.bool true)) (.t 58)) .done))))))))))))))))))))))))))))))))))))))))))))))))))))) (.cond (.t 59) (.g (.o 0 60 (.load (some 13) (.t 3)) (.op 1 [] none none false (.store (some 13) (.t 6) (.t 60)) (.o 2 7 (.mov (.v (.bool false))) .done))) .ret) .skip)) (.seq (.g (.o 0 61 (.call 61 282 [(.t 3)]) .done) (.cond (.t 61) (.g (.o 0 62 (.load (some 13) (.t 3)) (.op 1 [] none none false (.store (some 13) (.t 6) (.t 62)) (.o 2 7 (.mov (.v (.bool true))) .done))) .ret) .skip)) (.seq (.block 0 (.g (.o 0 66 (.fad (.t 5) 4) (.o 1 67 (.load none (.t 66)) (.o 2 68 (.bin .neq (.t 67) (.i 0)) (.o 3 69 (.mov (.t 68)) (.op 4 [] (some 70) (some (69, true)) false (.fad (.t 5) 4) (.op 5 [] (some 71) (some (69, true)) false (.load none (.t 70)) (.op 6 [] (some 72) (some (69, true)) false (.bin .neq (.t 71) (.i 3)) (.o 7 73 (.pick (.t 69) (.t 72) (.v (.bool false))) (.o 8 65 (.mov (.t 73)) .done))))))))) (.cond (.t 65) (.reg false (.o 0 74 (.call 74 283 [(.t 3)]) .done)) (.g (.o 0 76 (.load (some 11) (.t 5)) (.o 1 77 (.call 77 284 [(.t 3), (.t 76)]) (.o 2 75 (.mov (.t 77)) .done))) (.cond (.t 75) .skip (.g (.o 0 79 (.fad (.t 5) 4) (.o 1 80 (.load none (.t 79)) (.o 2 81 (.bin .eql (.t 80) (.i 3)) (.o 3 78 (.mov (.t 81)) .done)))) (.cond (.t 78) (.reg false (.o 0 82 (.call 82 285 [(.t 3), (.i 3)]) .done)) (.reg false (.o 0 63 (.load (some 11) (.t 5)) (.o 1 64 (.call 64 286 [(.t 3), (.t 63)]) .done)))))))))) (.g (.o 0 83 (.load (some 13) (.t 3)) (.op 1 [] none none false (.store (some 13) (.t 6) (.t 83)) (.o 2 7 (.mov (.v (.bool true))) .done))) .ret)))))
theorem dg_impl_Task_heard : Tryz.f228.body.bind (digC Tryz.prog Tryz.f228.ntmps []) = some c_impl_Task_heard := by kernel_rfl
theorem rs_impl_Task_heard : resSlots Tryz.prog Tryz.f228 = some [.m 6 (some 13), .s 7] := by kernel_rfl
theorem ok_impl_Task_heard (t : Task) (m : Msg) (fr : Int) (ht : FI (fun r => rrOk r = true) t 0) (hm : msgOk m = true) (h1 : m.reply = true) (h2 : m.op = 0) (h3 : m.id = t.id) (h4 : m.qs = [⟨t.name, t.ftype⟩]) (h5 : fr = t.servers.getD t.turn.toNat 0) :
  FnOK Tryz.prog 228 [.agg (t.cells.map .d), .one (.d (.sc (.int .i64 fr))), .agg (m.cells.map .d)] (fun ra _ => ra = [.agg [.d (.sc (.int .i64 (heardT t m).state)), .d (.sc (.int .i64 (heardT t m).id)), .d (encBB (heardT t m).fname), .d (.sc (.int .i64 (heardT t m).ftype)), .d (encBB (heardT t m).name), .d (encBB (heardT t m).zone), .d (encI (heardT t m).hints), .d (encI (heardT t m).servers), .d (.sc (.int .i64 (heardT t m).turn)), .d (.sc (.int .i64 (heardT t m).sends)), .d (.sc (.int .i64 (heardT t m).steps)), .d (.sc (.int .i64 (heardT t m).code)), .d (encR (heardT t m).answers)], .one (.d (.sc (.bool true)))]) := by
 refine FnOK.ofK Tryz.func228 (by kernel_rfl) dg_impl_Task_heard rs_impl_Task_heard rfl rfl ?_
 delta c_impl_Task_heard T.o X.i C.g
 have hp := MayP.of (by unfold msgOk at hm; simp only [Bool.and_eq_true] at hm; exact hm.1)
 have hsm := msgOk_small hm
 have hF := RI.sent ht
 have hst := ht.st
 have hse := ht.se
 have hb := ht.b
 have hbe := hb.se
 have hn := SmallBB.ok hb.n
 have hn1 := hn.len
 have hn2 := hn.mem
 have htu := hb.tu
 have hip := ips_pos hb.s
 have hlt : t.turn.toNat < t.servers.length := by omega
 have hg : t.servers.getD t.turn.toNat 0 = t.servers[t.turn.toNat] := by rw [List.getD_eq_getElem?_getD, List.getElem?_eq_getElem hlt]; rfl
 rw [hg] at h5
 have hq0 : 0 < m.qs.length := by rw [h4]; exact Nat.zero_lt_one
 have hq1 : m.qs[0] = ⟨t.name, t.ftype⟩ := by simp [h4]
 have hqn : m.qs[0].name = t.name := by rw [hq1]
 have hqt : m.qs[0].ty = t.ftype := by rw [hq1]
 have hsq := hsm.q.mem _ (List.getElem_mem hq0)
 have hsq1 := hsq.len
 have hsq2 := hsq.mem
 have hstopo61 := trivial
 refine Kbc (kBox Y Y Y Y Y (kBox Y Y Y Y Y (kAlloc Y Y (Ka Y (Kdb (Kb (kRegD (Kf Y Y (Ke Y Y Y (Kj Y Y Y (Ka Y (kGP Y (fun g0 => om) (fun g0 => Ki Y (Kf Y Y (Ki Y (Ke Y Y Y (Ki Y (Kw Y Y (Kl Y (Ka Y (Ka Y (kGN Y (fun g1 => (by (simp [*] at g1))) (fun g1 => Ki Y (Kf Y Y (Ki Y (Ke Y Y Y (Ki Y (Kj Y Y Y (Kl Y (Ka Y (Ka Y (kGIN Y (fun g2 => om) (fun g2 => Ki Y (Kf Y Y (Ki Y (Ke Y Y Y (Ki Y (Kf Y Y (Ki Y (Ke Y Y Y (Ki Y (Kj Y Y Y (Kl Y (Ka Y (Ka Y (kGIN Y (fun g3 => om) (fun g3 => Ki Y (Kf Y Y (Ki Y (Ke Y Y Y (Ki Y (kIadR (m := 0) Y Y Y prl (Ki Y (kFadD Y (Ki Y (Ky Y Y (Ki Y (Kf Y Y (Ki Y (Ke Y Y Y (Ks Y Y (Ki Y (Kp (ok_impl_Name_is _ _ prx prx) ⟨⟨⟨Y, trivial⟩, leb⟩, ⟨⟨Y, trivial⟩, leb⟩, trivial⟩ Y Y Y Y Y (Ki Y (Kw Y Y (Kl Y (Ka Y (Ka Y (kGN Y (fun g4 => (by (simp [*] at g4))) (fun g4 => Ki Y (Kf Y Y (Ki Y (Ke Y Y Y (Ki Y (kIadR (m := 0) Y Y Y prl (Ki Y (kFadD Y (Ki Y (Ky Y Y (Ki Y (Kf Y Y (Ki Y (Kf Y Y (Ki Y (Ke Y Y Y (Ki Y (Kj Y Y Y (Kl Y (Ka Y (Ka Y (kGIN Y (fun g5 => om) (fun g5 => Ki Y (Ka Y (Ki Y (Kf Y Y (Ki Y (Ke Y Y Y (Ki Y (Kf Y Y (Ki Y (Ke Y Y Y (Ki Y (kIadT Y Y prl (Ki Y (Ky Y Y (Ki Y (Kj Y Y Y (Kl Y (Ka Y (Kd (kH (kCondIN Y (fun g6 => om) (fun g6 => Kn (Kb (Kb ?_)))))))))))))))))))))))))))))))))))))))))))))))))))))))))))))))))))))))))))))))))))))))))))))))))))))))))))))))))))
 clear hstopo61
 refine kSub (t := ⟨tabSl [(3, .c (.ptr (rid 3 0) 1 0)), (5, .c (.ptr (rid 5 0) 1 0)), (6, .c (.ptr (rid 6 0) 1 0))], obTab 1 [(rid 3 0, ⟨1, 0, .box (t.cells.map .d)⟩), (rid 5 0, ⟨1, 0, .box (m.cells.map .d)⟩), (rid 6 0, ⟨1, 0, .box [.any, .any, .any, .any, .any, .any, .any, .any, .any, .any, .any, .any, .any]⟩)], []⟩) .normA ?_
 have hse2 : 0 ≤ t.sends ∧ t.sends < 12 := by omega
 unfold heardT
 by_cases c1 : t.sends + 1 = 12
 ·rw [if_pos c1]
  refine Kc (Kz (ok_impl_Task_send _ prx) ⟨⟨rfl, _, rfl, rfl⟩, trivial⟩ Y Y Y (fun _ => rfl) (fun x0 hx0 => (Kd (Km Y (fun g1 => Kbc (Ke Y Y Y (Ko Y Y Y Y (Ka Y (Kd (Kr (Er (ra := [.agg [(.d _), (.d _), (.d _), (.d _), (.d _), (.d _), (.d _), (.d _), (.d _), (.d _), (.d _), (.d _), (.d _)], .one (.d _)]) rfl rfl))))))) (fun g1 => om)))))
 ·rw [if_neg c1]
  have hfj := ht.fj c1
  have hT := hF.1
  have hTb := hT.b
  have hTip := ips_pos hTb.s
  have hTtu := hTb.tu
  have hTsp := hTb.sp
  have htr : 0 ≤ (sentT t).turn ∧ (sentT t).turn ≤ 3 := by omega
  have hTn := SmallBB.ok hTb.n
  have hTz := SmallBB.ok hTb.z
  have ha12 := hp.an.1
  have hu12 := hp.au.1
  have hm12 := hp.mo.1
  have hsa := hsm.a
  have hsb := hsm.b
  have hsc := hsm.c
  by_cases c2 : m.code ≠ 0 ∧ m.code ≠ 3
  ·rw [if_pos c2]
   obtain ⟨c2a, c2b⟩ := c2
   refine Kc (Kz (ok_impl_Task_send _ prx) ⟨⟨rfl, _, rfl, rfl⟩, trivial⟩ Y Y Y (fun _ => rfl) (fun x0 hx0 => (Kd (Km Y (fun g1 => om) (fun g1 => Kn (Kb (Kt (Kbc (Kf Y Y (Ke Y Y Y (Kj Y Y Y (Ka Y (kGIN Y (fun g2 => Ki Y (Kf Y Y (Ki Y (Ke Y Y Y (Ki Y (Kj Y Y Y (Kk Y (Ka Y (Ka Y (Kd (kCondIN Y (fun g3 => Kc (Kz (ok_impl_Task_next _ prx prx) ⟨⟨rfl, _, rfl, rfl⟩, trivial⟩ Y Y Y (fun _ => rfl) (fun x4 hx4 => (Kd (Kv (Kbc (Ke Y Y Y (Ko Y Y Y Y (Ka Y (Kd (Kr (Er (ra := [.agg [(.d _), (.d _), (.d _), (.d _), (.d _), (.d _), (.d _), (.d _), (.d _), (.d _), (.d _), (.d _), (.d _)], .one (.d _)]) rfl rfl)))))))))))) (fun g3 => om)))))))))))) (fun g2 => om))))))))))))))
  ·rw [if_neg c2]
   have hfol := folGo_ri (W := fun r => rrOk r = true) (fun r h => h) (l := insideR m.an (sentT t).zone) (fun r hr => hp.an.2 r (List.mem_filter.1 hr).1) (code := m.code) 7 false (sentT t) (hT.fi (by rw [hF.2.2 c1]; decide))
   by_cases c3 : (folT (sentT t) m).2 = true
   ·rw [if_pos c3]
    refine Kc (Kz (ok_impl_Task_send _ prx) ⟨⟨rfl, _, rfl, rfl⟩, trivial⟩ Y Y Y (fun _ => rfl) (fun x0 hx0 => (Kd (Km Y (fun g1 => om) (fun g1 => Kn (Kb (Kt (Kbc (Kf Y Y (Ke Y Y Y (Kj Y Y Y (Ka Y (kGIN Y (fun g2 => Ki Y (Kf Y Y (Ki Y (Ke Y Y Y (Ki Y (Kj Y Y Y (Kk Y (Ka Y (Ka Y (Kd (kCondIN Y (fun g3 => om) (fun g3 => Kbc (Ke Y Y Y (Kz (ok_impl_Task_follow _ _ prx prx prx) ⟨⟨rfl, _, rfl, rfl⟩, ⟨⟨Y, Y, Y, Y, Y, Y, Y, Y, Y, Y, Y, trivial⟩, leb⟩, trivial⟩ Y Y Y (fun _ => rfl) (fun x4 hx4 => (Ka Y (Kd (kCond Y (fun g5 => Kn (Kv (Kbc (Ke Y Y Y (Ko Y Y Y Y (Ka Y (Kd (Kr (Er (ra := [.agg [(.d _), (.d _), (.d _), (.d _), (.d _), (.d _), (.d _), (.d _), (.d _), (.d _), (.d _), (.d _), (.d _)], .one (.d _)]) rfl rfl))))))))) (fun g5 => (by (simp [*] at g5))))))))))))))))))))) (fun g2 => Kg Y (Kg Y (Kg Y (Kl Y (Ka Y (Ka Y (Kd (kCondF Y (Kbc (Ke Y Y Y (Kz (ok_impl_Task_follow _ _ prx prx prx) ⟨⟨rfl, _, rfl, rfl⟩, ⟨⟨Y, Y, Y, Y, Y, Y, Y, Y, Y, Y, Y, trivial⟩, leb⟩, trivial⟩ Y Y Y (fun _ => rfl) (fun x6 hx6 => (Ka Y (Kd (kCond Y (fun g7 => Kn (Kv (Kbc (Ke Y Y Y (Ko Y Y Y Y (Ka Y (Kd (Kr (Er (ra := [.agg [(.d _), (.d _), (.d _), (.d _), (.d _), (.d _), (.d _), (.d _), (.d _), (.d _), (.d _), (.d _), (.d _)], .one (.d _)]) rfl rfl))))))))) (fun g7 => (by (simp [*] at g7)))))))))))))))))))))))))))))))
   ·rw [if_neg c3]
    have hfu : (folT (sentT t) m).1 = sentT t := (hfol.2.2 (by simpa [folT] using c3)).2
    rw [hfu]
    by_cases c4 : m.code = 3
    ·rw [if_pos c4]
     refine Kc (Kz (ok_impl_Task_send _ prx) ⟨⟨rfl, _, rfl, rfl⟩, trivial⟩ Y Y Y (fun _ => rfl) (fun x0 hx0 => (Kd (Km Y (fun g1 => om) (fun g1 => Kn (Kb (Kt (Kbc (Kf Y Y (Ke Y Y Y (Kj Y Y Y (Ka Y (kGIN Y (fun g2 => Ki Y (Kf Y Y (Ki Y (Ke Y Y Y (Ki Y (Kj Y Y Y (Kk Y (Ka Y (Ka Y (Kd (kCondIN Y (fun g3 => om) (fun g3 => Kbc (Ke Y Y Y (Kz (ok_impl_Task_follow _ _ prx prx prx) ⟨⟨rfl, _, rfl, rfl⟩, ⟨⟨Y, Y, Y, Y, Y, Y, Y, Y, Y, Y, Y, trivial⟩, leb⟩, trivial⟩ Y Y Y (fun _ => rfl) (fun x4 hx4 => (Ka Y (Kd (kCond Y (fun g5 => (by (simp [*] at g5))) (fun g5 => Kbc (Kf Y Y (Ke Y Y Y (Kj Y Y Y (Ka Y (Kd (Km Y (fun g6 => Kc (Kz (ok_impl_Task_end _ _) ⟨⟨rfl, _, rfl, rfl⟩, rfl, trivial⟩ Y Y Y (fun _ => rfl) (fun x7 hx7 => (Kd (Kv (Kbc (Ke Y Y Y (Ko Y Y Y Y (Ka Y (Kd (Kr (Er (ra := [.agg [(.d _), (.d _), (.d _), (.d _), (.d _), (.d _), (.d _), (.d _), (.d _), (.d _), (.d _), (.d _), (.d _)], .one (.d _)]) rfl ?_)))))))))))) (fun g6 => om)))))))))))))))))))))))))) (fun g2 => om))))))))))))))
     rw [hfu]
    ·rw [if_neg c4]
     have hstopo64 := trivial
     refine Kc (Kz (ok_impl_Task_send _ prx) ⟨⟨rfl, _, rfl, rfl⟩, trivial⟩ Y Y Y (fun _ => rfl) (fun x0 hx0 => (Kd (Km Y (fun g1 => om) (fun g1 => Kn (Kb (Kt (Kbc (Kf Y Y (Ke Y Y Y (Kj Y Y Y (Ka Y (kGIN Y (fun g2 => om) (fun g2 => Kg Y (Kg Y (Kg Y (Kl Y (Ka Y (Ka Y (Kd (kCondF Y (Kbc (Ke Y Y Y (Kz (ok_impl_Task_follow _ _ prx prx prx) ⟨⟨rfl, _, rfl, rfl⟩, ⟨⟨Y, Y, Y, Y, Y, Y, Y, Y, Y, Y, Y, trivial⟩, leb⟩, trivial⟩ Y Y Y (fun _ => rfl) (fun x3 hx3 => (Ka Y (Kd (kCond Y (fun g4 => (by (simp [*] at g4))) (fun g4 => Kbc (Kf Y Y (Ke Y Y Y (Kj Y Y Y (Ka Y (Kd (Km Y (fun g5 => om) (fun g5 => ?_))))))))))))))))))))))))))))))))))))
     clear hstopo64
     rw [hfu]
     have hrs : 0 ≤ (sentT t).steps ∧ (sentT t).steps ≤ 1000 := by omega
     refine Kc (Ke Y Y Y (Kz (ok_impl_Task_refer _ _ prx prx prx prx prx prx prx prx prx) ⟨⟨rfl, _, rfl, rfl⟩, ⟨⟨Y, Y, Y, Y, Y, Y, Y, Y, Y, Y, Y, trivial⟩, leb⟩, trivial⟩ Y Y Y (fun _ => rfl) (fun x4 hx4 => (Kd (Kv (Kbc (Ke Y Y Y (Ko Y Y Y Y (Ka Y (Kd (Kr (Er (ra := [.agg [(.d _), (.d _), (.d _), (.d _), (.d _), (.d _), (.d _), (.d _), (.d _), (.d _), (.d _), (.d _), (.d _)], .one (.d _)]) rfl rfl))))))))))))

def c_impl_Task_lost : C := (.g (.o 0 1 (.box 1 (.t 0)) (.o 1 2 (.alloc 2 [(.i 0), (.i 0), (.n 1), (.i 0), (.n 1), (.n 1), (.n 1), (.n 1), (.i 0), (.i 0), (.i 0), (.i 0), (.n 7)]) .done)) (.g (.o 0 3 (.call 3 282 [(.t 1)]) .done) (.g (.o 0 4 (.call 4 283 [(.t 1)]) .done) (.g (.o 0 5 (.load (some 13) (.t 1)) (.op 1 [] none none false (.store (some 13) (.t 2) (.t 5)) .done)) .ret))))
theorem dg_impl_Task_lost : Tryz.f227.body.bind (digC Tryz.prog Tryz.f227.ntmps []) = some c_impl_Task_lost := by kernel_rfl
theorem rs_impl_Task_lost : resSlots Tryz.prog Tryz.f227 = some [.m 2 (some 13)] := by kernel_rfl
theorem ok_impl_Task_lost (t : Task) (h : 0 ≤ t.sends ∧ t.sends < 12) (h2 : 0 ≤ t.turn ∧ t.turn ≤ 3) (hl : 1 ≤ t.servers.length ∧ t.servers.length ≤ 4) :
  FnOK Tryz.prog 227 [.agg (t.cells.map .d)] (fun ra _ => ra = [.agg [.d (.sc (.int .i64 (lostT t).state)), .d (.sc (.int .i64 (lostT t).id)), .d (encBB (lostT t).fname), .d (.sc (.int .i64 (lostT t).ftype)), .d (encBB (lostT t).name), .d (encBB (lostT t).zone), .d (encI (lostT t).hints), .d (encI (lostT t).servers), .d (.sc (.int .i64 (lostT t).turn)), .d (.sc (.int .i64 (lostT t).sends)), .d (.sc (.int .i64 (lostT t).steps)), .d (.sc (.int .i64 (lostT t).code)), .d (encR (lostT t).answers)]]) := by
 refine FnOK.ofK Tryz.func227 (by kernel_rfl) dg_impl_Task_lost rs_impl_Task_lost rfl rfl ?_
 delta c_impl_Task_lost T.o X.i C.g
 have h2' : 0 ≤ (sentT t).turn ∧ (sentT t).turn ≤ 3 := by rw [sentT_turn]; exact h2
 have hl' : 1 ≤ (sentT t).servers.length ∧ (sentT t).servers.length ≤ 4 := by rw [sentT_servers]; exact hl
 refine Kbc (kBox Y Y Y Y Y (kAlloc Y Y (Kdb (Kc (Kz (ok_impl_Task_send _ prx) ⟨⟨rfl, _, rfl, rfl⟩, trivial⟩ Y Y Y (fun _ => rfl) (fun x0 hx0 => (Kdb (Kc (Kz (ok_impl_Task_next _ prx prx) ⟨⟨rfl, _, rfl, rfl⟩, trivial⟩ Y Y Y (fun _ => rfl) (fun x1 hx1 => (Kdb (Kc (Ke Y Y Y (kMem [(12288, ⟨1, 0, .box [.d _, .d _, .nil 1, .d _, .nil 1, .nil 1, .nil 1, .nil 1, .d _, .d _, .d _, .d _, .nil 7]⟩)] [(2, .c (.ptr 12288 1 0)), (5, .g [.d _, .d _, .d _, .d _, .d _, .d _, .d _, .d _, .d _, .d _, .d _, .d _, .d _])] [] ⟨Y, trivial⟩ ⟨Y, Y, trivial⟩ Y (Ko Y Y Y Y (Kd (kMem [(12288, ⟨1, 0, .box [.d _, .d _, .d _, .d _, .d _, .d _, .d _, .d _, .d _, .d _, .d _, .d _, .d _]⟩)] [(2, .c (.ptr 12288 1 0))] [] ⟨Y, trivial⟩ ⟨Y, trivial⟩ Y (Kr (Er (ra := [.agg [(.d _), (.d _), (.d _), (.d _), (.d _), (.d _), (.d _), (.d _), (.d _), (.d _), (.d _), (.d _), (.d _)]]) rfl rfl)))))))))))))))))))

def c_impl_Task_question : C := (.g (.o 0 1 (.box 1 (.t 0)) (.o 1 2 (.alloc 2 [(.i 0), (.v (.bool false)), (.i 0), (.v (.bool false)), (.i 0), (.n 2), (.n 7), (.n 7), (.n 7), (.n 9), (.n 9)]) .done)) (.seq (.reg true (.op 0 [] (some 3) none true (.fad (.t 1) 1) (.op 1 [] (some 4) none true (.load none (.t 3)) (.op 2 [] (some 5) none true (.fad (.t 1) 4) (.op 3 [] (some 6) none true (.load (some 1) (.t 5)) (.op 5 [] (some 8) none true (.fad (.t 1) 2) (.op 6 [] (some 9) none true (.fad (.t 8) 1) (.op 7 [] (some 10) none true (.load none (.t 9)) (.op 4 [3] (some 7) none false (.call 7 150 [(.t 6)]) (.op 8 [] (some 11) none true (.build [(.n 1), (.i 0)] [(0, 1, (.t 7)), (1, 1, (.t 10))]) (.op 9 [3, 7] (some 12) none false (.lit 12 2 [(.n 1), (.i 0)] 1 [(0, 2, (.t 11))]) (.op 10 [] (some 13) none true (.build [(.i 0), (.v (.bool false)), (.i 0), (.v (.bool false)), (.i 0), (.n 2), (.n 7), (.n 7), (.n 7), (.n 9), (.n 9)] [(0, 1, (.t 4)), (5, 1, (.t 12))]) (.op 11 [1, 3, 7] none none false (.store (some 11) (.t 2) (.t 13)) .done))))))))))))) .ret))
theorem dg_impl_Task_question : Tryz.f226.body.bind (digC Tryz.prog Tryz.f226.ntmps []) = some c_impl_Task_question := by kernel_rfl
theorem rs_impl_Task_question : resSlots Tryz.prog Tryz.f226 = some [.m 2 (some 11)] := by kernel_rfl
theorem ok_impl_Task_question (t : Task) (hs : SmallT t) :
  FnOK Tryz.prog 226 [.agg (t.cells.map .d)] (fun ra _ => ra = [.agg [.d (.sc (.int .i64 t.id)), .d (.sc (.bool false)), .d (.sc (.int .i64 0)), .d (.sc (.bool false)), .d (.sc (.int .i64 0)), .own true (encQ [⟨t.name, t.ftype⟩]), .own true (encR []), .own true (encR []), .own true (encR []), .own true nilW, .own true nilW]]) := by
 refine FnOK.ofK Tryz.func226 (by kernel_rfl) dg_impl_Task_question rs_impl_Task_question rfl rfl ?_
 delta c_impl_Task_question T.o X.i C.g
 have n1 := hs.n.len
 have n2 := hs.n.mem
 refine Kbc (kBox Y Y Y Y Y (kAlloc Y Y (Kdb (kRegD (Kf Y Y (Ke Y Y Y (Kf Y Y (Ke Y Y Y (Kf Y Y (Kf Y Y (kMem [(8192, ⟨1, 0, .box [.d _, .d _, .d _, .d _, .d _, .d _, .d _, .d _, .d _, .d _, .d _, .d _, .d _]⟩), (12288, ⟨1, 0, .box [.d _, .d _, .d _, .d _, .d _, .nil 2, .nil 7, .nil 7, .nil 7, .nil 9, .nil 9]⟩)] [(9, .c (.ptr 8192 1 3)), (6, .g [.d _]), (7, .c (.un)), (10, .c (.un)), (11, .c (.un)), (4, .c (.d _)), (12, .c (.un)), (2, .c (.ptr 12288 1 0)), (13, .c (.un))] [8192, 8192] ⟨Y, Y, trivial⟩ ⟨Y, Y, Y, Y, Y, Y, Y, Y, Y, trivial⟩ Y (Ke Y Y Y (Kx Y Y (Ku true (ok_impl_Name_copied _ pr pr) ⟨⟨⟨Y, trivial⟩, leb⟩, trivial⟩ Y Y Y (fun _ => (kMem [(32768, ⟨1, 0, .arr true _⟩), (12288, ⟨1, 0, .box [.d _, .d _, .d _, .d _, .d _, .nil 2, .nil 7, .nil 7, .nil 7, .nil 9, .nil 9]⟩)] [(7, .g [.arr 32768 1]), (10, .c (.d _)), (11, .c (.un)), (4, .c (.d _)), (12, .c (.un)), (2, .c (.ptr 12288 1 0)), (13, .c (.un))] [8192, 8192, 8192] ⟨Y, Y, trivial⟩ ⟨Y, Y, Y, Y, Y, Y, Y, trivial⟩ Y (kBuildG Y (Kx Y Y (kLit Y Y Y Y (kMem [(53248, ⟨1, 0, .arr true _⟩), (12288, ⟨1, 0, .box [.d _, .d _, .d _, .d _, .d _, .nil 2, .nil 7, .nil 7, .nil 7, .nil 9, .nil 9]⟩)] [(4, .c (.d _)), (12, .c (.arr 53248 1)), (2, .c (.ptr 12288 1 0)), (13, .c (.un))] [8192, 8192, 8192] ⟨Y, Y, trivial⟩ ⟨Y, Y, Y, Y, trivial⟩ Y (kBuildG Y (kMem [(12288, ⟨1, 0, .box [.d _, .d _, .d _, .d _, .d _, .nil 2, .nil 7, .nil 7, .nil 7, .nil 9, .nil 9]⟩), (53248, ⟨1, 0, .arr true _⟩)] [(2, .c (.ptr 12288 1 0)), (13, .g [.d _, .d _, .d _, .d _, .d _, .arr 53248 1, .nil 7, .nil 7, .nil 7, .nil 9, .nil 9])] [8192, 8192, 8192] ⟨Y, Y, trivial⟩ ⟨Y, Y, trivial⟩ Y (Ks Y Y (Ko Y Y Y Y (Kd (kH (kMem [(12288, ⟨1, 0, .box [.d _, .d _, .d _, .d _, .d _, .arr 53248 1, .nil 7, .nil 7, .nil 7, .nil 9, .nil 9]⟩), (53248, ⟨1, 0, .arr true _⟩)] [(2, .c (.ptr 12288 1 0))] [] ⟨Y, Y, trivial⟩ ⟨Y, trivial⟩ Y (Kr (Er (ra := [.agg [(.d _), (.d _), (.d _), (.d _), (.d _), (.own true _), (.own true _), (.own true _), (.own true _), (.own true _), (.own true _)]]) rfl rfl)))))))))))))))))))))))))))))

theorem RI.small {t : Task} (h : RI (fun r => rrOk r = true) t) : SmallT t := by
 have hp1 := ips_pos h.b.h
 have hp2 := ips_pos h.b.s
 exact ⟨.ok h.b.fn, .ok h.b.n, .ok h.b.z, by omega, by omega, ⟨by have := h.an; omega, fun r hr => rrOk_small (h.wr r hr)⟩⟩
def c_impl_resolve : C := (.g (.o 0 6 (.box 6 (.t 2)) (.o 1 8 (.alloc 8 [(.i 0), (.i 0), (.n 1), (.i 0), (.n 1), (.n 1), (.n 1), (.n 1), (.i 0), (.i 0), (.i 0), (.i 0), (.n 7)]) .done)) (.seq (.g (.o 0 9 (.mov (.i 0)) .done) (.block 0 (.loop (.seq (.g (.o 0 12 (.fad (.t 6) 0) (.o 1 13 (.load none (.t 12)) (.o 2 14 (.bin .neq (.t 13) (.i 1)) .done))) (.cond (.t 14) .skip (.exit 0))) (.seq (.block 1 (.seq (.reg true (.op 0 [] (some 18) none true (.mov (.t 0)) (.op 1 [] (some 19) none true (.mov (.t 1)) (.op 2 [] (some 20) none true (.fad (.t 6) 7) (.op 3 [] (some 21) none true (.load none (.t 20)) (.op 4 [] (some 22) none true (.fad (.t 6) 8) (.op 5 [] (some 23) none true (.load none (.t 22)) (.op 6 [] (some 24) none true (.iad 1 (.t 21) (.t 23)) (.op 7 [] (some 25) none true (.load none (.t 24)) (.op 8 [] (some 26) none true (.load (some 13) (.t 6)) (.alt (.op 9 [8] (some 27) none false (.call 27 226 [(.t 26)]) (.alt (.op 10 [7, 3, 5, 8] (some 28) none false (.call 28 225 [(.t 18), (.t 19), (.t 25), (.t 27)]) (.op 11 [] (some 17) none true (.mov (.t 28)) (.op 12 [] (some 29) none true (.ext (.t 17) 0) (.op 13 [] (some 30) none true (.ext (.t 17) 1) (.o 14 10 (.alloc 10 [(.i 0), (.v (.bool false)), (.i 0), (.v (.bool false)), (.i 0), (.n 2), (.n 7), (.n 7), (.n 7), (.n 9), (.n 9)]) (.op 15 [7, 3, 5, 8] none none false (.store (some 11) (.t 10) (.t 29)) (.op 16 [] (some 11) none true (.mov (.t 30)) .done))))))) (.o 14 10 (.alloc 10 [(.i 0), (.v (.bool false)), (.i 0), (.v (.bool false)), (.i 0), (.n 2), (.n 7), (.n 7), (.n 7), (.n 9), (.n 9)]) (.op 10 [7, 3, 5, 8] (some 28) none false (.call 28 225 [(.t 18), (.t 19), (.t 25), (.t 27)]) (.op 11 [] (some 17) none true (.mov (.t 28)) (.op 12 [] (some 29) none true (.ext (.t 17) 0) (.op 13 [] (some 30) none true (.ext (.t 17) 1) (.op 15 [7, 3, 5, 8] none none false (.store (some 11) (.t 10) (.t 29)) (.op 16 [] (some 11) none true (.mov (.t 30)) .done))))))))) (.o 14 10 (.alloc 10 [(.i 0), (.v (.bool false)), (.i 0), (.v (.bool false)), (.i 0), (.n 2), (.n 7), (.n 7), (.n 7), (.n 9), (.n 9)]) (.op 9 [8] (some 27) none false (.call 27 226 [(.t 26)]) (.op 10 [7, 3, 5, 8] (some 28) none false (.call 28 225 [(.t 18), (.t 19), (.t 25), (.t 27)]) (.op 11 [] (some 17) none true (.mov (.t 28)) (.op 12 [] (some 29) none true (.ext (.t 17) 0) (.op 13 [] (some 30) none true (.ext (.t 17) 1) (.op 15 [7, 3, 5, 8] none none false (.store (some 11) (.t 10) (.t 29)) (.op 16 [] (some 11) none true (.mov (.t 30)) .done))))))))))))))))))) (.seq (.g (.o 0 31 (.mov (.t 11)) (.o 1 32 (.un .not (.t 31)) (.o 2 33 (.mov (.t 32)) (.op 3 [] (some 34) (some (33, false)) false (.mov (.t 9)) (.op 4 [] (some 35) (some (33, false)) false (.mov (.t 3)) (.op 5 [] (some 36) (some (33, false)) false (.len (.t 35)) (.op 6 [] (some 37) (some (33, false)) false (.bin .lss (.t 34) (.t 36)) (.op 7 [] (some 38) (some (33, false)) false (.mov (.t 37)) (.op 8 [] (some 39) (some (38, true)) false (.mov (.t 3)) (.op 9 [] (some 40) (some (38, true)) false (.mov (.t 9)) (.op 10 [] (some 41) (some (38, true)) false (.iad 1 (.t 39) (.t 40)) (.op 11 [] (some 42) (some (38, true)) false (.load none (.t 41)) (.op 12 [] (some 43) (some (33, false)) false (.pick (.t 38) (.t 42) (.v (.bool false))) (.o 13 44 (.pick (.t 33) (.v (.bool true)) (.t 43)) .done)))))))))))))) (.cond (.t 44) (.g (.o 0 45 (.load (some 13) (.t 6)) (.o 1 46 (.call 46 227 [(.t 45)]) (.op 2 [] none none false (.store (some 13) (.t 6) (.t 46)) .done))) (.exit 1)) .skip)) (.reg true (.op 0 [] (some 48) none true (.load (some 13) (.t 6)) (.op 1 [] (some 49) none true (.fad (.t 6) 7) (.op 2 [] (some 50) none true (.load none (.t 49)) (.op 3 [] (some 51) none true (.fad (.t 6) 8) (.op 4 [] (some 52) none true (.load none (.t 51)) (.op 5 [] (some 53) none true (.iad 1 (.t 50) (.t 52)) (.op 6 [] (some 54) none true (.load none (.t 53)) (.op 7 [] (some 55) none true (.load (some 11) (.t 10)) (.op 8 [0, 6, 2, 4, 7] (some 56) none false (.call 56 228 [(.t 48), (.t 54), (.t 55)]) (.op 9 [] (some 47) none true (.mov (.t 56)) (.op 10 [] (some 57) none true (.ext (.t 47) 0) (.op 11 [] (some 58) none true (.ext (.t 47) 1) (.op 12 [0, 6, 2, 4, 7] none none false (.store (some 13) (.t 6) (.t 57)) .done))))))))))))))))) (.reg false (.o 0 15 (.mov (.t 9)) (.o 1 16 (.bin .add (.t 15) (.i 1)) (.o 2 9 (.mov (.t 16)) .done))))))))) (.g (.o 0 59 (.load (some 13) (.t 6)) (.op 1 [] none none false (.store (some 13) (.t 8) (.t 59)) .done)) .ret)))
theorem dg_impl_resolve : Tryz.f130.body.bind (digC Tryz.prog Tryz.f130.ntmps []) = some c_impl_resolve := by kernel_rfl
theorem rs_impl_resolve : resSlots Tryz.prog Tryz.f130 = some [.m 8 (some 13)] := by kernel_rfl
theorem ok_impl_resolve (zs : List Zone) (at' : List Int) (t : Task) (lost : List Bool) (hz : ∀ z ∈ zs, zoneOk z = true) (hzl : zs.length ≤ 5) (ha : at'.length = zs.length) (ht : RI (fun r => rrOk r = true) t) (hl : lost.length ≤ 4194304) :
  FnOK Tryz.prog 130 [.one (.d (encL 2 Zone.cells zs)), .one (.d (encI at')), .agg (t.cells.map .d), .one (.d (encBo lost))] (fun ra _ => ra = [.agg [.d (.sc (.int .i64 (resGo zs at' lost 12 0 t).state)), .d (.sc (.int .i64 (resGo zs at' lost 12 0 t).id)), .d (encBB (resGo zs at' lost 12 0 t).fname), .d (.sc (.int .i64 (resGo zs at' lost 12 0 t).ftype)), .d (encBB (resGo zs at' lost 12 0 t).name), .d (encBB (resGo zs at' lost 12 0 t).zone), .d (encI (resGo zs at' lost 12 0 t).hints), .d (encI (resGo zs at' lost 12 0 t).servers), .d (.sc (.int .i64 (resGo zs at' lost 12 0 t).turn)), .d (.sc (.int .i64 (resGo zs at' lost 12 0 t).sends)), .d (.sc (.int .i64 (resGo zs at' lost 12 0 t).steps)), .d (.sc (.int .i64 (resGo zs at' lost 12 0 t).code)), .d (encR (resGo zs at' lost 12 0 t).answers)]]) := by
 refine FnOK.ofK Tryz.func130 (by kernel_rfl) dg_impl_resolve rs_impl_resolve rfl rfl ?_
 delta c_impl_resolve T.o X.i C.g
 generalize hR : resGo zs at' lost 12 0 t = R
 refine Kbc (kBox Y Y Y Y Y (kAlloc Y Y (Kdb (Kbc (Ka Y (Kd (Kt ?_)))))))
 refine kLoop (α := { y : Nat × Nat × Task // RI (fun r => rrOk r = true) y.2.2 ∧ (¬ y.2.2.state = 1 → (12 : Int) ≤ y.1 + y.2.2.sends) ∧ resGo zs at' lost y.1 y.2.1 y.2.2 = R ∧ y.1 + y.2.1 = 12 }) (fun y => ⟨tabSl [(0, .c (.d (encL 2 Zone.cells zs))), (1, .c (.d (encI at'))), (3, .c (.d (encBo lost))), (6, .c (.ptr (rid 6 0) 1 0)), (8, .c (.ptr (rid 8 0) 1 0)), (9, .i y.1.2.1)], obTab 1 [(rid 6 0, ⟨1, 0, .box (y.1.2.2.cells.map .d)⟩), (rid 8 0, ⟨1, 0, .box [.any, .any, .any, .any, .any, .any, .any, .any, .any, .any, .any, .any, .any]⟩)], []⟩) (fun y => y.1.1) ⟨(12, 0, t), ⟨ht, fun h => by have := (ht.b).se; simp only; omega, hR, rfl⟩⟩ .normA ?_
 rintro ⟨⟨k, i, u⟩, hu, hk, hgo, hi⟩
 simp only at hu hk hgo hi ⊢
 by_cases h1 : u.state = 1
 ·have e : resGo zs at' lost k i u = u := by
   cases k with
   | zero => rfl
   | succ k => rw [resGo, if_pos h1]
  rw [e] at hgo
  rw [← hgo]
  refine Kb (Kbc (Kf Y Y (Ke Y Y Y (Kj Y Y Y (Kd (kCondIN Y (fun g0 => om) (fun g0 => kExit (kExC (kExI (kExB (Kbc (Ke Y Y Y (Ko Y Y Y Y (Kd (Kr (Er (ra := [.agg [(.d _), (.d _), (.d _), (.d _), (.d _), (.d _), (.d _), (.d _), (.d _), (.d _), (.d _), (.d _), (.d _)]]) rfl rfl))))))))))))))))
 ·have hf := hu.fi h1
  have hsm := hu.small
  have hb := hu.b
  have hask := ask_ok hb
  have htu := hb.tu
  have hip := ips_pos hb.s
  have hlt : u.turn.toNat < u.servers.length := by omega
  have hg : u.servers.getD u.turn.toNat 0 = u.servers[u.turn.toNat] := by rw [List.getD_eq_getElem?_getD, List.getElem?_eq_getElem hlt]; rfl
  have hturn : (u.turn.toNat : Int) = u.turn := by omega
  have hok := fun h : (serveN zs at' u.servers[u.turn.toNat] (askM u)).2 = true => serve_ok (at' := at') (ip := u.servers[u.turn.toNat]) hz hask rfl h
  have hstep : resGo zs at' lost k i u = if !(serveN zs at' u.servers[u.turn.toNat] (askM u)).2 || lost.getD i false then resGo zs at' lost (k - 1) (i + 1) (lostT u) else resGo zs at' lost (k - 1) (i + 1) (heardT u (serveN zs at' u.servers[u.turn.toNat] (askM u)).1) := by
   obtain ⟨k', rfl⟩ : ∃ k', k = k' + 1 := ⟨k - 1, by have := hk h1; have := hf.se; omega⟩
   rw [resGo, if_neg h1, hg]; rfl
  obtain ⟨rep, hrep⟩ : ∃ rep, serveN zs at' u.servers[u.turn.toNat] (askM u) = rep := ⟨_, rfl⟩
  have hstopr := trivial
  refine Kb (Kbc (Kf Y Y (Ke Y Y Y (Kj Y Y Y (Kd (kCondIN Y (fun g0 => Kn (Kb (Kt (Kb ?_)))) (fun g0 => om)))))))
  clear hstopr
  refine kCut ⟨tabSl [(0, .c (.d (encL 2 Zone.cells zs))), (1, .c (.d (encI at'))), (3, .c (.d (encBo lost))), (6, .c (.ptr (rid 6 0) 1 0)), (8, .c (.ptr (rid 8 0) 1 0)), (9, .i i), (10, .c (.ptr (rid 10 0) 1 0)), (11, .b rep.2)], obTab 1 [(rid 6 0, ⟨1, 0, .box (u.cells.map .d)⟩), (rid 8 0, ⟨1, 0, .box [.any, .any, .any, .any, .any, .any, .any, .any, .any, .any, .any, .any, .any]⟩), (rid 10 0, ⟨1, 0, .box (rep.1.cells.map .d)⟩)], []⟩ ?_ (fun x hc => ?_)
  case refine_2 =>
   refine kRegD (Ka Y (Ka Y (Kf Y Y (Ke Y Y Y (Kf Y Y (Ke Y Y Y (kIadT Y Y prl (Ky Y Y (Ke Y Y Y (kAlt (Kx Y Y (Ku true (ok_impl_Task_question _ prx) ⟨⟨⟨Y, Y, Y, Y, Y, Y, Y, Y, Y, Y, Y, Y, Y, trivial⟩, leb⟩, trivial⟩ Y Y Y (fun _ => (kAlt (Ks Y Y ?_) (kAlloc Y Y (Ks Y Y ?_)))))) (kAlloc Y Y (Kx Y Y (Ku true (ok_impl_Task_question _ prx) ⟨⟨⟨Y, Y, Y, Y, Y, Y, Y, Y, Y, Y, Y, Y, Y, trivial⟩, leb⟩, trivial⟩ Y Y Y (fun _ => (Ks Y Y ?_)))))))))))))))
   ·refine kCallF [rid 27 5, rid 27 6, rid 27 7, rid 27 8, rid 27 9, rid 27 10] false (ok_impl_serve zs at' _ (askM u) hz hzl ha hask rfl) rfl ⟨rfl, rfl, rfl, ⟨⟨Y, Y, Y, Y, Y, Y, Y, Y, Y, Y, Y, trivial⟩, leb⟩, trivial⟩ Y Y Y (fun _ => ?_)
    rw [hrep]
    refine kMovT Y (kExtC Y Y (kExtC Y Y (kAlloc Y Y (Ks Y Y (Ko Y Y Y Y (Ka Y (Kd (kH (hc _ .normA)))))))))
   ·refine kCallF [rid 27 5, rid 27 6, rid 27 7, rid 27 8, rid 27 9, rid 27 10] false (ok_impl_serve zs at' _ (askM u) hz hzl ha hask rfl) rfl ⟨rfl, rfl, rfl, ⟨⟨Y, Y, Y, Y, Y, Y, Y, Y, Y, Y, Y, trivial⟩, leb⟩, trivial⟩ Y Y Y (fun _ => ?_)
    rw [hrep]
    refine kMovT Y (kExtC Y Y (kExtC Y Y (Ks Y Y (Ko Y Y Y Y (Ka Y (Kd (kH (hc _ .normA))))))))
   ·refine kCallF [rid 27 5, rid 27 6, rid 27 7, rid 27 8, rid 27 9, rid 27 10] false (ok_impl_serve zs at' _ (askM u) hz hzl ha hask rfl) rfl ⟨rfl, rfl, rfl, ⟨⟨Y, Y, Y, Y, Y, Y, Y, Y, Y, Y, Y, trivial⟩, leb⟩, trivial⟩ Y Y Y (fun _ => ?_)
    rw [hrep]
    refine kMovT Y (kExtC Y Y (kExtC Y Y (Ks Y Y (Ko Y Y Y Y (Ka Y (Kd (kH (hc _ .normA))))))))
  rw [hrep] at hok hstep
  have hk1 := hk h1
  have hfse := hf.se
  obtain ⟨s1, s2, s3⟩ := RI.sent hf
  have hlost : RI (fun r => rrOk r = true) (lostT u) ∧ (lostT u).sends = u.sends + 1 := ⟨s1.next, s2⟩
  have hbe := hb.se
  have hse2 : 0 ≤ u.sends ∧ u.sends < 12 := by omega
  have htr : 0 ≤ u.turn ∧ u.turn ≤ 3 := by omega
  obtain ⟨rm, rb⟩ := rep
  simp only at hok hstep ⊢
  have hi12 : i ≤ 12 := by omega
  cases rb with
  | false =>
   have e := hstep
   simp only [Bool.not_false, Bool.true_or, if_true] at e
   refine Kb (Kbc (Ka Y (Kw Y Y (Ka Y (Kg Y (Kg Y (Kg Y (Kg Y (Kg Y (kGU Y (kGU Y (kGU Y (kGU Y (Kg Y (Kk Y (Ka Y (Kd (kCondT Y (Kbc (Ke Y Y Y (kCallD2 (ok_impl_Task_lost _ prx prx prx) ⟨⟨⟨Y, Y, Y, Y, Y, Y, Y, Y, Y, Y, Y, Y, Y, trivial⟩, leb⟩, trivial⟩ Y Y Y Y (Ko Y Y Y Y (Kd (kExit (kExC (kExB (Kc (Ka Y (kAdd Y Y om (Ka Y (Kd ?_)))))))))))))))))))))))))))))))
   exact kInv ⟨⟨(k - 1, i + 1, lostT u), ⟨hlost.1, fun _ => by simp only; omega, e.symm.trans hgo, by simp only; omega⟩⟩, by simp only; omega, .normA⟩
  | true =>
   obtain ⟨m1, m2, m3, m4, m5, m6⟩ := hok rfl
   have hp := MayP.of (by unfold msgOk at m1; simp only [Bool.and_eq_true] at m1; exact m1.1)
   have hheard := RI.heard (W := fun r => rrOk r = true) (fun r h => h) hf (m := rm) hp.an.2 hp.au.2 hp.mo.2
   have hg' := hg.symm
   have m5' : rm.qs = [⟨u.name, u.ftype⟩] := m5
   have m2' : rm.id = u.id := m2
   have hgl : ∀ h : i < lost.length, lost.getD i false = lost[i] := fun h => by rw [List.getD_eq_getElem?_getD, List.getElem?_eq_getElem h]; rfl
   have hgn : ¬ i < lost.length → lost.getD i false = false := fun h => by rw [List.getD_eq_getElem?_getD, List.getElem?_eq_none (by omega)]; rfl
   refine Kb (Kbc (Ka Y (Kw Y Y (Ka Y (Ki Y (Ka Y (Ki Y (Ka Y (Ki Y (Kq Y Y (Ki Y (Kj Y Y Y (Ki Y (Ka Y (kGP Y (fun g0 => Ki Y (Ka Y (Ki Y (Ka Y (Ki Y (kIadR Y Y Y prl (Ki Y (Ky Y Y (Ki Y (Kk Y (Ka Y (Kl Y (Ka Y (Kd (kCond Y (fun g1 => Kbc (Ke Y Y Y (kCallD2 (ok_impl_Task_lost _ prx prx prx) ⟨⟨⟨Y, Y, Y, Y, Y, Y, Y, Y, Y, Y, Y, Y, Y, trivial⟩, leb⟩, trivial⟩ Y Y Y Y (Ko Y Y Y Y (Kd (kExit (kExC (kExB (Kc (Ka Y (kAdd Y Y om (Ka Y (Kd ?_))))))))))))) (fun g1 => Kn (kRegD (Ke Y Y Y (Kf Y Y (Ke Y Y Y (Kf Y Y (Ke Y Y Y (kIadT Y Y prl (Ky Y Y (Ke Y Y Y (Ks Y Y (kCallD2 (ok_impl_Task_heard _ _ _ prx prx prx prx prx prx prx) ⟨⟨⟨Y, Y, Y, Y, Y, Y, Y, Y, Y, Y, Y, Y, Y, trivial⟩, leb⟩, rfl, ⟨⟨Y, Y, Y, Y, Y, Y, Y, Y, Y, Y, Y, trivial⟩, leb⟩, trivial⟩ Y Y Y Y (kMovT Y (kExtC Y Y (kExtC Y Y (Ks Y Y (Ko Y Y Y Y (Kd (kH (Kv (Kc (Ka Y (kAdd Y Y om (Ka Y (Kd ?_)))))))))))))))))))))))))))))))))))))))) (fun g0 => Kg Y (Kg Y (Kg Y (Kg Y (Ki Y (Kl Y (Ka Y (Kl Y (Ka Y (Kd (kCondF Y (Kn (kRegD (Ke Y Y Y (Kf Y Y (Ke Y Y Y (Kf Y Y (Ke Y Y Y (kIadT Y Y prl (Ky Y Y (Ke Y Y Y (Ks Y Y (kCallD2 (ok_impl_Task_heard _ _ _ prx prx prx prx prx prx prx) ⟨⟨⟨Y, Y, Y, Y, Y, Y, Y, Y, Y, Y, Y, Y, Y, trivial⟩, leb⟩, rfl, ⟨⟨Y, Y, Y, Y, Y, Y, Y, Y, Y, Y, Y, trivial⟩, leb⟩, trivial⟩ Y Y Y Y (kMovT Y (kExtC Y Y (kExtC Y Y (Ks Y Y (Ko Y Y Y Y (Kd (kH (Kv (Kc (Ka Y (kAdd Y Y om (Ka Y (Kd ?_)))))))))))))))))))))))))))))))))))))))))))))))))))
   ·have e := hstep
    rw [hgl (by omega), g1] at e
    simp only [Bool.not_true, Bool.false_or, if_true] at e
    exact kInv ⟨⟨(k - 1, i + 1, lostT u), ⟨hlost.1, fun _ => by simp only; omega, e.symm.trans hgo, by simp only; omega⟩⟩, by simp only; omega, .normA⟩
   ·have e := hstep
    rw [hgl (by omega), g1] at e
    simp only [Bool.not_true, Bool.false_or, Bool.false_eq_true, if_false] at e
    exact kInv ⟨⟨(k - 1, i + 1, heardT u rm), ⟨hheard.1, fun _ => by have := hheard.2; simp only; omega, e.symm.trans hgo, by simp only; omega⟩⟩, by simp only; omega, .normA⟩
   ·have e := hstep
    rw [hgn (by omega)] at e
    simp only [Bool.not_true, Bool.false_or, Bool.false_eq_true, if_false] at e
    exact kInv ⟨⟨(k - 1, i + 1, heardT u rm), ⟨hheard.1, fun _ => by have := hheard.2; simp only; omega, e.symm.trans hgo, by simp only; omega⟩⟩, by simp only; omega, .normA⟩

def c_impl_Under : C := (.g (.o 0 2 (.box 2 (.t 0)) (.o 1 3 (.box 3 (.t 1)) (.o 2 4 (.mov (.v (.bool false))) .done))) (.g (.o 0 5 (.load (some 1) (.t 2)) (.o 1 6 (.call 6 90 [(.t 5)]) (.o 2 7 (.mov (.t 6)) (.op 3 [] (some 8) (some (7, true)) false (.load (some 1) (.t 3)) (.op 4 [] (some 9) (some (7, true)) false (.call 9 90 [(.t 8)]) (.o 5 10 (.pick (.t 7) (.t 9) (.v (.bool false))) (.o 6 11 (.mov (.t 10)) (.op 7 [] (some 12) (some (11, true)) false (.load (some 1) (.t 2)) (.op 8 [] (some 13) (some (11, true)) false (.load (some 1) (.t 3)) (.op 9 [] (some 14) (some (11, true)) false (.call 14 95 [(.t 12), (.t 13)]) (.o 10 15 (.pick (.t 11) (.t 14) (.v (.bool false))) (.o 11 4 (.mov (.t 15)) .done)))))))))))) .ret))
theorem dg_impl_Under : Tryz.f48.body.bind (digC Tryz.prog Tryz.f48.ntmps []) = some c_impl_Under := by kernel_rfl
theorem rs_impl_Under : resSlots Tryz.prog Tryz.f48 = some [.s 4] := by kernel_rfl
theorem ok_impl_Under (n z : List (List UInt8)) (hn : n.length ≤ 4194304) (hz : z.length ≤ 4194304) (hn' : ∀ b ∈ n, b.length ≤ 4194304) (hz' : ∀ b ∈ z, b.length ≤ 4194304) :
  FnOK Tryz.prog 48 [.agg [.d (encBB n)], .agg [.d (encBB z)]] (fun ra _ => ra = [.one (.d (.sc (.bool (nameOk n && nameOk z && underN n z))))]) := by
 refine FnOK.ofK Tryz.func48 (by kernel_rfl) dg_impl_Under rs_impl_Under rfl rfl ?_
 delta c_impl_Under T.o X.i C.g
 refine Kbc (kBox Y Y Y Y Y (kBox Y Y Y Y Y (Ka Y (Kdb (Kc (Ke Y Y Y (Kp (ok_impl_NameOk _ pr pr) ⟨⟨⟨Y, trivial⟩, leb⟩, trivial⟩ Y Y Y Y Y (Ka Y (kGS Y (fun g0 => Ki Y (Ke Y Y Y (Ki Y (Kp (ok_impl_NameOk _ pr pr) ⟨⟨⟨Y, trivial⟩, leb⟩, trivial⟩ Y Y Y Y Y (Kk Y (Ka Y (Ka Y (kGS Y (fun g1 => Ki Y (Ke Y Y Y (Ki Y (Ke Y Y Y (Ki Y (Kp (ok_impl_Name_under _ _ pr pr) ⟨⟨⟨Y, trivial⟩, leb⟩, ⟨⟨Y, trivial⟩, leb⟩, trivial⟩ Y Y Y Y Y (Kk Y (Ka Y (Ka Y (Kd (Kr (Er (ra := [.one (.d _)]) rfl ?_)))))))))))) (fun g1 => Kg Y (Kg Y (Kg Y (Kl Y (Ka Y (Ka Y (Kd (Kr (Er (ra := [.one (.d _)]) rfl ?_))))))))))))))))) (fun g0 => Kg Y (Kg Y (Kl Y (Ka Y (Ka Y (Kg Y (Kg Y (Kg Y (Kl Y (Ka Y (Ka Y (Kd (Kr (Er (ra := [.one (.d _)]) rfl ?_)))))))))))))))))))))))
 all_goals simp_all

def c_impl_all_int_1 : C := (.g (.o 0 3 (.mov (.v (.bool false))) .done) (.g (.o 0 4 (.load none (.t 1)) (.o 1 5 (.mov (.t 0)) (.o 2 6 (.callv 6 (.t 4) [(.t 5)]) (.o 3 7 (.un .not (.t 6)) (.o 4 3 (.mov (.t 7)) .done))))) .ret))
theorem dg_impl_all_int_1 : Tryz.f278.body.bind (digC Tryz.prog Tryz.f278.ntmps []) = some c_impl_all_int_1 := by kernel_rfl
theorem rs_impl_all_int_1 : resSlots Tryz.prog Tryz.f278 = some [.s 3] := by kernel_rfl
theorem ok_impl_all_int_1 (x : DV) (D : DV → Prop) (g : DV → Bool) (hx : D x) :
  FnOK Tryz.prog 278 [.one (.d x), .one (.ptr [.fv false (fcPred D g)])] (fun ra _ => ra = [.one (.d (.sc (.bool (!g x))))]) := by
 refine FnOK.ofK Tryz.func278 (by kernel_rfl) dg_impl_all_int_1 rs_impl_all_int_1 rfl rfl ?_
 delta c_impl_all_int_1 T.o X.i C.g
 refine Kbc (Ka Y (Kd ?_))
 refine Kbc (kLoadC Y Y (Ka Y (kCallv Y ⟨x, hx, rfl, rfl⟩ ⟨Y, trivial⟩ (.inr ?_) rfl ?_ rfl ?_)))
 ·rintro _ rfl; rfl
 ·rintro _ rfl; exact leb
 rintro _ rfl
 refine Kw Y Y (Ka Y (Kd (Kr ?_)))
 exact endRet (ra := [.one (.d _)]) rfl ⟨⟨⟨rfl, .inl rfl⟩, trivial⟩, .nil, trivial, trivial, trivial⟩ rfl

def c_slices_IndexFunc_Lint_int : C := (.g (.o 0 4 (.mov (.i 0)) .done) (.seq (.g (.o 0 6 (.mov (.t 0)) (.o 1 7 (.len (.t 6)) (.o 2 8 (.mov (.i 0)) .done))) (.block 0 (.loop (.g (.o 0 9 (.bin .lss (.t 8) (.t 7)) .done) (.seq (.cond (.t 9) .skip (.exit 0)) (.seq (.block 1 (.g (.o 0 10 (.mov (.t 8)) (.o 1 5 (.mov (.t 10)) .done)) (.g (.o 0 11 (.mov (.t 1)) (.o 1 12 (.mov (.t 0)) (.o 2 13 (.mov (.t 5)) (.o 3 14 (.iad 1 (.t 12) (.t 13)) (.o 4 15 (.load none (.t 14)) (.o 5 16 (.callv 16 (.t 11) [(.t 15)]) .done)))))) (.cond (.t 16) (.g (.o 0 17 (.mov (.t 5)) (.o 1 4 (.mov (.t 17)) .done)) .ret) .skip)))) (.reg false (.o 0 18 (.bin .add (.t 8) (.i 1)) (.o 1 8 (.mov (.t 18)) .done))))))))) (.g (.o 0 4 (.mov (.i (-1))) .done) .ret)))
theorem dg_slices_IndexFunc_Lint_int : Tryz.f320.body.bind (digC Tryz.prog Tryz.f320.ntmps []) = some c_slices_IndexFunc_Lint_int := by kernel_rfl
theorem rs_slices_IndexFunc_Lint_int : resSlots Tryz.prog Tryz.f320 = some [.s 4] := by kernel_rfl
theorem ok_slices_IndexFunc_Lint_int (l : List DV) (D : DV → Prop) (g : DV → Bool) (hl : (l.length : Int) ≤ 9223372036854775807) (hD : ∀ x ∈ l, D x) :
  FnOK Tryz.prog 320 [.one (.d (lst l)), .one (.fv false (fcPred D g))] (fun ra _ => ra = [.one (.d (.sc (.int .i64 (idxF g l))))]) := by
 refine FnOK.ofK Tryz.func320 (by kernel_rfl) dg_slices_IndexFunc_Lint_int rs_slices_IndexFunc_Lint_int rfl rfl ?_
 delta c_slices_IndexFunc_Lint_int T.o X.i C.g
 refine Kbc (Ka Y (Kd ?_))
 refine Kb (Kbc (Ka Y (kLen Y Y Y (Ka Y (Kd (Kt ?_))))))
 rw [len_lst]
 refine kLoop (α := { i : Nat // i ≤ l.length ∧ ∀ x ∈ l.take i, g x = false })
  (fun y => ⟨tabSl [(0, .dv (lst l)), (1, .c (.fv false (fcPred D g))), (7, .i l.length), (8, .i y.1)], (St.init [.one (.d (lst l)), .one (.fv false (fcPred D g))]).ob, []⟩) (fun y => l.length - y.1) ⟨0, by simp⟩
  (.tab rfl ⟨.refl _, .refl _, .refl _, .refl _, trivial⟩) ?_
 rintro ⟨i, hi, hg⟩
 simp only
 refine Kbc (Kj Y Y Y (Kd ?_))
 refine Kb (kCond Y (fun h1 => ?_) (fun h1 => ?_))
 ·have hlt : i < l.length := by simp at h1; omega
  refine Kn (Kb (Kt (Kbc (Ka Y (Ka Y (Kd ?_))))))
  refine Kbc (Ka Y (Ka Y (Ka Y (kIadD Y Y Y Y ?_ ?_))))
  ·rw [len_lst]; omega
  rw [show (lst l).row (i : Int).toNat = [l[i]] from row_lst l i hlt]
  refine Ky Y Y (kCallv Y ⟨l[i], hD _ (List.getElem_mem hlt), rfl, rfl⟩ ⟨Y, trivial⟩ (.inr ?_) rfl ?_ rfl ?_)
  ·rintro _ rfl; rfl
  ·rintro _ rfl; exact leb
  rintro _ rfl
  refine Kd (kCond Y (fun h2 => ?_) (fun h2 => ?_))
  ·refine Kbc (Ka Y (Ka Y (Kd (Kr ?_))))
   refine endRet (ra := [.one (.d _)]) rfl ⟨⟨⟨rfl, .inl rfl⟩, trivial⟩, .nil, trivial, trivial, trivial⟩ ?_
   have : l.findIdx? g = some i := by
    rw [List.findIdx?_eq_some_iff_getElem]
    refine ⟨hlt, h2, fun j hj => ?_⟩
    simpa using hg _ (by rw [List.mem_take_iff_getElem]; exact ⟨j, by omega, rfl⟩)
   simp [idxF, this]
  ·refine Kn (Kv (Kc (kAdd Y Y ?_ (Ka Y (Kd (kInv ?_))))))
   ·omega
   refine ⟨⟨i + 1, hlt, ?_⟩, by simp only; omega, .tab rfl ⟨.refl _, .refl _, .refl _, .refl _, trivial⟩⟩
   intro x hx
   rw [← List.take_append_getElem hlt, List.mem_append] at hx
   rcases hx with hx | hx
   ·exact hg x hx
   ·simp at hx; rw [hx]; exact h2
 ·refine kExit (kExC (kExI (kExB ?_)))
  have hge : i = l.length := by simp at h1; omega
  refine Kbc (Ka Y (Kd (Kr ?_)))
  refine endRet (ra := [.one (.d _)]) rfl ⟨⟨⟨rfl, .inl rfl⟩, trivial⟩, .nil, trivial, trivial, trivial⟩ ?_
  have : l.findIdx? g = none := by
   rw [List.findIdx?_eq_none_iff]
   intro x hx
   rw [hge, List.take_length] at hg
   exact hg x hx
  simp [idxF, this]

def c_slices_ContainsFunc_Lint_int : C := (.g (.o 0 4 (.mov (.v (.bool false))) .done) (.g (.o 0 5 (.mov (.t 0)) (.o 1 6 (.mov (.t 1)) (.o 2 7 (.call 7 320 [(.t 5), (.t 6)]) (.o 3 8 (.bin .geq (.t 7) (.i 0)) (.o 4 4 (.mov (.t 8)) .done))))) .ret))
theorem dg_slices_ContainsFunc_Lint_int : Tryz.f277.body.bind (digC Tryz.prog Tryz.f277.ntmps []) = some c_slices_ContainsFunc_Lint_int := by kernel_rfl
theorem rs_slices_ContainsFunc_Lint_int : resSlots Tryz.prog Tryz.f277 = some [.s 4] := by kernel_rfl
theorem ok_slices_ContainsFunc_Lint_int (l : List DV) (D : DV → Prop) (g : DV → Bool) (hl : (l.length : Int) ≤ 9223372036854775807) (hD : ∀ x ∈ l, D x) :
  FnOK Tryz.prog 277 [.one (.d (lst l)), .one (.fv false (fcPred D g))] (fun ra _ => ra = [.one (.d (.sc (.bool (l.any g))))]) := by
 refine FnOK.ofK Tryz.func277 (by kernel_rfl) dg_slices_ContainsFunc_Lint_int rs_slices_ContainsFunc_Lint_int rfl rfl ?_
 delta c_slices_ContainsFunc_Lint_int T.o X.i C.g
 refine Kbc (Ka Y (Kd ?_))
 refine Kbc (Ka Y (Ka Y ?_))
 refine Ku true (ok_slices_IndexFunc_Lint_int l D g hl hD) ⟨rfl, ⟨fun h => h, fun _ _ h => h⟩, trivial⟩ rfl rfl rfl fun os => ?_
 refine Kj Y Y Y (Ka Y (Kd (Kr ?_)))
 refine endRet (ra := [.one (.d _)]) rfl ⟨⟨⟨rfl, .inl rfl⟩, trivial⟩, .nil, trivial, trivial, trivial⟩ ?_
 have : decide (idxF g l ≥ 0) = l.any g := by
  unfold idxF
  cases h : l.findIdx? g with
  | none =>
   rw [List.findIdx?_eq_none_iff] at h
   have : l.any g = false := by rw [List.any_eq_false]; intro x hx; simp [h x hx]
   rw [this]; rfl
  | some i =>
   rw [List.findIdx?_eq_some_iff_getElem] at h
   obtain ⟨h1, h2, _⟩ := h
   have : l.any g = true := by rw [List.any_eq_true]; exact ⟨_, List.getElem_mem h1, h2⟩
   rw [this]; simp
 rw [this]

def c_impl_all_int : C := (.g (.o 0 3 (.box 3 (.t 1)) (.o 1 4 (.mov (.v (.bool false))) .done)) (.g (.o 0 5 (.mov (.t 0)) (.o 1 6 (.clo 278 [] [(.t 3)]) (.o 2 7 (.call 7 277 [(.t 5), (.t 6)]) (.o 3 8 (.un .not (.t 7)) (.o 4 4 (.mov (.t 8)) .done))))) .ret))
theorem dg_impl_all_int : Tryz.f224.body.bind (digC Tryz.prog Tryz.f224.ntmps []) = some c_impl_all_int := by kernel_rfl
theorem rs_impl_all_int : resSlots Tryz.prog Tryz.f224 = some [.s 4] := by kernel_rfl
theorem ok_impl_all_int (l : List DV) (D : DV → Prop) (g : DV → Bool) (hl : (l.length : Int) ≤ 9223372036854775807) (hD : ∀ x ∈ l, D x) :
  FnOK Tryz.prog 224 [.one (.d (lst l)), .one (.fv false (fcPred D g))] (fun ra _ => ra = [.one (.d (.sc (.bool (l.all g))))]) := by
 refine FnOK.ofK Tryz.func224 (by kernel_rfl) dg_impl_all_int rs_impl_all_int rfl rfl ?_
 delta c_impl_all_int T.o X.i C.g
 refine Kbc (kBox Y Y Y Y Y (Ka Y (Kd ?_)))
 refine Kbc (Ka Y (kClo Y Y ?_))
 refine Ku true (ok_slices_ContainsFunc_Lint_int l D (fun x => !g x) hl hD) ⟨rfl, ⟨rfl, ⟨_, Tryz.func278, rfl, by kernel_rfl⟩, _, rfl, ?_⟩, trivial⟩ rfl rfl rfl fun os => ?_
 ·rintro l R ⟨x, hx, rfl, rfl⟩
  exact ⟨by rintro _ rfl; rfl, ok_impl_all_int_1 x D g hx⟩
 refine Kw Y Y (Ka Y (Kd (Kr ?_)))
 refine endRet (ra := [.one (.d _)]) rfl ⟨⟨⟨rfl, .inl rfl⟩, trivial⟩, .nil, trivial, trivial, trivial⟩ ?_
 simp [List.all_eq_not_any_not]

def c_impl_areServers : C := (.g (.o 0 2 (.mov (.v (.bool false))) .done) (.g (.o 0 3 (.mov (.t 0)) (.o 1 4 (.len (.t 3)) (.o 2 5 (.call 5 121 [(.t 4), (.i 1), (.i 4)]) (.o 3 6 (.mov (.t 5)) (.op 4 [] (some 7) (some (6, true)) false (.mov (.t 0)) (.op 5 [] (some 8) (some (6, true)) false (.call 8 224 [(.t 7), (.fn 143)]) (.o 6 9 (.pick (.t 6) (.t 8) (.v (.bool false))) (.o 7 2 (.mov (.t 9)) .done)))))))) .ret))
theorem dg_impl_areServers : Tryz.f134.body.bind (digC Tryz.prog Tryz.f134.ntmps []) = some c_impl_areServers := by kernel_rfl
theorem rs_impl_areServers : resSlots Tryz.prog Tryz.f134 = some [.s 2] := by kernel_rfl
theorem ok_impl_areServers (l : List Int) (h : l.length ≤ 4194304) :
  FnOK Tryz.prog 134 [.one (.d (encI l))] (fun ra _ => ra = [.one (.d (.sc (.bool (ipsOk l))))]) := by
 refine FnOK.ofK Tryz.func134 (by kernel_rfl) dg_impl_areServers rs_impl_areServers rfl rfl ?_
 delta c_impl_areServers T.o X.i C.g
 refine Kbc (Ka Y (Kdb (Kc (Ka Y (Kq Y Y (Kp (ok_impl_within _ _ _) ⟨Y, Y, Y, trivial⟩ Y Y Y Y Y (Ka Y (kGP Y (fun g0 => Ki Y (Ka Y (Ki Y ?_))) (fun g0 => Kg Y (Kg Y (Kl Y (Ka Y (Ka Y (Kd (Kr (Er (ra := [.one (.d _)]) rfl ?_))))))))))))))))
 ·refine Kp (ok_impl_all_int (l.map fun n => .sc (.int .i64 n)) isI (fun x => isW (decI x)) (by simp; omega) (fun x hx => by obtain ⟨c, _, rfl⟩ := List.mem_map.1 hx; exact ⟨c, rfl⟩)) ⟨congrArg some (encI_lst l), ⟨rfl, rfl, ⟨_, Tryz.func143, rfl, by kernel_rfl⟩, ?_⟩, trivial⟩ Y Y Y Y Y ?_
  ·rintro _ R ⟨x, ⟨c, rfl⟩, rfl, rfl⟩
   exact ok_impl_isWord c
  refine Kk Y (Ka Y (Ka Y (Kd (Kr (Er (ra := [.one (.d _)]) rfl ?_)))))
  rw [all_decI, show ipsOk l = l.all isW by simp only [ipsOk]; rw [decide_eq_true (by omega)]; rfl]
 ·rw [show ipsOk l = false by simp only [ipsOk]; rw [decide_eq_false (by omega)]; rfl]

def c_impl_TaskOk : C := (.g (.o 0 1 (.box 1 (.t 0)) (.o 1 2 (.mov (.v (.bool false))) .done)) (.seq (.g (.o 0 3 (.fad (.t 1) 0) (.o 1 4 (.load none (.t 3)) (.o 2 5 (.call 5 121 [(.t 4), (.i 0), (.i 1)]) (.o 3 6 (.un .not (.t 5)) (.o 4 7 (.mov (.t 6)) (.op 5 [] (some 8) (some (7, false)) false (.fad (.t 1) 1) (.op 6 [] (some 9) (some (7, false)) false (.load none (.t 8)) (.op 7 [] (some 10) (some (7, false)) false (.call 10 121 [(.t 9), (.i 0), (.i 65535)]) (.op 8 [] (some 11) (some (7, false)) false (.un .not (.t 10)) (.o 9 12 (.pick (.t 7) (.v (.bool true)) (.t 11)) (.o 10 13 (.mov (.t 12)) (.op 11 [] (some 14) (some (13, false)) false (.fad (.t 1) 2) (.op 12 [] (some 15) (some (13, false)) false (.fad (.t 14) 0) (.op 13 [] (some 16) (some (13, false)) false (.load (some 1) (.t 15)) (.op 14 [] (some 17) (some (13, false)) false (.call 17 90 [(.t 16)]) (.op 15 [] (some 18) (some (13, false)) false (.un .not (.t 17)) (.o 16 19 (.pick (.t 13) (.v (.bool true)) (.t 18)) (.o 17 20 (.mov (.t 19)) (.op 18 [] (some 21) (some (20, false)) false (.fad (.t 1) 2) (.op 19 [] (some 22) (some (20, false)) false (.fad (.t 21) 1) (.op 20 [] (some 23) (some (20, false)) false (.load none (.t 22)) (.op 21 [] (some 24) (some (20, false)) false (.call 24 133 [(.t 23)]) (.op 22 [] (some 25) (some (20, false)) false (.un .not (.t 24)) (.o 23 26 (.pick (.t 20) (.v (.bool true)) (.t 25)) (.o 24 27 (.mov (.t 26)) (.op 25 [] (some 28) (some (27, false)) false (.fad (.t 1) 4) (.op 26 [] (some 29) (some (27, false)) false (.load (some 1) (.t 28)) (.op 27 [] (some 30) (some (27, false)) false (.fad (.t 1) 5) (.op 28 [] (some 31) (some (27, false)) false (.load (some 1) (.t 30)) (.op 29 [] (some 32) (some (27, false)) false (.call 32 48 [(.t 29), (.t 31)]) (.op 30 [] (some 33) (some (27, false)) false (.un .not (.t 32)) (.o 31 34 (.pick (.t 27) (.v (.bool true)) (.t 33)) (.o 32 35 (.mov (.t 34)) (.op 33 [] (some 36) (some (35, false)) false (.fad (.t 1) 6) (.op 34 [] (some 37) (some (35, false)) false (.load none (.t 36)) (.op 35 [] (some 38) (some (35, false)) false (.call 38 134 [(.t 37)]) (.op 36 [] (some 39) (some (35, false)) false (.un .not (.t 38)) (.o 37 40 (.pick (.t 35) (.v (.bool true)) (.t 39)) (.o 38 41 (.mov (.t 40)) (.op 39 [] (some 42) (some (41, false)) false (.fad (.t 1) 7) (.op 40 [] (some 43) (some (41, false)) false (.load none (.t 42)) (.op 41 [] (some 44) (some (41, false)) false (.call 44 134 [(.t 43)]) (.op 42 [] (some 45) (some (41, false)) false (.un .not (.t 44)) (.o 43 46 (.pick (.t 41) (.v (.bool true)) (.t 45)) .done)))))))))))))))))))))))))))))))))))))))))))) (.cond (.t 46) (.g (.o 0 2 (.mov (.v (.bool false))) .done) .ret) .skip)) (.seq (.g (.o 0 47 (.fad (.t 1) 8) (.o 1 48 (.load none (.t 47)) (.o 2 49 (.fad (.t 1) 7) (.o 3 50 (.load none (.t 49)) (.o 4 51 (.len (.t 50)) (.o 5 52 (.bin .sub (.t 51) (.i 1)) (.o 6 53 (.call 53 121 [(.t 48), (.i 0), (.t 52)]) (.o 7 54 (.un .not (.t 53)) (.o 8 55 (.mov (.t 54)) (.op 9 [] (some 56) (some (55, false)) false (.fad (.t 1) 9) (.op 10 [] (some 57) (some (55, false)) false (.load none (.t 56)) (.op 11 [] (some 58) (some (55, false)) false (.call 58 121 [(.t 57), (.i 0), (.i 12)]) (.op 12 [] (some 59) (some (55, false)) false (.un .not (.t 58)) (.o 13 60 (.pick (.t 55) (.v (.bool true)) (.t 59)) (.o 14 61 (.mov (.t 60)) (.op 15 [] (some 62) (some (61, false)) false (.fad (.t 1) 10) (.op 16 [] (some 63) (some (61, false)) false (.load none (.t 62)) (.op 17 [] (some 64) (some (61, false)) false (.call 64 121 [(.t 63), (.i 0), (.i 6)]) (.op 18 [] (some 65) (some (61, false)) false (.un .not (.t 64)) (.o 19 66 (.pick (.t 61) (.v (.bool true)) (.t 65)) (.o 20 67 (.mov (.t 66)) (.op 21 [] (some 68) (some (67, false)) false (.fad (.t 1) 11) (.op 22 [] (some 69) (some (67, false)) false (.load none (.t 68)) (.op 23 [] (some 70) (some (67, false)) false (.call 70 135 [(.t 69)]) (.op 24 [] (some 71) (some (67, false)) false (.un .not (.t 70)) (.o 25 72 (.pick (.t 67) (.v (.bool true)) (.t 71)) (.o 26 73 (.mov (.t 72)) (.op 27 [] (some 74) (some (73, false)) false (.fad (.t 1) 12) (.op 28 [] (some 75) (some (73, false)) false (.load none (.t 74)) (.op 29 [] (some 76) (some (73, false)) false (.call 76 136 [(.t 75)]) (.op 30 [] (some 77) (some (73, false)) false (.un .not (.t 76)) (.o 31 78 (.pick (.t 73) (.v (.bool true)) (.t 77)) .done)))))))))))))))))))))))))))))))) (.cond (.t 78) (.g (.o 0 2 (.mov (.v (.bool false))) .done) .ret) .skip)) (.g (.o 0 79 (.fad (.t 1) 0) (.o 1 80 (.load none (.t 79)) (.o 2 81 (.bin .eql (.t 80) (.i 1)) (.o 3 82 (.mov (.t 81)) (.op 4 [] (some 83) (some (82, false)) false (.fad (.t 1) 11) (.op 5 [] (some 84) (some (82, false)) false (.load none (.t 83)) (.op 6 [] (some 85) (some (82, false)) false (.bin .eql (.t 84) (.i 0)) (.op 7 [] (some 86) (some (82, false)) false (.mov (.t 85)) (.op 8 [] (some 87) (some (86, true)) false (.fad (.t 1) 9) (.op 9 [] (some 88) (some (86, true)) false (.load none (.t 87)) (.op 10 [] (some 89) (some (86, true)) false (.bin .lss (.t 88) (.i 12)) (.op 11 [] (some 90) (some (82, false)) false (.pick (.t 86) (.t 89) (.v (.bool false))) (.op 12 [] (some 91) (some (82, false)) false (.mov (.t 90)) (.op 13 [] (some 92) (some (91, true)) false (.fad (.t 1) 10) (.op 14 [] (some 93) (some (91, true)) false (.load none (.t 92)) (.op 15 [] (some 94) (some (91, true)) false (.bin .lss (.t 93) (.i 6)) (.op 16 [] (some 95) (some (82, false)) false (.pick (.t 91) (.t 94) (.v (.bool false))) (.o 17 96 (.pick (.t 82) (.v (.bool true)) (.t 95)) (.o 18 2 (.mov (.t 96)) .done))))))))))))))))))) .ret))))
theorem dg_impl_TaskOk : Tryz.f47.body.bind (digC Tryz.prog Tryz.f47.ntmps []) = some c_impl_TaskOk := by kernel_rfl
theorem rs_impl_TaskOk : resSlots Tryz.prog Tryz.f47 = some [.s 2] := by kernel_rfl
theorem ok_impl_TaskOk (t : Task) (hs : SmallT t) :
  FnOK Tryz.prog 47 [.agg (t.cells.map .d)] (fun ra _ => ra = [.one (.d (.sc (.bool (taskOk t))))]) := by
 refine FnOK.ofK Tryz.func47 (by kernel_rfl) dg_impl_TaskOk rs_impl_TaskOk rfl rfl ?_
 delta c_impl_TaskOk T.o X.i C.g
 have n1 := hs.n.len
 have n2 := hs.n.mem
 have f1 := hs.f.len
 have f2 := hs.f.mem
 have z1 := hs.z.len
 have z2 := hs.z.mem
 have h1 := hs.h
 have s1 := hs.s
 have a1 := hs.a
 refine Kbc (kBox Y Y Y Y Y (Ka Y (Kdb (Kbc (Kf Y Y (Ke Y Y Y (Kp (ok_impl_within _ _ _) ⟨Y, Y, Y, trivial⟩ Y Y Y Y Y (Kw Y Y (Ka Y (kGN Y (fun g0 => Kg Y (Kg Y (Kg Y (Kg Y (Kk Y (Ka Y (Ka Y (Kg Y (Kg Y (Kg Y (Kg Y (Kg Y (Kk Y (Ka Y (Ka Y (Kg Y (Kg Y (Kg Y (Kg Y (Kg Y (Kk Y (Ka Y (Ka Y (Kg Y (Kg Y (Kg Y (Kg Y (Kg Y (Kg Y (Kk Y (Ka Y (Ka Y (Kg Y (Kg Y (Kg Y (Kg Y (Kk Y (Ka Y (Ka Y (Kg Y (Kg Y (Kg Y (Kg Y (Kk Y (Ka Y (Kd (kCondT Y (Kbc (Ka Y (Kd (Kr (Er (ra := [.one (.d _)]) rfl ?_)))))))))))))))))))))))))))))))))))))))))))))))))))) (fun g0 => Ki Y (Kf Y Y (Ki Y (Ke Y Y Y (Ki Y (Kp (ok_impl_within _ _ _) ⟨Y, Y, Y, trivial⟩ Y Y Y Y Y (Ki Y (Kw Y Y (Kl Y (Ka Y (Ka Y (kGN Y (fun g1 => Kg Y (Kg Y (Kg Y (Kg Y (Kg Y (Kk Y (Ka Y (Ka Y (Kg Y (Kg Y (Kg Y (Kg Y (Kg Y (Kk Y (Ka Y (Ka Y (Kg Y (Kg Y (Kg Y (Kg Y (Kg Y (Kg Y (Kk Y (Ka Y (Ka Y (Kg Y (Kg Y (Kg Y (Kg Y (Kk Y (Ka Y (Ka Y (Kg Y (Kg Y (Kg Y (Kg Y (Kk Y (Ka Y (Kd (kCondT Y (Kbc (Ka Y (Kd (Kr (Er (ra := [.one (.d _)]) rfl ?_))))))))))))))))))))))))))))))))))))))))))))) (fun g1 => Ki Y (Kf Y Y (Ki Y (Kf Y Y (Ki Y (Ke Y Y Y (Ki Y (Kp (ok_impl_NameOk _ pr pr) ⟨⟨⟨Y, trivial⟩, leb⟩, trivial⟩ Y Y Y Y Y (Ki Y (Kw Y Y (Kl Y (Ka Y (Ka Y (kGN Y (fun g2 => Kg Y (Kg Y (Kg Y (Kg Y (Kg Y (Kk Y (Ka Y (Ka Y (Kg Y (Kg Y (Kg Y (Kg Y (Kg Y (Kg Y (Kk Y (Ka Y (Ka Y (Kg Y (Kg Y (Kg Y (Kg Y (Kk Y (Ka Y (Ka Y (Kg Y (Kg Y (Kg Y (Kg Y (Kk Y (Ka Y (Kd (kCondT Y (Kbc (Ka Y (Kd (Kr (Er (ra := [.one (.d _)]) rfl ?_))))))))))))))))))))))))))))))))))))) (fun g2 => Ki Y (Kf Y Y (Ki Y (Kf Y Y (Ki Y (Ke Y Y Y (Ki Y (Kp (ok_impl_TypeOk _) ⟨Y, trivial⟩ Y Y Y Y Y (Ki Y (Kw Y Y (Kl Y (Ka Y (Ka Y (kGN Y (fun g3 => Kg Y (Kg Y (Kg Y (Kg Y (Kg Y (Kg Y (Kk Y (Ka Y (Ka Y (Kg Y (Kg Y (Kg Y (Kg Y (Kk Y (Ka Y (Ka Y (Kg Y (Kg Y (Kg Y (Kg Y (Kk Y (Ka Y (Kd (kCondT Y (Kbc (Ka Y (Kd (Kr (Er (ra := [.one (.d _)]) rfl ?_))))))))))))))))))))))))))))) (fun g3 => Ki Y (Kf Y Y (Ki Y (Ke Y Y Y (Ki Y (Kf Y Y (Ki Y (Ke Y Y Y (Ki Y (Kp (ok_impl_Under _ _ pr pr pr pr) ⟨⟨⟨Y, trivial⟩, leb⟩, ⟨⟨Y, trivial⟩, leb⟩, trivial⟩ Y Y Y Y Y (Ki Y (Kw Y Y (Kl Y (Ka Y (Ka Y (kGN Y (fun g4 => Kg Y (Kg Y (Kg Y (Kg Y (Kk Y (Ka Y (Ka Y (Kg Y (Kg Y (Kg Y (Kg Y (Kk Y (Ka Y (Kd (kCondT Y (Kbc (Ka Y (Kd (Kr (Er (ra := [.one (.d _)]) rfl ?_)))))))))))))))))))) (fun g4 => Ki Y (Kf Y Y (Ki Y (Ke Y Y Y (Ki Y (Kp (ok_impl_areServers _ pr) ⟨Y, trivial⟩ Y Y Y Y Y (Ki Y (Kw Y Y (Kl Y (Ka Y (Ka Y (kGN Y (fun g5 => Kg Y (Kg Y (Kg Y (Kg Y (Kk Y (Ka Y (Kd (kCondT Y (Kbc (Ka Y (Kd (Kr (Er (ra := [.one (.d _)]) rfl ?_))))))))))))) (fun g5 => Ki Y (Kf Y Y (Ki Y (Ke Y Y Y (Ki Y (Kp (ok_impl_areServers _ pr) ⟨Y, trivial⟩ Y Y Y Y Y (Ki Y (Kw Y Y (Kl Y (Ka Y (Kd (kCondN Y (fun g6 => Kbc (Ka Y (Kd (Kr (Er (ra := [.one (.d _)]) rfl ?_))))) (fun g6 => Kn (Kb (Kbc (Kf Y Y (Ke Y Y Y (Kf Y Y (Ke Y Y Y (Kq Y Y (kDif Y Y om (Kp (ok_impl_within _ _ _) ⟨Y, Y, Y, trivial⟩ Y Y Y Y Y (Kw Y Y (Ka Y (kGN Y (fun g7 => Kg Y (Kg Y (Kg Y (Kg Y (Kk Y (Ka Y (Ka Y (Kg Y (Kg Y (Kg Y (Kg Y (Kk Y (Ka Y (Ka Y (Kg Y (Kg Y (Kg Y (Kg Y (Kk Y (Ka Y (Ka Y (Kg Y (Kg Y (Kg Y (Kg Y (Kk Y (Ka Y (Kd (kCondT Y (Kbc (Ka Y (Kd (Kr (Er (ra := [.one (.d _)]) rfl ?_)))))))))))))))))))))))))))))))))) (fun g7 => Ki Y (Kf Y Y (Ki Y (Ke Y Y Y (Ki Y (Kp (ok_impl_within _ _ _) ⟨Y, Y, Y, trivial⟩ Y Y Y Y Y (Ki Y (Kw Y Y (Kl Y (Ka Y (Ka Y (kGN Y (fun g8 => Kg Y (Kg Y (Kg Y (Kg Y (Kk Y (Ka Y (Ka Y (Kg Y (Kg Y (Kg Y (Kg Y (Kk Y (Ka Y (Ka Y (Kg Y (Kg Y (Kg Y (Kg Y (Kk Y (Ka Y (Kd (kCondT Y (Kbc (Ka Y (Kd (Kr (Er (ra := [.one (.d _)]) rfl ?_))))))))))))))))))))))))))) (fun g8 => Ki Y (Kf Y Y (Ki Y (Ke Y Y Y (Ki Y (Kp (ok_impl_within _ _ _) ⟨Y, Y, Y, trivial⟩ Y Y Y Y Y (Ki Y (Kw Y Y (Kl Y (Ka Y (Ka Y (kGN Y (fun g9 => Kg Y (Kg Y (Kg Y (Kg Y (Kk Y (Ka Y (Ka Y (Kg Y (Kg Y (Kg Y (Kg Y (Kk Y (Ka Y (Kd (kCondT Y (Kbc (Ka Y (Kd (Kr (Er (ra := [.one (.d _)]) rfl ?_)))))))))))))))))))) (fun g9 => Ki Y (Kf Y Y (Ki Y (Ke Y Y Y (Ki Y (Kp (ok_impl_isCode _) ⟨Y, trivial⟩ Y Y Y Y Y (Ki Y (Kw Y Y (Kl Y (Ka Y (Ka Y (kGN Y (fun g10 => Kg Y (Kg Y (Kg Y (Kg Y (Kk Y (Ka Y (Kd (kCondT Y (Kbc (Ka Y (Kd (Kr (Er (ra := [.one (.d _)]) rfl ?_))))))))))))) (fun g10 => Ki Y (Kf Y Y (Ki Y (Ke Y Y Y (Ki Y (Kp (ok_impl_areRrs _ pr) ⟨Y, trivial⟩ Y Y Y Y Y (Ki Y (Kw Y Y (Kl Y (Ka Y (Kd (kCondN Y (fun g11 => Kbc (Ka Y (Kd (Kr (Er (ra := [.one (.d _)]) rfl ?_))))) (fun g11 => Kn (Kbc (Kf Y Y (Ke Y Y Y (Kj Y Y Y (Ka Y (kGP Y (fun g12 => Kg Y (Kg Y (Kg Y (Kg Y (kGU Y (kGU Y (kGU Y (Kg Y (Kg Y (kGU Y (kGU Y (kGU Y (Kg Y (Kk Y (Ka Y (Ka Y (Kd (Kr (Er (ra := [.one (.d _)]) rfl ?_))))))))))))))))))) (fun g12 => Ki Y (Kf Y Y (Ki Y (Ke Y Y Y (Ki Y (Kj Y Y Y (Ki Y (Ka Y (kGP Y (fun g13 => Ki Y (Kf Y Y (Ki Y (Ke Y Y Y (Ki Y (Kj Y Y Y (Ki Y (Kk Y (Ka Y (Ki Y (Ka Y (kGP Y (fun g14 => Ki Y (Kf Y Y (Ki Y (Ke Y Y Y (Ki Y (Kj Y Y Y (Ki Y (Kk Y (Ka Y (Kl Y (Ka Y (Ka Y (Kd (Kr (Er (ra := [.one (.d _)]) rfl ?_))))))))))))))) (fun g14 => Kg Y (Kg Y (Kg Y (Ki Y (Kl Y (Ka Y (Kl Y (Ka Y (Ka Y (Kd (Kr (Er (ra := [.one (.d _)]) rfl ?_)))))))))))))))))))))))) (fun g13 => Kg Y (Kg Y (Kg Y (Ki Y (Kl Y (Ka Y (Ki Y (Ka Y (Kg Y (Kg Y (Kg Y (Ki Y (Kl Y (Ka Y (Kl Y (Ka Y (Ka Y (Kd (Kr (Er (ra := [.one (.d _)]) rfl ?_)))))))))))))))))))))))))))))))))))))))))))))))))))))))))))))))))))))))))))))))))))))))))))))))))))))))))))))))))))))))))))))))))))))))))))))))))))))))))))))))))))))))))))))))))))))))))))
 all_goals (clear n1 n2 f1 f2 z1 z2 h1 s1 a1 hs; refine congrArg (fun z : Bool => [RA.one (RV.d (DV.sc (Value.bool z)))]) ?_)
 all_goals first
  | (simp [taskOk, *]; done)
  | (simp [taskOk, *]; omega)
  | (rw [Bool.eq_iff_iff]; simp [taskOk, *]; done)
  | (rw [Bool.eq_iff_iff]; simp [taskOk, *]; omega)
  | (simp_all [taskOk]; done)
  | (simp_all [taskOk]; omega)

def c_impl_Task_copied : C := (.g (.o 0 1 (.box 1 (.t 0)) (.o 1 2 (.alloc 2 [(.i 0), (.i 0), (.n 1), (.i 0), (.n 1), (.n 1), (.n 1), (.n 1), (.i 0), (.i 0), (.i 0), (.i 0), (.n 7)]) .done)) (.seq (.reg true (.op 0 [] (some 3) none true (.fad (.t 1) 2) (.op 1 [] (some 4) none true (.fad (.t 3) 0) (.op 2 [] (some 5) none true (.load (some 1) (.t 4)) (.op 4 [] (some 7) none true (.fad (.t 1) 4) (.op 5 [] (some 8) none true (.load (some 1) (.t 7)) (.op 7 [] (some 10) none true (.fad (.t 1) 5) (.op 8 [] (some 11) none true (.load (some 1) (.t 10)) (.op 3 [2] (some 6) none false (.call 6 150 [(.t 5)]) (.op 10 [] (some 13) none true (.fad (.t 1) 2) (.op 11 [] (some 14) none true (.fad (.t 13) 0) (.op 6 [5, 2] (some 9) none false (.call 9 150 [(.t 8)]) (.op 9 [8, 5, 2] (some 12) none false (.call 12 150 [(.t 11)]) (.op 12 [2, 5, 8] none none false (.store (some 1) (.t 14) (.t 6)) (.op 13 [] (some 15) none true (.fad (.t 1) 4) (.op 14 [2, 5, 8] none none false (.store (some 1) (.t 15) (.t 9)) (.op 15 [] (some 16) none true (.fad (.t 1) 5) (.op 16 [2, 5, 8] none none false (.store (some 1) (.t 16) (.t 12)) .done)))))))))))))))))) (.seq (.reg true (.op 0 [] (some 17) none true (.fad (.t 1) 6) (.op 1 [] (some 18) none true (.load none (.t 17)) (.op 3 [] (some 20) none true (.fad (.t 1) 7) (.op 4 [] (some 21) none true (.load none (.t 20)) (.op 6 [] (some 23) none true (.fad (.t 1) 12) (.op 7 [] (some 24) none true (.load none (.t 23)) (.op 2 [1] (some 19) none false (.call 19 229 [(.t 18)]) (.op 9 [] (some 26) none true (.fad (.t 1) 6) (.op 5 [4, 1] (some 22) none false (.call 22 229 [(.t 21)]) (.op 8 [7, 4, 1] (some 25) none false (.call 25 91 [(.t 24)]) (.op 10 [1, 4, 7] none none false (.store none (.t 26) (.t 19)) (.op 11 [] (some 27) none true (.fad (.t 1) 7) (.op 12 [1, 4, 7] none none false (.store none (.t 27) (.t 22)) (.op 13 [] (some 28) none true (.fad (.t 1) 12) (.op 14 [1, 4, 7] none none false (.store none (.t 28) (.t 25)) .done)))))))))))))))) (.g (.o 0 29 (.load (some 13) (.t 1)) (.op 1 [] none none false (.store (some 13) (.t 2) (.t 29)) .done)) .ret))))
theorem dg_impl_Task_copied : Tryz.f131.body.bind (digC Tryz.prog Tryz.f131.ntmps []) = some c_impl_Task_copied := by kernel_rfl
theorem rs_impl_Task_copied : resSlots Tryz.prog Tryz.f131 = some [.m 2 (some 13)] := by kernel_rfl
theorem ok_impl_Task_copied (t : Task) (hs : SmallT t) :
  FnOK Tryz.prog 131 [.agg (t.cells.map .d)] (fun ra _ => ra = [.agg [.d (.sc (.int .i64 t.state)), .d (.sc (.int .i64 t.id)), .own true (encBB t.fname), .d (.sc (.int .i64 t.ftype)), .own true (encBB t.name), .own true (encBB t.zone), .own true (encI t.hints), .own true (encI t.servers), .d (.sc (.int .i64 t.turn)), .d (.sc (.int .i64 t.sends)), .d (.sc (.int .i64 t.steps)), .d (.sc (.int .i64 t.code)), .own true (encR t.answers)]]) := by
 refine FnOK.ofK Tryz.func131 (by kernel_rfl) dg_impl_Task_copied rs_impl_Task_copied rfl rfl ?_
 delta c_impl_Task_copied T.o X.i C.g
 have n1 := hs.n.len
 have n2 := hs.n.mem
 have f1 := hs.f.len
 have f2 := hs.f.mem
 have z1 := hs.z.len
 have z2 := hs.z.mem
 have h1 := hs.h
 have s1 := hs.s
 have a1 := hs.a
 refine Kb (kCut ⟨tabSl [(1, .c (.ptr (rid 1 0) 1 0)), (2, .c (.ptr (rid 2 0) 1 0))], obTab 1 [(rid 1 0, ⟨1, 0, .box [.d (.sc (.int .i64 t.state)), .d (.sc (.int .i64 t.id)), .d (encBB t.fname), .d (.sc (.int .i64 t.ftype)), .d (encBB t.name), .d (encBB t.zone), .d (encI t.hints), .d (encI t.servers), .d (.sc (.int .i64 t.turn)), .d (.sc (.int .i64 t.sends)), .d (.sc (.int .i64 t.steps)), .d (.sc (.int .i64 t.code)), .d (encR t.answers)]⟩), (rid 2 0, ⟨1, 0, .box [.d (.sc (.int .i64 0)), .d (.sc (.int .i64 0)), .nil 1, .d (.sc (.int .i64 0)), .nil 1, .nil 1, .nil 1, .nil 1, .d (.sc (.int .i64 0)), .d (.sc (.int .i64 0)), .d (.sc (.int .i64 0)), .d (.sc (.int .i64 0)), .nil 7]⟩)], []⟩ ?_ (fun x hc => ?_))
 case refine_2 => refine kReg (kBox rfl rfl rfl rfl rfl (kAlloc rfl rfl (kDone (hc _ .normA))))
 refine Kb (kCut ⟨tabSl [(1, .c (.ptr (rid 1 0) 1 0)), (2, .c (.ptr (rid 2 0) 1 0))], obTab 1 [(rid 1 0, ⟨1, 0, .box [.d (.sc (.int .i64 t.state)), .d (.sc (.int .i64 t.id)), .arr (rid 6 0) 1, .d (.sc (.int .i64 t.ftype)), .arr (rid 9 0) 1, .arr (rid 12 0) 1, .d (encI t.hints), .d (encI t.servers), .d (.sc (.int .i64 t.turn)), .d (.sc (.int .i64 t.sends)), .d (.sc (.int .i64 t.steps)), .d (.sc (.int .i64 t.code)), .d (encR t.answers)]⟩), (rid 2 0, ⟨1, 0, .box [.d (.sc (.int .i64 0)), .d (.sc (.int .i64 0)), .nil 1, .d (.sc (.int .i64 0)), .nil 1, .nil 1, .nil 1, .nil 1, .d (.sc (.int .i64 0)), .d (.sc (.int .i64 0)), .d (.sc (.int .i64 0)), .d (.sc (.int .i64 0)), .nil 7]⟩), (rid 6 0, ⟨1, 0, .arr true (encBB t.fname)⟩), (rid 9 0, ⟨1, 0, .arr true (encBB t.name)⟩), (rid 12 0, ⟨1, 0, .arr true (encBB t.zone)⟩)], []⟩ ?_ (fun x hc => ?_))
 case refine_2 => refine kRegD (kFadP rfl rfl (kFadP rfl rfl (kLoadP rfl rfl rfl (kFadP rfl rfl (kLoadP rfl rfl rfl (kFadP rfl rfl (kLoadP rfl rfl rfl (kRelK rfl rfl (kCall1 true (ok_impl_Name_copied _ pr pr) ⟨⟨⟨rfl, trivial⟩, leb⟩, trivial⟩ rfl rfl rfl (fun _ => (kFadP rfl rfl (kFadP rfl rfl (kRelK rfl rfl (kCall1 true (ok_impl_Name_copied _ pr pr) ⟨⟨⟨rfl, trivial⟩, leb⟩, trivial⟩ rfl rfl rfl (fun _ => (kRelF rfl rfl (kCall1 true (ok_impl_Name_copied _ pr pr) ⟨⟨⟨rfl, trivial⟩, leb⟩, trivial⟩ rfl rfl rfl (fun _ => (kRelF rfl rfl (kStoreP rfl rfl rfl rfl (kFadP rfl rfl (kRelF rfl rfl (kStoreP rfl rfl rfl rfl (kFadP rfl rfl (kRelF rfl rfl (kStoreP rfl rfl rfl rfl (kDone (kH (hc _ .normA)))))))))))))))))))))))))))))
 refine Kb (kCut ⟨tabSl [(1, .c (.ptr (rid 1 0) 1 0)), (2, .c (.ptr (rid 2 0) 1 0))], obTab 1 [(rid 1 0, ⟨1, 0, .box [.d (.sc (.int .i64 t.state)), .d (.sc (.int .i64 t.id)), .arr (rid 6 0) 1, .d (.sc (.int .i64 t.ftype)), .arr (rid 9 0) 1, .arr (rid 12 0) 1, .arr (rid 19 0) 1, .arr (rid 22 0) 1, .d (.sc (.int .i64 t.turn)), .d (.sc (.int .i64 t.sends)), .d (.sc (.int .i64 t.steps)), .d (.sc (.int .i64 t.code)), .arr (rid 25 0) 1]⟩), (rid 2 0, ⟨1, 0, .box [.d (.sc (.int .i64 0)), .d (.sc (.int .i64 0)), .nil 1, .d (.sc (.int .i64 0)), .nil 1, .nil 1, .nil 1, .nil 1, .d (.sc (.int .i64 0)), .d (.sc (.int .i64 0)), .d (.sc (.int .i64 0)), .d (.sc (.int .i64 0)), .nil 7]⟩), (rid 6 0, ⟨1, 0, .arr true (encBB t.fname)⟩), (rid 9 0, ⟨1, 0, .arr true (encBB t.name)⟩), (rid 12 0, ⟨1, 0, .arr true (encBB t.zone)⟩), (rid 19 0, ⟨1, 0, .arr true (encI t.hints)⟩), (rid 22 0, ⟨1, 0, .arr true (encI t.servers)⟩), (rid 25 0, ⟨1, 0, .arr true (encR t.answers)⟩)], []⟩ ?_ (fun x hc => ?_))
 case refine_2 => refine kRegD (kFadP rfl rfl (kLoadP rfl rfl rfl (kFadP rfl rfl (kLoadP rfl rfl rfl (kFadP rfl rfl (kLoadP rfl rfl rfl (kRelK rfl rfl (kCall1 true (ok_slices_Clone_Lint_int _ pr) ⟨rfl, trivial⟩ rfl rfl rfl (fun _ => (kFadP rfl rfl (kRelK rfl rfl (kCall1 true (ok_slices_Clone_Lint_int _ pr) ⟨rfl, trivial⟩ rfl rfl rfl (fun _ => (kRelF rfl rfl (kCall1 true (ok_impl_copyRrs _ pr) ⟨rfl, trivial⟩ rfl rfl rfl (fun _ => (kRelF rfl rfl (kStoreP rfl rfl rfl rfl (kFadP rfl rfl (kRelF rfl rfl (kStoreP rfl rfl rfl rfl (kFadP rfl rfl (kRelF rfl rfl (kStoreP rfl rfl rfl rfl (kDone (kH (hc _ .normA)))))))))))))))))))))))))))
 refine Kb (kCut ⟨tabSl [(2, .c (.ptr (rid 2 0) 1 0))], obTab 1 [(rid 2 0, ⟨1, 0, .box [.d (.sc (.int .i64 t.state)), .d (.sc (.int .i64 t.id)), .arr (rid 6 0) 1, .d (.sc (.int .i64 t.ftype)), .arr (rid 9 0) 1, .arr (rid 12 0) 1, .arr (rid 19 0) 1, .arr (rid 22 0) 1, .d (.sc (.int .i64 t.turn)), .d (.sc (.int .i64 t.sends)), .d (.sc (.int .i64 t.steps)), .d (.sc (.int .i64 t.code)), .arr (rid 25 0) 1]⟩), (rid 6 0, ⟨1, 0, .arr true (encBB t.fname)⟩), (rid 9 0, ⟨1, 0, .arr true (encBB t.name)⟩), (rid 12 0, ⟨1, 0, .arr true (encBB t.zone)⟩), (rid 19 0, ⟨1, 0, .arr true (encI t.hints)⟩), (rid 22 0, ⟨1, 0, .arr true (encI t.servers)⟩), (rid 25 0, ⟨1, 0, .arr true (encR t.answers)⟩)], []⟩ ?_ (fun x hc => ?_))
 case refine_2 => refine kReg (kLoadP rfl rfl rfl (kStoreP rfl rfl rfl rfl (kDone (hc _ .normA))))
 refine (Kr (Er (ra := [.agg [(.d _), (.d _), (.own true _), (.d _), (.own true _), (.own true _), (.own true _), (.own true _), (.d _), (.d _), (.d _), (.d _), (.own true _)]]) rfl rfl))

end Go.Proofs.YtdfcphdolipapaaGreat.FnFindsFn
