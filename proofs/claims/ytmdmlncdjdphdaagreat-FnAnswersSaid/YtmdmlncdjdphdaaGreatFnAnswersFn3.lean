/- What the functions that FnAnswers reaches compute, one contract each; each with the bounds that it states. -/
import Derived.Test.YtmdmlncdjdphdaaGreatFnAnswersFn2
import Derived.Test.YtmdmlncdjdphdaaGreatProg
import Derived.KernelRfl
set_option maxRecDepth 100000
set_option maxHeartbeats 8000000
set_option linter.unusedVariables false
set_option linter.unusedSimpArgs false
namespace Go.Proofs.YtmdmlncdjdphdaaGreat.FnAnswersFn
open Go Hearth Go.Proofs

def c_impl_Rr_wire : C := (.g (.o 0 1 (.box 1 (.t 0)) (.o 1 2 (.mov (.n 1)) .done)) (.seq (.reg true (.op 0 [] (some 3) none true (.fad (.t 1) 0) (.op 1 [] (some 4) none true (.load (some 1) (.t 3)) (.op 2 [] (some 5) none true (.fad (.t 1) 1) (.op 3 [] (some 6) none true (.load none (.t 5)) (.op 4 [] (some 7) none true (.fad (.t 1) 2) (.op 5 [] (some 8) none true (.load none (.t 7)) (.op 6 [] (some 9) none true (.load (some 7) (.t 1)) (.op 7 [6] (some 10) none false (.call 10 227 [(.t 9)]) (.op 8 [1, 3, 5, 6] (some 11) none false (.call 11 277 [(.t 4), (.t 6), (.i 1), (.t 8), (.t 10)]) (.op 9 [] (some 2) none true (.mov (.t 11)) .done))))))))))) .ret))
theorem dg_impl_Rr_wire : Tryz.f216.body.bind (digC Tryz.prog Tryz.f216.ntmps []) = some c_impl_Rr_wire := by kernel_rfl
theorem rs_impl_Rr_wire : resSlots Tryz.prog Tryz.f216 = some [.s 2] := by kernel_rfl
theorem ok_impl_Rr_wire (r : Rr) (hs : SmallR r) (hk : rrOk r = true) :
    FnOK Tryz.prog 216 [.agg (r.cells.map .d)] (fun ra _ => ra = [.one (.own true (encB (rrB r 1)))]) := by
  refine FnOK.ofK Tryz.func216 (by kernel_rfl) dg_impl_Rr_wire rs_impl_Rr_wire rfl rfl ?_
  delta c_impl_Rr_wire T.o X.i C.g
  have k9 := hs.n
  have k2 := rdata_small hk
  refine Kbc (kBox Y Y Y Y Y (Ka Y (Kdb (kRegD (Kf Y Y (Ke Y Y Y (Kf Y Y (Ke Y Y Y (Kf Y Y (Ke Y Y Y (kMem [(8192, ⟨1, 0, .box [.d _, .d _, .d _, .d _, .d _, .d _, .d _]⟩)] [(1, .c (.ptr 8192 1 0)), (9, .c (.un)), (4, .g [.d _]), (6, .c (.d _)), (8, .c (.d _)), (10, .c (.un)), (11, .c (.un))] [8192, 8192, 8192] ⟨Y, trivial⟩ ⟨Y, Y, Y, Y, Y, Y, Y, trivial⟩ Y (Ke Y Y Y (Kx Y Y (Ku true (ok_impl_Rr_data _ prx) ⟨⟨⟨Y, Y, Y, Y, Y, Y, Y, trivial⟩, leb⟩, trivial⟩ Y Y Y (fun _ => (Ks Y Y (Ku true (ok_impl_recordBytes _ _ _ _ _ prx prx) ⟨⟨⟨Y, trivial⟩, leb⟩, rfl, rfl, rfl, rfl, trivial⟩ Y Y Y (fun _ => (Ka Y (Kd (kH (kMem [(49152, ⟨1, 0, .arr true _⟩)] [(2, .c (.arr 49152 1))] [] ⟨Y, trivial⟩ ⟨Y, trivial⟩ Y (Kr (Er (ra := [.one (.own true _)]) rfl rfl))))))))))))))))))))))))

def c_impl_Msg_wire : C := (.g (.o 0 1 (.box 1 (.t 0)) (.o 1 2 (.mov (.n 1)) .done)) (.g (.o 0 15 (.fad (.t 1) 2) (.o 1 16 (.load none (.t 15)) (.o 2 17 (.bin .shl (.t 16) (.v (.int .u64 11))) (.o 3 18 (.fad (.t 1) 4) (.o 4 19 (.load none (.t 18)) (.o 5 20 (.bin .or (.t 17) (.t 19)) (.o 6 3 (.mov (.t 20)) .done))))))) (.seq (.g (.o 0 21 (.fad (.t 1) 1) (.o 1 22 (.load none (.t 21)) .done)) (.cond (.t 22) (.reg false (.o 0 23 (.mov (.t 3)) (.o 1 24 (.bin .or (.t 23) (.i 32768)) (.o 2 3 (.mov (.t 24)) .done)))) .skip)) (.seq (.g (.o 0 25 (.fad (.t 1) 3) (.o 1 26 (.load none (.t 25)) .done)) (.cond (.t 26) (.reg false (.o 0 27 (.mov (.t 3)) (.o 1 28 (.bin .or (.t 27) (.i 1024)) (.o 2 3 (.mov (.t 28)) .done)))) .skip)) (.g (.o 0 29 (.lit 29 1 [(.v (.int .u8 0))] 0 []) (.o 1 4 (.mov (.t 29)) .done)) (.seq (.g (.o 0 30 (.fad (.t 1) 0) (.o 1 31 (.load none (.t 30)) (.o 2 32 (.mov (.t 3)) (.o 3 33 (.fad (.t 1) 6) (.o 4 34 (.load none (.t 33)) (.o 5 35 (.len (.t 34)) (.o 6 36 (.fad (.t 1) 9) (.o 7 37 (.load none (.t 36)) (.o 8 38 (.len (.t 37)) (.o 9 39 (.bin .add (.t 35) (.t 38)) (.o 10 40 (.fad (.t 1) 7) (.o 11 41 (.load none (.t 40)) (.o 12 42 (.len (.t 41)) (.o 13 43 (.fad (.t 1) 10) (.o 14 44 (.load none (.t 43)) (.o 15 45 (.len (.t 44)) (.o 16 46 (.bin .add (.t 42) (.t 45)) (.o 17 47 (.fad (.t 1) 8) (.o 18 48 (.load none (.t 47)) (.o 19 49 (.len (.t 48)) (.o 20 50 (.lit 50 1 [(.i 0)] 6 [(0, 1, (.t 31)), (1, 1, (.t 32)), (2, 1, (.i 1)), (3, 1, (.t 39)), (4, 1, (.t 46)), (5, 1, (.t 49))]) (.o 21 51 (.len (.t 50)) (.o 22 52 (.mov (.i 0)) .done))))))))))))))))))))))) (.block 0 (.loop (.g (.o 0 53 (.bin .lss (.t 52) (.t 51)) .done) (.seq (.cond (.t 53) .skip (.exit 0)) (.seq (.block 1 (.g (.o 0 54 (.iad 1 (.t 50) (.t 52)) (.o 1 55 (.load none (.t 54)) (.o 2 6 (.mov (.t 55)) .done))) (.reg false (.o 0 56 (.mov (.t 4)) (.o 1 57 (.mov (.t 6)) (.o 2 58 (.call 58 212 [(.t 57)]) (.o 3 59 (.app 59 1 1 (.t 56) (.t 58)) (.o 4 4 (.mov (.t 59)) .done)))))))) (.reg false (.o 0 60 (.bin .add (.t 52) (.i 1)) (.o 1 52 (.mov (.t 60)) .done))))))))) (.seq (.reg true (.op 0 [] (some 61) none true (.mov (.t 4)) (.op 1 [] (some 62) none true (.fad (.t 1) 5) (.op 2 [] (some 63) none true (.load none (.t 62)) (.op 3 [] (some 64) none true (.iad 2 (.t 63) (.i 0)) (.op 4 [] (some 65) none true (.fad (.t 64) 0) (.op 5 [] (some 66) none true (.load (some 1) (.t 65)) (.op 7 [] (some 68) none true (.fad (.t 1) 5) (.op 8 [] (some 69) none true (.load none (.t 68)) (.op 9 [] (some 70) none true (.iad 2 (.t 69) (.i 0)) (.op 10 [] (some 71) none true (.fad (.t 70) 1) (.op 11 [] (some 72) none true (.load none (.t 71)) (.op 6 [5, 2] (some 67) none false (.call 67 214 [(.t 66)]) (.op 12 [11, 8, 5, 2] (some 73) none false (.call 73 212 [(.t 72)]) (.op 13 [11, 8, 5, 2] (some 74) none false (.call 74 212 [(.i 1)]) (.op 14 [5, 2, 11, 8] (some 75) none false (.lit 75 1 [(.n 1)] 4 [(0, 1, (.t 61)), (1, 1, (.t 67)), (2, 1, (.t 73)), (3, 1, (.t 74))]) (.op 15 [5, 2, 11, 8] (some 76) none false (.call 76 213 [(.t 75)]) (.op 16 [] (some 4) none true (.mov (.t 76)) .done)))))))))))))))))) (.seq (.g (.o 0 77 (.fad (.t 1) 9) (.o 1 78 (.load none (.t 77)) (.o 2 79 (.fad (.t 1) 10) (.o 3 80 (.load none (.t 79)) (.o 4 81 (.lit 81 1 [(.n 9)] 2 [(0, 1, (.t 78)), (1, 1, (.t 80))]) (.o 5 82 (.len (.t 81)) (.o 6 83 (.mov (.i 0)) .done))))))) (.block 2 (.loop (.g (.o 0 84 (.bin .lss (.t 83) (.t 82)) .done) (.seq (.cond (.t 84) .skip (.exit 2)) (.seq (.block 3 (.g (.o 0 85 (.iad 1 (.t 81) (.t 83)) (.o 1 86 (.load none (.t 85)) (.o 2 8 (.mov (.t 86)) .done))) (.g (.o 0 87 (.mov (.t 8)) (.o 1 88 (.len (.t 87)) (.o 2 89 (.mov (.i 0)) .done))) (.block 4 (.loop (.g (.o 0 90 (.bin .lss (.t 89) (.t 88)) .done) (.seq (.cond (.t 90) .skip (.exit 4)) (.seq (.block 5 (.g (.o 0 91 (.iad 9 (.t 87) (.t 89)) (.o 1 92 (.load (some 9) (.t 91)) (.o 2 10 (.alloc 10 [(.n 1), (.i 0), (.i 0), (.i 0), (.n 1), (.n 1), (.n 1), (.i 0), (.v (.bool false))]) (.op 3 [] none none false (.store (some 9) (.t 10) (.t 92)) .done)))) (.reg false (.o 0 93 (.mov (.t 4)) (.o 1 94 (.load (some 9) (.t 10)) (.o 2 95 (.call 95 215 [(.t 94)]) (.o 3 96 (.app 96 1 1 (.t 93) (.t 95)) (.o 4 4 (.mov (.t 96)) .done)))))))) (.reg false (.o 0 97 (.bin .add (.t 89) (.i 1)) (.o 1 89 (.mov (.t 97)) .done))))))))))) (.reg false (.o 0 98 (.bin .add (.t 83) (.i 1)) (.o 1 83 (.mov (.t 98)) .done))))))))) (.seq (.g (.o 0 99 (.fad (.t 1) 6) (.o 1 100 (.load none (.t 99)) (.o 2 101 (.fad (.t 1) 7) (.o 3 102 (.load none (.t 101)) (.o 4 103 (.fad (.t 1) 8) (.o 5 104 (.load none (.t 103)) (.o 6 105 (.lit 105 1 [(.n 7)] 3 [(0, 1, (.t 100)), (1, 1, (.t 102)), (2, 1, (.t 104))]) (.o 7 106 (.len (.t 105)) (.o 8 107 (.mov (.i 0)) .done))))))))) (.block 6 (.loop (.g (.o 0 108 (.bin .lss (.t 107) (.t 106)) .done) (.seq (.cond (.t 108) .skip (.exit 6)) (.seq (.block 7 (.g (.o 0 109 (.iad 1 (.t 105) (.t 107)) (.o 1 110 (.load none (.t 109)) (.o 2 12 (.mov (.t 110)) .done))) (.g (.o 0 111 (.mov (.t 12)) (.o 1 112 (.len (.t 111)) (.o 2 113 (.mov (.i 0)) .done))) (.block 8 (.loop (.g (.o 0 114 (.bin .lss (.t 113) (.t 112)) .done) (.seq (.cond (.t 114) .skip (.exit 8)) (.seq (.block 9 (.g (.o 0 115 (.iad 7 (.t 111) (.t 113)) (.o 1 116 (.load (some 7) (.t 115)) (.o 2 14 (.alloc 14 [(.n 1), (.i 0), (.i 0), (.i 0), (.n 1), (.n 1), (.n 1)]) (.op 3 [] none none false (.store (some 7) (.t 14) (.t 116)) .done)))) (.reg false (.o 0 117 (.mov (.t 4)) (.o 1 118 (.load (some 7) (.t 14)) (.o 2 119 (.call 119 216 [(.t 118)]) (.o 3 120 (.app 120 1 1 (.t 117) (.t 119)) (.o 4 4 (.mov (.t 120)) .done)))))))) (.reg false (.o 0 121 (.bin .add (.t 113) (.i 1)) (.o 1 113 (.mov (.t 121)) .done))))))))))) (.reg false (.o 0 122 (.bin .add (.t 107) (.i 1)) (.o 1 107 (.mov (.t 122)) .done))))))))) (.g (.o 0 123 (.mov (.t 4)) (.o 1 2 (.mov (.t 123)) .done)) .ret))))))))))
theorem dg_impl_Msg_wire : Tryz.f125.body.bind (digC Tryz.prog Tryz.f125.ntmps []) = some c_impl_Msg_wire := by kernel_rfl
theorem rs_impl_Msg_wire : resSlots Tryz.prog Tryz.f125 = some [.s 2] := by kernel_rfl
theorem ok_impl_Msg_wire (m : Msg) (hs : SmallM m) (hk : msgMay m = true) :
    FnOK Tryz.prog 125 [.agg (m.cells.map .d)] (fun ra _ => ra = [.one (.own true (encB (msgB m (flagsI m) ((m.an.length : Int) + m.pr.length) ((m.au.length : Int) + m.up.length))))]) := by
  refine FnOK.ofK Tryz.func125 (by kernel_rfl) dg_impl_Msg_wire rs_impl_Msg_wire rfl rfl ?_
  delta c_impl_Msg_wire T.o X.i C.g
  have p := MayP.of hk
  have b1 := hs.q
  have b2 := hs.a
  have b3 := hs.b
  have b4 := hs.c
  have b5 := hs.p
  have b6 := hs.u
  obtain ⟨p1, p2⟩ := p.id
  obtain ⟨p3, p4⟩ := p.cd
  have p5 := p.q1
  have p6 := p.qn
  obtain ⟨p7, p8⟩ := p.qt
  obtain ⟨p9, p10⟩ := p.an
  obtain ⟨p11, p12⟩ := p.au
  obtain ⟨p13, p14⟩ := p.mo
  obtain ⟨p15, p16⟩ := p.pr
  obtain ⟨p17, p18⟩ := p.up
  have hop : m.op = 0 ∨ m.op = 5 := p.op.imp (fun h => h.1) (fun h => h.1)
  refine Kb (kCut ⟨tabSl [(1, .c (.ptr (rid 1 0) 1 0)), (2, .c (.nil 1))], obTab 1 [(rid 1 0, ⟨1, 0, .box (m.cells.map .d)⟩)], []⟩ ?_ (fun x hc => ?_))
  case refine_2 => refine kReg (kBox rfl rfl rfl rfl rfl (kMovC rfl (kDone (hc _ .normA))))
  refine Kb (kCut ⟨tabSl [(1, .c (.ptr (rid 1 0) 1 0)), (2, .c (.nil 1)), (3, .i (orI (m.op * 2048) m.code))], obTab 1 [(rid 1 0, ⟨1, 0, .box (m.cells.map .d)⟩)], []⟩ ?_ (fun x hc => ?_))
  case refine_2 =>
    refine Kc (Kf Y Y (Ke Y Y Y (kShl11 Y Y om ?_)))
    refine Kf Y Y (Ke Y Y Y (Kj Y Y Y (Ka Y (Kd (hc _ .normA)))))
  refine Kb (kCut ⟨tabSl [(1, .c (.ptr (rid 1 0) 1 0)), (2, .c (.nil 1)), (3, .i (if m.reply then orI (orI (m.op * 2048) m.code) 32768 else orI (m.op * 2048) m.code))], obTab 1 [(rid 1 0, ⟨1, 0, .box (m.cells.map .d)⟩)], []⟩ ?_ (fun x hc => ?_))
  case refine_2 =>
    revert hc
    cases hr : m.reply
    · intro hc
      refine Kbc (Kf Y Y (Ke Y Y Y (Kd (kCond Y (fun g0 => (by (simp [*] at g0))) (fun g0 => Kn (hc _ .normA))))))
    · intro hc
      refine Kbc (Kf Y Y (Ke Y Y Y (Kd (kCond Y (fun g0 => Kc (Ka Y (Kj Y Y Y (Ka Y (Kd (hc _ .normA)))))) (fun g0 => (by (simp [*] at g0)))))))
  refine Kb (kCut ⟨tabSl [(1, .c (.ptr (rid 1 0) 1 0)), (2, .c (.nil 1)), (3, .i (flagsI m))], obTab 1 [(rid 1 0, ⟨1, 0, .box (m.cells.map .d)⟩)], []⟩ ?_ (fun x hc => ?_))
  case refine_2 =>
    revert hc
    unfold flagsI
    cases hr : m.auth
    · intro hc
      refine Kbc (Kf Y Y (Ke Y Y Y (Kd (kCond Y (fun g0 => (by (simp [*] at g0))) (fun g0 => Kn (hc _ .normA))))))
    · intro hc
      refine Kbc (Kf Y Y (Ke Y Y Y (Kd (kCond Y (fun g0 => Kc (Ka Y (Kj Y Y Y (Ka Y (Kd (hc _ .normA)))))) (fun g0 => (by (simp [*] at g0)))))))
  generalize flagsI m = F at *
  have hq0 : 0 < m.qs.length := by omega
  have hqd : m.qs.getD 0 ⟨[], 0⟩ = m.qs[0] := by simp [List.getD_eq_getElem?_getD, hq0]
  rw [hqd] at p6 p7 p8
  have hqs := b1.mem _ (List.getElem_mem hq0)
  have hqw := wireN_small p6
  refine Kb (kCut ⟨tabSl [(1, .c (.ptr (rid 1 0) 1 0)), (2, .c (.nil 1)), (3, .i F), (4, .c (.arr (rid 29 0) 1))], obTab 1 [(rid 1 0, ⟨1, 0, .box (m.cells.map .d)⟩), (rid 29 0, ⟨1, 0, .arr true (encB ([]))⟩)], []⟩ ?_ (fun x hc => ?_))
  case refine_2 => refine kReg (kLitG rfl rfl rfl rfl (kMovC rfl (kDone (hc _ .normA))))
  refine Kb (kCut ⟨tabSl [(1, .c (.ptr (rid 1 0) 1 0)), (2, .c (.nil 1)), (4, .c (.arr (rid 5000 0) 1))], obTab 1 [(rid 1 0, ⟨1, 0, .box (m.cells.map .d)⟩), (rid 5000 0, ⟨1, 0, .arr true (encB (w2 m.id ++ w2 F ++ w2 1 ++ w2 ((m.an.length : Int) + m.pr.length) ++ w2 ((m.au.length : Int) + m.up.length) ++ w2 m.mo.length))⟩)], []⟩ ?_ (fun x hc => ?_))
  case refine_2 =>
    refine Kbc (Kf Y Y (Ke Y Y Y (Ka Y (Kf Y Y (Ke Y Y Y (Kq Y Y (Kf Y Y (Ke Y Y Y (Kq Y Y (kAdd Y Y om (Kf Y Y (Ke Y Y Y (Kq Y Y (Kf Y Y (Ke Y Y Y (Kq Y Y (kAdd Y Y om (Kf Y Y (Ke Y Y Y (Kq Y Y (kLitG Y Y Y Y (kLen Y Y Y (Ka Y (Kd (Kt ?_)))))))))))))))))))))))))
    refine kLoop (α := { i : Nat // i ≤ 6 }) (fun y => ⟨tabSl [(1, .c (.ptr (rid 1 0) 1 0)), (2, .c (.nil 1)), (4, .c (.arr (rid 5000 0) 1)), (50, .dv (encI [m.id, F, 1, (m.an.length : Int) + m.pr.length, (m.au.length : Int) + m.up.length, m.mo.length])), (51, .i 6), (52, .i y.1)], obTab 1 [(rid 1 0, ⟨1, 0, .box (m.cells.map .d)⟩), (rid 5000 0, ⟨1, 0, .arr true (encB (([m.id, F, 1, (m.an.length : Int) + m.pr.length, (m.au.length : Int) + m.up.length, (m.mo.length : Int)].take y.1).flatMap w2))⟩)], []⟩) (fun y => 6 - y.1) ⟨0, by simp⟩ (by
      refine Sub.trans (Sub.frz (j := 50) (id := rid 50 0) rfl rfl (by decide)) ?_
      refine Sub.trans (Sub.renSlot 4 (rid 29 0) (rid 5000 0) rfl rfl rfl rfl) ?_
      exact .normA) ?_
    rintro ⟨i, hi⟩
    simp only
    have hl6 : ([m.id, F, 1, (m.an.length : Int) + m.pr.length, (m.au.length : Int) + m.up.length, (m.mo.length : Int)]).length = 6 := rfl
    have hle : (([m.id, F, 1, (m.an.length : Int) + m.pr.length, (m.au.length : Int) + m.up.length, (m.mo.length : Int)].take i).flatMap w2).length ≤ 12 := by
      refine Nat.le_trans (flatMap_le (k := 2) fun x _ => by rw [w2_len]; exact Nat.le_refl _) ?_
      simp only [List.length_take]; omega
    rcases Nat.lt_or_ge i 6 with hlt | hge
    · have hst := flatMap_take w2 [m.id, F, 1, (m.an.length : Int) + m.pr.length, (m.au.length : Int) + m.up.length, (m.mo.length : Int)] i hlt
      refine Kbc (Kj Y Y Y (Kdb (Km Y (fun g0 => Kn (Kb (Kt (Kbc (kIadR Y Y Y prl (Ky Y Y (Ka Y (Kd (Kc (Ka Y (Ka Y (Ku true (ok_impl_two _) ⟨Y, trivial⟩ Y Y Y (fun _ => (kAppR2 Y Y Y Y Y Y Y Y prl (Ka Y (Kd (Kv (Kc (kAdd Y Y om (Ka Y (Kd ?_))))))))))))))))))))) (fun g0 => om))))
      refine kInv ⟨⟨i + 1, hlt⟩, by simp only; omega, ?_⟩
      simp only [hst]
      exact .normA
    · refine Kbc (Kj Y Y Y (Kdb (Km Y (fun g0 => om) (fun g0 => kExit (kExC (kExI (kExB ?_)))))))
      refine hc _ ?_
      rw [show i = 6 by omega, show ([m.id, F, 1, (m.an.length : Int) + m.pr.length, (m.au.length : Int) + m.up.length, (m.mo.length : Int)].take 6).flatMap w2 = w2 m.id ++ w2 F ++ w2 1 ++ w2 ((m.an.length : Int) + m.pr.length) ++ w2 ((m.au.length : Int) + m.up.length) ++ w2 m.mo.length by simp [List.flatMap_cons]]
      exact .normA
  refine Kb (kCut ⟨tabSl [(1, .c (.ptr (rid 1 0) 1 0)), (2, .c (.nil 1)), (4, .c (.arr (rid 76 0) 1))], obTab 1 [(rid 1 0, ⟨1, 0, .box (m.cells.map .d)⟩), (rid 76 0, ⟨1, 0, .arr true (encB (headB m F ((m.an.length : Int) + m.pr.length) ((m.au.length : Int) + m.up.length)))⟩)], []⟩ ?_ (fun x hc => ?_))
  case refine_2 =>
    refine kRegD (Ka Y (Kf Y Y (Ke Y Y Y (kIadR (m := 0) Y Y Y prl (kFadD Y (Ky Y Y (Kf Y Y (Ke Y Y Y (kIadR (m := 0) Y Y Y prl (kFadD Y (Ky Y Y (Kx Y Y (Ku true (ok_impl_Name_wire _ prx) ⟨⟨⟨Y, trivial⟩, leb⟩, trivial⟩ Y Y Y (fun _ => (Ks Y Y (Ku true (ok_impl_two _) ⟨Y, trivial⟩ Y Y Y (fun _ => (Ks Y Y (Ku true (ok_impl_two _) ⟨Y, trivial⟩ Y Y Y (fun _ => (Ks Y Y (kLitD Y Y Y Y (Ks Y Y ?_)))))))))))))))))))))))
    refine Ku true (ok_slices_Concat_Lbyte_byte [w2 m.id ++ w2 F ++ w2 1 ++ w2 ((m.an.length : Int) + m.pr.length) ++ w2 ((m.au.length : Int) + m.up.length) ++ w2 m.mo.length, wireN (m.qs[0]).name, w2 (m.qs[0]).ty, w2 1] (by simp) (by simp only [List.flatten_cons, List.flatten_nil, List.length_append, List.length_nil, w2_len]; omega)) ⟨Y, trivial⟩ Y Y Y (fun _ => ?_)
    refine Ka Y (Kd (kH ?_))
    refine hc _ ?_
    rw [show headB m F ((m.an.length : Int) + m.pr.length) ((m.au.length : Int) + m.up.length) = [w2 m.id ++ w2 F ++ w2 1 ++ w2 ((m.an.length : Int) + m.pr.length) ++ w2 ((m.au.length : Int) + m.up.length) ++ w2 m.mo.length, wireN (m.qs[0]).name, w2 (m.qs[0]).ty, w2 1].flatten by unfold headB; rw [hqd]; simp [List.flatten_cons]]
    exact .normA
  have hH : (headB m F ((m.an.length : Int) + m.pr.length) ((m.au.length : Int) + m.up.length)).length ≤ 200 := by rw [headB_len, hqd]; omega
  generalize hH1 : headB m F ((m.an.length : Int) + m.pr.length) ((m.au.length : Int) + m.up.length) = H at *
  have hWs : ∀ w ∈ ([m.pr, m.up]).flatten, wantOk w = true ∧ SmallW w := fun w hw => by
    simp only [List.flatten_cons, List.flatten_nil, List.append_nil, List.mem_append] at hw
    rcases hw with hw | hw
    · exact ⟨p16 w hw, b5.mem w hw⟩
    · exact ⟨p18 w hw, b6.mem w hw⟩
  have hWn : ([m.pr, m.up]).flatten.length ≤ 24 := by simp; omega
  have hWf := flatMap_le (f := wantB) (l := ([m.pr, m.up]).flatten) (k := 307) fun w hw => wantB_small (hWs w hw).1
  have hWf2 := Nat.le_trans hWf (Nat.mul_le_mul_right _ hWn)
  refine kSub (t := ⟨tabSl [(1, .c (.ptr (rid 1 0) 1 0)), (2, .c (.nil 1)), (4, .c (.arr (rid 5000 0) 1))], obTab 1 [(rid 1 0, ⟨1, 0, .box (m.cells.map .d)⟩), (rid 5000 0, ⟨1, 0, .arr true (encB (H))⟩)], []⟩) ((Sub.renSlot 4 (rid 76 0) (rid 5000 0) rfl rfl rfl rfl).trans .normA) ?_
  refine Kb (kCut ⟨tabSl [(1, .c (.ptr (rid 1 0) 1 0)), (2, .c (.nil 1)), (4, .c (.arr (rid 5000 0) 1))], obTab 1 [(rid 1 0, ⟨1, 0, .box (m.cells.map .d)⟩), (rid 5000 0, ⟨1, 0, .arr true (encB (H ++ ([m.pr, m.up].flatten).flatMap wantB))⟩)], []⟩ ?_ (fun x hc => ?_))
  case refine_2 =>
    have hlen : ∀ i (h : i < 2), (([m.pr, m.up])[i]).length ≤ 12 := fun i h => by
      rcases i with _ | _ | i
      · exact p15
      · exact p17
      · omega
    refine Kbc (Kf Y Y (Ke Y Y Y (Kf Y Y (Ke Y Y Y (kLitG Y Y Y Y (kLen Y Y Y (Ka Y (Kd (Kt ?_)))))))))
    refine kLoop (α := { i : Nat // i ≤ 2 }) (fun y => ⟨tabSl [(1, .c (.ptr (rid 1 0) 1 0)), (2, .c (.nil 1)), (4, .c (.arr (rid 5000 0) 1)), (81, .dv (.sl 1 ([m.pr, m.up].map fun l => [encW l]))), (82, .i 2), (83, .i y.1)], obTab 1 [(rid 1 0, ⟨1, 0, .box (m.cells.map .d)⟩), (rid 5000 0, ⟨1, 0, .arr true (encB (H ++ (([m.pr, m.up].take y.1).flatten).flatMap wantB))⟩)], []⟩) (fun y => 2 - y.1) ⟨0, by simp⟩ (by
      refine Sub.trans (Sub.frz (j := 81) (id := rid 81 0) rfl rfl (by decide)) ?_
      simp only [List.take_zero, List.flatten_nil, List.flatMap_nil, List.append_nil]
      exact .normA) ?_
    rintro ⟨i, hi⟩
    simp only
    have hlL : ([m.pr, m.up] : List (List Want)).length = 2 := rfl
    have hle0 := flat_inner0 wantB [m.pr, m.up] i
    have hLi : (H ++ (([m.pr, m.up].take i).flatten).flatMap wantB).length ≤ 10000 := by rw [List.length_append]; omega
    rcases Nat.lt_or_ge i 2 with hlt | hge
    · have hst := flat_step wantB [m.pr, m.up] i hlt
      have hmem : ∀ x ∈ [m.pr, m.up][i], x ∈ ([m.pr, m.up]).flatten := fun x hx => List.mem_flatten.2 ⟨_, List.getElem_mem hlt, hx⟩
      have hin := fun j => flat_inner wantB [m.pr, m.up] i j hlt
      have hll : ([m.pr, m.up][i]).length ≤ 12 := hlen i hlt
      refine Kbc (Kj Y Y Y (Kdb (Km Y (fun g0 => Kn (Kb (Kt (Kbc (kIadR Y Y Y prl (Ky Y Y (Ka Y (Kdb (Kc (Ka Y (Kq Y Y (Ka Y (Kd (Kt ?_)))))))))))))) (fun g0 => om))))
      refine kLoop (α := { j : Nat // j ≤ ([m.pr, m.up][i]).length }) (fun y => ⟨tabSl [(1, .c (.ptr (rid 1 0) 1 0)), (2, .c (.nil 1)), (4, .c (.arr (rid 5000 0) 1)), (81, .dv (.sl 1 ([m.pr, m.up].map fun l => [encW l]))), (82, .i 2), (83, .i i), (87, .dv (encW [m.pr, m.up][i])), (88, .i ([m.pr, m.up][i]).length), (89, .i y.1)], obTab 1 [(rid 1 0, ⟨1, 0, .box (m.cells.map .d)⟩), (rid 5000 0, ⟨1, 0, .arr true (encB (H ++ ((([m.pr, m.up].take i).flatten).flatMap wantB ++ ([m.pr, m.up][i].take y.1).flatMap wantB)))⟩)], []⟩) (fun y => ([m.pr, m.up][i]).length - y.1) ⟨0, by simp⟩ (by
        simp only [List.take_zero, List.flatMap_nil, List.append_nil]
        exact .normA) ?_
      rintro ⟨j, hj⟩
      simp only
      have hin := hin j
      have hLj : (H ++ ((([m.pr, m.up].take i).flatten).flatMap wantB ++ ([m.pr, m.up][i].take j).flatMap wantB)).length ≤ 10000 := by rw [List.length_append]; omega
      rcases Nat.lt_or_ge j ([m.pr, m.up][i]).length with hlt2 | hge2
      · have hw := hWs _ (hmem _ (List.getElem_mem hlt2))
        obtain ⟨hw1, hw2⟩ := hw
        have hwb := wantB_small hw1
        have hst2 := flatMap_take wantB [m.pr, m.up][i] j hlt2
        refine Kbc (Kj Y Y Y (Kdb (Km Y (fun g0 => Kn (Kb (Kt (Kbc (kIadR Y Y Y prl (Ky Y Y (kAlloc Y Y (Ko Y Y Y Y (Kd (Kc (Ka Y (Ke Y Y Y (Ku true (ok_impl_Want_wire _ prx prx) ⟨⟨⟨Y, Y, Y, Y, Y, Y, Y, Y, Y, trivial⟩, leb⟩, trivial⟩ Y Y Y (fun _ => (kAppR Y Y Y (src_ownB rfl) rfl rfl rfl rfl prl (Ka Y (Kd (Kv (Kc (kAdd Y Y om (Ka Y (Kd ?_)))))))))))))))))))))) (fun g0 => om))))
        refine kInv ⟨⟨j + 1, hlt2⟩, by simp only; omega, ?_⟩
        simp only [hst2, ← List.append_assoc]
        exact .normA
      · refine Kbc (Kj Y Y Y (Kdb (Km Y (fun g0 => om) (fun g0 => kExit (kExC (kExI (kExB (Kv (Kc (kAdd Y Y om (Ka Y (Kd ?_))))))))))))
        refine kInv ⟨⟨i + 1, hlt⟩, by simp only; omega, ?_⟩
        rw [hst, show j = ([m.pr, m.up][i]).length by omega, List.take_length]
        exact .normA
    · refine Kbc (Kj Y Y Y (Kdb (Km Y (fun g0 => om) (fun g0 => kExit (kExC (kExI (kExB ?_)))))))
      refine hc _ ?_
      rw [show i = 2 by omega]
      exact .normA
  have hHl : (H ++ ([m.pr, m.up].flatten).flatMap wantB).length ≤ 10000 := by rw [List.length_append]; omega
  generalize hH2 : H ++ ([m.pr, m.up].flatten).flatMap wantB = H2 at *
  have hRs : ∀ r ∈ ([m.an, m.au, m.mo]).flatten, rrOk r = true ∧ SmallR r := fun r hr => by
    simp only [List.flatten_cons, List.flatten_nil, List.append_nil, List.mem_append] at hr
    rcases hr with hr | hr | hr
    · exact ⟨p10 r hr, b2.mem r hr⟩
    · exact ⟨p12 r hr, b3.mem r hr⟩
    · exact ⟨p14 r hr, b4.mem r hr⟩
  have hRn : ([m.an, m.au, m.mo]).flatten.length ≤ 36 := by simp; omega
  have hRf := flatMap_le (f := fun r => rrB r 1) (l := ([m.an, m.au, m.mo]).flatten) (k := 307) fun r hr => rrB_small (hRs r hr).1 1
  have hRf2 := Nat.le_trans hRf (Nat.mul_le_mul_right _ hRn)
  refine Kb (kCut ⟨tabSl [(1, .c (.ptr (rid 1 0) 1 0)), (2, .c (.nil 1)), (4, .c (.arr (rid 5000 0) 1))], obTab 1 [(rid 1 0, ⟨1, 0, .box (m.cells.map .d)⟩), (rid 5000 0, ⟨1, 0, .arr true (encB (H2 ++ ([m.an, m.au, m.mo].flatten).flatMap fun r => rrB r 1))⟩)], []⟩ ?_ (fun x hc => ?_))
  case refine_2 =>
    have hlen : ∀ i (h : i < 3), (([m.an, m.au, m.mo])[i]).length ≤ 12 := fun i h => by
      rcases i with _ | _ | _ | i
      · exact p9
      · exact p11
      · exact p13
      · omega
    refine Kbc (Kf Y Y (Ke Y Y Y (Kf Y Y (Ke Y Y Y (Kf Y Y (Ke Y Y Y (kLitG Y Y Y Y (kLen Y Y Y (Ka Y (Kd (Kt ?_)))))))))))
    refine kLoop (α := { i : Nat // i ≤ 3 }) (fun y => ⟨tabSl [(1, .c (.ptr (rid 1 0) 1 0)), (2, .c (.nil 1)), (4, .c (.arr (rid 5000 0) 1)), (105, .dv (.sl 1 ([m.an, m.au, m.mo].map fun l => [encR l]))), (106, .i 3), (107, .i y.1)], obTab 1 [(rid 1 0, ⟨1, 0, .box (m.cells.map .d)⟩), (rid 5000 0, ⟨1, 0, .arr true (encB (H2 ++ (([m.an, m.au, m.mo].take y.1).flatten).flatMap (fun r => rrB r 1)))⟩)], []⟩) (fun y => 3 - y.1) ⟨0, by simp⟩ (by
      refine Sub.trans (Sub.frz (j := 105) (id := rid 105 0) rfl rfl (by decide)) ?_
      simp only [List.take_zero, List.flatten_nil, List.flatMap_nil, List.append_nil]
      exact .normA) ?_
    rintro ⟨i, hi⟩
    simp only
    have hlL : ([m.an, m.au, m.mo] : List (List Rr)).length = 3 := rfl
    have hle0 := flat_inner0 (fun r => rrB r 1) [m.an, m.au, m.mo] i
    have hLi : (H2 ++ (([m.an, m.au, m.mo].take i).flatten).flatMap (fun r => rrB r 1)).length ≤ 30000 := by rw [List.length_append]; omega
    rcases Nat.lt_or_ge i 3 with hlt | hge
    · have hst := flat_step (fun r => rrB r 1) [m.an, m.au, m.mo] i hlt
      have hmem : ∀ x ∈ [m.an, m.au, m.mo][i], x ∈ ([m.an, m.au, m.mo]).flatten := fun x hx => List.mem_flatten.2 ⟨_, List.getElem_mem hlt, hx⟩
      have hin := fun j => flat_inner (fun r => rrB r 1) [m.an, m.au, m.mo] i j hlt
      have hll : ([m.an, m.au, m.mo][i]).length ≤ 12 := hlen i hlt
      refine Kbc (Kj Y Y Y (Kdb (Km Y (fun g0 => Kn (Kb (Kt (Kbc (kIadR Y Y Y prl (Ky Y Y (Ka Y (Kdb (Kc (Ka Y (Kq Y Y (Ka Y (Kd (Kt ?_)))))))))))))) (fun g0 => om))))
      refine kLoop (α := { j : Nat // j ≤ ([m.an, m.au, m.mo][i]).length }) (fun y => ⟨tabSl [(1, .c (.ptr (rid 1 0) 1 0)), (2, .c (.nil 1)), (4, .c (.arr (rid 5000 0) 1)), (105, .dv (.sl 1 ([m.an, m.au, m.mo].map fun l => [encR l]))), (106, .i 3), (107, .i i), (111, .dv (encR [m.an, m.au, m.mo][i])), (112, .i ([m.an, m.au, m.mo][i]).length), (113, .i y.1)], obTab 1 [(rid 1 0, ⟨1, 0, .box (m.cells.map .d)⟩), (rid 5000 0, ⟨1, 0, .arr true (encB (H2 ++ ((([m.an, m.au, m.mo].take i).flatten).flatMap (fun r => rrB r 1) ++ ([m.an, m.au, m.mo][i].take y.1).flatMap (fun r => rrB r 1))))⟩)], []⟩) (fun y => ([m.an, m.au, m.mo][i]).length - y.1) ⟨0, by simp⟩ (by
        simp only [List.take_zero, List.flatMap_nil, List.append_nil]
        exact .normA) ?_
      rintro ⟨j, hj⟩
      simp only
      have hin := hin j
      have hLj : (H2 ++ ((([m.an, m.au, m.mo].take i).flatten).flatMap (fun r => rrB r 1) ++ ([m.an, m.au, m.mo][i].take j).flatMap (fun r => rrB r 1))).length ≤ 30000 := by rw [List.length_append]; omega
      rcases Nat.lt_or_ge j ([m.an, m.au, m.mo][i]).length with hlt2 | hge2
      · have hw := hRs _ (hmem _ (List.getElem_mem hlt2))
        obtain ⟨hw1, hw2⟩ := hw
        have hwb := rrB_small hw1 1
        have hst2 := flatMap_take (fun r => rrB r 1) [m.an, m.au, m.mo][i] j hlt2
        refine Kbc (Kj Y Y Y (Kdb (Km Y (fun g0 => Kn (Kb (Kt (Kbc (kIadR Y Y Y prl (Ky Y Y (kAlloc Y Y (Ko Y Y Y Y (Kd (Kc (Ka Y (Ke Y Y Y (Ku true (ok_impl_Rr_wire _ prx prx) ⟨⟨⟨Y, Y, Y, Y, Y, Y, Y, trivial⟩, leb⟩, trivial⟩ Y Y Y (fun _ => (kAppR Y Y Y (src_ownB rfl) rfl rfl rfl rfl prl (Ka Y (Kd (Kv (Kc (kAdd Y Y om (Ka Y (Kd ?_)))))))))))))))))))))) (fun g0 => om))))
        refine kInv ⟨⟨j + 1, hlt2⟩, by simp only; omega, ?_⟩
        simp only [hst2, ← List.append_assoc]
        exact .normA
      · refine Kbc (Kj Y Y Y (Kdb (Km Y (fun g0 => om) (fun g0 => kExit (kExC (kExI (kExB (Kv (Kc (kAdd Y Y om (Ka Y (Kd ?_))))))))))))
        refine kInv ⟨⟨i + 1, hlt⟩, by simp only; omega, ?_⟩
        rw [hst, show j = ([m.an, m.au, m.mo][i]).length by omega, List.take_length]
        exact .normA
    · refine Kbc (Kj Y Y Y (Kdb (Km Y (fun g0 => om) (fun g0 => kExit (kExC (kExI (kExB ?_)))))))
      refine hc _ ?_
      rw [show i = 3 by omega]
      exact .normA
  refine Kbc (Ka Y (Ka Y (Kd (Kr (Er (ra := [.one (.own true _)]) rfl ?_)))))
  refine congrArg (fun z => [RA.one (RV.own true (encB z))]) ?_
  unfold msgB
  rw [hH1, ← hH2, flat2, flat3]
  simp only [List.append_assoc]

def c_impl_MsgOk : C := (.g (.o 0 1 (.box 1 (.t 0)) (.o 1 2 (.mov (.v (.bool false))) .done)) (.g (.o 0 3 (.load (some 11) (.t 1)) (.o 1 4 (.call 4 124 [(.t 3)]) (.o 2 5 (.mov (.t 4)) (.op 3 [] (some 6) (some (5, true)) false (.load (some 11) (.t 1)) (.op 4 [] (some 7) (some (5, true)) false (.call 7 125 [(.t 6)]) (.op 5 [] (some 8) (some (5, true)) false (.len (.t 7)) (.op 6 [] (some 9) (some (5, true)) false (.bin .leq (.t 8) (.i 512)) (.o 7 10 (.pick (.t 5) (.t 9) (.v (.bool false))) (.o 8 2 (.mov (.t 10)) .done))))))))) .ret))
theorem dg_impl_MsgOk : Tryz.f44.body.bind (digC Tryz.prog Tryz.f44.ntmps []) = some c_impl_MsgOk := by kernel_rfl
theorem rs_impl_MsgOk : resSlots Tryz.prog Tryz.f44 = some [.s 2] := by kernel_rfl
theorem ok_impl_MsgOk (m : Msg) (hs : SmallM m) :
    FnOK Tryz.prog 44 [.agg (m.cells.map .d)] (fun ra _ => ra = [.one (.d (.sc (.bool (msgOk m))))]) := by
  refine FnOK.ofK Tryz.func44 (by kernel_rfl) dg_impl_MsgOk rs_impl_MsgOk rfl rfl ?_
  delta c_impl_MsgOk T.o X.i C.g
  cases hk : msgMay m
  · refine Kbc (kBox Y Y Y Y Y (Ka Y (Kdb (Kc (Ke Y Y Y (Kp (ok_impl_Msg_shaped _ prx) ⟨⟨⟨Y, Y, Y, Y, Y, Y, Y, Y, Y, Y, Y, trivial⟩, leb⟩, trivial⟩ Y Y Y Y Y (Ka Y (kGS Y (fun g0 => (by (simp [*] at g0))) (fun g0 => Kg Y (Kg Y (Kg Y (Kg Y (Kl Y (Ka Y (Ka Y (Kd (Kr (Er (ra := [.one (.d _)]) rfl ?_))))))))))))))))))
    rw [show msgOk m = false by unfold msgOk; rw [hk]; rfl]
  · refine Kbc (kBox Y Y Y Y Y (Ka Y (Kdb (Kc (Ke Y Y Y (Kp (ok_impl_Msg_shaped _ prx) ⟨⟨⟨Y, Y, Y, Y, Y, Y, Y, Y, Y, Y, Y, trivial⟩, leb⟩, trivial⟩ Y Y Y Y Y (Ka Y (kGS Y (fun g0 => Ki Y (Ke Y Y Y (Ki Y (Ku true (ok_impl_Msg_wire _ prx prx) ⟨⟨⟨Y, Y, Y, Y, Y, Y, Y, Y, Y, Y, Y, trivial⟩, leb⟩, trivial⟩ Y Y Y (fun _ => (kMem [(32768, ⟨1, 0, .arr true _⟩)] [(7, .c (.arr 32768 1)), (8, .c (.un)), (5, .c (.d _)), (9, .c (.un)), (10, .c (.un))] [] ⟨Y, trivial⟩ ⟨Y, Y, Y, Y, Y, trivial⟩ Y (Ki Y (Kq Y Y (Ki Y (Kj Y Y Y (Kk Y (Ka Y (Ka Y (Kd (Kr (Er (ra := [.one (.d _)]) rfl ?_)))))))))))))))) (fun g0 => (by (simp [*] at g0)))))))))))
    rw [msgB_len]
    rw [show msgOk m = decide (msgLen m ≤ 512) by unfold msgOk; rw [hk]; rfl]
    refine congrArg (fun z : Bool => [RA.one (RV.d (DV.sc (Value.bool z)))]) ?_
    rw [Bool.eq_iff_iff]
    simp
    omega

def c_impl_isQuery : C := (.g (.o 0 1 (.box 1 (.t 0)) (.o 1 2 (.mov (.v (.bool false))) .done)) (.g (.o 0 3 (.load (some 11) (.t 1)) (.o 1 4 (.call 4 44 [(.t 3)]) (.o 2 5 (.mov (.t 4)) (.op 3 [] (some 6) (some (5, true)) false (.fad (.t 1) 2) (.op 4 [] (some 7) (some (5, true)) false (.load none (.t 6)) (.op 5 [] (some 8) (some (5, true)) false (.bin .eql (.t 7) (.i 0)) (.o 6 9 (.pick (.t 5) (.t 8) (.v (.bool false))) (.o 7 10 (.mov (.t 9)) (.op 8 [] (some 11) (some (10, true)) false (.fad (.t 1) 1) (.op 9 [] (some 12) (some (10, true)) false (.load none (.t 11)) (.op 10 [] (some 13) (some (10, true)) false (.un .not (.t 12)) (.o 11 14 (.pick (.t 10) (.t 13) (.v (.bool false))) (.o 12 2 (.mov (.t 14)) .done))))))))))))) .ret))
theorem dg_impl_isQuery : Tryz.f119.body.bind (digC Tryz.prog Tryz.f119.ntmps []) = some c_impl_isQuery := by kernel_rfl
theorem rs_impl_isQuery : resSlots Tryz.prog Tryz.f119 = some [.s 2] := by kernel_rfl
theorem ok_impl_isQuery (m : Msg) (hs : SmallM m) :
    FnOK Tryz.prog 119 [.agg (m.cells.map .d)] (fun ra _ => ra = [.one (.d (.sc (.bool (msgOk m && m.op == 0 && !m.reply))))]) := by
  refine FnOK.ofK Tryz.func119 (by kernel_rfl) dg_impl_isQuery rs_impl_isQuery rfl rfl ?_
  delta c_impl_isQuery T.o X.i C.g
  refine Kbc (kBox Y Y Y Y Y (Ka Y (Kdb (Kc (Ke Y Y Y (Kp (ok_impl_MsgOk _ prx) ⟨⟨⟨Y, Y, Y, Y, Y, Y, Y, Y, Y, Y, Y, trivial⟩, leb⟩, trivial⟩ Y Y Y Y Y (Ka Y (kGS Y (fun g0 => Ki Y (Kf Y Y (Ki Y (Ke Y Y Y (Ki Y (Kj Y Y Y (kMem [(8192, ⟨1, 0, .box [.d _, .d _, .d _, .d _, .d _, .d _, .d _, .d _, .d _, .d _, .d _]⟩)] [(5, .c (.d _)), (8, .c (.d _)), (9, .c (.un)), (1, .c (.ptr 8192 1 0)), (11, .c (.un)), (12, .c (.un)), (10, .c (.un)), (13, .c (.un)), (14, .c (.un))] [] ⟨Y, trivial⟩ ⟨Y, Y, Y, Y, Y, Y, Y, Y, Y, trivial⟩ Y (Kk Y (Ka Y (Ka Y (kGP Y (fun g1 => Ki Y (Kf Y Y (Ki Y (Ke Y Y Y (Ki Y (Kw Y Y (Kk Y (Ka Y (Ka Y (Kd (Kr (Er (ra := [.one (.d _)]) rfl ?_)))))))))))) (fun g1 => Kg Y (Kg Y (Kg Y (Kl Y (Ka Y (Ka Y (Kd (Kr (Er (ra := [.one (.d _)]) rfl ?_)))))))))))))))))))) (fun g0 => Kg Y (Kg Y (Kg Y (Kl Y (Ka Y (kMem [(8192, ⟨1, 0, .box [.d _, .d _, .d _, .d _, .d _, .d _, .d _, .d _, .d _, .d _, .d _]⟩)] [(9, .c (.d _)), (1, .c (.ptr 8192 1 0)), (11, .c (.un)), (12, .c (.un)), (10, .c (.un)), (13, .c (.un)), (14, .c (.un))] [] ⟨Y, trivial⟩ ⟨Y, Y, Y, Y, Y, Y, Y, trivial⟩ Y (Ka Y (Kg Y (Kg Y (Kg Y (Kl Y (Ka Y (Ka Y (Kd (Kr (Er (ra := [.one (.d _)]) rfl ?_))))))))))))))))))))))))
  all_goals (refine congrArg (fun z : Bool => [RA.one (RV.d (DV.sc (Value.bool z)))]) ?_; rw [Bool.eq_iff_iff]; simp_all)

def c_bytes_Clone : C := (.g (.o 0 2 (.mov (.n 1)) .done) (.seq (.g (.o 0 3 (.mov (.t 0)) (.o 1 4 (.eqn false (.t 3)) .done)) (.cond (.t 4) (.g (.o 0 2 (.mov (.n 1)) .done) .ret) .skip)) (.g (.o 0 5 (.lit 5 1 [(.v (.int .u8 0))] 0 []) (.o 1 6 (.mov (.t 0)) (.o 2 7 (.app 7 1 1 (.t 5) (.t 6)) (.o 3 2 (.mov (.t 7)) .done)))) .ret)))
theorem dg_bytes_Clone : Tryz.f233.body.bind (digC Tryz.prog Tryz.f233.ntmps []) = some c_bytes_Clone := by kernel_rfl
theorem rs_bytes_Clone : resSlots Tryz.prog Tryz.f233 = some [.s 2] := by kernel_rfl
theorem ok_bytes_Clone (b : List UInt8) (hb : b.length ≤ 140737488355328) :
    FnOK Tryz.prog 233 [.one (.d (encB b))] (fun ra _ => ra = [.one (.own true (encB b))]) := by
  refine FnOK.ofK Tryz.func233 (by kernel_rfl) dg_bytes_Clone rs_bytes_Clone rfl rfl ?_
  delta c_bytes_Clone T.o X.i C.g
  refine Kbc (Ka Y (Kd ?_))
  refine Kb (Kbc (Ka Y (kEqn Y Y Y fun n hn => Kd ?_)))
  refine kCond Y (fun h => ?_) (fun h => ?_)
  · refine Kbc (Ka Y (Kd (Kr ?_)))
    refine endRet (ra := [.one (.own true (.sl 1 []))]) rfl ⟨⟨rfl, trivial⟩, nodupB_sound rfl, trivial, trivial⟩ ?_
    have : b = [] := by
      rw [len_encB] at hn
      cases b with
      | nil => rfl
      | cons x l => have := hn (by simp); simp [this] at h
    rw [this]; rfl
  · refine Kn (Kbc ?_)
    refine kLit Y Y Y Y (Ka Y ?_)
    refine kApp (cy := .d (encB b)) rfl rfl rfl (src_encB _ b) rfl rfl ⟨rfl, rfl, Nat.zero_lt_one⟩ Y ?_ (Ka Y (Kd (Kr ?_)))
    · show ((DV.sl 1 (chunk 1 0 [])).len + (encB b).len) * 1 ≤ _ ∧ _
      rw [len_encB]; simp [DV.len, chunk]; omega
    refine endRet (ra := [.one (.own true _)]) rfl ⟨⟨⟨⟨_, rfl, fun _ => rfl⟩, .inl (Nat.zero_lt_succ _)⟩, trivial⟩, nodupB_sound rfl, trivial, trivial⟩ ?_
    exact congrArg (fun x => [RA.one (RV.own true x)]) (app_nil_encB b)

def c_impl_Name_copied : C := (.g (.o 0 1 (.box 1 (.t 0)) (.o 1 2 (.alloc 2 [(.n 1)]) .done)) (.g (.o 0 6 (.build [(.n 1)] []) (.o 1 3 (.alloc 3 [(.n 1)]) (.op 2 [] none none false (.store (some 1) (.t 3) (.t 6)) .done))) (.seq (.g (.o 0 7 (.fad (.t 1) 0) (.o 1 8 (.load none (.t 7)) (.o 2 9 (.len (.t 8)) (.o 3 10 (.mov (.i 0)) .done)))) (.block 0 (.loop (.g (.o 0 11 (.bin .lss (.t 10) (.t 9)) .done) (.seq (.cond (.t 11) .skip (.exit 0)) (.seq (.block 1 (.g (.o 0 12 (.iad 1 (.t 8) (.t 10)) (.o 1 13 (.load none (.t 12)) (.o 2 5 (.mov (.t 13)) .done))) (.reg true (.op 0 [] (some 14) none true (.fad (.t 3) 0) (.op 1 [] (some 15) none true (.load none (.t 14)) (.op 2 [] (some 16) none true (.mov (.t 5)) (.o 3 17 (.call 17 233 [(.t 16)]) (.o 4 18 (.lit 18 1 [(.n 1)] 1 [(0, 1, (.t 17))]) (.op 5 [1] (some 19) none false (.app 19 1 24 (.t 15) (.t 18)) (.op 6 [] (some 20) none true (.fad (.t 3) 0) (.op 7 [1] none none false (.store none (.t 20) (.t 19)) .done))))))))))) (.reg false (.o 0 21 (.bin .add (.t 10) (.i 1)) (.o 1 10 (.mov (.t 21)) .done))))))))) (.g (.o 0 22 (.load (some 1) (.t 3)) (.op 1 [] none none false (.store (some 1) (.t 2) (.t 22)) .done)) .ret))))
theorem dg_impl_Name_copied : Tryz.f151.body.bind (digC Tryz.prog Tryz.f151.ntmps []) = some c_impl_Name_copied := by kernel_rfl
theorem rs_impl_Name_copied : resSlots Tryz.prog Tryz.f151 = some [.m 2 (some 1)] := by kernel_rfl
theorem ok_impl_Name_copied (a : List (List UInt8)) (ha : a.length ≤ 4194304) (hb : ∀ b ∈ a, b.length ≤ 4194304) :
    FnOK Tryz.prog 151 [.agg [.d (encBB a)]] (fun ra _ => ra = [.agg [.own true (encBB a)]]) := by
  refine FnOK.ofK Tryz.func151 (by kernel_rfl) dg_impl_Name_copied rs_impl_Name_copied rfl rfl ?_
  delta c_impl_Name_copied T.o X.i C.g
  refine Kbc (kBox Y Y Y Y Y (kAlloc Y Y (Kd ?_)))
  refine Kbc (kBuild Y (kAlloc Y Y (Ko Y Y Y Y (Kd ?_))))
  refine Kb (Kbc (Kf Y Y (Ke Y Y Y (kLen Y Y Y (Ka Y (Kd (Kt ?_)))))))
  rw [len_encBB]
  refine kSub (Sub.nilBox (id := rid 3 0) (id2 := rid 5000 0) (j := 0) rfl rfl rfl (by decide) (by decide)) ?_
  refine kLoop (α := { i : Nat // i ≤ a.length })
    (fun y => ⟨tabSl [(1, .c (.ptr (rid 1 0) 1 0)), (2, .c (.ptr (rid 2 0) 1 0)), (3, .c (.ptr (rid 3 0) 1 0)), (8, .dv (encBB a)), (9, .i a.length), (10, .i y.1)],
      obTab 1 [(rid 1 0, ⟨1, 0, .box [.d (encBB a)]⟩), (rid 2 0, ⟨1, 0, .box [.nil 1]⟩), (rid 3 0, ⟨1, 0, .box [.arr (rid 5000 0) 1]⟩), (rid 5000 0, ⟨1, 0, .arr true (encBB (a.take y.1))⟩)], []⟩) (fun y => a.length - y.1) ⟨0, by simp⟩
    (.norm ?_ ?_) ?_
  · repeat' first | exact trivial | exact rfl | exact .inl rfl | refine ⟨_, rfl, ?_⟩ | refine ⟨?_, ?_⟩ | fail
  · repeat' first | exact trivial | exact rfl | exact .inl rfl | refine ⟨_, rfl, ?_⟩ | refine ⟨?_, ?_⟩ | fail
  rintro ⟨i, hi⟩
  simp only at hi ⊢
  refine Kbc (Kj Y Y Y (Kdb ?_))
  refine kCond Y (fun h1 => ?_) (fun h1 => ?_)
  · have hlt : i < a.length := by simp at h1; omega
    refine Kn (Kb (Kt (Kbc ?_)))
    refine kIadD Y Y Y Y ?_ ?_
    · rw [len_encBB]; omega
    rw [show (encBB a).row (i : Int).toNat = [encB a[i]] from row_encBB a i hlt]
    refine Ky Y Y (Ka Y (Kd (kRegD (Kf Y Y (Ke Y Y Y (Ka Y ?_))))))
    refine Ku false (ok_bytes_Clone a[i] (Nat.le_trans (hb _ (List.getElem_mem hlt)) om)) ⟨Y, trivial⟩ rfl rfl rfl fun os => ?_
    refine kLit Y Y Y Y (Ks Y Y ?_)
    refine kApp Y Y Y Y Y Y ⟨rfl, rfl, Nat.zero_lt_one⟩ Y ?_ ?_
    · show ((encBB (a.take i)).len + (DV.sl 1 [[encB a[i]]]).len) * 24 ≤ _ ∧ (encBB (a.take i)).len + (DV.sl 1 [[encB a[i]]]).len ≤ _
      rw [len_encBB, List.length_take]; simp [DV.len, DV.rows]; omega
    refine Kf Y Y (Ks Y Y (Ko Y Y Y Y (Kd (kH (Kv (Kc (kAdd Y Y om (Ka Y (Kd ?_)))))))))
    refine kInv ⟨⟨i + 1, hlt⟩, by simp only; omega, .norm ?_ ?_⟩
    · repeat' first | exact trivial | exact rfl | exact .inl rfl | refine ⟨_, rfl, ?_⟩ | refine ⟨?_, ?_⟩ | fail
    · repeat' first | exact trivial | exact rfl | exact .inl rfl | refine ⟨_, rfl, ?_⟩ | refine ⟨?_, ?_⟩ | fail
      rw [← List.take_append_getElem hlt, ← app_encBB]
      rfl
  · refine kExit (kExC (kExI (kExB (Kbc (Ke Y Y Y (Ko Y Y Y Y (Kd ?_)))))))
    have hge : i = a.length := by simp at h1; omega
    subst hge
    refine Kr (endRet (ra := [.agg [.own true _]]) rfl ⟨⟨⟨⟨⟨⟨_, rfl, fun _ => rfl⟩, .inl Nat.zero_lt_one⟩, trivial⟩, leb⟩, trivial⟩, nodupB_sound rfl, ⟨trivial, trivial⟩, trivial⟩ ?_)
    rw [List.take_length]

def c_impl_Msg_reply : C := (.g (.o 0 2 (.box 2 (.t 0)) (.o 1 4 (.alloc 4 [(.i 0), (.v (.bool false)), (.i 0), (.v (.bool false)), (.i 0), (.n 2), (.n 7), (.n 7), (.n 7), (.n 9), (.n 9)]) .done)) (.seq (.reg true (.op 0 [] (some 5) none true (.fad (.t 2) 0) (.op 1 [] (some 6) none true (.load none (.t 5)) (.op 2 [] (some 7) none true (.fad (.t 2) 2) (.op 3 [] (some 8) none true (.load none (.t 7)) (.op 4 [] (some 9) none true (.mov (.t 1)) (.op 5 [] (some 10) none true (.fad (.t 2) 5) (.op 6 [] (some 11) none true (.load none (.t 10)) (.op 7 [] (some 12) none true (.iad 2 (.t 11) (.i 0)) (.op 8 [] (some 13) none true (.fad (.t 12) 0) (.op 9 [] (some 14) none true (.load (some 1) (.t 13)) (.op 11 [] (some 16) none true (.fad (.t 2) 5) (.op 12 [] (some 17) none true (.load none (.t 16)) (.op 13 [] (some 18) none true (.iad 2 (.t 17) (.i 0)) (.op 14 [] (some 19) none true (.fad (.t 18) 1) (.op 15 [] (some 20) none true (.load none (.t 19)) (.op 10 [9, 6] (some 15) none false (.call 15 151 [(.t 14)]) (.op 16 [] (some 21) none true (.build [(.n 1), (.i 0)] [(0, 1, (.t 15)), (1, 1, (.t 20))]) (.op 17 [9, 6, 15, 12] (some 22) none false (.lit 22 2 [(.n 1), (.i 0)] 1 [(0, 2, (.t 21))]) (.op 18 [] (some 23) none true (.build [(.i 0), (.v (.bool false)), (.i 0), (.v (.bool false)), (.i 0), (.n 2), (.n 7), (.n 7), (.n 7), (.n 9), (.n 9)] [(0, 1, (.t 6)), (1, 1, (.v (.bool true))), (2, 1, (.t 8)), (4, 1, (.t 9)), (5, 1, (.t 22))]) (.op 19 [1, 3, 9, 15, 6, 12] none none false (.store (some 11) (.t 4) (.t 23)) .done))))))))))))))))))))) .ret))
theorem dg_impl_Msg_reply : Tryz.f201.body.bind (digC Tryz.prog Tryz.f201.ntmps []) = some c_impl_Msg_reply := by kernel_rfl
theorem rs_impl_Msg_reply : resSlots Tryz.prog Tryz.f201 = some [.m 4 (some 11)] := by kernel_rfl
theorem ok_impl_Msg_reply (m : Msg) (c : Int) (hs : SmallM m) (hq : m.qs.length = 1) :
    FnOK Tryz.prog 201 [.agg (m.cells.map .d), .one (.d (.sc (.int .i64 c)))] (fun ra _ => ra = [.agg [.d (.sc (.int .i64 m.id)), .d (.sc (.bool true)), .d (.sc (.int .i64 m.op)), .d (.sc (.bool false)), .d (.sc (.int .i64 c)), .own true (encQ [m.qs.getD 0 ⟨[], 0⟩]), .own true (encR []), .own true (encR []), .own true (encR []), .own true (encW []), .own true (encW [])]]) := by
  refine FnOK.ofK Tryz.func201 (by kernel_rfl) dg_impl_Msg_reply rs_impl_Msg_reply rfl rfl ?_
  delta c_impl_Msg_reply T.o X.i C.g
  have b1 := hs.q
  have hq0 : 0 < m.qs.length := by omega
  have hqd : m.qs.getD 0 ⟨[], 0⟩ = m.qs[0] := by simp [List.getD_eq_getElem?_getD, hq0]
  have hqs := b1.mem _ (List.getElem_mem hq0)
  have q1 := hqs.len
  have q2 := hqs.mem
  have q3 := hqs.flat
  rw [hqd]
  refine Kbc (kBox Y Y Y Y Y (kAlloc Y Y (Kdb (kRegD (Kf Y Y (Ke Y Y Y (Kf Y Y (Ke Y Y Y (Ka Y (Kf Y Y (Ke Y Y Y (kIadR (m := 0) Y Y Y prl (kFadD Y (Ky Y Y (Kf Y Y (Ke Y Y Y (kIadR (m := 0) Y Y Y prl (kFadD Y (Ky Y Y (Kx Y Y (Ku true (ok_impl_Name_copied _ prx prx) ⟨⟨⟨Y, trivial⟩, leb⟩, trivial⟩ Y Y Y (fun _ => (kBuildG Y (Kx Y Y (kLitG Y Y Y Y (kBuildG Y (Ks Y Y (Ko Y Y Y Y (Kd (kH (Kr (Er (ra := [.agg [(.d _), (.d _), (.d _), (.d _), (.d _), (.own true _), (.own true _), (.own true _), (.own true _), (.own true _), (.own true _)]]) rfl rfl))))))))))))))))))))))))))))))))

def c_impl_Zone_hasName_1 : C := (.g (.o 0 2 (.box 2 (.t 0)) (.o 1 3 (.mov (.v (.bool false))) .done)) (.g (.o 0 4 (.fad (.t 2) 0) (.o 1 5 (.load (some 1) (.t 4)) (.o 2 6 (.load (some 1) (.t 1)) (.o 3 7 (.call 7 123 [(.t 5), (.t 6)]) (.o 4 3 (.mov (.t 7)) .done))))) .ret))
theorem dg_impl_Zone_hasName_1 : Tryz.f326.body.bind (digC Tryz.prog Tryz.f326.ntmps []) = some c_impl_Zone_hasName_1 := by kernel_rfl
theorem rs_impl_Zone_hasName_1 : resSlots Tryz.prog Tryz.f326 = some [.s 3] := by kernel_rfl
theorem ok_impl_Zone_hasName_1 (r : Rr) (n : List (List UInt8)) (hr : SmallR r) (hn : n.length ≤ 4194304) (hn' : ∀ b ∈ n, b.length ≤ 4194304) :
    FnOK Tryz.prog 326 [.agg (r.cells.map .d), .one (.ptr [.d (encBB n)])] (fun ra _ => ra = [.one (.d (.sc (.bool (underN r.name n))))]) := by
  refine FnOK.ofK Tryz.func326 (by kernel_rfl) dg_impl_Zone_hasName_1 rs_impl_Zone_hasName_1 rfl rfl ?_
  delta c_impl_Zone_hasName_1 T.o X.i C.g
  have n1 := hr.n.len
  have n2 := hr.n.mem
  refine Kbc (kBox Y Y Y Y Y (Ka Y (Kdb (Kc (Kf Y Y (Ke Y Y Y (kLoadC Y Y (Kp (ok_impl_Name_under _ _ pr pr) ⟨⟨⟨Y, trivial⟩, leb⟩, ⟨⟨Y, trivial⟩, leb⟩, trivial⟩ Y Y Y Y Y (Ka Y (Kd (Kr (Er (ra := [.one (.d _)]) rfl rfl))))))))))))

def c_impl_Zone_hasName : C := (.g (.o 0 2 (.box 2 (.t 0)) (.o 1 3 (.box 3 (.t 1)) (.o 2 4 (.mov (.v (.bool false))) .done))) (.g (.o 0 5 (.fad (.t 2) 1) (.o 1 6 (.load none (.t 5)) (.o 2 7 (.clo 326 [] [(.t 3)]) (.o 3 8 (.call 8 197 [(.t 6), (.t 7)]) (.o 4 4 (.mov (.t 8)) .done))))) .ret))
theorem dg_impl_Zone_hasName : Tryz.f273.body.bind (digC Tryz.prog Tryz.f273.ntmps []) = some c_impl_Zone_hasName := by kernel_rfl
theorem rs_impl_Zone_hasName : resSlots Tryz.prog Tryz.f273 = some [.s 4] := by kernel_rfl
theorem ok_impl_Zone_hasName (z : Zone) (n : List (List UInt8)) (hs : SmallZ z) (hn : n.length ≤ 4194304) (hn' : ∀ b ∈ n, b.length ≤ 4194304) :
    FnOK Tryz.prog 273 [.agg (z.cells.map .d), .agg [.d (encBB n)]] (fun ra _ => ra = [.one (.d (.sc (.bool (hasN z n))))]) := by
  refine FnOK.ofK Tryz.func273 (by kernel_rfl) dg_impl_Zone_hasName rs_impl_Zone_hasName rfl rfl ?_
  delta c_impl_Zone_hasName T.o X.i C.g
  have h1 := hs.r.len
  refine Kbc (kBox Y Y Y Y Y (kBox Y Y Y Y Y (Ka Y (Kdb (Kc (Kf Y Y (Ke Y Y Y (kClo Y Y ?_))))))))
  refine Ku true (ok_slices_ContainsFunc_Limpl_Rr_impl_Rr z.rrs SmallR (fun r => underN r.name n) h1 hs.r.mem) ⟨rfl, ⟨rfl, ⟨_, Tryz.func326, rfl, by kernel_rfl⟩, _, rfl, ?_⟩, trivial⟩ rfl rfl rfl fun os => ?_
  · rintro _ R ⟨x, hx, rfl, rfl⟩
    exact ⟨by rintro _ rfl; rfl, ok_impl_Zone_hasName_1 x n hx hn hn'⟩
  refine Ka Y (Kd (Kr (Er (ra := [.one (.d _)]) rfl rfl)))

def c_impl_Zone_lookup : C := (.g (.o 0 3 (.box 3 (.t 0)) (.o 1 4 (.box 4 (.t 1)) (.o 2 6 (.mov (.n 7)) (.o 3 7 (.mov (.i 0)) .done)))) (.seq (.g (.o 0 12 (.load (some 1) (.t 4)) (.o 1 13 (.fad (.t 3) 0) (.o 2 14 (.load (some 1) (.t 13)) (.o 3 15 (.call 15 123 [(.t 12), (.t 14)]) (.o 4 16 (.un .not (.t 15)) .done))))) (.cond (.t 16) (.g (.o 0 6 (.mov (.n 7)) (.o 1 7 (.mov (.i 5)) .done)) .ret) .skip)) (.seq (.g (.o 0 17 (.fad (.t 4) 0) (.o 1 18 (.load none (.t 17)) (.o 2 19 (.len (.t 18)) (.o 3 20 (.fad (.t 3) 0) (.o 4 21 (.fad (.t 20) 0) (.o 5 22 (.load none (.t 21)) (.o 6 23 (.len (.t 22)) (.o 7 24 (.bin .sub (.t 19) (.t 23)) (.o 8 25 (.bin .sub (.t 24) (.i 1)) (.o 9 8 (.mov (.t 25)) .done)))))))))) (.block 0 (.loop (.seq (.g (.o 0 26 (.mov (.t 8)) (.o 1 27 (.bin .geq (.t 26) (.i 0)) .done)) (.cond (.t 27) .skip (.exit 0))) (.seq (.block 1 (.seq (.reg true (.op 0 [] (some 30) none true (.load (some 2) (.t 3)) (.op 1 [] (some 31) none true (.fad (.t 4) 0) (.op 2 [] (some 32) none true (.load none (.t 31)) (.op 3 [] (some 33) none true (.mov (.t 8)) (.op 4 [] (some 34) none true (.cut 1 (.t 32) (some (.t 33)) none) (.op 5 [] (some 35) none true (.build [(.n 1)] [(0, 1, (.t 34))]) (.op 6 [0, 2] (some 36) none false (.call 36 82 [(.t 30), (.t 35), (.i 2)]) (.op 7 [] (some 9) none true (.mov (.t 36)) .done))))))))) (.g (.o 0 37 (.mov (.t 9)) (.o 1 38 (.len (.t 37)) (.o 2 39 (.bin .gtr (.t 38) (.i 0)) .done))) (.cond (.t 39) (.g (.o 0 40 (.mov (.t 9)) (.o 1 6 (.mov (.t 40)) (.o 2 7 (.mov (.i 2)) .done))) .ret) .skip)))) (.reg false (.o 0 28 (.mov (.t 8)) (.o 1 29 (.bin .sub (.t 28) (.i 1)) (.o 2 8 (.mov (.t 29)) .done))))))))) (.seq (.g (.o 0 41 (.load (some 2) (.t 3)) (.o 1 42 (.load (some 1) (.t 4)) (.o 2 43 (.mov (.t 2)) (.o 3 44 (.call 44 82 [(.t 41), (.t 42), (.t 43)]) (.o 4 10 (.mov (.t 44)) .done))))) (.g (.o 0 45 (.mov (.t 10)) (.o 1 46 (.len (.t 45)) (.o 2 47 (.bin .gtr (.t 46) (.i 0)) .done))) (.cond (.t 47) (.g (.o 0 48 (.mov (.t 10)) (.o 1 6 (.mov (.t 48)) (.o 2 7 (.mov (.i 0)) .done))) .ret) .skip))) (.seq (.g (.o 0 49 (.load (some 2) (.t 3)) (.o 1 50 (.load (some 1) (.t 4)) (.o 2 51 (.call 51 82 [(.t 49), (.t 50), (.i 5)]) (.o 3 11 (.mov (.t 51)) .done)))) (.g (.o 0 52 (.mov (.t 11)) (.o 1 53 (.len (.t 52)) (.o 2 54 (.bin .gtr (.t 53) (.i 0)) .done))) (.cond (.t 54) (.g (.o 0 55 (.mov (.t 11)) (.o 1 6 (.mov (.t 55)) (.o 2 7 (.mov (.i 1)) .done))) .ret) .skip))) (.seq (.g (.o 0 56 (.load (some 2) (.t 3)) (.o 1 57 (.load (some 1) (.t 4)) (.o 2 58 (.call 58 273 [(.t 56), (.t 57)]) .done))) (.cond (.t 58) (.g (.o 0 6 (.mov (.n 7)) (.o 1 7 (.mov (.i 3)) .done)) .ret) .skip)) (.g (.o 0 6 (.mov (.n 7)) (.o 1 7 (.mov (.i 4)) .done)) .ret)))))))
theorem dg_impl_Zone_lookup : Tryz.f202.body.bind (digC Tryz.prog Tryz.f202.ntmps []) = some c_impl_Zone_lookup := by kernel_rfl
theorem rs_impl_Zone_lookup : resSlots Tryz.prog Tryz.f202 = some [.s 6, .s 7] := by kernel_rfl
theorem ok_impl_Zone_lookup (z : Zone) (n : List (List UInt8)) (t : Int) (hs : SmallZ z) (hn : SmallBB n) :
    FnOK Tryz.prog 202 [.agg (z.cells.map .d), .agg [.d (encBB n)], .one (.d (.sc (.int .i64 t)))] (fun ra _ => ra = [.one (.d (encR (lookupN z n t).1)), .one (.d (.sc (.int .i64 (lookupN z n t).2)))]) := by
  refine FnOK.ofK Tryz.func202 (by kernel_rfl) dg_impl_Zone_lookup rs_impl_Zone_lookup rfl rfl ?_
  delta c_impl_Zone_lookup T.o X.i C.g
  have o1 := hs.o.len
  have o2 := hs.o.mem
  have n1 := hn.len
  have n2 := hn.mem
  cases hu : underN n z.origin
  · rw [lookup_out hu]
    refine Kbc (kBox Y Y Y Y Y (kBox Y Y Y Y Y (Ka Y (Ka Y (Kdb (Kbc (Ke Y Y Y (Kf Y Y (Ke Y Y Y (Kp (ok_impl_Name_under _ _ pr pr) ⟨⟨⟨Y, trivial⟩, leb⟩, ⟨⟨Y, trivial⟩, leb⟩, trivial⟩ Y Y Y Y Y (Kw Y Y (Kd (kCondN Y (fun g0 => Kbc (Ka Y (Ka Y (Kd (Kr (Er (ra := [.one (.d _), .one (.d _)]) rfl rfl)))))) (fun g0 => (by (simp [*] at g0))))))))))))))))
  have hle := under_le hu
  have hsub : ((n.length - z.origin.length : Nat) : Int) = (n.length : Int) - (z.origin.length : Int) := by omega
  refine Kbc (kBox Y Y Y Y Y (kBox Y Y Y Y Y (Ka Y (Ka Y (Kdb (Kbc (Ke Y Y Y (Kf Y Y (Ke Y Y Y (Kp (ok_impl_Name_under _ _ pr pr) ⟨⟨⟨Y, trivial⟩, leb⟩, ⟨⟨Y, trivial⟩, leb⟩, trivial⟩ Y Y Y Y Y (Kw Y Y (Kd (kCondN Y (fun g0 => (by (simp [*] at g0))) (fun g0 => Kn (Kb (Kbc (Kf Y Y (Ke Y Y Y (Kq Y Y (Kf Y Y (Kf Y Y (Ke Y Y Y (Kq Y Y (kDif Y Y om (kDif Y Y om (Ka Y (Kd (Kt ?_))))))))))))))))))))))))))))
  refine kLoop (α := { j : Nat // j ≤ n.length - z.origin.length ∧ refAt z n (n.length - z.origin.length) = refAt z n j }) (fun y => ⟨tabSl [(2, .i t), (3, .c (.ptr (rid 3 0) 1 0)), (4, .c (.ptr (rid 4 0) 1 0)), (8, .i ((y.1 : Int) - 1))], obTab 1 [(rid 3 0, ⟨1, 0, .box (z.cells.map .d)⟩), (rid 4 0, ⟨1, 0, .box [.d (encBB n)]⟩)], []⟩) (fun y => y.1) ⟨n.length - z.origin.length, Nat.le_refl _, rfl⟩ .normA ?_
  rintro ⟨j, hj, hr⟩
  simp only
  cases j with
  | zero =>
    rw [lookup_none hu hr]
    have l1 : (setOf z.rrs n t).length ≤ z.rrs.length := List.length_filter_le _ _
    have l2 : (setOf z.rrs n 5).length ≤ z.rrs.length := List.length_filter_le _ _
    have h1 := hs.r.len
    by_cases p1 : 0 < (setOf z.rrs n t).length
    · rw [if_pos p1]
      refine Kb (Kbc (Ka Y (Kj Y Y Y (Kd (kCondF Y (kExit (kExC (kExI (kExB (Kb (Kbc (Ke Y Y Y (Ke Y Y Y (Ka Y (kCallD2 (ok_impl_Zone_set _ _ _ pr pr) ⟨⟨⟨Y, Y, trivial⟩, leb⟩, ⟨⟨Y, trivial⟩, leb⟩, rfl, trivial⟩ Y Y Y Y (Ka Y (Kdb (Kc (Ka Y (Kq Y Y (Kj Y Y Y (Kd (Km Y (fun g0 => Kbc (Ka Y (Ka Y (Ka Y (Kd (Kr (Er (ra := [.one (.d _), .one (.d _)]) rfl rfl))))))) (fun g0 => om))))))))))))))))))))))))
    rw [if_neg p1]
    by_cases p2 : 0 < (setOf z.rrs n 5).length
    · rw [if_pos p2]
      refine Kb (Kbc (Ka Y (Kj Y Y Y (Kd (kCondF Y (kExit (kExC (kExI (kExB (Kb (Kbc (Ke Y Y Y (Ke Y Y Y (Ka Y (kCallD2 (ok_impl_Zone_set _ _ _ pr pr) ⟨⟨⟨Y, Y, trivial⟩, leb⟩, ⟨⟨Y, trivial⟩, leb⟩, rfl, trivial⟩ Y Y Y Y (Ka Y (Kdb (Kc (Ka Y (Kq Y Y (Kj Y Y Y (Kd (Km Y (fun g0 => om) (fun g0 => Kn (Kb (Kbc (Ke Y Y Y (Ke Y Y Y (kCallD2 (ok_impl_Zone_set _ _ _ pr pr) ⟨⟨⟨Y, Y, trivial⟩, leb⟩, ⟨⟨Y, trivial⟩, leb⟩, rfl, trivial⟩ Y Y Y Y (Ka Y (Kdb (Kc (Ka Y (Kq Y Y (Kj Y Y Y (Kd (Km Y (fun g1 => Kbc (Ka Y (Ka Y (Ka Y (Kd (Kr (Er (ra := [.one (.d _), .one (.d _)]) rfl rfl))))))) (fun g1 => om))))))))))))))))))))))))))))))))))))))
    rw [if_neg p2]
    cases p3 : hasN z n
    · refine Kb (Kbc (Ka Y (Kj Y Y Y (Kd (kCondF Y (kExit (kExC (kExI (kExB (Kb (Kbc (Ke Y Y Y (Ke Y Y Y (Ka Y (kCallD2 (ok_impl_Zone_set _ _ _ pr pr) ⟨⟨⟨Y, Y, trivial⟩, leb⟩, ⟨⟨Y, trivial⟩, leb⟩, rfl, trivial⟩ Y Y Y Y (Ka Y (Kdb (Kc (Ka Y (Kq Y Y (Kj Y Y Y (Kd (Km Y (fun g0 => om) (fun g0 => Kn (Kb (Kbc (Ke Y Y Y (Ke Y Y Y (kCallD2 (ok_impl_Zone_set _ _ _ pr pr) ⟨⟨⟨Y, Y, trivial⟩, leb⟩, ⟨⟨Y, trivial⟩, leb⟩, rfl, trivial⟩ Y Y Y Y (Ka Y (Kdb (Kc (Ka Y (Kq Y Y (Kj Y Y Y (Kd (Km Y (fun g1 => om) (fun g1 => Kn (Kb (Kbc (Ke Y Y Y (Ke Y Y Y (Kp (ok_impl_Zone_hasName _ _ pr pr pr) ⟨⟨⟨Y, Y, trivial⟩, leb⟩, ⟨⟨Y, trivial⟩, leb⟩, trivial⟩ Y Y Y Y Y (Kd (kCond Y (fun g2 => (by (simp [*] at g2))) (fun g2 => Kn (Kbc (Ka Y (Ka Y (Kd (Kr (Er (ra := [.one (.d _), .one (.d _)]) rfl rfl))))))))))))))))))))))))))))))))))))))))))))))))))))
    · refine Kb (Kbc (Ka Y (Kj Y Y Y (Kd (kCondF Y (kExit (kExC (kExI (kExB (Kb (Kbc (Ke Y Y Y (Ke Y Y Y (Ka Y (kCallD2 (ok_impl_Zone_set _ _ _ pr pr) ⟨⟨⟨Y, Y, trivial⟩, leb⟩, ⟨⟨Y, trivial⟩, leb⟩, rfl, trivial⟩ Y Y Y Y (Ka Y (Kdb (Kc (Ka Y (Kq Y Y (Kj Y Y Y (Kd (Km Y (fun g0 => om) (fun g0 => Kn (Kb (Kbc (Ke Y Y Y (Ke Y Y Y (kCallD2 (ok_impl_Zone_set _ _ _ pr pr) ⟨⟨⟨Y, Y, trivial⟩, leb⟩, ⟨⟨Y, trivial⟩, leb⟩, rfl, trivial⟩ Y Y Y Y (Ka Y (Kdb (Kc (Ka Y (Kq Y Y (Kj Y Y Y (Kd (Km Y (fun g1 => om) (fun g1 => Kn (Kb (Kbc (Ke Y Y Y (Ke Y Y Y (Kp (ok_impl_Zone_hasName _ _ pr pr pr) ⟨⟨⟨Y, Y, trivial⟩, leb⟩, ⟨⟨Y, trivial⟩, leb⟩, trivial⟩ Y Y Y Y Y (Kd (kCond Y (fun g2 => Kbc (Ka Y (Ka Y (Kd (Kr (Er (ra := [.one (.d _), .one (.d _)]) rfl rfl)))))) (fun g2 => (by (simp [*] at g2))))))))))))))))))))))))))))))))))))))))))))))))
  | succ k =>
    have e : (((k + 1 : Nat) : Int) - 1).toNat = k := by omega
    have hd : (n.drop ((((k + 1 : Nat) : Int) - 1).toNat)).length ≤ 4194304 := by rw [List.length_drop]; omega
    by_cases hp : 0 < (setOf z.rrs (n.drop ((((k + 1 : Nat) : Int) - 1).toNat)) 2).length
    · have hf : refAt z n (k + 1) = some (n.drop ((((k + 1 : Nat) : Int) - 1).toNat)) := by
        rw [e] at hp ⊢; simp only [refAt, if_pos hp]
      rw [lookup_ref hu (hr.trans hf)]
      refine Kb (Kbc (Ka Y (Kj Y Y Y (Kd (Km Y (fun g0 => Kn (Kb (Kt (Kb (kRegD (Ke Y Y Y (Kf Y Y (Ke Y Y Y (Ka Y (kCutLT Y Y om (kBuildG Y (Ks Y Y (kCallD2 (ok_impl_Zone_set _ _ _ pr pr) ⟨⟨⟨Y, Y, trivial⟩, leb⟩, ⟨⟨Y, trivial⟩, leb⟩, rfl, trivial⟩ Y Y Y Y (Ka Y (Kd (kH (Kbc (Ka Y (Kq Y Y (Kj Y Y Y (Kd (Km Y (fun g1 => Kbc (Ka Y (Ka Y (Ka Y (Kd (Kr (Er (ra := [.one (.d _), .one (.d _)]) rfl rfl))))))) (fun g1 => om))))))))))))))))))))))) (fun g0 => om))))))
    · have hf : refAt z n (k + 1) = refAt z n k := by
        rw [e] at hp; simp only [refAt, if_neg hp]
      refine Kb (Kbc (Ka Y (Kj Y Y Y (Kd (Km Y (fun g0 => Kn (Kb (Kt (Kb (kRegD (Ke Y Y Y (Kf Y Y (Ke Y Y Y (Ka Y (kCutLT Y Y om (kBuildG Y (Ks Y Y (kCallD2 (ok_impl_Zone_set _ _ _ pr pr) ⟨⟨⟨Y, Y, trivial⟩, leb⟩, ⟨⟨Y, trivial⟩, leb⟩, rfl, trivial⟩ Y Y Y Y (Ka Y (Kd (kH (Kbc (Ka Y (Kq Y Y (Kj Y Y Y (Kd (Km Y (fun g1 => om) (fun g1 => Kn (Kv (Kc (Ka Y (kDif Y Y om (Ka Y (Kd ?_))))))))))))))))))))))))))))) (fun g0 => om))))))
      refine kInv ⟨⟨k, by omega, by rw [hr, hf]⟩, by simp only; omega, .normA⟩

def c_impl_Zone_top_1 : C := (.g (.o 0 1 (.box 1 (.t 0)) (.o 1 2 (.mov (.v (.bool false))) .done)) (.g (.o 0 3 (.fad (.t 1) 1) (.o 1 4 (.load none (.t 3)) (.o 2 5 (.bin .eql (.t 4) (.i 6)) (.o 3 2 (.mov (.t 5)) .done)))) .ret))
theorem dg_impl_Zone_top_1 : Tryz.f274.body.bind (digC Tryz.prog Tryz.f274.ntmps []) = some c_impl_Zone_top_1 := by kernel_rfl
theorem rs_impl_Zone_top_1 : resSlots Tryz.prog Tryz.f274 = some [.s 2] := by kernel_rfl
theorem ok_impl_Zone_top_1 (r : Rr) :
    FnOK Tryz.prog 274 [.agg (r.cells.map .d)] (fun ra _ => ra = [.one (.d (.sc (.bool (r.ty == 6))))]) := by
  refine FnOK.ofK Tryz.func274 (by kernel_rfl) dg_impl_Zone_top_1 rs_impl_Zone_top_1 rfl rfl ?_
  delta c_impl_Zone_top_1 T.o X.i C.g
  refine Kbc (kBox Y Y Y Y Y (Ka Y (Kdb (Kc (Kf Y Y (Ke Y Y Y (Kj Y Y Y (Ka Y (Kd (Kr (Er (ra := [.one (.d _)]) rfl rfl)))))))))))

def c_impl_Zone_top : C := (.g (.o 0 1 (.box 1 (.t 0)) (.o 1 2 (.mov (.i 0)) .done)) (.g (.o 0 3 (.fad (.t 1) 1) (.o 1 4 (.load none (.t 3)) (.o 2 5 (.call 5 270 [(.t 4), (.fn 274)]) (.o 3 2 (.mov (.t 5)) .done)))) .ret))
theorem dg_impl_Zone_top : Tryz.f203.body.bind (digC Tryz.prog Tryz.f203.ntmps []) = some c_impl_Zone_top := by kernel_rfl
theorem rs_impl_Zone_top : resSlots Tryz.prog Tryz.f203 = some [.s 2] := by kernel_rfl
theorem ok_impl_Zone_top (z : Zone) (hs : SmallZ z) :
    FnOK Tryz.prog 203 [.agg (z.cells.map .d)] (fun ra _ => ra = [.one (.d (.sc (.int .i64 (topIx z.rrs))))]) := by
  refine FnOK.ofK Tryz.func203 (by kernel_rfl) dg_impl_Zone_top rs_impl_Zone_top rfl rfl ?_
  delta c_impl_Zone_top T.o X.i C.g
  have h1 := hs.r.len
  refine Kbc (kBox Y Y Y Y Y (Ka Y (Kdb (Kc (Kf Y Y (Ke Y Y Y ?_))))))
  refine Kp (ok_slices_IndexFunc_Limpl_Rr_impl_Rr z.rrs SmallR (fun r => r.ty == 6) h1 hs.r.mem) ⟨rfl, ⟨rfl, rfl, ⟨_, Tryz.func274, rfl, by kernel_rfl⟩, ?_⟩, trivial⟩ Y Y Y Y Y ?_
  · rintro _ R ⟨x, h, rfl, rfl⟩
    exact ok_impl_Zone_top_1 x
  refine Ka Y (Kd (Kr (Er (ra := [.one (.d _)]) rfl rfl)))

def c_slices_Clone_Lint_int : C := (.g (.o 0 2 (.mov (.n 1)) .done) (.seq (.g (.o 0 3 (.mov (.t 0)) (.o 1 4 (.eqn false (.t 3)) .done)) (.cond (.t 4) (.g (.o 0 2 (.mov (.n 1)) .done) .ret) .skip)) (.g (.o 0 5 (.lit 5 1 [(.i 0)] 0 []) (.o 1 6 (.mov (.t 0)) (.o 2 7 (.app 7 1 8 (.t 5) (.t 6)) (.o 3 2 (.mov (.t 7)) .done)))) .ret)))
theorem dg_slices_Clone_Lint_int : Tryz.f188.body.bind (digC Tryz.prog Tryz.f188.ntmps []) = some c_slices_Clone_Lint_int := by kernel_rfl
theorem rs_slices_Clone_Lint_int : resSlots Tryz.prog Tryz.f188 = some [.s 2] := by kernel_rfl
theorem ok_slices_Clone_Lint_int (b : List Int) (hb : b.length ≤ 4194304) :
    FnOK Tryz.prog 188 [.one (.d (encI b))] (fun ra _ => ra = [.one (.own true (encI b))]) := by
  refine FnOK.ofK Tryz.func188 (by kernel_rfl) dg_slices_Clone_Lint_int rs_slices_Clone_Lint_int rfl rfl ?_
  delta c_slices_Clone_Lint_int T.o X.i C.g
  refine Kbc (Ka Y (Kd ?_))
  refine Kb (Kbc (Ka Y (kEqn Y Y Y fun n hn => Kd ?_)))
  refine kCond Y (fun h => ?_) (fun h => ?_)
  · refine Kbc (Ka Y (Kd (Kr ?_)))
    refine endRet (ra := [.one (.own true (.sl 1 []))]) rfl ⟨⟨rfl, trivial⟩, nodupB_sound rfl, trivial, trivial⟩ ?_
    have : b = [] := by
      rw [len_encI] at hn
      cases b with
      | nil => rfl
      | cons x l => have := hn (by simp); simp [this] at h
    rw [this]; rfl
  · refine Kn (Kbc ?_)
    refine kLit Y Y Y Y (Ka Y ?_)
    refine kApp (cy := .d (encI b)) rfl rfl rfl (src_encI _ b) rfl rfl ⟨rfl, rfl, Nat.zero_lt_one⟩ Y ?_ (Ka Y (Kd (Kr ?_)))
    · show ((DV.sl 1 (chunk 1 0 [])).len + (encI b).len) * 8 ≤ _ ∧ _
      rw [len_encI]; simp [DV.len, chunk]; omega
    refine endRet (ra := [.one (.own true _)]) rfl ⟨⟨⟨⟨_, rfl, fun _ => rfl⟩, .inl (Nat.zero_lt_succ _)⟩, trivial⟩, nodupB_sound rfl, trivial, trivial⟩ ?_
    exact congrArg (fun x => [RA.one (RV.own true x)]) (app_nil_encI b)

def c_impl_Rr_copied : C := (.g (.o 0 1 (.box 1 (.t 0)) (.o 1 2 (.alloc 2 [(.n 1), (.i 0), (.i 0), (.i 0), (.n 1), (.n 1), (.n 1)]) .done)) (.seq (.reg true (.op 0 [] (some 3) none true (.fad (.t 1) 0) (.op 1 [] (some 4) none true (.load (some 1) (.t 3)) (.op 3 [] (some 6) none true (.fad (.t 1) 4) (.op 4 [] (some 7) none true (.load (some 1) (.t 6)) (.op 6 [] (some 9) none true (.fad (.t 1) 5) (.op 7 [] (some 10) none true (.load none (.t 9)) (.op 9 [] (some 12) none true (.fad (.t 1) 6) (.op 10 [] (some 13) none true (.load none (.t 12)) (.op 2 [1] (some 5) none false (.call 5 151 [(.t 4)]) (.op 12 [] (some 15) none true (.fad (.t 1) 0) (.op 5 [4, 1] (some 8) none false (.call 8 151 [(.t 7)]) (.op 8 [7, 4, 1] (some 11) none false (.call 11 233 [(.t 10)]) (.op 11 [10, 7, 4, 1] (some 14) none false (.call 14 188 [(.t 13)]) (.op 13 [1, 4, 7, 10] none none false (.store (some 1) (.t 15) (.t 5)) (.op 14 [] (some 16) none true (.fad (.t 1) 4) (.op 15 [1, 4, 7, 10] none none false (.store (some 1) (.t 16) (.t 8)) (.op 16 [] (some 17) none true (.fad (.t 1) 5) (.op 17 [1, 4, 7, 10] none none false (.store none (.t 17) (.t 11)) (.op 18 [] (some 18) none true (.fad (.t 1) 6) (.op 19 [1, 4, 7, 10] none none false (.store none (.t 18) (.t 14)) .done))))))))))))))))))))) (.g (.o 0 19 (.load (some 7) (.t 1)) (.op 1 [] none none false (.store (some 7) (.t 2) (.t 19)) .done)) .ret)))
theorem dg_impl_Rr_copied : Tryz.f172.body.bind (digC Tryz.prog Tryz.f172.ntmps []) = some c_impl_Rr_copied := by kernel_rfl
theorem rs_impl_Rr_copied : resSlots Tryz.prog Tryz.f172 = some [.m 2 (some 7)] := by kernel_rfl
theorem ok_impl_Rr_copied (r : Rr) (hs : SmallR r) :
    FnOK Tryz.prog 172 [.agg (r.cells.map .d)] (fun ra _ => ra = [.agg [.own true (encBB r.name), .d (.sc (.int .i64 r.ty)), .d (.sc (.int .i64 r.ttl)), .d (.sc (.int .i64 r.addr)), .own true (encBB r.to), .own true (encB r.text), .own true (encI r.nums)]]) := by
  refine FnOK.ofK Tryz.func172 (by kernel_rfl) dg_impl_Rr_copied rs_impl_Rr_copied rfl rfl ?_
  delta c_impl_Rr_copied T.o X.i C.g
  have n1 := hs.n.len
  have n2 := hs.n.mem
  have t1 := hs.t.len
  have t2 := hs.t.mem
  have x1 := hs.x
  have m1 := hs.m
  refine Kb (kCut ⟨tabSl [(1, .c (.ptr (rid 1 0) 1 0)), (2, .c (.ptr (rid 2 0) 1 0))], obTab 1 [(rid 1 0, ⟨1, 0, .box (r.cells.map .d)⟩), (rid 2 0, ⟨1, 0, .box [.nil 1, .d (.sc (.int .i64 0)), .d (.sc (.int .i64 0)), .d (.sc (.int .i64 0)), .nil 1, .nil 1, .nil 1]⟩)], []⟩ ?_ (fun x hc => ?_))
  case refine_2 => refine kReg (kBox rfl rfl rfl rfl rfl (kAlloc rfl rfl (kDone (hc _ .normA))))
  refine Kb (kCut ⟨tabSl [(1, .c (.ptr (rid 1 0) 1 0)), (2, .c (.ptr (rid 2 0) 1 0))], obTab 1 [(rid 1 0, ⟨1, 0, .box [.arr (rid 5 0) 1, .d (.sc (.int .i64 r.ty)), .d (.sc (.int .i64 r.ttl)), .d (.sc (.int .i64 r.addr)), .arr (rid 8 0) 1, .arr (rid 11 0) 1, .arr (rid 14 0) 1]⟩), (rid 2 0, ⟨1, 0, .box [.nil 1, .d (.sc (.int .i64 0)), .d (.sc (.int .i64 0)), .d (.sc (.int .i64 0)), .nil 1, .nil 1, .nil 1]⟩), (rid 5 0, ⟨1, 0, .arr true (encBB r.name)⟩), (rid 8 0, ⟨1, 0, .arr true (encBB r.to)⟩), (rid 11 0, ⟨1, 0, .arr true (encB r.text)⟩), (rid 14 0, ⟨1, 0, .arr true (encI r.nums)⟩)], []⟩ ?_ (fun x hc => ?_))
  case refine_2 => refine kRegD (kFadP rfl rfl (kLoadP rfl rfl rfl (kFadP rfl rfl (kLoadP rfl rfl rfl (kFadP rfl rfl (kLoadP rfl rfl rfl (kFadP rfl rfl (kLoadP rfl rfl rfl (kRelK rfl rfl (kCall1 true (ok_impl_Name_copied _ pr pr) ⟨⟨⟨rfl, trivial⟩, leb⟩, trivial⟩ rfl rfl rfl (fun _ => (kFadP rfl rfl (kRelK rfl rfl (kCall1 true (ok_impl_Name_copied _ pr pr) ⟨⟨⟨rfl, trivial⟩, leb⟩, trivial⟩ rfl rfl rfl (fun _ => (kRelK rfl rfl (kCall1 true (ok_bytes_Clone _ pr) ⟨rfl, trivial⟩ rfl rfl rfl (fun _ => (kRelF rfl rfl (kCall1 true (ok_slices_Clone_Lint_int _ pr) ⟨rfl, trivial⟩ rfl rfl rfl (fun _ => (kRelF rfl rfl (kStoreP rfl rfl rfl rfl (kFadP rfl rfl (kRelF rfl rfl (kStoreP rfl rfl rfl rfl (kFadP rfl rfl (kRelF rfl rfl (kStoreP rfl rfl rfl rfl (kFadP rfl rfl (kRelF rfl rfl (kStoreP rfl rfl rfl rfl (kDone (kH (kMem [(8192, ⟨1, 0, .box [.arr 24576 2, .d _, .d _, .d _, .arr 36864 2, .arr 49152 2, .arr 61440 2]⟩), (12288, ⟨1, 0, .box [.nil 1, .d _, .d _, .d _, .nil 1, .nil 1, .nil 1]⟩), (24576, ⟨2, 0, .arr true _⟩), (36864, ⟨2, 0, .arr true _⟩), (49152, ⟨2, 0, .arr true _⟩), (61440, ⟨2, 0, .arr true _⟩)] [(1, .c (.ptr 8192 1 0)), (2, .c (.ptr 12288 1 0))] [] ⟨rfl, rfl, rfl, rfl, rfl, rfl, trivial⟩ ⟨rfl, rfl, trivial⟩ rfl (hc _ .normA))))))))))))))))))))))))))))))))))))
  refine Kb (kCut ⟨tabSl [(2, .c (.ptr (rid 2 0) 1 0))], obTab 1 [(rid 2 0, ⟨1, 0, .box [.arr (rid 5 0) 1, .d (.sc (.int .i64 r.ty)), .d (.sc (.int .i64 r.ttl)), .d (.sc (.int .i64 r.addr)), .arr (rid 8 0) 1, .arr (rid 11 0) 1, .arr (rid 14 0) 1]⟩), (rid 5 0, ⟨1, 0, .arr true (encBB r.name)⟩), (rid 8 0, ⟨1, 0, .arr true (encBB r.to)⟩), (rid 11 0, ⟨1, 0, .arr true (encB r.text)⟩), (rid 14 0, ⟨1, 0, .arr true (encI r.nums)⟩)], []⟩ ?_ (fun x hc => ?_))
  case refine_2 => refine kReg (kLoadP rfl rfl rfl (kStoreP rfl rfl rfl rfl (kDone (hc _ .normA))))
  refine (Kr (Er (ra := [.agg [(.own true _), (.d _), (.d _), (.d _), (.own true _), (.own true _), (.own true _)]]) rfl rfl))

def c_impl_copyRrs : C := (.g (.o 0 2 (.mov (.n 7)) .done) (.g (.o 0 6 (.lit 6 7 [(.n 1), (.i 0), (.i 0), (.i 0), (.n 1), (.n 1), (.n 1)] 0 []) (.o 1 3 (.mov (.t 6)) .done)) (.seq (.g (.o 0 7 (.mov (.t 0)) (.o 1 8 (.len (.t 7)) (.o 2 9 (.mov (.i 0)) .done))) (.block 0 (.loop (.g (.o 0 10 (.bin .lss (.t 9) (.t 8)) .done) (.seq (.cond (.t 10) .skip (.exit 0)) (.seq (.block 1 (.g (.o 0 11 (.iad 7 (.t 7) (.t 9)) (.o 1 12 (.load (some 7) (.t 11)) (.o 2 5 (.alloc 5 [(.n 1), (.i 0), (.i 0), (.i 0), (.n 1), (.n 1), (.n 1)]) (.op 3 [] none none false (.store (some 7) (.t 5) (.t 12)) .done)))) (.reg false (.o 0 13 (.mov (.t 3)) (.o 1 14 (.load (some 7) (.t 5)) (.o 2 15 (.call 15 172 [(.t 14)]) (.o 3 16 (.lit 16 7 [(.n 1), (.i 0), (.i 0), (.i 0), (.n 1), (.n 1), (.n 1)] 1 [(0, 7, (.t 15))]) (.o 4 17 (.app 17 7 120 (.t 13) (.t 16)) (.o 5 3 (.mov (.t 17)) .done))))))))) (.reg false (.o 0 18 (.bin .add (.t 9) (.i 1)) (.o 1 9 (.mov (.t 18)) .done))))))))) (.g (.o 0 19 (.mov (.t 3)) (.o 1 2 (.mov (.t 19)) .done)) .ret))))
theorem dg_impl_copyRrs : Tryz.f81.body.bind (digC Tryz.prog Tryz.f81.ntmps []) = some c_impl_copyRrs := by kernel_rfl
theorem rs_impl_copyRrs : resSlots Tryz.prog Tryz.f81 = some [.s 2] := by kernel_rfl
theorem ok_impl_copyRrs (l : List Rr) (hs : SmallRs l) :
    FnOK Tryz.prog 81 [.one (.d (encR l))] (fun ra _ => ra = [.one (.own true (encR l))]) := by
  refine FnOK.ofK Tryz.func81 (by kernel_rfl) dg_impl_copyRrs rs_impl_copyRrs rfl rfl ?_
  delta c_impl_copyRrs T.o X.i C.g
  have h1 := hs.len
  refine Kbc (Ka Y (Kdb (Kc (kLit Y Y Y Y (Ka Y (Kdb (Kbc (Ka Y (Kq Y Y (Ka Y (Kd (Kt ?_))))))))))))
  refine kLoop (α := { i : Nat // i ≤ l.length }) (fun y => ⟨tabSl [(3, .c (.arr (rid 6 0) 1)), (7, .dv (encR l)), (8, .i l.length), (9, .i y.1)], obTab 1 [(rid 6 0, ⟨1, 0, .arr true (encR (l.take y.1))⟩)], []⟩) (fun y => l.length - y.1) ⟨0, by simp⟩ .normA ?_
  rintro ⟨i, hi⟩
  simp only
  have hlen : (l.take i).length = i := by simp; omega
  rcases Nat.lt_or_ge i l.length with hlt | hge
  · have hbi := hs.mem _ (List.getElem_mem hlt)
    refine Kbc (Kj Y Y Y (Kdb (Km Y (fun g0 => Kn (Kb (Kt (Kbc (kIadR Y Y Y om (Ky Y Y (kAlloc Y Y (Ko Y Y Y Y (Kd (Kc (Ka Y (Ke Y Y Y (Ku true (ok_impl_Rr_copied _ pr) ⟨⟨⟨Y, Y, Y, Y, Y, Y, Y, trivial⟩, leb⟩, trivial⟩ Y Y Y (fun _ => (kLit Y Y Y Y (kAppRec Y Y Y Y Y Y Y om (Ka Y (Kd (Kv (Kc (kAdd Y Y om (Ka Y (Kd ?_))))))))))))))))))))))) (fun g0 => om))))
    exact kInv ⟨⟨i + 1, by omega⟩, by simp only; omega, .normA⟩
  · refine Kbc (Kj Y Y Y (Kdb (Km Y (fun g0 => om) (fun g0 => kExit (kExC (kExI (kExB (Kbc (Ka Y (Ka Y (Kd (Kr (Er (ra := [.one (.own true _)]) rfl ?_)))))))))))))
    rw [show i = l.length by omega, List.take_length]

def c_impl_Zone_answer : C := (.g (.o 0 2 (.box 2 (.t 0)) (.o 1 3 (.box 3 (.t 1)) (.o 2 4 (.alloc 4 [(.i 0), (.v (.bool false)), (.i 0), (.v (.bool false)), (.i 0), (.n 2), (.n 7), (.n 7), (.n 7), (.n 9), (.n 9)]) .done))) (.seq (.reg true (.op 0 [] (some 12) none true (.load (some 11) (.t 3)) (.op 2 [] (some 14) none true (.fad (.t 3) 5) (.op 3 [] (some 15) none true (.load none (.t 14)) (.op 4 [] (some 16) none true (.iad 2 (.t 15) (.i 0)) (.op 5 [] (some 17) none true (.fad (.t 16) 0) (.op 6 [] (some 18) none true (.load (some 1) (.t 17)) (.alt (.op 1 [0] (some 13) none false (.call 13 201 [(.t 12), (.i 0)]) (.alt (.o 7 5 (.alloc 5 [(.i 0), (.v (.bool false)), (.i 0), (.v (.bool false)), (.i 0), (.n 2), (.n 7), (.n 7), (.n 7), (.n 9), (.n 9)]) (.o 8 6 (.alloc 6 [(.n 1)]) (.op 9 [0] none none false (.store (some 11) (.t 5) (.t 13)) (.op 10 [6, 3, 0] none none false (.store (some 1) (.t 6) (.t 18)) .done)))) (.o 8 6 (.alloc 6 [(.n 1)]) (.o 7 5 (.alloc 5 [(.i 0), (.v (.bool false)), (.i 0), (.v (.bool false)), (.i 0), (.n 2), (.n 7), (.n 7), (.n 7), (.n 9), (.n 9)]) (.op 9 [0] none none false (.store (some 11) (.t 5) (.t 13)) (.op 10 [6, 3, 0] none none false (.store (some 1) (.t 6) (.t 18)) .done)))))) (.alt (.o 7 5 (.alloc 5 [(.i 0), (.v (.bool false)), (.i 0), (.v (.bool false)), (.i 0), (.n 2), (.n 7), (.n 7), (.n 7), (.n 9), (.n 9)]) (.alt (.op 1 [0] (some 13) none false (.call 13 201 [(.t 12), (.i 0)]) (.o 8 6 (.alloc 6 [(.n 1)]) (.op 9 [0] none none false (.store (some 11) (.t 5) (.t 13)) (.op 10 [6, 3, 0] none none false (.store (some 1) (.t 6) (.t 18)) .done)))) (.o 8 6 (.alloc 6 [(.n 1)]) (.op 1 [0] (some 13) none false (.call 13 201 [(.t 12), (.i 0)]) (.op 9 [0] none none false (.store (some 11) (.t 5) (.t 13)) (.op 10 [6, 3, 0] none none false (.store (some 1) (.t 6) (.t 18)) .done)))))) (.o 8 6 (.alloc 6 [(.n 1)]) (.alt (.op 1 [0] (some 13) none false (.call 13 201 [(.t 12), (.i 0)]) (.o 7 5 (.alloc 5 [(.i 0), (.v (.bool false)), (.i 0), (.v (.bool false)), (.i 0), (.n 2), (.n 7), (.n 7), (.n 7), (.n 9), (.n 9)]) (.op 9 [0] none none false (.store (some 11) (.t 5) (.t 13)) (.op 10 [6, 3, 0] none none false (.store (some 1) (.t 6) (.t 18)) .done)))) (.o 7 5 (.alloc 5 [(.i 0), (.v (.bool false)), (.i 0), (.v (.bool false)), (.i 0), (.n 2), (.n 7), (.n 7), (.n 7), (.n 9), (.n 9)]) (.op 1 [0] (some 13) none false (.call 13 201 [(.t 12), (.i 0)]) (.op 9 [0] none none false (.store (some 11) (.t 5) (.t 13)) (.op 10 [6, 3, 0] none none false (.store (some 1) (.t 6) (.t 18)) .done))))))))))))))) (.seq (.g (.o 0 19 (.mov (.i 0)) .done) (.block 0 (.loop (.g (.o 0 20 (.bin .lss (.t 19) (.i 6)) .done) (.seq (.cond (.t 20) .skip (.exit 0)) (.seq (.block 1 (.g (.o 0 21 (.mov (.t 19)) (.o 1 7 (.mov (.t 21)) .done)) (.seq (.reg true (.op 0 [] (some 23) none true (.load (some 2) (.t 2)) (.op 1 [] (some 24) none true (.load (some 1) (.t 6)) (.op 2 [] (some 25) none true (.fad (.t 3) 5) (.op 3 [] (some 26) none true (.load none (.t 25)) (.op 4 [] (some 27) none true (.iad 2 (.t 26) (.i 0)) (.op 5 [] (some 28) none true (.fad (.t 27) 1) (.op 6 [] (some 29) none true (.load none (.t 28)) (.op 7 [0, 1, 6, 3] (some 30) none false (.call 30 202 [(.t 23), (.t 24), (.t 29)]) (.op 8 [] (some 22) none true (.mov (.t 30)) (.op 9 [] (some 31) none true (.ext (.t 22) 0) (.op 10 [] (some 32) none true (.ext (.t 22) 1) (.op 11 [] (some 8) none true (.mov (.t 31)) (.op 12 [] (some 9) none true (.mov (.t 32)) .done)))))))))))))) (.seq (.g (.o 0 33 (.mov (.t 9)) .done) (.block 2 (.seq (.g (.o 0 38 (.bin .eql (.t 33) (.i 0)) (.o 1 37 (.mov (.t 38)) .done)) (.cond (.t 37) .skip (.reg false (.o 0 39 (.bin .eql (.t 33) (.i 1)) (.o 1 37 (.mov (.t 39)) .done))))) (.cond (.t 37) (.reg false (.o 0 40 (.fad (.t 5) 6) (.o 1 41 (.load none (.t 40)) (.o 2 42 (.mov (.t 8)) (.o 3 43 (.app 43 7 120 (.t 41) (.t 42)) (.o 4 44 (.fad (.t 5) 3) (.op 5 [] none none false (.store none (.t 44) (.v (.bool true))) (.o 6 45 (.fad (.t 5) 6) (.op 7 [] none none false (.store none (.t 45) (.t 43)) .done))))))))) (.g (.o 0 47 (.bin .eql (.t 33) (.i 2)) (.o 1 46 (.mov (.t 47)) .done)) (.cond (.t 46) (.g (.o 0 48 (.mov (.t 8)) (.o 1 49 (.fad (.t 5) 7) (.op 2 [] none none false (.store none (.t 49) (.t 48)) .done))) (.g (.o 0 50 (.mov (.t 8)) (.o 1 51 (.len (.t 50)) (.o 2 52 (.mov (.i 0)) .done))) (.block 3 (.loop (.g (.o 0 53 (.bin .lss (.t 52) (.t 51)) .done) (.seq (.cond (.t 53) .skip (.exit 3)) (.seq (.block 4 (.g (.o 0 54 (.iad 7 (.t 50) (.t 52)) (.o 1 55 (.load (some 7) (.t 54)) (.o 2 11 (.alloc 11 [(.n 1), (.i 0), (.i 0), (.i 0), (.n 1), (.n 1), (.n 1)]) (.op 3 [] none none false (.store (some 7) (.t 11) (.t 55)) .done)))) (.reg true (.op 0 [] (some 56) none true (.fad (.t 5) 8) (.op 1 [] (some 57) none true (.load none (.t 56)) (.op 2 [] (some 58) none true (.load (some 2) (.t 2)) (.op 3 [] (some 59) none true (.fad (.t 11) 4) (.op 4 [] (some 60) none true (.load (some 1) (.t 59)) (.op 5 [2, 4] (some 61) none false (.call 61 82 [(.t 58), (.t 60), (.i 1)]) (.op 6 [1, 2, 4] (some 62) none false (.app 62 7 120 (.t 57) (.t 61)) (.op 7 [] (some 63) none true (.fad (.t 5) 8) (.op 8 [1, 2, 4] none none false (.store none (.t 63) (.t 62)) .done)))))))))))) (.reg false (.o 0 64 (.bin .add (.t 52) (.i 1)) (.o 1 52 (.mov (.t 64)) .done)))))))))) (.seq (.g (.o 0 66 (.bin .eql (.t 33) (.i 3)) (.o 1 65 (.mov (.t 66)) .done)) (.cond (.t 65) .skip (.reg false (.o 0 67 (.bin .eql (.t 33) (.i 4)) (.o 1 65 (.mov (.t 67)) .done))))) (.cond (.t 65) (.seq (.reg true (.op 0 [] (some 68) none true (.fad (.t 2) 1) (.op 1 [] (some 69) none true (.load none (.t 68)) (.op 2 [] (some 70) none true (.load (some 2) (.t 2)) (.op 4 [] (some 72) none true (.load (some 2) (.t 2)) (.op 8 [] (some 76) none true (.fad (.t 5) 3) (.op 3 [2] (some 71) none false (.call 71 203 [(.t 70)]) (.op 5 [4, 2] (some 73) none false (.call 73 203 [(.t 72)]) (.op 6 [] (some 74) none true (.bin .add (.t 73) (.i 1)) (.op 7 [] (some 75) none true (.cut 7 (.t 69) (some (.t 71)) (some (.t 74))) (.op 9 [4, 2] none none false (.store none (.t 76) (.v (.bool true))) (.op 10 [] (some 77) none true (.fad (.t 5) 7) (.op 11 [1, 2, 4] none none false (.store none (.t 77) (.t 75)) .done))))))))))))) (.g (.o 0 78 (.mov (.t 9)) (.o 1 79 (.bin .eql (.t 78) (.i 4)) .done)) (.cond (.t 79) (.reg false (.o 0 80 (.fad (.t 5) 4) (.op 1 [] none none false (.store none (.t 80) (.i 3)) .done))) .skip))) (.g (.o 0 34 (.mov (.t 7)) (.o 1 35 (.bin .eql (.t 34) (.i 0)) .done)) (.cond (.t 35) (.reg false (.o 0 36 (.fad (.t 5) 4) (.op 1 [] none none false (.store none (.t 36) (.i 5)) .done))) .skip)))))))))) (.seq (.g (.o 0 81 (.mov (.t 9)) (.o 1 82 (.bin .neq (.t 81) (.i 1)) .done)) (.cond (.t 82) (.exit 0) .skip)) (.reg false (.o 0 83 (.mov (.t 8)) (.o 1 84 (.iad 7 (.t 83) (.i 0)) (.o 2 85 (.fad (.t 84) 4) (.o 3 86 (.load (some 1) (.t 85)) (.op 4 [] none none false (.store (some 1) (.t 6) (.t 86)) .done))))))))))) (.reg false (.o 0 87 (.bin .add (.t 19) (.i 1)) (.o 1 19 (.mov (.t 87)) .done))))))))) (.seq (.g (.o 0 88 (.load (some 11) (.t 5)) (.o 1 89 (.call 89 44 [(.t 88)]) (.o 2 90 (.un .not (.t 89)) .done))) (.cond (.t 90) (.g (.o 0 91 (.load (some 11) (.t 3)) (.o 1 92 (.call 92 201 [(.t 91), (.i 2)]) (.op 2 [] none none false (.store (some 11) (.t 4) (.t 92)) .done))) .ret) .skip)) (.seq (.reg true (.op 0 [] (some 93) none true (.fad (.t 5) 6) (.op 1 [] (some 94) none true (.load none (.t 93)) (.op 3 [] (some 96) none true (.fad (.t 5) 7) (.op 4 [] (some 97) none true (.load none (.t 96)) (.op 6 [] (some 99) none true (.fad (.t 5) 8) (.op 7 [] (some 100) none true (.load none (.t 99)) (.op 2 [1] (some 95) none false (.call 95 81 [(.t 94)]) (.op 9 [] (some 102) none true (.fad (.t 5) 6) (.op 5 [4, 1] (some 98) none false (.call 98 81 [(.t 97)]) (.op 8 [7, 4, 1] (some 101) none false (.call 101 81 [(.t 100)]) (.op 10 [1, 4, 7] none none false (.store none (.t 102) (.t 95)) (.op 11 [] (some 103) none true (.fad (.t 5) 7) (.op 12 [1, 4, 7] none none false (.store none (.t 103) (.t 98)) (.op 13 [] (some 104) none true (.fad (.t 5) 8) (.op 14 [1, 4, 7] none none false (.store none (.t 104) (.t 101)) .done)))))))))))))))) (.g (.o 0 105 (.load (some 11) (.t 5)) (.op 1 [] none none false (.store (some 11) (.t 4) (.t 105)) .done)) .ret))))))
theorem dg_impl_Zone_answer : Tryz.f120.body.bind (digC Tryz.prog Tryz.f120.ntmps []) = some c_impl_Zone_answer := by kernel_rfl
theorem rs_impl_Zone_answer : resSlots Tryz.prog Tryz.f120 = some [.m 4 (some 11)] := by kernel_rfl
theorem ok_impl_Zone_answer (z : Zone) (m : Msg) (hz : zoneOk z = true) (hm : msgOk m = true) (hop : m.op = 0) :
    FnOK Tryz.prog 120 [.agg (z.cells.map .d), .agg (m.cells.map .d)] (fun ra _ => ra = [.agg [.d (.sc (.int .i64 (ansM z m).id)), .d (.sc (.bool (ansM z m).reply)), .d (.sc (.int .i64 (ansM z m).op)), .d (.sc (.bool (ansM z m).auth)), .d (.sc (.int .i64 (ansM z m).code)), .d (encQ (ansM z m).qs), .d (encR (ansM z m).an), .d (encR (ansM z m).au), .d (encR (ansM z m).mo), .d (encW (ansM z m).pr), .d (encW (ansM z m).up)]]) := by
  refine FnOK.ofK Tryz.func120 (by kernel_rfl) dg_impl_Zone_answer rs_impl_Zone_answer rfl rfl ?_
  delta c_impl_Zone_answer T.o X.i C.g
  have hsz := zoneOk_small hz
  have hmm : msgMay m = true := by unfold msgOk at hm; simp only [Bool.and_eq_true] at hm; exact hm.1
  have hp := MayP.of hmm
  have hq1 := hp.q1
  have hsm : SmallM m := msgOk_small hm
  have hq0 : 0 < m.qs.length := by omega
  have hqg : m.qs.getD 0 ⟨[], 0⟩ = m.qs[0]'hq0 := by simp [List.getD_eq_getElem?_getD, hq1]
  have hask : askedT (m.qs[0]'hq0).ty = true := by
    rw [← hqg]
    unfold msgMay at hmm
    simp only [Bool.and_eq_true] at hmm
    exact hmm.1.1.2.2
  have hstop := trivial
  refine Kbc (kBox Y Y Y Y Y (kBox Y Y Y Y Y (kAlloc Y Y (Kdb ?_))))
  clear hstop
  refine kCut ⟨tabSl [(2, .c (.ptr (rid 2 0) 1 0)), (3, .c (.ptr (rid 3 0) 1 0)), (4, .c (.ptr (rid 4 0) 1 0)), (5, .c (.ptr (rid 5 0) 1 0)), (6, .c (.ptr (rid 6 0) 1 0))], obTab 1 [(rid 2 0, ⟨1, 0, .box (z.cells.map .d)⟩), (rid 3 0, ⟨1, 0, .box (m.cells.map .d)⟩), (rid 4 0, ⟨1, 0, .box [.d (.sc (.int .i64 0)), .d (.sc (.bool false)), .d (.sc (.int .i64 0)), .d (.sc (.bool false)), .d (.sc (.int .i64 0)), .nil 2, .nil 7, .nil 7, .nil 7, .nil 9, .nil 9]⟩), (rid 5 0, ⟨1, 0, .box [.d (.sc (.int .i64 m.id)), .d (.sc (.bool true)), .d (.sc (.int .i64 m.op)), .d (.sc (.bool false)), .d (.sc (.int .i64 0)), .arr (rid 13 5) 1, .arr (rid 13 6) 1, .arr (rid 13 7) 1, .arr (rid 13 8) 1, .arr (rid 13 9) 1, .arr (rid 13 10) 1]⟩), (rid 13 7, ⟨1, 0, .arr true (encR [])⟩), (rid 13 5, ⟨1, 0, .arr true (encQ [m.qs.getD 0 ⟨[], 0⟩])⟩), (rid 13 6, ⟨1, 0, .arr false (encR [])⟩), (rid 13 8, ⟨1, 0, .arr false (encR [])⟩), (rid 13 9, ⟨1, 0, .arr true (encW [])⟩), (rid 13 10, ⟨1, 0, .arr true (encW [])⟩), (rid 6 0, ⟨1, 0, .box [.d (encBB (m.qs[0]'hq0).name)]⟩)], []⟩ ?_ (fun x hc => ?_)
  case refine_2 =>
    refine kRegD (Ke Y Y Y (Kf Y Y (Ke Y Y Y (kIadR (m := 0) Y Y Y prl (kFadD Y (Ky Y Y (kAlt (Kx Y Y (Ku true (ok_impl_Msg_reply _ _ prx prx) ⟨⟨⟨Y, Y, Y, Y, Y, Y, Y, Y, Y, Y, Y, trivial⟩, leb⟩, rfl, trivial⟩ Y Y Y (fun _ => (kAlt (kAlloc Y Y (kAlloc Y Y (Kx Y Y (Ko Y Y Y Y (Ks Y Y (Ko Y Y Y Y (Kd (kH (hc _ .normA))))))))) (kAlloc Y Y (kAlloc Y Y (Kx Y Y (Ko Y Y Y Y (Ks Y Y (Ko Y Y Y Y (Kd (kH (hc _ .normA))))))))))))) (kAlt (kAlloc Y Y (kAlt (Kx Y Y (Ku true (ok_impl_Msg_reply _ _ prx prx) ⟨⟨⟨Y, Y, Y, Y, Y, Y, Y, Y, Y, Y, Y, trivial⟩, leb⟩, rfl, trivial⟩ Y Y Y (fun _ => (kAlloc Y Y (Kx Y Y (Ko Y Y Y Y (Ks Y Y (Ko Y Y Y Y (Kd (kH (hc _ .normA))))))))))) (kAlloc Y Y (Kx Y Y (Ku true (ok_impl_Msg_reply _ _ prx prx) ⟨⟨⟨Y, Y, Y, Y, Y, Y, Y, Y, Y, Y, Y, trivial⟩, leb⟩, rfl, trivial⟩ Y Y Y (fun _ => (Kx Y Y (Ko Y Y Y Y (Ks Y Y (Ko Y Y Y Y (Kd (kH (hc _ .normA))))))))))))) (kAlloc Y Y (kAlt (Kx Y Y (Ku true (ok_impl_Msg_reply _ _ prx prx) ⟨⟨⟨Y, Y, Y, Y, Y, Y, Y, Y, Y, Y, Y, trivial⟩, leb⟩, rfl, trivial⟩ Y Y Y (fun _ => (kAlloc Y Y (Kx Y Y (Ko Y Y Y Y (Ks Y Y (Ko Y Y Y Y (Kd (kH (hc _ .normA))))))))))) (kAlloc Y Y (Kx Y Y (Ku true (ok_impl_Msg_reply _ _ prx prx) ⟨⟨⟨Y, Y, Y, Y, Y, Y, Y, Y, Y, Y, Y, trivial⟩, leb⟩, rfl, trivial⟩ Y Y Y (fun _ => (Kx Y Y (Ko Y Y Y Y (Ks Y Y (Ko Y Y Y Y (Kd (kH (hc _ .normA)))))))))))))))))))))
  refine kSub (Sub.frzBox (rid 5 0) (rid 13 7) 7 rfl rfl rfl rfl rfl) ?_
  obtain ⟨R, hR⟩ : ∃ R, R = ansRaw z m := ⟨_, rfl⟩
  refine Kb (kCut ⟨tabSl [(2, .c (.ptr (rid 2 0) 1 0)), (3, .c (.ptr (rid 3 0) 1 0)), (4, .c (.ptr (rid 4 0) 1 0)), (5, .c (.ptr (rid 5 0) 1 0))], obTab 1 [(rid 2 0, ⟨1, 0, .box (z.cells.map .d)⟩), (rid 3 0, ⟨1, 0, .box (m.cells.map .d)⟩), (rid 4 0, ⟨1, 0, .box [.d (.sc (.int .i64 0)), .d (.sc (.bool false)), .d (.sc (.int .i64 0)), .d (.sc (.bool false)), .d (.sc (.int .i64 0)), .nil 2, .nil 7, .nil 7, .nil 7, .nil 9, .nil 9]⟩), (rid 5 0, ⟨1, 0, .box [.d (.sc (.int .i64 R.id)), .d (.sc (.bool R.reply)), .d (.sc (.int .i64 R.op)), .d (.sc (.bool R.auth)), .d (.sc (.int .i64 R.code)), .arr (rid 13 5) 1, .arr (rid 13 6) 1, .d (encR R.au), .arr (rid 13 8) 1, .arr (rid 13 9) 1, .arr (rid 13 10) 1]⟩), (rid 13 5, ⟨1, 0, .arr true (encQ R.qs)⟩), (rid 13 6, ⟨1, 0, .arr false (encR R.an)⟩), (rid 13 8, ⟨1, 0, .arr false (encR R.mo)⟩), (rid 13 9, ⟨1, 0, .arr true (encW R.pr)⟩), (rid 13 10, ⟨1, 0, .arr true (encW R.up)⟩)], []⟩ ?_ (fun x hc => ?_))
  case refine_2 =>
    refine Kbc (Ka Y (Kd (Kt ?_)))
    refine kLoop (α := { y : Nat × Msg × List (List UInt8) // (y.1 ≤ 6 ∧ nameOk y.2.2 = true) ∧ AnsP z m y.1 y.2.1 ∧ R = ansGo z (m.qs[0]'hq0).ty (6 - y.1) (decide (y.1 = 0)) y.2.1 y.2.2 }) (fun y => ⟨tabSl [(2, .c (.ptr (rid 2 0) 1 0)), (3, .c (.ptr (rid 3 0) 1 0)), (4, .c (.ptr (rid 4 0) 1 0)), (5, .c (.ptr (rid 5 0) 1 0)), (6, .c (.ptr (rid 6 0) 1 0)), (19, .i y.1.1)], obTab 1 [(rid 2 0, ⟨1, 0, .box (z.cells.map .d)⟩), (rid 3 0, ⟨1, 0, .box (m.cells.map .d)⟩), (rid 4 0, ⟨1, 0, .box [.d (.sc (.int .i64 0)), .d (.sc (.bool false)), .d (.sc (.int .i64 0)), .d (.sc (.bool false)), .d (.sc (.int .i64 0)), .nil 2, .nil 7, .nil 7, .nil 7, .nil 9, .nil 9]⟩), (rid 5 0, ⟨1, 0, .box [.d (.sc (.int .i64 m.id)), .d (.sc (.bool true)), .d (.sc (.int .i64 m.op)), .d (.sc (.bool y.1.2.1.auth)), .d (.sc (.int .i64 0)), .arr (rid 13 5) 1, .arr (rid 13 6) 1, .d (encR []), .arr (rid 13 8) 1, .arr (rid 13 9) 1, .arr (rid 13 10) 1]⟩), (rid 13 5, ⟨1, 0, .arr true (encQ [m.qs.getD 0 ⟨[], 0⟩])⟩), (rid 13 6, ⟨1, 0, .arr false (encR y.1.2.1.an)⟩), (rid 13 8, ⟨1, 0, .arr false (encR [])⟩), (rid 13 9, ⟨1, 0, .arr true (encW [])⟩), (rid 13 10, ⟨1, 0, .arr true (encW [])⟩), (rid 6 0, ⟨1, 0, .box [.d (encBB y.1.2.2)]⟩)], []⟩) (fun y => 6 - y.1.1) ⟨(0, repM m 0, (m.qs[0]'hq0).name), ⟨Nat.zero_le _, (hqg ▸ hp.qn)⟩, repM_p z m, (by rw [hR]; unfold ansRaw; rw [hqg]; rfl)⟩ .normA ?_
    rintro ⟨⟨i, ⟨oid, orp, oop, oau, ocd, oqs, oan, oas, omo, opr, oup⟩, n⟩, ⟨hi, hn⟩, hA, hG⟩
    simp only at hi hn hA hG ⊢
    have hA0 := hA
    obtain ⟨a1, a2, a3, a4, a5, a6, a7, a8, a9, a10⟩ := hA0
    simp only at a1 a2 a3 a4 a5 a6 a7 a8 a9 a10
    subst a1 a2 a3 a4 a6 a7 a8 a9 a10
    rcases Nat.lt_or_ge i 6 with hlt | hge
    · have hsn : SmallBB n := .ok hn
      have hl := zone_look (n := n) (t := (m.qs[0]'hq0).ty) hz
      have hlr : SmallRs (lookupN z n (m.qs[0]'hq0).ty).1 := ⟨by omega, fun r hr => hsz.r.mem r (hl.2 r hr)⟩
      have han := a5.1
      obtain ⟨k, hk⟩ : ∃ k, 6 - i = k + 1 := ⟨5 - i, by omega⟩
      rw [hk] at hG
      unfold ansGo at hG
      have htp := topIx_lt hz
      have hpos := zoneOk_pos hz
      have hlk := look_alias (t := (m.qs[0]'hq0).ty) hz hn hask
      rcases look_codes z n (m.qs[0]'hq0).ty with e | e | e | e | e | e
      · have hR5 : R = ⟨m.id, true, m.op, true, 0, [m.qs.getD 0 ⟨[], 0⟩], oan ++ (lookupN z n (m.qs[0]'hq0).ty).1, [], [], [], []⟩ := by rw [hG, if_pos e]
        subst hR5
        clear hG hR
        refine Kbc (Kj Y Y Y (Kdb (Km Y (fun g0 => Kn (Kb (Kt (Kbc (Ka Y (Ka Y (Kdb (kRegD (Ke Y Y Y (Ke Y Y Y (Kf Y Y (Ke Y Y Y (kIadR (m := 0) Y Y Y prl (kFadD Y (Ky Y Y (Ks Y Y (kCallD2 (ok_impl_Zone_lookup _ _ _ prx prx) ⟨⟨⟨Y, Y, trivial⟩, leb⟩, ⟨⟨Y, trivial⟩, leb⟩, rfl, trivial⟩ Y Y Y Y (kMovT Y (kExtC Y Y (kExtC Y Y (Ka Y (Ka Y (Kd (kH (Kb (Kbc (Ka Y (Kd (Kt (Kb (Kbc (Kj Y Y Y (Ka Y (Kd (Km Y (fun g1 => Kn (Km Y (fun g2 => Kc (Kf Y Y (Ke Y Y Y (Ka Y ?_)))) (fun g2 => om))) (fun g1 => om)))))))))))))))))))))))))))))))))))) (fun g0 => om))))
        refine kAppR (f := Rr.cells) (l := oan) (l' := (lookupN z n (m.qs[0]'hq0).ty).1) rfl rfl rfl rfl rfl rfl rfl rfl om ?_
        refine Kf Y Y (Ko Y Y Y Y (Kf Y Y (Ko Y Y Y Y (Kd (Kv (Kb (Kbc (Ka Y (Kj Y Y Y (Kd (kCondIN Y (fun g0 => kExit (kExC (kExB' rfl (kExC (kExI (kExB (hc _ .normA))))))) (fun g0 => om))))))))))))
      · rw [if_neg (by omega), if_pos e] at hG
        have hlk := hlk e
        have e0 : (lookupN z n (m.qs[0]'hq0).ty).1.getD 0 emptyR = (lookupN z n (m.qs[0]'hq0).ty).1[0]'(by omega) := by simp [List.getD_eq_getElem?_getD, hlk.1]
        refine Kbc (Kj Y Y Y (Kdb (Km Y (fun g0 => Kn (Kb (Kt (Kbc (Ka Y (Ka Y (Kdb (kRegD (Ke Y Y Y (Ke Y Y Y (Kf Y Y (Ke Y Y Y (kIadR (m := 0) Y Y Y prl (kFadD Y (Ky Y Y (Ks Y Y (kCallD2 (ok_impl_Zone_lookup _ _ _ prx prx) ⟨⟨⟨Y, Y, trivial⟩, leb⟩, ⟨⟨Y, trivial⟩, leb⟩, rfl, trivial⟩ Y Y Y Y (kMovT Y (kExtC Y Y (kExtC Y Y (Ka Y (Ka Y (Kd (kH (Kb (Kbc (Ka Y (Kd (Kt (Kb (Kbc (Kj Y Y Y (Ka Y (Kd (Km Y (fun g1 => om) (fun g1 => Kc (Kj Y Y Y (Ka Y (Kd (Km Y (fun g2 => Kc (Kf Y Y (Ke Y Y Y (Ka Y ?_)))) (fun g2 => om))))))))))))))))))))))))))))))))))))))))) (fun g0 => om))))
        refine kAppR (f := Rr.cells) (l := oan) (l' := (lookupN z n (m.qs[0]'hq0).ty).1) rfl rfl rfl rfl rfl rfl rfl rfl om ?_
        refine (Kf Y Y (Ko Y Y Y Y (Kf Y Y (Ko Y Y Y Y (Kd (Kv (Kb (Kbc (Ka Y (Kj Y Y Y (Kd (kCondIN Y (fun g0 => om) (fun g0 => Kn (Kc (Ka Y (kIadR (m := 0) Y Y Y prl (kFadD Y (Ky Y Y (Ko Y Y Y Y (Kd (Kv (Kc (kAdd Y Y om (Ka Y (Kd ?_)))))))))))))))))))))))))
        exact kInv ⟨⟨(i + 1, ⟨m.id, true, m.op, true, 0, [m.qs.getD 0 ⟨[], 0⟩], oan ++ (lookupN z n (m.qs[0]'hq0).ty).1, [], [], [], []⟩, ((lookupN z n (m.qs[0]'hq0).ty).1[0]'om).to), ⟨by omega, by rw [← e0]; exact hlk.2⟩, hA.more hz, by rw [hG, e0, show 6 - (i + 1) = k by omega]; rfl⟩, by simp only; omega, .normA⟩
      · have hR5 : R = ⟨m.id, true, m.op, oau, 0, [m.qs.getD 0 ⟨[], 0⟩], oan, (lookupN z n (m.qs[0]'hq0).ty).1, glueZ z (lookupN z n (m.qs[0]'hq0).ty).1, [], []⟩ := by rw [hG, if_neg (by omega), if_neg (by omega), if_pos e]; rfl
        subst hR5
        clear hG hR
        refine Kbc (Kj Y Y Y (Kdb (Km Y (fun g0 => Kn (Kb (Kt (Kbc (Ka Y (Ka Y (Kdb (kRegD (Ke Y Y Y (Ke Y Y Y (Kf Y Y (Ke Y Y Y (kIadR (m := 0) Y Y Y prl (kFadD Y (Ky Y Y (Ks Y Y (kCallD2 (ok_impl_Zone_lookup _ _ _ prx prx) ⟨⟨⟨Y, Y, trivial⟩, leb⟩, ⟨⟨Y, trivial⟩, leb⟩, rfl, trivial⟩ Y Y Y Y (kMovT Y (kExtC Y Y (kExtC Y Y (Ka Y (Ka Y (Kd (kH (Kb (Kbc (Ka Y (Kd (Kt (Kb (Kbc (Kj Y Y Y (Ka Y (Kd (Km Y (fun g1 => om) (fun g1 => Kc (Kj Y Y Y (Ka Y (Kd (Km Y (fun g2 => om) (fun g2 => Kbc (Kj Y Y Y (Ka Y (Kd (Km Y (fun g3 => Kbc (Ka Y (Kf Y Y (Ko Y Y Y Y (Kdb (Kc (Ka Y (Kq Y Y (Ka Y (Kd (Kt ?_))))))))))) (fun g3 => om)))))))))))))))))))))))))))))))))))))))))))))) (fun g0 => om))))
        refine kLoop (α := { j : Nat // j ≤ (lookupN z n (m.qs[0]'hq0).ty).1.length }) (fun y => ⟨tabSl [(2, .c (.ptr (rid 2 0) 1 0)), (3, .c (.ptr (rid 3 0) 1 0)), (4, .c (.ptr (rid 4 0) 1 0)), (5, .c (.ptr (rid 5 0) 1 0)), (6, .c (.ptr (rid 6 0) 1 0)), (8, .dv (encR (lookupN z n (m.qs[0]'hq0).ty).1)), (9, .i 2), (19, .i i), (50, .dv (encR (lookupN z n (m.qs[0]'hq0).ty).1)), (51, .i (lookupN z n (m.qs[0]'hq0).ty).1.length), (52, .i y.1)], obTab 1 [(rid 2 0, ⟨1, 0, .box (z.cells.map .d)⟩), (rid 3 0, ⟨1, 0, .box (m.cells.map .d)⟩), (rid 4 0, ⟨1, 0, .box [.d (.sc (.int .i64 0)), .d (.sc (.bool false)), .d (.sc (.int .i64 0)), .d (.sc (.bool false)), .d (.sc (.int .i64 0)), .nil 2, .nil 7, .nil 7, .nil 7, .nil 9, .nil 9]⟩), (rid 5 0, ⟨1, 0, .box [.d (.sc (.int .i64 m.id)), .d (.sc (.bool true)), .d (.sc (.int .i64 m.op)), .d (.sc (.bool oau)), .d (.sc (.int .i64 0)), .arr (rid 13 5) 1, .arr (rid 13 6) 1, .d (encR (lookupN z n (m.qs[0]'hq0).ty).1), .arr (rid 13 8) 1, .arr (rid 13 9) 1, .arr (rid 13 10) 1]⟩), (rid 13 5, ⟨1, 0, .arr true (encQ [m.qs.getD 0 ⟨[], 0⟩])⟩), (rid 13 6, ⟨1, 0, .arr false (encR oan)⟩), (rid 13 8, ⟨1, 0, .arr false (encR (glueZ z ((lookupN z n (m.qs[0]'hq0).ty).1.take y.1)))⟩), (rid 13 9, ⟨1, 0, .arr true (encW [])⟩), (rid 13 10, ⟨1, 0, .arr true (encW [])⟩), (rid 6 0, ⟨1, 0, .box [.d (encBB n)]⟩)], []⟩) (fun y => (lookupN z n (m.qs[0]'hq0).ty).1.length - y.1) ⟨0, Nat.zero_le _⟩ .normA ?_
        rintro ⟨j, hj⟩
        simp only
        have hgl := glue_le hz ((lookupN z n (m.qs[0]'hq0).ty).1.take j)
        rw [List.length_take, Nat.min_eq_left hj] at hgl
        rcases Nat.lt_or_ge j (lookupN z n (m.qs[0]'hq0).ty).1.length with hjl | hjg
        · have hgt := glueZ_take (z := z) (lookupN z n (m.qs[0]'hq0).ty).1 j hjl
          have hbn := (hlr.mem _ (List.getElem_mem hjl)).t.len
          have hso : (setOf z.rrs (lookupN z n (m.qs[0]'hq0).ty).1[j].to 1).length ≤ 60 := Nat.le_trans (List.length_filter_le _ _) hpos.2
          refine Kbc (Kj Y Y Y (Kdb (Km Y (fun g0 => Kn (Kb (Kt (Kbc (kIadR Y Y Y prl (Ky Y Y (kAlloc Y Y (Ko Y Y Y Y (Kd (kRegD (Kf Y Y (Ke Y Y Y (Ke Y Y Y (Kf Y Y (Ke Y Y Y (Kx Y Y (kCallD2 (ok_impl_Zone_set _ _ _ prx prx) ⟨⟨⟨Y, Y, trivial⟩, leb⟩, ⟨⟨Y, trivial⟩, leb⟩, rfl, trivial⟩ Y Y Y Y (Ks Y Y ?_)))))))))))))))))) (fun g0 => om))))
          refine kAppR (f := Rr.cells) (l := glueZ z ((lookupN z n (m.qs[0]'hq0).ty).1.take j)) (l' := setOf z.rrs ((lookupN z n (m.qs[0]'hq0).ty).1[j]'hjl).to 1) rfl rfl rfl rfl rfl rfl rfl rfl om ?_
          refine Kf Y Y (Ks Y Y (Ko Y Y Y Y (Kd (kH (Kv (Kc (kAdd Y Y om (Ka Y (Kd ?_)))))))))
          refine kInv ⟨⟨j + 1, by omega⟩, by simp only; omega, ?_⟩
          simp only [hgt]
          exact .normA
        · have hje : (lookupN z n (m.qs[0]'hq0).ty).1.take j = (lookupN z n (m.qs[0]'hq0).ty).1 := List.take_of_length_le hjg
          rw [hje]
          refine Kbc (Kj Y Y Y (Kdb (Km Y (fun g0 => om) (fun g0 => kExit (kExC (kExI (kExB (Kv (Kb (Kbc (Ka Y (Kj Y Y Y (Kd (kCondT Y (kExit (kExC (kExB' rfl (kExC (kExI (kExB (hc _ .normA)))))))))))))))))))))
      · have hR5 : R = ⟨m.id, true, m.op, true, 0, [m.qs.getD 0 ⟨[], 0⟩], oan, ((z.rrs.drop (topIx z.rrs).toNat).take ((topIx z.rrs + 1).toNat - (topIx z.rrs).toNat)), [], [], []⟩ := by rw [hG, if_neg (by omega), if_neg (by omega), if_neg (by omega), if_pos e, zTop_cut hz]
        subst hR5
        clear hG hR
        refine Kbc (Kj Y Y Y (Kdb (Km Y (fun g0 => Kn (Kb (Kt (Kbc (Ka Y (Ka Y (Kdb (kRegD (Ke Y Y Y (Ke Y Y Y (Kf Y Y (Ke Y Y Y (kIadR (m := 0) Y Y Y prl (kFadD Y (Ky Y Y (Ks Y Y (kCallD2 (ok_impl_Zone_lookup _ _ _ prx prx) ⟨⟨⟨Y, Y, trivial⟩, leb⟩, ⟨⟨Y, trivial⟩, leb⟩, rfl, trivial⟩ Y Y Y Y (kMovT Y (kExtC Y Y (kExtC Y Y (Ka Y (Ka Y (Kd (kH (Kb (Kbc (Ka Y (Kd (Kt (Kb (Kbc (Kj Y Y Y (Ka Y (Kd (Km Y (fun g1 => om) (fun g1 => Kc (Kj Y Y Y (Ka Y (Kd (Km Y (fun g2 => om) (fun g2 => Kbc (Kj Y Y Y (Ka Y (Kd (Km Y (fun g3 => om) (fun g3 => Kb (Kbc (Kj Y Y Y (Ka Y (Kd (Km Y (fun g4 => Kn (Km Y (fun g5 => Kb (kRegD (Kf Y Y (Ke Y Y Y (Ke Y Y Y (Ke Y Y Y (Kf Y Y (Kx Y Y (Kp (ok_impl_Zone_top _ prx) ⟨⟨⟨Y, Y, trivial⟩, leb⟩, trivial⟩ Y Y Y Y Y (Kx Y Y (Kp (ok_impl_Zone_top _ prx) ⟨⟨⟨Y, Y, trivial⟩, leb⟩, trivial⟩ Y Y Y Y Y (kAdd Y Y om (kCutBT Y Y Y om (Kx Y Y (Ko Y Y Y Y (Kf Y Y (Ks Y Y (Ko Y Y Y Y (Kd (kH (Kbc (Ka Y (Kj Y Y Y (Kd (Km Y (fun g6 => om) (fun g6 => Kn (Kv (Kb (Kbc (Ka Y (Kj Y Y Y (Kd (kCondIN Y (fun g7 => kExit (kExC (kExB' rfl (kExC (kExI (kExB (hc _ .normA))))))) (fun g7 => om)))))))))))))))))))))))))))))))))) (fun g5 => om))) (fun g4 => om)))))))))))))))))))))))))))))))))))))))))))))))))))) (fun g0 => om))))
      · have hR5 : R = ⟨m.id, true, m.op, true, 3, [m.qs.getD 0 ⟨[], 0⟩], oan, ((z.rrs.drop (topIx z.rrs).toNat).take ((topIx z.rrs + 1).toNat - (topIx z.rrs).toNat)), [], [], []⟩ := by rw [hG, if_neg (by omega), if_neg (by omega), if_neg (by omega), if_neg (by omega), if_pos e, zTop_cut hz]
        subst hR5
        clear hG hR
        refine Kbc (Kj Y Y Y (Kdb (Km Y (fun g0 => Kn (Kb (Kt (Kbc (Ka Y (Ka Y (Kdb (kRegD (Ke Y Y Y (Ke Y Y Y (Kf Y Y (Ke Y Y Y (kIadR (m := 0) Y Y Y prl (kFadD Y (Ky Y Y (Ks Y Y (kCallD2 (ok_impl_Zone_lookup _ _ _ prx prx) ⟨⟨⟨Y, Y, trivial⟩, leb⟩, ⟨⟨Y, trivial⟩, leb⟩, rfl, trivial⟩ Y Y Y Y (kMovT Y (kExtC Y Y (kExtC Y Y (Ka Y (Ka Y (Kd (kH (Kb (Kbc (Ka Y (Kd (Kt (Kb (Kbc (Kj Y Y Y (Ka Y (Kd (Km Y (fun g1 => om) (fun g1 => Kc (Kj Y Y Y (Ka Y (Kd (Km Y (fun g2 => om) (fun g2 => Kbc (Kj Y Y Y (Ka Y (Kd (Km Y (fun g3 => om) (fun g3 => Kb (Kbc (Kj Y Y Y (Ka Y (Kd (Km Y (fun g4 => om) (fun g4 => Kc (Kj Y Y Y (Ka Y (Kd (Km Y (fun g5 => Kb (kRegD (Kf Y Y (Ke Y Y Y (Ke Y Y Y (Ke Y Y Y (Kf Y Y (Kx Y Y (Kp (ok_impl_Zone_top _ prx) ⟨⟨⟨Y, Y, trivial⟩, leb⟩, trivial⟩ Y Y Y Y Y (Kx Y Y (Kp (ok_impl_Zone_top _ prx) ⟨⟨⟨Y, Y, trivial⟩, leb⟩, trivial⟩ Y Y Y Y Y (kAdd Y Y om (kCutBT Y Y Y om (Kx Y Y (Ko Y Y Y Y (Kf Y Y (Ks Y Y (Ko Y Y Y Y (Kd (kH (Kbc (Ka Y (Kj Y Y Y (Kd (Km Y (fun g6 => Kc (Kf Y Y (Ko Y Y Y Y (Kd (Kv (Kb (Kbc (Ka Y (Kj Y Y Y (Kd (kCondIN Y (fun g7 => kExit (kExC (kExB' rfl (kExC (kExI (kExB (hc _ .normA))))))) (fun g7 => om)))))))))))) (fun g6 => om)))))))))))))))))))))))))) (fun g5 => om))))))))))))))))))))))))))))))))))))))))))))))))))))))))) (fun g0 => om))))
      · rw [if_neg (by omega), if_neg (by omega), if_neg (by omega), if_neg (by omega), if_neg (by omega)] at hG
        by_cases h0 : i = 0
        · have hR5 : R = ⟨m.id, true, m.op, oau, 5, [m.qs.getD 0 ⟨[], 0⟩], oan, [], [], [], []⟩ := by rw [hG, if_pos (by simp [h0])]
          subst hR5
          clear hG hR
          refine Kbc (Kj Y Y Y (Kdb (Km Y (fun g0 => Kn (Kb (Kt (Kbc (Ka Y (Ka Y (Kdb (kRegD (Ke Y Y Y (Ke Y Y Y (Kf Y Y (Ke Y Y Y (kIadR (m := 0) Y Y Y prl (kFadD Y (Ky Y Y (Ks Y Y (kCallD2 (ok_impl_Zone_lookup _ _ _ prx prx) ⟨⟨⟨Y, Y, trivial⟩, leb⟩, ⟨⟨Y, trivial⟩, leb⟩, rfl, trivial⟩ Y Y Y Y (kMovT Y (kExtC Y Y (kExtC Y Y (Ka Y (Ka Y (Kd (kH (Kb (Kbc (Ka Y (Kd (Kt (Kb (Kbc (Kj Y Y Y (Ka Y (Kd (Km Y (fun g1 => om) (fun g1 => Kc (Kj Y Y Y (Ka Y (Kd (Km Y (fun g2 => om) (fun g2 => Kbc (Kj Y Y Y (Ka Y (Kd (Km Y (fun g3 => om) (fun g3 => Kb (Kbc (Kj Y Y Y (Ka Y (Kd (Km Y (fun g4 => om) (fun g4 => Kc (Kj Y Y Y (Ka Y (Kd (Km Y (fun g5 => om) (fun g5 => Kbc (Ka Y (Kj Y Y Y (Kd (Km Y (fun g6 => Kc (Kf Y Y (Ko Y Y Y Y (Kd (Kv (Kb (Kbc (Ka Y (Kj Y Y Y (Kd (kCondIN Y (fun g7 => kExit (kExC (kExB' rfl (kExC (kExI (kExB (hc _ .normA))))))) (fun g7 => om)))))))))))) (fun g6 => om)))))))))))))))))))))))))))))))))))))))))))))))))))))))))))))) (fun g0 => om))))
        · have hR5 : R = ⟨m.id, true, m.op, oau, 0, [m.qs.getD 0 ⟨[], 0⟩], oan, [], [], [], []⟩ := by rw [hG, if_neg (by simp [h0])]
          subst hR5
          clear hG hR
          refine Kbc (Kj Y Y Y (Kdb (Km Y (fun g0 => Kn (Kb (Kt (Kbc (Ka Y (Ka Y (Kdb (kRegD (Ke Y Y Y (Ke Y Y Y (Kf Y Y (Ke Y Y Y (kIadR (m := 0) Y Y Y prl (kFadD Y (Ky Y Y (Ks Y Y (kCallD2 (ok_impl_Zone_lookup _ _ _ prx prx) ⟨⟨⟨Y, Y, trivial⟩, leb⟩, ⟨⟨Y, trivial⟩, leb⟩, rfl, trivial⟩ Y Y Y Y (kMovT Y (kExtC Y Y (kExtC Y Y (Ka Y (Ka Y (Kd (kH (Kb (Kbc (Ka Y (Kd (Kt (Kb (Kbc (Kj Y Y Y (Ka Y (Kd (Km Y (fun g1 => om) (fun g1 => Kc (Kj Y Y Y (Ka Y (Kd (Km Y (fun g2 => om) (fun g2 => Kbc (Kj Y Y Y (Ka Y (Kd (Km Y (fun g3 => om) (fun g3 => Kb (Kbc (Kj Y Y Y (Ka Y (Kd (Km Y (fun g4 => om) (fun g4 => Kc (Kj Y Y Y (Ka Y (Kd (Km Y (fun g5 => om) (fun g5 => Kbc (Ka Y (Kj Y Y Y (Kd (Km Y (fun g6 => om) (fun g6 => Kn (Kv (Kb (Kbc (Ka Y (Kj Y Y Y (Kd (kCondIN Y (fun g7 => kExit (kExC (kExB' rfl (kExC (kExI (kExB (hc _ .normA))))))) (fun g7 => om)))))))))))))))))))))))))))))))))))))))))))))))))))))))))))))))))))))) (fun g0 => om))))
    · have e : 6 - i = 0 := by omega
      rw [e] at hG
      unfold ansGo at hG
      subst hG
      refine Kbc (Kj Y Y Y (Kdb (Km Y (fun g0 => om) (fun g0 => kExit (kExC (kExI (kExB (hc _ .normA))))))))
  have hRs : SmallM R := by rw [hR]; exact (ansRaw_e hz).small hz hm
  have hRR : SmallRs R.an ∧ SmallRs R.au ∧ SmallRs R.mo := ⟨hRs.a, hRs.b, hRs.c⟩
  obtain ⟨hR1, hR2, hR3⟩ := hRR
  unfold ansM
  rw [← hR]
  cases hok : msgOk R
  · rw [if_neg (by simp)]
    refine Kb (Kbc (Ke Y Y Y (Kp (ok_impl_MsgOk _ prx) ⟨⟨⟨Y, Y, Y, Y, Y, Y, Y, Y, Y, Y, Y, trivial⟩, leb⟩, trivial⟩ Y Y Y Y Y (Kw Y Y (Kd (kCondN Y (fun g0 => Kbc (Ke Y Y Y (Ku true (ok_impl_Msg_reply _ _ prx prx) ⟨⟨⟨Y, Y, Y, Y, Y, Y, Y, Y, Y, Y, Y, trivial⟩, leb⟩, rfl, trivial⟩ Y Y Y (fun _ => (Ko Y Y Y Y (Kd (Kr (Er (ra := [.agg [(.d _), (.d _), (.d _), (.d _), (.d _), (.d _), (.d _), (.d _), (.d _), (.d _), (.d _)]]) rfl rfl)))))))) (fun g0 => Kn (Kb (kRegD (Kf Y Y (Ke Y Y Y (Kf Y Y (Ke Y Y Y (Kf Y Y (Ke Y Y Y (Kx Y Y (Ku true (ok_impl_copyRrs _ prx) ⟨Y, trivial⟩ Y Y Y (fun _ => (Kf Y Y (Kx Y Y (Ku true (ok_impl_copyRrs _ prx) ⟨Y, trivial⟩ Y Y Y (fun _ => (Ks Y Y (Ku true (ok_impl_copyRrs _ prx) ⟨Y, trivial⟩ Y Y Y (fun _ => (Ks Y Y (Ko Y Y Y Y (Kf Y Y (Ks Y Y (Ko Y Y Y Y (Kf Y Y (Ks Y Y (Ko Y Y Y Y (Kd (kH (Kbc (Ke Y Y Y (Ko Y Y Y Y (Kd (kMem [(20480, ⟨1, 0, .box [.d _, .d _, .d _, .d _, .d _, .arr 57349 1, .arr 393216 2, .arr 405504 2, .arr 417792 2, .arr 57353 1, .arr 57354 1]⟩), (57349, ⟨1, 0, .arr true _⟩), (393216, ⟨2, 0, .arr true _⟩), (405504, ⟨2, 0, .arr true _⟩), (417792, ⟨2, 0, .arr true _⟩), (57353, ⟨1, 0, .arr true _⟩), (57354, ⟨1, 0, .arr true _⟩)] [(4, .c (.ptr 20480 1 0))] [] ⟨Y, Y, Y, Y, Y, Y, Y, trivial⟩ ⟨Y, trivial⟩ Y (Kr (Er (ra := [.agg [(.d _), (.d _), (.d _), (.d _), (.d _), (.d _), (.d _), (.d _), (.d _), (.d _), (.d _)]]) rfl ?_))))))))))))))))))))))))))))))))))))))))))
    rw [hok] at g0; cases g0
  · rw [if_pos rfl]
    refine Kb (Kbc (Ke Y Y Y (Kp (ok_impl_MsgOk _ prx) ⟨⟨⟨Y, Y, Y, Y, Y, Y, Y, Y, Y, Y, Y, trivial⟩, leb⟩, trivial⟩ Y Y Y Y Y (Kw Y Y (Kd (kCondN Y (fun g0 => Kbc (Ke Y Y Y (Ku true (ok_impl_Msg_reply _ _ prx prx) ⟨⟨⟨Y, Y, Y, Y, Y, Y, Y, Y, Y, Y, Y, trivial⟩, leb⟩, rfl, trivial⟩ Y Y Y (fun _ => (Ko Y Y Y Y (Kd (Kr (Er (ra := [.agg [(.d _), (.d _), (.d _), (.d _), (.d _), (.d _), (.d _), (.d _), (.d _), (.d _), (.d _)]]) rfl ?_)))))))) (fun g0 => Kn (Kb (kRegD (Kf Y Y (Ke Y Y Y (Kf Y Y (Ke Y Y Y (Kf Y Y (Ke Y Y Y (Kx Y Y (Ku true (ok_impl_copyRrs _ prx) ⟨Y, trivial⟩ Y Y Y (fun _ => (Kf Y Y (Kx Y Y (Ku true (ok_impl_copyRrs _ prx) ⟨Y, trivial⟩ Y Y Y (fun _ => (Ks Y Y (Ku true (ok_impl_copyRrs _ prx) ⟨Y, trivial⟩ Y Y Y (fun _ => (Ks Y Y (Ko Y Y Y Y (Kf Y Y (Ks Y Y (Ko Y Y Y Y (Kf Y Y (Ks Y Y (Ko Y Y Y Y (Kd (kH (Kbc (Ke Y Y Y (Ko Y Y Y Y (Kd (kMem [(20480, ⟨1, 0, .box [.d _, .d _, .d _, .d _, .d _, .arr 57349 1, .arr 393216 2, .arr 405504 2, .arr 417792 2, .arr 57353 1, .arr 57354 1]⟩), (57349, ⟨1, 0, .arr true _⟩), (393216, ⟨2, 0, .arr true _⟩), (405504, ⟨2, 0, .arr true _⟩), (417792, ⟨2, 0, .arr true _⟩), (57353, ⟨1, 0, .arr true _⟩), (57354, ⟨1, 0, .arr true _⟩)] [(4, .c (.ptr 20480 1 0))] [] ⟨Y, Y, Y, Y, Y, Y, Y, trivial⟩ ⟨Y, trivial⟩ Y (Kr (Er (ra := [.agg [(.d _), (.d _), (.d _), (.d _), (.d _), (.d _), (.d _), (.d _), (.d _), (.d _), (.d _)]]) rfl rfl))))))))))))))))))))))))))))))))))))))))))
    rw [hok] at g0; cases g0

def c_impl_Answer : C := (.g (.o 0 2 (.box 2 (.t 0)) (.o 1 3 (.box 3 (.t 1)) (.o 2 4 (.alloc 4 [(.i 0), (.v (.bool false)), (.i 0), (.v (.bool false)), (.i 0), (.n 2), (.n 7), (.n 7), (.n 7), (.n 9), (.n 9)]) .done))) (.seq (.g (.o 0 5 (.load (some 2) (.t 2)) (.o 1 6 (.call 6 70 [(.t 5)]) (.o 2 7 (.un .not (.t 6)) (.o 3 8 (.mov (.t 7)) (.op 4 [] (some 9) (some (8, false)) false (.load (some 11) (.t 3)) (.op 5 [] (some 10) (some (8, false)) false (.call 10 119 [(.t 9)]) (.op 6 [] (some 11) (some (8, false)) false (.un .not (.t 10)) (.o 7 12 (.pick (.t 8) (.v (.bool true)) (.t 11)) .done)))))))) (.cond (.t 12) (.g (.o 0 13 (.build [(.i 0), (.v (.bool false)), (.i 0), (.v (.bool false)), (.i 0), (.n 2), (.n 7), (.n 7), (.n 7), (.n 9), (.n 9)] []) (.op 1 [] none none false (.store (some 11) (.t 4) (.t 13)) .done)) .ret) .skip)) (.g (.o 0 14 (.load (some 2) (.t 2)) (.o 1 15 (.load (some 11) (.t 3)) (.o 2 16 (.call 16 120 [(.t 14), (.t 15)]) (.op 3 [] none none false (.store (some 11) (.t 4) (.t 16)) .done)))) .ret)))
theorem dg_impl_Answer : Tryz.f41.body.bind (digC Tryz.prog Tryz.f41.ntmps []) = some c_impl_Answer := by kernel_rfl
theorem rs_impl_Answer : resSlots Tryz.prog Tryz.f41 = some [.m 4 (some 11)] := by kernel_rfl
theorem ok_impl_Answer (z : Zone) (m : Msg) (hz : SmallZ z) (hm : SmallM m) :
    FnOK Tryz.prog 41 [.agg (z.cells.map .d), .agg (m.cells.map .d)] (fun ra _ => ra = [.agg [.d (.sc (.int .i64 (answerN z m).id)), .d (.sc (.bool (answerN z m).reply)), .d (.sc (.int .i64 (answerN z m).op)), .d (.sc (.bool (answerN z m).auth)), .d (.sc (.int .i64 (answerN z m).code)), .d (encQ (answerN z m).qs), .d (encR (answerN z m).an), .d (encR (answerN z m).au), .d (encR (answerN z m).mo), .d (encW (answerN z m).pr), .d (encW (answerN z m).up)]]) := by
  refine FnOK.ofK Tryz.func41 (by kernel_rfl) dg_impl_Answer rs_impl_Answer rfl rfl ?_
  delta c_impl_Answer T.o X.i C.g
  cases h1 : zoneOk z
  · have e : answerN z m = nothingM := by unfold answerN; rw [h1]; rfl
    rw [e]
    refine Kbc (kBox Y Y Y Y Y (kBox Y Y Y Y Y (kAlloc Y Y (Kdb (Kbc (Ke Y Y Y (Kp (ok_impl_ZoneOk _ prx) ⟨⟨⟨Y, Y, trivial⟩, leb⟩, trivial⟩ Y Y Y Y Y (Kw Y Y (Ka Y (kGN Y (fun g0 => (Kg Y (Kg Y (Kg Y (Kk Y (Ka Y (Kd (kCondT Y (Kbc (kBuildG Y (Ko Y Y Y Y (Kd (Kr (Er (ra := [.agg [(.d _), (.d _), (.d _), (.d _), (.d _), (.d _), (.d _), (.d _), (.d _), (.d _), (.d _)]]) rfl rfl)))))))))))))) (fun g0 => (by (simp [*] at g0)))))))))))))
  cases h2 : (msgOk m && m.op == 0 && !m.reply)
  · have e : answerN z m = nothingM := by unfold answerN; rw [h1, h2]; rfl
    rw [e]
    refine Kbc (kBox Y Y Y Y Y (kBox Y Y Y Y Y (kAlloc Y Y (Kdb (Kbc (Ke Y Y Y (Kp (ok_impl_ZoneOk _ prx) ⟨⟨⟨Y, Y, trivial⟩, leb⟩, trivial⟩ Y Y Y Y Y (Kw Y Y (Ka Y (kGN Y (fun g0 => (by (simp [*] at g0))) (fun g0 => (Ki Y (Ke Y Y Y (Ki Y (Kp (ok_impl_isQuery _ prx) ⟨⟨⟨Y, Y, Y, Y, Y, Y, Y, Y, Y, Y, Y, trivial⟩, leb⟩, trivial⟩ Y Y Y Y Y (Ki Y (Kw Y Y (Kl Y (Ka Y (Kd (kCondN Y (fun g1 => Kbc (kBuildG Y (Ko Y Y Y Y (Kd (Kr (Er (ra := [.agg [(.d _), (.d _), (.d _), (.d _), (.d _), (.d _), (.d _), (.d _), (.d _), (.d _), (.d _)]]) rfl rfl)))))) (fun g1 => (by (simp [*] at g1))))))))))))))))))))))))
  have e : answerN z m = ansM z m := by unfold answerN; rw [h1, h2]; rfl
  rw [e]
  have h3 := h2
  simp only [Bool.and_eq_true, beq_iff_eq] at h3
  have h4 := h3.1.1
  have h5 := h3.1.2
  refine Kbc (kBox Y Y Y Y Y (kBox Y Y Y Y Y (kAlloc Y Y (Kdb (Kbc (Ke Y Y Y (Kp (ok_impl_ZoneOk _ prx) ⟨⟨⟨Y, Y, trivial⟩, leb⟩, trivial⟩ Y Y Y Y Y (Kw Y Y (Ka Y (kGN Y (fun g0 => (by (simp [*] at g0))) (fun g0 => (Ki Y (Ke Y Y Y (Ki Y (Kp (ok_impl_isQuery _ prx) ⟨⟨⟨Y, Y, Y, Y, Y, Y, Y, Y, Y, Y, Y, trivial⟩, leb⟩, trivial⟩ Y Y Y Y Y (Ki Y (Kw Y Y (Kl Y (Ka Y (Kd (kCondN Y (fun g1 => (by (simp [*] at g1))) (fun g1 => Kn (Kbc (Ke Y Y Y (Ke Y Y Y (kCallD2 (ok_impl_Zone_answer _ _ prx prx prx) ⟨⟨⟨Y, Y, trivial⟩, leb⟩, ⟨⟨Y, Y, Y, Y, Y, Y, Y, Y, Y, Y, Y, trivial⟩, leb⟩, trivial⟩ Y Y Y Y (Ko Y Y Y Y (Kd (Kr (Er (ra := [.agg [(.d _), (.d _), (.d _), (.d _), (.d _), (.d _), (.d _), (.d _), (.d _), (.d _), (.d _)]]) rfl rfl))))))))))))))))))))))))))))))

def c_spec_l4asked : C := (.g (.o 0 2 (.mov (.v (.bool false))) .done) (.g (.o 0 3 (.mov (.t 0)) (.o 1 4 (.call 4 48 [(.t 3)]) (.o 2 5 (.mov (.t 4)) (.op 3 [] (some 6) (some (5, false)) false (.mov (.t 0)) (.op 4 [] (some 7) (some (5, false)) false (.bin .eql (.t 6) (.i 255)) (.o 5 8 (.pick (.t 5) (.v (.bool true)) (.t 7)) (.o 6 2 (.mov (.t 8)) .done))))))) .ret))
theorem dg_spec_l4asked : Tryz.f204.body.bind (digC Tryz.prog Tryz.f204.ntmps []) = some c_spec_l4asked := by kernel_rfl
theorem rs_spec_l4asked : resSlots Tryz.prog Tryz.f204 = some [.s 2] := by kernel_rfl
theorem ok_spec_l4asked (t : Int) :
    FnOK Tryz.prog 204 [.one (.d (.sc (.int .i64 t)))] (fun ra _ => ra = [.one (.d (.sc (.bool (askedT t))))]) := by
  refine FnOK.ofK Tryz.func204 (by kernel_rfl) dg_spec_l4asked rs_spec_l4asked rfl rfl ?_
  delta c_spec_l4asked T.o X.i C.g
  refine Kbc (Ka Y (Kdb (Kc (Ka Y (Kp (ok_spec_TypeOk _) ⟨Y, trivial⟩ Y Y Y Y Y (Ka Y (kGS Y (fun g0 => Kg Y (Kg Y (Kk Y (Ka Y (Ka Y (Kd (Kr (Er (ra := [.one (.d _)]) rfl ?_)))))))) (fun g0 => Ki Y (Ka Y (Ki Y (Kj Y Y Y (Kl Y (Ka Y (Ka Y (Kd (Kr (Er (ra := [.one (.d _)]) rfl ?_)))))))))))))))))
  all_goals simp_all [askedT]

def c_spec_l4rrs : C := (.g (.o 0 2 (.mov (.v (.bool false))) .done) (.seq (.g (.o 0 4 (.mov (.t 0)) (.o 1 5 (.len (.t 4)) (.o 2 6 (.bin .gtr (.t 5) (.i 12)) .done))) (.cond (.t 6) (.g (.o 0 2 (.mov (.v (.bool false))) .done) .ret) .skip)) (.seq (.g (.o 0 3 (.mov (.i 0)) .done) (.block 0 (.loop (.seq (.g (.o 0 7 (.mov (.t 3)) (.o 1 8 (.mov (.t 0)) (.o 2 9 (.len (.t 8)) (.o 3 10 (.bin .lss (.t 7) (.t 9)) .done)))) (.cond (.t 10) .skip (.exit 0))) (.seq (.block 1 (.g (.o 0 13 (.mov (.t 0)) (.o 1 14 (.mov (.t 3)) (.o 2 15 (.iad 7 (.t 13) (.t 14)) (.o 3 16 (.load (some 7) (.t 15)) (.o 4 17 (.call 17 73 [(.t 16)]) (.o 5 18 (.un .not (.t 17)) .done)))))) (.cond (.t 18) (.g (.o 0 2 (.mov (.v (.bool false))) .done) .ret) .skip))) (.reg false (.o 0 11 (.mov (.t 3)) (.o 1 12 (.bin .add (.t 11) (.i 1)) (.o 2 3 (.mov (.t 12)) .done))))))))) (.g (.o 0 2 (.mov (.v (.bool true))) .done) .ret))))
theorem dg_spec_l4rrs : Tryz.f205.body.bind (digC Tryz.prog Tryz.f205.ntmps []) = some c_spec_l4rrs := by kernel_rfl
theorem rs_spec_l4rrs : resSlots Tryz.prog Tryz.f205 = some [.s 2] := by kernel_rfl
theorem ok_spec_l4rrs (l : List Rr) (hs : SmallRs l) :
    FnOK Tryz.prog 205 [.one (.d (encR l))] (fun ra _ => ra = [.one (.d (.sc (.bool (rrsOk l))))]) := by
  refine FnOK.ofK Tryz.func205 (by kernel_rfl) dg_spec_l4rrs rs_spec_l4rrs rfl rfl ?_
  delta c_spec_l4rrs T.o X.i C.g
  have h1 := hs.len
  refine Kbc (Ka Y (Kdb (Kbc (Ka Y (Kq Y Y (Kj Y Y Y (Kd (Km Y (fun g0 => Kbc (Ka Y (Kd (Kr (Er (ra := [.one (.d _)]) rfl ?_))))) (fun g0 => Kn (Kb (Kbc (Ka Y (Kd (Kt ?_))))))))))))))
  · rw [show rrsOk l = false by simp only [rrsOk]; rw [decide_eq_false (by omega)]; rfl]
  refine kLoop (α := { i : Nat // i ≤ l.length ∧ (l.take i).all rrOk = true })
    (fun y => ⟨tabSl [(0, .dv (encR l)), (3, .i y.1)], obTab 1 [], []⟩) (fun y => l.length - y.1) ⟨0, by simp⟩
    .normA ?_
  rintro ⟨i, hi, hl⟩
  simp only
  rcases Nat.lt_or_ge i l.length with hlt | hge
  · have hbi := hs.mem _ (List.getElem_mem hlt)
    refine Kb (Kbc (Ka Y (Ka Y (Kq Y Y (Kj Y Y Y (Kd (Km Y (fun g0 => Kn (Kb (Kt (Kbc (Ka Y (Ka Y (kIadR Y Y Y om (Ky Y Y (Kp (ok_spec_RrOk _ pr) ⟨⟨⟨Y, Y, Y, Y, Y, Y, Y, trivial⟩, leb⟩, trivial⟩ Y Y Y Y Y (Kw Y Y (Kd (kCondN Y (fun g1 => Kbc (Ka Y (Kd (Kr (Er (ra := [.one (.d _)]) rfl ?_))))) (fun g1 => Kn (Kv (Kc (Ka Y (kAdd Y Y om (Ka Y (Kd ?_))))))))))))))))))) (fun g0 => om))))))))
    · rw [show rrsOk l = false by simp only [rrsOk]; rw [all_no (i := i) (by omega) (by assumption), Bool.and_false]]
    · exact kInv ⟨⟨i + 1, by omega, all_step om hl (by assumption)⟩, by simp only; omega, .normA⟩
  · refine Kb (Kbc (Ka Y (Ka Y (Kq Y Y (Kj Y Y Y (Kd (Km Y (fun g0 => om) (fun g0 => kExit (kExC (kExI (kExB (Kbc (Ka Y (Kd (Kr (Er (ra := [.one (.d _)]) rfl ?_))))))))))))))))
    rw [show i = l.length by omega, List.take_length] at hl
    rw [show rrsOk l = true by simp only [rrsOk]; rw [decide_eq_true (by omega), hl]; rfl]

def c_spec_WantOk : C := (.g (.o 0 1 (.box 1 (.t 0)) (.o 1 2 (.mov (.v (.bool false))) .done)) (.seq (.g (.o 0 4 (.fad (.t 1) 7) (.o 1 5 (.load none (.t 4)) (.o 2 6 (.bin .neq (.t 5) (.i 1)) (.o 3 7 (.mov (.t 6)) (.op 4 [] (some 8) (some (7, true)) false (.fad (.t 1) 7) (.op 5 [] (some 9) (some (7, true)) false (.load none (.t 8)) (.op 6 [] (some 10) (some (7, true)) false (.bin .neq (.t 9) (.i 254)) (.o 7 11 (.pick (.t 7) (.t 10) (.v (.bool false))) (.o 8 12 (.mov (.t 11)) (.op 9 [] (some 13) (some (12, true)) false (.fad (.t 1) 7) (.op 10 [] (some 14) (some (12, true)) false (.load none (.t 13)) (.op 11 [] (some 15) (some (12, true)) false (.bin .neq (.t 14) (.i 255)) (.o 12 16 (.pick (.t 12) (.t 15) (.v (.bool false))) .done))))))))))))) (.cond (.t 16) (.g (.o 0 2 (.mov (.v (.bool false))) .done) .ret) .skip)) (.seq (.g (.o 0 17 (.fad (.t 1) 8) (.o 1 18 (.load none (.t 17)) (.o 2 19 (.un .not (.t 18)) .done))) (.cond (.t 19) (.g (.o 0 20 (.fad (.t 1) 0) (.o 1 21 (.load (some 7) (.t 20)) (.o 2 22 (.call 22 73 [(.t 21)]) (.o 3 23 (.mov (.t 22)) (.op 4 [] (some 24) (some (23, true)) false (.fad (.t 1) 7) (.op 5 [] (some 25) (some (23, true)) false (.load none (.t 24)) (.op 6 [] (some 26) (some (23, true)) false (.bin .neq (.t 25) (.i 254)) (.op 7 [] (some 27) (some (23, true)) false (.mov (.t 26)) (.op 8 [] (some 28) (some (27, false)) false (.fad (.t 1) 0) (.op 9 [] (some 29) (some (27, false)) false (.fad (.t 28) 2) (.op 10 [] (some 30) (some (27, false)) false (.load none (.t 29)) (.op 11 [] (some 31) (some (27, false)) false (.bin .eql (.t 30) (.i 0)) (.op 12 [] (some 32) (some (23, true)) false (.pick (.t 27) (.v (.bool true)) (.t 31)) (.o 13 33 (.pick (.t 23) (.t 32) (.v (.bool false))) (.o 14 34 (.mov (.t 33)) (.op 15 [] (some 35) (some (34, true)) false (.fad (.t 1) 7) (.op 16 [] (some 36) (some (34, true)) false (.load none (.t 35)) (.op 17 [] (some 37) (some (34, true)) false (.bin .neq (.t 36) (.i 255)) (.o 18 38 (.pick (.t 34) (.t 37) (.v (.bool false))) (.o 19 2 (.mov (.t 38)) .done)))))))))))))))))))) .ret) .skip)) (.g (.o 0 39 (.fad (.t 1) 0) (.o 1 40 (.load (some 7) (.t 39)) (.o 2 3 (.alloc 3 [(.n 1), (.i 0), (.i 0), (.i 0), (.n 1), (.n 1), (.n 1)]) (.op 3 [] none none false (.store (some 7) (.t 3) (.t 40)) .done)))) (.g (.o 0 41 (.fad (.t 1) 7) (.o 1 42 (.load none (.t 41)) (.o 2 43 (.bin .neq (.t 42) (.i 1)) (.o 3 44 (.mov (.t 43)) (.op 4 [] (some 45) (some (44, true)) false (.fad (.t 3) 0) (.op 5 [] (some 46) (some (44, true)) false (.load (some 1) (.t 45)) (.op 6 [] (some 47) (some (44, true)) false (.call 47 47 [(.t 46)]) (.o 7 48 (.pick (.t 44) (.t 47) (.v (.bool false))) (.o 8 49 (.mov (.t 48)) (.op 9 [] (some 50) (some (49, true)) false (.fad (.t 3) 1) (.op 10 [] (some 51) (some (49, true)) false (.load none (.t 50)) (.op 11 [] (some 52) (some (49, true)) false (.call 52 204 [(.t 51)]) (.o 12 53 (.pick (.t 49) (.t 52) (.v (.bool false))) (.o 13 54 (.mov (.t 53)) (.op 14 [] (some 55) (some (54, true)) false (.fad (.t 3) 2) (.op 15 [] (some 56) (some (54, true)) false (.load none (.t 55)) (.op 16 [] (some 57) (some (54, true)) false (.bin .eql (.t 56) (.i 0)) (.o 17 58 (.pick (.t 54) (.t 57) (.v (.bool false))) (.o 18 59 (.mov (.t 58)) (.op 19 [] (some 60) (some (59, true)) false (.fad (.t 3) 3) (.op 20 [] (some 61) (some (59, true)) false (.load none (.t 60)) (.op 21 [] (some 62) (some (59, true)) false (.bin .eql (.t 61) (.i 0)) (.o 22 63 (.pick (.t 59) (.t 62) (.v (.bool false))) (.o 23 64 (.mov (.t 63)) (.op 24 [] (some 65) (some (64, true)) false (.fad (.t 3) 4) (.op 25 [] (some 66) (some (64, true)) false (.fad (.t 65) 0) (.op 26 [] (some 67) (some (64, true)) false (.load none (.t 66)) (.op 27 [] (some 68) (some (64, true)) false (.len (.t 67)) (.op 28 [] (some 69) (some (64, true)) false (.bin .eql (.t 68) (.i 0)) (.o 29 70 (.pick (.t 64) (.t 69) (.v (.bool false))) (.o 30 71 (.mov (.t 70)) (.op 31 [] (some 72) (some (71, true)) false (.fad (.t 3) 5) (.op 32 [] (some 73) (some (71, true)) false (.load none (.t 72)) (.op 33 [] (some 74) (some (71, true)) false (.len (.t 73)) (.op 34 [] (some 75) (some (71, true)) false (.bin .eql (.t 74) (.i 0)) (.o 35 76 (.pick (.t 71) (.t 75) (.v (.bool false))) (.o 36 77 (.mov (.t 76)) (.op 37 [] (some 78) (some (77, true)) false (.fad (.t 3) 6) (.op 38 [] (some 79) (some (77, true)) false (.load none (.t 78)) (.op 39 [] (some 80) (some (77, true)) false (.len (.t 79)) (.op 40 [] (some 81) (some (77, true)) false (.bin .eql (.t 80) (.i 0)) (.o 41 82 (.pick (.t 77) (.t 81) (.v (.bool false))) (.o 42 2 (.mov (.t 82)) .done))))))))))))))))))))))))))))))))))))))))))) .ret)))))
theorem dg_spec_WantOk : Tryz.f275.body.bind (digC Tryz.prog Tryz.f275.ntmps []) = some c_spec_WantOk := by kernel_rfl
theorem rs_spec_WantOk : resSlots Tryz.prog Tryz.f275 = some [.s 2] := by kernel_rfl
theorem ok_spec_WantOk (w : Want) (hs : SmallW w) :
    FnOK Tryz.prog 275 [.agg (w.cells.map .d)] (fun ra _ => ra = [.one (.d (.sc (.bool (wantOk w))))]) := by
  refine FnOK.ofK Tryz.func275 (by kernel_rfl) dg_spec_WantOk rs_spec_WantOk rfl rfl ?_
  delta c_spec_WantOk T.o X.i C.g
  have h1 := hs.r
  have n1 := hs.r.n.len
  have n2 := hs.r.n.mem
  refine Kbc (kBox Y Y Y Y Y (Ka Y (Kdb (Kbc (Kf Y Y (Ke Y Y Y (Kj Y Y Y (Ka Y (kGIN Y (fun g0 => Ki Y (Kf Y Y (Ki Y (Ke Y Y Y (Ki Y (Kj Y Y Y (Kk Y (Ka Y (Ka Y (kGIN Y (fun g1 => Ki Y (Kf Y Y (Ki Y (Ke Y Y Y (Ki Y (Kj Y Y Y (Kk Y (Ka Y (Kd (kCondIN Y (fun g2 => Kbc (Ka Y (Kd (Kr (Er (ra := [.one (.d _)]) rfl ?_))))) (fun g2 => Kn (Kb (Kbc (Kf Y Y (Ke Y Y Y (Kw Y Y (Kd (kCondN Y (fun g3 => Kbc (Kf Y Y (Ke Y Y Y (Kp (ok_spec_RrOk _ prx) ⟨⟨⟨Y, Y, Y, Y, Y, Y, Y, trivial⟩, leb⟩, trivial⟩ Y Y Y Y Y (Ka Y (kGS Y (fun g4 => Ki Y (Kf Y Y (Ki Y (Ke Y Y Y (Ki Y (Kj Y Y Y (Ki Y (Ka Y (kGIN Y (fun g5 => (Kg Y (Kg Y (Kg Y (Kg Y (Ki Y (Kk Y (Ka Y (Kk Y (Ka Y (Ka Y (Ki Y (Kf Y Y (Ki Y (Ke Y Y Y (Ki Y (Kj Y Y Y (Kk Y (Ka Y (Ka Y (Kd (Kr (Er (ra := [.one (.d _)]) rfl ?_))))))))))))))))))))))) (fun g5 => om)))))))))) (fun g4 => Kg Y (Kg Y (Kg Y (Kg Y (kGU Y (kGU Y (kGU Y (kGU Y (Kg Y (Kl Y (Ka Y (Ka Y (Kg Y (Kg Y (Kg Y (Kl Y (Ka Y (Ka Y (Kd (Kr (Er (ra := [.one (.d _)]) rfl ?_))))))))))))))))))))))))))) (fun g3 => Kn (Kbc (Kf Y Y (Ke Y Y Y (kAlloc Y Y (Ko Y Y Y Y (Kdb (Kc (Kf Y Y (Ke Y Y Y (Kj Y Y Y (Ka Y (kGIN Y (fun g6 => Ki Y (Kf Y Y (Ki Y (Ke Y Y Y (Ki Y (Kp (ok_spec_NameOk _ prx prx) ⟨⟨⟨Y, trivial⟩, leb⟩, trivial⟩ Y Y Y Y Y (Kk Y (Ka Y (Ka Y (kGS Y (fun g7 => Ki Y (Kf Y Y (Ki Y (Ke Y Y Y (Ki Y (Kp (ok_spec_l4asked _) ⟨Y, trivial⟩ Y Y Y Y Y (Kk Y (Ka Y (Ka Y (kGS Y (fun g8 => Ki Y (Kf Y Y (Ki Y (Ke Y Y Y (Ki Y (Kj Y Y Y (Kk Y (Ka Y (Ka Y (kGP Y (fun g9 => Ki Y (Kf Y Y (Ki Y (Ke Y Y Y (Ki Y (Kj Y Y Y (Kk Y (Ka Y (Ka Y (kGP Y (fun g10 => Ki Y (Kf Y Y (Ki Y (Kf Y Y (Ki Y (Ke Y Y Y (Ki Y (Kq Y Y (Ki Y (Kj Y Y Y (Kk Y (Ka Y (Ka Y (kGP Y (fun g11 => Ki Y (Kf Y Y (Ki Y (Ke Y Y Y (Ki Y (Kq Y Y (Ki Y (Kj Y Y Y (Kk Y (Ka Y (Ka Y (kGP Y (fun g12 => Ki Y (Kf Y Y (Ki Y (Ke Y Y Y (Ki Y (Kq Y Y (Ki Y (Kj Y Y Y (Kk Y (Ka Y (Ka Y (Kd (Kr (Er (ra := [.one (.d _)]) rfl ?_)))))))))))))) (fun g12 => Kg Y (Kg Y (Kg Y (Kg Y (Kl Y (Ka Y (Ka Y (Kd (Kr (Er (ra := [.one (.d _)]) rfl ?_)))))))))))))))))))))) (fun g11 => Kg Y (Kg Y (Kg Y (Kg Y (Kl Y (Ka Y (Ka Y (Kg Y (Kg Y (Kg Y (Kg Y (Kl Y (Ka Y (Ka Y (Kd (Kr (Er (ra := [.one (.d _)]) rfl ?_))))))))))))))))))))))))))))))) (fun g10 => Kg Y (Kg Y (Kg Y (Kg Y (Kg Y (Kl Y (Ka Y (Ka Y (Kg Y (Kg Y (Kg Y (Kg Y (Kl Y (Ka Y (Ka Y (Kg Y (Kg Y (Kg Y (Kg Y (Kl Y (Ka Y (Ka Y (Kd (Kr (Er (ra := [.one (.d _)]) rfl ?_))))))))))))))))))))))))))))))))))) (fun g9 => Kg Y (Kg Y (Kg Y (Kl Y (Ka Y (Ka Y (Kg Y (Kg Y (Kg Y (Kg Y (Kg Y (Kl Y (Ka Y (Ka Y (Kg Y (Kg Y (Kg Y (Kg Y (Kl Y (Ka Y (Ka Y (Kg Y (Kg Y (Kg Y (Kg Y (Kl Y (Ka Y (Ka Y (Kd (Kr (Er (ra := [.one (.d _)]) rfl ?_))))))))))))))))))))))))))))))))))))))))) (fun g8 => Kg Y (Kg Y (Kg Y (Kl Y (Ka Y (Ka Y (Kg Y (Kg Y (Kg Y (Kl Y (Ka Y (Ka Y (Kg Y (Kg Y (Kg Y (Kg Y (Kg Y (Kl Y (Ka Y (Ka Y (Kg Y (Kg Y (Kg Y (Kg Y (Kl Y (Ka Y (Ka Y (Kg Y (Kg Y (Kg Y (Kg Y (Kl Y (Ka Y (Ka Y (Kd (Kr (Er (ra := [.one (.d _)]) rfl ?_))))))))))))))))))))))))))))))))))))))))))))))) (fun g7 => Kg Y (Kg Y (Kg Y (Kl Y (Ka Y (Ka Y (Kg Y (Kg Y (Kg Y (Kl Y (Ka Y (Ka Y (Kg Y (Kg Y (Kg Y (Kl Y (Ka Y (Ka Y (Kg Y (Kg Y (Kg Y (Kg Y (Kg Y (Kl Y (Ka Y (Ka Y (Kg Y (Kg Y (Kg Y (Kg Y (Kl Y (Ka Y (Ka Y (Kg Y (Kg Y (Kg Y (Kg Y (Kl Y (Ka Y (Ka Y (Kd (Kr (Er (ra := [.one (.d _)]) rfl ?_))))))))))))))))))))))))))))))))))))))))))))))))))))) (fun g6 => om)))))))))))))))))))))))))))))))) (fun g1 => Kg Y (Kg Y (Kg Y (Kl Y (Ka Y (Kd (kCondF Y (Kn (Kb (Kbc (Kf Y Y (Ke Y Y Y (Kw Y Y (Kd (kCondN Y (fun g13 => Kbc (Kf Y Y (Ke Y Y Y (Kp (ok_spec_RrOk _ prx) ⟨⟨⟨Y, Y, Y, Y, Y, Y, Y, trivial⟩, leb⟩, trivial⟩ Y Y Y Y Y (Ka Y (kGS Y (fun g14 => Ki Y (Kf Y Y (Ki Y (Ke Y Y Y (Ki Y (Kj Y Y Y (Ki Y (Ka Y (kGIN Y (fun g15 => om) (fun g15 => (Ki Y (Kf Y Y (Ki Y (Kf Y Y (Ki Y (Ke Y Y Y (Ki Y (Kj Y Y Y (Ki Y (Kl Y (Ka Y (Kk Y (Ka Y (Ka Y (kGP Y (fun g16 => Ki Y (Kf Y Y (Ki Y (Ke Y Y Y (Ki Y (Kj Y Y Y (Kk Y (Ka Y (Ka Y (Kd (Kr (Er (ra := [.one (.d _)]) rfl ?_)))))))))))) (fun g16 => Kg Y (Kg Y (Kg Y (Kl Y (Ka Y (Ka Y (Kd (Kr (Er (ra := [.one (.d _)]) rfl ?_)))))))))))))))))))))))))))))))))) (fun g14 => Kg Y (Kg Y (Kg Y (Kg Y (kGU Y (kGU Y (kGU Y (kGU Y (Kg Y (Kl Y (Ka Y (Ka Y (Kg Y (Kg Y (Kg Y (Kl Y (Ka Y (Ka Y (Kd (Kr (Er (ra := [.one (.d _)]) rfl ?_))))))))))))))))))))))))))) (fun g13 => Kn (Kbc (Kf Y Y (Ke Y Y Y (kAlloc Y Y (Ko Y Y Y Y (Kdb (Kc (Kf Y Y (Ke Y Y Y (Kj Y Y Y (Ka Y (kGIN Y (fun g17 => Ki Y (Kf Y Y (Ki Y (Ke Y Y Y (Ki Y (Kp (ok_spec_NameOk _ prx prx) ⟨⟨⟨Y, trivial⟩, leb⟩, trivial⟩ Y Y Y Y Y (Kk Y (Ka Y (Ka Y (kGS Y (fun g18 => Ki Y (Kf Y Y (Ki Y (Ke Y Y Y (Ki Y (Kp (ok_spec_l4asked _) ⟨Y, trivial⟩ Y Y Y Y Y (Kk Y (Ka Y (Ka Y (kGS Y (fun g19 => Ki Y (Kf Y Y (Ki Y (Ke Y Y Y (Ki Y (Kj Y Y Y (Kk Y (Ka Y (Ka Y (kGP Y (fun g20 => Ki Y (Kf Y Y (Ki Y (Ke Y Y Y (Ki Y (Kj Y Y Y (Kk Y (Ka Y (Ka Y (kGP Y (fun g21 => Ki Y (Kf Y Y (Ki Y (Kf Y Y (Ki Y (Ke Y Y Y (Ki Y (Kq Y Y (Ki Y (Kj Y Y Y (Kk Y (Ka Y (Ka Y (kGP Y (fun g22 => Ki Y (Kf Y Y (Ki Y (Ke Y Y Y (Ki Y (Kq Y Y (Ki Y (Kj Y Y Y (Kk Y (Ka Y (Ka Y (kGP Y (fun g23 => Ki Y (Kf Y Y (Ki Y (Ke Y Y Y (Ki Y (Kq Y Y (Ki Y (Kj Y Y Y (Kk Y (Ka Y (Ka Y (Kd (Kr (Er (ra := [.one (.d _)]) rfl ?_)))))))))))))) (fun g23 => Kg Y (Kg Y (Kg Y (Kg Y (Kl Y (Ka Y (Ka Y (Kd (Kr (Er (ra := [.one (.d _)]) rfl ?_)))))))))))))))))))))) (fun g22 => Kg Y (Kg Y (Kg Y (Kg Y (Kl Y (Ka Y (Ka Y (Kg Y (Kg Y (Kg Y (Kg Y (Kl Y (Ka Y (Ka Y (Kd (Kr (Er (ra := [.one (.d _)]) rfl ?_))))))))))))))))))))))))))))))) (fun g21 => Kg Y (Kg Y (Kg Y (Kg Y (Kg Y (Kl Y (Ka Y (Ka Y (Kg Y (Kg Y (Kg Y (Kg Y (Kl Y (Ka Y (Ka Y (Kg Y (Kg Y (Kg Y (Kg Y (Kl Y (Ka Y (Ka Y (Kd (Kr (Er (ra := [.one (.d _)]) rfl ?_))))))))))))))))))))))))))))))))))) (fun g20 => Kg Y (Kg Y (Kg Y (Kl Y (Ka Y (Ka Y (Kg Y (Kg Y (Kg Y (Kg Y (Kg Y (Kl Y (Ka Y (Ka Y (Kg Y (Kg Y (Kg Y (Kg Y (Kl Y (Ka Y (Ka Y (Kg Y (Kg Y (Kg Y (Kg Y (Kl Y (Ka Y (Ka Y (Kd (Kr (Er (ra := [.one (.d _)]) rfl ?_))))))))))))))))))))))))))))))))))))))))) (fun g19 => Kg Y (Kg Y (Kg Y (Kl Y (Ka Y (Ka Y (Kg Y (Kg Y (Kg Y (Kl Y (Ka Y (Ka Y (Kg Y (Kg Y (Kg Y (Kg Y (Kg Y (Kl Y (Ka Y (Ka Y (Kg Y (Kg Y (Kg Y (Kg Y (Kl Y (Ka Y (Ka Y (Kg Y (Kg Y (Kg Y (Kg Y (Kl Y (Ka Y (Ka Y (Kd (Kr (Er (ra := [.one (.d _)]) rfl ?_))))))))))))))))))))))))))))))))))))))))))))))) (fun g18 => Kg Y (Kg Y (Kg Y (Kl Y (Ka Y (Ka Y (Kg Y (Kg Y (Kg Y (Kl Y (Ka Y (Ka Y (Kg Y (Kg Y (Kg Y (Kl Y (Ka Y (Ka Y (Kg Y (Kg Y (Kg Y (Kg Y (Kg Y (Kl Y (Ka Y (Ka Y (Kg Y (Kg Y (Kg Y (Kg Y (Kl Y (Ka Y (Ka Y (Kg Y (Kg Y (Kg Y (Kg Y (Kl Y (Ka Y (Ka Y (Kd (Kr (Er (ra := [.one (.d _)]) rfl ?_))))))))))))))))))))))))))))))))))))))))))))))))))))) (fun g17 => om))))))))))))))))))))))))))))))))))))))) (fun g0 => Kg Y (Kg Y (Kg Y (Kl Y (Ka Y (Ka Y (Kg Y (Kg Y (Kg Y (Kl Y (Ka Y (Kd (kCondF Y (Kn (Kb (Kbc (Kf Y Y (Ke Y Y Y (Kw Y Y (Kd (kCondN Y (fun g24 => Kbc (Kf Y Y (Ke Y Y Y (Kp (ok_spec_RrOk _ prx) ⟨⟨⟨Y, Y, Y, Y, Y, Y, Y, trivial⟩, leb⟩, trivial⟩ Y Y Y Y Y (Ka Y (kGS Y (fun g25 => Ki Y (Kf Y Y (Ki Y (Ke Y Y Y (Ki Y (Kj Y Y Y (Ki Y (Ka Y (kGIN Y (fun g26 => Kg Y (Kg Y (Kg Y (Kg Y (Ki Y (Kk Y (Ka Y (Kk Y (Ka Y (Ka Y (Ki Y (Kf Y Y (Ki Y (Ke Y Y Y (Ki Y (Kj Y Y Y (Kk Y (Ka Y (Ka Y (Kd (Kr (Er (ra := [.one (.d _)]) rfl ?_)))))))))))))))))))))) (fun g26 => om)))))))))) (fun g25 => Kg Y (Kg Y (Kg Y (Kg Y (kGU Y (kGU Y (kGU Y (kGU Y (Kg Y (Kl Y (Ka Y (Ka Y (Kg Y (Kg Y (Kg Y (Kl Y (Ka Y (Ka Y (Kd (Kr (Er (ra := [.one (.d _)]) rfl ?_))))))))))))))))))))))))))) (fun g24 => Kn (Kbc (Kf Y Y (Ke Y Y Y (kAlloc Y Y (Ko Y Y Y Y (Kdb (Kc (Kf Y Y (Ke Y Y Y (Kj Y Y Y (Ka Y (kGIN Y (fun g27 => om) (fun g27 => Kg Y (Kg Y (Kg Y (Kl Y (Ka Y (Ka Y (Kg Y (Kg Y (Kg Y (Kl Y (Ka Y (Ka Y (Kg Y (Kg Y (Kg Y (Kl Y (Ka Y (Ka Y (Kg Y (Kg Y (Kg Y (Kl Y (Ka Y (Ka Y (Kg Y (Kg Y (Kg Y (Kg Y (Kg Y (Kl Y (Ka Y (Ka Y (Kg Y (Kg Y (Kg Y (Kg Y (Kl Y (Ka Y (Ka Y (Kg Y (Kg Y (Kg Y (Kg Y (Kl Y (Ka Y (Ka Y (Kd (Kr (Er (ra := [.one (.d _)]) rfl ?_))))))))))))))))))))))))))))))))))))))))))))))))))))))))))))))))))))))))))))))))))))))))))))
  all_goals (refine congrArg (fun z : Bool => [RA.one (RV.d (DV.sc (Value.bool z)))]) ?_; clear n1 n2 h1 hs; unfold wantOk; simp_all)
  all_goals (rw [Bool.eq_iff_iff]; simp)

def c_spec_l4wants : C := (.g (.o 0 2 (.mov (.v (.bool false))) .done) (.seq (.g (.o 0 4 (.mov (.t 0)) (.o 1 5 (.len (.t 4)) (.o 2 6 (.bin .gtr (.t 5) (.i 12)) .done))) (.cond (.t 6) (.g (.o 0 2 (.mov (.v (.bool false))) .done) .ret) .skip)) (.seq (.g (.o 0 3 (.mov (.i 0)) .done) (.block 0 (.loop (.seq (.g (.o 0 7 (.mov (.t 3)) (.o 1 8 (.mov (.t 0)) (.o 2 9 (.len (.t 8)) (.o 3 10 (.bin .lss (.t 7) (.t 9)) .done)))) (.cond (.t 10) .skip (.exit 0))) (.seq (.block 1 (.g (.o 0 13 (.mov (.t 0)) (.o 1 14 (.mov (.t 3)) (.o 2 15 (.iad 9 (.t 13) (.t 14)) (.o 3 16 (.load (some 9) (.t 15)) (.o 4 17 (.call 17 275 [(.t 16)]) (.o 5 18 (.un .not (.t 17)) .done)))))) (.cond (.t 18) (.g (.o 0 2 (.mov (.v (.bool false))) .done) .ret) .skip))) (.reg false (.o 0 11 (.mov (.t 3)) (.o 1 12 (.bin .add (.t 11) (.i 1)) (.o 2 3 (.mov (.t 12)) .done))))))))) (.g (.o 0 2 (.mov (.v (.bool true))) .done) .ret))))
theorem dg_spec_l4wants : Tryz.f206.body.bind (digC Tryz.prog Tryz.f206.ntmps []) = some c_spec_l4wants := by kernel_rfl
theorem rs_spec_l4wants : resSlots Tryz.prog Tryz.f206 = some [.s 2] := by kernel_rfl
theorem ok_spec_l4wants (l : List Want) (hs : SmallWs l) :
    FnOK Tryz.prog 206 [.one (.d (encW l))] (fun ra _ => ra = [.one (.d (.sc (.bool (wantsOk l))))]) := by
  refine FnOK.ofK Tryz.func206 (by kernel_rfl) dg_spec_l4wants rs_spec_l4wants rfl rfl ?_
  delta c_spec_l4wants T.o X.i C.g
  have h1 := hs.len
  refine Kbc (Ka Y (Kdb (Kbc (Ka Y (Kq Y Y (Kj Y Y Y (Kd (Km Y (fun g0 => Kbc (Ka Y (Kd (Kr (Er (ra := [.one (.d _)]) rfl ?_))))) (fun g0 => Kn (Kb (Kbc (Ka Y (Kd (Kt ?_))))))))))))))
  · rw [show wantsOk l = false by simp only [wantsOk]; rw [decide_eq_false (by omega)]; rfl]
  refine kLoop (α := { i : Nat // i ≤ l.length ∧ (l.take i).all wantOk = true })
    (fun y => ⟨tabSl [(0, .dv (encW l)), (3, .i y.1)], obTab 1 [], []⟩) (fun y => l.length - y.1) ⟨0, by simp⟩
    .normA ?_
  rintro ⟨i, hi, hl⟩
  simp only
  rcases Nat.lt_or_ge i l.length with hlt | hge
  · have hbi := hs.mem _ (List.getElem_mem hlt)
    refine Kb (Kbc (Ka Y (Ka Y (Kq Y Y (Kj Y Y Y (Kd (Km Y (fun g0 => Kn (Kb (Kt (Kbc (Ka Y (Ka Y (kIadR Y Y Y prl (Ky Y Y (Kp (ok_spec_WantOk _ prx) ⟨⟨⟨Y, Y, Y, Y, Y, Y, Y, Y, Y, trivial⟩, leb⟩, trivial⟩ Y Y Y Y Y (Kw Y Y (Kd (kCondN Y (fun g1 => Kbc (Ka Y (Kd (Kr (Er (ra := [.one (.d _)]) rfl ?_))))) (fun g1 => Kn (Kv (Kc (Ka Y (kAdd Y Y om (Ka Y (Kd ?_))))))))))))))))))) (fun g0 => om))))))))
    · rw [show wantsOk l = false by simp only [wantsOk]; rw [all_no (i := i) (by omega) (by assumption), Bool.and_false]]
    · exact kInv ⟨⟨i + 1, by omega, all_step om hl (by assumption)⟩, by simp only; omega, .normA⟩
  · refine Kb (Kbc (Ka Y (Ka Y (Kq Y Y (Kj Y Y Y (Kd (Km Y (fun g0 => om) (fun g0 => kExit (kExC (kExI (kExB (Kbc (Ka Y (Kd (Kr (Er (ra := [.one (.d _)]) rfl ?_))))))))))))))))
    rw [show i = l.length by omega, List.take_length] at hl
    rw [show wantsOk l = true by simp only [wantsOk]; rw [decide_eq_true (by omega), hl]; rfl]

def c_spec_l4may : C := (.g (.o 0 1 (.box 1 (.t 0)) (.o 1 2 (.mov (.v (.bool false))) .done)) (.seq (.g (.o 0 3 (.fad (.t 1) 0) (.o 1 4 (.load none (.t 3)) (.o 2 5 (.bin .lss (.t 4) (.i 0)) (.o 3 6 (.mov (.t 5)) (.op 4 [] (some 7) (some (6, false)) false (.fad (.t 1) 0) (.op 5 [] (some 8) (some (6, false)) false (.load none (.t 7)) (.op 6 [] (some 9) (some (6, false)) false (.bin .gtr (.t 8) (.i 65535)) (.o 7 10 (.pick (.t 6) (.v (.bool true)) (.t 9)) (.o 8 11 (.mov (.t 10)) (.op 9 [] (some 12) (some (11, false)) false (.fad (.t 1) 2) (.op 10 [] (some 13) (some (11, false)) false (.load none (.t 12)) (.op 11 [] (some 14) (some (11, false)) false (.bin .neq (.t 13) (.i 0)) (.op 12 [] (some 15) (some (11, false)) false (.mov (.t 14)) (.op 13 [] (some 16) (some (15, true)) false (.fad (.t 1) 2) (.op 14 [] (some 17) (some (15, true)) false (.load none (.t 16)) (.op 15 [] (some 18) (some (15, true)) false (.bin .neq (.t 17) (.i 5)) (.op 16 [] (some 19) (some (11, false)) false (.pick (.t 15) (.t 18) (.v (.bool false))) (.o 17 20 (.pick (.t 11) (.v (.bool true)) (.t 19)) (.o 18 21 (.mov (.t 20)) (.op 19 [] (some 22) (some (21, false)) false (.fad (.t 1) 4) (.op 20 [] (some 23) (some (21, false)) false (.load none (.t 22)) (.op 21 [] (some 24) (some (21, false)) false (.bin .lss (.t 23) (.i 0)) (.o 22 25 (.pick (.t 21) (.v (.bool true)) (.t 24)) (.o 23 26 (.mov (.t 25)) (.op 24 [] (some 27) (some (26, false)) false (.fad (.t 1) 4) (.op 25 [] (some 28) (some (26, false)) false (.load none (.t 27)) (.op 26 [] (some 29) (some (26, false)) false (.bin .gtr (.t 28) (.i 10)) (.o 27 30 (.pick (.t 26) (.v (.bool true)) (.t 29)) (.o 28 31 (.mov (.t 30)) (.op 29 [] (some 32) (some (31, false)) false (.fad (.t 1) 5) (.op 30 [] (some 33) (some (31, false)) false (.load none (.t 32)) (.op 31 [] (some 34) (some (31, false)) false (.len (.t 33)) (.op 32 [] (some 35) (some (31, false)) false (.bin .neq (.t 34) (.i 1)) (.o 33 36 (.pick (.t 31) (.v (.bool true)) (.t 35)) (.o 34 37 (.mov (.t 36)) (.op 35 [] (some 38) (some (37, false)) false (.fad (.t 1) 5) (.op 36 [] (some 39) (some (37, false)) false (.load none (.t 38)) (.op 37 [] (some 40) (some (37, false)) false (.iad 2 (.t 39) (.i 0)) (.op 38 [] (some 41) (some (37, false)) false (.fad (.t 40) 0) (.op 39 [] (some 42) (some (37, false)) false (.load (some 1) (.t 41)) (.op 40 [] (some 43) (some (37, false)) false (.call 43 47 [(.t 42)]) (.op 41 [] (some 44) (some (37, false)) false (.un .not (.t 43)) (.o 42 45 (.pick (.t 37) (.v (.bool true)) (.t 44)) (.o 43 46 (.mov (.t 45)) (.op 44 [] (some 47) (some (46, false)) false (.fad (.t 1) 5) (.op 45 [] (some 48) (some (46, false)) false (.load none (.t 47)) (.op 46 [] (some 49) (some (46, false)) false (.iad 2 (.t 48) (.i 0)) (.op 47 [] (some 50) (some (46, false)) false (.fad (.t 49) 1) (.op 48 [] (some 51) (some (46, false)) false (.load none (.t 50)) (.op 49 [] (some 52) (some (46, false)) false (.call 52 204 [(.t 51)]) (.op 50 [] (some 53) (some (46, false)) false (.un .not (.t 52)) (.o 51 54 (.pick (.t 46) (.v (.bool true)) (.t 53)) .done)))))))))))))))))))))))))))))))))))))))))))))))))))) (.cond (.t 54) (.g (.o 0 2 (.mov (.v (.bool false))) .done) .ret) .skip)) (.seq (.g (.o 0 55 (.fad (.t 1) 6) (.o 1 56 (.load none (.t 55)) (.o 2 57 (.call 57 205 [(.t 56)]) (.o 3 58 (.un .not (.t 57)) (.o 4 59 (.mov (.t 58)) (.op 5 [] (some 60) (some (59, false)) false (.fad (.t 1) 7) (.op 6 [] (some 61) (some (59, false)) false (.load none (.t 60)) (.op 7 [] (some 62) (some (59, false)) false (.call 62 205 [(.t 61)]) (.op 8 [] (some 63) (some (59, false)) false (.un .not (.t 62)) (.o 9 64 (.pick (.t 59) (.v (.bool true)) (.t 63)) (.o 10 65 (.mov (.t 64)) (.op 11 [] (some 66) (some (65, false)) false (.fad (.t 1) 8) (.op 12 [] (some 67) (some (65, false)) false (.load none (.t 66)) (.op 13 [] (some 68) (some (65, false)) false (.call 68 205 [(.t 67)]) (.op 14 [] (some 69) (some (65, false)) false (.un .not (.t 68)) (.o 15 70 (.pick (.t 65) (.v (.bool true)) (.t 69)) (.o 16 71 (.mov (.t 70)) (.op 17 [] (some 72) (some (71, false)) false (.fad (.t 1) 9) (.op 18 [] (some 73) (some (71, false)) false (.load none (.t 72)) (.op 19 [] (some 74) (some (71, false)) false (.call 74 206 [(.t 73)]) (.op 20 [] (some 75) (some (71, false)) false (.un .not (.t 74)) (.o 21 76 (.pick (.t 71) (.v (.bool true)) (.t 75)) (.o 22 77 (.mov (.t 76)) (.op 23 [] (some 78) (some (77, false)) false (.fad (.t 1) 10) (.op 24 [] (some 79) (some (77, false)) false (.load none (.t 78)) (.op 25 [] (some 80) (some (77, false)) false (.call 80 206 [(.t 79)]) (.op 26 [] (some 81) (some (77, false)) false (.un .not (.t 80)) (.o 27 82 (.pick (.t 77) (.v (.bool true)) (.t 81)) .done)))))))))))))))))))))))))))) (.cond (.t 82) (.g (.o 0 2 (.mov (.v (.bool false))) .done) .ret) .skip)) (.seq (.g (.o 0 83 (.fad (.t 1) 2) (.o 1 84 (.load none (.t 83)) (.o 2 85 (.bin .eql (.t 84) (.i 0)) .done))) (.cond (.t 85) (.g (.o 0 86 (.fad (.t 1) 9) (.o 1 87 (.load none (.t 86)) (.o 2 88 (.len (.t 87)) (.o 3 89 (.bin .eql (.t 88) (.i 0)) (.o 4 90 (.mov (.t 89)) (.op 5 [] (some 91) (some (90, true)) false (.fad (.t 1) 10) (.op 6 [] (some 92) (some (90, true)) false (.load none (.t 91)) (.op 7 [] (some 93) (some (90, true)) false (.len (.t 92)) (.op 8 [] (some 94) (some (90, true)) false (.bin .eql (.t 93) (.i 0)) (.o 9 95 (.pick (.t 90) (.t 94) (.v (.bool false))) (.o 10 2 (.mov (.t 95)) .done))))))))))) .ret) .skip)) (.g (.o 0 96 (.fad (.t 1) 5) (.o 1 97 (.load none (.t 96)) (.o 2 98 (.iad 2 (.t 97) (.i 0)) (.o 3 99 (.fad (.t 98) 1) (.o 4 100 (.load none (.t 99)) (.o 5 101 (.bin .eql (.t 100) (.i 6)) (.o 6 102 (.mov (.t 101)) (.op 7 [] (some 103) (some (102, true)) false (.fad (.t 1) 6) (.op 8 [] (some 104) (some (102, true)) false (.load none (.t 103)) (.op 9 [] (some 105) (some (102, true)) false (.len (.t 104)) (.op 10 [] (some 106) (some (102, true)) false (.bin .eql (.t 105) (.i 0)) (.o 11 107 (.pick (.t 102) (.t 106) (.v (.bool false))) (.o 12 108 (.mov (.t 107)) (.op 13 [] (some 109) (some (108, true)) false (.fad (.t 1) 7) (.op 14 [] (some 110) (some (108, true)) false (.load none (.t 109)) (.op 15 [] (some 111) (some (108, true)) false (.len (.t 110)) (.op 16 [] (some 112) (some (108, true)) false (.bin .eql (.t 111) (.i 0)) (.o 17 113 (.pick (.t 108) (.t 112) (.v (.bool false))) (.o 18 114 (.mov (.t 113)) (.op 19 [] (some 115) (some (114, true)) false (.fad (.t 1) 8) (.op 20 [] (some 116) (some (114, true)) false (.load none (.t 115)) (.op 21 [] (some 117) (some (114, true)) false (.len (.t 116)) (.op 22 [] (some 118) (some (114, true)) false (.bin .eql (.t 117) (.i 0)) (.o 23 119 (.pick (.t 114) (.t 118) (.v (.bool false))) (.o 24 2 (.mov (.t 119)) .done))))))))))))))))))))))))) .ret)))))
theorem dg_spec_l4may : Tryz.f121.body.bind (digC Tryz.prog Tryz.f121.ntmps []) = some c_spec_l4may := by kernel_rfl
theorem rs_spec_l4may : resSlots Tryz.prog Tryz.f121 = some [.s 2] := by kernel_rfl
theorem ok_spec_l4may (m : Msg) (hs : SmallM m) :
    FnOK Tryz.prog 121 [.agg (m.cells.map .d)] (fun ra _ => ra = [.one (.d (.sc (.bool (msgMay m))))]) := by
  refine FnOK.ofK Tryz.func121 (by kernel_rfl) dg_spec_l4may rs_spec_l4may rfl rfl ?_
  delta c_spec_l4may T.o X.i C.g
  obtain ⟨id, rp, op, ah, cd, qs, an, au, mo, pr, up⟩ := m
  have b1 := hs.q
  have b2 := hs.a
  have b3 := hs.b
  have b4 := hs.c
  have b5 := hs.p
  have b6 := hs.u
  simp only at b1 b2 b3 b4 b5 b6
  clear hs
  rcases qs with _ | ⟨q, _ | ⟨q2, qs⟩⟩
  · have hl : ([] : List Qn).length = 0 := rfl
    refine Kbc (kBox Y Y Y Y Y (Ka Y (Kdb (Kbc (Kf Y Y (Ke Y Y Y (Kj Y Y Y (Ka Y (kGP Y (fun g0 => Kg Y (Kg Y (Kg Y (Kk Y (Ka Y (Ka Y (Kg Y (Kg Y (Kg Y (Kg Y (kGU Y (kGU Y (kGU Y (Kg Y (Kk Y (Ka Y (Ka Y (Kg Y (Kg Y (Kg Y (Kk Y (Ka Y (Ka Y (Kg Y (Kg Y (Kg Y (Kk Y (Ka Y (Ka Y (Kg Y (Kg Y (Kg Y (Kg Y (Kk Y (Ka Y (Ka Y (Kg Y (Kg Y (Kg Y (Kg Y (Kg Y (Kg Y (Kg Y (Kk Y (Ka Y (Ka Y (Kg Y (Kg Y (Kg Y (Kg Y (Kg Y (Kg Y (Kg Y (Kk Y (Ka Y (Kd (kCondT Y (Kbc (Ka Y (Kd (Kr (Er (ra := [.one (.d _)]) rfl ?_)))))))))))))))))))))))))))))))))))))))))))))))))))))))))))))) (fun g0 => Ki Y (Kf Y Y (Ki Y (Ke Y Y Y (Ki Y (Kj Y Y Y (Kl Y (Ka Y (Ka Y (kGP Y (fun g1 => Kg Y (Kg Y (Kg Y (Kg Y (kGU Y (kGU Y (kGU Y (Kg Y (Kk Y (Ka Y (Ka Y (Kg Y (Kg Y (Kg Y (Kk Y (Ka Y (Ka Y (Kg Y (Kg Y (Kg Y (Kk Y (Ka Y (Ka Y (Kg Y (Kg Y (Kg Y (Kg Y (Kk Y (Ka Y (Ka Y (Kg Y (Kg Y (Kg Y (Kg Y (Kg Y (Kg Y (Kg Y (Kk Y (Ka Y (Ka Y (Kg Y (Kg Y (Kg Y (Kg Y (Kg Y (Kg Y (Kg Y (Kk Y (Ka Y (Kd (kCondT Y (Kbc (Ka Y (Kd (Kr (Er (ra := [.one (.d _)]) rfl ?_)))))))))))))))))))))))))))))))))))))))))))))))))))))))) (fun g1 => Ki Y (Kf Y Y (Ki Y (Ke Y Y Y (Ki Y (Kj Y Y Y (Ki Y (Ka Y (kGIN Y (fun g2 => Ki Y (Kf Y Y (Ki Y (Ke Y Y Y (Ki Y (Kj Y Y Y (Ki Y (Kk Y (Ka Y (Kl Y (Ka Y (Ka Y (kGIN Y (fun g3 => Kg Y (Kg Y (Kg Y (Kk Y (Ka Y (Ka Y (Kg Y (Kg Y (Kg Y (Kk Y (Ka Y (Ka Y (Kg Y (Kg Y (Kg Y (Kg Y (Kk Y (Ka Y (Ka Y (Kg Y (Kg Y (Kg Y (Kg Y (Kg Y (Kg Y (Kg Y (Kk Y (Ka Y (Ka Y (Kg Y (Kg Y (Kg Y (Kg Y (Kg Y (Kg Y (Kg Y (Kk Y (Ka Y (Kd (kCondT Y (Kbc (Ka Y (Kd (Kr (Er (ra := [.one (.d _)]) rfl ?_))))))))))))))))))))))))))))))))))))))))))))) (fun g3 => Ki Y (Kf Y Y (Ki Y (Ke Y Y Y (Ki Y (Kj Y Y Y (Kl Y (Ka Y (Ka Y (kGP Y (fun g4 => (Kg Y (Kg Y (Kg Y (Kk Y (Ka Y (Ka Y (Kg Y (Kg Y (Kg Y (Kg Y (Kk Y (Ka Y (Ka Y (Kg Y (Kg Y (Kg Y (Kg Y (Kg Y (Kg Y (Kg Y (Kk Y (Ka Y (Ka Y (Kg Y (Kg Y (Kg Y (Kg Y (Kg Y (Kg Y (Kg Y (Kk Y (Ka Y (Kd (kCondT Y (Kbc (Ka Y (Kd (Kr (Er (ra := [.one (.d _)]) rfl ?_)))))))))))))))))))))))))))))))))))))))) (fun g4 => (Ki Y (Kf Y Y (Ki Y (Ke Y Y Y (Ki Y (Kj Y Y Y (Kl Y (Ka Y (Ka Y (kGP Y (fun g5 => Kg Y (Kg Y (Kg Y (Kg Y (Kk Y (Ka Y (Ka Y (Kg Y (Kg Y (Kg Y (Kg Y (Kg Y (Kg Y (Kg Y (Kk Y (Ka Y (Ka Y (Kg Y (Kg Y (Kg Y (Kg Y (Kg Y (Kg Y (Kg Y (Kk Y (Ka Y (Kd (kCondT Y (Kbc (Ka Y (Kd (Kr (Er (ra := [.one (.d _)]) rfl ?_))))))))))))))))))))))))))))))))) (fun g5 => Ki Y (Kf Y Y (Ki Y (Ke Y Y Y (Ki Y (kLen0 Y (Ki Y (Kj Y Y Y (Kl Y (Ka Y (Ka Y (Kg Y (Kg Y (Kg Y (Kg Y (Kg Y (Kg Y (Kg Y (Kk Y (Ka Y (Ka Y (Kg Y (Kg Y (Kg Y (Kg Y (Kg Y (Kg Y (Kg Y (Kk Y (Ka Y (Kd (kCondT Y (Kbc (Ka Y (Kd (Kr (Er (ra := [.one (.d _)]) rfl ?_))))))))))))))))))))))))))))))))))))))))))))))))))))))))))))))))))))))) (fun g2 => Kg Y (Kg Y (Kg Y (Ki Y (Kl Y (Ka Y (Kl Y (Ka Y (Ka Y (Ki Y (Kf Y Y (Ki Y (Ke Y Y Y (Ki Y (Kj Y Y Y (Kl Y (Ka Y (Ka Y (kGP Y (fun g6 => Kg Y (Kg Y (Kg Y (Kk Y (Ka Y (Ka Y (Kg Y (Kg Y (Kg Y (Kg Y (Kk Y (Ka Y (Ka Y (Kg Y (Kg Y (Kg Y (Kg Y (Kg Y (Kg Y (Kg Y (Kk Y (Ka Y (Ka Y (Kg Y (Kg Y (Kg Y (Kg Y (Kg Y (Kg Y (Kg Y (Kk Y (Ka Y (Kd (kCondT Y (Kbc (Ka Y (Kd (Kr (Er (ra := [.one (.d _)]) rfl ?_))))))))))))))))))))))))))))))))))))))) (fun g6 => Ki Y (Kf Y Y (Ki Y (Ke Y Y Y (Ki Y (Kj Y Y Y (Kl Y (Ka Y (Ka Y (kGP Y (fun g7 => Kg Y (Kg Y (Kg Y (Kg Y (Kk Y (Ka Y (Ka Y (Kg Y (Kg Y (Kg Y (Kg Y (Kg Y (Kg Y (Kg Y (Kk Y (Ka Y (Ka Y (Kg Y (Kg Y (Kg Y (Kg Y (Kg Y (Kg Y (Kg Y (Kk Y (Ka Y (Kd (kCondT Y (Kbc (Ka Y (Kd (Kr (Er (ra := [.one (.d _)]) rfl ?_))))))))))))))))))))))))))))))))) (fun g7 => Ki Y (Kf Y Y (Ki Y (Ke Y Y Y (Ki Y (kLen0 Y (Ki Y (Kj Y Y Y (Kl Y (Ka Y (Ka Y (Kg Y (Kg Y (Kg Y (Kg Y (Kg Y (Kg Y (Kg Y (Kk Y (Ka Y (Ka Y (Kg Y (Kg Y (Kg Y (Kg Y (Kg Y (Kg Y (Kg Y (Kk Y (Ka Y (Kd (kCondT Y (Kbc (Ka Y (Kd (Kr (Er (ra := [.one (.d _)]) rfl ?_))))))))))))))))))))))))))))))))))))))))))))))))))))))))))))))))))))))))))))))))))))))))))))))
    all_goals
      refine congrArg (fun z : Bool => [RA.one (RV.d (DV.sc (Value.bool z)))]) ?_
      clear b1 b2 b3 b4 b5 b6
      simp only at *
      unfold msgMay
      rw [Bool.eq_iff_iff]
      constructor
      · intro e
        first
          | (cases e; done)
          | (simp_all; done)
          | (simp_all; omega)
      · intro e
        simp only [Bool.and_eq_true, decide_eq_true_eq] at e
        obtain ⟨⟨⟨⟨e1, e2⟩, ⟨e3, e4⟩, e5⟩, ⟨⟨⟨e6, e7⟩, e8⟩, e9⟩, e10⟩, e11⟩ := e
        first
          | omega
          | (simp_all; done)
          | (simp_all; omega)
  · have hl : [q].length = 1 := rfl
    have hq := b1.mem q (List.mem_cons_self ..)
    have q1 := hq.len
    have q2 := hq.mem
    refine Kbc (kBox Y Y Y Y Y (Ka Y (Kdb (Kbc (Kf Y Y (Ke Y Y Y (Kj Y Y Y (Ka Y (kGP Y (fun g0 => Kg Y (Kg Y (Kg Y (Kk Y (Ka Y (Ka Y (Kg Y (Kg Y (Kg Y (Kg Y (kGU Y (kGU Y (kGU Y (Kg Y (Kk Y (Ka Y (Ka Y (Kg Y (Kg Y (Kg Y (Kk Y (Ka Y (Ka Y (Kg Y (Kg Y (Kg Y (Kk Y (Ka Y (Ka Y (Kg Y (Kg Y (Kg Y (Kg Y (Kk Y (Ka Y (Ka Y (Kg Y (Kg Y (Kg Y (Kg Y (Kg Y (Kg Y (Kg Y (Kk Y (Ka Y (Ka Y (Kg Y (Kg Y (Kg Y (Kg Y (Kg Y (Kg Y (Kg Y (Kk Y (Ka Y (Kd (kCondT Y (Kbc (Ka Y (Kd (Kr (Er (ra := [.one (.d _)]) rfl ?_)))))))))))))))))))))))))))))))))))))))))))))))))))))))))))))) (fun g0 => Ki Y (Kf Y Y (Ki Y (Ke Y Y Y (Ki Y (Kj Y Y Y (Kl Y (Ka Y (Ka Y (kGP Y (fun g1 => Kg Y (Kg Y (Kg Y (Kg Y (kGU Y (kGU Y (kGU Y (Kg Y (Kk Y (Ka Y (Ka Y (Kg Y (Kg Y (Kg Y (Kk Y (Ka Y (Ka Y (Kg Y (Kg Y (Kg Y (Kk Y (Ka Y (Ka Y (Kg Y (Kg Y (Kg Y (Kg Y (Kk Y (Ka Y (Ka Y (Kg Y (Kg Y (Kg Y (Kg Y (Kg Y (Kg Y (Kg Y (Kk Y (Ka Y (Ka Y (Kg Y (Kg Y (Kg Y (Kg Y (Kg Y (Kg Y (Kg Y (Kk Y (Ka Y (Kd (kCondT Y (Kbc (Ka Y (Kd (Kr (Er (ra := [.one (.d _)]) rfl ?_)))))))))))))))))))))))))))))))))))))))))))))))))))))))) (fun g1 => Ki Y (Kf Y Y (Ki Y (Ke Y Y Y (Ki Y (Kj Y Y Y (Ki Y (Ka Y (kGIN Y (fun g2 => Ki Y (Kf Y Y (Ki Y (Ke Y Y Y (Ki Y (Kj Y Y Y (Ki Y (Kk Y (Ka Y (Kl Y (Ka Y (Ka Y (kGIN Y (fun g3 => Kg Y (Kg Y (Kg Y (Kk Y (Ka Y (Ka Y (Kg Y (Kg Y (Kg Y (Kk Y (Ka Y (Ka Y (Kg Y (Kg Y (Kg Y (Kg Y (Kk Y (Ka Y (Ka Y (Kg Y (Kg Y (Kg Y (Kg Y (Kg Y (Kg Y (Kg Y (Kk Y (Ka Y (Ka Y (Kg Y (Kg Y (Kg Y (Kg Y (Kg Y (Kg Y (Kg Y (Kk Y (Ka Y (Kd (kCondT Y (Kbc (Ka Y (Kd (Kr (Er (ra := [.one (.d _)]) rfl ?_))))))))))))))))))))))))))))))))))))))))))))) (fun g3 => Ki Y (Kf Y Y (Ki Y (Ke Y Y Y (Ki Y (Kj Y Y Y (Kl Y (Ka Y (Ka Y (kGP Y (fun g4 => (Kg Y (Kg Y (Kg Y (Kk Y (Ka Y (Ka Y (Kg Y (Kg Y (Kg Y (Kg Y (Kk Y (Ka Y (Ka Y (Kg Y (Kg Y (Kg Y (Kg Y (Kg Y (Kg Y (Kg Y (Kk Y (Ka Y (Ka Y (Kg Y (Kg Y (Kg Y (Kg Y (Kg Y (Kg Y (Kg Y (Kk Y (Ka Y (Kd (kCondT Y (Kbc (Ka Y (Kd (Kr (Er (ra := [.one (.d _)]) rfl ?_)))))))))))))))))))))))))))))))))))))))) (fun g4 => (Ki Y (Kf Y Y (Ki Y (Ke Y Y Y (Ki Y (Kj Y Y Y (Kl Y (Ka Y (Ka Y (kGP Y (fun g5 => Kg Y (Kg Y (Kg Y (Kg Y (Kk Y (Ka Y (Ka Y (Kg Y (Kg Y (Kg Y (Kg Y (Kg Y (Kg Y (Kg Y (Kk Y (Ka Y (Ka Y (Kg Y (Kg Y (Kg Y (Kg Y (Kg Y (Kg Y (Kg Y (Kk Y (Ka Y (Kd (kCondT Y (Kbc (Ka Y (Kd (Kr (Er (ra := [.one (.d _)]) rfl ?_))))))))))))))))))))))))))))))))) (fun g5 => Ki Y (Kf Y Y (Ki Y (Ke Y Y Y (Ki Y (Kq Y Y (Ki Y (Kj Y Y Y (Kl Y (Ka Y (Ka Y (Ki Y (Kf Y Y (Ki Y (Ke Y Y Y (Ki Y (kIadR (m := 0) Y Y Y prl (Ki Y (kFadD Y (Ki Y (Ky Y Y (Ki Y (Kp (ok_spec_NameOk _ prx prx) ⟨⟨⟨Y, trivial⟩, leb⟩, trivial⟩ Y Y Y Y Y (Ki Y (Kw Y Y (Kl Y (Ka Y (Ka Y (kGN Y (fun g6 => Kg Y (Kg Y (Kg Y (Kg Y (Kg Y (Kg Y (Kg Y (Kk Y (Ka Y (Kd (kCondT Y (Kbc (Ka Y (Kd (Kr (Er (ra := [.one (.d _)]) rfl ?_)))))))))))))))) (fun g6 => Ki Y (Kf Y Y (Ki Y (Ke Y Y Y (Ki Y (kIadR (m := 0) Y Y Y prl (Ki Y (kFadD Y (Ki Y (Ky Y Y (Ki Y (Kp (ok_spec_l4asked _) ⟨Y, trivial⟩ Y Y Y Y Y (Ki Y (Kw Y Y (Kl Y (Ka Y (Kd (kCondN Y (fun g7 => Kbc (Ka Y (Kd (Kr (Er (ra := [.one (.d _)]) rfl ?_))))) (fun g7 => Kn (Kb (Kbc (Kf Y Y (Ke Y Y Y (Kp (ok_spec_l4rrs _ prx) ⟨Y, trivial⟩ Y Y Y Y Y (Kw Y Y (Ka Y (kGN Y (fun g8 => Kg Y (Kg Y (Kg Y (Kg Y (Kk Y (Ka Y (Ka Y (Kg Y (Kg Y (Kg Y (Kg Y (Kk Y (Ka Y (Ka Y (Kg Y (Kg Y (Kg Y (Kg Y (Kk Y (Ka Y (Ka Y (Kg Y (Kg Y (Kg Y (Kg Y (Kk Y (Ka Y (Kd (kCondT Y (Kbc (Ka Y (Kd (Kr (Er (ra := [.one (.d _)]) rfl ?_)))))))))))))))))))))))))))))))))) (fun g8 => Ki Y (Kf Y Y (Ki Y (Ke Y Y Y (Ki Y (Kp (ok_spec_l4rrs _ prx) ⟨Y, trivial⟩ Y Y Y Y Y (Ki Y (Kw Y Y (Kl Y (Ka Y (Ka Y (kGN Y (fun g9 => (Kg Y (Kg Y (Kg Y (Kg Y (Kk Y (Ka Y (Ka Y (Kg Y (Kg Y (Kg Y (Kg Y (Kk Y (Ka Y (Ka Y (Kg Y (Kg Y (Kg Y (Kg Y (Kk Y (Ka Y (Kd (kCondT Y (Kbc (Ka Y (Kd (Kr (Er (ra := [.one (.d _)]) rfl ?_)))))))))))))))))))))))))))) (fun g9 => (Ki Y (Kf Y Y (Ki Y (Ke Y Y Y (Ki Y (Kp (ok_spec_l4rrs _ prx) ⟨Y, trivial⟩ Y Y Y Y Y (Ki Y (Kw Y Y (Kl Y (Ka Y (Ka Y (kGN Y (fun g10 => Kg Y (Kg Y (Kg Y (Kg Y (Kk Y (Ka Y (Ka Y (Kg Y (Kg Y (Kg Y (Kg Y (Kk Y (Ka Y (Kd (kCondT Y (Kbc (Ka Y (Kd (Kr (Er (ra := [.one (.d _)]) rfl ?_)))))))))))))))))))) (fun g10 => Ki Y (Kf Y Y (Ki Y (Ke Y Y Y (Ki Y (Kp (ok_spec_l4wants _ prx) ⟨Y, trivial⟩ Y Y Y Y Y (Ki Y (Kw Y Y (Kl Y (Ka Y (Ka Y (kGN Y (fun g11 => Kg Y (Kg Y (Kg Y (Kg Y (Kk Y (Ka Y (Kd (kCondT Y (Kbc (Ka Y (Kd (Kr (Er (ra := [.one (.d _)]) rfl ?_))))))))))))) (fun g11 => Ki Y (Kf Y Y (Ki Y (Ke Y Y Y (Ki Y (Kp (ok_spec_l4wants _ prx) ⟨Y, trivial⟩ Y Y Y Y Y (Ki Y (Kw Y Y (Kl Y (Ka Y (Kd (kCondN Y (fun g12 => Kbc (Ka Y (Kd (Kr (Er (ra := [.one (.d _)]) rfl ?_))))) (fun g12 => Kn (Kb (Kbc (Kf Y Y (Ke Y Y Y (Kj Y Y Y (Kd (Km Y (fun g13 => om) (fun g13 => Kn (Kbc (Kf Y Y (Ke Y Y Y (kIadR (m := 0) Y Y Y prl (kFadD Y (Ky Y Y (Kj Y Y Y (Ka Y (kGP Y (fun g14 => Ki Y (Kf Y Y (Ki Y (Ke Y Y Y (Ki Y (Kq Y Y (Ki Y (Kj Y Y Y (Kk Y (Ka Y (Ka Y (kGP Y (fun g15 => Ki Y (Kf Y Y (Ki Y (Ke Y Y Y (Ki Y (Kq Y Y (Ki Y (Kj Y Y Y (Kk Y (Ka Y (Ka Y (kGP Y (fun g16 => Ki Y (Kf Y Y (Ki Y (Ke Y Y Y (Ki Y (Kq Y Y (Ki Y (Kj Y Y Y (Kk Y (Ka Y (Ka Y (Kd (Kr (Er (ra := [.one (.d _)]) rfl ?_)))))))))))))) (fun g16 => Kg Y (Kg Y (Kg Y (Kg Y (Kl Y (Ka Y (Ka Y (Kd (Kr (Er (ra := [.one (.d _)]) rfl ?_)))))))))))))))))))))) (fun g15 => Kg Y (Kg Y (Kg Y (Kg Y (Kl Y (Ka Y (Ka Y (Kg Y (Kg Y (Kg Y (Kg Y (Kl Y (Ka Y (Ka Y (Kd (Kr (Er (ra := [.one (.d _)]) rfl ?_))))))))))))))))))))))))))))) (fun g14 => Kg Y (Kg Y (Kg Y (Kg Y (Kl Y (Ka Y (Ka Y (Kg Y (Kg Y (Kg Y (Kg Y (Kl Y (Ka Y (Ka Y (Kg Y (Kg Y (Kg Y (Kg Y (Kl Y (Ka Y (Ka Y (Kd (Kr (Er (ra := [.one (.d _)]) rfl ?_))))))))))))))))))))))))))))))))))))))))))))))))))))))))))))))))))))))))))))))))))))))))))))))))))))))))))))))))))))))))))))))))))))))))))))))))))))))))))))))))))))))))))))))))))))) (fun g2 => Kg Y (Kg Y (Kg Y (Ki Y (Kl Y (Ka Y (Kl Y (Ka Y (Ka Y (Ki Y (Kf Y Y (Ki Y (Ke Y Y Y (Ki Y (Kj Y Y Y (Kl Y (Ka Y (Ka Y (kGP Y (fun g17 => Kg Y (Kg Y (Kg Y (Kk Y (Ka Y (Ka Y (Kg Y (Kg Y (Kg Y (Kg Y (Kk Y (Ka Y (Ka Y (Kg Y (Kg Y (Kg Y (Kg Y (Kg Y (Kg Y (Kg Y (Kk Y (Ka Y (Ka Y (Kg Y (Kg Y (Kg Y (Kg Y (Kg Y (Kg Y (Kg Y (Kk Y (Ka Y (Kd (kCondT Y (Kbc (Ka Y (Kd (Kr (Er (ra := [.one (.d _)]) rfl ?_))))))))))))))))))))))))))))))))))))))) (fun g17 => Ki Y (Kf Y Y (Ki Y (Ke Y Y Y (Ki Y (Kj Y Y Y (Kl Y (Ka Y (Ka Y (kGP Y (fun g18 => Kg Y (Kg Y (Kg Y (Kg Y (Kk Y (Ka Y (Ka Y (Kg Y (Kg Y (Kg Y (Kg Y (Kg Y (Kg Y (Kg Y (Kk Y (Ka Y (Ka Y (Kg Y (Kg Y (Kg Y (Kg Y (Kg Y (Kg Y (Kg Y (Kk Y (Ka Y (Kd (kCondT Y (Kbc (Ka Y (Kd (Kr (Er (ra := [.one (.d _)]) rfl ?_))))))))))))))))))))))))))))))))) (fun g18 => Ki Y (Kf Y Y (Ki Y (Ke Y Y Y (Ki Y (Kq Y Y (Ki Y (Kj Y Y Y (Kl Y (Ka Y (Ka Y (Ki Y (Kf Y Y (Ki Y (Ke Y Y Y (Ki Y (kIadR (m := 0) Y Y Y prl (Ki Y (kFadD Y (Ki Y (Ky Y Y (Ki Y (Kp (ok_spec_NameOk _ prx prx) ⟨⟨⟨Y, trivial⟩, leb⟩, trivial⟩ Y Y Y Y Y (Ki Y (Kw Y Y (Kl Y (Ka Y (Ka Y (kGN Y (fun g19 => (Kg Y (Kg Y (Kg Y (Kg Y (Kg Y (Kg Y (Kg Y (Kk Y (Ka Y (Kd (kCondT Y (Kbc (Ka Y (Kd (Kr (Er (ra := [.one (.d _)]) rfl ?_))))))))))))))))) (fun g19 => (Ki Y (Kf Y Y (Ki Y (Ke Y Y Y (Ki Y (kIadR (m := 0) Y Y Y prl (Ki Y (kFadD Y (Ki Y (Ky Y Y (Ki Y (Kp (ok_spec_l4asked _) ⟨Y, trivial⟩ Y Y Y Y Y (Ki Y (Kw Y Y (Kl Y (Ka Y (Kd (kCondN Y (fun g20 => Kbc (Ka Y (Kd (Kr (Er (ra := [.one (.d _)]) rfl ?_))))) (fun g20 => Kn (Kb (Kbc (Kf Y Y (Ke Y Y Y (Kp (ok_spec_l4rrs _ prx) ⟨Y, trivial⟩ Y Y Y Y Y (Kw Y Y (Ka Y (kGN Y (fun g21 => Kg Y (Kg Y (Kg Y (Kg Y (Kk Y (Ka Y (Ka Y (Kg Y (Kg Y (Kg Y (Kg Y (Kk Y (Ka Y (Ka Y (Kg Y (Kg Y (Kg Y (Kg Y (Kk Y (Ka Y (Ka Y (Kg Y (Kg Y (Kg Y (Kg Y (Kk Y (Ka Y (Kd (kCondT Y (Kbc (Ka Y (Kd (Kr (Er (ra := [.one (.d _)]) rfl ?_)))))))))))))))))))))))))))))))))) (fun g21 => Ki Y (Kf Y Y (Ki Y (Ke Y Y Y (Ki Y (Kp (ok_spec_l4rrs _ prx) ⟨Y, trivial⟩ Y Y Y Y Y (Ki Y (Kw Y Y (Kl Y (Ka Y (Ka Y (kGN Y (fun g22 => (Kg Y (Kg Y (Kg Y (Kg Y (Kk Y (Ka Y (Ka Y (Kg Y (Kg Y (Kg Y (Kg Y (Kk Y (Ka Y (Ka Y (Kg Y (Kg Y (Kg Y (Kg Y (Kk Y (Ka Y (Kd (kCondT Y (Kbc (Ka Y (Kd (Kr (Er (ra := [.one (.d _)]) rfl ?_)))))))))))))))))))))))))))) (fun g22 => (Ki Y (Kf Y Y (Ki Y (Ke Y Y Y (Ki Y (Kp (ok_spec_l4rrs _ prx) ⟨Y, trivial⟩ Y Y Y Y Y (Ki Y (Kw Y Y (Kl Y (Ka Y (Ka Y (kGN Y (fun g23 => Kg Y (Kg Y (Kg Y (Kg Y (Kk Y (Ka Y (Ka Y (Kg Y (Kg Y (Kg Y (Kg Y (Kk Y (Ka Y (Kd (kCondT Y (Kbc (Ka Y (Kd (Kr (Er (ra := [.one (.d _)]) rfl ?_)))))))))))))))))))) (fun g23 => Ki Y (Kf Y Y (Ki Y (Ke Y Y Y (Ki Y (Kp (ok_spec_l4wants _ prx) ⟨Y, trivial⟩ Y Y Y Y Y (Ki Y (Kw Y Y (Kl Y (Ka Y (Ka Y (kGN Y (fun g24 => Kg Y (Kg Y (Kg Y (Kg Y (Kk Y (Ka Y (Kd (kCondT Y (Kbc (Ka Y (Kd (Kr (Er (ra := [.one (.d _)]) rfl ?_))))))))))))) (fun g24 => Ki Y (Kf Y Y (Ki Y (Ke Y Y Y (Ki Y (Kp (ok_spec_l4wants _ prx) ⟨Y, trivial⟩ Y Y Y Y Y (Ki Y (Kw Y Y (Kl Y (Ka Y (Kd (kCondN Y (fun g25 => Kbc (Ka Y (Kd (Kr (Er (ra := [.one (.d _)]) rfl ?_))))) (fun g25 => Kn (Kb (Kbc (Kf Y Y (Ke Y Y Y (Kj Y Y Y (Kd (Km Y (fun g26 => Kbc (Kf Y Y (Ke Y Y Y (Kq Y Y (Kj Y Y Y (Ka Y (kGP Y (fun g27 => Ki Y (Kf Y Y (Ki Y (Ke Y Y Y (Ki Y (Kq Y Y (Ki Y (Kj Y Y Y (Kk Y (Ka Y (Ka Y (Kd (Kr (Er (ra := [.one (.d _)]) rfl ?_)))))))))))))) (fun g27 => Kg Y (Kg Y (Kg Y (Kg Y (Kl Y (Ka Y (Ka Y (Kd (Kr (Er (ra := [.one (.d _)]) rfl ?_))))))))))))))))) (fun g26 => om))))))))))))))))))))))))))))))))))))))))))))))))))))))))))))))))))))))))))))))))))))))))))))))))))))))))))))))))))))))))))))))))))))))))))))))))))))))))))))))))))))))))))))
    all_goals
      refine congrArg (fun z : Bool => [RA.one (RV.d (DV.sc (Value.bool z)))]) ?_
      clear b1 b2 b3 b4 b5 b6
      simp only at *
      unfold msgMay
      rw [Bool.eq_iff_iff]
      constructor
      · intro e
        first
          | (cases e; done)
          | (simp_all; done)
          | (simp_all; omega)
      · intro e
        simp only [Bool.and_eq_true, decide_eq_true_eq] at e
        obtain ⟨⟨⟨⟨e1, e2⟩, ⟨e3, e4⟩, e5⟩, ⟨⟨⟨e6, e7⟩, e8⟩, e9⟩, e10⟩, e11⟩ := e
        first
          | omega
          | (simp_all; done)
          | (simp_all; omega)
  · have hl : (q :: q2 :: qs).length = qs.length + 2 := rfl
    refine Kbc (kBox Y Y Y Y Y (Ka Y (Kdb (Kbc (Kf Y Y (Ke Y Y Y (Kj Y Y Y (Ka Y (kGP Y (fun g0 => Kg Y (Kg Y (Kg Y (Kk Y (Ka Y (Ka Y (Kg Y (Kg Y (Kg Y (Kg Y (kGU Y (kGU Y (kGU Y (Kg Y (Kk Y (Ka Y (Ka Y (Kg Y (Kg Y (Kg Y (Kk Y (Ka Y (Ka Y (Kg Y (Kg Y (Kg Y (Kk Y (Ka Y (Ka Y (Kg Y (Kg Y (Kg Y (Kg Y (Kk Y (Ka Y (Ka Y (Kg Y (Kg Y (Kg Y (Kg Y (Kg Y (Kg Y (Kg Y (Kk Y (Ka Y (Ka Y (Kg Y (Kg Y (Kg Y (Kg Y (Kg Y (Kg Y (Kg Y (Kk Y (Ka Y (Kd (kCondT Y (Kbc (Ka Y (Kd (Kr (Er (ra := [.one (.d _)]) rfl ?_)))))))))))))))))))))))))))))))))))))))))))))))))))))))))))))) (fun g0 => Ki Y (Kf Y Y (Ki Y (Ke Y Y Y (Ki Y (Kj Y Y Y (Kl Y (Ka Y (Ka Y (kGP Y (fun g1 => Kg Y (Kg Y (Kg Y (Kg Y (kGU Y (kGU Y (kGU Y (Kg Y (Kk Y (Ka Y (Ka Y (Kg Y (Kg Y (Kg Y (Kk Y (Ka Y (Ka Y (Kg Y (Kg Y (Kg Y (Kk Y (Ka Y (Ka Y (Kg Y (Kg Y (Kg Y (Kg Y (Kk Y (Ka Y (Ka Y (Kg Y (Kg Y (Kg Y (Kg Y (Kg Y (Kg Y (Kg Y (Kk Y (Ka Y (Ka Y (Kg Y (Kg Y (Kg Y (Kg Y (Kg Y (Kg Y (Kg Y (Kk Y (Ka Y (Kd (kCondT Y (Kbc (Ka Y (Kd (Kr (Er (ra := [.one (.d _)]) rfl ?_)))))))))))))))))))))))))))))))))))))))))))))))))))))))) (fun g1 => Ki Y (Kf Y Y (Ki Y (Ke Y Y Y (Ki Y (Kj Y Y Y (Ki Y (Ka Y (kGIN Y (fun g2 => Ki Y (Kf Y Y (Ki Y (Ke Y Y Y (Ki Y (Kj Y Y Y (Ki Y (Kk Y (Ka Y (Kl Y (Ka Y (Ka Y (kGIN Y (fun g3 => Kg Y (Kg Y (Kg Y (Kk Y (Ka Y (Ka Y (Kg Y (Kg Y (Kg Y (Kk Y (Ka Y (Ka Y (Kg Y (Kg Y (Kg Y (Kg Y (Kk Y (Ka Y (Ka Y (Kg Y (Kg Y (Kg Y (Kg Y (Kg Y (Kg Y (Kg Y (Kk Y (Ka Y (Ka Y (Kg Y (Kg Y (Kg Y (Kg Y (Kg Y (Kg Y (Kg Y (Kk Y (Ka Y (Kd (kCondT Y (Kbc (Ka Y (Kd (Kr (Er (ra := [.one (.d _)]) rfl ?_))))))))))))))))))))))))))))))))))))))))))))) (fun g3 => Ki Y (Kf Y Y (Ki Y (Ke Y Y Y (Ki Y (Kj Y Y Y (Kl Y (Ka Y (Ka Y (kGP Y (fun g4 => (Kg Y (Kg Y (Kg Y (Kk Y (Ka Y (Ka Y (Kg Y (Kg Y (Kg Y (Kg Y (Kk Y (Ka Y (Ka Y (Kg Y (Kg Y (Kg Y (Kg Y (Kg Y (Kg Y (Kg Y (Kk Y (Ka Y (Ka Y (Kg Y (Kg Y (Kg Y (Kg Y (Kg Y (Kg Y (Kg Y (Kk Y (Ka Y (Kd (kCondT Y (Kbc (Ka Y (Kd (Kr (Er (ra := [.one (.d _)]) rfl ?_)))))))))))))))))))))))))))))))))))))))) (fun g4 => (Ki Y (Kf Y Y (Ki Y (Ke Y Y Y (Ki Y (Kj Y Y Y (Kl Y (Ka Y (Ka Y (kGP Y (fun g5 => Kg Y (Kg Y (Kg Y (Kg Y (Kk Y (Ka Y (Ka Y (Kg Y (Kg Y (Kg Y (Kg Y (Kg Y (Kg Y (Kg Y (Kk Y (Ka Y (Ka Y (Kg Y (Kg Y (Kg Y (Kg Y (Kg Y (Kg Y (Kg Y (Kk Y (Ka Y (Kd (kCondT Y (Kbc (Ka Y (Kd (Kr (Er (ra := [.one (.d _)]) rfl ?_))))))))))))))))))))))))))))))))) (fun g5 => Ki Y (Kf Y Y (Ki Y (Ke Y Y Y (Ki Y (Kq Y Y (Ki Y (Kj Y Y Y (Kl Y (Ka Y (Ka Y (Kg Y (Kg Y (Kg Y (Kg Y (Kg Y (Kg Y (Kg Y (Kk Y (Ka Y (Ka Y (Kg Y (Kg Y (Kg Y (Kg Y (Kg Y (Kg Y (Kg Y (Kk Y (Ka Y (Kd (kCondT Y (Kbc (Ka Y (Kd (Kr (Er (ra := [.one (.d _)]) rfl ?_))))))))))))))))))))))))))))))))))))))))))))))))))))))))))))))))))))))) (fun g2 => Kg Y (Kg Y (Kg Y (Ki Y (Kl Y (Ka Y (Kl Y (Ka Y (Ka Y (Ki Y (Kf Y Y (Ki Y (Ke Y Y Y (Ki Y (Kj Y Y Y (Kl Y (Ka Y (Ka Y (kGP Y (fun g6 => Kg Y (Kg Y (Kg Y (Kk Y (Ka Y (Ka Y (Kg Y (Kg Y (Kg Y (Kg Y (Kk Y (Ka Y (Ka Y (Kg Y (Kg Y (Kg Y (Kg Y (Kg Y (Kg Y (Kg Y (Kk Y (Ka Y (Ka Y (Kg Y (Kg Y (Kg Y (Kg Y (Kg Y (Kg Y (Kg Y (Kk Y (Ka Y (Kd (kCondT Y (Kbc (Ka Y (Kd (Kr (Er (ra := [.one (.d _)]) rfl ?_))))))))))))))))))))))))))))))))))))))) (fun g6 => Ki Y (Kf Y Y (Ki Y (Ke Y Y Y (Ki Y (Kj Y Y Y (Kl Y (Ka Y (Ka Y (kGP Y (fun g7 => Kg Y (Kg Y (Kg Y (Kg Y (Kk Y (Ka Y (Ka Y (Kg Y (Kg Y (Kg Y (Kg Y (Kg Y (Kg Y (Kg Y (Kk Y (Ka Y (Ka Y (Kg Y (Kg Y (Kg Y (Kg Y (Kg Y (Kg Y (Kg Y (Kk Y (Ka Y (Kd (kCondT Y (Kbc (Ka Y (Kd (Kr (Er (ra := [.one (.d _)]) rfl ?_))))))))))))))))))))))))))))))))) (fun g7 => Ki Y (Kf Y Y (Ki Y (Ke Y Y Y (Ki Y (Kq Y Y (Ki Y (Kj Y Y Y (Kl Y (Ka Y (Ka Y (Kg Y (Kg Y (Kg Y (Kg Y (Kg Y (Kg Y (Kg Y (Kk Y (Ka Y (Ka Y (Kg Y (Kg Y (Kg Y (Kg Y (Kg Y (Kg Y (Kg Y (Kk Y (Ka Y (Kd (kCondT Y (Kbc (Ka Y (Kd (Kr (Er (ra := [.one (.d _)]) rfl ?_))))))))))))))))))))))))))))))))))))))))))))))))))))))))))))))))))))))))))))))))))))))))))))))
    all_goals
      refine congrArg (fun z : Bool => [RA.one (RV.d (DV.sc (Value.bool z)))]) ?_
      clear b1 b2 b3 b4 b5 b6
      simp only at *
      unfold msgMay
      rw [Bool.eq_iff_iff]
      constructor
      · intro e
        first
          | (cases e; done)
          | (simp_all; done)
          | (simp_all; omega)
      · intro e
        simp only [Bool.and_eq_true, decide_eq_true_eq] at e
        obtain ⟨⟨⟨⟨e1, e2⟩, ⟨e3, e4⟩, e5⟩, ⟨⟨⟨e6, e7⟩, e8⟩, e9⟩, e10⟩, e11⟩ := e
        first
          | omega
          | (simp_all; done)
          | (simp_all; omega)

def c_spec_Put16 : C := (.g (.o 0 4 (.mov (.n 1)) .done) (.g (.o 0 6 (.lit 6 1 [(.v (.int .u8 0))] 0 []) (.o 1 7 (.mov (.t 0)) (.o 2 8 (.app 8 1 1 (.t 6) (.t 7)) (.o 3 5 (.mov (.t 8)) .done)))) (.seq (.g (.o 0 9 (.mov (.t 1)) (.o 1 10 (.bin .lss (.t 9) (.i 0)) (.o 2 11 (.mov (.t 10)) (.op 3 [] (some 12) (some (11, false)) false (.mov (.t 1)) (.op 4 [] (some 13) (some (11, false)) false (.bin .gtr (.t 12) (.i 65535)) (.o 5 14 (.pick (.t 11) (.v (.bool true)) (.t 13)) .done)))))) (.cond (.t 14) (.g (.o 0 15 (.mov (.t 5)) (.o 1 4 (.mov (.t 15)) .done)) .ret) .skip)) (.g (.o 0 16 (.mov (.t 5)) (.o 1 17 (.mov (.t 1)) (.o 2 18 (.bin .shr (.t 17) (.v (.int .u64 8))) (.o 3 19 (.conv .u8 (.t 18)) (.o 4 20 (.mov (.t 1)) (.o 5 21 (.conv .u8 (.t 20)) (.o 6 22 (.lit 22 1 [(.v (.int .u8 0))] 2 [(0, 1, (.t 19)), (1, 1, (.t 21))]) (.o 7 23 (.app 23 1 1 (.t 16) (.t 22)) (.o 8 4 (.mov (.t 23)) .done))))))))) .ret))))
theorem dg_spec_Put16 : Tryz.f207.body.bind (digC Tryz.prog Tryz.f207.ntmps []) = some c_spec_Put16 := by kernel_rfl
theorem rs_spec_Put16 : resSlots Tryz.prog Tryz.f207 = some [.s 4] := by kernel_rfl
theorem ok_spec_Put16 (b : List UInt8) (n : Int) (hb : b.length ≤ 16777216) (h0 : 0 ≤ n) (h1 : n ≤ 65535) :
    FnOK Tryz.prog 207 [.one (.d (encB b)), .one (.d (.sc (.int .i64 n)))] (fun ra _ => ra = [.one (.own true (encB (b ++ w2 n)))]) := by
  refine FnOK.ofK Tryz.func207 (by kernel_rfl) dg_spec_Put16 rs_spec_Put16 rfl rfl ?_
  delta c_spec_Put16 T.o X.i C.g
  refine Kbc (Ka Y (Kdb (Kc (kLitG Y Y Y Y (Ka Y (kAppN Y Y Y (src_encB _ _) rfl rfl rfl rfl prl (Ka Y (Kdb (Kbc (Ka Y (Kj Y Y Y (Ka Y (kGP Y (fun g0 => om) (fun g0 => Ki Y (Ka Y (Ki Y (Kj Y Y Y (Kl Y (Ka Y (Kd (Km Y (fun g1 => om) (fun g1 => Kn (Kbc (kMem [(28672, ⟨2, 0, .arr true _⟩)] [(5, .c (.arr 28672 2)), (1, .c (.d _)), (17, .c (.un)), (18, .c (.un)), (20, .c (.un)), (19, .c (.un)), (21, .c (.un)), (16, .c (.un)), (22, .c (.un)), (23, .c (.un))] [] ⟨Y, trivial⟩ ⟨Y, Y, Y, Y, Y, Y, Y, Y, Y, Y, trivial⟩ Y (Ka Y (Ka Y (kShr (m := 8) Y Y Y (kConvU8 Y (Ka Y (kConvU8 Y (kLitG Y Y Y Y (kAppR2 Y Y Y Y Y Y Y Y prl (kMem [(28672, ⟨3, 0, .arr true _⟩)] [(23, .c (.arr 28672 3))] [] ⟨Y, trivial⟩ ⟨Y, trivial⟩ Y (Ka Y (Kd (kMem [(28672, ⟨3, 0, .arr true _⟩)] [(4, .c (.arr 28672 3))] [] ⟨Y, trivial⟩ ⟨Y, trivial⟩ Y (Kr (Er (ra := [.one (.own true _)]) rfl rfl))))))))))))))))))))))))))))))))))))))
theorem ok_spec_Put16_nil (n : Int) (h0 : 0 ≤ n) (h1 : n ≤ 65535) :
    FnOK Tryz.prog 207 [.one (.d (.sl 1 [])), .one (.d (.sc (.int .i64 n)))] (fun ra _ => ra = [.one (.own true (encB (w2 n)))]) := ok_spec_Put16 [] n (Nat.zero_le _) h0 h1

def c_spec_l3rr : C := (.g (.o 0 4 (.box 4 (.t 1)) (.o 1 6 (.mov (.n 1)) .done)) (.g (.o 0 8 (.load (some 7) (.t 4)) (.o 1 9 (.call 9 167 [(.t 8)]) (.o 2 7 (.mov (.t 9)) .done))) (.seq (.reg true (.op 0 [] (some 10) none true (.mov (.t 0)) (.op 1 [] (some 11) none true (.fad (.t 4) 0) (.op 2 [] (some 12) none true (.load (some 1) (.t 11)) (.op 4 [] (some 14) none true (.fad (.t 4) 1) (.op 5 [] (some 15) none true (.load none (.t 14)) (.op 7 [] (some 17) none true (.mov (.t 2)) (.op 9 [] (some 19) none true (.fad (.t 4) 2) (.op 10 [] (some 20) none true (.load none (.t 19)) (.op 3 [2] (some 13) none false (.call 13 155 [(.t 10), (.t 12)]) (.op 6 [2, 5] (some 16) none false (.call 16 207 [(.t 13), (.t 15)]) (.op 8 [2, 5] (some 18) none false (.call 18 207 [(.t 16), (.t 17)]) (.op 11 [2, 5, 10] (some 21) none false (.call 21 247 [(.t 18), (.t 20)]) (.op 12 [] (some 0) none true (.mov (.t 21)) .done)))))))))))))) (.g (.o 0 22 (.mov (.t 0)) (.o 1 23 (.mov (.t 7)) (.o 2 24 (.len (.t 23)) (.o 3 25 (.call 25 207 [(.t 22), (.t 24)]) (.o 4 26 (.mov (.t 7)) (.o 5 27 (.app 27 1 1 (.t 25) (.t 26)) (.o 6 6 (.mov (.t 27)) .done))))))) .ret))))
theorem dg_spec_l3rr : Tryz.f209.body.bind (digC Tryz.prog Tryz.f209.ntmps []) = some c_spec_l3rr := by kernel_rfl
theorem rs_spec_l3rr : resSlots Tryz.prog Tryz.f209 = some [.s 6] := by kernel_rfl
theorem ok_spec_l3rr (b : List UInt8) (r : Rr) (c : Int) (hb : b.length ≤ 8388608) (hs : SmallR r) (hk : rrOk r = true) (h0 : 0 ≤ c) (h1 : c ≤ 65535) :
    FnOK Tryz.prog 209 [.one (.arr true true (encB b)), .agg (r.cells.map .d), .one (.d (.sc (.int .i64 c)))] (fun ra _ => ra = [.one (.own true (encB (b ++ rrB r c)))]) := by
  refine FnOK.ofK Tryz.func209 (by kernel_rfl) dg_spec_l3rr rs_spec_l3rr rfl rfl ?_
  delta c_spec_l3rr T.o X.i C.g
  obtain ⟨k1, k2, k3, k4, k5⟩ := rrOk_ty hk
  have k6 := rdata_small hk
  have k7 := wireN_small k5
  have k8 := hs.n
  have hl : (b ++ wireN r.name ++ w2 r.ty ++ w2 c ++ w4 r.ttl ++ w2 ((rdata r).length : Int)).length = b.length + (wireN r.name).length + 10 := by simp only [List.length_append, w2_len, w4_len]
  refine Kbc (kBox Y Y Y Y Y (Ka Y (Kdb (Kc (Ke Y Y Y (Ku true (ok_spec_l3put _ prx prx) ⟨⟨⟨Y, Y, Y, Y, Y, Y, Y, trivial⟩, leb⟩, trivial⟩ Y Y Y (fun _ => (Ka Y (Kdb (kRegD (Ka Y (Kf Y Y (Ke Y Y Y (Kf Y Y (Ke Y Y Y (Ka Y (Kf Y Y (Ke Y Y Y (Kx Y Y (Ku true (ok_spec_l2put _ _ prx prx) ⟨⟨_, rfl, .inl rfl⟩, ⟨⟨Y, trivial⟩, leb⟩, trivial⟩ Y Y Y (fun _ => (Kx Y Y (Ku true (ok_spec_Put16 _ _ prx prx prx) ⟨Y, Y, trivial⟩ Y Y Y (fun _ => (Kx Y Y (Ku true (ok_spec_Put16 _ _ prx prx prx) ⟨Y, Y, trivial⟩ Y Y Y (fun _ => (Ks Y Y (Ku true (ok_spec_Put32 _ _ prx prx prx) ⟨Y, Y, trivial⟩ Y Y Y (fun _ => (Ka Y (Kd (kH (Kbc (Ka Y (Ka Y (Kq Y Y (Ku true (ok_spec_Put16 _ _ prx prx prx) ⟨Y, Y, trivial⟩ Y Y Y (fun _ => (Ka Y (kAppR Y Y Y (src_ownB rfl) rfl rfl rfl rfl prl (Ka Y (Kd (Kr (Er (ra := [.one (.own true _)]) rfl ?_)))))))))))))))))))))))))))))))))))))))))))))
  exact congrArg (fun z => [RA.one (RV.own true (encB z))]) (by simp only [rrB, List.append_assoc])

def c_spec_l4want : C := (.g (.o 0 3 (.box 3 (.t 1)) (.o 1 4 (.mov (.n 1)) .done)) (.seq (.g (.o 0 5 (.fad (.t 3) 8) (.o 1 6 (.load none (.t 5)) (.o 2 7 (.un .not (.t 6)) .done))) (.cond (.t 7) (.g (.o 0 8 (.mov (.t 0)) (.o 1 9 (.fad (.t 3) 0) (.o 2 10 (.load (some 7) (.t 9)) (.o 3 11 (.fad (.t 3) 7) (.o 4 12 (.load none (.t 11)) (.o 5 13 (.call 13 209 [(.t 8), (.t 10), (.t 12)]) (.o 6 4 (.mov (.t 13)) .done))))))) .ret) .skip)) (.seq (.reg true (.op 0 [] (some 14) none true (.mov (.t 0)) (.op 1 [] (some 15) none true (.fad (.t 3) 0) (.op 2 [] (some 16) none true (.fad (.t 15) 0) (.op 3 [] (some 17) none true (.load (some 1) (.t 16)) (.op 5 [] (some 19) none true (.fad (.t 3) 0) (.op 6 [] (some 20) none true (.fad (.t 19) 1) (.op 7 [] (some 21) none true (.load none (.t 20)) (.op 9 [] (some 23) none true (.fad (.t 3) 7) (.op 10 [] (some 24) none true (.load none (.t 23)) (.op 4 [3] (some 18) none false (.call 18 155 [(.t 14), (.t 17)]) (.op 8 [3, 7] (some 22) none false (.call 22 207 [(.t 18), (.t 21)]) (.op 11 [3, 7, 10] (some 25) none false (.call 25 207 [(.t 22), (.t 24)]) (.op 12 [3, 7, 10] (some 26) none false (.call 26 247 [(.t 25), (.i 0)]) (.op 13 [3, 7, 10] (some 27) none false (.call 27 207 [(.t 26), (.i 0)]) (.op 14 [] (some 4) none true (.mov (.t 27)) .done)))))))))))))))) .ret)))
theorem dg_spec_l4want : Tryz.f208.body.bind (digC Tryz.prog Tryz.f208.ntmps []) = some c_spec_l4want := by kernel_rfl
theorem rs_spec_l4want : resSlots Tryz.prog Tryz.f208 = some [.s 4] := by kernel_rfl
theorem ok_spec_l4want (b : List UInt8) (w : Want) (hb : b.length ≤ 4194304) (hs : SmallW w) (hk : wantOk w = true) :
    FnOK Tryz.prog 208 [.one (.arr true true (encB b)), .agg (w.cells.map .d)] (fun ra _ => ra = [.one (.own true (encB (b ++ wantB w)))]) := by
  refine FnOK.ofK Tryz.func208 (by kernel_rfl) dg_spec_l4want rs_spec_l4want rfl rfl ?_
  delta c_spec_l4want T.o X.i C.g
  have k1 := want_cls hk
  have k8 := hs.r
  have k9 := hs.r.n
  cases hb2 : w.bare
  · have k2 := want_rr hk hb2
    refine Kbc (kBox Y Y Y Y Y (Ka Y (Kdb (Kbc (Kf Y Y (Ke Y Y Y (Kw Y Y (Kd (kCondN Y (fun g0 => Kbc (Ka Y (Kf Y Y (Ke Y Y Y (Kf Y Y (Ke Y Y Y (Ku true (ok_spec_l3rr _ _ _ prx prx prx prx prx) ⟨⟨_, rfl, .inl rfl⟩, ⟨⟨Y, Y, Y, Y, Y, Y, Y, trivial⟩, leb⟩, rfl, trivial⟩ Y Y Y (fun _ => (Ka Y (Kd (Kr (Er (ra := [.one (.own true _)]) rfl ?_)))))))))))) (fun g0 => (by (simp [*] at g0))))))))))))
    rw [show wantB w = rrB w.rr w.cls by unfold wantB; rw [if_neg (by simp [hb2])]]
  · obtain ⟨k2, k3⟩ := want_bare hk hb2
    have k4 := askedT_rng k3
    have k7 := wireN_small k2
    refine Kbc (kBox Y Y Y Y Y (Ka Y (Kdb (Kbc (Kf Y Y (Ke Y Y Y (Kw Y Y (Kd (kCondN Y (fun g0 => (by (simp [*] at g0))) (fun g0 => Kn (Kb (kRegD (Ka Y (Kf Y Y (Kf Y Y (Ke Y Y Y (Kf Y Y (Kf Y Y (Ke Y Y Y (Kf Y Y (Ke Y Y Y (Kx Y Y (Ku true (ok_spec_l2put _ _ prx prx) ⟨⟨_, rfl, .inl rfl⟩, ⟨⟨Y, trivial⟩, leb⟩, trivial⟩ Y Y Y (fun _ => (Kx Y Y (Ku true (ok_spec_Put16 _ _ prx prx prx) ⟨Y, Y, trivial⟩ Y Y Y (fun _ => (Ks Y Y (Ku true (ok_spec_Put16 _ _ prx prx prx) ⟨Y, Y, trivial⟩ Y Y Y (fun _ => (Ks Y Y (Ku true (ok_spec_Put32 _ _ prx prx prx) ⟨Y, Y, trivial⟩ Y Y Y (fun _ => (Ks Y Y (Ku true (ok_spec_Put16 _ _ prx prx prx) ⟨Y, Y, trivial⟩ Y Y Y (fun _ => (Ka Y (Kd (kH (Kr (Er (ra := [.one (.own true _)]) rfl ?_)))))))))))))))))))))))))))))))))))))))))
    exact congrArg (fun z => [RA.one (RV.own true (encB z))]) (by unfold wantB; rw [if_pos hb2]; simp only [List.append_assoc])

def c_spec_l4bytes : C := (.g (.o 0 1 (.box 1 (.t 0)) (.o 1 2 (.mov (.n 1)) .done)) (.g (.o 0 11 (.fad (.t 1) 2) (.o 1 12 (.load none (.t 11)) (.o 2 13 (.bin .shl (.t 12) (.v (.int .u64 11))) (.o 3 14 (.fad (.t 1) 4) (.o 4 15 (.load none (.t 14)) (.o 5 16 (.bin .add (.t 13) (.t 15)) (.o 6 3 (.mov (.t 16)) .done))))))) (.seq (.g (.o 0 17 (.fad (.t 1) 1) (.o 1 18 (.load none (.t 17)) .done)) (.cond (.t 18) (.reg false (.o 0 19 (.mov (.t 3)) (.o 1 20 (.bin .add (.t 19) (.i 32768)) (.o 2 3 (.mov (.t 20)) .done)))) .skip)) (.seq (.g (.o 0 21 (.fad (.t 1) 3) (.o 1 22 (.load none (.t 21)) .done)) (.cond (.t 22) (.reg false (.o 0 23 (.mov (.t 3)) (.o 1 24 (.bin .add (.t 23) (.i 1024)) (.o 2 3 (.mov (.t 24)) .done)))) .skip)) (.seq (.reg true (.op 0 [] (some 25) none true (.fad (.t 1) 6) (.op 1 [] (some 26) none true (.load none (.t 25)) (.op 2 [] (some 27) none true (.len (.t 26)) (.op 3 [] (some 28) none true (.fad (.t 1) 7) (.op 4 [] (some 29) none true (.load none (.t 28)) (.op 5 [] (some 30) none true (.len (.t 29)) (.op 6 [] (some 4) none true (.mov (.t 27)) (.op 7 [] (some 5) none true (.mov (.t 30)) .done))))))))) (.seq (.g (.o 0 31 (.fad (.t 1) 2) (.o 1 32 (.load none (.t 31)) (.o 2 33 (.bin .eql (.t 32) (.i 5)) .done))) (.cond (.t 33) (.g (.o 0 34 (.fad (.t 1) 9) (.o 1 35 (.load none (.t 34)) (.o 2 36 (.len (.t 35)) (.o 3 4 (.mov (.t 36)) .done)))) (.reg false (.o 0 37 (.fad (.t 1) 10) (.o 1 38 (.load none (.t 37)) (.o 2 39 (.len (.t 38)) (.o 3 5 (.mov (.t 39)) .done)))))) .skip)) (.seq (.reg true (.op 0 [] (some 40) none true (.fad (.t 1) 0) (.op 1 [] (some 41) none true (.load none (.t 40)) (.op 3 [] (some 43) none true (.mov (.t 3)) (.op 6 [] (some 46) none true (.mov (.t 4)) (.op 8 [] (some 48) none true (.mov (.t 5)) (.op 10 [] (some 50) none true (.fad (.t 1) 8) (.op 11 [] (some 51) none true (.load none (.t 50)) (.op 12 [] (some 52) none true (.len (.t 51)) (.op 2 [1] (some 42) none false (.call 42 207 [(.n 1), (.t 41)]) (.op 4 [1] (some 44) none false (.call 44 207 [(.t 42), (.t 43)]) (.op 5 [1] (some 45) none false (.call 45 207 [(.t 44), (.i 1)]) (.op 7 [1] (some 47) none false (.call 47 207 [(.t 45), (.t 46)]) (.op 9 [1] (some 49) none false (.call 49 207 [(.t 47), (.t 48)]) (.op 13 [1, 11] (some 53) none false (.call 53 207 [(.t 49), (.t 52)]) (.op 14 [] (some 6) none true (.mov (.t 53)) .done)))))))))))))))) (.seq (.reg true (.op 0 [] (some 54) none true (.mov (.t 6)) (.op 1 [] (some 55) none true (.fad (.t 1) 5) (.op 2 [] (some 56) none true (.load none (.t 55)) (.op 3 [] (some 57) none true (.iad 2 (.t 56) (.i 0)) (.op 4 [] (some 58) none true (.fad (.t 57) 0) (.op 5 [] (some 59) none true (.load (some 1) (.t 58)) (.op 7 [] (some 61) none true (.fad (.t 1) 5) (.op 8 [] (some 62) none true (.load none (.t 61)) (.op 9 [] (some 63) none true (.iad 2 (.t 62) (.i 0)) (.op 10 [] (some 64) none true (.fad (.t 63) 1) (.op 11 [] (some 65) none true (.load none (.t 64)) (.op 6 [5, 2] (some 60) none false (.call 60 155 [(.t 54), (.t 59)]) (.op 12 [5, 2, 11, 8] (some 66) none false (.call 66 207 [(.t 60), (.t 65)]) (.op 13 [5, 2, 11, 8] (some 67) none false (.call 67 207 [(.t 66), (.i 1)]) (.op 14 [] (some 6) none true (.mov (.t 67)) .done)))))))))))))))) (.seq (.g (.o 0 7 (.mov (.i 0)) .done) (.block 0 (.loop (.seq (.g (.o 0 68 (.mov (.t 7)) (.o 1 69 (.fad (.t 1) 9) (.o 2 70 (.load none (.t 69)) (.o 3 71 (.len (.t 70)) (.o 4 72 (.bin .lss (.t 68) (.t 71)) .done))))) (.cond (.t 72) .skip (.exit 0))) (.seq (.block 1 (.reg false (.o 0 75 (.mov (.t 6)) (.o 1 76 (.fad (.t 1) 9) (.o 2 77 (.load none (.t 76)) (.o 3 78 (.mov (.t 7)) (.o 4 79 (.iad 9 (.t 77) (.t 78)) (.o 5 80 (.load (some 9) (.t 79)) (.o 6 81 (.call 81 208 [(.t 75), (.t 80)]) (.o 7 6 (.mov (.t 81)) .done)))))))))) (.reg false (.o 0 73 (.mov (.t 7)) (.o 1 74 (.bin .add (.t 73) (.i 1)) (.o 2 7 (.mov (.t 74)) .done))))))))) (.seq (.g (.o 0 8 (.mov (.i 0)) .done) (.block 2 (.loop (.seq (.g (.o 0 82 (.mov (.t 8)) (.o 1 83 (.fad (.t 1) 10) (.o 2 84 (.load none (.t 83)) (.o 3 85 (.len (.t 84)) (.o 4 86 (.bin .lss (.t 82) (.t 85)) .done))))) (.cond (.t 86) .skip (.exit 2))) (.seq (.block 3 (.reg false (.o 0 89 (.mov (.t 6)) (.o 1 90 (.fad (.t 1) 10) (.o 2 91 (.load none (.t 90)) (.o 3 92 (.mov (.t 8)) (.o 4 93 (.iad 9 (.t 91) (.t 92)) (.o 5 94 (.load (some 9) (.t 93)) (.o 6 95 (.call 95 208 [(.t 89), (.t 94)]) (.o 7 6 (.mov (.t 95)) .done)))))))))) (.reg false (.o 0 87 (.mov (.t 8)) (.o 1 88 (.bin .add (.t 87) (.i 1)) (.o 2 8 (.mov (.t 88)) .done))))))))) (.seq (.reg true (.op 1 [] (some 97) none true (.fad (.t 1) 6) (.op 2 [] (some 98) none true (.load none (.t 97)) (.op 4 [] (some 100) none true (.fad (.t 1) 7) (.op 5 [] (some 101) none true (.load none (.t 100)) (.op 7 [] (some 103) none true (.fad (.t 1) 8) (.op 8 [] (some 104) none true (.load none (.t 103)) (.o 0 96 (.lit 96 7 [(.n 1), (.i 0), (.i 0), (.i 0), (.n 1), (.n 1), (.n 1)] 0 []) (.op 3 [2] (some 99) none false (.app 99 7 120 (.t 96) (.t 98)) (.op 6 [2, 5] (some 102) none false (.app 102 7 120 (.t 99) (.t 101)) (.op 9 [2, 5, 8] (some 105) none false (.app 105 7 120 (.t 102) (.t 104)) (.op 10 [] (some 9) none true (.mov (.t 105)) .done)))))))))))) (.seq (.g (.o 0 10 (.mov (.i 0)) .done) (.block 4 (.loop (.seq (.g (.o 0 106 (.mov (.t 10)) (.o 1 107 (.mov (.t 9)) (.o 2 108 (.len (.t 107)) (.o 3 109 (.bin .lss (.t 106) (.t 108)) .done)))) (.cond (.t 109) .skip (.exit 4))) (.seq (.block 5 (.reg false (.o 0 112 (.mov (.t 6)) (.o 1 113 (.mov (.t 9)) (.o 2 114 (.mov (.t 10)) (.o 3 115 (.iad 7 (.t 113) (.t 114)) (.o 4 116 (.load (some 7) (.t 115)) (.o 5 117 (.call 117 209 [(.t 112), (.t 116), (.i 1)]) (.o 6 6 (.mov (.t 117)) .done))))))))) (.reg false (.o 0 110 (.mov (.t 10)) (.o 1 111 (.bin .add (.t 110) (.i 1)) (.o 2 10 (.mov (.t 111)) .done))))))))) (.g (.o 0 118 (.mov (.t 6)) (.o 1 2 (.mov (.t 118)) .done)) .ret)))))))))))))
theorem dg_spec_l4bytes : Tryz.f122.body.bind (digC Tryz.prog Tryz.f122.ntmps []) = some c_spec_l4bytes := by kernel_rfl
theorem rs_spec_l4bytes : resSlots Tryz.prog Tryz.f122 = some [.s 2] := by kernel_rfl
theorem ok_spec_l4bytes (m : Msg) (hs : SmallM m) (hk : msgMay m = true) :
    FnOK Tryz.prog 122 [.agg (m.cells.map .d)] (fun ra _ => ra = [.one (.own true (encB (msgB m (flagsM m) (if m.op = 5 then (m.pr.length : Int) else m.an.length) (if m.op = 5 then (m.up.length : Int) else m.au.length))))]) := by
  refine FnOK.ofK Tryz.func122 (by kernel_rfl) dg_spec_l4bytes rs_spec_l4bytes rfl rfl ?_
  delta c_spec_l4bytes T.o X.i C.g
  have p := MayP.of hk
  have b1 := hs.q
  have b2 := hs.a
  have b3 := hs.b
  have b4 := hs.c
  have b5 := hs.p
  have b6 := hs.u
  obtain ⟨p1, p2⟩ := p.id
  obtain ⟨p3, p4⟩ := p.cd
  have p5 := p.q1
  have p6 := p.qn
  obtain ⟨p7, p8⟩ := p.qt
  obtain ⟨p9, p10⟩ := p.an
  obtain ⟨p11, p12⟩ := p.au
  obtain ⟨p13, p14⟩ := p.mo
  obtain ⟨p15, p16⟩ := p.pr
  obtain ⟨p17, p18⟩ := p.up
  have hop : m.op = 0 ∨ m.op = 5 := p.op.imp (fun h => h.1) (fun h => h.1)
  have hop1 : 0 ≤ m.op ∧ m.op ≤ 5 := by omega
  refine Kb (kCut ⟨tabSl [(1, .c (.ptr (rid 1 0) 1 0)), (2, .c (.nil 1))], obTab 1 [(rid 1 0, ⟨1, 0, .box (m.cells.map .d)⟩)], []⟩ ?_ (fun x hc => ?_))
  case refine_2 => refine kReg (kBox rfl rfl rfl rfl rfl (kMovC rfl (kDone (hc _ .normA))))
  refine Kb (kCut ⟨tabSl [(1, .c (.ptr (rid 1 0) 1 0)), (2, .c (.nil 1)), (3, .i (m.op * 2048 + m.code))], obTab 1 [(rid 1 0, ⟨1, 0, .box (m.cells.map .d)⟩)], []⟩ ?_ (fun x hc => ?_))
  case refine_2 =>
    refine Kc (Kf Y Y (Ke Y Y Y (kShl11 Y Y om ?_)))
    refine Kf Y Y (Ke Y Y Y (kAdd Y Y om (Ka Y (Kd (hc _ .normA)))))
  refine Kb (kCut ⟨tabSl [(1, .c (.ptr (rid 1 0) 1 0)), (2, .c (.nil 1)), (3, .i (m.op * 2048 + m.code + (if m.reply then 32768 else 0)))], obTab 1 [(rid 1 0, ⟨1, 0, .box (m.cells.map .d)⟩)], []⟩ ?_ (fun x hc => ?_))
  case refine_2 =>
    revert hc
    cases hr : m.reply
    · intro hc
      refine Kbc (Kf Y Y (Ke Y Y Y (Kd (kCond Y (fun g0 => (by (simp [*] at g0))) (fun g0 => Kn (hc _ .normA))))))
    · intro hc
      refine Kbc (Kf Y Y (Ke Y Y Y (Kd (kCond Y (fun g0 => Kc (Ka Y (kAdd Y Y om (Ka Y (Kd (hc _ .normA)))))) (fun g0 => (by (simp [*] at g0)))))))
  have hfr : 0 ≤ (if m.reply then 32768 else (0 : Int)) ∧ (if m.reply then 32768 else (0 : Int)) ≤ 32768 := by split <;> omega
  refine Kb (kCut ⟨tabSl [(1, .c (.ptr (rid 1 0) 1 0)), (2, .c (.nil 1)), (3, .i (flagsM m))], obTab 1 [(rid 1 0, ⟨1, 0, .box (m.cells.map .d)⟩)], []⟩ ?_ (fun x hc => ?_))
  case refine_2 =>
    revert hc
    unfold flagsM
    cases hr : m.auth
    · intro hc
      refine Kbc (Kf Y Y (Ke Y Y Y (Kd (kCond Y (fun g0 => (by (simp [*] at g0))) (fun g0 => Kn (hc _ .normA))))))
    · intro hc
      refine Kbc (Kf Y Y (Ke Y Y Y (Kd (kCond Y (fun g0 => Kc (Ka Y (kAdd Y Y om (Ka Y (Kd (hc _ .normA)))))) (fun g0 => (by (simp [*] at g0)))))))
  have hfl : 0 ≤ flagsM m ∧ flagsM m ≤ 65535 := by unfold flagsM; split <;> split <;> omega
  refine Kb (kCut ⟨tabSl [(1, .c (.ptr (rid 1 0) 1 0)), (2, .c (.nil 1)), (3, .i (flagsM m)), (4, .i m.an.length), (5, .i m.au.length)], obTab 1 [(rid 1 0, ⟨1, 0, .box (m.cells.map .d)⟩)], []⟩ ?_ (fun x hc => ?_))
  case refine_2 => refine kRegD (kFadP rfl rfl (kLoadP rfl rfl rfl (kLenR rfl rfl (kFadP rfl rfl (kLoadP rfl rfl rfl (kLenR rfl rfl (kMovC rfl (kMovC rfl (kDone (kH (hc _ .normA)))))))))))
  refine Kb (kCut ⟨tabSl [(1, .c (.ptr (rid 1 0) 1 0)), (2, .c (.nil 1)), (3, .i (flagsM m)), (4, .i (if m.op = 5 then (m.pr.length : Int) else m.an.length)), (5, .i (if m.op = 5 then (m.up.length : Int) else m.au.length))], obTab 1 [(rid 1 0, ⟨1, 0, .box (m.cells.map .d)⟩)], []⟩ ?_ (fun x hc => ?_))
  case refine_2 =>
    revert hc
    rcases hop with hop | hop
    · rw [hop]
      intro hc
      refine Kbc (Kf Y Y (Ke Y Y Y (Kj Y Y Y (Kd (Km Y (fun g0 => om) (fun g0 => Kn (hc _ .normA)))))))
    · rw [hop]
      intro hc
      refine Kbc (Kf Y Y (Ke Y Y Y (Kj Y Y Y (Kd (Km Y (fun g0 => Kbc (Kf Y Y (Ke Y Y Y (Kq Y Y (Ka Y (Kd (Kc (Kf Y Y (Ke Y Y Y (Kq Y Y (Ka Y (Kd (hc _ .normA))))))))))))) (fun g0 => om))))))
  have hA : 0 ≤ (if m.op = 5 then (m.pr.length : Int) else m.an.length) ∧ (if m.op = 5 then (m.pr.length : Int) else m.an.length) ≤ 12 := by split <;> omega
  have hB : 0 ≤ (if m.op = 5 then (m.up.length : Int) else m.au.length) ∧ (if m.op = 5 then (m.up.length : Int) else m.au.length) ≤ 12 := by split <;> omega
  generalize (if m.op = 5 then (m.pr.length : Int) else m.an.length) = A at *
  generalize (if m.op = 5 then (m.up.length : Int) else m.au.length) = B at *
  generalize flagsM m = F at *
  obtain ⟨hA1, hA2⟩ := hA
  obtain ⟨hB1, hB2⟩ := hB
  obtain ⟨hF1, hF2⟩ := hfl
  have hq0 : 0 < m.qs.length := by omega
  have hqd : m.qs.getD 0 ⟨[], 0⟩ = m.qs[0] := by simp [List.getD_eq_getElem?_getD, hq0]
  rw [hqd] at p6 p7 p8
  have hqs := b1.mem _ (List.getElem_mem hq0)
  have hqw := wireN_small p6
  refine Kb (kCut ⟨tabSl [(1, .c (.ptr (rid 1 0) 1 0)), (2, .c (.nil 1)), (6, .c (.arr (rid 53 0) 1))], obTab 1 [(rid 1 0, ⟨1, 0, .box (m.cells.map .d)⟩), (rid 53 0, ⟨1, 0, .arr true (encB (w2 m.id ++ w2 F ++ w2 1 ++ w2 A ++ w2 B ++ w2 m.mo.length))⟩)], []⟩ ?_ (fun x hc => ?_))
  case refine_2 => refine kRegD (kFadP rfl rfl (kLoadP rfl rfl rfl (kMovC rfl (kMovC rfl (kMovC rfl (kFadP rfl rfl (kLoadP rfl rfl rfl (kLenR rfl rfl (kRelK rfl rfl (kCall1 true (ok_spec_Put16_nil _ prx prx) ⟨rfl, rfl, trivial⟩ rfl rfl rfl (fun _ => (kRelK rfl rfl (kCall1 true (ok_spec_Put16 _ _ prx prx prx) ⟨rfl, rfl, trivial⟩ rfl rfl rfl (fun _ => (kRelK rfl rfl (kCall1 true (ok_spec_Put16 _ _ prx prx prx) ⟨rfl, rfl, trivial⟩ rfl rfl rfl (fun _ => (kRelK rfl rfl (kCall1 true (ok_spec_Put16 _ _ prx prx prx) ⟨rfl, rfl, trivial⟩ rfl rfl rfl (fun _ => (kRelK rfl rfl (kCall1 true (ok_spec_Put16 _ _ prx prx prx) ⟨rfl, rfl, trivial⟩ rfl rfl rfl (fun _ => (kRelF rfl rfl (kCall1 true (ok_spec_Put16 _ _ prx prx prx) ⟨rfl, rfl, trivial⟩ rfl rfl rfl (fun _ => (kMovC rfl (kDone (kH (hc _ .normA))))))))))))))))))))))))))))))
  refine Kb (kCut ⟨tabSl [(1, .c (.ptr (rid 1 0) 1 0)), (2, .c (.nil 1)), (6, .c (.arr (rid 67 0) 1))], obTab 1 [(rid 1 0, ⟨1, 0, .box (m.cells.map .d)⟩), (rid 67 0, ⟨1, 0, .arr true (encB (headB m F A B))⟩)], []⟩ ?_ (fun x hc => ?_))
  case refine_2 =>
    rw [show headB m F A B = w2 m.id ++ w2 F ++ w2 1 ++ w2 A ++ w2 B ++ w2 m.mo.length ++ wireN (m.qs[0]).name ++ w2 (m.qs[0]).ty ++ w2 1 by unfold headB; rw [hqd]] at hc
    refine kRegD (Ka Y (Kf Y Y (Ke Y Y Y (kIadR (m := 0) Y Y Y prl (kFadD Y (Ky Y Y (Kf Y Y (Ke Y Y Y (kIadR (m := 0) Y Y Y prl (kFadD Y (Ky Y Y (Kx Y Y (Ku true (ok_spec_l2put _ _ prx prx) ⟨⟨_, rfl, .inl rfl⟩, ⟨⟨Y, trivial⟩, leb⟩, trivial⟩ Y Y Y (fun _ => (Ks Y Y (Ku true (ok_spec_Put16 _ _ prx prx prx) ⟨Y, Y, trivial⟩ Y Y Y (fun _ => (Ks Y Y (Ku true (ok_spec_Put16 _ _ prx prx prx) ⟨Y, Y, trivial⟩ Y Y Y (fun _ => (Ka Y (Kd (kH (hc _ .normA))))))))))))))))))))))))
  have hH : (headB m F A B).length ≤ 200 := by rw [headB_len, hqd]; omega
  have hP := flatMap_le (f := wantB) (l := m.pr) (k := 307) fun w hw => wantB_small (p16 w hw)
  have hU := flatMap_le (f := wantB) (l := m.up) (k := 307) fun w hw => wantB_small (p18 w hw)
  have hP2 : (m.pr.flatMap wantB).length ≤ 12 * 307 := Nat.le_trans hP (Nat.mul_le_mul_right _ p15)
  have hU2 : (m.up.flatMap wantB).length ≤ 12 * 307 := Nat.le_trans hU (Nat.mul_le_mul_right _ p17)
  generalize hH1 : headB m F A B = H at *
  refine kSub (t := ⟨tabSl [(1, .c (.ptr (rid 1 0) 1 0)), (2, .c (.nil 1)), (6, .c (.arr (rid 5000 0) 1))], obTab 1 [(rid 1 0, ⟨1, 0, .box (m.cells.map .d)⟩), (rid 5000 0, ⟨1, 0, .arr true (encB (H))⟩)], []⟩) ((Sub.renSlot 6 (rid 67 0) (rid 5000 0) rfl rfl rfl rfl).trans .normA) ?_
  refine Kb (kCut ⟨tabSl [(1, .c (.ptr (rid 1 0) 1 0)), (2, .c (.nil 1)), (6, .c (.arr (rid 5000 0) 1))], obTab 1 [(rid 1 0, ⟨1, 0, .box (m.cells.map .d)⟩), (rid 5000 0, ⟨1, 0, .arr true (encB (H ++ m.pr.flatMap wantB))⟩)], []⟩ ?_ (fun x hc => ?_))
  case refine_2 =>
    refine Kbc (Ka Y (Kd (Kt ?_)))
    refine kLoop (α := { i : Nat // i ≤ m.pr.length }) (fun y => ⟨tabSl [(1, .c (.ptr (rid 1 0) 1 0)), (2, .c (.nil 1)), (6, .c (.arr (rid 5000 0) 1)), (7, .i y.1)], obTab 1 [(rid 1 0, ⟨1, 0, .box (m.cells.map .d)⟩), (rid 5000 0, ⟨1, 0, .arr true (encB (H ++ (m.pr.take y.1).flatMap wantB))⟩)], []⟩) (fun y => m.pr.length - y.1) ⟨0, by simp⟩ (by simp only [List.take_zero, List.flatMap_nil, List.append_nil]; exact .normA) ?_
    rintro ⟨i, hi⟩
    simp only
    have hle := flatMap_take_le wantB m.pr i
    have hL : (H ++ (m.pr.take i).flatMap wantB).length ≤ 5000 := by rw [List.length_append]; omega
    rcases Nat.lt_or_ge i m.pr.length with hlt | hge
    · have hw1 := b5.mem _ (List.getElem_mem hlt)
      have hw2 := p16 _ (List.getElem_mem hlt)
      have hst := flatMap_take wantB m.pr i hlt
      refine Kb (Kbc (Ka Y (Kf Y Y (Ke Y Y Y (Kq Y Y (Kj Y Y Y (Kd (Km Y (fun g0 => Kn (Kb (Kt (Kc (Ka Y (Kf Y Y (Ke Y Y Y (Ka Y (kIadR Y Y Y prl (Ky Y Y (Ku true (ok_spec_l4want _ _ prx prx prx) ⟨⟨_, rfl, .inl rfl⟩, ⟨⟨Y, Y, Y, Y, Y, Y, Y, Y, Y, trivial⟩, leb⟩, trivial⟩ Y Y Y (fun _ => (Ka Y (Kd (Kv (Kc (Ka Y (kAdd Y Y om (Ka Y (Kd ?_)))))))))))))))))))) (fun g0 => om)))))))))
      refine kInv ⟨⟨i + 1, hlt⟩, by simp only; omega, ?_⟩
      simp only [hst, ← List.append_assoc]
      exact (Sub.renSlot 6 (rid 81 0) (rid 5000 0) rfl rfl rfl rfl).trans .normA
    · refine Kb (Kbc (Ka Y (Kf Y Y (Ke Y Y Y (Kq Y Y (Kj Y Y Y (Kd (Km Y (fun g0 => om) (fun g0 => kExit (kExC (kExI (kExB ?_))))))))))))
      refine hc _ ?_
      rw [show i = m.pr.length by omega, List.take_length]
      exact .normA
  have hHl : (H ++ m.pr.flatMap wantB).length ≤ 5000 := by rw [List.length_append]; omega
  generalize hH2 : H ++ m.pr.flatMap wantB = H2 at *
  refine Kb (kCut ⟨tabSl [(1, .c (.ptr (rid 1 0) 1 0)), (2, .c (.nil 1)), (6, .c (.arr (rid 5000 0) 1))], obTab 1 [(rid 1 0, ⟨1, 0, .box (m.cells.map .d)⟩), (rid 5000 0, ⟨1, 0, .arr true (encB (H2 ++ m.up.flatMap wantB))⟩)], []⟩ ?_ (fun x hc => ?_))
  case refine_2 =>
    refine Kbc (Ka Y (Kd (Kt ?_)))
    refine kLoop (α := { i : Nat // i ≤ m.up.length }) (fun y => ⟨tabSl [(1, .c (.ptr (rid 1 0) 1 0)), (2, .c (.nil 1)), (6, .c (.arr (rid 5000 0) 1)), (8, .i y.1)], obTab 1 [(rid 1 0, ⟨1, 0, .box (m.cells.map .d)⟩), (rid 5000 0, ⟨1, 0, .arr true (encB (H2 ++ (m.up.take y.1).flatMap wantB))⟩)], []⟩) (fun y => m.up.length - y.1) ⟨0, by simp⟩ (by simp only [List.take_zero, List.flatMap_nil, List.append_nil]; exact .normA) ?_
    rintro ⟨i, hi⟩
    simp only
    have hle := flatMap_take_le wantB m.up i
    have hL : (H2 ++ (m.up.take i).flatMap wantB).length ≤ 10000 := by rw [List.length_append]; omega
    rcases Nat.lt_or_ge i m.up.length with hlt | hge
    · have hw1 := b6.mem _ (List.getElem_mem hlt)
      have hw2 := p18 _ (List.getElem_mem hlt)
      have hst := flatMap_take wantB m.up i hlt
      refine Kb (Kbc (Ka Y (Kf Y Y (Ke Y Y Y (Kq Y Y (Kj Y Y Y (Kd (Km Y (fun g0 => Kn (Kb (Kt (Kc (Ka Y (Kf Y Y (Ke Y Y Y (Ka Y (kIadR Y Y Y prl (Ky Y Y (Ku true (ok_spec_l4want _ _ prx prx prx) ⟨⟨_, rfl, .inl rfl⟩, ⟨⟨Y, Y, Y, Y, Y, Y, Y, Y, Y, trivial⟩, leb⟩, trivial⟩ Y Y Y (fun _ => (Ka Y (Kd (Kv (Kc (Ka Y (kAdd Y Y om (Ka Y (Kd ?_)))))))))))))))))))) (fun g0 => om)))))))))
      refine kInv ⟨⟨i + 1, hlt⟩, by simp only; omega, ?_⟩
      simp only [hst, ← List.append_assoc]
      exact (Sub.renSlot 6 (rid 95 0) (rid 5000 0) rfl rfl rfl rfl).trans .normA
    · refine Kb (Kbc (Ka Y (Kf Y Y (Ke Y Y Y (Kq Y Y (Kj Y Y Y (Kd (Km Y (fun g0 => om) (fun g0 => kExit (kExC (kExI (kExB ?_))))))))))))
      refine hc _ ?_
      rw [show i = m.up.length by omega, List.take_length]
      exact .normA
  have hHl3 : (H2 ++ m.up.flatMap wantB).length ≤ 10000 := by rw [List.length_append]; omega
  generalize hH3 : H2 ++ m.up.flatMap wantB = H3 at *
  refine Kb (kRegD (Kf Y Y (Ke Y Y Y (Kf Y Y (Ke Y Y Y (Kf Y Y (Ke Y Y Y (kLitG Y Y Y Y (Kx Y Y (kAppN Y Y Y Y Y Y Y Y prl (Kx Y Y ?_)))))))))))
  refine kAppR (l := m.an) (l' := m.au) (f := Rr.cells) rfl rfl rfl rfl rfl rfl rfl rfl om ?_
  refine Ks Y Y ?_
  refine kAppR (l := m.an ++ m.au) (l' := m.mo) (f := Rr.cells) rfl rfl rfl rfl rfl rfl rfl rfl (by rw [List.length_append]; omega) ?_
  refine Ka Y (Kd (kH (Kb (Kbc (Ka Y (Kd (Kt ?_)))))))
  have hLa : ∀ r ∈ m.an ++ m.au ++ m.mo, rrOk r = true ∧ SmallR r := fun r hr => by
    rcases List.mem_append.1 hr with hr | hr
    · rcases List.mem_append.1 hr with hr | hr
      · exact ⟨p10 r hr, b2.mem r hr⟩
      · exact ⟨p12 r hr, b3.mem r hr⟩
    · exact ⟨p14 r hr, b4.mem r hr⟩
  have hLn : (m.an ++ m.au ++ m.mo).length ≤ 36 := by simp only [List.length_append]; omega
  have hM : msgB m F A B = H3 ++ (m.an ++ m.au ++ m.mo).flatMap fun r => rrB r 1 := by unfold msgB; rw [hH1, hH2, hH3]
  rw [hM]
  refine kLoop (α := { i : Nat // i ≤ (m.an ++ m.au ++ m.mo).length }) (fun y => ⟨tabSl [(1, .c (.ptr (rid 1 0) 1 0)), (2, .c (.nil 1)), (6, .c (.arr (rid 5000 0) 1)), (9, .dv (encR (m.an ++ m.au ++ m.mo))), (10, .i y.1)], obTab 1 [(rid 1 0, ⟨1, 0, .box (m.cells.map .d)⟩), (rid 5000 0, ⟨1, 0, .arr true (encB (H3 ++ ((m.an ++ m.au ++ m.mo).take y.1).flatMap fun r => rrB r 1))⟩)], []⟩) (fun y => (m.an ++ m.au ++ m.mo).length - y.1) ⟨0, by simp⟩ ((Sub.frz (j := 9) (id := rid 96 0) rfl rfl (by decide)).trans (by simp only [List.take_zero, List.flatMap_nil, List.append_nil]; exact .normA)) ?_
  clear hM
  generalize m.an ++ m.au ++ m.mo = L at *
  rintro ⟨i, hi⟩
  simp only
  have hR := flatMap_le (f := fun r => rrB r 1) (l := L) (k := 307) fun r hr => rrB_small (hLa r hr).1 1
  have hR2 : (L.flatMap fun r => rrB r 1).length ≤ 36 * 307 := Nat.le_trans hR (Nat.mul_le_mul_right _ hLn)
  have hle := flatMap_take_le (fun r => rrB r 1) L i
  have hL : (H3 ++ (L.take i).flatMap fun r => rrB r 1).length ≤ 30000 := by rw [List.length_append]; omega
  rcases Nat.lt_or_ge i L.length with hlt | hge
  · obtain ⟨hw1, hw2⟩ := hLa _ (List.getElem_mem hlt)
    have hst := flatMap_take (fun r => rrB r 1) L i hlt
    refine Kb (Kbc (Ka Y (Ka Y (Kq Y Y (Kj Y Y Y (Kd (Km Y (fun g0 => Kn (Kb (Kt (Kc (Ka Y (Ka Y (Ka Y (kIadR Y Y Y prl (Ky Y Y (Ku true (ok_spec_l3rr _ _ _ prx prx prx prx prx) ⟨⟨_, rfl, .inl rfl⟩, ⟨⟨Y, Y, Y, Y, Y, Y, Y, trivial⟩, leb⟩, rfl, trivial⟩ Y Y Y (fun _ => (Ka Y (Kd (Kv (Kc (Ka Y (kAdd Y Y om (Ka Y (Kd ?_))))))))))))))))))) (fun g0 => om))))))))
    refine kInv ⟨⟨i + 1, hlt⟩, by simp only; omega, ?_⟩
    simp only [hst, ← List.append_assoc]
    exact (Sub.renSlot 6 (rid 117 0) (rid 5000 0) rfl rfl rfl rfl).trans .normA
  · refine Kb (Kbc (Ka Y (Ka Y (Kq Y Y (Kj Y Y Y (Kd (Km Y (fun g0 => om) (fun g0 => kExit (kExC (kExI (kExB (Kbc (Ka Y (Ka Y (Kd (Kr (Er (ra := [.one (.own true _)]) rfl ?_)))))))))))))))))
    rw [show i = L.length by omega, List.take_length]

def c_spec_MsgOk : C := (.g (.o 0 1 (.box 1 (.t 0)) (.o 1 2 (.mov (.v (.bool false))) .done)) (.g (.o 0 3 (.load (some 11) (.t 1)) (.o 1 4 (.call 4 121 [(.t 3)]) (.o 2 5 (.mov (.t 4)) (.op 3 [] (some 6) (some (5, true)) false (.load (some 11) (.t 1)) (.op 4 [] (some 7) (some (5, true)) false (.call 7 122 [(.t 6)]) (.op 5 [] (some 8) (some (5, true)) false (.len (.t 7)) (.op 6 [] (some 9) (some (5, true)) false (.bin .leq (.t 8) (.i 512)) (.o 7 10 (.pick (.t 5) (.t 9) (.v (.bool false))) (.o 8 2 (.mov (.t 10)) .done))))))))) .ret))
theorem dg_spec_MsgOk : Tryz.f42.body.bind (digC Tryz.prog Tryz.f42.ntmps []) = some c_spec_MsgOk := by kernel_rfl
theorem rs_spec_MsgOk : resSlots Tryz.prog Tryz.f42 = some [.s 2] := by kernel_rfl
theorem ok_spec_MsgOk (m : Msg) (hs : SmallM m) :
    FnOK Tryz.prog 42 [.agg (m.cells.map .d)] (fun ra _ => ra = [.one (.d (.sc (.bool (msgOk m))))]) := by
  refine FnOK.ofK Tryz.func42 (by kernel_rfl) dg_spec_MsgOk rs_spec_MsgOk rfl rfl ?_
  delta c_spec_MsgOk T.o X.i C.g
  cases hk : msgMay m
  · refine Kbc (kBox Y Y Y Y Y (Ka Y (Kdb (Kc (Ke Y Y Y (Kp (ok_spec_l4may _ prx) ⟨⟨⟨Y, Y, Y, Y, Y, Y, Y, Y, Y, Y, Y, trivial⟩, leb⟩, trivial⟩ Y Y Y Y Y (Ka Y (kGS Y (fun g0 => (by (simp [*] at g0))) (fun g0 => Kg Y (Kg Y (Kg Y (Kg Y (Kl Y (Ka Y (Ka Y (Kd (Kr (Er (ra := [.one (.d _)]) rfl ?_))))))))))))))))))
    rw [show msgOk m = false by unfold msgOk; rw [hk]; rfl]
  · refine Kbc (kBox Y Y Y Y Y (Ka Y (Kdb (Kc (Ke Y Y Y (Kp (ok_spec_l4may _ prx) ⟨⟨⟨Y, Y, Y, Y, Y, Y, Y, Y, Y, Y, Y, trivial⟩, leb⟩, trivial⟩ Y Y Y Y Y (Ka Y (kGS Y (fun g0 => Ki Y (Ke Y Y Y (Ki Y (Ku true (ok_spec_l4bytes _ prx prx) ⟨⟨⟨Y, Y, Y, Y, Y, Y, Y, Y, Y, Y, Y, trivial⟩, leb⟩, trivial⟩ Y Y Y (fun _ => (kMem [(32768, ⟨1, 0, .arr true _⟩)] [(7, .c (.arr 32768 1)), (8, .c (.un)), (5, .c (.d _)), (9, .c (.un)), (10, .c (.un))] [] ⟨Y, trivial⟩ ⟨Y, Y, Y, Y, Y, trivial⟩ Y (Ki Y (Kq Y Y (Ki Y (Kj Y Y Y (Kk Y (Ka Y (Ka Y (Kd (Kr (Er (ra := [.one (.d _)]) rfl ?_)))))))))))))))) (fun g0 => (by (simp [*] at g0)))))))))))
    rw [msgB_len]
    rw [show msgOk m = decide (msgLen m ≤ 512) by unfold msgOk; rw [hk]; rfl]
    refine congrArg (fun z : Bool => [RA.one (RV.d (DV.sc (Value.bool z)))]) ?_
    rw [Bool.eq_iff_iff]
    simp
    omega

def c_laws_name : C := (.g (.o 0 2 (.alloc 2 [(.n 1)]) .done) (.g (.o 0 6 (.mov (.t 0)) (.o 1 7 (.s2b (.t 6)) (.o 2 8 (.call 8 170 [(.t 7)]) (.o 3 5 (.mov (.t 8)) (.o 4 9 (.ext (.t 5) 0) (.o 5 10 (.ext (.t 5) 1) (.o 6 3 (.alloc 3 [(.n 1)]) (.op 7 [] none none false (.store (some 1) (.t 3) (.t 9)) (.o 8 4 (.mov (.t 10)) .done))))))))) (.g (.o 0 11 (.load (some 1) (.t 3)) (.op 1 [] none none false (.store (some 1) (.t 2) (.t 11)) .done)) .ret)))
theorem dg_laws_name : Tryz.f79.body.bind (digC Tryz.prog Tryz.f79.ntmps []) = some c_laws_name := by kernel_rfl
theorem rs_laws_name : resSlots Tryz.prog Tryz.f79 = some [.m 2 (some 1)] := by kernel_rfl
theorem ok_laws_name (b : ByteArray) (hb : b.size ≤ 4194303) :
    FnOK Tryz.prog 79 [.one (.d (.sc (.string b)))] (fun ra _ => ra = [.agg [.own true (encBB (readN b.toList))]]) := by
  refine FnOK.ofK Tryz.func79 (by kernel_rfl) dg_laws_name rs_laws_name rfl rfl ?_
  delta c_laws_name T.o X.i C.g
  have h : b.toList.length ≤ 4194303 := by rw [bt_len]; exact hb
  refine Kbc (kAlloc Y Y (Kdb (Kc (Ka Y (kS2b Y om (Ku true (ok_spec_NameRead _ pry) ⟨Y, trivial⟩ Y Y Y (fun _ => (kMovT Y (kExtC Y Y (kExtC Y Y (kAlloc Y Y (Ko Y Y Y Y (Ka Y (Kdb (Kc (Ke Y Y Y (Ko Y Y Y Y (Kd (Kr (Er (ra := [.agg [(.own true _)]]) rfl rfl))))))))))))))))))))

def c_impl_topRr : C := (.g (.o 0 2 (.box 2 (.t 0)) (.o 1 4 (.alloc 4 [(.n 1), (.i 0), (.i 0), (.i 0), (.n 1), (.n 1), (.n 1)]) .done)) (.g (.o 0 5 (.load (some 1) (.t 2)) (.o 1 6 (.load (some 1) (.t 2)) (.o 2 7 (.mov (.t 1)) (.o 3 8 (.lit 8 1 [(.i 0)] 2 [(0, 1, (.t 7)), (1, 1, (.i 60))]) (.o 4 9 (.build [(.n 1), (.i 0), (.i 0), (.i 0), (.n 1), (.n 1), (.n 1)] [(0, 1, (.t 5)), (1, 1, (.i 6)), (2, 1, (.i 60)), (4, 1, (.t 6)), (6, 1, (.t 8))]) (.op 5 [] none none false (.store (some 7) (.t 4) (.t 9)) .done)))))) .ret))
theorem dg_impl_topRr : Tryz.f168.body.bind (digC Tryz.prog Tryz.f168.ntmps []) = some c_impl_topRr := by kernel_rfl
theorem rs_impl_topRr : resSlots Tryz.prog Tryz.f168 = some [.m 4 (some 7)] := by kernel_rfl
theorem ok_impl_topRr (o : List (List UInt8)) (s : Int) :
    FnOK Tryz.prog 168 [.agg [.d (encBB o)], .one (.d (.sc (.int .i64 s)))] (fun ra _ => ra = [.agg [.d (encBB o), .d (.sc (.int .i64 6)), .d (.sc (.int .i64 60)), .d (.sc (.int .i64 0)), .d (encBB o), .d (.sl 1 []), .own true (encI [s, 60])]]) := by
  refine FnOK.ofK Tryz.func168 (by kernel_rfl) dg_impl_topRr rs_impl_topRr rfl rfl ?_
  delta c_impl_topRr T.o X.i C.g
  refine Kbc (kBox Y Y Y Y Y (kAlloc Y Y (Kdb (Kc (Ke Y Y Y (Ke Y Y Y (Ka Y (kLit Y Y Y Y (kBuildG Y (Ko Y Y Y Y (Kd (Kr (Er (ra := [.agg [(.d _), (.d _), (.d _), (.d _), (.d _), (.d _), (.own true _)]]) rfl rfl)))))))))))))

def c_impl_Zone_copied : C := (.g (.o 0 1 (.box 1 (.t 0)) (.o 1 2 (.alloc 2 [(.n 1), (.n 7)]) .done)) (.seq (.reg true (.op 0 [] (some 3) none true (.fad (.t 1) 0) (.op 1 [] (some 4) none true (.load (some 1) (.t 3)) (.op 3 [] (some 6) none true (.fad (.t 1) 1) (.op 4 [] (some 7) none true (.load none (.t 6)) (.op 2 [1] (some 5) none false (.call 5 151 [(.t 4)]) (.op 5 [4, 1] (some 8) none false (.call 8 81 [(.t 7)]) (.op 6 [] (some 9) none true (.build [(.n 1), (.n 7)] [(0, 1, (.t 5)), (1, 1, (.t 8))]) (.op 7 [1, 4] none none false (.store (some 2) (.t 2) (.t 9)) .done))))))))) .ret))
theorem dg_impl_Zone_copied : Tryz.f169.body.bind (digC Tryz.prog Tryz.f169.ntmps []) = some c_impl_Zone_copied := by kernel_rfl
theorem rs_impl_Zone_copied : resSlots Tryz.prog Tryz.f169 = some [.m 2 (some 2)] := by kernel_rfl
theorem ok_impl_Zone_copied (z : Zone) (hs : SmallZ z) :
    FnOK Tryz.prog 169 [.agg (z.cells.map .d)] (fun ra _ => ra = [.agg [.own true (encBB z.origin), .own true (encR z.rrs)]]) := by
  refine FnOK.ofK Tryz.func169 (by kernel_rfl) dg_impl_Zone_copied rs_impl_Zone_copied rfl rfl ?_
  delta c_impl_Zone_copied T.o X.i C.g
  have o1 := hs.o.len
  have o2 := hs.o.mem
  have h1 := hs.r
  refine Kbc (kBox Y Y Y Y Y (kAlloc Y Y (Kdb (kRegD (Kf Y Y (Ke Y Y Y (Kf Y Y (Ke Y Y Y (Kx Y Y (Ku true (ok_impl_Name_copied _ pr pr) ⟨⟨⟨Y, trivial⟩, leb⟩, trivial⟩ Y Y Y (fun _ => (Ks Y Y (Ku true (ok_impl_copyRrs _ pr) ⟨Y, trivial⟩ Y Y Y (fun _ => (kBuildG Y (Ks Y Y (Ko Y Y Y Y (Kd (kH (Kr (Er (ra := [.agg [(.own true _), (.own true _)]]) rfl rfl)))))))))))))))))))))

def c_impl_ZoneNew : C := (.g (.o 0 2 (.box 2 (.t 0)) (.o 1 4 (.alloc 4 [(.n 1), (.n 7)]) (.o 2 5 (.mov (.v (.bool false))) .done))) (.seq (.reg true (.op 0 [] (some 7) none true (.load (some 1) (.t 2)) (.op 1 [] (some 8) none true (.load (some 1) (.t 2)) (.op 2 [] (some 9) none true (.mov (.t 1)) (.alt (.op 3 [1] (some 10) none false (.call 10 168 [(.t 8), (.t 9)]) (.alt (.op 4 [1] (some 11) none false (.lit 11 7 [(.n 1), (.i 0), (.i 0), (.i 0), (.n 1), (.n 1), (.n 1)] 1 [(0, 7, (.t 10))]) (.op 5 [] (some 12) none true (.build [(.n 1), (.n 7)] [(0, 1, (.t 7)), (1, 1, (.t 11))]) (.o 6 6 (.alloc 6 [(.n 1), (.n 7)]) (.op 7 [0, 1] none none false (.store (some 2) (.t 6) (.t 12)) .done)))) (.o 6 6 (.alloc 6 [(.n 1), (.n 7)]) (.op 4 [1] (some 11) none false (.lit 11 7 [(.n 1), (.i 0), (.i 0), (.i 0), (.n 1), (.n 1), (.n 1)] 1 [(0, 7, (.t 10))]) (.op 5 [] (some 12) none true (.build [(.n 1), (.n 7)] [(0, 1, (.t 7)), (1, 1, (.t 11))]) (.op 7 [0, 1] none none false (.store (some 2) (.t 6) (.t 12)) .done)))))) (.o 6 6 (.alloc 6 [(.n 1), (.n 7)]) (.op 3 [1] (some 10) none false (.call 10 168 [(.t 8), (.t 9)]) (.op 4 [1] (some 11) none false (.lit 11 7 [(.n 1), (.i 0), (.i 0), (.i 0), (.n 1), (.n 1), (.n 1)] 1 [(0, 7, (.t 10))]) (.op 5 [] (some 12) none true (.build [(.n 1), (.n 7)] [(0, 1, (.t 7)), (1, 1, (.t 11))]) (.op 7 [0, 1] none none false (.store (some 2) (.t 6) (.t 12)) .done)))))))))) (.seq (.g (.o 0 13 (.load (some 2) (.t 6)) (.o 1 14 (.call 14 70 [(.t 13)]) (.o 2 15 (.un .not (.t 14)) .done))) (.cond (.t 15) (.g (.o 0 16 (.build [(.n 1), (.n 7)] []) (.op 1 [] none none false (.store (some 2) (.t 4) (.t 16)) (.o 2 5 (.mov (.v (.bool false))) .done))) .ret) .skip)) (.g (.o 0 17 (.load (some 2) (.t 6)) (.o 1 18 (.call 18 169 [(.t 17)]) (.op 2 [] none none false (.store (some 2) (.t 4) (.t 18)) (.o 3 5 (.mov (.v (.bool true))) .done)))) .ret))))
theorem dg_impl_ZoneNew : Tryz.f78.body.bind (digC Tryz.prog Tryz.f78.ntmps []) = some c_impl_ZoneNew := by kernel_rfl
theorem rs_impl_ZoneNew : resSlots Tryz.prog Tryz.f78 = some [.m 4 (some 2), .s 5] := by kernel_rfl
theorem ok_impl_ZoneNew (o : List (List UInt8)) (s : Int) (ho : SmallBB o) :
    FnOK Tryz.prog 78 [.agg [.d (encBB o)], .one (.d (.sc (.int .i64 s)))] (fun ra _ => ra = [.agg [.own true (encBB (zoneNewN o s).origin), .own true (encR (zoneNewN o s).rrs)], .one (.d (.sc (.bool (zoneOk (newZ o s)))))]) := by
  refine FnOK.ofK Tryz.func78 (by kernel_rfl) dg_impl_ZoneNew rs_impl_ZoneNew rfl rfl ?_
  delta c_impl_ZoneNew T.o X.i C.g
  have hs := SmallZ.top s ho
  refine Kb (kCut ⟨tabSl [(1, .i s), (2, .c (.ptr (rid 2 0) 1 0)), (4, .c (.ptr (rid 4 0) 1 0)), (5, .b false)], obTab 1 [(rid 2 0, ⟨1, 0, .box [.d (encBB o)]⟩), (rid 4 0, ⟨1, 0, .box [.nil 1, .nil 7]⟩)], []⟩ ?_ (fun x hc => ?_))
  case refine_2 => refine kReg (kBox rfl rfl rfl rfl rfl (kAlloc rfl rfl (kMovC rfl (kDone (hc _ .normA)))))
  refine Kb (kCut ⟨tabSl [(4, .c (.ptr (rid 4 0) 1 0)), (5, .b false), (6, .c (.ptr (rid 6 0) 1 0))], obTab 1 [(rid 4 0, ⟨1, 0, .box [.nil 1, .nil 7]⟩), (rid 6 0, ⟨1, 0, .box [.d (encBB o), .arr (rid 11 0) 1]⟩), (rid 11 0, ⟨1, 0, .arr false (encR [topR o s])⟩)], []⟩ ?_ (fun x hc => ?_))
  case refine_2 => refine kRegD (kLoadP rfl rfl rfl (kLoadP rfl rfl rfl (kMovC rfl (kAlt (kRelK rfl rfl (kCall1 false (ok_impl_topRr _ _) ⟨⟨⟨rfl, trivial⟩, leb⟩, rfl, trivial⟩ rfl rfl rfl (fun _ => (kAlt (kRelK rfl rfl (kLit rfl rfl rfl rfl (kBuildG rfl (kAlloc rfl rfl (kRelF rfl rfl (kStoreP rfl rfl rfl rfl (kDone (kH (hc _ .normA))))))))) (kAlloc rfl rfl (kRelK rfl rfl (kLit rfl rfl rfl rfl (kBuildG rfl (kRelF rfl rfl (kStoreP rfl rfl rfl rfl (kDone (kH (hc _ .normA))))))))))))) (kAlloc rfl rfl (kRelK rfl rfl (kCall1 false (ok_impl_topRr _ _) ⟨⟨⟨rfl, trivial⟩, leb⟩, rfl, trivial⟩ rfl rfl rfl (fun _ => (kRelK rfl rfl (kLit rfl rfl rfl rfl (kBuildG rfl (kRelF rfl rfl (kStoreP rfl rfl rfl rfl (kDone (kH (hc _ .normA))))))))))))))))
  refine Kb (Kbc (Ke Y Y Y ?_))
  refine Kp (ok_impl_ZoneOk (newZ o s) hs) ⟨⟨⟨Y, Y, trivial⟩, leb⟩, trivial⟩ Y Y Y Y Y ?_
  cases hok : zoneOk (newZ o s)
  · rw [show zoneNewN o s = zeroZ by unfold zoneNewN; rw [hok]; rfl]
    refine Kw Y Y (Kd (kCondT Y (Kbc (kBuildG Y (Ko Y Y Y Y (Ka Y (Kd (Kr (Er (ra := [.agg [(.own true _), (.own true _)], .one (.d _)]) rfl rfl)))))))))
  · rw [show zoneNewN o s = newZ o s by unfold zoneNewN; rw [hok]; rfl]
    refine Kw Y Y (Kd (kCondF Y (Kn (Kbc (Ke Y Y Y ?_)))))
    refine Ku true (ok_impl_Zone_copied (newZ o s) hs) ⟨⟨⟨Y, Y, trivial⟩, leb⟩, trivial⟩ Y Y Y (fun _ => ?_)
    refine (Ko Y Y Y Y (Ka Y (Kd (Kr (Er (ra := [.agg [(.own true _), (.own true _)], .one (.d _)]) rfl rfl)))))

def c_impl_Zone_serial : C := (.g (.o 0 1 (.box 1 (.t 0)) (.o 1 2 (.mov (.i 0)) .done)) (.seq (.reg true (.op 0 [] (some 3) none true (.fad (.t 1) 1) (.op 1 [] (some 4) none true (.load none (.t 3)) (.op 2 [] (some 5) none true (.load (some 2) (.t 1)) (.op 3 [2] (some 6) none false (.call 6 203 [(.t 5)]) (.op 4 [] (some 7) none true (.iad 7 (.t 4) (.t 6)) (.op 5 [] (some 8) none true (.fad (.t 7) 6) (.op 6 [] (some 9) none true (.load none (.t 8)) (.op 7 [] (some 10) none true (.iad 1 (.t 9) (.i 0)) (.op 8 [] (some 11) none true (.load none (.t 10)) (.op 9 [] (some 2) none true (.mov (.t 11)) .done))))))))))) .ret))
theorem dg_impl_Zone_serial : Tryz.f171.body.bind (digC Tryz.prog Tryz.f171.ntmps []) = some c_impl_Zone_serial := by kernel_rfl
theorem rs_impl_Zone_serial : resSlots Tryz.prog Tryz.f171 = some [.s 2] := by kernel_rfl
theorem ok_impl_Zone_serial (z : Zone) (hs : SmallZ z) (hz : zoneOk z = true) (h0 : (topIx z.rrs).toNat < z.rrs.length) (h1 : 0 < (z.rrs[(topIx z.rrs).toNat]).nums.length) :
    FnOK Tryz.prog 171 [.agg (z.cells.map .d)] (fun ra _ => ra = [.one (.d (.sc (.int .i64 ((z.rrs[(topIx z.rrs).toNat]).nums[0]))))]) := by
  refine FnOK.ofK Tryz.func171 (by kernel_rfl) dg_impl_Zone_serial rs_impl_Zone_serial rfl rfl ?_
  delta c_impl_Zone_serial T.o X.i C.g
  have ht := topIx_lt hz
  refine Kbc (kBox Y Y Y Y Y (Ka Y (Kdb (kRegD (Kf Y Y (Ke Y Y Y (Ke Y Y Y (Kx Y Y (Kp (ok_impl_Zone_top _ pr) ⟨⟨⟨Y, Y, trivial⟩, leb⟩, trivial⟩ Y Y Y Y Y (kIadT Y Y om (kFadD Y (Ky Y Y (kIadR (m := 0) Y Y Y om (Ky Y Y (Ka Y (Kd (kH (Kr (Er (ra := [.one (.d _)]) rfl rfl)))))))))))))))))))

def c_impl_Serial : C := (.g (.o 0 1 (.box 1 (.t 0)) (.o 1 2 (.mov (.i 0)) .done)) (.seq (.g (.o 0 3 (.load (some 2) (.t 1)) (.o 1 4 (.call 4 70 [(.t 3)]) (.o 2 5 (.un .not (.t 4)) .done))) (.cond (.t 5) (.g (.o 0 2 (.mov (.i 0)) .done) .ret) .skip)) (.g (.o 0 6 (.load (some 2) (.t 1)) (.o 1 7 (.call 7 171 [(.t 6)]) (.o 2 2 (.mov (.t 7)) .done))) .ret)))
theorem dg_impl_Serial : Tryz.f80.body.bind (digC Tryz.prog Tryz.f80.ntmps []) = some c_impl_Serial := by kernel_rfl
theorem rs_impl_Serial : resSlots Tryz.prog Tryz.f80 = some [.s 2] := by kernel_rfl
theorem ok_impl_Serial (z : Zone) (hs : SmallZ z) :
    FnOK Tryz.prog 80 [.agg (z.cells.map .d)] (fun ra _ => ra = [.one (.d (.sc (.int .i64 (serialN z))))]) := by
  refine FnOK.ofK Tryz.func80 (by kernel_rfl) dg_impl_Serial rs_impl_Serial rfl rfl ?_
  delta c_impl_Serial T.o X.i C.g
  cases h : zoneOk z
  · rw [show serialN z = 0 by unfold serialN; rw [h]; rfl]
    refine Kbc (kBox Y Y Y Y Y (Ka Y (Kdb (Kbc (Ke Y Y Y (Kp (ok_impl_ZoneOk _ pry) ⟨⟨⟨Y, Y, trivial⟩, leb⟩, trivial⟩ Y Y Y Y Y (Kw Y Y (Kd (kCondN Y (fun g0 => Kbc (Ka Y (Kd (Kr (Er (ra := [.one (.d _)]) rfl rfl))))) (fun g0 => (by (simp [*] at g0))))))))))))
  · obtain ⟨h0, h1, e⟩ := serialN_eq h
    rw [e]
    refine Kbc (kBox Y Y Y Y Y (Ka Y (Kdb (Kbc (Ke Y Y Y (Kp (ok_impl_ZoneOk _ pry) ⟨⟨⟨Y, Y, trivial⟩, leb⟩, trivial⟩ Y Y Y Y Y (Kw Y Y (Kd (kCondN Y (fun g0 => (by (simp [*] at g0))) (fun g0 => Kn (Kbc (Ke Y Y Y (Kp (ok_impl_Zone_serial _ pry pry pry pry) ⟨⟨⟨Y, Y, trivial⟩, leb⟩, trivial⟩ Y Y Y Y Y (Ka Y (Kd (Kr (Er (ra := [.one (.d _)]) rfl rfl)))))))))))))))))

def c_laws_zones : C := (.g (.o 0 0 (.mov (.v (.bool false))) .done) (.g (.o 0 4 (.call 4 79 [(.v (.string ⟨#[104, 111, 109, 101, 46]⟩))]) (.o 1 5 (.call 5 78 [(.t 4), (.i 5)]) (.o 2 3 (.mov (.t 5)) (.o 3 6 (.ext (.t 3) 0) (.o 4 7 (.ext (.t 3) 1) (.o 5 1 (.alloc 1 [(.n 1), (.n 7)]) (.op 6 [] none none false (.store (some 2) (.t 1) (.t 6)) (.o 7 2 (.mov (.t 7)) .done)))))))) (.g (.o 0 8 (.mov (.t 2)) (.o 1 9 (.mov (.t 8)) (.op 2 [] (some 10) (some (9, true)) false (.fad (.t 1) 1) (.op 3 [] (some 11) (some (9, true)) false (.load none (.t 10)) (.op 4 [] (some 12) (some (9, true)) false (.len (.t 11)) (.op 5 [] (some 13) (some (9, true)) false (.bin .eql (.t 12) (.i 1)) (.o 6 14 (.pick (.t 9) (.t 13) (.v (.bool false))) (.o 7 15 (.mov (.t 14)) (.op 8 [] (some 16) (some (15, true)) false (.load (some 2) (.t 1)) (.op 9 [] (some 17) (some (15, true)) false (.call 17 80 [(.t 16)]) (.op 10 [] (some 18) (some (15, true)) false (.bin .eql (.t 17) (.i 5)) (.o 11 19 (.pick (.t 15) (.t 18) (.v (.bool false))) (.o 12 0 (.mov (.t 19)) .done))))))))))))) .ret)))
theorem dg_laws_zones : Tryz.f15.body.bind (digC Tryz.prog Tryz.f15.ntmps []) = some c_laws_zones := by kernel_rfl
theorem rs_laws_zones : resSlots Tryz.prog Tryz.f15 = some [.s 0] := by kernel_rfl
theorem ok_laws_zones : FnOK Tryz.prog 15 [] (fun ra _ => ra = [.one (.d (.sc (.bool true)))]) := by
  refine FnOK.ofK Tryz.func15 (by kernel_rfl) dg_laws_zones rs_laws_zones rfl rfl ?_
  delta c_laws_zones T.o X.i C.g
  have e : readN (ByteArray.mk #[104, 111, 109, 101, 46]).toList = [[104, 111, 109, 101]] := by rw [bt_list]; decide
  have sa : SmallBB [[104, 111, 109, 101]] := SmallBB.ok (by decide)
  have ok := ok_laws_name ⟨#[104, 111, 109, 101, 46]⟩ (by decide)
  rw [e] at ok
  have hz : zoneOk (newZ [[104, 111, 109, 101]] 5) = true := by decide
  have ok2 := ok_impl_ZoneNew [[104, 111, 109, 101]] 5 sa
  rw [show zoneNewN [[104, 111, 109, 101]] 5 = newZ [[104, 111, 109, 101]] 5 by unfold zoneNewN; rw [hz]; rfl, hz] at ok2
  have ok3 := ok_impl_Serial (newZ [[104, 111, 109, 101]] 5) (SmallZ.top 5 sa)
  rw [show serialN (newZ [[104, 111, 109, 101]] 5) = 5 by decide] at ok3
  refine Kbc (Ka Y (Kd ?_))
  refine Kbc (Ku true ok ⟨Y, trivial⟩ Y Y Y (fun _ => ?_))
  refine Ku true ok2 ⟨⟨⟨Y, trivial⟩, leb⟩, rfl, trivial⟩ Y Y Y (fun _ => ?_)
  refine kMovT Y (kExtC Y Y (kExtC Y Y (kAlloc Y Y (Ko Y Y Y Y (Ka Y (Kdb (Kc (Ka Y (Ka Y (Ki Y (Kf Y Y (Ki Y (Ke Y Y Y (Ki Y (Kq Y Y (Ki Y (Kj Y Y Y (Kk Y (Ka Y (Ka Y (Ki Y (Ke Y Y Y (Ki Y ?_)))))))))))))))))))))))
  refine Ku true ok3 ⟨⟨⟨Y, Y, trivial⟩, leb⟩, trivial⟩ Y Y Y (fun _ => ?_)
  refine Ki Y (Kj Y Y Y (Kk Y (Ka Y (Ka Y (Kd (Kr (Er (ra := [.one (.d _)]) rfl rfl)))))))

def c_spec_RrSame : C := (.g (.o 0 2 (.box 2 (.t 0)) (.o 1 3 (.box 3 (.t 1)) (.o 2 4 (.mov (.v (.bool false))) .done))) (.g (.o 0 5 (.load (some 7) (.t 2)) (.o 1 6 (.call 6 73 [(.t 5)]) (.o 2 7 (.mov (.t 6)) (.op 3 [] (some 8) (some (7, true)) false (.load (some 7) (.t 3)) (.op 4 [] (some 9) (some (7, true)) false (.call 9 73 [(.t 8)]) (.o 5 10 (.pick (.t 7) (.t 9) (.v (.bool false))) (.o 6 11 (.mov (.t 10)) (.op 7 [] (some 12) (some (11, true)) false (.load (some 7) (.t 2)) (.op 8 [] (some 13) (some (11, true)) false (.load (some 7) (.t 3)) (.op 9 [] (some 14) (some (11, true)) false (.call 14 75 [(.t 12), (.t 13)]) (.op 10 [] (some 15) (some (11, true)) false (.bin .eql (.t 14) (.i 0)) (.o 11 16 (.pick (.t 11) (.t 15) (.v (.bool false))) (.o 12 4 (.mov (.t 16)) .done))))))))))))) .ret))
theorem dg_spec_RrSame : Tryz.f61.body.bind (digC Tryz.prog Tryz.f61.ntmps []) = some c_spec_RrSame := by kernel_rfl
theorem rs_spec_RrSame : resSlots Tryz.prog Tryz.f61 = some [.s 4] := by kernel_rfl
theorem ok_spec_RrSame (a b : Rr) (ha : SmallR a) (hb : SmallR b) :
    FnOK Tryz.prog 61 [.agg (a.cells.map .d), .agg (b.cells.map .d)] (fun ra _ => ra = [.one (.d (.sc (.bool (sameR a b))))]) := by
  refine FnOK.ofK Tryz.func61 (by kernel_rfl) dg_spec_RrSame rs_spec_RrSame rfl rfl ?_
  delta c_spec_RrSame T.o X.i C.g
  refine Kbc (kBox Y Y Y Y Y (kBox Y Y Y Y Y (Ka Y (Kdb (Kc (Ke Y Y Y (Kp (ok_spec_RrOk _ pry) ⟨⟨⟨Y, Y, Y, Y, Y, Y, Y, trivial⟩, leb⟩, trivial⟩ Y Y Y Y Y (Ka Y (kGS Y (fun g0 => Ki Y (Ke Y Y Y (Ki Y (Kp (ok_spec_RrOk _ pry) ⟨⟨⟨Y, Y, Y, Y, Y, Y, Y, trivial⟩, leb⟩, trivial⟩ Y Y Y Y Y (Kk Y (Ka Y (Ka Y (kGS Y (fun g1 => Ki Y (Ke Y Y Y (Ki Y (Ke Y Y Y (Ki Y (Kp (ok_spec_l3cmp _ _ pry pry pry pry) ⟨⟨⟨Y, Y, Y, Y, Y, Y, Y, trivial⟩, leb⟩, ⟨⟨Y, Y, Y, Y, Y, Y, Y, trivial⟩, leb⟩, trivial⟩ Y Y Y Y Y (Ki Y (Kj Y Y Y (Kk Y (Ka Y (Ka Y (Kd (Kr (Er (ra := [.one (.d _)]) rfl ?_)))))))))))))) (fun g1 => Kg Y (Kg Y (Kg Y (Kg Y (Kl Y (Ka Y (Ka Y (Kd (Kr (Er (ra := [.one (.d _)]) rfl ?_)))))))))))))))))) (fun g0 => Kg Y (Kg Y (Kl Y (Ka Y (Ka Y (Kg Y (Kg Y (Kg Y (Kg Y (Kl Y (Ka Y (Ka Y (Kd (Kr (Er (ra := [.one (.d _)]) rfl ?_))))))))))))))))))))))))
  all_goals (refine congrArg (fun z : Bool => [RA.one (RV.d (DV.sc (Value.bool z)))]) ?_; rw [Bool.eq_iff_iff]; simp [sameR, *])

def c_laws_place : C := (.g (.o 0 3 (.box 3 (.t 1)) (.o 1 4 (.mov (.i 0)) .done)) (.seq (.g (.o 0 5 (.mov (.i 0)) .done) (.block 0 (.loop (.seq (.g (.o 0 6 (.mov (.t 5)) (.o 1 7 (.mov (.t 0)) (.o 2 8 (.len (.t 7)) (.o 3 9 (.bin .lss (.t 6) (.t 8)) .done)))) (.cond (.t 9) .skip (.exit 0))) (.seq (.block 1 (.seq (.reg true (.op 0 [] (some 12) none true (.mov (.t 0)) (.op 1 [] (some 13) none true (.mov (.t 5)) (.op 2 [] (some 14) none true (.iad 7 (.t 12) (.t 13)) (.op 3 [] (some 15) none true (.load (some 7) (.t 14)) (.op 4 [] (some 16) none true (.load (some 7) (.t 3)) (.op 5 [3, 4] (some 17) none false (.call 17 61 [(.t 15), (.t 16)]) .done))))))) (.cond (.t 17) (.g (.o 0 18 (.mov (.t 5)) (.o 1 4 (.mov (.t 18)) .done)) .ret) .skip))) (.reg false (.o 0 10 (.mov (.t 5)) (.o 1 11 (.bin .add (.t 10) (.i 1)) (.o 2 5 (.mov (.t 11)) .done))))))))) (.g (.o 0 4 (.mov (.i (-1))) .done) .ret)))
theorem dg_laws_place : Tryz.f38.body.bind (digC Tryz.prog Tryz.f38.ntmps []) = some c_laws_place := by kernel_rfl
theorem rs_laws_place : resSlots Tryz.prog Tryz.f38 = some [.s 4] := by kernel_rfl
theorem ok_laws_place (l : List Rr) (r : Rr) (hs : SmallRs l) (hr : SmallR r) :
    FnOK Tryz.prog 38 [.one (.d (encR l)), .agg (r.cells.map .d)] (fun ra _ => ra = [.one (.d (.sc (.int .i64 (idx (fun x => sameR x r) l))))]) := by
  refine FnOK.ofK Tryz.func38 (by kernel_rfl) dg_laws_place rs_laws_place rfl rfl ?_
  delta c_laws_place T.o X.i C.g
  have h1 := hs.len
  refine Kbc (kBox Y Y Y Y Y (Ka Y (Kdb (Kbc (Ka Y (Kd (Kt ?_)))))))
  refine kLoop (α := { i : Nat // i ≤ l.length ∧ ∀ x ∈ l.take i, sameR x r = false }) (fun y => ⟨tabSl [(0, .dv (encR l)), (3, .c (.ptr (rid 3 0) 1 0)), (5, .i y.1)], obTab 1 [(rid 3 0, ⟨1, 0, .box (r.cells.map .d)⟩)], []⟩) (fun y => l.length - y.1) ⟨0, by simp⟩ .normA ?_
  rintro ⟨i, hi, hno⟩
  simp only
  rcases Nat.lt_or_ge i l.length with hlt | hge
  · have hbi := hs.mem _ (List.getElem_mem hlt)
    cases hsame : sameR l[i] r
    · refine Kb (Kbc (Ka Y (Ka Y (Kq Y Y (Kj Y Y Y (Kd (Km Y (fun g0 => Kn (Kb (Kt (Kb (kRegD (Ka Y (Ka Y (kIadR Y Y Y prl (Ky Y Y (Ke Y Y Y (Ks Y Y (Kp (ok_spec_RrSame _ _ prx prx) ⟨⟨⟨Y, Y, Y, Y, Y, Y, Y, trivial⟩, leb⟩, ⟨⟨Y, Y, Y, Y, Y, Y, Y, trivial⟩, leb⟩, trivial⟩ Y Y Y Y Y (Kd (kH (kCond Y (fun g1 => (by (simp [*] at g1))) (fun g1 => Kn (Kv (Kc (Ka Y (kAdd Y Y om (Ka Y (Kd ?_)))))))))))))))))))))) (fun g0 => om))))))))
      refine kInv ⟨⟨i + 1, by omega, fun x hx => ?_⟩, by simp only; omega, .normA⟩
      rw [← List.take_append_getElem hlt] at hx
      rcases List.mem_append.1 hx with hx | hx
      · exact hno x hx
      · simp only [List.mem_singleton] at hx; rw [hx]; exact hsame
    · rw [idx_first hlt hno hsame]
      refine Kb (Kbc (Ka Y (Ka Y (Kq Y Y (Kj Y Y Y (Kd (Km Y (fun g0 => Kn (Kb (Kt (Kb (kRegD (Ka Y (Ka Y (kIadR Y Y Y prl (Ky Y Y (Ke Y Y Y (Ks Y Y (Kp (ok_spec_RrSame _ _ prx prx) ⟨⟨⟨Y, Y, Y, Y, Y, Y, Y, trivial⟩, leb⟩, ⟨⟨Y, Y, Y, Y, Y, Y, Y, trivial⟩, leb⟩, trivial⟩ Y Y Y Y Y (Kd (kH (kCond Y (fun g1 => Kbc (Ka Y (Ka Y (Kd (Kr (Er (ra := [.one (.d _)]) rfl rfl)))))) (fun g1 => (by (simp [*] at g1)))))))))))))))))) (fun g0 => om))))))))
  · rw [show idx (fun x => sameR x r) l = -1 from idx_none fun x hx => hno x (by rw [List.take_of_length_le (by omega)]; exact hx)]
    refine Kb (Kbc (Ka Y (Ka Y (Kq Y Y (Kj Y Y Y (Kd (Km Y (fun g0 => om) (fun g0 => kExit (kExC (kExI (kExB (Kbc (Ka Y (Kd (Kr (Er (ra := [.one (.d _)]) rfl rfl))))))))))))))))

def c_impl_Under : C := (.g (.o 0 2 (.box 2 (.t 0)) (.o 1 3 (.box 3 (.t 1)) (.o 2 4 (.mov (.v (.bool false))) .done))) (.g (.o 0 5 (.load (some 1) (.t 2)) (.o 1 6 (.call 6 71 [(.t 5)]) (.o 2 7 (.mov (.t 6)) (.op 3 [] (some 8) (some (7, true)) false (.load (some 1) (.t 3)) (.op 4 [] (some 9) (some (7, true)) false (.call 9 71 [(.t 8)]) (.o 5 10 (.pick (.t 7) (.t 9) (.v (.bool false))) (.o 6 11 (.mov (.t 10)) (.op 7 [] (some 12) (some (11, true)) false (.load (some 1) (.t 2)) (.op 8 [] (some 13) (some (11, true)) false (.load (some 1) (.t 3)) (.op 9 [] (some 14) (some (11, true)) false (.call 14 123 [(.t 12), (.t 13)]) (.o 10 15 (.pick (.t 11) (.t 14) (.v (.bool false))) (.o 11 4 (.mov (.t 15)) .done)))))))))))) .ret))
theorem dg_impl_Under : Tryz.f43.body.bind (digC Tryz.prog Tryz.f43.ntmps []) = some c_impl_Under := by kernel_rfl
theorem rs_impl_Under : resSlots Tryz.prog Tryz.f43 = some [.s 4] := by kernel_rfl
theorem ok_impl_Under (n z : List (List UInt8)) (hn : n.length ≤ 4194304) (hz : z.length ≤ 4194304) (hn' : ∀ b ∈ n, b.length ≤ 4194304) (hz' : ∀ b ∈ z, b.length ≤ 4194304) :
    FnOK Tryz.prog 43 [.agg [.d (encBB n)], .agg [.d (encBB z)]] (fun ra _ => ra = [.one (.d (.sc (.bool (nameOk n && nameOk z && underN n z))))]) := by
  refine FnOK.ofK Tryz.func43 (by kernel_rfl) dg_impl_Under rs_impl_Under rfl rfl ?_
  delta c_impl_Under T.o X.i C.g
  refine Kbc (kBox Y Y Y Y Y (kBox Y Y Y Y Y (Ka Y (Kdb (Kc (Ke Y Y Y (Kp (ok_impl_NameOk _ pr pr) ⟨⟨⟨Y, trivial⟩, leb⟩, trivial⟩ Y Y Y Y Y (Ka Y (kGS Y (fun g0 => Ki Y (Ke Y Y Y (Ki Y (Kp (ok_impl_NameOk _ pr pr) ⟨⟨⟨Y, trivial⟩, leb⟩, trivial⟩ Y Y Y Y Y (Kk Y (Ka Y (Ka Y (kGS Y (fun g1 => Ki Y (Ke Y Y Y (Ki Y (Ke Y Y Y (Ki Y (Kp (ok_impl_Name_under _ _ pr pr) ⟨⟨⟨Y, trivial⟩, leb⟩, ⟨⟨Y, trivial⟩, leb⟩, trivial⟩ Y Y Y Y Y (Kk Y (Ka Y (Ka Y (Kd (Kr (Er (ra := [.one (.d _)]) rfl ?_)))))))))))) (fun g1 => Kg Y (Kg Y (Kg Y (Kl Y (Ka Y (Ka Y (Kd (Kr (Er (ra := [.one (.d _)]) rfl ?_))))))))))))))))) (fun g0 => Kg Y (Kg Y (Kl Y (Ka Y (Ka Y (Kg Y (Kg Y (Kg Y (Kl Y (Ka Y (Ka Y (Kd (Kr (Er (ra := [.one (.d _)]) rfl ?_)))))))))))))))))))))))
  all_goals simp_all

def c_laws_FnAnswers : C := (.g (.o 0 2 (.mov (.v (.bool false))) .done) (.g (.o 0 10 (.mov (.t 0)) (.o 1 11 (.call 11 40 [(.t 10)]) (.o 2 9 (.mov (.t 11)) (.o 3 12 (.ext (.t 9) 0) (.o 4 13 (.ext (.t 9) 1) (.o 5 3 (.alloc 3 [(.n 1), (.n 7)]) (.o 6 4 (.alloc 4 [(.i 0), (.v (.bool false)), (.i 0), (.v (.bool false)), (.i 0), (.n 2), (.n 7), (.n 7), (.n 7), (.n 9), (.n 9)]) (.op 7 [] none none false (.store (some 2) (.t 3) (.t 12)) (.op 8 [] none none false (.store (some 11) (.t 4) (.t 13)) .done))))))))) (.g (.o 0 14 (.load (some 2) (.t 3)) (.o 1 15 (.load (some 11) (.t 4)) (.o 2 16 (.call 16 41 [(.t 14), (.t 15)]) (.o 3 5 (.alloc 5 [(.i 0), (.v (.bool false)), (.i 0), (.v (.bool false)), (.i 0), (.n 2), (.n 7), (.n 7), (.n 7), (.n 9), (.n 9)]) (.op 4 [] none none false (.store (some 11) (.t 5) (.t 16)) .done))))) (.seq (.g (.o 0 17 (.load (some 2) (.t 3)) (.o 1 18 (.call 18 14 [(.t 17)]) (.o 2 19 (.un .not (.t 18)) (.o 3 20 (.mov (.t 19)) (.op 4 [] (some 21) (some (20, false)) false (.load (some 11) (.t 4)) (.op 5 [] (some 22) (some (20, false)) false (.call 22 42 [(.t 21)]) (.op 6 [] (some 23) (some (20, false)) false (.un .not (.t 22)) (.o 7 24 (.pick (.t 20) (.v (.bool true)) (.t 23)) (.o 8 25 (.mov (.t 24)) (.op 9 [] (some 26) (some (25, false)) false (.fad (.t 4) 2) (.op 10 [] (some 27) (some (25, false)) false (.load none (.t 26)) (.op 11 [] (some 28) (some (25, false)) false (.bin .neq (.t 27) (.i 0)) (.o 12 29 (.pick (.t 25) (.v (.bool true)) (.t 28)) (.o 13 30 (.mov (.t 29)) (.op 14 [] (some 31) (some (30, false)) false (.fad (.t 4) 1) (.op 15 [] (some 32) (some (30, false)) false (.load none (.t 31)) (.o 16 33 (.pick (.t 30) (.v (.bool true)) (.t 32)) .done))))))))))))))))) (.cond (.t 33) (.g (.o 0 34 (.fad (.t 5) 5) (.o 1 35 (.load none (.t 34)) (.o 2 36 (.len (.t 35)) (.o 3 37 (.bin .eql (.t 36) (.i 0)) (.o 4 38 (.mov (.t 37)) (.op 5 [] (some 39) (some (38, true)) false (.call 39 15 []) (.o 6 40 (.pick (.t 38) (.t 39) (.v (.bool false))) (.o 7 2 (.mov (.t 40)) .done)))))))) .ret) .skip)) (.seq (.reg true (.op 1 [] (some 42) none true (.fad (.t 5) 6) (.op 2 [] (some 43) none true (.load none (.t 42)) (.op 4 [] (some 45) none true (.fad (.t 5) 7) (.op 5 [] (some 46) none true (.load none (.t 45)) (.op 7 [] (some 48) none true (.fad (.t 5) 8) (.op 8 [] (some 49) none true (.load none (.t 48)) (.o 0 41 (.lit 41 7 [(.n 1), (.i 0), (.i 0), (.i 0), (.n 1), (.n 1), (.n 1)] 0 []) (.op 3 [2] (some 44) none false (.app 44 7 120 (.t 41) (.t 43)) (.op 6 [2, 5] (some 47) none false (.app 47 7 120 (.t 44) (.t 46)) (.op 9 [2, 5, 8] (some 50) none false (.app 50 7 120 (.t 47) (.t 49)) (.op 10 [] (some 6) none true (.mov (.t 50)) .done)))))))))))) (.seq (.g (.o 0 7 (.mov (.i 0)) .done) (.block 0 (.loop (.seq (.g (.o 0 51 (.mov (.t 7)) (.o 1 52 (.mov (.t 6)) (.o 2 53 (.len (.t 52)) (.o 3 54 (.bin .lss (.t 51) (.t 53)) .done)))) (.cond (.t 54) .skip (.exit 0))) (.seq (.block 1 (.seq (.reg true (.op 0 [] (some 57) none true (.fad (.t 3) 1) (.op 1 [] (some 58) none true (.load none (.t 57)) (.op 2 [] (some 59) none true (.mov (.t 6)) (.op 3 [] (some 60) none true (.mov (.t 7)) (.op 4 [] (some 61) none true (.iad 7 (.t 59) (.t 60)) (.op 5 [] (some 62) none true (.load (some 7) (.t 61)) (.op 6 [1, 5] (some 63) none false (.call 63 38 [(.t 58), (.t 62)]) (.op 7 [] (some 64) none true (.bin .lss (.t 63) (.i 0)) .done))))))))) (.cond (.t 64) (.g (.o 0 2 (.mov (.v (.bool false))) .done) .ret) .skip))) (.reg false (.o 0 55 (.mov (.t 7)) (.o 1 56 (.bin .add (.t 55) (.i 1)) (.o 2 7 (.mov (.t 56)) .done))))))))) (.seq (.reg true (.op 0 [] (some 65) none true (.fad (.t 4) 5) (.op 1 [] (some 66) none true (.load none (.t 65)) (.op 2 [] (some 67) none true (.iad 2 (.t 66) (.i 0)) (.op 3 [] (some 68) none true (.fad (.t 67) 0) (.op 4 [] (some 69) none true (.load (some 1) (.t 68)) (.op 5 [] (some 70) none true (.fad (.t 3) 0) (.op 6 [] (some 71) none true (.load (some 1) (.t 70)) (.op 7 [4, 1, 6] (some 72) none false (.call 72 43 [(.t 69), (.t 71)]) (.op 8 [] (some 73) none true (.un .not (.t 72)) (.op 9 [] (some 8) none true (.mov (.t 73)) .done))))))))))) (.g (.o 0 74 (.load (some 11) (.t 5)) (.o 1 75 (.call 75 44 [(.t 74)]) (.o 2 76 (.mov (.t 75)) (.op 3 [] (some 77) (some (76, true)) false (.fad (.t 5) 0) (.op 4 [] (some 78) (some (76, true)) false (.load none (.t 77)) (.op 5 [] (some 79) (some (76, true)) false (.fad (.t 4) 0) (.op 6 [] (some 80) (some (76, true)) false (.load none (.t 79)) (.op 7 [] (some 81) (some (76, true)) false (.bin .eql (.t 78) (.t 80)) (.o 8 82 (.pick (.t 76) (.t 81) (.v (.bool false))) (.o 9 83 (.mov (.t 82)) (.op 10 [] (some 84) (some (83, true)) false (.fad (.t 5) 1) (.op 11 [] (some 85) (some (83, true)) false (.load none (.t 84)) (.o 12 86 (.pick (.t 83) (.t 85) (.v (.bool false))) (.o 13 87 (.mov (.t 86)) (.op 14 [] (some 88) (some (87, true)) false (.fad (.t 5) 4) (.op 15 [] (some 89) (some (87, true)) false (.load none (.t 88)) (.op 16 [] (some 90) (some (87, true)) false (.bin .eql (.t 89) (.i 5)) (.op 17 [] (some 91) (some (87, true)) false (.mov (.t 8)) (.op 18 [] (some 92) (some (87, true)) false (.beq false (.t 90) (.t 91)) (.o 19 93 (.pick (.t 87) (.t 92) (.v (.bool false))) (.o 20 2 (.mov (.t 93)) .done))))))))))))))))))))) .ret))))))))
theorem dg_laws_FnAnswers : Tryz.f7.body.bind (digC Tryz.prog Tryz.f7.ntmps []) = some c_laws_FnAnswers := by kernel_rfl
theorem rs_laws_FnAnswers : resSlots Tryz.prog Tryz.f7 = some [.s 2] := by kernel_rfl
theorem ok_laws_FnAnswers (code : List UInt8) (hb : (code.length : Int) ≤ 9223372036854775807) :
    FnOK Tryz.prog 7 [.one (.d (encB code))] (fun ra _ => ra = [.one (.d (.sc (.bool true)))]) := by
  refine FnOK.ofK Tryz.func7 (by kernel_rfl) dg_laws_FnAnswers rs_laws_FnAnswers rfl rfl ?_
  delta c_laws_FnAnswers T.o X.i C.g
  have hstopd16 := trivial
  refine Kbc (Ka Y (Kdb (Kc (Ka Y (kCallX false (ok_spec_DrawAnswer _ prx) ⟨Y, trivial⟩ Y (fun _ => rfl) (fun _ => rfl) (fun x0 _ hx0 => (kMovT Y (kExtC Y Y (kExtC Y Y (kAlloc Y Y (kAlloc Y Y (Ko Y Y Y Y (Ko Y Y Y Y (Kdb ?_))))))))))))))
  clear hstopd16
  obtain ⟨h1, h2⟩ := hx0
  generalize x0.1 = z at *
  generalize x0.2 = m at *
  cases hg : (zoneOk z && (msgOk m && m.op == 0 && !m.reply))
  · have e : answerN z m = nothingM := by unfold answerN; rw [hg]; rfl
    have hn : SmallM (answerN z m) := by rw [e]; exact ⟨⟨Nat.zero_le _, nofun⟩, ⟨Nat.zero_le _, nofun⟩, ⟨Nat.zero_le _, nofun⟩, ⟨Nat.zero_le _, nofun⟩, ⟨Nat.zero_le _, nofun⟩, ⟨Nat.zero_le _, nofun⟩⟩
    have e1 : (answerN z m).qs.length = 0 := by rw [e]; rfl
    refine Kc (Ke Y Y Y (Ke Y Y Y (kCallD2 (ok_impl_Answer _ _ prx prx) ⟨⟨⟨Y, Y, trivial⟩, leb⟩, ⟨⟨Y, Y, Y, Y, Y, Y, Y, Y, Y, Y, Y, trivial⟩, leb⟩, trivial⟩ Y Y Y Y (kAlloc Y Y (Ko Y Y Y Y (Kdb (Kbc (Ke Y Y Y (Kp (ok_spec_ZoneOk _ prx) ⟨⟨⟨Y, Y, trivial⟩, leb⟩, trivial⟩ Y Y Y Y Y (Kw Y Y (Ka Y (kGN Y (fun g0 => Kg Y (Kg Y (Kg Y (Kk Y (Ka Y (Ka Y (Kg Y (Kg Y (Kg Y (Kk Y (Ka Y (Ka Y (Kg Y (Kg Y (Kk Y (Ka Y (Kd (kCondT Y (Kbc (Kf Y Y (Ke Y Y Y (Kq Y Y (Kj Y Y Y (Ka Y (kGP Y (fun g1 => Ki Y (Kp (ok_laws_zones) trivial rfl rfl rfl rfl rfl (Kk Y (Ka Y (Ka Y (Kd (Kr (Er (ra := [.one (.d _)]) rfl rfl)))))))) (fun g1 => om)))))))))))))))))))))))))) (fun g0 => Ki Y (Ke Y Y Y (Ki Y (Kp (ok_spec_MsgOk _ prx) ⟨⟨⟨Y, Y, Y, Y, Y, Y, Y, Y, Y, Y, Y, trivial⟩, leb⟩, trivial⟩ Y Y Y Y Y (Ki Y (Kw Y Y (Kl Y (Ka Y (Ka Y (kGN Y (fun g2 => Kg Y (Kg Y (Kg Y (Kk Y (Ka Y (Ka Y (Kg Y (Kg Y (Kk Y (Ka Y (Kd (kCondT Y (Kbc (Kf Y Y (Ke Y Y Y (Kq Y Y (Kj Y Y Y (Ka Y (kGP Y (fun g3 => Ki Y (Kp (ok_laws_zones) trivial rfl rfl rfl rfl rfl (Kk Y (Ka Y (Ka Y (Kd (Kr (Er (ra := [.one (.d _)]) rfl rfl)))))))) (fun g3 => om)))))))))))))))))))) (fun g2 => Ki Y (Kf Y Y (Ki Y (Ke Y Y Y (Ki Y (Kj Y Y Y (Kl Y (Ka Y (Ka Y (kGIN Y (fun g4 => Kg Y (Kg Y (Kk Y (Ka Y (Kd (kCondT Y (Kbc (Kf Y Y (Ke Y Y Y (Kq Y Y (Kj Y Y Y (Ka Y (kGP Y (fun g5 => Ki Y (Kp (ok_laws_zones) trivial rfl rfl rfl rfl rfl (Kk Y (Ka Y (Ka Y (Kd (Kr (Er (ra := [.one (.d _)]) rfl rfl)))))))) (fun g5 => om)))))))))))))) (fun g4 => Ki Y (Kf Y Y (Ki Y (Ke Y Y Y (Kl Y (Ka Y (Kd (kCond Y (fun g6 => Kbc (Kf Y Y (Ke Y Y Y (Kq Y Y (Kj Y Y Y (Ka Y (kGP Y (fun g7 => Ki Y (Kp (ok_laws_zones) trivial rfl rfl rfl rfl rfl (Kk Y (Ka Y (Ka Y (Kd (Kr (Er (ra := [.one (.d _)]) rfl rfl)))))))) (fun g7 => om)))))))) (fun g6 => Kn (Kb (kRegD (Kf Y Y (Ke Y Y Y (Kf Y Y (Ke Y Y Y (Kf Y Y (Ke Y Y Y (kLitG Y Y Y Y (Kx Y Y ?_)))))))))))))))))))))))))))))))))))))))))))))))))))
    all_goals (exfalso; simp_all)
  have e : answerN z m = ansM z m := by unfold answerN; rw [hg]; rfl
  simp only [Bool.and_eq_true, beq_iff_eq, Bool.not_eq_true'] at hg
  obtain ⟨hz, ⟨hm, hop⟩, hrp⟩ := hg
  obtain ⟨a1, a2, a3, a4, a5⟩ := ansM_good hz hm hop
  rw [← e] at a1 a2 a3 a4 a5
  have hsm : SmallM (answerN z m) := msgOk_small a1
  have hp := MayP.of (by unfold msgOk at hm; simp only [Bool.and_eq_true] at hm; exact hm.1)
  have hq1 := hp.q1
  have hq0 : 0 < m.qs.length := by omega
  have hqg : m.qs.getD 0 ⟨[], 0⟩ = m.qs[0]'hq0 := by simp [List.getD_eq_getElem?_getD, hq1]
  have hqn := hp.qn
  rw [hqg] at a4 hqn
  have hzo := (zoneP.1 hz).o
  have l1 := hsm.a.len
  have l2 := hsm.b.len
  have l3 := hsm.c.len
  refine Kc (Ke Y Y Y (Ke Y Y Y (kCallD2 (ok_impl_Answer _ _ prx prx) ⟨⟨⟨Y, Y, trivial⟩, leb⟩, ⟨⟨Y, Y, Y, Y, Y, Y, Y, Y, Y, Y, Y, trivial⟩, leb⟩, trivial⟩ Y Y Y Y (kAlloc Y Y (Ko Y Y Y Y (Kdb (Kbc (Ke Y Y Y (Kp (ok_spec_ZoneOk _ prx) ⟨⟨⟨Y, Y, trivial⟩, leb⟩, trivial⟩ Y Y Y Y Y (Kw Y Y (Ka Y (kGN Y (fun g0 => (by (simp [*] at g0))) (fun g0 => Ki Y (Ke Y Y Y (Ki Y (Kp (ok_spec_MsgOk _ prx) ⟨⟨⟨Y, Y, Y, Y, Y, Y, Y, Y, Y, Y, Y, trivial⟩, leb⟩, trivial⟩ Y Y Y Y Y (Ki Y (Kw Y Y (Kl Y (Ka Y (Ka Y (kGN Y (fun g1 => (by (simp [*] at g1))) (fun g1 => Ki Y (Kf Y Y (Ki Y (Ke Y Y Y (Ki Y (Kj Y Y Y (Kl Y (Ka Y (Ka Y (kGIN Y (fun g2 => om) (fun g2 => Ki Y (Kf Y Y (Ki Y (Ke Y Y Y (Kl Y (Ka Y (Kd (kCond Y (fun g3 => (by (simp [*] at g3))) (fun g3 => Kn (Kb (kRegD (Kf Y Y (Ke Y Y Y (Kf Y Y (Ke Y Y Y (Kf Y Y (Ke Y Y Y (kLitG Y Y Y Y (Kx Y Y (kAppN Y Y Y Y Y Y Y Y prl (Kx Y Y ?_)))))))))))))))))))))))))))))))))))))))))))))))))))))
  refine kAppR (f := Rr.cells) (l := (answerN z m).an) (l' := (answerN z m).au) rfl rfl rfl rfl rfl rfl rfl rfl om ?_
  refine Ks Y Y ?_
  refine kAppR (f := Rr.cells) (l := (answerN z m).an ++ (answerN z m).au) (l' := (answerN z m).mo) rfl rfl rfl rfl rfl rfl rfl rfl (by rw [List.length_append]; omega) ?_
  refine Ka Y (Kd (kH (Kb (Kbc (Ka Y (Kd (Kt ?_)))))))
  refine kSub (Sub.frz (j := 6) rfl rfl (Nat.zero_lt_succ _)) ?_
  obtain ⟨L, hL⟩ : ∃ L, L = (answerN z m).an ++ (answerN z m).au ++ (answerN z m).mo := ⟨_, rfl⟩
  rw [← hL] at a5
  have hLl : L.length ≤ 12582912 := by rw [hL]; simp; omega
  have hzs := zoneOk_small hz
  have hls := hzs.r.len
  refine kLoop (α := { i : Nat // i ≤ L.length }) (fun y => ⟨tabSl [(3, .c (.ptr (rid 3 0) 1 0)), (4, .c (.ptr (rid 4 0) 1 0)), (5, .c (.ptr (rid 5 0) 1 0)), (6, .dv (encR L)), (7, .i y.1)], obTab 1 [(rid 3 0, ⟨1, 0, .box (z.cells.map .d)⟩), (rid 4 0, ⟨1, 0, .box (m.cells.map .d)⟩), (rid 5 0, ⟨1, 0, .box ((answerN z m).cells.map .d)⟩)], []⟩) (fun y => L.length - y.1) ⟨0, by simp⟩ (by rw [hL]; exact .normA) ?_
  rintro ⟨i, hi⟩
  simp only
  rcases Nat.lt_or_ge i L.length with hlt | hge
  · have hm := a5 _ (List.getElem_mem hlt)
    have hpl : 0 ≤ idx (fun x => sameR x L[i]) z.rrs := idx_mem hm (sameR_refl (zone_rrs hz _ hm))
    have hbi := hzs.r.mem _ hm
    have hzr := hzs.r
    refine Kb (Kbc (Ka Y (Ka Y (Kq Y Y (Kj Y Y Y (Kd (Km Y (fun g0 => Kn (Kb (Kt (Kb (kRegD (Kf Y Y (Ke Y Y Y (Ka Y (Ka Y (kIadR Y Y Y prl (Ky Y Y (Ks Y Y (Kp (ok_laws_place _ _ prx prx) ⟨rfl, ⟨⟨Y, Y, Y, Y, Y, Y, Y, trivial⟩, leb⟩, trivial⟩ Y Y Y Y Y (Kj Y Y Y (Kd (kH (Km Y (fun g1 => om) (fun g1 => Kn (Kv (Kc (Ka Y (kAdd Y Y om (Ka Y (Kd ?_)))))))))))))))))))))))) (fun g0 => om))))))))
    exact kInv ⟨⟨i + 1, by omega⟩, by simp only; omega, .normA⟩
  · have q1 := SmallBB.ok hqn
    have q2 := SmallBB.ok hzo
    refine Kb (Kbc (Ka Y (Ka Y (Kq Y Y (Kj Y Y Y (Kd (Km Y (fun g0 => om) (fun g0 => kExit (kExC (kExI (kExB (Kb (kRegD (Kf Y Y (Ke Y Y Y (kIadR (m := 0) Y Y Y prl (kFadD Y (Ky Y Y (Kf Y Y (Ke Y Y Y (Ks Y Y (Kp (ok_impl_Under _ _ prx prx prx prx) ⟨⟨⟨Y, trivial⟩, leb⟩, ⟨⟨Y, trivial⟩, leb⟩, trivial⟩ Y Y Y Y Y (Kw Y Y (Ka Y (Kd (kH (Kbc (Ke Y Y Y (Kp (ok_impl_MsgOk _ prx) ⟨⟨⟨Y, Y, Y, Y, Y, Y, Y, Y, Y, Y, Y, trivial⟩, leb⟩, trivial⟩ Y Y Y Y Y (Ka Y (kGS Y (fun g1 => Ki Y (Kf Y Y (Ki Y (Ke Y Y Y (Ki Y (Kf Y Y (Ki Y (Ke Y Y Y (Ki Y (Kj Y Y Y (Kk Y (Ka Y (Ka Y (kGP Y (fun g2 => Ki Y (Kf Y Y (Ki Y (Ke Y Y Y (Kk Y (Ka Y (Ka Y (kGS Y (fun g3 => Ki Y (Kf Y Y (Ki Y (Ke Y Y Y (Ki Y (Kj Y Y Y (Ki Y (Ka Y (Ki Y (kBeq Y Y (Kk Y (Ka Y (Ka Y (Kd (Kr (Er (ra := [.one (.d _)]) rfl ?_)))))))))))))))) (fun g3 => Kg Y (Kg Y (Kg Y (Kg Y (Kg Y (Kl Y (Ka Y (Ka Y (Kd (Kr (Er (ra := [.one (.d _)]) rfl ?_))))))))))))))))))) (fun g2 => om))))))))))))))) (fun g1 => Kg Y (Kg Y (Kg Y (Kg Y (Kg Y (Kl Y (Ka Y (Ka Y (Kg Y (Kg Y (Kl Y (Ka Y (Ka Y (Kg Y (Kg Y (Kg Y (Kg Y (Kg Y (Kl Y (Ka Y (Ka Y (Kd (Kr (Er (ra := [.one (.d _)]) rfl ?_)))))))))))))))))))))))))))))))))))))))))))))))))))))))
    · refine congrArg (fun z : Bool => [RA.one (RV.d (DV.sc (Value.bool z)))]) ?_
      rw [if_neg (by simp), a4, hqn, hzo]
      simp
    · rw [a3] at g3; cases g3
    · rw [a1] at g1; cases g1

end Go.Proofs.YtmdmlncdjdphdaaGreat.FnAnswersFn
