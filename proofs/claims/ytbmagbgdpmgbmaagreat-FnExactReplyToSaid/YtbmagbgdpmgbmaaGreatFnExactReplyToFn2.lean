/- What the functions that FnExactReplyTo reaches compute, one contract each; each with the bounds that it states. -/
import Derived.Test.YtbmagbgdpmgbmaaGreatFnExactReplyToFn1
import Derived.Test.YtbmagbgdpmgbmaaGreatProg
import Derived.KernelRfl
set_option maxRecDepth 100000
set_option maxHeartbeats 8000000
set_option linter.unusedVariables false
set_option linter.unusedSimpArgs false
namespace Go.Proofs.YtbmagbgdpmgbmaaGreat.FnExactReplyToFn
open Go Hearth Go.Proofs

def c_spec_l4bytes : C := (.seq (.reg false (.o 0 1 (.box 1 (.t 0)) (.o 1 2 (.mov (.n 1)) .done))) (.seq (.reg false (.o 0 11 (.fad (.t 1) 2) (.o 1 12 (.load none (.t 11)) (.o 2 13 (.bin .shl (.t 12) (.v (.int .u64 11))) (.o 3 14 (.fad (.t 1) 4) (.o 4 15 (.load none (.t 14)) (.o 5 16 (.bin .add (.t 13) (.t 15)) (.o 6 3 (.mov (.t 16)) .done)))))))) (.seq (.seq (.reg false (.o 0 17 (.fad (.t 1) 1) (.o 1 18 (.load none (.t 17)) .done))) (.cond (.t 18) (.reg false (.o 0 19 (.mov (.t 3)) (.o 1 20 (.bin .add (.t 19) (.i 32768)) (.o 2 3 (.mov (.t 20)) .done)))) .skip)) (.seq (.seq (.reg false (.o 0 21 (.fad (.t 1) 3) (.o 1 22 (.load none (.t 21)) .done))) (.cond (.t 22) (.reg false (.o 0 23 (.mov (.t 3)) (.o 1 24 (.bin .add (.t 23) (.i 1024)) (.o 2 3 (.mov (.t 24)) .done)))) .skip)) (.seq (.reg true (.op 0 [] (some 25) none true (.fad (.t 1) 6) (.op 1 [] (some 26) none true (.load none (.t 25)) (.op 2 [] (some 27) none true (.len (.t 26)) (.op 3 [] (some 28) none true (.fad (.t 1) 7) (.op 4 [] (some 29) none true (.load none (.t 28)) (.op 5 [] (some 30) none true (.len (.t 29)) (.op 6 [] (some 4) none true (.mov (.t 27)) (.op 7 [] (some 5) none true (.mov (.t 30)) .done))))))))) (.seq (.seq (.reg false (.o 0 31 (.fad (.t 1) 2) (.o 1 32 (.load none (.t 31)) (.o 2 33 (.bin .eql (.t 32) (.i 5)) .done)))) (.cond (.t 33) (.seq (.reg false (.o 0 34 (.fad (.t 1) 9) (.o 1 35 (.load none (.t 34)) (.o 2 36 (.len (.t 35)) (.o 3 4 (.mov (.t 36)) .done))))) (.reg false (.o 0 37 (.fad (.t 1) 10) (.o 1 38 (.load none (.t 37)) (.o 2 39 (.len (.t 38)) (.o 3 5 (.mov (.t 39)) .done)))))) .skip)) (.seq (.reg true (.op 0 [] (some 40) none true (.fad (.t 1) 0) (.op 1 [] (some 41) none true (.load none (.t 40)) (.op 3 [] (some 43) none true (.mov (.t 3)) (.op 6 [] (some 46) none true (.mov (.t 4)) (.op 8 [] (some 48) none true (.mov (.t 5)) (.op 10 [] (some 50) none true (.fad (.t 1) 8) (.op 11 [] (some 51) none true (.load none (.t 50)) (.op 12 [] (some 52) none true (.len (.t 51)) (.op 2 [1] (some 42) none false (.call 42 282 [(.n 1), (.t 41)]) (.op 4 [1] (some 44) none false (.call 44 282 [(.t 42), (.t 43)]) (.op 5 [1] (some 45) none false (.call 45 282 [(.t 44), (.i 1)]) (.op 7 [1] (some 47) none false (.call 47 282 [(.t 45), (.t 46)]) (.op 9 [1] (some 49) none false (.call 49 282 [(.t 47), (.t 48)]) (.op 13 [1, 11] (some 53) none false (.call 53 282 [(.t 49), (.t 52)]) (.op 14 [] (some 6) none true (.mov (.t 53)) .done)))))))))))))))) (.seq (.reg true (.op 0 [] (some 54) none true (.mov (.t 6)) (.op 1 [] (some 55) none true (.fad (.t 1) 5) (.op 2 [] (some 56) none true (.load none (.t 55)) (.op 3 [] (some 57) none true (.iad 2 (.t 56) (.i 0)) (.op 4 [] (some 58) none true (.fad (.t 57) 0) (.op 5 [] (some 59) none true (.load (some 1) (.t 58)) (.op 7 [] (some 61) none true (.fad (.t 1) 5) (.op 8 [] (some 62) none true (.load none (.t 61)) (.op 9 [] (some 63) none true (.iad 2 (.t 62) (.i 0)) (.op 10 [] (some 64) none true (.fad (.t 63) 1) (.op 11 [] (some 65) none true (.load none (.t 64)) (.op 6 [5, 2] (some 60) none false (.call 60 209 [(.t 54), (.t 59)]) (.op 12 [5, 2, 11, 8] (some 66) none false (.call 66 282 [(.t 60), (.t 65)]) (.op 13 [5, 2, 11, 8] (some 67) none false (.call 67 282 [(.t 66), (.i 1)]) (.op 14 [] (some 6) none true (.mov (.t 67)) .done)))))))))))))))) (.seq (.seq (.reg false (.o 0 7 (.mov (.i 0)) .done)) (.block 0 (.loop (.seq (.seq (.reg false (.o 0 68 (.mov (.t 7)) (.o 1 69 (.fad (.t 1) 9) (.o 2 70 (.load none (.t 69)) (.o 3 71 (.len (.t 70)) (.o 4 72 (.bin .lss (.t 68) (.t 71)) .done)))))) (.cond (.t 72) .skip (.exit 0))) (.seq (.block 1 (.reg false (.o 0 75 (.mov (.t 6)) (.o 1 76 (.fad (.t 1) 9) (.o 2 77 (.load none (.t 76)) (.o 3 78 (.mov (.t 7)) (.o 4 79 (.iad 9 (.t 77) (.t 78)) (.o 5 80 (.load (some 9) (.t 79)) (.o 6 81 (.call 81 283 [(.t 75), (.t 80)]) (.o 7 6 (.mov (.t 81)) .done)))))))))) (.reg false (.o 0 73 (.mov (.t 7)) (.o 1 74 (.bin .add (.t 73) (.i 1)) (.o 2 7 (.mov (.t 74)) .done))))))))) (.seq (.seq (.reg false (.o 0 8 (.mov (.i 0)) .done)) (.block 2 (.loop (.seq (.seq (.reg false (.o 0 82 (.mov (.t 8)) (.o 1 83 (.fad (.t 1) 10) (.o 2 84 (.load none (.t 83)) (.o 3 85 (.len (.t 84)) (.o 4 86 (.bin .lss (.t 82) (.t 85)) .done)))))) (.cond (.t 86) .skip (.exit 2))) (.seq (.block 3 (.reg false (.o 0 89 (.mov (.t 6)) (.o 1 90 (.fad (.t 1) 10) (.o 2 91 (.load none (.t 90)) (.o 3 92 (.mov (.t 8)) (.o 4 93 (.iad 9 (.t 91) (.t 92)) (.o 5 94 (.load (some 9) (.t 93)) (.o 6 95 (.call 95 283 [(.t 89), (.t 94)]) (.o 7 6 (.mov (.t 95)) .done)))))))))) (.reg false (.o 0 87 (.mov (.t 8)) (.o 1 88 (.bin .add (.t 87) (.i 1)) (.o 2 8 (.mov (.t 88)) .done))))))))) (.seq (.reg true (.op 1 [] (some 97) none true (.fad (.t 1) 6) (.op 2 [] (some 98) none true (.load none (.t 97)) (.op 4 [] (some 100) none true (.fad (.t 1) 7) (.op 5 [] (some 101) none true (.load none (.t 100)) (.op 7 [] (some 103) none true (.fad (.t 1) 8) (.op 8 [] (some 104) none true (.load none (.t 103)) (.o 0 96 (.lit 96 7 [(.n 1), (.i 0), (.i 0), (.i 0), (.n 1), (.n 1), (.n 1)] 0 []) (.op 3 [2] (some 99) none false (.app 99 7 120 (.t 96) (.t 98)) (.op 6 [2, 5] (some 102) none false (.app 102 7 120 (.t 99) (.t 101)) (.op 9 [2, 5, 8] (some 105) none false (.app 105 7 120 (.t 102) (.t 104)) (.op 10 [] (some 9) none true (.mov (.t 105)) .done)))))))))))) (.seq (.seq (.reg false (.o 0 10 (.mov (.i 0)) .done)) (.block 4 (.loop (.seq (.seq (.reg false (.o 0 106 (.mov (.t 10)) (.o 1 107 (.mov (.t 9)) (.o 2 108 (.len (.t 107)) (.o 3 109 (.bin .lss (.t 106) (.t 108)) .done))))) (.cond (.t 109) .skip (.exit 4))) (.seq (.block 5 (.reg false (.o 0 112 (.mov (.t 6)) (.o 1 113 (.mov (.t 9)) (.o 2 114 (.mov (.t 10)) (.o 3 115 (.iad 7 (.t 113) (.t 114)) (.o 4 116 (.load (some 7) (.t 115)) (.o 5 117 (.call 117 284 [(.t 112), (.t 116), (.i 1)]) (.o 6 6 (.mov (.t 117)) .done))))))))) (.reg false (.o 0 110 (.mov (.t 10)) (.o 1 111 (.bin .add (.t 110) (.i 1)) (.o 2 10 (.mov (.t 111)) .done))))))))) (.seq (.reg false (.o 0 118 (.mov (.t 6)) (.o 1 2 (.mov (.t 118)) .done))) .ret)))))))))))))
theorem dg_spec_l4bytes : Tryz.f246.body.bind (digC Tryz.prog Tryz.f246.ntmps []) = some c_spec_l4bytes := by kernel_rfl
theorem rs_spec_l4bytes : resSlots Tryz.prog Tryz.f246 = some [.s 2] := by kernel_rfl
theorem ok_spec_l4bytes (m : Msg) (hs : SmallM m) (hk : msgMay m = true) :
    FnOK Tryz.prog 246 [.agg (m.cells.map .d)] (fun ra _ => ra = [.one (.own true (encB (msgB m (flagsM m) (if m.op = 5 then (m.pr.length : Int) else m.an.length) (if m.op = 5 then (m.up.length : Int) else m.au.length))))]) := by
  refine FnOK.ofK Tryz.func246 (by kernel_rfl) dg_spec_l4bytes rs_spec_l4bytes rfl rfl ?_
  delta c_spec_l4bytes T.o X.i
  have p := MayP.of hk
  have b1 := hs.q
  have b2 := hs.a
  have b3 := hs.b
  have b4 := hs.c
  have b5 := hs.p
  have b6 := hs.u
  obtain ⟨p1, p2⟩ := p.id
  obtain ⟨p3, p4⟩ := p.cd
  have p5 := p.q1
  have p6 := p.qn
  obtain ⟨p7, p8⟩ := p.qt
  obtain ⟨p9, p10⟩ := p.an
  obtain ⟨p11, p12⟩ := p.au
  obtain ⟨p13, p14⟩ := p.mo
  obtain ⟨p15, p16⟩ := p.pr
  obtain ⟨p17, p18⟩ := p.up
  have hop : m.op = 0 ∨ m.op = 5 := p.op.imp (fun h => h.1) (fun h => h.1)
  have hop1 : 0 ≤ m.op ∧ m.op ≤ 5 := by omega
  refine kSeq (kCut ⟨tabSl [(1, .c (.ptr (rid 1 0) 1 0)), (2, .c (.nil 1))], obTab 1 [(rid 1 0, ⟨1, 0, .box (m.cells.map .d)⟩)], []⟩ ?_ (fun x hc => ?_))
  case refine_2 => refine kReg (kBox rfl rfl rfl rfl rfl (kMovC rfl (kDone (hc _ .normA))))
  refine kSeq (kCut ⟨tabSl [(1, .c (.ptr (rid 1 0) 1 0)), (2, .c (.nil 1)), (3, .i (m.op * 2048 + m.code))], obTab 1 [(rid 1 0, ⟨1, 0, .box (m.cells.map .d)⟩)], []⟩ ?_ (fun x hc => ?_))
  case refine_2 =>
    refine kReg (kFadP rfl rfl (kLoadP rfl rfl rfl (kShl11 rfl rfl (by omega) ?_)))
    refine kFadP rfl rfl (kLoadP rfl rfl rfl (kAdd rfl rfl (by omega) (kMovC rfl (kDone (hc _ .normA)))))
  refine kSeq (kCut ⟨tabSl [(1, .c (.ptr (rid 1 0) 1 0)), (2, .c (.nil 1)), (3, .i (m.op * 2048 + m.code + (if m.reply then 32768 else 0)))], obTab 1 [(rid 1 0, ⟨1, 0, .box (m.cells.map .d)⟩)], []⟩ ?_ (fun x hc => ?_))
  case refine_2 =>
    revert hc
    cases hr : m.reply
    · intro hc
      refine kSeq (kReg (kFadP rfl rfl (kLoadP rfl rfl rfl (kDone (kCond rfl (fun g0 => (by (simp [*] at g0))) (fun g0 => kSkip (hc _ .normA)))))))
    · intro hc
      refine kSeq (kReg (kFadP rfl rfl (kLoadP rfl rfl rfl (kDone (kCond rfl (fun g0 => kReg (kMovC rfl (kAdd rfl rfl (by omega) (kMovC rfl (kDone (hc _ .normA)))))) (fun g0 => (by (simp [*] at g0))))))))
  have hfr : 0 ≤ (if m.reply then 32768 else (0 : Int)) ∧ (if m.reply then 32768 else (0 : Int)) ≤ 32768 := by split <;> omega
  refine kSeq (kCut ⟨tabSl [(1, .c (.ptr (rid 1 0) 1 0)), (2, .c (.nil 1)), (3, .i (flagsM m))], obTab 1 [(rid 1 0, ⟨1, 0, .box (m.cells.map .d)⟩)], []⟩ ?_ (fun x hc => ?_))
  case refine_2 =>
    revert hc
    unfold flagsM
    cases hr : m.auth
    · intro hc
      refine kSeq (kReg (kFadP rfl rfl (kLoadP rfl rfl rfl (kDone (kCond rfl (fun g0 => (by (simp [*] at g0))) (fun g0 => kSkip (hc _ .normA)))))))
    · intro hc
      refine kSeq (kReg (kFadP rfl rfl (kLoadP rfl rfl rfl (kDone (kCond rfl (fun g0 => kReg (kMovC rfl (kAdd rfl rfl (by omega) (kMovC rfl (kDone (hc _ .normA)))))) (fun g0 => (by (simp [*] at g0))))))))
  have hfl : 0 ≤ flagsM m ∧ flagsM m ≤ 65535 := by unfold flagsM; split <;> split <;> omega
  refine kSeq (kCut ⟨tabSl [(1, .c (.ptr (rid 1 0) 1 0)), (2, .c (.nil 1)), (3, .i (flagsM m)), (4, .i m.an.length), (5, .i m.au.length)], obTab 1 [(rid 1 0, ⟨1, 0, .box (m.cells.map .d)⟩)], []⟩ ?_ (fun x hc => ?_))
  case refine_2 => refine kRegD (kFadP rfl rfl (kLoadP rfl rfl rfl (kLenR rfl rfl (kFadP rfl rfl (kLoadP rfl rfl rfl (kLenR rfl rfl (kMovC rfl (kMovC rfl (kDone (kH (hc _ .normA)))))))))))
  refine kSeq (kCut ⟨tabSl [(1, .c (.ptr (rid 1 0) 1 0)), (2, .c (.nil 1)), (3, .i (flagsM m)), (4, .i (if m.op = 5 then (m.pr.length : Int) else m.an.length)), (5, .i (if m.op = 5 then (m.up.length : Int) else m.au.length))], obTab 1 [(rid 1 0, ⟨1, 0, .box (m.cells.map .d)⟩)], []⟩ ?_ (fun x hc => ?_))
  case refine_2 =>
    revert hc
    rcases hop with hop | hop
    · rw [hop]
      intro hc
      refine kSeq (kReg (kFadP rfl rfl (kLoadP rfl rfl rfl (kBin rfl rfl rfl (kDone (kCondP rfl (fun g0 => (by omega)) (fun g0 => kSkip (hc _ .normA))))))))
    · rw [hop]
      intro hc
      refine kSeq (kReg (kFadP rfl rfl (kLoadP rfl rfl rfl (kBin rfl rfl rfl (kDone (kCondP rfl (fun g0 => kSeq (kReg (kFadP rfl rfl (kLoadP rfl rfl rfl (kLenR rfl rfl (kMovC rfl (kDone (kReg (kFadP rfl rfl (kLoadP rfl rfl rfl (kLenR rfl rfl (kMovC rfl (kDone (hc _ .normA)))))))))))))) (fun g0 => (by omega))))))))
  have hA : 0 ≤ (if m.op = 5 then (m.pr.length : Int) else m.an.length) ∧ (if m.op = 5 then (m.pr.length : Int) else m.an.length) ≤ 12 := by split <;> omega
  have hB : 0 ≤ (if m.op = 5 then (m.up.length : Int) else m.au.length) ∧ (if m.op = 5 then (m.up.length : Int) else m.au.length) ≤ 12 := by split <;> omega
  generalize (if m.op = 5 then (m.pr.length : Int) else m.an.length) = A at *
  generalize (if m.op = 5 then (m.up.length : Int) else m.au.length) = B at *
  generalize flagsM m = F at *
  obtain ⟨hA1, hA2⟩ := hA
  obtain ⟨hB1, hB2⟩ := hB
  obtain ⟨hF1, hF2⟩ := hfl
  have hq0 : 0 < m.qs.length := by omega
  have hqd : m.qs.getD 0 ⟨[], 0⟩ = m.qs[0] := by simp [List.getD_eq_getElem?_getD, hq0]
  rw [hqd] at p6 p7 p8
  have hqs := b1.mem _ (List.getElem_mem hq0)
  have hqw := wireN_small p6
  refine kSeq (kCut ⟨tabSl [(1, .c (.ptr (rid 1 0) 1 0)), (2, .c (.nil 1)), (6, .c (.arr (rid 53 0) 1))], obTab 1 [(rid 1 0, ⟨1, 0, .box (m.cells.map .d)⟩), (rid 53 0, ⟨1, 0, .arr true (encB (w2 m.id ++ w2 F ++ w2 1 ++ w2 A ++ w2 B ++ w2 m.mo.length))⟩)], []⟩ ?_ (fun x hc => ?_))
  case refine_2 => refine kRegD (kFadP rfl rfl (kLoadP rfl rfl rfl (kMovC rfl (kMovC rfl (kMovC rfl (kFadP rfl rfl (kLoadP rfl rfl rfl (kLenR rfl rfl (kRelK rfl rfl (kCall1 true (ok_spec_Put16_nil _ (by first | assumption | omega | solve_by_elim [List.getElem_mem] | (simp only [List.length_append, w2_len, w4_len]; omega) | (simp only [szOut] at *; omega) | exact rfl | exact leb | exact rrOk_small (by assumption) | exact zoneOk_small (by assumption) | exact SmallBB.ok (by assumption) | exact (SmallBB.ok (by assumption)).len | exact (SmallBB.ok (by assumption)).mem | exact SmallBB.bent (by assumption)) (by first | assumption | omega | solve_by_elim [List.getElem_mem] | (simp only [List.length_append, w2_len, w4_len]; omega) | (simp only [szOut] at *; omega) | exact rfl | exact leb | exact rrOk_small (by assumption) | exact zoneOk_small (by assumption) | exact SmallBB.ok (by assumption) | exact (SmallBB.ok (by assumption)).len | exact (SmallBB.ok (by assumption)).mem | exact SmallBB.bent (by assumption))) ⟨rfl, rfl, trivial⟩ rfl rfl rfl (fun _ => (kRelK rfl rfl (kCall1 true (ok_spec_Put16 _ _ (by first | assumption | omega | solve_by_elim [List.getElem_mem] | (simp only [List.length_append, w2_len, w4_len]; omega) | (simp only [szOut] at *; omega) | exact rfl | exact leb | exact rrOk_small (by assumption) | exact zoneOk_small (by assumption) | exact SmallBB.ok (by assumption) | exact (SmallBB.ok (by assumption)).len | exact (SmallBB.ok (by assumption)).mem | exact SmallBB.bent (by assumption)) (by first | assumption | omega | solve_by_elim [List.getElem_mem] | (simp only [List.length_append, w2_len, w4_len]; omega) | (simp only [szOut] at *; omega) | exact rfl | exact leb | exact rrOk_small (by assumption) | exact zoneOk_small (by assumption) | exact SmallBB.ok (by assumption) | exact (SmallBB.ok (by assumption)).len | exact (SmallBB.ok (by assumption)).mem | exact SmallBB.bent (by assumption)) (by first | assumption | omega | solve_by_elim [List.getElem_mem] | (simp only [List.length_append, w2_len, w4_len]; omega) | (simp only [szOut] at *; omega) | exact rfl | exact leb | exact rrOk_small (by assumption) | exact zoneOk_small (by assumption) | exact SmallBB.ok (by assumption) | exact (SmallBB.ok (by assumption)).len | exact (SmallBB.ok (by assumption)).mem | exact SmallBB.bent (by assumption))) ⟨rfl, rfl, trivial⟩ rfl rfl rfl (fun _ => (kRelK rfl rfl (kCall1 true (ok_spec_Put16 _ _ (by first | assumption | omega | solve_by_elim [List.getElem_mem] | (simp only [List.length_append, w2_len, w4_len]; omega) | (simp only [szOut] at *; omega) | exact rfl | exact leb | exact rrOk_small (by assumption) | exact zoneOk_small (by assumption) | exact SmallBB.ok (by assumption) | exact (SmallBB.ok (by assumption)).len | exact (SmallBB.ok (by assumption)).mem | exact SmallBB.bent (by assumption)) (by first | assumption | omega | solve_by_elim [List.getElem_mem] | (simp only [List.length_append, w2_len, w4_len]; omega) | (simp only [szOut] at *; omega) | exact rfl | exact leb | exact rrOk_small (by assumption) | exact zoneOk_small (by assumption) | exact SmallBB.ok (by assumption) | exact (SmallBB.ok (by assumption)).len | exact (SmallBB.ok (by assumption)).mem | exact SmallBB.bent (by assumption)) (by first | assumption | omega | solve_by_elim [List.getElem_mem] | (simp only [List.length_append, w2_len, w4_len]; omega) | (simp only [szOut] at *; omega) | exact rfl | exact leb | exact rrOk_small (by assumption) | exact zoneOk_small (by assumption) | exact SmallBB.ok (by assumption) | exact (SmallBB.ok (by assumption)).len | exact (SmallBB.ok (by assumption)).mem | exact SmallBB.bent (by assumption))) ⟨rfl, rfl, trivial⟩ rfl rfl rfl (fun _ => (kRelK rfl rfl (kCall1 true (ok_spec_Put16 _ _ (by first | assumption | omega | solve_by_elim [List.getElem_mem] | (simp only [List.length_append, w2_len, w4_len]; omega) | (simp only [szOut] at *; omega) | exact rfl | exact leb | exact rrOk_small (by assumption) | exact zoneOk_small (by assumption) | exact SmallBB.ok (by assumption) | exact (SmallBB.ok (by assumption)).len | exact (SmallBB.ok (by assumption)).mem | exact SmallBB.bent (by assumption)) (by first | assumption | omega | solve_by_elim [List.getElem_mem] | (simp only [List.length_append, w2_len, w4_len]; omega) | (simp only [szOut] at *; omega) | exact rfl | exact leb | exact rrOk_small (by assumption) | exact zoneOk_small (by assumption) | exact SmallBB.ok (by assumption) | exact (SmallBB.ok (by assumption)).len | exact (SmallBB.ok (by assumption)).mem | exact SmallBB.bent (by assumption)) (by first | assumption | omega | solve_by_elim [List.getElem_mem] | (simp only [List.length_append, w2_len, w4_len]; omega) | (simp only [szOut] at *; omega) | exact rfl | exact leb | exact rrOk_small (by assumption) | exact zoneOk_small (by assumption) | exact SmallBB.ok (by assumption) | exact (SmallBB.ok (by assumption)).len | exact (SmallBB.ok (by assumption)).mem | exact SmallBB.bent (by assumption))) ⟨rfl, rfl, trivial⟩ rfl rfl rfl (fun _ => (kRelK rfl rfl (kCall1 true (ok_spec_Put16 _ _ (by first | assumption | omega | solve_by_elim [List.getElem_mem] | (simp only [List.length_append, w2_len, w4_len]; omega) | (simp only [szOut] at *; omega) | exact rfl | exact leb | exact rrOk_small (by assumption) | exact zoneOk_small (by assumption) | exact SmallBB.ok (by assumption) | exact (SmallBB.ok (by assumption)).len | exact (SmallBB.ok (by assumption)).mem | exact SmallBB.bent (by assumption)) (by first | assumption | omega | solve_by_elim [List.getElem_mem] | (simp only [List.length_append, w2_len, w4_len]; omega) | (simp only [szOut] at *; omega) | exact rfl | exact leb | exact rrOk_small (by assumption) | exact zoneOk_small (by assumption) | exact SmallBB.ok (by assumption) | exact (SmallBB.ok (by assumption)).len | exact (SmallBB.ok (by assumption)).mem | exact SmallBB.bent (by assumption)) (by first | assumption | omega | solve_by_elim [List.getElem_mem] | (simp only [List.length_append, w2_len, w4_len]; omega) | (simp only [szOut] at *; omega) | exact rfl | exact leb | exact rrOk_small (by assumption) | exact zoneOk_small (by assumption) | exact SmallBB.ok (by assumption) | exact (SmallBB.ok (by assumption)).len | exact (SmallBB.ok (by assumption)).mem | exact SmallBB.bent (by assumption))) ⟨rfl, rfl, trivial⟩ rfl rfl rfl (fun _ => (kRelF rfl rfl (kCall1 true (ok_spec_Put16 _ _ (by first | assumption | omega | solve_by_elim [List.getElem_mem] | (simp only [List.length_append, w2_len, w4_len]; omega) | (simp only [szOut] at *; omega) | exact rfl | exact leb | exact rrOk_small (by assumption) | exact zoneOk_small (by assumption) | exact SmallBB.ok (by assumption) | exact (SmallBB.ok (by assumption)).len | exact (SmallBB.ok (by assumption)).mem | exact SmallBB.bent (by assumption)) (by first | assumption | omega | solve_by_elim [List.getElem_mem] | (simp only [List.length_append, w2_len, w4_len]; omega) | (simp only [szOut] at *; omega) | exact rfl | exact leb | exact rrOk_small (by assumption) | exact zoneOk_small (by assumption) | exact SmallBB.ok (by assumption) | exact (SmallBB.ok (by assumption)).len | exact (SmallBB.ok (by assumption)).mem | exact SmallBB.bent (by assumption)) (by first | assumption | omega | solve_by_elim [List.getElem_mem] | (simp only [List.length_append, w2_len, w4_len]; omega) | (simp only [szOut] at *; omega) | exact rfl | exact leb | exact rrOk_small (by assumption) | exact zoneOk_small (by assumption) | exact SmallBB.ok (by assumption) | exact (SmallBB.ok (by assumption)).len | exact (SmallBB.ok (by assumption)).mem | exact SmallBB.bent (by assumption))) ⟨rfl, rfl, trivial⟩ rfl rfl rfl (fun _ => (kMovC rfl (kDone (kH (hc _ .normA))))))))))))))))))))))))))))))
  refine kSeq (kCut ⟨tabSl [(1, .c (.ptr (rid 1 0) 1 0)), (2, .c (.nil 1)), (6, .c (.arr (rid 67 0) 1))], obTab 1 [(rid 1 0, ⟨1, 0, .box (m.cells.map .d)⟩), (rid 67 0, ⟨1, 0, .arr true (encB (headB m F A B))⟩)], []⟩ ?_ (fun x hc => ?_))
  case refine_2 =>
    rw [show headB m F A B = w2 m.id ++ w2 F ++ w2 1 ++ w2 A ++ w2 B ++ w2 m.mo.length ++ wireN (m.qs[0]).name ++ w2 (m.qs[0]).ty ++ w2 1 by unfold headB; rw [hqd]] at hc
    refine kRegD (kMovC rfl (kFadP rfl rfl (kLoadP rfl rfl rfl (kIadR (m := 0) rfl rfl rfl (by first | omega | (simp only [List.length_append, List.length_cons, List.length_nil]; omega)) (kFadD rfl (kLoadD rfl rfl (kFadP rfl rfl (kLoadP rfl rfl rfl (kIadR (m := 0) rfl rfl rfl (by first | omega | (simp only [List.length_append, List.length_cons, List.length_nil]; omega)) (kFadD rfl (kLoadD rfl rfl (kRelK rfl rfl (kCall1 true (ok_spec_l2put _ _ (by first | assumption | omega | solve_by_elim [List.getElem_mem] | (simp only [List.length_append, w2_len, w4_len]; omega) | (simp only [szOut] at *; omega) | exact rfl | exact leb | exact rrOk_small (by assumption) | exact zoneOk_small (by assumption) | exact SmallBB.ok (by assumption) | exact (SmallBB.ok (by assumption)).len | exact (SmallBB.ok (by assumption)).mem | exact SmallBB.bent (by assumption)) (by first | assumption | omega | solve_by_elim [List.getElem_mem] | (simp only [List.length_append, w2_len, w4_len]; omega) | (simp only [szOut] at *; omega) | exact rfl | exact leb | exact rrOk_small (by assumption) | exact zoneOk_small (by assumption) | exact SmallBB.ok (by assumption) | exact (SmallBB.ok (by assumption)).len | exact (SmallBB.ok (by assumption)).mem | exact SmallBB.bent (by assumption))) ⟨⟨_, rfl, .inl rfl⟩, ⟨⟨rfl, trivial⟩, leb⟩, trivial⟩ rfl rfl rfl (fun _ => (kRelF rfl rfl (kCall1 true (ok_spec_Put16 _ _ (by first | assumption | omega | solve_by_elim [List.getElem_mem] | (simp only [List.length_append, w2_len, w4_len]; omega) | (simp only [szOut] at *; omega) | exact rfl | exact leb | exact rrOk_small (by assumption) | exact zoneOk_small (by assumption) | exact SmallBB.ok (by assumption) | exact (SmallBB.ok (by assumption)).len | exact (SmallBB.ok (by assumption)).mem | exact SmallBB.bent (by assumption)) (by first | assumption | omega | solve_by_elim [List.getElem_mem] | (simp only [List.length_append, w2_len, w4_len]; omega) | (simp only [szOut] at *; omega) | exact rfl | exact leb | exact rrOk_small (by assumption) | exact zoneOk_small (by assumption) | exact SmallBB.ok (by assumption) | exact (SmallBB.ok (by assumption)).len | exact (SmallBB.ok (by assumption)).mem | exact SmallBB.bent (by assumption)) (by first | assumption | omega | solve_by_elim [List.getElem_mem] | (simp only [List.length_append, w2_len, w4_len]; omega) | (simp only [szOut] at *; omega) | exact rfl | exact leb | exact rrOk_small (by assumption) | exact zoneOk_small (by assumption) | exact SmallBB.ok (by assumption) | exact (SmallBB.ok (by assumption)).len | exact (SmallBB.ok (by assumption)).mem | exact SmallBB.bent (by assumption))) ⟨rfl, rfl, trivial⟩ rfl rfl rfl (fun _ => (kRelF rfl rfl (kCall1 true (ok_spec_Put16 _ _ (by first | assumption | omega | solve_by_elim [List.getElem_mem] | (simp only [List.length_append, w2_len, w4_len]; omega) | (simp only [szOut] at *; omega) | exact rfl | exact leb | exact rrOk_small (by assumption) | exact zoneOk_small (by assumption) | exact SmallBB.ok (by assumption) | exact (SmallBB.ok (by assumption)).len | exact (SmallBB.ok (by assumption)).mem | exact SmallBB.bent (by assumption)) (by first | assumption | omega | solve_by_elim [List.getElem_mem] | (simp only [List.length_append, w2_len, w4_len]; omega) | (simp only [szOut] at *; omega) | exact rfl | exact leb | exact rrOk_small (by assumption) | exact zoneOk_small (by assumption) | exact SmallBB.ok (by assumption) | exact (SmallBB.ok (by assumption)).len | exact (SmallBB.ok (by assumption)).mem | exact SmallBB.bent (by assumption)) (by first | assumption | omega | solve_by_elim [List.getElem_mem] | (simp only [List.length_append, w2_len, w4_len]; omega) | (simp only [szOut] at *; omega) | exact rfl | exact leb | exact rrOk_small (by assumption) | exact zoneOk_small (by assumption) | exact SmallBB.ok (by assumption) | exact (SmallBB.ok (by assumption)).len | exact (SmallBB.ok (by assumption)).mem | exact SmallBB.bent (by assumption))) ⟨rfl, rfl, trivial⟩ rfl rfl rfl (fun _ => (kMovC rfl (kDone (kH (hc _ .normA))))))))))))))))))))))))
  have hH : (headB m F A B).length ≤ 200 := by rw [headB_len, hqd]; omega
  have hP := flatMap_le (f := wantB) (l := m.pr) (k := 307) fun w hw => wantB_small (p16 w hw)
  have hU := flatMap_le (f := wantB) (l := m.up) (k := 307) fun w hw => wantB_small (p18 w hw)
  have hP2 : (m.pr.flatMap wantB).length ≤ 12 * 307 := Nat.le_trans hP (Nat.mul_le_mul_right _ p15)
  have hU2 : (m.up.flatMap wantB).length ≤ 12 * 307 := Nat.le_trans hU (Nat.mul_le_mul_right _ p17)
  generalize hH1 : headB m F A B = H at *
  refine kSub (t := ⟨tabSl [(1, .c (.ptr (rid 1 0) 1 0)), (2, .c (.nil 1)), (6, .c (.arr (rid 5000 0) 1))], obTab 1 [(rid 1 0, ⟨1, 0, .box (m.cells.map .d)⟩), (rid 5000 0, ⟨1, 0, .arr true (encB (H))⟩)], []⟩) ((Sub.renSlot 6 (rid 67 0) (rid 5000 0) rfl rfl rfl rfl).trans .normA) ?_
  refine kSeq (kCut ⟨tabSl [(1, .c (.ptr (rid 1 0) 1 0)), (2, .c (.nil 1)), (6, .c (.arr (rid 5000 0) 1))], obTab 1 [(rid 1 0, ⟨1, 0, .box (m.cells.map .d)⟩), (rid 5000 0, ⟨1, 0, .arr true (encB (H ++ m.pr.flatMap wantB))⟩)], []⟩ ?_ (fun x hc => ?_))
  case refine_2 =>
    refine kSeq (kReg (kMovC rfl (kDone (kBlock ?_))))
    refine kLoop (α := { i : Nat // i ≤ m.pr.length }) (fun y => ⟨tabSl [(1, .c (.ptr (rid 1 0) 1 0)), (2, .c (.nil 1)), (6, .c (.arr (rid 5000 0) 1)), (7, .i y.1)], obTab 1 [(rid 1 0, ⟨1, 0, .box (m.cells.map .d)⟩), (rid 5000 0, ⟨1, 0, .arr true (encB (H ++ (m.pr.take y.1).flatMap wantB))⟩)], []⟩) (fun y => m.pr.length - y.1) ⟨0, by simp⟩ (by simp only [List.take_zero, List.flatMap_nil, List.append_nil]; exact .normA) ?_
    rintro ⟨i, hi⟩
    simp only
    have hle := flatMap_take_le wantB m.pr i
    have hL : (H ++ (m.pr.take i).flatMap wantB).length ≤ 5000 := by rw [List.length_append]; omega
    rcases Nat.lt_or_ge i m.pr.length with hlt | hge
    · have hw1 := b5.mem _ (List.getElem_mem hlt)
      have hw2 := p16 _ (List.getElem_mem hlt)
      have hst := flatMap_take wantB m.pr i hlt
      refine kSeq (kSeq (kReg (kMovC rfl (kFadP rfl rfl (kLoadP rfl rfl rfl (kLenR rfl rfl (kBin rfl rfl rfl (kDone (kCondP rfl (fun g0 => kSkip (kSeq (kBlock (kReg (kMovC rfl (kFadP rfl rfl (kLoadP rfl rfl rfl (kMovC rfl (kIadR rfl rfl rfl (by first | omega | (simp only [List.length_append, List.length_cons, List.length_nil]; omega)) (kLoadD rfl rfl (kCall1 true (ok_spec_l4want _ _ (by first | assumption | omega | solve_by_elim [List.getElem_mem] | (simp only [List.length_append, w2_len, w4_len]; omega) | (simp only [szOut] at *; omega) | exact rfl | exact leb | exact rrOk_small (by assumption) | exact zoneOk_small (by assumption) | exact SmallBB.ok (by assumption) | exact (SmallBB.ok (by assumption)).len | exact (SmallBB.ok (by assumption)).mem | exact SmallBB.bent (by assumption)) (by first | assumption | omega | solve_by_elim [List.getElem_mem] | (simp only [List.length_append, w2_len, w4_len]; omega) | (simp only [szOut] at *; omega) | exact rfl | exact leb | exact rrOk_small (by assumption) | exact zoneOk_small (by assumption) | exact SmallBB.ok (by assumption) | exact (SmallBB.ok (by assumption)).len | exact (SmallBB.ok (by assumption)).mem | exact SmallBB.bent (by assumption)) (by first | assumption | omega | solve_by_elim [List.getElem_mem] | (simp only [List.length_append, w2_len, w4_len]; omega) | (simp only [szOut] at *; omega) | exact rfl | exact leb | exact rrOk_small (by assumption) | exact zoneOk_small (by assumption) | exact SmallBB.ok (by assumption) | exact (SmallBB.ok (by assumption)).len | exact (SmallBB.ok (by assumption)).mem | exact SmallBB.bent (by assumption))) ⟨⟨_, rfl, .inl rfl⟩, ⟨⟨rfl, rfl, rfl, rfl, rfl, rfl, rfl, rfl, rfl, trivial⟩, leb⟩, trivial⟩ rfl rfl rfl (fun _ => (kMovC rfl (kDone (kBk (kReg (kMovC rfl (kAdd rfl rfl (by omega) (kMovC rfl (kDone ?_)))))))))))))))))))) (fun g0 => (by omega)))))))))))
      refine kInv ⟨⟨i + 1, hlt⟩, by simp only; omega, ?_⟩
      simp only [hst, ← List.append_assoc]
      exact (Sub.renSlot 6 (rid 81 0) (rid 5000 0) rfl rfl rfl rfl).trans .normA
    · refine kSeq (kSeq (kReg (kMovC rfl (kFadP rfl rfl (kLoadP rfl rfl rfl (kLenR rfl rfl (kBin rfl rfl rfl (kDone (kCondP rfl (fun g0 => (by omega)) (fun g0 => kExit (kExC (kExI (kExB ?_)))))))))))))
      refine hc _ ?_
      rw [show i = m.pr.length by omega, List.take_length]
      exact .normA
  have hHl : (H ++ m.pr.flatMap wantB).length ≤ 5000 := by rw [List.length_append]; omega
  generalize hH2 : H ++ m.pr.flatMap wantB = H2 at *
  refine kSeq (kCut ⟨tabSl [(1, .c (.ptr (rid 1 0) 1 0)), (2, .c (.nil 1)), (6, .c (.arr (rid 5000 0) 1))], obTab 1 [(rid 1 0, ⟨1, 0, .box (m.cells.map .d)⟩), (rid 5000 0, ⟨1, 0, .arr true (encB (H2 ++ m.up.flatMap wantB))⟩)], []⟩ ?_ (fun x hc => ?_))
  case refine_2 =>
    refine kSeq (kReg (kMovC rfl (kDone (kBlock ?_))))
    refine kLoop (α := { i : Nat // i ≤ m.up.length }) (fun y => ⟨tabSl [(1, .c (.ptr (rid 1 0) 1 0)), (2, .c (.nil 1)), (6, .c (.arr (rid 5000 0) 1)), (8, .i y.1)], obTab 1 [(rid 1 0, ⟨1, 0, .box (m.cells.map .d)⟩), (rid 5000 0, ⟨1, 0, .arr true (encB (H2 ++ (m.up.take y.1).flatMap wantB))⟩)], []⟩) (fun y => m.up.length - y.1) ⟨0, by simp⟩ (by simp only [List.take_zero, List.flatMap_nil, List.append_nil]; exact .normA) ?_
    rintro ⟨i, hi⟩
    simp only
    have hle := flatMap_take_le wantB m.up i
    have hL : (H2 ++ (m.up.take i).flatMap wantB).length ≤ 10000 := by rw [List.length_append]; omega
    rcases Nat.lt_or_ge i m.up.length with hlt | hge
    · have hw1 := b6.mem _ (List.getElem_mem hlt)
      have hw2 := p18 _ (List.getElem_mem hlt)
      have hst := flatMap_take wantB m.up i hlt
      refine kSeq (kSeq (kReg (kMovC rfl (kFadP rfl rfl (kLoadP rfl rfl rfl (kLenR rfl rfl (kBin rfl rfl rfl (kDone (kCondP rfl (fun g0 => kSkip (kSeq (kBlock (kReg (kMovC rfl (kFadP rfl rfl (kLoadP rfl rfl rfl (kMovC rfl (kIadR rfl rfl rfl (by first | omega | (simp only [List.length_append, List.length_cons, List.length_nil]; omega)) (kLoadD rfl rfl (kCall1 true (ok_spec_l4want _ _ (by first | assumption | omega | solve_by_elim [List.getElem_mem] | (simp only [List.length_append, w2_len, w4_len]; omega) | (simp only [szOut] at *; omega) | exact rfl | exact leb | exact rrOk_small (by assumption) | exact zoneOk_small (by assumption) | exact SmallBB.ok (by assumption) | exact (SmallBB.ok (by assumption)).len | exact (SmallBB.ok (by assumption)).mem | exact SmallBB.bent (by assumption)) (by first | assumption | omega | solve_by_elim [List.getElem_mem] | (simp only [List.length_append, w2_len, w4_len]; omega) | (simp only [szOut] at *; omega) | exact rfl | exact leb | exact rrOk_small (by assumption) | exact zoneOk_small (by assumption) | exact SmallBB.ok (by assumption) | exact (SmallBB.ok (by assumption)).len | exact (SmallBB.ok (by assumption)).mem | exact SmallBB.bent (by assumption)) (by first | assumption | omega | solve_by_elim [List.getElem_mem] | (simp only [List.length_append, w2_len, w4_len]; omega) | (simp only [szOut] at *; omega) | exact rfl | exact leb | exact rrOk_small (by assumption) | exact zoneOk_small (by assumption) | exact SmallBB.ok (by assumption) | exact (SmallBB.ok (by assumption)).len | exact (SmallBB.ok (by assumption)).mem | exact SmallBB.bent (by assumption))) ⟨⟨_, rfl, .inl rfl⟩, ⟨⟨rfl, rfl, rfl, rfl, rfl, rfl, rfl, rfl, rfl, trivial⟩, leb⟩, trivial⟩ rfl rfl rfl (fun _ => (kMovC rfl (kDone (kBk (kReg (kMovC rfl (kAdd rfl rfl (by omega) (kMovC rfl (kDone ?_)))))))))))))))))))) (fun g0 => (by omega)))))))))))
      refine kInv ⟨⟨i + 1, hlt⟩, by simp only; omega, ?_⟩
      simp only [hst, ← List.append_assoc]
      exact (Sub.renSlot 6 (rid 95 0) (rid 5000 0) rfl rfl rfl rfl).trans .normA
    · refine kSeq (kSeq (kReg (kMovC rfl (kFadP rfl rfl (kLoadP rfl rfl rfl (kLenR rfl rfl (kBin rfl rfl rfl (kDone (kCondP rfl (fun g0 => (by omega)) (fun g0 => kExit (kExC (kExI (kExB ?_)))))))))))))
      refine hc _ ?_
      rw [show i = m.up.length by omega, List.take_length]
      exact .normA
  have hHl3 : (H2 ++ m.up.flatMap wantB).length ≤ 10000 := by rw [List.length_append]; omega
  generalize hH3 : H2 ++ m.up.flatMap wantB = H3 at *
  refine kSeq (kRegD (kFadP rfl rfl (kLoadP rfl rfl rfl (kFadP rfl rfl (kLoadP rfl rfl rfl (kFadP rfl rfl (kLoadP rfl rfl rfl (kLitG rfl rfl rfl rfl (kRelK rfl rfl (kAppN rfl rfl rfl rfl rfl rfl rfl rfl (by first | omega | (simp only [List.length_append, List.length_cons, List.length_nil]; omega)) (kRelK rfl rfl ?_)))))))))))
  refine kAppR (l := m.an) (l' := m.au) (f := Rr.cells) rfl rfl rfl rfl rfl rfl rfl rfl (by omega) ?_
  refine kRelF rfl rfl ?_
  refine kAppR (l := m.an ++ m.au) (l' := m.mo) (f := Rr.cells) rfl rfl rfl rfl rfl rfl rfl rfl (by rw [List.length_append]; omega) ?_
  refine kMovC rfl (kDone (kH (kSeq (kSeq (kReg (kMovC rfl (kDone (kBlock ?_))))))))
  have hLa : ∀ r ∈ m.an ++ m.au ++ m.mo, rrOk r = true ∧ SmallR r := fun r hr => by
    rcases List.mem_append.1 hr with hr | hr
    · rcases List.mem_append.1 hr with hr | hr
      · exact ⟨p10 r hr, b2.mem r hr⟩
      · exact ⟨p12 r hr, b3.mem r hr⟩
    · exact ⟨p14 r hr, b4.mem r hr⟩
  have hLn : (m.an ++ m.au ++ m.mo).length ≤ 36 := by simp only [List.length_append]; omega
  have hM : msgB m F A B = H3 ++ (m.an ++ m.au ++ m.mo).flatMap fun r => rrB r 1 := by unfold msgB; rw [hH1, hH2, hH3]
  rw [hM]
  refine kLoop (α := { i : Nat // i ≤ (m.an ++ m.au ++ m.mo).length }) (fun y => ⟨tabSl [(1, .c (.ptr (rid 1 0) 1 0)), (2, .c (.nil 1)), (6, .c (.arr (rid 5000 0) 1)), (9, .dv (encR (m.an ++ m.au ++ m.mo))), (10, .i y.1)], obTab 1 [(rid 1 0, ⟨1, 0, .box (m.cells.map .d)⟩), (rid 5000 0, ⟨1, 0, .arr true (encB (H3 ++ ((m.an ++ m.au ++ m.mo).take y.1).flatMap fun r => rrB r 1))⟩)], []⟩) (fun y => (m.an ++ m.au ++ m.mo).length - y.1) ⟨0, by simp⟩ ((Sub.frz (j := 9) (id := rid 96 0) rfl rfl (by decide)).trans (by simp only [List.take_zero, List.flatMap_nil, List.append_nil]; exact .normA)) ?_
  clear hM
  generalize m.an ++ m.au ++ m.mo = L at *
  rintro ⟨i, hi⟩
  simp only
  have hR := flatMap_le (f := fun r => rrB r 1) (l := L) (k := 307) fun r hr => rrB_small (hLa r hr).1 1
  have hR2 : (L.flatMap fun r => rrB r 1).length ≤ 36 * 307 := Nat.le_trans hR (Nat.mul_le_mul_right _ hLn)
  have hle := flatMap_take_le (fun r => rrB r 1) L i
  have hL : (H3 ++ (L.take i).flatMap fun r => rrB r 1).length ≤ 30000 := by rw [List.length_append]; omega
  rcases Nat.lt_or_ge i L.length with hlt | hge
  · obtain ⟨hw1, hw2⟩ := hLa _ (List.getElem_mem hlt)
    have hst := flatMap_take (fun r => rrB r 1) L i hlt
    refine kSeq (kSeq (kReg (kMovC rfl (kMovC rfl (kLenR rfl rfl (kBin rfl rfl rfl (kDone (kCondP rfl (fun g0 => kSkip (kSeq (kBlock (kReg (kMovC rfl (kMovC rfl (kMovC rfl (kIadR rfl rfl rfl (by first | omega | (simp only [List.length_append, List.length_cons, List.length_nil]; omega)) (kLoadD rfl rfl (kCall1 true (ok_spec_l3rr _ _ _ (by first | assumption | omega | solve_by_elim [List.getElem_mem] | (simp only [List.length_append, w2_len, w4_len]; omega) | (simp only [szOut] at *; omega) | exact rfl | exact leb | exact rrOk_small (by assumption) | exact zoneOk_small (by assumption) | exact SmallBB.ok (by assumption) | exact (SmallBB.ok (by assumption)).len | exact (SmallBB.ok (by assumption)).mem | exact SmallBB.bent (by assumption)) (by first | assumption | omega | solve_by_elim [List.getElem_mem] | (simp only [List.length_append, w2_len, w4_len]; omega) | (simp only [szOut] at *; omega) | exact rfl | exact leb | exact rrOk_small (by assumption) | exact zoneOk_small (by assumption) | exact SmallBB.ok (by assumption) | exact (SmallBB.ok (by assumption)).len | exact (SmallBB.ok (by assumption)).mem | exact SmallBB.bent (by assumption)) (by first | assumption | omega | solve_by_elim [List.getElem_mem] | (simp only [List.length_append, w2_len, w4_len]; omega) | (simp only [szOut] at *; omega) | exact rfl | exact leb | exact rrOk_small (by assumption) | exact zoneOk_small (by assumption) | exact SmallBB.ok (by assumption) | exact (SmallBB.ok (by assumption)).len | exact (SmallBB.ok (by assumption)).mem | exact SmallBB.bent (by assumption)) (by first | assumption | omega | solve_by_elim [List.getElem_mem] | (simp only [List.length_append, w2_len, w4_len]; omega) | (simp only [szOut] at *; omega) | exact rfl | exact leb | exact rrOk_small (by assumption) | exact zoneOk_small (by assumption) | exact SmallBB.ok (by assumption) | exact (SmallBB.ok (by assumption)).len | exact (SmallBB.ok (by assumption)).mem | exact SmallBB.bent (by assumption)) (by first | assumption | omega | solve_by_elim [List.getElem_mem] | (simp only [List.length_append, w2_len, w4_len]; omega) | (simp only [szOut] at *; omega) | exact rfl | exact leb | exact rrOk_small (by assumption) | exact zoneOk_small (by assumption) | exact SmallBB.ok (by assumption) | exact (SmallBB.ok (by assumption)).len | exact (SmallBB.ok (by assumption)).mem | exact SmallBB.bent (by assumption))) ⟨⟨_, rfl, .inl rfl⟩, ⟨⟨rfl, rfl, rfl, rfl, rfl, rfl, rfl, trivial⟩, leb⟩, rfl, trivial⟩ rfl rfl rfl (fun _ => (kMovC rfl (kDone (kBk (kReg (kMovC rfl (kAdd rfl rfl (by omega) (kMovC rfl (kDone ?_))))))))))))))))))) (fun g0 => (by omega))))))))))
    refine kInv ⟨⟨i + 1, hlt⟩, by simp only; omega, ?_⟩
    simp only [hst, ← List.append_assoc]
    exact (Sub.renSlot 6 (rid 117 0) (rid 5000 0) rfl rfl rfl rfl).trans .normA
  · refine kSeq (kSeq (kReg (kMovC rfl (kMovC rfl (kLenR rfl rfl (kBin rfl rfl rfl (kDone (kCondP rfl (fun g0 => (by omega)) (fun g0 => kExit (kExC (kExI (kExB (kSeq (kReg (kMovC rfl (kMovC rfl (kDone (kRet (endRetA (ra := [.one (.own true _)]) rfl ?_)))))))))))))))))))
    rw [show i = L.length by omega, List.take_length]

def c_spec_MsgOk : C := (.seq (.reg false (.o 0 1 (.box 1 (.t 0)) (.o 1 2 (.mov (.v (.bool false))) .done))) (.seq (.reg false (.o 0 3 (.load (some 11) (.t 1)) (.o 1 4 (.call 4 245 [(.t 3)]) (.o 2 5 (.mov (.t 4)) (.op 3 [] (some 6) (some (5, true)) false (.load (some 11) (.t 1)) (.op 4 [] (some 7) (some (5, true)) false (.call 7 246 [(.t 6)]) (.op 5 [] (some 8) (some (5, true)) false (.len (.t 7)) (.op 6 [] (some 9) (some (5, true)) false (.bin .leq (.t 8) (.i 512)) (.o 7 10 (.pick (.t 5) (.t 9) (.v (.bool false))) (.o 8 2 (.mov (.t 10)) .done)))))))))) .ret))
theorem dg_spec_MsgOk : Tryz.f163.body.bind (digC Tryz.prog Tryz.f163.ntmps []) = some c_spec_MsgOk := by kernel_rfl
theorem rs_spec_MsgOk : resSlots Tryz.prog Tryz.f163 = some [.s 2] := by kernel_rfl
theorem ok_spec_MsgOk (m : Msg) (hs : SmallM m) :
    FnOK Tryz.prog 163 [.agg (m.cells.map .d)] (fun ra _ => ra = [.one (.d (.sc (.bool (msgOk m))))]) := by
  refine FnOK.ofK Tryz.func163 (by kernel_rfl) dg_spec_MsgOk rs_spec_MsgOk rfl rfl ?_
  delta c_spec_MsgOk T.o X.i
  cases hk : msgMay m
  · refine kSeq (kReg (kBox rfl rfl rfl rfl rfl (kMovC rfl (kDone (kSeq (kReg (kLoadP rfl rfl rfl (kCallD (ok_spec_l4may _ (by first | assumption | omega | solve_by_elim [List.getElem_mem] | (simp only [List.length_append, w2_len, w4_len]; omega) | (simp only [szOut] at *; omega) | exact rfl | exact leb | exact rrOk_small (by assumption) | exact zoneOk_small (by assumption) | exact SmallBB.ok (by assumption) | exact (SmallBB.ok (by assumption)).len | exact (SmallBB.ok (by assumption)).mem | exact SmallBB.bent (by assumption))) ⟨⟨⟨rfl, rfl, rfl, rfl, rfl, rfl, rfl, rfl, rfl, rfl, rfl, trivial⟩, leb⟩, trivial⟩ rfl rfl rfl rfl rfl (kMovC rfl (kGS rfl (fun g0 => (by (simp [*] at g0))) (fun g0 => kGF rfl (kGF rfl (kGF rfl (kGF rfl (kPickF rfl (kMovC rfl (kMovC rfl (kDone (kRet (endRetA (ra := [.one (.d _)]) rfl ?_))))))))))))))))))))
    rw [show msgOk m = false by unfold msgOk; rw [hk]; rfl]
  · refine kSeq (kReg (kBox rfl rfl rfl rfl rfl (kMovC rfl (kDone (kSeq (kReg (kLoadP rfl rfl rfl (kCallD (ok_spec_l4may _ (by first | assumption | omega | solve_by_elim [List.getElem_mem] | (simp only [List.length_append, w2_len, w4_len]; omega) | (simp only [szOut] at *; omega) | exact rfl | exact leb | exact rrOk_small (by assumption) | exact zoneOk_small (by assumption) | exact SmallBB.ok (by assumption) | exact (SmallBB.ok (by assumption)).len | exact (SmallBB.ok (by assumption)).mem | exact SmallBB.bent (by assumption))) ⟨⟨⟨rfl, rfl, rfl, rfl, rfl, rfl, rfl, rfl, rfl, rfl, rfl, trivial⟩, leb⟩, trivial⟩ rfl rfl rfl rfl rfl (kMovC rfl (kGS rfl (fun g0 => kGT rfl (kLoadP rfl rfl rfl (kGT rfl (kCall1 true (ok_spec_l4bytes _ (by first | assumption | omega | solve_by_elim [List.getElem_mem] | (simp only [List.length_append, w2_len, w4_len]; omega) | (simp only [szOut] at *; omega) | exact rfl | exact leb | exact rrOk_small (by assumption) | exact zoneOk_small (by assumption) | exact SmallBB.ok (by assumption) | exact (SmallBB.ok (by assumption)).len | exact (SmallBB.ok (by assumption)).mem | exact SmallBB.bent (by assumption)) (by first | assumption | omega | solve_by_elim [List.getElem_mem] | (simp only [List.length_append, w2_len, w4_len]; omega) | (simp only [szOut] at *; omega) | exact rfl | exact leb | exact rrOk_small (by assumption) | exact zoneOk_small (by assumption) | exact SmallBB.ok (by assumption) | exact (SmallBB.ok (by assumption)).len | exact (SmallBB.ok (by assumption)).mem | exact SmallBB.bent (by assumption))) ⟨⟨⟨rfl, rfl, rfl, rfl, rfl, rfl, rfl, rfl, rfl, rfl, rfl, trivial⟩, leb⟩, trivial⟩ rfl rfl rfl (fun _ => (kMem [(32768, ⟨1, 0, .arr true _⟩)] [(7, .c (.arr 32768 1)), (8, .c (.un)), (5, .c (.d _)), (9, .c (.un)), (10, .c (.un))] [] ⟨rfl, trivial⟩ ⟨rfl, rfl, rfl, rfl, rfl, trivial⟩ rfl (kGT rfl (kLenR rfl rfl (kGT rfl (kBin rfl rfl rfl (kPickT rfl (kMovC rfl (kMovC rfl (kDone (kRet (endRetA (ra := [.one (.d _)]) rfl ?_)))))))))))))))) (fun g0 => (by (simp [*] at g0)))))))))))))
    rw [msgB_len]
    rw [show msgOk m = decide (msgLen m ≤ 512) by unfold msgOk; rw [hk]; rfl]
    refine congrArg (fun z : Bool => [RA.one (RV.d (DV.sc (Value.bool z)))]) ?_
    rw [Bool.eq_iff_iff]
    simp
    omega

def c_spec_l2own : C := (.seq (.reg false (.o 0 1 (.box 1 (.t 0)) (.o 1 2 (.alloc 2 [(.n 1)]) .done))) (.seq (.reg false (.o 0 3 (.alloc 3 [(.n 1)]) .done)) (.seq (.seq (.reg false (.o 0 4 (.mov (.i 0)) .done)) (.block 0 (.loop (.seq (.seq (.reg false (.o 0 5 (.mov (.t 4)) (.o 1 6 (.fad (.t 1) 0) (.o 2 7 (.load none (.t 6)) (.o 3 8 (.len (.t 7)) (.o 4 9 (.bin .lss (.t 5) (.t 8)) .done)))))) (.cond (.t 9) .skip (.exit 0))) (.seq (.block 1 (.reg true (.op 0 [] (some 12) none true (.fad (.t 3) 0) (.op 1 [] (some 13) none true (.load none (.t 12)) (.op 3 [] (some 15) none true (.fad (.t 1) 0) (.op 4 [] (some 16) none true (.load none (.t 15)) (.op 5 [] (some 17) none true (.mov (.t 4)) (.op 6 [] (some 18) none true (.iad 1 (.t 16) (.t 17)) (.op 7 [] (some 19) none true (.load none (.t 18)) (.o 2 14 (.lit 14 1 [(.v (.int .u8 0))] 0 []) (.op 8 [7, 4] (some 20) none false (.app 20 1 1 (.t 14) (.t 19)) (.op 9 [7, 4] (some 21) none false (.lit 21 1 [(.n 1)] 1 [(0, 1, (.t 20))]) (.op 10 [1, 7, 4] (some 22) none false (.app 22 1 24 (.t 13) (.t 21)) (.op 11 [] (some 23) none true (.fad (.t 3) 0) (.op 12 [1, 4, 7] none none false (.store none (.t 23) (.t 22)) .done))))))))))))))) (.reg false (.o 0 10 (.mov (.t 4)) (.o 1 11 (.bin .add (.t 10) (.i 1)) (.o 2 4 (.mov (.t 11)) .done))))))))) (.seq (.reg false (.o 0 24 (.load (some 1) (.t 3)) (.op 1 [] none none false (.store (some 1) (.t 2) (.t 24)) .done))) .ret))))
theorem dg_spec_l2own : Tryz.f107.body.bind (digC Tryz.prog Tryz.f107.ntmps []) = some c_spec_l2own := by kernel_rfl
theorem rs_spec_l2own : resSlots Tryz.prog Tryz.f107 = some [.m 2 (some 1)] := by kernel_rfl
theorem ok_spec_l2own (a : List (List UInt8)) (ha : a.length ≤ 4194304) (hb : ∀ b ∈ a, b.length ≤ 4194304) :
    FnOK Tryz.prog 107 [.agg [.d (encBB a)]] (fun ra _ => ra = [.agg [.own true (encBB a)]]) := by
  refine FnOK.ofK Tryz.func107 (by kernel_rfl) dg_spec_l2own rs_spec_l2own rfl rfl ?_
  delta c_spec_l2own T.o X.i
  refine kSeq (kReg (kBox rfl rfl rfl rfl rfl (kAlloc rfl rfl (kDone (kSeq (kReg (kAlloc rfl rfl (kDone (kSeq (kSeq (kReg (kMovC rfl (kDone (kBlock ?_))))))))))))))
  refine kSub (Sub.nilBox (id := rid 3 0) (id2 := rid 5000 0) (j := 0) rfl rfl rfl (by decide) (by decide)) ?_
  refine kLoop (α := { i : Nat // i ≤ a.length })
    (fun y => ⟨tabSl [(1, .c (.ptr (rid 1 0) 1 0)), (2, .c (.ptr (rid 2 0) 1 0)), (3, .c (.ptr (rid 3 0) 1 0)), (4, .i y.1)],
      obTab 1 [(rid 1 0, ⟨1, 0, .box [.d (encBB a)]⟩), (rid 2 0, ⟨1, 0, .box [.nil 1]⟩), (rid 3 0, ⟨1, 0, .box [.arr (rid 5000 0) 1]⟩), (rid 5000 0, ⟨1, 0, .arr true (encBB (a.take y.1))⟩)], []⟩) (fun y => a.length - y.1) ⟨0, by simp⟩
    .normA ?_
  rintro ⟨i, hi⟩
  simp only
  have hlen : (a.take i).length = i := by simp; omega
  rcases Nat.lt_or_ge i a.length with hlt | hge
  · have hbi := hb _ (List.getElem_mem hlt)
    refine kSeq (kSeq (kReg (kMovC rfl (kFadP rfl rfl (kLoadP rfl rfl rfl (kLenR rfl rfl (kBin rfl rfl rfl (kDone (kCondP rfl (fun g0 => kSkip (kSeq (kBlock (kRegD (kFadP rfl rfl (kLoadP rfl rfl rfl (kFadP rfl rfl (kLoadP rfl rfl rfl (kMovC rfl (kIadR rfl rfl rfl (by omega) (kLoadD rfl rfl (kLit rfl rfl rfl rfl (kRelK rfl rfl (kAppN rfl rfl rfl (src_encB _ _) rfl rfl rfl rfl (by omega) (kRelK rfl rfl (kLit rfl rfl rfl rfl (kRelF rfl rfl (kAppR1 rfl rfl rfl rfl rfl rfl rfl rfl (by omega) (kFadP rfl rfl (kRelF rfl rfl (kStoreP rfl rfl rfl rfl (kDone (kH (kBk (kReg (kMovC rfl (kAdd rfl rfl (by omega) (kMovC rfl (kDone ?_))))))))))))))))))))))))))))) (fun g0 => (by omega)))))))))))
    exact kInv ⟨⟨i + 1, by omega⟩, by simp only; omega, .normA⟩
  · refine kSeq (kSeq (kReg (kMovC rfl (kFadP rfl rfl (kLoadP rfl rfl rfl (kLenR rfl rfl (kBin rfl rfl rfl (kDone (kCondP rfl (fun g0 => (by omega)) (fun g0 => kExit (kExC (kExI (kExB (kSeq (kReg (kLoadP rfl rfl rfl (kStoreP rfl rfl rfl rfl (kDone (kRet (endRetA (ra := [.agg [(.own true _)]]) rfl ?_))))))))))))))))))))
    rw [show i = a.length by omega, List.take_length]

def c_spec_l4reply : C := (.seq (.reg false (.o 0 2 (.box 2 (.t 0)) (.o 1 4 (.alloc 4 [(.i 0), (.v (.bool false)), (.i 0), (.v (.bool false)), (.i 0), (.n 2), (.n 7), (.n 7), (.n 7), (.n 9), (.n 9)]) .done))) (.seq (.reg true (.op 0 [] (some 5) none true (.fad (.t 2) 0) (.op 1 [] (some 6) none true (.load none (.t 5)) (.op 2 [] (some 7) none true (.fad (.t 2) 2) (.op 3 [] (some 8) none true (.load none (.t 7)) (.op 4 [] (some 9) none true (.mov (.t 1)) (.op 5 [] (some 10) none true (.fad (.t 2) 5) (.op 6 [] (some 11) none true (.load none (.t 10)) (.op 7 [] (some 12) none true (.iad 2 (.t 11) (.i 0)) (.op 8 [] (some 13) none true (.fad (.t 12) 0) (.op 9 [] (some 14) none true (.load (some 1) (.t 13)) (.op 11 [] (some 16) none true (.fad (.t 2) 5) (.op 12 [] (some 17) none true (.load none (.t 16)) (.op 13 [] (some 18) none true (.iad 2 (.t 17) (.i 0)) (.op 14 [] (some 19) none true (.fad (.t 18) 1) (.op 15 [] (some 20) none true (.load none (.t 19)) (.op 10 [9, 6] (some 15) none false (.call 15 107 [(.t 14)]) (.op 16 [] (some 21) none true (.build [(.n 1), (.i 0)] [(0, 1, (.t 15)), (1, 1, (.t 20))]) (.op 17 [9, 6, 15, 12] (some 22) none false (.lit 22 2 [(.n 1), (.i 0)] 1 [(0, 2, (.t 21))]) (.op 18 [] (some 23) none true (.build [(.i 0), (.v (.bool false)), (.i 0), (.v (.bool false)), (.i 0), (.n 2), (.n 7), (.n 7), (.n 7), (.n 9), (.n 9)] [(0, 1, (.t 6)), (1, 1, (.v (.bool true))), (2, 1, (.t 8)), (4, 1, (.t 9)), (5, 1, (.t 22))]) (.op 19 [1, 3, 9, 15, 6, 12] none none false (.store (some 11) (.t 4) (.t 23)) .done))))))))))))))))))))) .ret))
theorem dg_spec_l4reply : Tryz.f164.body.bind (digC Tryz.prog Tryz.f164.ntmps []) = some c_spec_l4reply := by kernel_rfl
theorem rs_spec_l4reply : resSlots Tryz.prog Tryz.f164 = some [.m 4 (some 11)] := by kernel_rfl
theorem ok_spec_l4reply (m : Msg) (c : Int) (hs : SmallM m) (hq : m.qs.length = 1) :
    FnOK Tryz.prog 164 [.agg (m.cells.map .d), .one (.d (.sc (.int .i64 c)))] (fun ra _ => ra = [.agg [.d (.sc (.int .i64 m.id)), .d (.sc (.bool true)), .d (.sc (.int .i64 m.op)), .d (.sc (.bool false)), .d (.sc (.int .i64 c)), .own true (encQ [m.qs.getD 0 ⟨[], 0⟩]), .own true (encR []), .own true (encR []), .own true (encR []), .own true (encW []), .own true (encW [])]]) := by
  refine FnOK.ofK Tryz.func164 (by kernel_rfl) dg_spec_l4reply rs_spec_l4reply rfl rfl ?_
  delta c_spec_l4reply T.o X.i
  have b1 := hs.q
  have hq0 : 0 < m.qs.length := by omega
  have hqd : m.qs.getD 0 ⟨[], 0⟩ = m.qs[0] := by simp [List.getD_eq_getElem?_getD, hq0]
  have hqs := b1.mem _ (List.getElem_mem hq0)
  have q1 := hqs.len
  have q2 := hqs.mem
  have q3 := hqs.flat
  rw [hqd]
  refine kSeq (kReg (kBox rfl rfl rfl rfl rfl (kAlloc rfl rfl (kDone (kSeq (kRegD (kFadP rfl rfl (kLoadP rfl rfl rfl (kFadP rfl rfl (kLoadP rfl rfl rfl (kMovC rfl (kFadP rfl rfl (kLoadP rfl rfl rfl (kIadR (m := 0) rfl rfl rfl (by first | omega | (simp only [List.length_append, List.length_cons, List.length_nil]; omega)) (kFadD rfl (kLoadD rfl rfl (kFadP rfl rfl (kLoadP rfl rfl rfl (kIadR (m := 0) rfl rfl rfl (by first | omega | (simp only [List.length_append, List.length_cons, List.length_nil]; omega)) (kFadD rfl (kLoadD rfl rfl (kRelK rfl rfl (kCall1 true (ok_spec_l2own _ (by first | assumption | omega | solve_by_elim [List.getElem_mem] | (simp only [List.length_append, w2_len, w4_len]; omega) | (simp only [szOut] at *; omega) | exact rfl | exact leb | exact rrOk_small (by assumption) | exact zoneOk_small (by assumption) | exact SmallBB.ok (by assumption) | exact (SmallBB.ok (by assumption)).len | exact (SmallBB.ok (by assumption)).mem | exact SmallBB.bent (by assumption)) (by first | assumption | omega | solve_by_elim [List.getElem_mem] | (simp only [List.length_append, w2_len, w4_len]; omega) | (simp only [szOut] at *; omega) | exact rfl | exact leb | exact rrOk_small (by assumption) | exact zoneOk_small (by assumption) | exact SmallBB.ok (by assumption) | exact (SmallBB.ok (by assumption)).len | exact (SmallBB.ok (by assumption)).mem | exact SmallBB.bent (by assumption))) ⟨⟨⟨rfl, trivial⟩, leb⟩, trivial⟩ rfl rfl rfl (fun _ => (kBuildG rfl (kRelK rfl rfl (kLitG rfl rfl rfl rfl (kBuildG rfl (kRelF rfl rfl (kStoreP rfl rfl rfl rfl (kDone (kH (kRet (endRetA (ra := [.agg [(.d _), (.d _), (.d _), (.d _), (.d _), (.own true _), (.own true _), (.own true _), (.own true _), (.own true _), (.own true _)]]) rfl rfl))))))))))))))))))))))))))))))))))

def c_spec_ReplyTo : C := (.seq (.reg false (.o 0 2 (.box 2 (.t 0)) (.o 1 4 (.alloc 4 [(.i 0), (.v (.bool false)), (.i 0), (.v (.bool false)), (.i 0), (.n 2), (.n 7), (.n 7), (.n 7), (.n 9), (.n 9)]) .done))) (.seq (.seq (.reg false (.o 0 5 (.load (some 11) (.t 2)) (.o 1 6 (.call 6 163 [(.t 5)]) (.o 2 7 (.un .not (.t 6)) (.o 3 8 (.mov (.t 7)) (.op 4 [] (some 9) (some (8, false)) false (.mov (.t 1)) (.op 5 [] (some 10) (some (8, false)) false (.bin .lss (.t 9) (.i 0)) (.o 6 11 (.pick (.t 8) (.v (.bool true)) (.t 10)) (.o 7 12 (.mov (.t 11)) (.op 8 [] (some 13) (some (12, false)) false (.mov (.t 1)) (.op 9 [] (some 14) (some (12, false)) false (.bin .gtr (.t 13) (.i 10)) (.o 10 15 (.pick (.t 12) (.v (.bool true)) (.t 14)) .done)))))))))))) (.cond (.t 15) (.seq (.reg false (.o 0 16 (.build [(.i 0), (.v (.bool false)), (.i 0), (.v (.bool false)), (.i 0), (.n 2), (.n 7), (.n 7), (.n 7), (.n 9), (.n 9)] []) (.op 1 [] none none false (.store (some 11) (.t 4) (.t 16)) .done))) .ret) .skip)) (.seq (.reg false (.o 0 17 (.load (some 11) (.t 2)) (.o 1 18 (.mov (.t 1)) (.o 2 19 (.call 19 164 [(.t 17), (.t 18)]) (.op 3 [] none none false (.store (some 11) (.t 4) (.t 19)) .done))))) .ret)))
theorem dg_spec_ReplyTo : Tryz.f65.body.bind (digC Tryz.prog Tryz.f65.ntmps []) = some c_spec_ReplyTo := by kernel_rfl
theorem rs_spec_ReplyTo : resSlots Tryz.prog Tryz.f65 = some [.m 4 (some 11)] := by kernel_rfl
theorem ok_spec_ReplyTo (m : Msg) (c : Int) (hs : SmallM m) :
    FnOK Tryz.prog 65 [.agg (m.cells.map .d), .one (.d (.sc (.int .i64 c)))] (fun ra _ => ra = [.agg [.d (.sc (.int .i64 (replyM m c).id)), .d (.sc (.bool (replyM m c).reply)), .d (.sc (.int .i64 (replyM m c).op)), .d (.sc (.bool false)), .d (.sc (.int .i64 (replyM m c).code)), .own true (encQ (replyM m c).qs), .own true (encR []), .own true (encR []), .own true (encR []), .own true (encW []), .own true (encW [])]]) := by
  refine FnOK.ofK Tryz.func65 (by kernel_rfl) dg_spec_ReplyTo rs_spec_ReplyTo rfl rfl ?_
  delta c_spec_ReplyTo T.o X.i
  have hz : replyOk m c = false → replyM m c = ⟨0, false, 0, false, 0, [], [], [], [], [], []⟩ := fun h => by unfold replyM; rw [h]; rfl
  have hy : replyOk m c = true → replyM m c = ⟨m.id, true, m.op, false, c, [m.qs.getD 0 ⟨[], 0⟩], [], [], [], [], []⟩ := fun h => by unfold replyM; rw [h]; rfl
  cases hk : msgOk m
  · refine kSeq (kReg (kBox rfl rfl rfl rfl rfl (kAlloc rfl rfl (kDone (kSeq (kSeq (kReg (kLoadP rfl rfl rfl (kCallD (ok_spec_MsgOk _ (by first | assumption | omega | solve_by_elim [List.getElem_mem] | (simp only [List.length_append, w2_len, w4_len]; omega) | (simp only [szOut] at *; omega) | exact rfl | exact leb | exact rrOk_small (by assumption) | exact zoneOk_small (by assumption) | exact SmallBB.ok (by assumption) | exact (SmallBB.ok (by assumption)).len | exact (SmallBB.ok (by assumption)).mem | exact SmallBB.bent (by assumption))) ⟨⟨⟨rfl, rfl, rfl, rfl, rfl, rfl, rfl, rfl, rfl, rfl, rfl, trivial⟩, leb⟩, trivial⟩ rfl rfl rfl rfl rfl (kUn rfl rfl (kMovC rfl (kGN rfl (fun g0 => kGF rfl (kGF rfl (kPickT rfl (kMovC rfl (kMovC rfl (kGF rfl (kGF rfl (kPickT rfl (kMovC rfl (kDone (kCondT rfl (kSeq (kReg (kBuildG rfl (kStoreP rfl rfl rfl rfl (kDone (kRet (endRetA (ra := [.agg [(.d _), (.d _), (.d _), (.d _), (.d _), (.own true _), (.own true _), (.own true _), (.own true _), (.own true _), (.own true _)]]) rfl ?_)))))))))))))))))) (fun g0 => (by (simp [*] at g0)))))))))))))))
    rw [hz (by unfold replyOk; rw [hk]; rfl)]
    rfl
  · have hq := msgOk_q hk
    refine kSeq (kReg (kBox rfl rfl rfl rfl rfl (kAlloc rfl rfl (kDone (kSeq (kSeq (kReg (kLoadP rfl rfl rfl (kCallD (ok_spec_MsgOk _ (by first | assumption | omega | solve_by_elim [List.getElem_mem] | (simp only [List.length_append, w2_len, w4_len]; omega) | (simp only [szOut] at *; omega) | exact rfl | exact leb | exact rrOk_small (by assumption) | exact zoneOk_small (by assumption) | exact SmallBB.ok (by assumption) | exact (SmallBB.ok (by assumption)).len | exact (SmallBB.ok (by assumption)).mem | exact SmallBB.bent (by assumption))) ⟨⟨⟨rfl, rfl, rfl, rfl, rfl, rfl, rfl, rfl, rfl, rfl, rfl, trivial⟩, leb⟩, trivial⟩ rfl rfl rfl rfl rfl (kUn rfl rfl (kMovC rfl (kGN rfl (fun g0 => (by (simp [*] at g0))) (fun g0 => kGT rfl (kMovC rfl (kGT rfl (kBin rfl rfl rfl (kPickF rfl (kMovC rfl (kMovC rfl (kGP rfl (fun g1 => kGF rfl (kGF rfl (kPickT rfl (kMovC rfl (kDone (kCondT rfl (kSeq (kReg (kBuildG rfl (kStoreP rfl rfl rfl rfl (kDone (kRet (endRetA (ra := [.agg [(.d _), (.d _), (.d _), (.d _), (.d _), (.own true _), (.own true _), (.own true _), (.own true _), (.own true _), (.own true _)]]) rfl ?_))))))))))))) (fun g1 => kGT rfl (kMovC rfl (kGT rfl (kBin rfl rfl rfl (kPickF rfl (kMovC rfl (kDone (kCondP rfl (fun g2 => kSeq (kReg (kBuildG rfl (kStoreP rfl rfl rfl rfl (kDone (kRet (endRetA (ra := [.agg [(.d _), (.d _), (.d _), (.d _), (.d _), (.own true _), (.own true _), (.own true _), (.own true _), (.own true _), (.own true _)]]) rfl ?_))))))) (fun g2 => kSkip (kSeq (kReg (kLoadP rfl rfl rfl (kMovC rfl (kCall1 true (ok_spec_l4reply _ _ (by first | assumption | omega | solve_by_elim [List.getElem_mem] | (simp only [List.length_append, w2_len, w4_len]; omega) | (simp only [szOut] at *; omega) | exact rfl | exact leb | exact rrOk_small (by assumption) | exact zoneOk_small (by assumption) | exact SmallBB.ok (by assumption) | exact (SmallBB.ok (by assumption)).len | exact (SmallBB.ok (by assumption)).mem | exact SmallBB.bent (by assumption)) (by first | assumption | omega | solve_by_elim [List.getElem_mem] | (simp only [List.length_append, w2_len, w4_len]; omega) | (simp only [szOut] at *; omega) | exact rfl | exact leb | exact rrOk_small (by assumption) | exact zoneOk_small (by assumption) | exact SmallBB.ok (by assumption) | exact (SmallBB.ok (by assumption)).len | exact (SmallBB.ok (by assumption)).mem | exact SmallBB.bent (by assumption))) ⟨⟨⟨rfl, rfl, rfl, rfl, rfl, rfl, rfl, rfl, rfl, rfl, rfl, trivial⟩, leb⟩, rfl, trivial⟩ rfl rfl rfl (fun _ => (kStoreP rfl rfl rfl rfl (kDone (kRet (endRetA (ra := [.agg [(.d _), (.d _), (.d _), (.d _), (.d _), (.own true _), (.own true _), (.own true _), (.own true _), (.own true _), (.own true _)]]) rfl ?_)))))))))))))))))))))))))))))))))))))))
    all_goals first
      | (rw [hz (by unfold replyOk; rw [hk]; simp <;> omega)] <;> rfl)
      | (rw [hy (by unfold replyOk; rw [hk]; simp <;> omega)] <;> rfl)

def c_laws_toByteS : C := (.seq (.reg false (.o 0 2 (.mov (.n 1)) .done)) (.seq (.reg false (.o 0 5 (.mov (.t 0)) (.o 1 6 (.len (.t 5)) (.o 2 7 (.mk 7 1 [(.v (.int .u8 0))] 1 (.t 6)) (.o 3 3 (.mov (.t 7)) .done))))) (.seq (.seq (.reg false (.o 0 4 (.mov (.i 0)) .done)) (.block 0 (.loop (.seq (.seq (.reg false (.o 0 8 (.mov (.t 4)) (.o 1 9 (.mov (.t 0)) (.o 2 10 (.len (.t 9)) (.o 3 11 (.bin .lss (.t 8) (.t 10)) .done))))) (.cond (.t 11) .skip (.exit 0))) (.seq (.block 1 (.reg false (.o 0 14 (.mov (.t 3)) (.o 1 15 (.mov (.t 4)) (.o 2 16 (.mov (.t 0)) (.o 3 17 (.mov (.t 4)) (.o 4 18 (.iad 1 (.t 16) (.t 17)) (.o 5 19 (.load none (.t 18)) (.o 6 20 (.iad 1 (.t 14) (.t 15)) (.op 7 [] none none false (.store none (.t 20) (.t 19)) .done)))))))))) (.reg false (.o 0 12 (.mov (.t 4)) (.o 1 13 (.bin .add (.t 12) (.i 1)) (.o 2 4 (.mov (.t 13)) .done))))))))) (.seq (.reg false (.o 0 21 (.mov (.t 3)) (.o 1 2 (.mov (.t 21)) .done))) .ret))))
theorem dg_laws_toByteS : Tryz.f240.body.bind (digC Tryz.prog Tryz.f240.ntmps []) = some c_laws_toByteS := by kernel_rfl
theorem rs_laws_toByteS : resSlots Tryz.prog Tryz.f240 = some [.s 2] := by kernel_rfl
theorem ok_laws_toByteS (a : List UInt8) (ha : a.length ≤ 4194304) :
    FnOK Tryz.prog 240 [.one (.d (encB a))] (fun ra _ => ra = [.one (.own true (encB a))]) := by
  refine FnOK.ofK Tryz.func240 (by kernel_rfl) dg_laws_toByteS rs_laws_toByteS rfl rfl ?_
  delta c_laws_toByteS T.o X.i
  refine kSeq (kReg (kMovC rfl (kDone ?_)))
  refine kSeq (kReg (kMovC rfl (kLen rfl rfl rfl ?_)))
  rw [len_encB]
  refine kMk rfl (by omega) rfl rfl rfl rfl rfl (kMovC rfl (kDone ?_))
  rw [show (Int.toNat (a.length : Int)) = a.length from rfl, encB_zeros]
  refine kSeq (kSeq (kReg (kMovC rfl (kDone (kBlock ?_)))))
  refine kLoop (α := { i : Nat // i ≤ a.length })
    (fun y => ⟨tabSl [(0, .dv (encB a)), (3, .c (.arr (rid 7 0) 1)), (4, .i y.1)], upd (St.init [.one (.d (encB a))]).ob (rid 7 0) ⟨1, y.1, .arr true (encB (a.take y.1 ++ (List.replicate a.length 0).drop y.1))⟩, []⟩) (fun y => a.length - y.1) ⟨0, by simp⟩
    (.tab rfl ⟨.refl _, .refl _, .refl _, trivial⟩) ?_
  rintro ⟨i, hi⟩
  simp only
  refine kSeq (kSeq (kReg ?_))
  refine kMovC rfl (kMovC rfl (kLen rfl rfl rfl (kBin rfl rfl rfl (kDone ?_))))
  rw [len_encB]
  have hl1 : (a.take i).length = i := by simp; omega
  refine kCond rfl (fun h1 => ?_) (fun h1 => ?_)
  · have hlt : i < a.length := by simp at h1; omega
    refine kSkip (kSeq (kBlock (kReg ?_)))
    refine kMovC rfl (kMovC rfl (kMovC rfl (kMovC rfl (kIadD rfl rfl rfl rfl ?_ ?_))))
    · rw [len_encB]; omega
    rw [row_encB' a i hlt]
    refine kLoadD rfl rfl (kIadA rfl rfl rfl rfl ?_ ?_)
    · rw [len_encB]; simp; omega
    refine kStoreE1 rfl rfl rfl rfl (by simp [encB, DV.esz]) (kDone (kBk ?_))
    rw [setRow_encB' _ _ _ (by simp; omega)]
    refine kReg (kMovC rfl (kAdd rfl rfl ?_ (kMovC rfl (kDone (kInv ?_)))))
    · omega
    refine ⟨⟨i + 1, hlt⟩, by simp only; omega, .tab ?_ ⟨.refl _, .refl _, .refl _, trivial⟩⟩
    refine Eq.trans ?_ (upd_upd _ _ _ _).symm
    refine congrArg (upd _ _) ?_
    show _ = Ob.mk _ _ (OK.arr _ (encB ((a.take i ++ (List.replicate a.length 0).drop i).set i a[i])))
    rw [take_set_succ _ _ _ _ (by simpa using hlt) hl1, List.take_append_getElem]
    rfl
  · refine kExit (kExC (kExI (kExB ?_)))
    have hge : i = a.length := by simp at h1; omega
    subst hge
    refine kSeq (kReg (kMovC rfl (kMovC rfl (kDone (kRet ?_)))))
    refine endRet (ra := [.one (.own true _)]) rfl ⟨⟨⟨⟨_, rfl, fun _ => rfl⟩, .inl Nat.zero_lt_one⟩, trivial⟩, nodupB_sound rfl, trivial, trivial⟩ ?_
    simp

def c_laws_toByteSS : C := (.seq (.reg false (.o 0 2 (.mov (.n 1)) .done)) (.seq (.reg false (.o 0 5 (.mov (.t 0)) (.o 1 6 (.len (.t 5)) (.o 2 7 (.mk 7 1 [(.n 1)] 24 (.t 6)) (.o 3 3 (.mov (.t 7)) .done))))) (.seq (.seq (.reg false (.o 0 4 (.mov (.i 0)) .done)) (.block 0 (.loop (.seq (.seq (.reg false (.o 0 8 (.mov (.t 4)) (.o 1 9 (.mov (.t 0)) (.o 2 10 (.len (.t 9)) (.o 3 11 (.bin .lss (.t 8) (.t 10)) .done))))) (.cond (.t 11) .skip (.exit 0))) (.seq (.block 1 (.reg false (.o 0 14 (.mov (.t 3)) (.o 1 15 (.mov (.t 4)) (.o 2 16 (.mov (.t 0)) (.o 3 17 (.mov (.t 4)) (.o 4 18 (.iad 1 (.t 16) (.t 17)) (.o 5 19 (.load none (.t 18)) (.o 6 20 (.call 20 240 [(.t 19)]) (.o 7 21 (.iad 1 (.t 14) (.t 15)) (.op 8 [] none none false (.store none (.t 21) (.t 20)) .done))))))))))) (.reg false (.o 0 12 (.mov (.t 4)) (.o 1 13 (.bin .add (.t 12) (.i 1)) (.o 2 4 (.mov (.t 13)) .done))))))))) (.seq (.reg false (.o 0 22 (.mov (.t 3)) (.o 1 2 (.mov (.t 22)) .done))) .ret))))
theorem dg_laws_toByteSS : Tryz.f154.body.bind (digC Tryz.prog Tryz.f154.ntmps []) = some c_laws_toByteSS := by kernel_rfl
theorem rs_laws_toByteSS : resSlots Tryz.prog Tryz.f154 = some [.s 2] := by kernel_rfl
theorem ok_laws_toByteSS (a : List (List UInt8)) (ha : a.length ≤ 4194304) (hb : ∀ b ∈ a, b.length ≤ 4194304) :
    FnOK Tryz.prog 154 [.one (.d (encBB a))] (fun ra _ => ra = [.one (.own true (encBB a))]) := by
  refine FnOK.ofK Tryz.func154 (by kernel_rfl) dg_laws_toByteSS rs_laws_toByteSS rfl rfl ?_
  delta c_laws_toByteSS T.o X.i
  refine kSeq (kReg (kMovC rfl (kDone ?_)))
  refine kSeq (kReg (kMovC rfl (kLen rfl rfl rfl ?_)))
  rw [len_encBB]
  refine kMk rfl (by omega) rfl rfl rfl rfl rfl (kMovC rfl (kDone ?_))
  rw [show (Int.toNat (a.length : Int)) = a.length from rfl, encBB_zeros]
  refine kSeq (kSeq (kReg (kMovC rfl (kDone (kBlock ?_)))))
  refine kLoop (α := { p : Nat × Nat // p.1 ≤ a.length ∧ 1 ≤ p.2 })
    (fun y => ⟨tabSl [(0, .dv (encBB a)), (3, .c (.arr (rid 7 0) 1)), (4, .i y.1.1)], obTab y.1.2 [(rid 7 0, ⟨1, y.1.1, .arr true (encBB (a.take y.1.1 ++ (List.replicate a.length []).drop y.1.1))⟩)], []⟩) (fun y => a.length - y.1.1) ⟨(0, 2), by simp⟩
    (.canon (V := 1) (.set (VB.mono (.init _) (by omega)) (by simp)) (by simp) rfl ⟨.refl _, .refl _, .refl _, trivial⟩ ⟨rfl, trivial⟩) ?_
  rintro ⟨⟨i, V⟩, hi, hV⟩
  simp only at hi hV ⊢
  refine kSeq (kSeq (kReg ?_))
  refine kMovC rfl (kMovC rfl (kLen rfl rfl rfl (kBin rfl rfl rfl (kDone ?_))))
  rw [len_encBB]
  have hl1 : (a.take i).length = i := by simp; omega
  refine kCond rfl (fun h1 => ?_) (fun h1 => ?_)
  · have hlt : i < a.length := by simp at h1; omega
    refine kSkip (kSeq (kBlock (kReg ?_)))
    refine kMovC rfl (kMovC rfl (kMovC rfl (kMovC rfl (kIadD rfl rfl rfl rfl ?_ ?_))))
    · rw [len_encBB]; omega
    rw [show (encBB a).row (i : Int).toNat = [encB a[i]] from row_encBB a i hlt]
    refine kLoadD rfl rfl ?_
    refine kCall1 false (ok_laws_toByteS a[i] (hb _ (List.getElem_mem hlt))) ⟨rfl, trivial⟩ rfl rfl rfl fun os => ?_
    refine kIadA rfl rfl rfl rfl ?_ ?_
    · rw [len_encBB]; simp; omega
    refine kStoreEA rfl rfl rfl rfl rfl Nat.zero_lt_one (by simp [encBB, DV.esz]) (kDone (kBk ?_))
    rw [setRow_encBB _ _ _ (by simp; omega)]
    refine kReg (kMovC rfl (kAdd rfl rfl (by omega) (kMovC rfl (kDone (kInv ?_)))))
    refine ⟨⟨(i + 1, V + 3), hlt, by simp only; omega⟩, by simp only; omega, .canon (V := V + 2) (.set (.kill (.after (.tab ?_))) ?_) (by simp) rfl ⟨.refl _, .refl _, .refl _, trivial⟩ ⟨?_, trivial⟩⟩
    · simpa using hV
    · simp only; omega
    · show Ob.mk _ _ (OK.arr _ (encBB ((a.take i ++ (List.replicate a.length []).drop i).set i a[i]))) = _
      rw [take_set_succ _ _ _ _ (by simpa using hlt) hl1, List.take_append_getElem]
      rfl
  · refine kExit (kExC (kExI (kExB ?_)))
    have hge : i = a.length := by simp at h1; omega
    subst hge
    refine kSeq (kReg (kMovC rfl (kMovC rfl (kDone (kRet ?_)))))
    refine endRet (ra := [.one (.own true _)]) rfl ⟨⟨⟨⟨_, rfl, fun _ => rfl⟩, .inl Nat.zero_lt_one⟩, trivial⟩, nodupB_sound rfl, trivial, trivial⟩ ?_
    simp

def c_laws_toName : C := (.seq (.reg false (.o 0 1 (.box 1 (.t 0)) (.o 1 2 (.alloc 2 [(.n 1)]) .done))) (.seq (.reg false (.o 0 3 (.alloc 3 [(.n 1)]) .done)) (.seq (.reg false (.o 0 4 (.fad (.t 1) 0) (.o 1 5 (.load none (.t 4)) (.o 2 6 (.call 6 154 [(.t 5)]) (.o 3 7 (.fad (.t 3) 0) (.op 4 [] none none false (.store none (.t 7) (.t 6)) .done)))))) (.seq (.reg false (.o 0 8 (.load (some 1) (.t 3)) (.op 1 [] none none false (.store (some 1) (.t 2) (.t 8)) .done))) .ret))))
theorem dg_laws_toName : Tryz.f57.body.bind (digC Tryz.prog Tryz.f57.ntmps []) = some c_laws_toName := by kernel_rfl
theorem rs_laws_toName : resSlots Tryz.prog Tryz.f57 = some [.m 2 (some 1)] := by kernel_rfl
theorem ok_laws_toName (a : List (List UInt8)) (ha : a.length ≤ 4194304) (hb : ∀ b ∈ a, b.length ≤ 4194304) :
    FnOK Tryz.prog 57 [.agg [.d (encBB a)]] (fun ra _ => ra = [.agg [.own true (encBB a)]]) := by
  refine FnOK.ofK Tryz.func57 (by kernel_rfl) dg_laws_toName rs_laws_toName rfl rfl ?_
  delta c_laws_toName T.o X.i
  refine kSeq (kReg (kBox rfl rfl rfl rfl rfl (kAlloc rfl rfl (kDone ?_))))
  refine kSeq (kReg (kAlloc rfl rfl (kDone ?_)))
  refine kSeq (kReg (kFadP rfl rfl (kLoadP rfl rfl rfl ?_)))
  refine kCall1 false (ok_laws_toByteSS a ha hb) ⟨rfl, trivial⟩ rfl rfl rfl fun os => ?_
  refine kFadP rfl rfl (kStoreP rfl rfl rfl rfl (kDone ?_))
  refine kSeq (kReg (kLoadP rfl rfl rfl (kStoreP rfl rfl rfl rfl (kDone (kRet ?_)))))
  refine endRet (ra := [.agg [.own true _]]) rfl ⟨⟨⟨⟨⟨⟨_, rfl, fun _ => rfl⟩, .inl Nat.zero_lt_one⟩, trivial⟩, leb⟩, trivial⟩, nodupB_sound rfl, ⟨trivial, trivial⟩, trivial⟩ rfl

def c_laws_toQuestion : C := (.seq (.reg false (.o 0 1 (.box 1 (.t 0)) (.o 1 2 (.alloc 2 [(.n 1), (.i 0)]) .done))) (.seq (.reg false (.o 0 3 (.alloc 3 [(.n 1), (.i 0)]) .done)) (.seq (.reg false (.o 0 4 (.fad (.t 1) 0) (.o 1 5 (.load (some 1) (.t 4)) (.o 2 6 (.call 6 57 [(.t 5)]) (.o 3 7 (.fad (.t 3) 0) (.op 4 [] none none false (.store (some 1) (.t 7) (.t 6)) .done)))))) (.seq (.reg false (.o 0 8 (.fad (.t 1) 1) (.o 1 9 (.load none (.t 8)) (.o 2 10 (.fad (.t 3) 1) (.op 3 [] none none false (.store none (.t 10) (.t 9)) .done))))) (.seq (.reg false (.o 0 11 (.load (some 2) (.t 3)) (.op 1 [] none none false (.store (some 2) (.t 2) (.t 11)) .done))) .ret)))))
theorem dg_laws_toQuestion : Tryz.f121.body.bind (digC Tryz.prog Tryz.f121.ntmps []) = some c_laws_toQuestion := by kernel_rfl
theorem rs_laws_toQuestion : resSlots Tryz.prog Tryz.f121 = some [.m 2 (some 2)] := by kernel_rfl
theorem ok_laws_toQuestion (a : List (List UInt8)) (t : Int) (ha : a.length ≤ 4194304) (hb : ∀ b ∈ a, b.length ≤ 4194304) :
    FnOK Tryz.prog 121 [.agg [.d (encBB a), .d (.sc (.int .i64 t))]] (fun ra _ => ra = [.agg [.own true (encBB a), .d (.sc (.int .i64 t))]]) := by
  refine FnOK.ofK Tryz.func121 (by kernel_rfl) dg_laws_toQuestion rs_laws_toQuestion rfl rfl ?_
  delta c_laws_toQuestion T.o X.i
  refine kSeq (kReg (kBox rfl rfl rfl rfl rfl (kAlloc rfl rfl (kDone (kSeq (kReg (kAlloc rfl rfl (kDone (kSeq (kReg (kFadP rfl rfl (kLoadP rfl rfl rfl (kCall1 true (ok_laws_toName _ pr pr) ⟨⟨⟨rfl, trivial⟩, leb⟩, trivial⟩ rfl rfl rfl (fun _ => (kFadP rfl rfl (kStoreP rfl rfl rfl rfl (kDone (kSeq (kReg (kFadP rfl rfl (kLoadP rfl rfl rfl (kFadP rfl rfl (kStoreP rfl rfl rfl rfl (kDone (kSeq (kReg (kLoadP rfl rfl rfl (kStoreP rfl rfl rfl rfl (kDone (kRet (endRetA (ra := [.agg [(.own true _), (.d _)]]) rfl rfl)))))))))))))))))))))))))))))))

def c_laws_toQuestionS : C := (.seq (.reg false (.o 0 2 (.mov (.n 2)) .done)) (.seq (.reg false (.o 0 5 (.mov (.t 0)) (.o 1 6 (.len (.t 5)) (.o 2 7 (.mk 7 2 [(.n 1), (.i 0)] 32 (.t 6)) (.o 3 3 (.mov (.t 7)) .done))))) (.seq (.seq (.reg false (.o 0 4 (.mov (.i 0)) .done)) (.block 0 (.loop (.seq (.seq (.reg false (.o 0 8 (.mov (.t 4)) (.o 1 9 (.mov (.t 0)) (.o 2 10 (.len (.t 9)) (.o 3 11 (.bin .lss (.t 8) (.t 10)) .done))))) (.cond (.t 11) .skip (.exit 0))) (.seq (.block 1 (.reg false (.o 0 14 (.mov (.t 3)) (.o 1 15 (.mov (.t 4)) (.o 2 16 (.mov (.t 0)) (.o 3 17 (.mov (.t 4)) (.o 4 18 (.iad 2 (.t 16) (.t 17)) (.o 5 19 (.load (some 2) (.t 18)) (.o 6 20 (.call 20 121 [(.t 19)]) (.o 7 21 (.iad 2 (.t 14) (.t 15)) (.op 8 [] none none false (.store (some 2) (.t 21) (.t 20)) .done))))))))))) (.reg false (.o 0 12 (.mov (.t 4)) (.o 1 13 (.bin .add (.t 12) (.i 1)) (.o 2 4 (.mov (.t 13)) .done))))))))) (.seq (.reg false (.o 0 22 (.mov (.t 3)) (.o 1 2 (.mov (.t 22)) .done))) .ret))))
theorem dg_laws_toQuestionS : Tryz.f165.body.bind (digC Tryz.prog Tryz.f165.ntmps []) = some c_laws_toQuestionS := by kernel_rfl
theorem rs_laws_toQuestionS : resSlots Tryz.prog Tryz.f165 = some [.s 2] := by kernel_rfl
theorem ok_laws_toQuestionS (a : List (Qn)) (hs : SmallQs a) :
    FnOK Tryz.prog 165 [.one (.d (encQ a))] (fun ra _ => ra = [.one (.own true (encQ a))]) := by
  refine FnOK.ofK Tryz.func165 (by kernel_rfl) dg_laws_toQuestionS rs_laws_toQuestionS rfl rfl ?_
  delta c_laws_toQuestionS T.o X.i
  have ha := hs.len
  refine kSeq (kReg (kMovC rfl (kDone (kSeq (kReg (kMovC rfl (kLenR rfl rfl ?_)))))))
  refine kMk rfl (by omega) rfl rfl rfl rfl rfl ?_
  rw [show DV.sl 2 (List.replicate (Int.toNat (a.length : Int)) [.sl 1 [], .sc (.int .i64 0)]) = encQ (List.replicate a.length ⟨[], 0⟩) by simp [encQ, Qn.cells, encBB, encB, encR, encI]]
  refine kMovC rfl (kDone (kSeq (kSeq (kReg (kMovC rfl (kDone (kBlock ?_)))))))
  refine kLoop (α := { i : Nat // i ≤ a.length })
    (fun y => ⟨tabSl [(0, .dv (encQ a)), (3, .c (.arr (rid 7 0) 1)), (4, .i y.1)], obTab 1 [(rid 7 0, ⟨1, 0, .arr true (encQ (a.take y.1 ++ (List.replicate a.length ⟨[], 0⟩).drop y.1))⟩)], []⟩) (fun y => a.length - y.1) ⟨0, by simp⟩
    .normA ?_
  rintro ⟨i, hi⟩
  simp only
  have hl1 : (a.take i).length = i := by simp; omega
  have hl2 : (a.take i ++ (List.replicate a.length (⟨[], 0⟩ : Qn)).drop i).length = a.length := by simp; omega
  rcases Nat.lt_or_ge i a.length with hlt | hge
  · have hbi := hs.mem _ (List.getElem_mem hlt)
    have q1 := hbi.len
    have q2 := hbi.mem
    refine kSeq (kSeq (kReg (kMovC rfl (kMovC rfl (kLenR rfl rfl (kBin rfl rfl rfl (kDone (kCondP rfl (fun g0 => kSkip (kSeq (kBlock (kReg (kMovC rfl (kMovC rfl (kMovC rfl (kMovC rfl (kIadR rfl rfl rfl (by first | omega | (simp only [List.length_append, List.length_cons, List.length_nil]; omega)) (kLoadD rfl rfl (kCall1 true (ok_laws_toQuestion _ _ (by first | assumption | omega | solve_by_elim [List.getElem_mem] | (simp only [szOut] at *; omega) | exact rfl | exact leb | exact rrOk_small (by assumption) | exact zoneOk_small (by assumption) | exact SmallBB.ok (by assumption) | exact (SmallBB.ok (by assumption)).len | exact (SmallBB.ok (by assumption)).mem | exact SmallBB.bent (by assumption)) (by first | assumption | omega | solve_by_elim [List.getElem_mem] | (simp only [szOut] at *; omega) | exact rfl | exact leb | exact rrOk_small (by assumption) | exact zoneOk_small (by assumption) | exact SmallBB.ok (by assumption) | exact (SmallBB.ok (by assumption)).len | exact (SmallBB.ok (by assumption)).mem | exact SmallBB.bent (by assumption))) ⟨⟨⟨rfl, rfl, trivial⟩, leb⟩, trivial⟩ rfl rfl rfl (fun _ => (kMem [(32768, ⟨1, 0, .arr true _⟩), (86016, ⟨2, 0, .arr true _⟩)] [(14, .c (.arr 32768 1)), (15, .c (.d _)), (20, .g [.arr 86016 2, .d _])] [] ⟨rfl, rfl, trivial⟩ ⟨rfl, rfl, rfl, trivial⟩ rfl (kIadAR rfl rfl rfl rfl (by first | omega | (simp only [List.length_append, List.length_cons, List.length_nil]; omega)) (kMem [(86016, ⟨2, 0, .arr true _⟩)] [(20, .g [.arr 86016 2, .d _])] [] ⟨rfl, trivial⟩ ⟨rfl, trivial⟩ rfl (kStoreER rfl rfl rfl rfl rfl rfl rfl (by omega) rfl (kDone (kBk (kReg (kMovC rfl (kAdd rfl rfl (by omega) (kMovC rfl (kDone ?_))))))))))))))))))))))) (fun g0 => (by omega))))))))))
    exact kInv ⟨⟨i + 1, by omega⟩, by simp only; omega, .normA⟩
  · refine kSeq (kSeq (kReg (kMovC rfl (kMovC rfl (kLenR rfl rfl (kBin rfl rfl rfl (kDone (kCondP rfl (fun g0 => (by omega)) (fun g0 => kExit (kExC (kExI (kExB (kSeq (kReg (kMovC rfl (kMovC rfl (kDone (kMem [(32768, ⟨1, 0, .arr true _⟩)] [(2, .c (.arr 32768 1))] [] ⟨rfl, trivial⟩ ⟨rfl, trivial⟩ rfl (kRet (endRetA (ra := [.one (.own true _)]) rfl ?_))))))))))))))))))))
    rw [show i = a.length by omega]
    simp

def c_laws_toIntS : C := (.seq (.reg false (.o 0 2 (.mov (.n 1)) .done)) (.seq (.reg false (.o 0 5 (.mov (.t 0)) (.o 1 6 (.len (.t 5)) (.o 2 7 (.mk 7 1 [(.i 0)] 8 (.t 6)) (.o 3 3 (.mov (.t 7)) .done))))) (.seq (.seq (.reg false (.o 0 4 (.mov (.i 0)) .done)) (.block 0 (.loop (.seq (.seq (.reg false (.o 0 8 (.mov (.t 4)) (.o 1 9 (.mov (.t 0)) (.o 2 10 (.len (.t 9)) (.o 3 11 (.bin .lss (.t 8) (.t 10)) .done))))) (.cond (.t 11) .skip (.exit 0))) (.seq (.block 1 (.reg false (.o 0 14 (.mov (.t 3)) (.o 1 15 (.mov (.t 4)) (.o 2 16 (.mov (.t 0)) (.o 3 17 (.mov (.t 4)) (.o 4 18 (.iad 1 (.t 16) (.t 17)) (.o 5 19 (.load none (.t 18)) (.o 6 20 (.iad 1 (.t 14) (.t 15)) (.op 7 [] none none false (.store none (.t 20) (.t 19)) .done)))))))))) (.reg false (.o 0 12 (.mov (.t 4)) (.o 1 13 (.bin .add (.t 12) (.i 1)) (.o 2 4 (.mov (.t 13)) .done))))))))) (.seq (.reg false (.o 0 21 (.mov (.t 3)) (.o 1 2 (.mov (.t 21)) .done))) .ret))))
theorem dg_laws_toIntS : Tryz.f122.body.bind (digC Tryz.prog Tryz.f122.ntmps []) = some c_laws_toIntS := by kernel_rfl
theorem rs_laws_toIntS : resSlots Tryz.prog Tryz.f122 = some [.s 2] := by kernel_rfl
theorem ok_laws_toIntS (a : List Int) (ha : a.length ≤ 4194304) :
    FnOK Tryz.prog 122 [.one (.d (encI a))] (fun ra _ => ra = [.one (.own true (encI a))]) := by
  refine FnOK.ofK Tryz.func122 (by kernel_rfl) dg_laws_toIntS rs_laws_toIntS rfl rfl ?_
  delta c_laws_toIntS T.o X.i
  refine kSeq (kReg (kMovC rfl (kDone (kSeq (kReg (kMovC rfl (kLenR rfl rfl ?_)))))))
  refine kMk rfl (by omega) rfl rfl rfl rfl rfl ?_
  rw [show DV.sl 1 (List.replicate (Int.toNat (a.length : Int)) [.sc (.int .i64 0)]) = encI (List.replicate a.length 0) by simp [encI]]
  refine kMovC rfl (kDone (kSeq (kSeq (kReg (kMovC rfl (kDone (kBlock ?_)))))))
  refine kLoop (α := { i : Nat // i ≤ a.length })
    (fun y => ⟨tabSl [(0, .dv (encI a)), (3, .c (.arr (rid 7 0) 1)), (4, .i y.1)], obTab 1 [(rid 7 0, ⟨1, 0, .arr true (encI (a.take y.1 ++ (List.replicate a.length 0).drop y.1))⟩)], []⟩) (fun y => a.length - y.1) ⟨0, by simp⟩
    .normA ?_
  rintro ⟨i, hi⟩
  simp only
  have hl1 : (a.take i).length = i := by simp; omega
  have hl2 : (a.take i ++ (List.replicate a.length 0).drop i).length = a.length := by simp; omega
  rcases Nat.lt_or_ge i a.length with hlt | hge
  · refine kSeq (kSeq (kReg (kMovC rfl (kMovC rfl (kLenR rfl rfl (kBin rfl rfl rfl (kDone (kCondP rfl (fun g0 => kSkip (kSeq (kBlock (kReg (kMovC rfl (kMovC rfl (kMovC rfl (kMovC rfl (kIadR rfl rfl rfl (by omega) (kLoadD rfl rfl (kIadAR rfl rfl rfl rfl (by omega) (kStoreER rfl rfl rfl rfl rfl rfl rfl (by omega) rfl (kDone (kBk (kReg (kMovC rfl (kAdd rfl rfl (by omega) (kMovC rfl (kDone ?_))))))))))))))))))) (fun g0 => (by omega))))))))))
    exact kInv ⟨⟨i + 1, by omega⟩, by simp only; omega, .normA⟩
  · refine kSeq (kSeq (kReg (kMovC rfl (kMovC rfl (kLenR rfl rfl (kBin rfl rfl rfl (kDone (kCondP rfl (fun g0 => (by omega)) (fun g0 => kExit (kExC (kExI (kExB (kSeq (kReg (kMovC rfl (kMovC rfl (kDone (kRet (endRetA (ra := [.one (.own true _)]) rfl ?_)))))))))))))))))))
    rw [show i = a.length by omega]
    simp

def c_laws_toRr : C := (.seq (.reg false (.o 0 1 (.box 1 (.t 0)) (.o 1 2 (.alloc 2 [(.n 1), (.i 0), (.i 0), (.i 0), (.n 1), (.n 1), (.n 1)]) .done))) (.seq (.reg false (.o 0 3 (.alloc 3 [(.n 1), (.i 0), (.i 0), (.i 0), (.n 1), (.n 1), (.n 1)]) .done)) (.seq (.reg false (.o 0 4 (.fad (.t 1) 0) (.o 1 5 (.load (some 1) (.t 4)) (.o 2 6 (.call 6 57 [(.t 5)]) (.o 3 7 (.fad (.t 3) 0) (.op 4 [] none none false (.store (some 1) (.t 7) (.t 6)) .done)))))) (.seq (.reg false (.o 0 8 (.fad (.t 1) 1) (.o 1 9 (.load none (.t 8)) (.o 2 10 (.fad (.t 3) 1) (.op 3 [] none none false (.store none (.t 10) (.t 9)) .done))))) (.seq (.reg false (.o 0 11 (.fad (.t 1) 2) (.o 1 12 (.load none (.t 11)) (.o 2 13 (.fad (.t 3) 2) (.op 3 [] none none false (.store none (.t 13) (.t 12)) .done))))) (.seq (.reg false (.o 0 14 (.fad (.t 1) 3) (.o 1 15 (.load none (.t 14)) (.o 2 16 (.fad (.t 3) 3) (.op 3 [] none none false (.store none (.t 16) (.t 15)) .done))))) (.seq (.reg false (.o 0 17 (.fad (.t 1) 4) (.o 1 18 (.load (some 1) (.t 17)) (.o 2 19 (.call 19 57 [(.t 18)]) (.o 3 20 (.fad (.t 3) 4) (.op 4 [] none none false (.store (some 1) (.t 20) (.t 19)) .done)))))) (.seq (.reg false (.o 0 21 (.fad (.t 1) 5) (.o 1 22 (.load none (.t 21)) (.o 2 23 (.call 23 240 [(.t 22)]) (.o 3 24 (.fad (.t 3) 5) (.op 4 [] none none false (.store none (.t 24) (.t 23)) .done)))))) (.seq (.reg false (.o 0 25 (.fad (.t 1) 6) (.o 1 26 (.load none (.t 25)) (.o 2 27 (.call 27 122 [(.t 26)]) (.o 3 28 (.fad (.t 3) 6) (.op 4 [] none none false (.store none (.t 28) (.t 27)) .done)))))) (.seq (.reg false (.o 0 29 (.load (some 7) (.t 3)) (.op 1 [] none none false (.store (some 7) (.t 2) (.t 29)) .done))) .ret))))))))))
theorem dg_laws_toRr : Tryz.f230.body.bind (digC Tryz.prog Tryz.f230.ntmps []) = some c_laws_toRr := by kernel_rfl
theorem rs_laws_toRr : resSlots Tryz.prog Tryz.f230 = some [.m 2 (some 7)] := by kernel_rfl
theorem ok_laws_toRr (a : Rr) (hs : SmallR a) :
    FnOK Tryz.prog 230 [.agg (a.cells.map .d)] (fun ra _ => ra = [.agg [.own true (encBB a.name), .d (.sc (.int .i64 a.ty)), .d (.sc (.int .i64 a.ttl)), .d (.sc (.int .i64 a.addr)), .own true (encBB a.to), .own true (encB a.text), .own true (encI a.nums)]]) := by
  refine FnOK.ofK Tryz.func230 (by kernel_rfl) dg_laws_toRr rs_laws_toRr rfl rfl ?_
  delta c_laws_toRr T.o X.i
  have n1 := hs.n.len
  have n2 := hs.n.mem
  have t1 := hs.t.len
  have t2 := hs.t.mem
  have x1 := hs.x
  have m1 := hs.m
  refine kSeq (kCut ⟨tabSl [(1, .c (.ptr (rid 1 0) 1 0)), (2, .c (.ptr (rid 2 0) 1 0))], obTab 1 [(rid 1 0, ⟨1, 0, .box (a.cells.map .d)⟩), (rid 2 0, ⟨1, 0, .box [.nil 1, .d (.sc (.int .i64 0)), .d (.sc (.int .i64 0)), .d (.sc (.int .i64 0)), .nil 1, .nil 1, .nil 1]⟩)], []⟩ ?_ (fun x hc => ?_))
  case refine_2 => refine kReg (kBox rfl rfl rfl rfl rfl (kAlloc rfl rfl (kDone (hc _ .normA))))
  refine kSeq (kCut ⟨tabSl [(1, .c (.ptr (rid 1 0) 1 0)), (2, .c (.ptr (rid 2 0) 1 0)), (3, .c (.ptr (rid 3 0) 1 0))], obTab 1 ([(rid 1 0, ⟨1, 0, .box (a.cells.map .d)⟩), (rid 2 0, ⟨1, 0, .box [.nil 1, .d (.sc (.int .i64 0)), .d (.sc (.int .i64 0)), .d (.sc (.int .i64 0)), .nil 1, .nil 1, .nil 1]⟩), (rid 3 0, ⟨1, 0, .box [.nil 1, .d (.sc (.int .i64 0)), .d (.sc (.int .i64 0)), .d (.sc (.int .i64 0)), .nil 1, .nil 1, .nil 1]⟩)]), []⟩ ?_ (fun x hc => ?_))
  case refine_2 => refine kReg (kAlloc rfl rfl (kDone (hc _ .normA)))
  refine kSeq (kCut ⟨tabSl [(1, .c (.ptr (rid 1 0) 1 0)), (2, .c (.ptr (rid 2 0) 1 0)), (3, .c (.ptr (rid 3 0) 1 0))], obTab 1 ([(rid 1 0, ⟨1, 0, .box (a.cells.map .d)⟩), (rid 2 0, ⟨1, 0, .box [.nil 1, .d (.sc (.int .i64 0)), .d (.sc (.int .i64 0)), .d (.sc (.int .i64 0)), .nil 1, .nil 1, .nil 1]⟩), (rid 3 0, ⟨1, 0, .box [.arr (rid 6 0) 1, .d (.sc (.int .i64 0)), .d (.sc (.int .i64 0)), .d (.sc (.int .i64 0)), .nil 1, .nil 1, .nil 1]⟩), (rid 6 0, ⟨1, 0, .arr true (encBB a.name)⟩)]), []⟩ ?_ (fun x hc => ?_))
  case refine_2 => refine kReg (kFadP rfl rfl (kLoadP rfl rfl rfl (kCall1 true (ok_laws_toName _ pr pr) ⟨⟨⟨rfl, trivial⟩, leb⟩, trivial⟩ rfl rfl rfl (fun _ => (kFadP rfl rfl (kStoreP rfl rfl rfl rfl (kDone (hc _ .normA))))))))
  refine kSeq (kCut ⟨tabSl [(1, .c (.ptr (rid 1 0) 1 0)), (2, .c (.ptr (rid 2 0) 1 0)), (3, .c (.ptr (rid 3 0) 1 0))], obTab 1 ([(rid 1 0, ⟨1, 0, .box (a.cells.map .d)⟩), (rid 2 0, ⟨1, 0, .box [.nil 1, .d (.sc (.int .i64 0)), .d (.sc (.int .i64 0)), .d (.sc (.int .i64 0)), .nil 1, .nil 1, .nil 1]⟩), (rid 3 0, ⟨1, 0, .box [.arr (rid 6 0) 1, .d (.sc (.int .i64 a.ty)), .d (.sc (.int .i64 0)), .d (.sc (.int .i64 0)), .nil 1, .nil 1, .nil 1]⟩), (rid 6 0, ⟨1, 0, .arr true (encBB a.name)⟩)]), []⟩ ?_ (fun x hc => ?_))
  case refine_2 => refine kReg (kFadP rfl rfl (kLoadP rfl rfl rfl (kFadP rfl rfl (kStoreP rfl rfl rfl rfl (kDone (hc _ .normA))))))
  refine kSeq (kCut ⟨tabSl [(1, .c (.ptr (rid 1 0) 1 0)), (2, .c (.ptr (rid 2 0) 1 0)), (3, .c (.ptr (rid 3 0) 1 0))], obTab 1 ([(rid 1 0, ⟨1, 0, .box (a.cells.map .d)⟩), (rid 2 0, ⟨1, 0, .box [.nil 1, .d (.sc (.int .i64 0)), .d (.sc (.int .i64 0)), .d (.sc (.int .i64 0)), .nil 1, .nil 1, .nil 1]⟩), (rid 3 0, ⟨1, 0, .box [.arr (rid 6 0) 1, .d (.sc (.int .i64 a.ty)), .d (.sc (.int .i64 a.ttl)), .d (.sc (.int .i64 0)), .nil 1, .nil 1, .nil 1]⟩), (rid 6 0, ⟨1, 0, .arr true (encBB a.name)⟩)]), []⟩ ?_ (fun x hc => ?_))
  case refine_2 => refine kReg (kFadP rfl rfl (kLoadP rfl rfl rfl (kFadP rfl rfl (kStoreP rfl rfl rfl rfl (kDone (hc _ .normA))))))
  refine kSeq (kCut ⟨tabSl [(1, .c (.ptr (rid 1 0) 1 0)), (2, .c (.ptr (rid 2 0) 1 0)), (3, .c (.ptr (rid 3 0) 1 0))], obTab 1 ([(rid 1 0, ⟨1, 0, .box (a.cells.map .d)⟩), (rid 2 0, ⟨1, 0, .box [.nil 1, .d (.sc (.int .i64 0)), .d (.sc (.int .i64 0)), .d (.sc (.int .i64 0)), .nil 1, .nil 1, .nil 1]⟩), (rid 3 0, ⟨1, 0, .box [.arr (rid 6 0) 1, .d (.sc (.int .i64 a.ty)), .d (.sc (.int .i64 a.ttl)), .d (.sc (.int .i64 a.addr)), .nil 1, .nil 1, .nil 1]⟩), (rid 6 0, ⟨1, 0, .arr true (encBB a.name)⟩)]), []⟩ ?_ (fun x hc => ?_))
  case refine_2 => refine kReg (kFadP rfl rfl (kLoadP rfl rfl rfl (kFadP rfl rfl (kStoreP rfl rfl rfl rfl (kDone (hc _ .normA))))))
  refine kSeq (kCut ⟨tabSl [(1, .c (.ptr (rid 1 0) 1 0)), (2, .c (.ptr (rid 2 0) 1 0)), (3, .c (.ptr (rid 3 0) 1 0))], obTab 1 ([(rid 1 0, ⟨1, 0, .box (a.cells.map .d)⟩), (rid 2 0, ⟨1, 0, .box [.nil 1, .d (.sc (.int .i64 0)), .d (.sc (.int .i64 0)), .d (.sc (.int .i64 0)), .nil 1, .nil 1, .nil 1]⟩), (rid 3 0, ⟨1, 0, .box [.arr (rid 6 0) 1, .d (.sc (.int .i64 a.ty)), .d (.sc (.int .i64 a.ttl)), .d (.sc (.int .i64 a.addr)), .arr (rid 19 0) 1, .nil 1, .nil 1]⟩), (rid 6 0, ⟨1, 0, .arr true (encBB a.name)⟩), (rid 19 0, ⟨1, 0, .arr true (encBB a.to)⟩)]), []⟩ ?_ (fun x hc => ?_))
  case refine_2 => refine kReg (kFadP rfl rfl (kLoadP rfl rfl rfl (kCall1 true (ok_laws_toName _ pr pr) ⟨⟨⟨rfl, trivial⟩, leb⟩, trivial⟩ rfl rfl rfl (fun _ => (kFadP rfl rfl (kStoreP rfl rfl rfl rfl (kDone (hc _ .normA))))))))
  refine kSeq (kCut ⟨tabSl [(1, .c (.ptr (rid 1 0) 1 0)), (2, .c (.ptr (rid 2 0) 1 0)), (3, .c (.ptr (rid 3 0) 1 0))], obTab 1 ([(rid 1 0, ⟨1, 0, .box (a.cells.map .d)⟩), (rid 2 0, ⟨1, 0, .box [.nil 1, .d (.sc (.int .i64 0)), .d (.sc (.int .i64 0)), .d (.sc (.int .i64 0)), .nil 1, .nil 1, .nil 1]⟩), (rid 3 0, ⟨1, 0, .box [.arr (rid 6 0) 1, .d (.sc (.int .i64 a.ty)), .d (.sc (.int .i64 a.ttl)), .d (.sc (.int .i64 a.addr)), .arr (rid 19 0) 1, .arr (rid 23 0) 1, .nil 1]⟩), (rid 6 0, ⟨1, 0, .arr true (encBB a.name)⟩), (rid 19 0, ⟨1, 0, .arr true (encBB a.to)⟩), (rid 23 0, ⟨1, 0, .arr true (encB a.text)⟩)]), []⟩ ?_ (fun x hc => ?_))
  case refine_2 => refine kReg (kFadP rfl rfl (kLoadP rfl rfl rfl (kCall1 true (ok_laws_toByteS _ pr) ⟨rfl, trivial⟩ rfl rfl rfl (fun _ => (kFadP rfl rfl (kStoreP rfl rfl rfl rfl (kDone (hc _ .normA))))))))
  refine kSeq (kCut ⟨tabSl [(1, .c (.ptr (rid 1 0) 1 0)), (2, .c (.ptr (rid 2 0) 1 0)), (3, .c (.ptr (rid 3 0) 1 0))], obTab 1 ([(rid 1 0, ⟨1, 0, .box (a.cells.map .d)⟩), (rid 2 0, ⟨1, 0, .box [.nil 1, .d (.sc (.int .i64 0)), .d (.sc (.int .i64 0)), .d (.sc (.int .i64 0)), .nil 1, .nil 1, .nil 1]⟩), (rid 3 0, ⟨1, 0, .box [.arr (rid 6 0) 1, .d (.sc (.int .i64 a.ty)), .d (.sc (.int .i64 a.ttl)), .d (.sc (.int .i64 a.addr)), .arr (rid 19 0) 1, .arr (rid 23 0) 1, .arr (rid 27 0) 1]⟩), (rid 6 0, ⟨1, 0, .arr true (encBB a.name)⟩), (rid 19 0, ⟨1, 0, .arr true (encBB a.to)⟩), (rid 23 0, ⟨1, 0, .arr true (encB a.text)⟩), (rid 27 0, ⟨1, 0, .arr true (encI a.nums)⟩)]), []⟩ ?_ (fun x hc => ?_))
  case refine_2 => refine kReg (kFadP rfl rfl (kLoadP rfl rfl rfl (kCall1 true (ok_laws_toIntS _ pr) ⟨rfl, trivial⟩ rfl rfl rfl (fun _ => (kFadP rfl rfl (kStoreP rfl rfl rfl rfl (kDone (hc _ .normA))))))))
  refine kSeq (kReg (kLoadP rfl rfl rfl (kStoreP rfl rfl rfl rfl (kDone (kRet (endRetA (ra := [.agg [(.own true _), (.d _), (.d _), (.d _), (.own true _), (.own true _), (.own true _)]]) rfl rfl))))))

def c_laws_toRrS : C := (.seq (.reg false (.o 0 2 (.mov (.n 7)) .done)) (.seq (.reg false (.o 0 5 (.mov (.t 0)) (.o 1 6 (.len (.t 5)) (.o 2 7 (.mk 7 7 [(.n 1), (.i 0), (.i 0), (.i 0), (.n 1), (.n 1), (.n 1)] 120 (.t 6)) (.o 3 3 (.mov (.t 7)) .done))))) (.seq (.seq (.reg false (.o 0 4 (.mov (.i 0)) .done)) (.block 0 (.loop (.seq (.seq (.reg false (.o 0 8 (.mov (.t 4)) (.o 1 9 (.mov (.t 0)) (.o 2 10 (.len (.t 9)) (.o 3 11 (.bin .lss (.t 8) (.t 10)) .done))))) (.cond (.t 11) .skip (.exit 0))) (.seq (.block 1 (.reg false (.o 0 14 (.mov (.t 3)) (.o 1 15 (.mov (.t 4)) (.o 2 16 (.mov (.t 0)) (.o 3 17 (.mov (.t 4)) (.o 4 18 (.iad 7 (.t 16) (.t 17)) (.o 5 19 (.load (some 7) (.t 18)) (.o 6 20 (.call 20 230 [(.t 19)]) (.o 7 21 (.iad 7 (.t 14) (.t 15)) (.op 8 [] none none false (.store (some 7) (.t 21) (.t 20)) .done))))))))))) (.reg false (.o 0 12 (.mov (.t 4)) (.o 1 13 (.bin .add (.t 12) (.i 1)) (.o 2 4 (.mov (.t 13)) .done))))))))) (.seq (.reg false (.o 0 22 (.mov (.t 3)) (.o 1 2 (.mov (.t 22)) .done))) .ret))))
theorem dg_laws_toRrS : Tryz.f123.body.bind (digC Tryz.prog Tryz.f123.ntmps []) = some c_laws_toRrS := by kernel_rfl
theorem rs_laws_toRrS : resSlots Tryz.prog Tryz.f123 = some [.s 2] := by kernel_rfl
theorem ok_laws_toRrS (a : List Rr) (hs : SmallRs a) :
    FnOK Tryz.prog 123 [.one (.d (encR a))] (fun ra _ => ra = [.one (.own true (encR a))]) := by
  refine FnOK.ofK Tryz.func123 (by kernel_rfl) dg_laws_toRrS rs_laws_toRrS rfl rfl ?_
  delta c_laws_toRrS T.o X.i
  have ha := hs.len
  refine kSeq (kReg (kMovC rfl (kDone (kSeq (kReg (kMovC rfl (kLenR rfl rfl ?_)))))))
  refine kMk rfl (by omega) rfl rfl rfl rfl rfl ?_
  rw [show DV.sl 7 (List.replicate (Int.toNat (a.length : Int)) [.sl 1 [], .sc (.int .i64 0), .sc (.int .i64 0), .sc (.int .i64 0), .sl 1 [], .sl 1 [], .sl 1 []]) = encR (List.replicate a.length ⟨[], 0, 0, 0, [], [], []⟩) by simp [encR, Rr.cells, encBB, encB, encI]]
  refine kMovC rfl (kDone (kSeq (kSeq (kReg (kMovC rfl (kDone (kBlock ?_)))))))
  refine kLoop (α := { i : Nat // i ≤ a.length })
    (fun y => ⟨tabSl [(0, .dv (encR a)), (3, .c (.arr (rid 7 0) 1)), (4, .i y.1)], obTab 1 [(rid 7 0, ⟨1, 0, .arr true (encR (a.take y.1 ++ (List.replicate a.length ⟨[], 0, 0, 0, [], [], []⟩).drop y.1))⟩)], []⟩) (fun y => a.length - y.1) ⟨0, by simp⟩
    .normA ?_
  rintro ⟨i, hi⟩
  simp only
  have hl1 : (a.take i).length = i := by simp; omega
  have hl2 : (a.take i ++ (List.replicate a.length (⟨[], 0, 0, 0, [], [], []⟩ : Rr)).drop i).length = a.length := by simp; omega
  rcases Nat.lt_or_ge i a.length with hlt | hge
  · have hbi := hs.mem _ (List.getElem_mem hlt)
    refine kSeq (kSeq (kReg (kMovC rfl (kMovC rfl (kLenR rfl rfl (kBin rfl rfl rfl (kDone (kCondP rfl (fun g0 => kSkip (kSeq (kBlock (kReg (kMovC rfl (kMovC rfl (kMovC rfl (kMovC rfl (kIadR rfl rfl rfl (by omega) (kLoadD rfl rfl (kCall1 true (ok_laws_toRr _ pr) ⟨⟨⟨rfl, rfl, rfl, rfl, rfl, rfl, rfl, trivial⟩, leb⟩, trivial⟩ rfl rfl rfl (fun _ => (kIadAR rfl rfl rfl rfl (by omega) (kStoreER rfl rfl rfl rfl rfl rfl rfl (by omega) rfl (kDone (kBk (kReg (kMovC rfl (kAdd rfl rfl (by omega) (kMovC rfl (kDone ?_))))))))))))))))))))) (fun g0 => (by omega))))))))))
    exact kInv ⟨⟨i + 1, by omega⟩, by simp only; omega, .normA⟩
  · refine kSeq (kSeq (kReg (kMovC rfl (kMovC rfl (kLenR rfl rfl (kBin rfl rfl rfl (kDone (kCondP rfl (fun g0 => (by omega)) (fun g0 => kExit (kExC (kExI (kExB (kSeq (kReg (kMovC rfl (kMovC rfl (kDone (kRet (endRetA (ra := [.one (.own true _)]) rfl ?_)))))))))))))))))))
    rw [show i = a.length by omega]
    simp

def c_laws_toWant : C := (.seq (.reg false (.o 0 1 (.box 1 (.t 0)) (.o 1 2 (.alloc 2 [(.n 1), (.i 0), (.i 0), (.i 0), (.n 1), (.n 1), (.n 1), (.i 0), (.v (.bool false))]) .done))) (.seq (.reg false (.o 0 3 (.alloc 3 [(.n 1), (.i 0), (.i 0), (.i 0), (.n 1), (.n 1), (.n 1), (.i 0), (.v (.bool false))]) .done)) (.seq (.reg false (.o 0 4 (.fad (.t 1) 0) (.o 1 5 (.load (some 7) (.t 4)) (.o 2 6 (.call 6 230 [(.t 5)]) (.o 3 7 (.fad (.t 3) 0) (.op 4 [] none none false (.store (some 7) (.t 7) (.t 6)) .done)))))) (.seq (.reg false (.o 0 8 (.fad (.t 1) 7) (.o 1 9 (.load none (.t 8)) (.o 2 10 (.fad (.t 3) 7) (.op 3 [] none none false (.store none (.t 10) (.t 9)) .done))))) (.seq (.reg false (.o 0 11 (.fad (.t 1) 8) (.o 1 12 (.load none (.t 11)) (.o 2 13 (.fad (.t 3) 8) (.op 3 [] none none false (.store none (.t 13) (.t 12)) .done))))) (.seq (.reg false (.o 0 14 (.load (some 9) (.t 3)) (.op 1 [] none none false (.store (some 9) (.t 2) (.t 14)) .done))) .ret))))))
theorem dg_laws_toWant : Tryz.f247.body.bind (digC Tryz.prog Tryz.f247.ntmps []) = some c_laws_toWant := by kernel_rfl
theorem rs_laws_toWant : resSlots Tryz.prog Tryz.f247 = some [.m 2 (some 9)] := by kernel_rfl
theorem ok_laws_toWant (a : Want) (hs : SmallW a) :
    FnOK Tryz.prog 247 [.agg (a.cells.map .d)] (fun ra _ => ra = [.agg [.own true (encBB a.rr.name), .d (.sc (.int .i64 a.rr.ty)), .d (.sc (.int .i64 a.rr.ttl)), .d (.sc (.int .i64 a.rr.addr)), .own true (encBB a.rr.to), .own true (encB a.rr.text), .own true (encI a.rr.nums), .d (.sc (.int .i64 a.cls)), .d (.sc (.bool a.bare))]]) := by
  refine FnOK.ofK Tryz.func247 (by kernel_rfl) dg_laws_toWant rs_laws_toWant rfl rfl ?_
  delta c_laws_toWant T.o X.i
  have h2 := hs.r
  refine kSeq (kReg (kBox rfl rfl rfl rfl rfl (kAlloc rfl rfl (kDone (kSeq (kReg (kAlloc rfl rfl (kDone (kSeq (kReg (kFadP rfl rfl (kLoadP rfl rfl rfl (kCall1 true (ok_laws_toRr _ (by first | assumption | omega | solve_by_elim [List.getElem_mem] | (simp only [szOut] at *; omega) | exact rfl | exact leb | exact rrOk_small (by assumption) | exact zoneOk_small (by assumption) | exact SmallBB.ok (by assumption) | exact (SmallBB.ok (by assumption)).len | exact (SmallBB.ok (by assumption)).mem | exact SmallBB.bent (by assumption))) ⟨⟨⟨rfl, rfl, rfl, rfl, rfl, rfl, rfl, trivial⟩, leb⟩, trivial⟩ rfl rfl rfl (fun _ => (kFadP rfl rfl (kMem [(16384, ⟨1, 0, .box [.nil 1, .d _, .d _, .d _, .nil 1, .nil 1, .nil 1, .d _, .d _]⟩), (28672, ⟨1, 0, .arr true _⟩), (28676, ⟨1, 0, .arr true _⟩), (28677, ⟨1, 0, .arr true _⟩), (28678, ⟨1, 0, .arr true _⟩)] [(7, .c (.ptr 16384 1 0)), (6, .g [.arr 28672 1, .d _, .d _, .d _, .arr 28676 1, .arr 28677 1, .arr 28678 1])] [] ⟨rfl, rfl, rfl, rfl, rfl, trivial⟩ ⟨rfl, rfl, trivial⟩ rfl (kStoreP rfl rfl rfl rfl (kDone (kSeq (kReg (kFadP rfl rfl (kLoadP rfl rfl rfl (kFadP rfl rfl (kStoreP rfl rfl rfl rfl (kDone (kSeq (kReg (kFadP rfl rfl (kLoadP rfl rfl rfl (kFadP rfl rfl (kMem [(16384, ⟨1, 0, .box [.arr 28672 1, .d _, .d _, .d _, .arr 28676 1, .arr 28677 1, .arr 28678 1, .d _, .d _]⟩), (28672, ⟨1, 0, .arr true _⟩), (28676, ⟨1, 0, .arr true _⟩), (28677, ⟨1, 0, .arr true _⟩), (28678, ⟨1, 0, .arr true _⟩)] [(13, .c (.ptr 16384 1 8)), (12, .c (.d _))] [] ⟨rfl, rfl, rfl, rfl, rfl, trivial⟩ ⟨rfl, rfl, trivial⟩ rfl (kStoreP rfl rfl rfl rfl (kDone (kSeq (kReg (kLoadP rfl rfl rfl (kMem [(12288, ⟨1, 0, .box [.nil 1, .d _, .d _, .d _, .nil 1, .nil 1, .nil 1, .d _, .d _]⟩), (28672, ⟨1, 0, .arr true _⟩), (28676, ⟨1, 0, .arr true _⟩), (28677, ⟨1, 0, .arr true _⟩), (28678, ⟨1, 0, .arr true _⟩)] [(2, .c (.ptr 12288 1 0)), (14, .g [.arr 28672 1, .d _, .d _, .d _, .arr 28676 1, .arr 28677 1, .arr 28678 1, .d _, .d _])] [] ⟨rfl, rfl, rfl, rfl, rfl, trivial⟩ ⟨rfl, rfl, trivial⟩ rfl (kStoreP rfl rfl rfl rfl (kDone (kMem [(12288, ⟨1, 0, .box [.arr 28672 1, .d _, .d _, .d _, .arr 28676 1, .arr 28677 1, .arr 28678 1, .d _, .d _]⟩), (28672, ⟨1, 0, .arr true _⟩), (28676, ⟨1, 0, .arr true _⟩), (28677, ⟨1, 0, .arr true _⟩), (28678, ⟨1, 0, .arr true _⟩)] [(2, .c (.ptr 12288 1 0))] [] ⟨rfl, rfl, rfl, rfl, rfl, trivial⟩ ⟨rfl, trivial⟩ rfl (kRet (endRetA (ra := [.agg [(.own true _), (.d _), (.d _), (.d _), (.own true _), (.own true _), (.own true _), (.d _), (.d _)]]) rfl rfl))))))))))))))))))))))))))))))))))))))))))

def c_laws_toWantS : C := (.seq (.reg false (.o 0 2 (.mov (.n 9)) .done)) (.seq (.reg false (.o 0 5 (.mov (.t 0)) (.o 1 6 (.len (.t 5)) (.o 2 7 (.mk 7 9 [(.n 1), (.i 0), (.i 0), (.i 0), (.n 1), (.n 1), (.n 1), (.i 0), (.v (.bool false))] 136 (.t 6)) (.o 3 3 (.mov (.t 7)) .done))))) (.seq (.seq (.reg false (.o 0 4 (.mov (.i 0)) .done)) (.block 0 (.loop (.seq (.seq (.reg false (.o 0 8 (.mov (.t 4)) (.o 1 9 (.mov (.t 0)) (.o 2 10 (.len (.t 9)) (.o 3 11 (.bin .lss (.t 8) (.t 10)) .done))))) (.cond (.t 11) .skip (.exit 0))) (.seq (.block 1 (.reg false (.o 0 14 (.mov (.t 3)) (.o 1 15 (.mov (.t 4)) (.o 2 16 (.mov (.t 0)) (.o 3 17 (.mov (.t 4)) (.o 4 18 (.iad 9 (.t 16) (.t 17)) (.o 5 19 (.load (some 9) (.t 18)) (.o 6 20 (.call 20 247 [(.t 19)]) (.o 7 21 (.iad 9 (.t 14) (.t 15)) (.op 8 [] none none false (.store (some 9) (.t 21) (.t 20)) .done))))))))))) (.reg false (.o 0 12 (.mov (.t 4)) (.o 1 13 (.bin .add (.t 12) (.i 1)) (.o 2 4 (.mov (.t 13)) .done))))))))) (.seq (.reg false (.o 0 22 (.mov (.t 3)) (.o 1 2 (.mov (.t 22)) .done))) .ret))))
theorem dg_laws_toWantS : Tryz.f166.body.bind (digC Tryz.prog Tryz.f166.ntmps []) = some c_laws_toWantS := by kernel_rfl
theorem rs_laws_toWantS : resSlots Tryz.prog Tryz.f166 = some [.s 2] := by kernel_rfl
theorem ok_laws_toWantS (a : List (Want)) (hs : SmallWs a) :
    FnOK Tryz.prog 166 [.one (.d (encW a))] (fun ra _ => ra = [.one (.own true (encW a))]) := by
  refine FnOK.ofK Tryz.func166 (by kernel_rfl) dg_laws_toWantS rs_laws_toWantS rfl rfl ?_
  delta c_laws_toWantS T.o X.i
  have ha := hs.len
  refine kSeq (kReg (kMovC rfl (kDone (kSeq (kReg (kMovC rfl (kLenR rfl rfl ?_)))))))
  refine kMk rfl (by omega) rfl rfl rfl rfl rfl ?_
  rw [show DV.sl 9 (List.replicate (Int.toNat (a.length : Int)) [.sl 1 [], .sc (.int .i64 0), .sc (.int .i64 0), .sc (.int .i64 0), .sl 1 [], .sl 1 [], .sl 1 [], .sc (.int .i64 0), .sc (.bool false)]) = encW (List.replicate a.length ⟨⟨[], 0, 0, 0, [], [], []⟩, 0, false⟩) by simp [encL, Want.cells, encBB, encB, encR, encI]]
  refine kMovC rfl (kDone (kSeq (kSeq (kReg (kMovC rfl (kDone (kBlock ?_)))))))
  refine kLoop (α := { i : Nat // i ≤ a.length })
    (fun y => ⟨tabSl [(0, .dv (encW a)), (3, .c (.arr (rid 7 0) 1)), (4, .i y.1)], obTab 1 [(rid 7 0, ⟨1, 0, .arr true (encW (a.take y.1 ++ (List.replicate a.length ⟨⟨[], 0, 0, 0, [], [], []⟩, 0, false⟩).drop y.1))⟩)], []⟩) (fun y => a.length - y.1) ⟨0, by simp⟩
    .normA ?_
  rintro ⟨i, hi⟩
  simp only
  have hl1 : (a.take i).length = i := by simp; omega
  have hl2 : (a.take i ++ (List.replicate a.length (⟨⟨[], 0, 0, 0, [], [], []⟩, 0, false⟩ : Want)).drop i).length = a.length := by simp; omega
  rcases Nat.lt_or_ge i a.length with hlt | hge
  · have hbi := hs.mem _ (List.getElem_mem hlt)
    refine kSeq (kSeq (kReg (kMovC rfl (kMovC rfl (kLenR rfl rfl (kBin rfl rfl rfl (kDone (kCondP rfl (fun g0 => kSkip (kSeq (kBlock (kReg (kMovC rfl (kMovC rfl (kMovC rfl (kMovC rfl (kIadR rfl rfl rfl (by first | omega | (simp only [List.length_append, List.length_cons, List.length_nil]; omega)) (kLoadD rfl rfl (kCall1 true (ok_laws_toWant _ (by first | assumption | omega | solve_by_elim [List.getElem_mem] | (simp only [szOut] at *; omega) | exact rfl | exact leb | exact rrOk_small (by assumption) | exact zoneOk_small (by assumption) | exact SmallBB.ok (by assumption) | exact (SmallBB.ok (by assumption)).len | exact (SmallBB.ok (by assumption)).mem | exact SmallBB.bent (by assumption))) ⟨⟨⟨rfl, rfl, rfl, rfl, rfl, rfl, rfl, rfl, rfl, trivial⟩, leb⟩, trivial⟩ rfl rfl rfl (fun _ => (kMem [(32768, ⟨1, 0, .arr true _⟩), (86016, ⟨2, 0, .arr true _⟩), (86020, ⟨2, 0, .arr true _⟩), (86021, ⟨2, 0, .arr true _⟩), (86022, ⟨2, 0, .arr true _⟩)] [(14, .c (.arr 32768 1)), (15, .c (.d _)), (20, .g [.arr 86016 2, .d _, .d _, .d _, .arr 86020 2, .arr 86021 2, .arr 86022 2, .d _, .d _])] [] ⟨rfl, rfl, rfl, rfl, rfl, trivial⟩ ⟨rfl, rfl, rfl, trivial⟩ rfl (kIadAR rfl rfl rfl rfl (by first | omega | (simp only [List.length_append, List.length_cons, List.length_nil]; omega)) (kMem [(86016, ⟨2, 0, .arr true _⟩), (86020, ⟨2, 0, .arr true _⟩), (86021, ⟨2, 0, .arr true _⟩), (86022, ⟨2, 0, .arr true _⟩)] [(20, .g [.arr 86016 2, .d _, .d _, .d _, .arr 86020 2, .arr 86021 2, .arr 86022 2, .d _, .d _])] [] ⟨rfl, rfl, rfl, rfl, trivial⟩ ⟨rfl, trivial⟩ rfl (kStoreER rfl rfl rfl rfl rfl rfl rfl (by omega) rfl (kDone (kBk (kReg (kMovC rfl (kAdd rfl rfl (by omega) (kMovC rfl (kDone ?_))))))))))))))))))))))) (fun g0 => (by omega))))))))))
    exact kInv ⟨⟨i + 1, by omega⟩, by simp only; omega, .normA⟩
  · refine kSeq (kSeq (kReg (kMovC rfl (kMovC rfl (kLenR rfl rfl (kBin rfl rfl rfl (kDone (kCondP rfl (fun g0 => (by omega)) (fun g0 => kExit (kExC (kExI (kExB (kSeq (kReg (kMovC rfl (kMovC rfl (kDone (kMem [(32768, ⟨1, 0, .arr true _⟩)] [(2, .c (.arr 32768 1))] [] ⟨rfl, trivial⟩ ⟨rfl, trivial⟩ rfl (kRet (endRetA (ra := [.one (.own true _)]) rfl ?_))))))))))))))))))))
    rw [show i = a.length by omega]
    simp

def c_laws_toMsg : C := (.seq (.reg false (.o 0 1 (.box 1 (.t 0)) (.o 1 2 (.alloc 2 [(.i 0), (.v (.bool false)), (.i 0), (.v (.bool false)), (.i 0), (.n 2), (.n 7), (.n 7), (.n 7), (.n 9), (.n 9)]) .done))) (.seq (.reg false (.o 0 3 (.alloc 3 [(.i 0), (.v (.bool false)), (.i 0), (.v (.bool false)), (.i 0), (.n 2), (.n 7), (.n 7), (.n 7), (.n 9), (.n 9)]) .done)) (.seq (.reg false (.o 0 4 (.fad (.t 1) 0) (.o 1 5 (.load none (.t 4)) (.o 2 6 (.fad (.t 3) 0) (.op 3 [] none none false (.store none (.t 6) (.t 5)) .done))))) (.seq (.reg false (.o 0 7 (.fad (.t 1) 1) (.o 1 8 (.load none (.t 7)) (.o 2 9 (.fad (.t 3) 1) (.op 3 [] none none false (.store none (.t 9) (.t 8)) .done))))) (.seq (.reg false (.o 0 10 (.fad (.t 1) 2) (.o 1 11 (.load none (.t 10)) (.o 2 12 (.fad (.t 3) 2) (.op 3 [] none none false (.store none (.t 12) (.t 11)) .done))))) (.seq (.reg false (.o 0 13 (.fad (.t 1) 3) (.o 1 14 (.load none (.t 13)) (.o 2 15 (.fad (.t 3) 3) (.op 3 [] none none false (.store none (.t 15) (.t 14)) .done))))) (.seq (.reg false (.o 0 16 (.fad (.t 1) 4) (.o 1 17 (.load none (.t 16)) (.o 2 18 (.fad (.t 3) 4) (.op 3 [] none none false (.store none (.t 18) (.t 17)) .done))))) (.seq (.reg false (.o 0 19 (.fad (.t 1) 5) (.o 1 20 (.load none (.t 19)) (.o 2 21 (.call 21 165 [(.t 20)]) (.o 3 22 (.fad (.t 3) 5) (.op 4 [] none none false (.store none (.t 22) (.t 21)) .done)))))) (.seq (.reg false (.o 0 23 (.fad (.t 1) 6) (.o 1 24 (.load none (.t 23)) (.o 2 25 (.call 25 123 [(.t 24)]) (.o 3 26 (.fad (.t 3) 6) (.op 4 [] none none false (.store none (.t 26) (.t 25)) .done)))))) (.seq (.reg false (.o 0 27 (.fad (.t 1) 7) (.o 1 28 (.load none (.t 27)) (.o 2 29 (.call 29 123 [(.t 28)]) (.o 3 30 (.fad (.t 3) 7) (.op 4 [] none none false (.store none (.t 30) (.t 29)) .done)))))) (.seq (.reg false (.o 0 31 (.fad (.t 1) 8) (.o 1 32 (.load none (.t 31)) (.o 2 33 (.call 33 123 [(.t 32)]) (.o 3 34 (.fad (.t 3) 8) (.op 4 [] none none false (.store none (.t 34) (.t 33)) .done)))))) (.seq (.reg false (.o 0 35 (.fad (.t 1) 9) (.o 1 36 (.load none (.t 35)) (.o 2 37 (.call 37 166 [(.t 36)]) (.o 3 38 (.fad (.t 3) 9) (.op 4 [] none none false (.store none (.t 38) (.t 37)) .done)))))) (.seq (.reg false (.o 0 39 (.fad (.t 1) 10) (.o 1 40 (.load none (.t 39)) (.o 2 41 (.call 41 166 [(.t 40)]) (.o 3 42 (.fad (.t 3) 10) (.op 4 [] none none false (.store none (.t 42) (.t 41)) .done)))))) (.seq (.reg false (.o 0 43 (.load (some 11) (.t 3)) (.op 1 [] none none false (.store (some 11) (.t 2) (.t 43)) .done))) .ret))))))))))))))
theorem dg_laws_toMsg : Tryz.f66.body.bind (digC Tryz.prog Tryz.f66.ntmps []) = some c_laws_toMsg := by kernel_rfl
theorem rs_laws_toMsg : resSlots Tryz.prog Tryz.f66 = some [.m 2 (some 11)] := by kernel_rfl
theorem ok_laws_toMsg (m : Msg) (hs : SmallM m) :
    FnOK Tryz.prog 66 [.agg (m.cells.map .d)] (fun ra _ => ra = [.agg [.d (.sc (.int .i64 m.id)), .d (.sc (.bool m.reply)), .d (.sc (.int .i64 m.op)), .d (.sc (.bool m.auth)), .d (.sc (.int .i64 m.code)), .own true (encQ m.qs), .own true (encR m.an), .own true (encR m.au), .own true (encR m.mo), .own true (encW m.pr), .own true (encW m.up)]]) := by
  refine FnOK.ofK Tryz.func66 (by kernel_rfl) dg_laws_toMsg rs_laws_toMsg rfl rfl ?_
  delta c_laws_toMsg T.o X.i
  have b1 := hs.q
  have b2 := hs.a
  have b3 := hs.b
  have b4 := hs.c
  have b5 := hs.p
  have b6 := hs.u
  refine kSeq (kReg (kBox rfl rfl rfl rfl rfl (kAlloc rfl rfl (kDone (kSeq (kReg (kAlloc rfl rfl (kDone (kSeq (kReg (kFadP rfl rfl (kLoadP rfl rfl rfl (kFadP rfl rfl (kStoreP rfl rfl rfl rfl (kDone (kSeq (kReg (kFadP rfl rfl (kLoadP rfl rfl rfl (kFadP rfl rfl (kStoreP rfl rfl rfl rfl (kDone (kSeq (kReg (kFadP rfl rfl (kLoadP rfl rfl rfl (kFadP rfl rfl (kStoreP rfl rfl rfl rfl (kDone (kSeq (kReg (kFadP rfl rfl (kLoadP rfl rfl rfl (kFadP rfl rfl (kStoreP rfl rfl rfl rfl (kDone (kSeq (kReg (kFadP rfl rfl (kLoadP rfl rfl rfl (kFadP rfl rfl (kStoreP rfl rfl rfl rfl (kDone (kSeq (kReg (kFadP rfl rfl (kLoadP rfl rfl rfl (kCall1 true (ok_laws_toQuestionS _ (by first | assumption | omega | solve_by_elim [List.getElem_mem] | (simp only [szOut] at *; omega) | exact rfl | exact leb | exact rrOk_small (by assumption) | exact zoneOk_small (by assumption) | exact SmallBB.ok (by assumption) | exact (SmallBB.ok (by assumption)).len | exact (SmallBB.ok (by assumption)).mem | exact SmallBB.bent (by assumption))) ⟨rfl, trivial⟩ rfl rfl rfl (fun _ => (kFadP rfl rfl (kStoreP rfl rfl rfl rfl (kDone (kSeq (kReg (kFadP rfl rfl (kLoadP rfl rfl rfl (kCall1 true (ok_laws_toRrS _ (by first | assumption | omega | solve_by_elim [List.getElem_mem] | (simp only [szOut] at *; omega) | exact rfl | exact leb | exact rrOk_small (by assumption) | exact zoneOk_small (by assumption) | exact SmallBB.ok (by assumption) | exact (SmallBB.ok (by assumption)).len | exact (SmallBB.ok (by assumption)).mem | exact SmallBB.bent (by assumption))) ⟨rfl, trivial⟩ rfl rfl rfl (fun _ => (kMem [(16384, ⟨1, 0, .box [.d _, .d _, .d _, .d _, .d _, .arr 90112 1, .nil 7, .nil 7, .nil 7, .nil 9, .nil 9]⟩), (106496, ⟨1, 0, .arr true _⟩), (90112, ⟨1, 0, .arr true _⟩)] [(3, .c (.ptr 16384 1 0)), (26, .c (.un)), (25, .c (.arr 106496 1))] [] ⟨rfl, rfl, rfl, trivial⟩ ⟨rfl, rfl, rfl, trivial⟩ rfl (kFadP rfl rfl (kStoreP rfl rfl rfl rfl (kDone (kSeq (kReg (kFadP rfl rfl (kLoadP rfl rfl rfl (kCall1 true (ok_laws_toRrS _ (by first | assumption | omega | solve_by_elim [List.getElem_mem] | (simp only [szOut] at *; omega) | exact rfl | exact leb | exact rrOk_small (by assumption) | exact zoneOk_small (by assumption) | exact SmallBB.ok (by assumption) | exact (SmallBB.ok (by assumption)).len | exact (SmallBB.ok (by assumption)).mem | exact SmallBB.bent (by assumption))) ⟨rfl, trivial⟩ rfl rfl rfl (fun _ => (kFadP rfl rfl (kStoreP rfl rfl rfl rfl (kDone (kSeq (kReg (kFadP rfl rfl (kLoadP rfl rfl rfl (kCall1 true (ok_laws_toRrS _ (by first | assumption | omega | solve_by_elim [List.getElem_mem] | (simp only [szOut] at *; omega) | exact rfl | exact leb | exact rrOk_small (by assumption) | exact zoneOk_small (by assumption) | exact SmallBB.ok (by assumption) | exact (SmallBB.ok (by assumption)).len | exact (SmallBB.ok (by assumption)).mem | exact SmallBB.bent (by assumption))) ⟨rfl, trivial⟩ rfl rfl rfl (fun _ => (kFadP rfl rfl (kStoreP rfl rfl rfl rfl (kDone (kSeq (kReg (kFadP rfl rfl (kLoadP rfl rfl rfl (kCall1 true (ok_laws_toWantS _ (by first | assumption | omega | solve_by_elim [List.getElem_mem] | (simp only [szOut] at *; omega) | exact rfl | exact leb | exact rrOk_small (by assumption) | exact zoneOk_small (by assumption) | exact SmallBB.ok (by assumption) | exact (SmallBB.ok (by assumption)).len | exact (SmallBB.ok (by assumption)).mem | exact SmallBB.bent (by assumption))) ⟨rfl, trivial⟩ rfl rfl rfl (fun _ => (kMem [(16384, ⟨1, 0, .box [.d _, .d _, .d _, .d _, .d _, .arr 90112 1, .arr 106496 1, .arr 122880 1, .arr 139264 1, .nil 9, .nil 9]⟩), (155648, ⟨1, 0, .arr true _⟩), (90112, ⟨1, 0, .arr true _⟩), (106496, ⟨1, 0, .arr true _⟩), (122880, ⟨1, 0, .arr true _⟩), (139264, ⟨1, 0, .arr true _⟩)] [(3, .c (.ptr 16384 1 0)), (38, .c (.un)), (37, .c (.arr 155648 1))] [] ⟨rfl, rfl, rfl, rfl, rfl, rfl, trivial⟩ ⟨rfl, rfl, rfl, trivial⟩ rfl (kFadP rfl rfl (kStoreP rfl rfl rfl rfl (kDone (kSeq (kReg (kFadP rfl rfl (kLoadP rfl rfl rfl (kCall1 true (ok_laws_toWantS _ (by first | assumption | omega | solve_by_elim [List.getElem_mem] | (simp only [szOut] at *; omega) | exact rfl | exact leb | exact rrOk_small (by assumption) | exact zoneOk_small (by assumption) | exact SmallBB.ok (by assumption) | exact (SmallBB.ok (by assumption)).len | exact (SmallBB.ok (by assumption)).mem | exact SmallBB.bent (by assumption))) ⟨rfl, trivial⟩ rfl rfl rfl (fun _ => (kFadP rfl rfl (kStoreP rfl rfl rfl rfl (kDone (kSeq (kReg (kLoadP rfl rfl rfl (kStoreP rfl rfl rfl rfl (kDone (kMem [(12288, ⟨1, 0, .box [.d _, .d _, .d _, .d _, .d _, .arr 90112 1, .arr 106496 1, .arr 122880 1, .arr 139264 1, .arr 155648 1, .arr 172032 1]⟩), (90112, ⟨1, 0, .arr true _⟩), (106496, ⟨1, 0, .arr true _⟩), (122880, ⟨1, 0, .arr true _⟩), (139264, ⟨1, 0, .arr true _⟩), (155648, ⟨1, 0, .arr true _⟩), (172032, ⟨1, 0, .arr true _⟩)] [(2, .c (.ptr 12288 1 0))] [] ⟨rfl, rfl, rfl, rfl, rfl, rfl, rfl, trivial⟩ ⟨rfl, trivial⟩ rfl (kRet (endRetA (ra := [.agg [(.d _), (.d _), (.d _), (.d _), (.d _), (.own true _), (.own true _), (.own true _), (.own true _), (.own true _), (.own true _)]]) rfl rfl)))))))))))))))))))))))))))))))))))))))))))))))))))))))))))))))))))))))))))))))))))))))))))))))))))))))))))

def c_impl_within : C := (.seq (.reg false (.o 0 6 (.mov (.v (.bool false))) .done)) (.seq (.reg false (.o 0 7 (.mov (.t 1)) (.o 1 8 (.mov (.t 0)) (.o 2 9 (.bin .leq (.t 7) (.t 8)) (.o 3 10 (.mov (.t 9)) (.op 4 [] (some 11) (some (10, true)) false (.mov (.t 0)) (.op 5 [] (some 12) (some (10, true)) false (.mov (.t 2)) (.op 6 [] (some 13) (some (10, true)) false (.bin .leq (.t 11) (.t 12)) (.o 7 14 (.pick (.t 10) (.t 13) (.v (.bool false))) (.o 8 6 (.mov (.t 14)) .done)))))))))) .ret))
theorem dg_impl_within : Tryz.f147.body.bind (digC Tryz.prog Tryz.f147.ntmps []) = some c_impl_within := by kernel_rfl
theorem rs_impl_within : resSlots Tryz.prog Tryz.f147 = some [.s 6] := by kernel_rfl
theorem ok_impl_within (n lo hi : Int) : FnOK Tryz.prog 147 [.one (.d (.sc (.int .i64 n))), .one (.d (.sc (.int .i64 lo))), .one (.d (.sc (.int .i64 hi)))] (fun ra _ => ra = [.one (.d (.sc (.bool (decide (lo ≤ n ∧ n ≤ hi)))))]) := by
  refine FnOK.ofK Tryz.func147 (by kernel_rfl) dg_impl_within rs_impl_within rfl rfl ?_
  delta c_impl_within T.o X.i
  repeat' first
    | refine kSeq ?_ | refine kReg ?_ | refine kDone ?_ | refine kMovC rfl ?_ | refine kBin rfl rfl rfl ?_
    | refine kGT rfl ?_ | refine kGF rfl ?_ | refine kGU rfl ?_ | refine kG rfl (fun h => ?_) (fun h => ?_)
    | refine kPickT rfl ?_ | refine kPickF rfl ?_ | refine kPick rfl (fun h => ?_) (fun h => ?_) | refine kRet ?_
  all_goals refine endRet (ra := [.one (.d _)]) rfl ⟨⟨⟨rfl, .inl rfl⟩, trivial⟩, .nil, trivial, trivial, trivial, trivial⟩ ?_
  all_goals simp_all
  all_goals omega

def c_impl_isCode : C := (.seq (.reg false (.o 0 2 (.mov (.v (.bool false))) .done)) (.seq (.reg false (.o 0 3 (.mov (.t 0)) (.o 1 4 (.call 4 147 [(.t 3), (.i 0), (.i 10)]) (.o 2 2 (.mov (.t 4)) .done)))) .ret))
theorem dg_impl_isCode : Tryz.f168.body.bind (digC Tryz.prog Tryz.f168.ntmps []) = some c_impl_isCode := by kernel_rfl
theorem rs_impl_isCode : resSlots Tryz.prog Tryz.f168 = some [.s 2] := by kernel_rfl
theorem ok_impl_isCode (n : Int) : FnOK Tryz.prog 168 [.one (.d (.sc (.int .i64 n)))] (fun ra _ => ra = [.one (.d (.sc (.bool (decide (0 ≤ n) && decide (n ≤ 10)))))]) := by
  refine FnOK.ofK Tryz.func168 (by kernel_rfl) dg_impl_isCode rs_impl_isCode rfl rfl ?_
  delta c_impl_isCode T.o X.i
  refine kSeq (kReg (kMovC rfl (kDone (kSeq (kReg (kMovC rfl (kCallD (ok_impl_within _ _ _) ⟨rfl, rfl, rfl, trivial⟩ rfl rfl rfl rfl rfl (kMovC rfl (kDone (kRet (endRetA (ra := [.one (.d _)]) rfl ?_)))))))))))
  rw [Bool.decide_and]

def c_impl_all_byte_1 : C := (.seq (.reg false (.o 0 3 (.mov (.v (.bool false))) .done)) (.seq (.reg false (.o 0 4 (.load none (.t 1)) (.o 1 5 (.mov (.t 0)) (.o 2 6 (.callv 6 (.t 4) [(.t 5)]) (.o 3 7 (.un .not (.t 6)) (.o 4 3 (.mov (.t 7)) .done)))))) .ret))
theorem dg_impl_all_byte_1 : Tryz.f292.body.bind (digC Tryz.prog Tryz.f292.ntmps []) = some c_impl_all_byte_1 := by kernel_rfl
theorem rs_impl_all_byte_1 : resSlots Tryz.prog Tryz.f292 = some [.s 3] := by kernel_rfl
theorem ok_impl_all_byte_1 (x : DV) (D : DV → Prop) (g : DV → Bool) (hx : D x) :
    FnOK Tryz.prog 292 [.one (.d x), .one (.ptr [.fv false (fcPred D g)])] (fun ra _ => ra = [.one (.d (.sc (.bool (!g x))))]) := by
  refine FnOK.ofK Tryz.func292 (by kernel_rfl) dg_impl_all_byte_1 rs_impl_all_byte_1 rfl rfl ?_
  delta c_impl_all_byte_1 T.o X.i
  refine kSeq (kReg (kMovC rfl (kDone ?_)))
  refine kSeq (kReg (kLoadC rfl rfl (kMovC rfl (kCallv rfl ⟨x, hx, rfl, rfl⟩ ⟨rfl, trivial⟩ (.inr ?_) rfl ?_ rfl ?_))))
  · rintro _ rfl; rfl
  · rintro _ rfl; exact leb
  rintro _ rfl
  refine kUn rfl rfl (kMovC rfl (kDone (kRet ?_)))
  exact endRet (ra := [.one (.d _)]) rfl ⟨⟨⟨rfl, .inl rfl⟩, trivial⟩, .nil, trivial, trivial, trivial⟩ rfl

def c_slices_IndexFunc_Lbyte_byte : C := (.seq (.reg false (.o 0 4 (.mov (.i 0)) .done)) (.seq (.seq (.reg false (.o 0 6 (.mov (.t 0)) (.o 1 7 (.len (.t 6)) (.o 2 8 (.mov (.i 0)) .done)))) (.block 0 (.loop (.seq (.reg false (.o 0 9 (.bin .lss (.t 8) (.t 7)) .done)) (.seq (.cond (.t 9) .skip (.exit 0)) (.seq (.block 1 (.seq (.reg false (.o 0 10 (.mov (.t 8)) (.o 1 5 (.mov (.t 10)) .done))) (.seq (.reg false (.o 0 11 (.mov (.t 1)) (.o 1 12 (.mov (.t 0)) (.o 2 13 (.mov (.t 5)) (.o 3 14 (.iad 1 (.t 12) (.t 13)) (.o 4 15 (.load none (.t 14)) (.o 5 16 (.callv 16 (.t 11) [(.t 15)]) .done))))))) (.cond (.t 16) (.seq (.reg false (.o 0 17 (.mov (.t 5)) (.o 1 4 (.mov (.t 17)) .done))) .ret) .skip)))) (.reg false (.o 0 18 (.bin .add (.t 8) (.i 1)) (.o 1 8 (.mov (.t 18)) .done))))))))) (.seq (.reg false (.o 0 4 (.mov (.i (-1))) .done)) .ret)))
theorem dg_slices_IndexFunc_Lbyte_byte : Tryz.f303.body.bind (digC Tryz.prog Tryz.f303.ntmps []) = some c_slices_IndexFunc_Lbyte_byte := by kernel_rfl
theorem rs_slices_IndexFunc_Lbyte_byte : resSlots Tryz.prog Tryz.f303 = some [.s 4] := by kernel_rfl
theorem ok_slices_IndexFunc_Lbyte_byte (l : List DV) (D : DV → Prop) (g : DV → Bool) (hl : (l.length : Int) ≤ 9223372036854775807) (hD : ∀ x ∈ l, D x) :
    FnOK Tryz.prog 303 [.one (.d (lst l)), .one (.fv false (fcPred D g))] (fun ra _ => ra = [.one (.d (.sc (.int .i64 (idxF g l))))]) := by
  refine FnOK.ofK Tryz.func303 (by kernel_rfl) dg_slices_IndexFunc_Lbyte_byte rs_slices_IndexFunc_Lbyte_byte rfl rfl ?_
  delta c_slices_IndexFunc_Lbyte_byte T.o X.i
  refine kSeq (kReg (kMovC rfl (kDone ?_)))
  refine kSeq (kSeq (kReg (kMovC rfl (kLen rfl rfl rfl (kMovC rfl (kDone (kBlock ?_)))))))
  rw [len_lst]
  refine kLoop (α := { i : Nat // i ≤ l.length ∧ ∀ x ∈ l.take i, g x = false })
    (fun y => ⟨tabSl [(0, .dv (lst l)), (1, .c (.fv false (fcPred D g))), (7, .i l.length), (8, .i y.1)], (St.init [.one (.d (lst l)), .one (.fv false (fcPred D g))]).ob, []⟩) (fun y => l.length - y.1) ⟨0, by simp⟩
    (.tab rfl ⟨.refl _, .refl _, .refl _, .refl _, trivial⟩) ?_
  rintro ⟨i, hi, hg⟩
  simp only
  refine kSeq (kReg (kBin rfl rfl rfl (kDone ?_)))
  refine kSeq (kCond rfl (fun h1 => ?_) (fun h1 => ?_))
  · have hlt : i < l.length := by simp at h1; omega
    refine kSkip (kSeq (kBlock (kSeq (kReg (kMovC rfl (kMovC rfl (kDone ?_)))))))
    refine kSeq (kReg (kMovC rfl (kMovC rfl (kMovC rfl (kIadD rfl rfl rfl rfl ?_ ?_)))))
    · rw [len_lst]; omega
    rw [show (lst l).row (i : Int).toNat = [l[i]] from row_lst l i hlt]
    refine kLoadD rfl rfl (kCallv rfl ⟨l[i], hD _ (List.getElem_mem hlt), rfl, rfl⟩ ⟨rfl, trivial⟩ (.inr ?_) rfl ?_ rfl ?_)
    · rintro _ rfl; rfl
    · rintro _ rfl; exact leb
    rintro _ rfl
    refine kDone (kCond rfl (fun h2 => ?_) (fun h2 => ?_))
    · refine kSeq (kReg (kMovC rfl (kMovC rfl (kDone (kRet ?_)))))
      refine endRet (ra := [.one (.d _)]) rfl ⟨⟨⟨rfl, .inl rfl⟩, trivial⟩, .nil, trivial, trivial, trivial⟩ ?_
      have : l.findIdx? g = some i := by
        rw [List.findIdx?_eq_some_iff_getElem]
        refine ⟨hlt, h2, fun j hj => ?_⟩
        simpa using hg _ (by rw [List.mem_take_iff_getElem]; exact ⟨j, by omega, rfl⟩)
      simp [idxF, this]
    · refine kSkip (kBk (kReg (kAdd rfl rfl ?_ (kMovC rfl (kDone (kInv ?_))))))
      · omega
      refine ⟨⟨i + 1, hlt, ?_⟩, by simp only; omega, .tab rfl ⟨.refl _, .refl _, .refl _, .refl _, trivial⟩⟩
      intro x hx
      rw [← List.take_append_getElem hlt, List.mem_append] at hx
      rcases hx with hx | hx
      · exact hg x hx
      · simp at hx; rw [hx]; exact h2
  · refine kExit (kExC (kExI (kExB ?_)))
    have hge : i = l.length := by simp at h1; omega
    refine kSeq (kReg (kMovC rfl (kDone (kRet ?_))))
    refine endRet (ra := [.one (.d _)]) rfl ⟨⟨⟨rfl, .inl rfl⟩, trivial⟩, .nil, trivial, trivial, trivial⟩ ?_
    have : l.findIdx? g = none := by
      rw [List.findIdx?_eq_none_iff]
      intro x hx
      rw [hge, List.take_length] at hg
      exact hg x hx
    simp [idxF, this]

def c_slices_ContainsFunc_Lbyte_byte : C := (.seq (.reg false (.o 0 4 (.mov (.v (.bool false))) .done)) (.seq (.reg false (.o 0 5 (.mov (.t 0)) (.o 1 6 (.mov (.t 1)) (.o 2 7 (.call 7 303 [(.t 5), (.t 6)]) (.o 3 8 (.bin .geq (.t 7) (.i 0)) (.o 4 4 (.mov (.t 8)) .done)))))) .ret))
theorem dg_slices_ContainsFunc_Lbyte_byte : Tryz.f291.body.bind (digC Tryz.prog Tryz.f291.ntmps []) = some c_slices_ContainsFunc_Lbyte_byte := by kernel_rfl
theorem rs_slices_ContainsFunc_Lbyte_byte : resSlots Tryz.prog Tryz.f291 = some [.s 4] := by kernel_rfl
theorem ok_slices_ContainsFunc_Lbyte_byte (l : List DV) (D : DV → Prop) (g : DV → Bool) (hl : (l.length : Int) ≤ 9223372036854775807) (hD : ∀ x ∈ l, D x) :
    FnOK Tryz.prog 291 [.one (.d (lst l)), .one (.fv false (fcPred D g))] (fun ra _ => ra = [.one (.d (.sc (.bool (l.any g))))]) := by
  refine FnOK.ofK Tryz.func291 (by kernel_rfl) dg_slices_ContainsFunc_Lbyte_byte rs_slices_ContainsFunc_Lbyte_byte rfl rfl ?_
  delta c_slices_ContainsFunc_Lbyte_byte T.o X.i
  refine kSeq (kReg (kMovC rfl (kDone ?_)))
  refine kSeq (kReg (kMovC rfl (kMovC rfl ?_)))
  refine kCall1 true (ok_slices_IndexFunc_Lbyte_byte l D g hl hD) ⟨rfl, ⟨fun h => h, fun _ _ h => h⟩, trivial⟩ rfl rfl rfl fun os => ?_
  refine kBin rfl rfl rfl (kMovC rfl (kDone (kRet ?_)))
  refine endRet (ra := [.one (.d _)]) rfl ⟨⟨⟨rfl, .inl rfl⟩, trivial⟩, .nil, trivial, trivial, trivial⟩ ?_
  have : decide (idxF g l ≥ 0) = l.any g := by
    unfold idxF
    cases h : l.findIdx? g with
    | none =>
      rw [List.findIdx?_eq_none_iff] at h
      have : l.any g = false := by rw [List.any_eq_false]; intro x hx; simp [h x hx]
      rw [this]; rfl
    | some i =>
      rw [List.findIdx?_eq_some_iff_getElem] at h
      obtain ⟨h1, h2, _⟩ := h
      have : l.any g = true := by rw [List.any_eq_true]; exact ⟨_, List.getElem_mem h1, h2⟩
      rw [this]; simp
  rw [this]

def c_impl_all_byte : C := (.seq (.reg false (.o 0 3 (.box 3 (.t 1)) (.o 1 4 (.mov (.v (.bool false))) .done))) (.seq (.reg false (.o 0 5 (.mov (.t 0)) (.o 1 6 (.clo 292 [] [(.t 3)]) (.o 2 7 (.call 7 291 [(.t 5), (.t 6)]) (.o 3 8 (.un .not (.t 7)) (.o 4 4 (.mov (.t 8)) .done)))))) .ret))
theorem dg_impl_all_byte : Tryz.f255.body.bind (digC Tryz.prog Tryz.f255.ntmps []) = some c_impl_all_byte := by kernel_rfl
theorem rs_impl_all_byte : resSlots Tryz.prog Tryz.f255 = some [.s 4] := by kernel_rfl
theorem ok_impl_all_byte (l : List DV) (D : DV → Prop) (g : DV → Bool) (hl : (l.length : Int) ≤ 9223372036854775807) (hD : ∀ x ∈ l, D x) :
    FnOK Tryz.prog 255 [.one (.d (lst l)), .one (.fv false (fcPred D g))] (fun ra _ => ra = [.one (.d (.sc (.bool (l.all g))))]) := by
  refine FnOK.ofK Tryz.func255 (by kernel_rfl) dg_impl_all_byte rs_impl_all_byte rfl rfl ?_
  delta c_impl_all_byte T.o X.i
  refine kSeq (kReg (kBox rfl rfl rfl rfl rfl (kMovC rfl (kDone ?_))))
  refine kSeq (kReg (kMovC rfl (kClo rfl rfl ?_)))
  refine kCall1 true (ok_slices_ContainsFunc_Lbyte_byte l D (fun x => !g x) hl hD) ⟨rfl, ⟨rfl, ⟨_, Tryz.func292, rfl, by kernel_rfl⟩, _, rfl, ?_⟩, trivial⟩ rfl rfl rfl fun os => ?_
  · rintro l R ⟨x, hx, rfl, rfl⟩
    exact ⟨by rintro _ rfl; rfl, ok_impl_all_byte_1 x D g hx⟩
  refine kUn rfl rfl (kMovC rfl (kDone (kRet ?_)))
  refine endRet (ra := [.one (.d _)]) rfl ⟨⟨⟨rfl, .inl rfl⟩, trivial⟩, .nil, trivial, trivial, trivial⟩ ?_
  simp [List.all_eq_not_any_not]

def c_impl_LabelOk_1 : C := (.seq (.reg false (.o 0 2 (.mov (.v (.bool false))) .done)) (.seq (.reg false (.o 0 3 (.mov (.t 0)) (.o 1 4 (.bin .geq (.t 3) (.v (.int .u8 97))) (.o 2 5 (.mov (.t 4)) (.op 3 [] (some 6) (some (5, true)) false (.mov (.t 0)) (.op 4 [] (some 7) (some (5, true)) false (.bin .leq (.t 6) (.v (.int .u8 122))) (.o 5 8 (.pick (.t 5) (.t 7) (.v (.bool false))) (.o 6 9 (.mov (.t 8)) (.op 7 [] (some 10) (some (9, false)) false (.mov (.t 0)) (.op 8 [] (some 11) (some (9, false)) false (.bin .geq (.t 10) (.v (.int .u8 48))) (.op 9 [] (some 12) (some (9, false)) false (.mov (.t 11)) (.op 10 [] (some 13) (some (12, true)) false (.mov (.t 0)) (.op 11 [] (some 14) (some (12, true)) false (.bin .leq (.t 13) (.v (.int .u8 57))) (.op 12 [] (some 15) (some (9, false)) false (.pick (.t 12) (.t 14) (.v (.bool false))) (.o 13 16 (.pick (.t 9) (.v (.bool true)) (.t 15)) (.o 14 17 (.mov (.t 16)) (.op 15 [] (some 18) (some (17, false)) false (.mov (.t 0)) (.op 16 [] (some 19) (some (17, false)) false (.bin .eql (.t 18) (.v (.int .u8 45))) (.o 17 20 (.pick (.t 17) (.v (.bool true)) (.t 19)) (.o 18 2 (.mov (.t 20)) .done)))))))))))))))))))) .ret))
theorem dg_impl_LabelOk_1 : Tryz.f256.body.bind (digC Tryz.prog Tryz.f256.ntmps []) = some c_impl_LabelOk_1 := by kernel_rfl
theorem rs_impl_LabelOk_1 : resSlots Tryz.prog Tryz.f256 = some [.s 2] := by kernel_rfl
theorem ok_impl_LabelOk_1 (b : UInt8) : FnOK Tryz.prog 256 [.one (.d (.sc (.int .u8 b.toNat)))] (fun ra _ => ra = [.one (.d (.sc (.bool (okLetter b))))]) := by
  refine FnOK.ofK Tryz.func256 (by kernel_rfl) dg_impl_LabelOk_1 rs_impl_LabelOk_1 rfl rfl ?_
  delta c_impl_LabelOk_1 T.o X.i
  repeat' first
    | refine kSeq ?_ | refine kReg ?_ | refine kDone ?_ | refine kMovC rfl ?_ | refine kBin rfl rfl rfl ?_
    | refine kGT rfl ?_ | refine kGF rfl ?_ | refine kGU rfl ?_ | refine kG rfl (fun h => ?_) (fun h => ?_)
    | refine kPickT rfl ?_ | refine kPickF rfl ?_ | refine kPick rfl (fun h => ?_) (fun h => ?_) | refine kRet ?_
  all_goals refine endRet (ra := [.one (.d _)]) rfl ⟨⟨⟨rfl, .inl rfl⟩, trivial⟩, .nil, trivial, trivial⟩ ?_
  all_goals simp_all [okLetter]
  all_goals first | omega | (rw [Bool.eq_iff_iff]; simp; omega)

def c_impl_LabelOk : C := (.seq (.reg false (.o 0 2 (.mov (.v (.bool false))) .done)) (.seq (.reg false (.o 0 3 (.mov (.t 0)) (.o 1 4 (.len (.t 3)) (.o 2 5 (.call 5 147 [(.t 4), (.i 1), (.i 15)]) (.o 3 6 (.mov (.t 5)) (.op 4 [] (some 7) (some (6, true)) false (.mov (.t 0)) (.op 5 [] (some 8) (some (6, true)) false (.call 8 255 [(.t 7), (.fn 256)]) (.o 6 9 (.pick (.t 6) (.t 8) (.v (.bool false))) (.o 7 2 (.mov (.t 9)) .done))))))))) .ret))
theorem dg_impl_LabelOk : Tryz.f179.body.bind (digC Tryz.prog Tryz.f179.ntmps []) = some c_impl_LabelOk := by kernel_rfl
theorem rs_impl_LabelOk : resSlots Tryz.prog Tryz.f179 = some [.s 2] := by kernel_rfl
theorem ok_impl_LabelOk (b : List UInt8) (hb : b.length ≤ 4194304) :
    FnOK Tryz.prog 179 [.one (.d (encB b))] (fun ra _ => ra = [.one (.d (.sc (.bool (labelOk b))))]) := by
  refine FnOK.ofK Tryz.func179 (by kernel_rfl) dg_impl_LabelOk rs_impl_LabelOk rfl rfl ?_
  delta c_impl_LabelOk T.o X.i
  refine kSeq (kReg (kMovC rfl (kDone (kSeq (kReg (kMovC rfl (kLenR rfl rfl (kCallD (ok_impl_within _ _ _) ⟨rfl, rfl, rfl, trivial⟩ rfl rfl rfl rfl rfl (kMovC rfl (kGP rfl (fun g0 => kGT rfl (kMovC rfl (kGT rfl ?_))) (fun g0 => kGF rfl (kGF rfl (kPickF rfl (kMovC rfl (kMovC rfl (kDone (kRet (endRetA (ra := [.one (.d _)]) rfl ?_))))))))))))))))))
  · refine kCall1 true (ok_impl_all_byte (b.map fun b : UInt8 => .sc (.int .u8 b.toNat)) is8 (fun x => okLetter (dec8 x)) (by simp; omega) (fun x hx => by obtain ⟨c, _, rfl⟩ := List.mem_map.1 hx; exact ⟨c, rfl⟩)) ⟨congrArg some (encB_lst b), ⟨rfl, rfl, ⟨_, Tryz.func256, rfl, by kernel_rfl⟩, ?_⟩, trivial⟩ rfl rfl rfl (fun _ => ?_)
    · rintro _ R ⟨x, ⟨c, rfl⟩, rfl, rfl⟩
      have := ok_impl_LabelOk_1 c
      simp only [dec8_enc]
      exact this
    refine kPickT rfl (kMovC rfl (kMovC rfl (kDone (kRet (endRetA (ra := [.one (.d _)]) rfl ?_)))))
    rw [all_dec8, show labelOk b = b.all okLetter by simp only [labelOk]; rw [decide_eq_true (by omega), decide_eq_true (by omega)]; rfl]
  · rw [show labelOk b = false by simp only [labelOk]; rw [show (decide (1 ≤ b.length) && decide (b.length ≤ 15)) = false by simp; omega]; rfl]

def c_impl_all_Lbyte_1 : C := (.seq (.reg false (.o 0 3 (.mov (.v (.bool false))) .done)) (.seq (.reg false (.o 0 4 (.load none (.t 1)) (.o 1 5 (.mov (.t 0)) (.o 2 6 (.callv 6 (.t 4) [(.t 5)]) (.o 3 7 (.un .not (.t 6)) (.o 4 3 (.mov (.t 7)) .done)))))) .ret))
theorem dg_impl_all_Lbyte_1 : Tryz.f254.body.bind (digC Tryz.prog Tryz.f254.ntmps []) = some c_impl_all_Lbyte_1 := by kernel_rfl
theorem rs_impl_all_Lbyte_1 : resSlots Tryz.prog Tryz.f254 = some [.s 3] := by kernel_rfl
theorem ok_impl_all_Lbyte_1 (x : DV) (D : DV → Prop) (g : DV → Bool) (hx : D x) :
    FnOK Tryz.prog 254 [.one (.d x), .one (.ptr [.fv false (fcPred D g)])] (fun ra _ => ra = [.one (.d (.sc (.bool (!g x))))]) := by
  refine FnOK.ofK Tryz.func254 (by kernel_rfl) dg_impl_all_Lbyte_1 rs_impl_all_Lbyte_1 rfl rfl ?_
  delta c_impl_all_Lbyte_1 T.o X.i
  refine kSeq (kReg (kMovC rfl (kDone ?_)))
  refine kSeq (kReg (kLoadC rfl rfl (kMovC rfl (kCallv rfl ⟨x, hx, rfl, rfl⟩ ⟨rfl, trivial⟩ (.inr ?_) rfl ?_ rfl ?_))))
  · rintro _ rfl; rfl
  · rintro _ rfl; exact leb
  rintro _ rfl
  refine kUn rfl rfl (kMovC rfl (kDone (kRet ?_)))
  exact endRet (ra := [.one (.d _)]) rfl ⟨⟨⟨rfl, .inl rfl⟩, trivial⟩, .nil, trivial, trivial, trivial⟩ rfl

def c_slices_IndexFunc_LLbyte_Lbyte : C := (.seq (.reg false (.o 0 4 (.mov (.i 0)) .done)) (.seq (.seq (.reg false (.o 0 6 (.mov (.t 0)) (.o 1 7 (.len (.t 6)) (.o 2 8 (.mov (.i 0)) .done)))) (.block 0 (.loop (.seq (.reg false (.o 0 9 (.bin .lss (.t 8) (.t 7)) .done)) (.seq (.cond (.t 9) .skip (.exit 0)) (.seq (.block 1 (.seq (.reg false (.o 0 10 (.mov (.t 8)) (.o 1 5 (.mov (.t 10)) .done))) (.seq (.reg false (.o 0 11 (.mov (.t 1)) (.o 1 12 (.mov (.t 0)) (.o 2 13 (.mov (.t 5)) (.o 3 14 (.iad 1 (.t 12) (.t 13)) (.o 4 15 (.load none (.t 14)) (.o 5 16 (.callv 16 (.t 11) [(.t 15)]) .done))))))) (.cond (.t 16) (.seq (.reg false (.o 0 17 (.mov (.t 5)) (.o 1 4 (.mov (.t 17)) .done))) .ret) .skip)))) (.reg false (.o 0 18 (.bin .add (.t 8) (.i 1)) (.o 1 8 (.mov (.t 18)) .done))))))))) (.seq (.reg false (.o 0 4 (.mov (.i (-1))) .done)) .ret)))
theorem dg_slices_IndexFunc_LLbyte_Lbyte : Tryz.f290.body.bind (digC Tryz.prog Tryz.f290.ntmps []) = some c_slices_IndexFunc_LLbyte_Lbyte := by kernel_rfl
theorem rs_slices_IndexFunc_LLbyte_Lbyte : resSlots Tryz.prog Tryz.f290 = some [.s 4] := by kernel_rfl
theorem ok_slices_IndexFunc_LLbyte_Lbyte (l : List DV) (D : DV → Prop) (g : DV → Bool) (hl : (l.length : Int) ≤ 9223372036854775807) (hD : ∀ x ∈ l, D x) :
    FnOK Tryz.prog 290 [.one (.d (lst l)), .one (.fv false (fcPred D g))] (fun ra _ => ra = [.one (.d (.sc (.int .i64 (idxF g l))))]) := by
  refine FnOK.ofK Tryz.func290 (by kernel_rfl) dg_slices_IndexFunc_LLbyte_Lbyte rs_slices_IndexFunc_LLbyte_Lbyte rfl rfl ?_
  delta c_slices_IndexFunc_LLbyte_Lbyte T.o X.i
  refine kSeq (kReg (kMovC rfl (kDone ?_)))
  refine kSeq (kSeq (kReg (kMovC rfl (kLen rfl rfl rfl (kMovC rfl (kDone (kBlock ?_)))))))
  rw [len_lst]
  refine kLoop (α := { i : Nat // i ≤ l.length ∧ ∀ x ∈ l.take i, g x = false })
    (fun y => ⟨tabSl [(0, .dv (lst l)), (1, .c (.fv false (fcPred D g))), (7, .i l.length), (8, .i y.1)], (St.init [.one (.d (lst l)), .one (.fv false (fcPred D g))]).ob, []⟩) (fun y => l.length - y.1) ⟨0, by simp⟩
    (.tab rfl ⟨.refl _, .refl _, .refl _, .refl _, trivial⟩) ?_
  rintro ⟨i, hi, hg⟩
  simp only
  refine kSeq (kReg (kBin rfl rfl rfl (kDone ?_)))
  refine kSeq (kCond rfl (fun h1 => ?_) (fun h1 => ?_))
  · have hlt : i < l.length := by simp at h1; omega
    refine kSkip (kSeq (kBlock (kSeq (kReg (kMovC rfl (kMovC rfl (kDone ?_)))))))
    refine kSeq (kReg (kMovC rfl (kMovC rfl (kMovC rfl (kIadD rfl rfl rfl rfl ?_ ?_)))))
    · rw [len_lst]; omega
    rw [show (lst l).row (i : Int).toNat = [l[i]] from row_lst l i hlt]
    refine kLoadD rfl rfl (kCallv rfl ⟨l[i], hD _ (List.getElem_mem hlt), rfl, rfl⟩ ⟨rfl, trivial⟩ (.inr ?_) rfl ?_ rfl ?_)
    · rintro _ rfl; rfl
    · rintro _ rfl; exact leb
    rintro _ rfl
    refine kDone (kCond rfl (fun h2 => ?_) (fun h2 => ?_))
    · refine kSeq (kReg (kMovC rfl (kMovC rfl (kDone (kRet ?_)))))
      refine endRet (ra := [.one (.d _)]) rfl ⟨⟨⟨rfl, .inl rfl⟩, trivial⟩, .nil, trivial, trivial, trivial⟩ ?_
      have : l.findIdx? g = some i := by
        rw [List.findIdx?_eq_some_iff_getElem]
        refine ⟨hlt, h2, fun j hj => ?_⟩
        simpa using hg _ (by rw [List.mem_take_iff_getElem]; exact ⟨j, by omega, rfl⟩)
      simp [idxF, this]
    · refine kSkip (kBk (kReg (kAdd rfl rfl ?_ (kMovC rfl (kDone (kInv ?_))))))
      · omega
      refine ⟨⟨i + 1, hlt, ?_⟩, by simp only; omega, .tab rfl ⟨.refl _, .refl _, .refl _, .refl _, trivial⟩⟩
      intro x hx
      rw [← List.take_append_getElem hlt, List.mem_append] at hx
      rcases hx with hx | hx
      · exact hg x hx
      · simp at hx; rw [hx]; exact h2
  · refine kExit (kExC (kExI (kExB ?_)))
    have hge : i = l.length := by simp at h1; omega
    refine kSeq (kReg (kMovC rfl (kDone (kRet ?_))))
    refine endRet (ra := [.one (.d _)]) rfl ⟨⟨⟨rfl, .inl rfl⟩, trivial⟩, .nil, trivial, trivial, trivial⟩ ?_
    have : l.findIdx? g = none := by
      rw [List.findIdx?_eq_none_iff]
      intro x hx
      rw [hge, List.take_length] at hg
      exact hg x hx
    simp [idxF, this]

def c_slices_ContainsFunc_LLbyte_Lbyte : C := (.seq (.reg false (.o 0 4 (.mov (.v (.bool false))) .done)) (.seq (.reg false (.o 0 5 (.mov (.t 0)) (.o 1 6 (.mov (.t 1)) (.o 2 7 (.call 7 290 [(.t 5), (.t 6)]) (.o 3 8 (.bin .geq (.t 7) (.i 0)) (.o 4 4 (.mov (.t 8)) .done)))))) .ret))
theorem dg_slices_ContainsFunc_LLbyte_Lbyte : Tryz.f253.body.bind (digC Tryz.prog Tryz.f253.ntmps []) = some c_slices_ContainsFunc_LLbyte_Lbyte := by kernel_rfl
theorem rs_slices_ContainsFunc_LLbyte_Lbyte : resSlots Tryz.prog Tryz.f253 = some [.s 4] := by kernel_rfl
theorem ok_slices_ContainsFunc_LLbyte_Lbyte (l : List DV) (D : DV → Prop) (g : DV → Bool) (hl : (l.length : Int) ≤ 9223372036854775807) (hD : ∀ x ∈ l, D x) :
    FnOK Tryz.prog 253 [.one (.d (lst l)), .one (.fv false (fcPred D g))] (fun ra _ => ra = [.one (.d (.sc (.bool (l.any g))))]) := by
  refine FnOK.ofK Tryz.func253 (by kernel_rfl) dg_slices_ContainsFunc_LLbyte_Lbyte rs_slices_ContainsFunc_LLbyte_Lbyte rfl rfl ?_
  delta c_slices_ContainsFunc_LLbyte_Lbyte T.o X.i
  refine kSeq (kReg (kMovC rfl (kDone ?_)))
  refine kSeq (kReg (kMovC rfl (kMovC rfl ?_)))
  refine kCall1 true (ok_slices_IndexFunc_LLbyte_Lbyte l D g hl hD) ⟨rfl, ⟨fun h => h, fun _ _ h => h⟩, trivial⟩ rfl rfl rfl fun os => ?_
  refine kBin rfl rfl rfl (kMovC rfl (kDone (kRet ?_)))
  refine endRet (ra := [.one (.d _)]) rfl ⟨⟨⟨rfl, .inl rfl⟩, trivial⟩, .nil, trivial, trivial, trivial⟩ ?_
  have : decide (idxF g l ≥ 0) = l.any g := by
    unfold idxF
    cases h : l.findIdx? g with
    | none =>
      rw [List.findIdx?_eq_none_iff] at h
      have : l.any g = false := by rw [List.any_eq_false]; intro x hx; simp [h x hx]
      rw [this]; rfl
    | some i =>
      rw [List.findIdx?_eq_some_iff_getElem] at h
      obtain ⟨h1, h2, _⟩ := h
      have : l.any g = true := by rw [List.any_eq_true]; exact ⟨_, List.getElem_mem h1, h2⟩
      rw [this]; simp
  rw [this]

def c_impl_all_Lbyte : C := (.seq (.reg false (.o 0 3 (.box 3 (.t 1)) (.o 1 4 (.mov (.v (.bool false))) .done))) (.seq (.reg false (.o 0 5 (.mov (.t 0)) (.o 1 6 (.clo 254 [] [(.t 3)]) (.o 2 7 (.call 7 253 [(.t 5), (.t 6)]) (.o 3 8 (.un .not (.t 7)) (.o 4 4 (.mov (.t 8)) .done)))))) .ret))
theorem dg_impl_all_Lbyte : Tryz.f178.body.bind (digC Tryz.prog Tryz.f178.ntmps []) = some c_impl_all_Lbyte := by kernel_rfl
theorem rs_impl_all_Lbyte : resSlots Tryz.prog Tryz.f178 = some [.s 4] := by kernel_rfl
theorem ok_impl_all_Lbyte (l : List DV) (D : DV → Prop) (g : DV → Bool) (hl : (l.length : Int) ≤ 9223372036854775807) (hD : ∀ x ∈ l, D x) :
    FnOK Tryz.prog 178 [.one (.d (lst l)), .one (.fv false (fcPred D g))] (fun ra _ => ra = [.one (.d (.sc (.bool (l.all g))))]) := by
  refine FnOK.ofK Tryz.func178 (by kernel_rfl) dg_impl_all_Lbyte rs_impl_all_Lbyte rfl rfl ?_
  delta c_impl_all_Lbyte T.o X.i
  refine kSeq (kReg (kBox rfl rfl rfl rfl rfl (kMovC rfl (kDone ?_))))
  refine kSeq (kReg (kMovC rfl (kClo rfl rfl ?_)))
  refine kCall1 true (ok_slices_ContainsFunc_LLbyte_Lbyte l D (fun x => !g x) hl hD) ⟨rfl, ⟨rfl, ⟨_, Tryz.func254, rfl, by kernel_rfl⟩, _, rfl, ?_⟩, trivial⟩ rfl rfl rfl fun os => ?_
  · rintro l R ⟨x, hx, rfl, rfl⟩
    exact ⟨by rintro _ rfl; rfl, ok_impl_all_Lbyte_1 x D g hx⟩
  refine kUn rfl rfl (kMovC rfl (kDone (kRet ?_)))
  refine endRet (ra := [.one (.d _)]) rfl ⟨⟨⟨rfl, .inl rfl⟩, trivial⟩, .nil, trivial, trivial, trivial⟩ ?_
  simp [List.all_eq_not_any_not]

def c_impl_NameOk : C := (.seq (.reg false (.o 0 1 (.box 1 (.t 0)) (.o 1 2 (.mov (.v (.bool false))) .done))) (.seq (.reg false (.o 0 3 (.fad (.t 1) 0) (.o 1 4 (.load none (.t 3)) (.o 2 5 (.len (.t 4)) (.o 3 6 (.bin .leq (.t 5) (.i 6)) (.o 4 7 (.mov (.t 6)) (.op 5 [] (some 8) (some (7, true)) false (.fad (.t 1) 0) (.op 6 [] (some 9) (some (7, true)) false (.load none (.t 8)) (.op 7 [] (some 10) (some (7, true)) false (.call 10 178 [(.t 9), (.fn 179)]) (.o 8 11 (.pick (.t 7) (.t 10) (.v (.bool false))) (.o 9 2 (.mov (.t 11)) .done))))))))))) .ret))
theorem dg_impl_NameOk : Tryz.f72.body.bind (digC Tryz.prog Tryz.f72.ntmps []) = some c_impl_NameOk := by kernel_rfl
theorem rs_impl_NameOk : resSlots Tryz.prog Tryz.f72 = some [.s 2] := by kernel_rfl
theorem ok_impl_NameOk (a : List (List UInt8)) (ha : a.length ≤ 4194304) (hb : ∀ b ∈ a, b.length ≤ 4194304) :
    FnOK Tryz.prog 72 [.agg [.d (encBB a)]] (fun ra _ => ra = [.one (.d (.sc (.bool (nameOk a))))]) := by
  refine FnOK.ofK Tryz.func72 (by kernel_rfl) dg_impl_NameOk rs_impl_NameOk rfl rfl ?_
  delta c_impl_NameOk T.o X.i
  refine kSeq (kReg (kBox rfl rfl rfl rfl rfl (kMovC rfl (kDone (kSeq (kReg (kFadP rfl rfl (kLoadP rfl rfl rfl (kLenR rfl rfl (kBin rfl rfl rfl (kMovC rfl (kGP rfl (fun g0 => kGT rfl (kFadP rfl rfl (kGT rfl (kLoadP rfl rfl rfl (kGT rfl ?_))))) (fun g0 => kGF rfl (kGF rfl (kGF rfl (kPickF rfl (kMovC rfl (kMovC rfl (kDone (kRet (endRetA (ra := [.one (.d _)]) rfl ?_)))))))))))))))))))))
  · refine kCall1 true (ok_impl_all_Lbyte (a.map encB) (fun x => ∃ b : List UInt8, x = encB b ∧ b.length ≤ 4194304) (fun x => labelOk (decB x)) (by simp; omega) (fun x hx => by obtain ⟨c, h, rfl⟩ := List.mem_map.1 hx; exact ⟨c, rfl, hb c h⟩)) ⟨congrArg some (encBB_lst a), ⟨rfl, rfl, ⟨_, Tryz.func179, rfl, by kernel_rfl⟩, ?_⟩, trivial⟩ rfl rfl rfl (fun _ => ?_)
    · rintro _ R ⟨x, ⟨c, rfl, h⟩, rfl, rfl⟩
      have := ok_impl_LabelOk c h
      simp only [decB_enc]
      exact this
    refine kPickT rfl (kMovC rfl (kMovC rfl (kDone (kRet (endRetA (ra := [.one (.d _)]) rfl ?_)))))
    rw [all_decB, show nameOk a = a.all labelOk by simp only [nameOk]; rw [decide_eq_true (by omega)]; rfl]
  · rw [show nameOk a = false by simp only [nameOk]; rw [decide_eq_false (by omega)]; rfl]

/-- What a type is called. -/
def typeTab : List (Int × ByteArray) := [(1, ⟨#[65]⟩), (2, ⟨#[78, 83]⟩), (5, ⟨#[67, 78, 65, 77, 69]⟩), (6, ⟨#[83, 79, 65]⟩), (12, ⟨#[80, 84, 82]⟩), (16, ⟨#[84, 88, 84]⟩), (49, ⟨#[68, 72, 67, 73, 68]⟩)]
def typeNm (n : Int) : ByteArray := ((typeTab.find? fun e => n == e.1).map (·.2)).getD ByteArray.empty
theorem ok_impl_typeName (n : Int) : FnOK Tryz.prog 241 [.one (.d (.sc (.int .i64 n)))] (fun ra _ => ra = [.one (.d (.sc (.string (typeNm n))))]) := by
  refine FnOK.ofWalk Tryz.func241 rfl (by kernel_rfl) fun w => ?_
  have kk : Tryz.prog.underlying 3 = some (.int .i64) := by kernel_rfl
  have hmm := @Go.RowKit.run_makeMap Tryz.prog
  go_enter Tryz.func241, Tryz.ntmps241
  go_wp2
  have t0 : Tab (w.alloc (.map #[] 0)) w.heap.size [] := ⟨_, _, (MapKept.heap_alloc w _).1, rfl⟩
  have b0 : Go.RowKit.Below w.heap.size w (w.alloc (.map #[] 0)) := (Go.RowKit.Below.refl _ _).alloc (Nat.le_refl _) _
  have st : ∀ {w1 w2 : World}, Go.RowKit.Below w.heap.size w w1 → Ext w1 w2 (fun b => b = w.heap.size) → Go.RowKit.Below w.heap.size w w2 := fun h e => ⟨e.os.trans h.os, e.tape.trans h.tape, e.output.trans h.output, Nat.le_trans h.size e.size, fun k hk => (e.same k (Nat.lt_of_lt_of_le hk h.size) (by omega)).trans (h.block k hk)⟩
  refine upon_insert (kt := 3) (et := 9) ?_ kk t0 ?_ (fun w1 t1 e1 => ?_)
  · kernel_rfl
  · rfl
  have b1 := st b0 e1
  go_wp2
  refine upon_insert (kt := 3) (et := 9) ?_ kk t1 ?_ (fun w2 t2 e2 => ?_)
  · kernel_rfl
  · rfl
  have b2 := st b1 e2
  go_wp2
  refine upon_insert (kt := 3) (et := 9) ?_ kk t2 ?_ (fun w3 t3 e3 => ?_)
  · kernel_rfl
  · rfl
  have b3 := st b2 e3
  go_wp2
  refine upon_insert (kt := 3) (et := 9) ?_ kk t3 ?_ (fun w4 t4 e4 => ?_)
  · kernel_rfl
  · rfl
  have b4 := st b3 e4
  go_wp2
  refine upon_insert (kt := 3) (et := 9) ?_ kk t4 ?_ (fun w5 t5 e5 => ?_)
  · kernel_rfl
  · rfl
  have b5 := st b4 e5
  go_wp2
  refine upon_insert (kt := 3) (et := 9) ?_ kk t5 ?_ (fun w6 t6 e6 => ?_)
  · kernel_rfl
  · rfl
  have b6 := st b5 e6
  go_wp2
  refine upon_insert (kt := 3) (et := 9) ?_ kk t6 ?_ (fun w7 t7 e7 => ?_)
  · kernel_rfl
  · rfl
  have b7 := st b6 e7
  go_wp2
  refine upon_find (kt := 3) (et := 9) ?_ kk ?_ t7 ?_
  · kernel_rfl
  · rfl
  go_wp2
  all_goals go_ret
  exact ⟨rfl, b7⟩

theorem typeNm_ok (n : Int) : (!((typeNm n).toList == (⟨#[]⟩ : ByteArray).toList)) = tyOk n := by
  by_cases h1 : n = 1
  · subst h1; rw [ByteArray.toList_eq, ByteArray.toList_eq]; rfl
  by_cases h2 : n = 2
  · subst h2; rw [ByteArray.toList_eq, ByteArray.toList_eq]; rfl
  by_cases h3 : n = 5
  · subst h3; rw [ByteArray.toList_eq, ByteArray.toList_eq]; rfl
  by_cases h4 : n = 6
  · subst h4; rw [ByteArray.toList_eq, ByteArray.toList_eq]; rfl
  by_cases h5 : n = 12
  · subst h5; rw [ByteArray.toList_eq, ByteArray.toList_eq]; rfl
  by_cases h6 : n = 16
  · subst h6; rw [ByteArray.toList_eq, ByteArray.toList_eq]; rfl
  by_cases h7 : n = 49
  · subst h7; rw [ByteArray.toList_eq, ByteArray.toList_eq]; rfl
  have e : ∀ m : Int, n ≠ m → (n == m) = false := fun m h => by simpa using h
  have : typeNm n = ByteArray.empty := by
    unfold typeNm typeTab
    simp only [List.find?_cons, e 1 h1, e 2 h2, e 5 h3, e 6 h4, e 12 h5, e 16 h6, e 49 h7, List.find?_nil]
    rfl
  rw [this]
  simp only [tyOk, e 1 h1, e 2 h2, e 5 h3, e 6 h4, e 12 h5, e 16 h6, e 49 h7]
  rw [ByteArray.toList_eq, ByteArray.toList_eq]; rfl

def c_impl_TypeOk : C := (.seq (.reg false (.o 0 2 (.mov (.v (.bool false))) .done)) (.seq (.reg false (.o 0 3 (.mov (.t 0)) (.o 1 4 (.call 4 241 [(.t 3)]) (.o 2 5 (.bin .neq (.t 4) (.v (.string ⟨#[]⟩))) (.o 3 2 (.mov (.t 5)) .done))))) .ret))
theorem dg_impl_TypeOk : Tryz.f155.body.bind (digC Tryz.prog Tryz.f155.ntmps []) = some c_impl_TypeOk := by kernel_rfl
theorem rs_impl_TypeOk : resSlots Tryz.prog Tryz.f155 = some [.s 2] := by kernel_rfl
theorem ok_impl_TypeOk (n : Int) : FnOK Tryz.prog 155 [.one (.d (.sc (.int .i64 n)))] (fun ra _ => ra = [.one (.d (.sc (.bool (tyOk n))))]) := by
  rw [← typeNm_ok]
  refine FnOK.ofK Tryz.func155 (by kernel_rfl) dg_impl_TypeOk rs_impl_TypeOk rfl rfl ?_
  delta c_impl_TypeOk T.o X.i
  refine kSeq (kReg (kMovC rfl (kDone (kSeq (kReg (kMovC rfl (kCallD (ok_impl_typeName _) ⟨rfl, trivial⟩ rfl rfl rfl rfl rfl (kBin rfl rfl rfl (kMovC rfl (kDone (kRet (endRetA (ra := [.one (.d _)]) rfl rfl))))))))))))

def c_impl_isAsked : C := (.seq (.reg false (.o 0 2 (.mov (.v (.bool false))) .done)) (.seq (.reg false (.o 0 3 (.mov (.t 0)) (.o 1 4 (.call 4 155 [(.t 3)]) (.o 2 5 (.mov (.t 4)) (.op 3 [] (some 6) (some (5, false)) false (.mov (.t 0)) (.op 4 [] (some 7) (some (5, false)) false (.bin .eql (.t 6) (.i 255)) (.o 5 8 (.pick (.t 5) (.v (.bool true)) (.t 7)) (.o 6 2 (.mov (.t 8)) .done)))))))) .ret))
theorem dg_impl_isAsked : Tryz.f73.body.bind (digC Tryz.prog Tryz.f73.ntmps []) = some c_impl_isAsked := by kernel_rfl
theorem rs_impl_isAsked : resSlots Tryz.prog Tryz.f73 = some [.s 2] := by kernel_rfl
theorem ok_impl_isAsked (t : Int) :
    FnOK Tryz.prog 73 [.one (.d (.sc (.int .i64 t)))] (fun ra _ => ra = [.one (.d (.sc (.bool (askedT t))))]) := by
  refine FnOK.ofK Tryz.func73 (by kernel_rfl) dg_impl_isAsked rs_impl_isAsked rfl rfl ?_
  delta c_impl_isAsked T.o X.i
  refine kSeq (kReg (kMovC rfl (kDone (kSeq (kReg (kMovC rfl (kCallD (ok_impl_TypeOk _) ⟨rfl, trivial⟩ rfl rfl rfl rfl rfl (kMovC rfl (kGS rfl (fun g0 => kGF rfl (kGF rfl (kPickT rfl (kMovC rfl (kMovC rfl (kDone (kRet (endRetA (ra := [.one (.d _)]) rfl ?_)))))))) (fun g0 => kGT rfl (kMovC rfl (kGT rfl (kBin rfl rfl rfl (kPickF rfl (kMovC rfl (kMovC rfl (kDone (kRet (endRetA (ra := [.one (.d _)]) rfl ?_)))))))))))))))))))
  all_goals simp_all [askedT]

def c_impl_isWord : C := (.seq (.reg false (.o 0 2 (.mov (.v (.bool false))) .done)) (.seq (.reg false (.o 0 3 (.mov (.t 0)) (.o 1 4 (.call 4 147 [(.t 3), (.i 0), (.i 4294967295)]) (.o 2 2 (.mov (.t 4)) .done)))) .ret))
theorem dg_impl_isWord : Tryz.f192.body.bind (digC Tryz.prog Tryz.f192.ntmps []) = some c_impl_isWord := by kernel_rfl
theorem rs_impl_isWord : resSlots Tryz.prog Tryz.f192 = some [.s 2] := by kernel_rfl
theorem ok_impl_isWord (n : Int) : FnOK Tryz.prog 192 [.one (.d (.sc (.int .i64 n)))] (fun ra _ => ra = [.one (.d (.sc (.bool (isW n))))]) := by
  refine FnOK.ofK Tryz.func192 (by kernel_rfl) dg_impl_isWord rs_impl_isWord rfl rfl ?_
  delta c_impl_isWord T.o X.i
  refine kSeq (kReg (kMovC rfl (kDone (kSeq (kReg (kMovC rfl (kCallD (ok_impl_within _ _ _) ⟨rfl, rfl, rfl, trivial⟩ rfl rfl rfl rfl rfl (kMovC rfl (kDone (kRet (endRetA (ra := [.one (.d _)]) rfl ?_)))))))))))
  rw [show isW n = decide (0 ≤ n ∧ n ≤ 4294967295) by unfold isW; rw [Bool.eq_iff_iff]; simp; omega]

def c_impl_hasTo : C := (.seq (.reg false (.o 0 2 (.mov (.v (.bool false))) .done)) (.seq (.reg false (.o 0 3 (.mov (.t 0)) (.o 1 4 (.bin .eql (.t 3) (.i 2)) (.o 2 5 (.mov (.t 4)) (.op 3 [] (some 6) (some (5, false)) false (.mov (.t 0)) (.op 4 [] (some 7) (some (5, false)) false (.bin .eql (.t 6) (.i 5)) (.o 5 8 (.pick (.t 5) (.v (.bool true)) (.t 7)) (.o 6 9 (.mov (.t 8)) (.op 7 [] (some 10) (some (9, false)) false (.mov (.t 0)) (.op 8 [] (some 11) (some (9, false)) false (.bin .eql (.t 10) (.i 6)) (.o 9 12 (.pick (.t 9) (.v (.bool true)) (.t 11)) (.o 10 13 (.mov (.t 12)) (.op 11 [] (some 14) (some (13, false)) false (.mov (.t 0)) (.op 12 [] (some 15) (some (13, false)) false (.bin .eql (.t 14) (.i 12)) (.o 13 16 (.pick (.t 13) (.v (.bool true)) (.t 15)) (.o 14 2 (.mov (.t 16)) .done)))))))))))))))) .ret))
theorem dg_impl_hasTo : Tryz.f193.body.bind (digC Tryz.prog Tryz.f193.ntmps []) = some c_impl_hasTo := by kernel_rfl
theorem rs_impl_hasTo : resSlots Tryz.prog Tryz.f193 = some [.s 2] := by kernel_rfl
theorem ok_impl_hasTo (n : Int) : FnOK Tryz.prog 193 [.one (.d (.sc (.int .i64 n)))] (fun ra _ => ra = [.one (.d (.sc (.bool (hasTo n))))]) := by
  refine FnOK.ofK Tryz.func193 (by kernel_rfl) dg_impl_hasTo rs_impl_hasTo rfl rfl ?_
  delta c_impl_hasTo T.o X.i
  refine kSeq (kReg (kMovC rfl (kDone (kSeq (kReg (kMovC rfl (kBin rfl rfl rfl (kMovC rfl (kGP rfl (fun g0 => kGF rfl (kGF rfl (kPickT rfl (kMovC rfl (kMovC rfl (kGF rfl (kGF rfl (kPickT rfl (kMovC rfl (kMovC rfl (kGF rfl (kGF rfl (kPickT rfl (kMovC rfl (kMovC rfl (kDone (kRet (endRetA (ra := [.one (.d _)]) rfl ?_)))))))))))))))))) (fun g0 => kGT rfl (kMovC rfl (kGT rfl (kBin rfl rfl rfl (kPickF rfl (kMovC rfl (kMovC rfl (kGP rfl (fun g1 => kGF rfl (kGF rfl (kPickT rfl (kMovC rfl (kMovC rfl (kGF rfl (kGF rfl (kPickT rfl (kMovC rfl (kMovC rfl (kDone (kRet (endRetA (ra := [.one (.d _)]) rfl ?_))))))))))))) (fun g1 => kGT rfl (kMovC rfl (kGT rfl (kBin rfl rfl rfl (kPickF rfl (kMovC rfl (kMovC rfl (kGP rfl (fun g2 => kGF rfl (kGF rfl (kPickT rfl (kMovC rfl (kMovC rfl (kDone (kRet (endRetA (ra := [.one (.d _)]) rfl ?_)))))))) (fun g2 => kGT rfl (kMovC rfl (kGT rfl (kBin rfl rfl rfl (kPickF rfl (kMovC rfl (kMovC rfl (kDone (kRet (endRetA (ra := [.one (.d _)]) rfl ?_)))))))))))))))))))))))))))))))))))
  all_goals simp_all [hasTo]

def c_impl_hasText : C := (.seq (.reg false (.o 0 2 (.mov (.v (.bool false))) .done)) (.seq (.reg false (.o 0 3 (.mov (.t 0)) (.o 1 4 (.bin .eql (.t 3) (.i 16)) (.o 2 5 (.mov (.t 4)) (.op 3 [] (some 6) (some (5, false)) false (.mov (.t 0)) (.op 4 [] (some 7) (some (5, false)) false (.bin .eql (.t 6) (.i 49)) (.o 5 8 (.pick (.t 5) (.v (.bool true)) (.t 7)) (.o 6 2 (.mov (.t 8)) .done)))))))) .ret))
theorem dg_impl_hasText : Tryz.f194.body.bind (digC Tryz.prog Tryz.f194.ntmps []) = some c_impl_hasText := by kernel_rfl
theorem rs_impl_hasText : resSlots Tryz.prog Tryz.f194 = some [.s 2] := by kernel_rfl
theorem ok_impl_hasText (n : Int) : FnOK Tryz.prog 194 [.one (.d (.sc (.int .i64 n)))] (fun ra _ => ra = [.one (.d (.sc (.bool (hasText n))))]) := by
  refine FnOK.ofK Tryz.func194 (by kernel_rfl) dg_impl_hasText rs_impl_hasText rfl rfl ?_
  delta c_impl_hasText T.o X.i
  refine kSeq (kReg (kMovC rfl (kDone (kSeq (kReg (kMovC rfl (kBin rfl rfl rfl (kMovC rfl (kGP rfl (fun g0 => kGF rfl (kGF rfl (kPickT rfl (kMovC rfl (kMovC rfl (kDone (kRet (endRetA (ra := [.one (.d _)]) rfl ?_)))))))) (fun g0 => kGT rfl (kMovC rfl (kGT rfl (kBin rfl rfl rfl (kPickF rfl (kMovC rfl (kMovC rfl (kDone (kRet (endRetA (ra := [.one (.d _)]) rfl ?_)))))))))))))))))))
  all_goals simp_all [hasText]

def c_impl_RrOk : C := (.seq (.reg false (.o 0 1 (.box 1 (.t 0)) (.o 1 2 (.mov (.v (.bool false))) .done))) (.seq (.seq (.reg false (.o 0 7 (.fad (.t 1) 0) (.o 1 8 (.load (some 1) (.t 7)) (.o 2 9 (.call 9 72 [(.t 8)]) (.o 3 10 (.un .not (.t 9)) (.o 4 11 (.mov (.t 10)) (.op 5 [] (some 12) (some (11, false)) false (.fad (.t 1) 1) (.op 6 [] (some 13) (some (11, false)) false (.load none (.t 12)) (.op 7 [] (some 14) (some (11, false)) false (.call 14 155 [(.t 13)]) (.op 8 [] (some 15) (some (11, false)) false (.un .not (.t 14)) (.o 9 16 (.pick (.t 11) (.v (.bool true)) (.t 15)) (.o 10 17 (.mov (.t 16)) (.op 11 [] (some 18) (some (17, false)) false (.fad (.t 1) 2) (.op 12 [] (some 19) (some (17, false)) false (.load none (.t 18)) (.op 13 [] (some 20) (some (17, false)) false (.call 20 147 [(.t 19), (.i 0), (.i 100000)]) (.op 14 [] (some 21) (some (17, false)) false (.un .not (.t 20)) (.o 15 22 (.pick (.t 17) (.v (.bool true)) (.t 21)) .done))))))))))))))))) (.cond (.t 22) (.seq (.reg false (.o 0 2 (.mov (.v (.bool false))) .done)) .ret) .skip)) (.seq (.reg false (.o 0 23 (.fad (.t 1) 6) (.o 1 24 (.load none (.t 23)) (.o 2 25 (.len (.t 24)) (.o 3 26 (.bin .eql (.t 25) (.i 0)) (.o 4 3 (.mov (.t 26)) .done)))))) (.seq (.seq (.reg false (.o 0 27 (.fad (.t 1) 1) (.o 1 28 (.load none (.t 27)) (.o 2 29 (.bin .eql (.t 28) (.i 6)) .done)))) (.cond (.t 29) (.reg false (.o 0 30 (.fad (.t 1) 6) (.o 1 31 (.load none (.t 30)) (.o 2 32 (.len (.t 31)) (.o 3 33 (.bin .eql (.t 32) (.i 2)) (.o 4 34 (.mov (.t 33)) (.op 5 [] (some 35) (some (34, true)) false (.fad (.t 1) 6) (.op 6 [] (some 36) (some (34, true)) false (.load none (.t 35)) (.op 7 [] (some 37) (some (34, true)) false (.iad 1 (.t 36) (.i 0)) (.op 8 [] (some 38) (some (34, true)) false (.load none (.t 37)) (.op 9 [] (some 39) (some (34, true)) false (.call 39 192 [(.t 38)]) (.o 10 40 (.pick (.t 34) (.t 39) (.v (.bool false))) (.o 11 41 (.mov (.t 40)) (.op 12 [] (some 42) (some (41, true)) false (.fad (.t 1) 6) (.op 13 [] (some 43) (some (41, true)) false (.load none (.t 42)) (.op 14 [] (some 44) (some (41, true)) false (.iad 1 (.t 43) (.i 1)) (.op 15 [] (some 45) (some (41, true)) false (.load none (.t 44)) (.op 16 [] (some 46) (some (41, true)) false (.call 46 147 [(.t 45), (.i 0), (.i 100000)]) (.o 17 47 (.pick (.t 41) (.t 46) (.v (.bool false))) (.o 18 3 (.mov (.t 47)) .done)))))))))))))))))))) .skip)) (.seq (.reg false (.o 0 48 (.fad (.t 1) 3) (.o 1 49 (.load none (.t 48)) (.o 2 50 (.bin .eql (.t 49) (.i 0)) (.o 3 51 (.mov (.t 50)) (.op 4 [] (some 52) (some (51, false)) false (.fad (.t 1) 1) (.op 5 [] (some 53) (some (51, false)) false (.load none (.t 52)) (.op 6 [] (some 54) (some (51, false)) false (.bin .eql (.t 53) (.i 1)) (.op 7 [] (some 55) (some (51, false)) false (.mov (.t 54)) (.op 8 [] (some 56) (some (55, true)) false (.fad (.t 1) 3) (.op 9 [] (some 57) (some (55, true)) false (.load none (.t 56)) (.op 10 [] (some 58) (some (55, true)) false (.call 58 192 [(.t 57)]) (.op 11 [] (some 59) (some (51, false)) false (.pick (.t 55) (.t 58) (.v (.bool false))) (.o 12 60 (.pick (.t 51) (.v (.bool true)) (.t 59)) (.o 13 4 (.mov (.t 60)) .done))))))))))))))) (.seq (.reg false (.o 0 61 (.fad (.t 1) 4) (.o 1 62 (.fad (.t 61) 0) (.o 2 63 (.load none (.t 62)) (.o 3 64 (.len (.t 63)) (.o 4 65 (.bin .eql (.t 64) (.i 0)) (.o 5 66 (.mov (.t 65)) (.op 6 [] (some 67) (some (66, false)) false (.fad (.t 1) 1) (.op 7 [] (some 68) (some (66, false)) false (.load none (.t 67)) (.op 8 [] (some 69) (some (66, false)) false (.call 69 193 [(.t 68)]) (.op 9 [] (some 70) (some (66, false)) false (.mov (.t 69)) (.op 10 [] (some 71) (some (70, true)) false (.fad (.t 1) 4) (.op 11 [] (some 72) (some (70, true)) false (.load (some 1) (.t 71)) (.op 12 [] (some 73) (some (70, true)) false (.call 73 72 [(.t 72)]) (.op 13 [] (some 74) (some (66, false)) false (.pick (.t 70) (.t 73) (.v (.bool false))) (.o 14 75 (.pick (.t 66) (.v (.bool true)) (.t 74)) (.o 15 5 (.mov (.t 75)) .done))))))))))))))))) (.seq (.reg false (.o 0 76 (.fad (.t 1) 5) (.o 1 77 (.load none (.t 76)) (.o 2 78 (.len (.t 77)) (.o 3 79 (.bin .eql (.t 78) (.i 0)) (.o 4 80 (.mov (.t 79)) (.op 5 [] (some 81) (some (80, false)) false (.fad (.t 1) 1) (.op 6 [] (some 82) (some (80, false)) false (.load none (.t 81)) (.op 7 [] (some 83) (some (80, false)) false (.call 83 194 [(.t 82)]) (.op 8 [] (some 84) (some (80, false)) false (.mov (.t 83)) (.op 9 [] (some 85) (some (84, true)) false (.fad (.t 1) 5) (.op 10 [] (some 86) (some (84, true)) false (.load none (.t 85)) (.op 11 [] (some 87) (some (84, true)) false (.len (.t 86)) (.op 12 [] (some 88) (some (84, true)) false (.bin .leq (.t 87) (.i 40)) (.op 13 [] (some 89) (some (80, false)) false (.pick (.t 84) (.t 88) (.v (.bool false))) (.o 14 90 (.pick (.t 80) (.v (.bool true)) (.t 89)) (.o 15 6 (.mov (.t 90)) .done))))))))))))))))) (.seq (.reg false (.o 0 91 (.mov (.t 3)) (.o 1 92 (.mov (.t 91)) (.op 2 [] (some 93) (some (92, true)) false (.mov (.t 4)) (.o 3 94 (.pick (.t 92) (.t 93) (.v (.bool false))) (.o 4 95 (.mov (.t 94)) (.op 5 [] (some 96) (some (95, true)) false (.mov (.t 5)) (.o 6 97 (.pick (.t 95) (.t 96) (.v (.bool false))) (.o 7 98 (.mov (.t 97)) (.op 8 [] (some 99) (some (98, true)) false (.mov (.t 6)) (.o 9 100 (.pick (.t 98) (.t 99) (.v (.bool false))) (.o 10 2 (.mov (.t 100)) .done)))))))))))) .ret))))))))
theorem dg_impl_RrOk : Tryz.f88.body.bind (digC Tryz.prog Tryz.f88.ntmps []) = some c_impl_RrOk := by kernel_rfl
theorem rs_impl_RrOk : resSlots Tryz.prog Tryz.f88 = some [.s 2] := by kernel_rfl
theorem ok_impl_RrOk (r : Rr) (hs : SmallR r) :
    FnOK Tryz.prog 88 [.agg (r.cells.map .d)] (fun ra _ => ra = [.one (.d (.sc (.bool (rrOk r))))]) := by
  refine FnOK.ofK Tryz.func88 (by kernel_rfl) dg_impl_RrOk rs_impl_RrOk rfl rfl ?_
  delta c_impl_RrOk T.o X.i
  have n1 := hs.n.len
  have n2 := hs.n.mem
  have t1 := hs.t.len
  have t2 := hs.t.mem
  have x1 := hs.x
  have m1 := hs.m
  refine kSeq (kReg (kBox rfl rfl rfl rfl rfl (kMovC rfl (kDone ?_))))
  by_cases h0 : nameOk r.name = true ∧ tyOk r.ty = true ∧ (0 ≤ r.ttl ∧ r.ttl ≤ 100000)
  case neg =>
    rw [show rrOk r = false by simp only [rrOk]; revert h0; cases nameOk r.name <;> cases tyOk r.ty <;> simp <;> intros <;> omega]
    refine kSeq ?_
    cases h1 : nameOk r.name
    case false => refine kSeq (kReg (kFadP rfl rfl (kLoadP rfl rfl rfl (kCallD (ok_impl_NameOk _ pr pr) ⟨⟨⟨rfl, trivial⟩, leb⟩, trivial⟩ rfl rfl rfl rfl rfl (kUn rfl rfl (kMovC rfl (kGN rfl (fun g0 => kGF rfl (kGF rfl (kGF rfl (kGF rfl (kPickT rfl (kMovC rfl (kMovC rfl (kGF rfl (kGF rfl (kGF rfl (kGF rfl (kPickT rfl (kMovC rfl (kDone (kCondT rfl (kSeq (kReg (kMovC rfl (kDone (kRet (endRetA (ra := [.one (.d _)]) rfl rfl))))))))))))))))))))) (fun g0 => (by (simp [*] at g0))))))))))
    cases h2 : tyOk r.ty
    case false => refine kSeq (kReg (kFadP rfl rfl (kLoadP rfl rfl rfl (kCallD (ok_impl_NameOk _ pr pr) ⟨⟨⟨rfl, trivial⟩, leb⟩, trivial⟩ rfl rfl rfl rfl rfl (kUn rfl rfl (kMovC rfl (kGN rfl (fun g0 => (by (simp [*] at g0))) (fun g0 => kGT rfl (kFadP rfl rfl (kGT rfl (kLoadP rfl rfl rfl (kGT rfl (kCallD (ok_impl_TypeOk _) ⟨rfl, trivial⟩ rfl rfl rfl rfl rfl (kGT rfl (kUn rfl rfl (kPickF rfl (kMovC rfl (kMovC rfl (kGN rfl (fun g1 => kGF rfl (kGF rfl (kGF rfl (kGF rfl (kPickT rfl (kMovC rfl (kDone (kCondT rfl (kSeq (kReg (kMovC rfl (kDone (kRet (endRetA (ra := [.one (.d _)]) rfl rfl)))))))))))))) (fun g1 => (by (simp [*] at g1))))))))))))))))))))))
    have h3 : ¬ (0 ≤ r.ttl ∧ r.ttl ≤ 100000) := fun h => h0 ⟨h1, h2, h⟩
    refine kSeq (kReg (kFadP rfl rfl (kLoadP rfl rfl rfl (kCallD (ok_impl_NameOk _ pr pr) ⟨⟨⟨rfl, trivial⟩, leb⟩, trivial⟩ rfl rfl rfl rfl rfl (kUn rfl rfl (kMovC rfl (kGN rfl (fun g0 => (by (simp [*] at g0))) (fun g0 => kGT rfl (kFadP rfl rfl (kGT rfl (kLoadP rfl rfl rfl (kGT rfl (kCallD (ok_impl_TypeOk _) ⟨rfl, trivial⟩ rfl rfl rfl rfl rfl (kGT rfl (kUn rfl rfl (kPickF rfl (kMovC rfl (kMovC rfl (kGN rfl (fun g1 => (by (simp [*] at g1))) (fun g1 => kGT rfl (kFadP rfl rfl (kGT rfl (kLoadP rfl rfl rfl (kGT rfl (kCallD (ok_impl_within _ _ _) ⟨rfl, rfl, rfl, trivial⟩ rfl rfl rfl rfl rfl (kGT rfl (kUn rfl rfl (kPickF rfl (kMovC rfl (kDone (kCondN rfl (fun g2 => kSeq (kReg (kMovC rfl (kDone (kRet (endRetA (ra := [.one (.d _)]) rfl rfl)))))) (fun g2 => (by (simp [*] at g2))))))))))))))))))))))))))))))))))
  obtain ⟨h1, h2, h3⟩ := h0
  rw [show rrOk r = dataOk r by simp only [rrOk]; rw [h1, h2, decide_eq_true h3.1, decide_eq_true h3.2]; rfl]
  refine kSeq (kCut ⟨tabSl [(1, .c (.ptr (rid 1 0) 1 0))], obTab 1 [(rid 1 0, ⟨1, 0, .box (r.cells.map .d)⟩)], []⟩ ?_ (fun x hc => ?_))
  case refine_2 =>
    refine kSeq (kReg (kFadP rfl rfl (kLoadP rfl rfl rfl (kCallD (ok_impl_NameOk _ pr pr) ⟨⟨⟨rfl, trivial⟩, leb⟩, trivial⟩ rfl rfl rfl rfl rfl (kUn rfl rfl (kMovC rfl (kGN rfl (fun g0 => (by (simp [*] at g0))) (fun g0 => kGT rfl (kFadP rfl rfl (kGT rfl (kLoadP rfl rfl rfl (kGT rfl (kCallD (ok_impl_TypeOk _) ⟨rfl, trivial⟩ rfl rfl rfl rfl rfl (kGT rfl (kUn rfl rfl (kPickF rfl (kMovC rfl (kMovC rfl (kGN rfl (fun g1 => (by (simp [*] at g1))) (fun g1 => kGT rfl (kFadP rfl rfl (kGT rfl (kLoadP rfl rfl rfl (kGT rfl (kCallD (ok_impl_within _ _ _) ⟨rfl, rfl, rfl, trivial⟩ rfl rfl rfl rfl rfl (kGT rfl (kUn rfl rfl (kPickF rfl (kMovC rfl (kDone (kCondN rfl (fun g2 => (by (simp [*] at g2))) (fun g2 => kSkip (hc _ .normA)))))))))))))))))))))))))))))))))
  refine kSeq (kCut ⟨tabSl [(1, .c (.ptr (rid 1 0) 1 0)), (3, .b (((r.nums.length : Int) == 0)))], obTab 1 [(rid 1 0, ⟨1, 0, .box (r.cells.map .d)⟩)], []⟩ ?_ (fun x hc => ?_))
  case refine_2 => refine kReg (kFadP rfl rfl (kLoadP rfl rfl rfl (kLenR rfl rfl (kBin rfl rfl rfl (kMovC rfl (kDone (hc _ .normA)))))))
  refine kSeq (kCut ⟨tabSl [(1, .c (.ptr (rid 1 0) 1 0)), (3, .b ((if r.ty == 6 then numsOk r.nums else ((r.nums.length : Int) == 0))))], obTab 1 [(rid 1 0, ⟨1, 0, .box (r.cells.map .d)⟩)], []⟩ ?_ (fun x hc => ?_))
  case refine_2 =>
    refine kSeq (kReg (kFadP rfl rfl (kLoadP rfl rfl rfl (kBin rfl rfl rfl (kDone (kCondP rfl (fun g0 => kReg (kFadP rfl rfl (kLoadP rfl rfl rfl (kLenR rfl rfl (kBin rfl rfl rfl (kMovC rfl (kGP rfl (fun g1 => kGT rfl (kFadP rfl rfl (kGT rfl (kLoadP rfl rfl rfl (kGT rfl (kIadR rfl rfl rfl (by omega) (kGT rfl (kLoadD rfl rfl (kGT rfl (kCallD (ok_impl_isWord _) ⟨rfl, trivial⟩ rfl rfl rfl rfl rfl (kPickT rfl (kMovC rfl (kMovC rfl (kGS rfl (fun g2 => kGT rfl (kFadP rfl rfl (kGT rfl (kLoadP rfl rfl rfl (kGT rfl (kIadR rfl rfl rfl (by omega) (kGT rfl (kLoadD rfl rfl (kGT rfl (kCallD (ok_impl_within _ _ _) ⟨rfl, rfl, rfl, trivial⟩ rfl rfl rfl rfl rfl (kPickT rfl (kMovC rfl (kMovC rfl (kDone (hc _ .normA))))))))))))))) (fun g2 => kGF rfl (kGF rfl (kGF rfl (kGF rfl (kGF rfl (kPickF rfl (kMovC rfl (kMovC rfl (kDone (hc _ .normA)))))))))))))))))))))))) (fun g1 => kGF rfl (kGF rfl (kGF rfl (kGF rfl (kGF rfl (kPickF rfl (kMovC rfl (kMovC rfl (kGF rfl (kGF rfl (kGF rfl (kGF rfl (kGF rfl (kPickF rfl (kMovC rfl (kMovC rfl (kDone (hc _ .normA))))))))))))))))))))))))) (fun g0 => kSkip (hc _ .normA))))))))
  refine kSeq (kCut ⟨tabSl [(1, .c (.ptr (rid 1 0) 1 0)), (3, .b ((if r.ty == 6 then numsOk r.nums else ((r.nums.length : Int) == 0)))), (4, .b ((if r.ty == 1 then isW r.addr else r.addr == 0)))], obTab 1 [(rid 1 0, ⟨1, 0, .box (r.cells.map .d)⟩)], []⟩ ?_ (fun x hc => ?_))
  case refine_2 =>
    refine kReg (kFadP rfl rfl (kLoadP rfl rfl rfl (kBin rfl rfl rfl (kMovC rfl (kGP rfl (fun g0 => kGF rfl (kGF rfl (kGF rfl (kGF rfl (kGU rfl (kGU rfl (kGU rfl (kGF rfl (kPickT rfl (kMovC rfl (kMovC rfl (kDone (hc _ .normA))))))))))))) (fun g0 => kGT rfl (kFadP rfl rfl (kGT rfl (kLoadP rfl rfl rfl (kGT rfl (kBin rfl rfl rfl (kGT rfl (kMovC rfl (kGP rfl (fun g1 => kGT rfl (kFadP rfl rfl (kGT rfl (kLoadP rfl rfl rfl (kGT rfl (kCallD (ok_impl_isWord _) ⟨rfl, trivial⟩ rfl rfl rfl rfl rfl (kGT rfl (kPickT rfl (kMovC rfl (kPickF rfl (kMovC rfl (kMovC rfl (kDone (hc _ .normA)))))))))))))) (fun g1 => kGF rfl (kGF rfl (kGF rfl (kGT rfl (kPickF rfl (kMovC rfl (kPickF rfl (kMovC rfl (kMovC rfl (kDone (hc _ .normA)))))))))))))))))))))))))
  refine kSeq (kCut ⟨tabSl [(1, .c (.ptr (rid 1 0) 1 0)), (3, .b ((if r.ty == 6 then numsOk r.nums else ((r.nums.length : Int) == 0)))), (4, .b ((if r.ty == 1 then isW r.addr else r.addr == 0))), (5, .b ((if hasTo r.ty then nameOk r.to else ((r.to.length : Int) == 0))))], obTab 1 [(rid 1 0, ⟨1, 0, .box (r.cells.map .d)⟩)], []⟩ ?_ (fun x hc => ?_))
  case refine_2 =>
    refine kReg (kFadP rfl rfl (kFadP rfl rfl (kLoadP rfl rfl rfl (kLenR rfl rfl (kBin rfl rfl rfl (kMovC rfl (kGP rfl (fun g0 => kGF rfl (kGF rfl (kGF rfl (kGF rfl (kGU rfl (kGU rfl (kGU rfl (kGF rfl (kPickT rfl (kMovC rfl (kMovC rfl (kDone (hc _ .normA))))))))))))) (fun g0 => kGT rfl (kFadP rfl rfl (kGT rfl (kLoadP rfl rfl rfl (kGT rfl (kCallD (ok_impl_hasTo _) ⟨rfl, trivial⟩ rfl rfl rfl rfl rfl (kGT rfl (kMovC rfl (kGS rfl (fun g1 => kGT rfl (kFadP rfl rfl (kGT rfl (kLoadP rfl rfl rfl (kGT rfl (kCallD (ok_impl_NameOk _ pr pr) ⟨⟨⟨rfl, trivial⟩, leb⟩, trivial⟩ rfl rfl rfl rfl rfl (kGT rfl (kPickT rfl (kMovC rfl (kPickF rfl (kMovC rfl (kMovC rfl (kDone (hc _ .normA)))))))))))))) (fun g1 => kGF rfl (kGF rfl (kGF rfl (kGT rfl (kPickF rfl (kMovC rfl (kPickF rfl (kMovC rfl (kMovC rfl (kDone (hc _ .normA)))))))))))))))))))))))))))
  refine kSeq (kCut ⟨tabSl [(1, .c (.ptr (rid 1 0) 1 0)), (3, .b ((if r.ty == 6 then numsOk r.nums else ((r.nums.length : Int) == 0)))), (4, .b ((if r.ty == 1 then isW r.addr else r.addr == 0))), (5, .b ((if hasTo r.ty then nameOk r.to else ((r.to.length : Int) == 0)))), (6, .b ((if hasText r.ty then decide ((r.text.length : Int) ≤ 40) else ((r.text.length : Int) == 0))))], obTab 1 [(rid 1 0, ⟨1, 0, .box (r.cells.map .d)⟩)], []⟩ ?_ (fun x hc => ?_))
  case refine_2 =>
    refine kReg (kFadP rfl rfl (kLoadP rfl rfl rfl (kLenR rfl rfl (kBin rfl rfl rfl (kMovC rfl (kGP rfl (fun g0 => kGF rfl (kGF rfl (kGF rfl (kGF rfl (kGU rfl (kGU rfl (kGU rfl (kGU rfl (kGF rfl (kPickT rfl (kMovC rfl (kMovC rfl (kDone (hc _ .normA)))))))))))))) (fun g0 => kGT rfl (kFadP rfl rfl (kGT rfl (kLoadP rfl rfl rfl (kGT rfl (kCallD (ok_impl_hasText _) ⟨rfl, trivial⟩ rfl rfl rfl rfl rfl (kGT rfl (kMovC rfl (kGS rfl (fun g1 => kGT rfl (kFadP rfl rfl (kGT rfl (kLoadP rfl rfl rfl (kGT rfl (kLenR rfl rfl (kGT rfl (kBin rfl rfl rfl (kGT rfl (kPickT rfl (kMovC rfl (kPickF rfl (kMovC rfl (kMovC rfl (kDone (hc _ .normA)))))))))))))))) (fun g1 => kGF rfl (kGF rfl (kGF rfl (kGF rfl (kGT rfl (kPickF rfl (kMovC rfl (kPickF rfl (kMovC rfl (kMovC rfl (kDone (hc _ .normA)))))))))))))))))))))))))))
  refine kSeq (kReg (kMovC rfl (kMovC rfl (kGS rfl (fun g0 => kGT rfl (kMovC rfl (kPickT rfl (kMovC rfl (kMovC rfl (kGS rfl (fun g1 => kGT rfl (kMovC rfl (kPickT rfl (kMovC rfl (kMovC rfl (kGS rfl (fun g2 => kGT rfl (kMovC rfl (kPickT rfl (kMovC rfl (kMovC rfl (kDone (kRet (endRetA (ra := [.one (.d _)]) rfl ?_)))))))) (fun g2 => kGF rfl (kPickF rfl (kMovC rfl (kMovC rfl (kDone (kRet (endRetA (ra := [.one (.d _)]) rfl ?_))))))))))))) (fun g1 => kGF rfl (kPickF rfl (kMovC rfl (kMovC rfl (kGF rfl (kPickF rfl (kMovC rfl (kMovC rfl (kDone (kRet (endRetA (ra := [.one (.d _)]) rfl ?_))))))))))))))))) (fun g0 => kGF rfl (kPickF rfl (kMovC rfl (kMovC rfl (kGF rfl (kPickF rfl (kMovC rfl (kMovC rfl (kGF rfl (kPickF rfl (kMovC rfl (kMovC rfl (kDone (kRet (endRetA (ra := [.one (.d _)]) rfl ?_)))))))))))))))))))
  all_goals simp only [dataOk, *, Bool.true_and, Bool.false_and, Bool.and_true, Bool.and_false]

def c_impl_all_impl_Rr_1 : C := (.seq (.reg false (.o 0 2 (.box 2 (.t 0)) (.o 1 3 (.mov (.v (.bool false))) .done))) (.seq (.reg false (.o 0 4 (.load none (.t 1)) (.o 1 5 (.load (some 7) (.t 2)) (.o 2 6 (.callv 6 (.t 4) [(.t 5)]) (.o 3 7 (.un .not (.t 6)) (.o 4 3 (.mov (.t 7)) .done)))))) .ret))
theorem dg_impl_all_impl_Rr_1 : Tryz.f191.body.bind (digC Tryz.prog Tryz.f191.ntmps []) = some c_impl_all_impl_Rr_1 := by kernel_rfl
theorem rs_impl_all_impl_Rr_1 : resSlots Tryz.prog Tryz.f191 = some [.s 3] := by kernel_rfl
theorem ok_impl_all_impl_Rr_1 (x : Rr) (D : Rr → Prop) (g : Rr → Bool) (hx : D x) :
    FnOK Tryz.prog 191 [.agg (x.cells.map .d), .one (.ptr [.fv false (fcAgg D Rr.cells g)])] (fun ra _ => ra = [.one (.d (.sc (.bool (!g x))))]) := by
  refine FnOK.ofK Tryz.func191 (by kernel_rfl) dg_impl_all_impl_Rr_1 rs_impl_all_impl_Rr_1 rfl rfl ?_
  delta c_impl_all_impl_Rr_1 T.o X.i
  refine kSeq (kReg (kBox rfl rfl rfl rfl rfl (kMovC rfl (kDone (kSeq (kReg (kLoadC rfl rfl (kLoadP rfl rfl rfl ?_))))))))
  refine kCallv rfl ⟨x, hx, rfl, rfl⟩ ⟨⟨⟨rfl, rfl, rfl, rfl, rfl, rfl, rfl, trivial⟩, leb⟩, trivial⟩ (.inr ?_) rfl ?_ rfl ?_
  · rintro _ rfl; rfl
  · rintro _ rfl; exact leb
  rintro _ rfl
  refine kUn rfl rfl (kMovC rfl (kDone (kRet (endRetA (ra := [.one (.d _)]) rfl rfl))))

def c_slices_IndexFunc_Limpl_Rr_impl_Rr : C := (.seq (.reg false (.o 0 4 (.mov (.i 0)) .done)) (.seq (.seq (.reg false (.o 0 6 (.mov (.t 0)) (.o 1 7 (.len (.t 6)) (.o 2 8 (.mov (.i 0)) .done)))) (.block 0 (.loop (.seq (.reg false (.o 0 9 (.bin .lss (.t 8) (.t 7)) .done)) (.seq (.cond (.t 9) .skip (.exit 0)) (.seq (.block 1 (.seq (.reg false (.o 0 10 (.mov (.t 8)) (.o 1 5 (.mov (.t 10)) .done))) (.seq (.reg false (.o 0 11 (.mov (.t 1)) (.o 1 12 (.mov (.t 0)) (.o 2 13 (.mov (.t 5)) (.o 3 14 (.iad 7 (.t 12) (.t 13)) (.o 4 15 (.load (some 7) (.t 14)) (.o 5 16 (.callv 16 (.t 11) [(.t 15)]) .done))))))) (.cond (.t 16) (.seq (.reg false (.o 0 17 (.mov (.t 5)) (.o 1 4 (.mov (.t 17)) .done))) .ret) .skip)))) (.reg false (.o 0 18 (.bin .add (.t 8) (.i 1)) (.o 1 8 (.mov (.t 18)) .done))))))))) (.seq (.reg false (.o 0 4 (.mov (.i (-1))) .done)) .ret)))
theorem dg_slices_IndexFunc_Limpl_Rr_impl_Rr : Tryz.f261.body.bind (digC Tryz.prog Tryz.f261.ntmps []) = some c_slices_IndexFunc_Limpl_Rr_impl_Rr := by kernel_rfl
theorem rs_slices_IndexFunc_Limpl_Rr_impl_Rr : resSlots Tryz.prog Tryz.f261 = some [.s 4] := by kernel_rfl
theorem ok_slices_IndexFunc_Limpl_Rr_impl_Rr (l : List Rr) (D : Rr → Prop) (g : Rr → Bool) (hl : l.length ≤ 4194304) (hD : ∀ x ∈ l, D x) :
    FnOK Tryz.prog 261 [.one (.d (encR l)), .one (.fv false (fcAgg D Rr.cells g))] (fun ra _ => ra = [.one (.d (.sc (.int .i64 (idx g l))))]) := by
  refine FnOK.ofK Tryz.func261 (by kernel_rfl) dg_slices_IndexFunc_Limpl_Rr_impl_Rr rs_slices_IndexFunc_Limpl_Rr_impl_Rr rfl rfl ?_
  delta c_slices_IndexFunc_Limpl_Rr_impl_Rr T.o X.i
  refine kSeq (kReg (kMovC rfl (kDone (kSeq (kSeq (kReg (kMovC rfl (kLenR rfl rfl (kMovC rfl (kDone (kBlock ?_)))))))))))
  refine kLoop (α := { i : Nat // i ≤ l.length ∧ ∀ x ∈ l.take i, g x = false })
    (fun y => ⟨tabSl [(0, .dv (encR l)), (1, .c (.fv false (fcAgg D Rr.cells g))), (7, .i l.length), (8, .i y.1)], obTab 1 [], []⟩) (fun y => l.length - y.1) ⟨0, by simp⟩
    .normA ?_
  rintro ⟨i, hi, hg⟩
  simp only
  rcases Nat.lt_or_ge i l.length with hlt | hge
  · refine kSeq (kReg (kBin rfl rfl rfl (kDone (kSeq (kCondP rfl (fun g0 => kSkip (kSeq (kBlock (kSeq (kReg (kMovC rfl (kMovC rfl (kDone (kSeq (kReg (kMovC rfl (kMovC rfl (kMovC rfl (kIadR rfl rfl rfl (by omega) (kLoadD rfl rfl ?_))))))))))))))) (fun g0 => (by omega)))))))
    refine kCallv rfl ⟨l[i], hD _ (List.getElem_mem hlt), rfl, rfl⟩ ⟨⟨⟨rfl, rfl, rfl, rfl, rfl, rfl, rfl, trivial⟩, leb⟩, trivial⟩ (.inr ?_) rfl ?_ rfl ?_
    · rintro _ rfl; rfl
    · rintro _ rfl; exact leb
    rintro _ rfl
    refine kDone (kCond rfl (fun g0 => kSeq (kReg (kMovC rfl (kMovC rfl (kDone (kRet (endRetA (ra := [.one (.d _)]) rfl ?_))))))) (fun g0 => kSkip (kBk (kReg (kAdd rfl rfl (by omega) (kMovC rfl (kDone ?_)))))))
    · have : l.findIdx? g = some i := by
        rw [List.findIdx?_eq_some_iff_getElem]
        refine ⟨hlt, by assumption, fun j hj => ?_⟩
        simpa using hg _ (by rw [List.mem_take_iff_getElem]; exact ⟨j, by omega, rfl⟩)
      simp [idx, this]
    · refine kInv ⟨⟨i + 1, hlt, ?_⟩, by simp only; omega, .normA⟩
      intro x hx
      rw [← List.take_append_getElem hlt, List.mem_append] at hx
      rcases hx with hx | hx
      · exact hg x hx
      · simp at hx; rw [hx]; assumption
  · refine kSeq (kReg (kBin rfl rfl rfl (kDone (kSeq (kCondP rfl (fun g0 => (by omega)) (fun g0 => kExit (kExC (kExI (kExB (kSeq (kReg (kMovC rfl (kDone (kRet (endRetA (ra := [.one (.d _)]) rfl ?_)))))))))))))))
    have : l.findIdx? g = none := by
      rw [List.findIdx?_eq_none_iff]
      intro x hx
      rw [show i = l.length by omega, List.take_length] at hg
      exact hg x hx
    simp [idx, this]

def c_slices_ContainsFunc_Limpl_Rr_impl_Rr : C := (.seq (.reg false (.o 0 4 (.mov (.v (.bool false))) .done)) (.seq (.reg false (.o 0 5 (.mov (.t 0)) (.o 1 6 (.mov (.t 1)) (.o 2 7 (.call 7 261 [(.t 5), (.t 6)]) (.o 3 8 (.bin .geq (.t 7) (.i 0)) (.o 4 4 (.mov (.t 8)) .done)))))) .ret))
theorem dg_slices_ContainsFunc_Limpl_Rr_impl_Rr : Tryz.f190.body.bind (digC Tryz.prog Tryz.f190.ntmps []) = some c_slices_ContainsFunc_Limpl_Rr_impl_Rr := by kernel_rfl
theorem rs_slices_ContainsFunc_Limpl_Rr_impl_Rr : resSlots Tryz.prog Tryz.f190 = some [.s 4] := by kernel_rfl
theorem ok_slices_ContainsFunc_Limpl_Rr_impl_Rr (l : List Rr) (D : Rr → Prop) (g : Rr → Bool) (hl : l.length ≤ 4194304) (hD : ∀ x ∈ l, D x) :
    FnOK Tryz.prog 190 [.one (.d (encR l)), .one (.fv false (fcAgg D Rr.cells g))] (fun ra _ => ra = [.one (.d (.sc (.bool (l.any g))))]) := by
  refine FnOK.ofK Tryz.func190 (by kernel_rfl) dg_slices_ContainsFunc_Limpl_Rr_impl_Rr rs_slices_ContainsFunc_Limpl_Rr_impl_Rr rfl rfl ?_
  delta c_slices_ContainsFunc_Limpl_Rr_impl_Rr T.o X.i
  refine kSeq (kReg (kMovC rfl (kDone (kSeq (kReg (kMovC rfl (kMovC rfl ?_)))))))
  refine kCall1 true (ok_slices_IndexFunc_Limpl_Rr_impl_Rr l D g hl hD) ⟨rfl, ⟨fun h => h, fun _ _ h => h⟩, trivial⟩ rfl rfl rfl fun os => ?_
  rw [← idx_ge g l]
  refine kBin rfl rfl rfl (kMovC rfl (kDone (kRet (endRetA (ra := [.one (.d _)]) rfl rfl))))

def c_impl_all_impl_Rr : C := (.seq (.reg false (.o 0 3 (.box 3 (.t 1)) (.o 1 4 (.mov (.v (.bool false))) .done))) (.seq (.reg false (.o 0 5 (.mov (.t 0)) (.o 1 6 (.clo 191 [] [(.t 3)]) (.o 2 7 (.call 7 190 [(.t 5), (.t 6)]) (.o 3 8 (.un .not (.t 7)) (.o 4 4 (.mov (.t 8)) .done)))))) .ret))
theorem dg_impl_all_impl_Rr : Tryz.f87.body.bind (digC Tryz.prog Tryz.f87.ntmps []) = some c_impl_all_impl_Rr := by kernel_rfl
theorem rs_impl_all_impl_Rr : resSlots Tryz.prog Tryz.f87 = some [.s 4] := by kernel_rfl
theorem ok_impl_all_impl_Rr (l : List Rr) (D : Rr → Prop) (g : Rr → Bool) (hl : l.length ≤ 4194304) (hD : ∀ x ∈ l, D x) :
    FnOK Tryz.prog 87 [.one (.d (encR l)), .one (.fv false (fcAgg D Rr.cells g))] (fun ra _ => ra = [.one (.d (.sc (.bool (l.all g))))]) := by
  refine FnOK.ofK Tryz.func87 (by kernel_rfl) dg_impl_all_impl_Rr rs_impl_all_impl_Rr rfl rfl ?_
  delta c_impl_all_impl_Rr T.o X.i
  refine kSeq (kReg (kBox rfl rfl rfl rfl rfl (kMovC rfl (kDone (kSeq (kReg (kMovC rfl (kClo rfl rfl ?_))))))))
  refine kCall1 true (ok_slices_ContainsFunc_Limpl_Rr_impl_Rr l D (fun x => !g x) hl hD) ⟨rfl, ⟨rfl, ⟨_, Tryz.func191, rfl, by kernel_rfl⟩, _, rfl, ?_⟩, trivial⟩ rfl rfl rfl fun os => ?_
  · rintro _ R ⟨x, hx, rfl, rfl⟩
    exact ⟨by rintro _ rfl; rfl, ok_impl_all_impl_Rr_1 x D g hx⟩
  rw [List.all_eq_not_any_not]
  refine kUn rfl rfl (kMovC rfl (kDone (kRet (endRetA (ra := [.one (.d _)]) rfl rfl))))

def c_impl_areRrs : C := (.seq (.reg false (.o 0 2 (.mov (.v (.bool false))) .done)) (.seq (.reg false (.o 0 3 (.mov (.t 0)) (.o 1 4 (.len (.t 3)) (.o 2 5 (.bin .leq (.t 4) (.i 12)) (.o 3 6 (.mov (.t 5)) (.op 4 [] (some 7) (some (6, true)) false (.mov (.t 0)) (.op 5 [] (some 8) (some (6, true)) false (.call 8 87 [(.t 7), (.fn 88)]) (.o 6 9 (.pick (.t 6) (.t 8) (.v (.bool false))) (.o 7 2 (.mov (.t 9)) .done))))))))) .ret))
theorem dg_impl_areRrs : Tryz.f232.body.bind (digC Tryz.prog Tryz.f232.ntmps []) = some c_impl_areRrs := by kernel_rfl
theorem rs_impl_areRrs : resSlots Tryz.prog Tryz.f232 = some [.s 2] := by kernel_rfl
theorem ok_impl_areRrs (l : List Rr) (hs : SmallRs l) :
    FnOK Tryz.prog 232 [.one (.d (encR l))] (fun ra _ => ra = [.one (.d (.sc (.bool (rrsOk l))))]) := by
  refine FnOK.ofK Tryz.func232 (by kernel_rfl) dg_impl_areRrs rs_impl_areRrs rfl rfl ?_
  delta c_impl_areRrs T.o X.i
  have h1 := hs.len
  refine kSeq (kReg (kMovC rfl (kDone (kSeq (kReg (kMovC rfl (kLenR rfl rfl (kBin rfl rfl rfl (kMovC rfl (kGP rfl (fun g0 => kGT rfl (kMovC rfl (kGT rfl ?_))) (fun g0 => kGF rfl (kGF rfl (kPickF rfl (kMovC rfl (kMovC rfl (kDone (kRet (endRetA (ra := [.one (.d _)]) rfl ?_))))))))))))))))))
  · refine kCallD (ok_impl_all_impl_Rr l SmallR rrOk h1 hs.mem) ⟨rfl, ⟨rfl, rfl, ⟨_, Tryz.func88, rfl, by kernel_rfl⟩, ?_⟩, trivial⟩ rfl rfl rfl rfl rfl ?_
    · rintro _ R ⟨x, h, rfl, rfl⟩
      exact ok_impl_RrOk x h
    refine kPickT rfl (kMovC rfl (kMovC rfl (kDone (kRet (endRetA (ra := [.one (.d _)]) rfl ?_)))))
    rw [show rrsOk l = l.all rrOk by simp only [rrsOk]; rw [decide_eq_true (by omega)]; rfl]
  · rw [show rrsOk l = false by simp only [rrsOk]; rw [decide_eq_false (by omega)]; rfl]

def c_impl_WantOk : C := (.seq (.reg false (.o 0 1 (.box 1 (.t 0)) (.o 1 2 (.mov (.v (.bool false))) .done))) (.seq (.reg false (.o 0 4 (.fad (.t 1) 0) (.o 1 5 (.load (some 7) (.t 4)) (.o 2 3 (.alloc 3 [(.n 1), (.i 0), (.i 0), (.i 0), (.n 1), (.n 1), (.n 1)]) (.op 3 [] none none false (.store (some 7) (.t 3) (.t 5)) .done))))) (.seq (.block 0 (.seq (.reg false (.o 0 7 (.fad (.t 1) 7) (.o 1 8 (.load none (.t 7)) (.o 2 9 (.bin .neq (.t 8) (.i 1)) (.o 3 10 (.mov (.t 9)) (.op 4 [] (some 11) (some (10, true)) false (.fad (.t 1) 7) (.op 5 [] (some 12) (some (10, true)) false (.load none (.t 11)) (.op 6 [] (some 13) (some (10, true)) false (.bin .neq (.t 12) (.i 254)) (.o 7 14 (.pick (.t 10) (.t 13) (.v (.bool false))) (.o 8 15 (.mov (.t 14)) (.op 9 [] (some 16) (some (15, true)) false (.fad (.t 1) 7) (.op 10 [] (some 17) (some (15, true)) false (.load none (.t 16)) (.op 11 [] (some 18) (some (15, true)) false (.bin .neq (.t 17) (.i 255)) (.o 12 19 (.pick (.t 15) (.t 18) (.v (.bool false))) (.o 13 6 (.mov (.t 19)) .done))))))))))))))) (.cond (.t 6) (.seq (.reg false (.o 0 2 (.mov (.v (.bool false))) .done)) .ret) (.seq (.reg false (.o 0 21 (.fad (.t 1) 8) (.o 1 22 (.load none (.t 21)) (.o 2 20 (.mov (.t 22)) .done)))) (.cond (.t 20) (.seq (.reg false (.o 0 23 (.fad (.t 1) 7) (.o 1 24 (.load none (.t 23)) (.o 2 25 (.bin .neq (.t 24) (.i 1)) (.o 3 26 (.mov (.t 25)) (.op 4 [] (some 27) (some (26, true)) false (.fad (.t 3) 0) (.op 5 [] (some 28) (some (26, true)) false (.load (some 1) (.t 27)) (.op 6 [] (some 29) (some (26, true)) false (.call 29 72 [(.t 28)]) (.o 7 30 (.pick (.t 26) (.t 29) (.v (.bool false))) (.o 8 31 (.mov (.t 30)) (.op 9 [] (some 32) (some (31, true)) false (.fad (.t 3) 1) (.op 10 [] (some 33) (some (31, true)) false (.load none (.t 32)) (.op 11 [] (some 34) (some (31, true)) false (.call 34 73 [(.t 33)]) (.o 12 35 (.pick (.t 31) (.t 34) (.v (.bool false))) (.o 13 36 (.mov (.t 35)) (.op 14 [] (some 37) (some (36, true)) false (.fad (.t 3) 2) (.op 15 [] (some 38) (some (36, true)) false (.load none (.t 37)) (.op 16 [] (some 39) (some (36, true)) false (.bin .eql (.t 38) (.i 0)) (.o 17 40 (.pick (.t 36) (.t 39) (.v (.bool false))) (.o 18 41 (.mov (.t 40)) (.op 19 [] (some 42) (some (41, true)) false (.fad (.t 3) 3) (.op 20 [] (some 43) (some (41, true)) false (.load none (.t 42)) (.op 21 [] (some 44) (some (41, true)) false (.bin .eql (.t 43) (.i 0)) (.o 22 45 (.pick (.t 41) (.t 44) (.v (.bool false))) (.o 23 46 (.mov (.t 45)) (.op 24 [] (some 47) (some (46, true)) false (.fad (.t 3) 4) (.op 25 [] (some 48) (some (46, true)) false (.fad (.t 47) 0) (.op 26 [] (some 49) (some (46, true)) false (.load none (.t 48)) (.op 27 [] (some 50) (some (46, true)) false (.len (.t 49)) (.op 28 [] (some 51) (some (46, true)) false (.bin .eql (.t 50) (.i 0)) (.o 29 52 (.pick (.t 46) (.t 51) (.v (.bool false))) (.o 30 53 (.mov (.t 52)) (.op 31 [] (some 54) (some (53, true)) false (.fad (.t 3) 5) (.op 32 [] (some 55) (some (53, true)) false (.load none (.t 54)) (.op 33 [] (some 56) (some (53, true)) false (.len (.t 55)) (.op 34 [] (some 57) (some (53, true)) false (.bin .eql (.t 56) (.i 0)) (.o 35 58 (.pick (.t 53) (.t 57) (.v (.bool false))) (.o 36 59 (.mov (.t 58)) (.op 37 [] (some 60) (some (59, true)) false (.fad (.t 3) 6) (.op 38 [] (some 61) (some (59, true)) false (.load none (.t 60)) (.op 39 [] (some 62) (some (59, true)) false (.len (.t 61)) (.op 40 [] (some 63) (some (59, true)) false (.bin .eql (.t 62) (.i 0)) (.o 41 64 (.pick (.t 59) (.t 63) (.v (.bool false))) (.o 42 2 (.mov (.t 64)) .done)))))))))))))))))))))))))))))))))))))))))))) .ret) .skip))))) (.seq (.reg false (.o 0 65 (.fad (.t 1) 7) (.o 1 66 (.load none (.t 65)) (.o 2 67 (.bin .neq (.t 66) (.i 255)) (.o 3 68 (.mov (.t 67)) (.op 4 [] (some 69) (some (68, true)) false (.load (some 7) (.t 3)) (.op 5 [] (some 70) (some (68, true)) false (.call 70 88 [(.t 69)]) (.o 6 71 (.pick (.t 68) (.t 70) (.v (.bool false))) (.o 7 72 (.mov (.t 71)) (.op 8 [] (some 73) (some (72, true)) false (.fad (.t 1) 7) (.op 9 [] (some 74) (some (72, true)) false (.load none (.t 73)) (.op 10 [] (some 75) (some (72, true)) false (.bin .eql (.t 74) (.i 1)) (.op 11 [] (some 76) (some (72, true)) false (.mov (.t 75)) (.op 12 [] (some 77) (some (76, false)) false (.fad (.t 3) 2) (.op 13 [] (some 78) (some (76, false)) false (.load none (.t 77)) (.op 14 [] (some 79) (some (76, false)) false (.bin .eql (.t 78) (.i 0)) (.op 15 [] (some 80) (some (72, true)) false (.pick (.t 76) (.v (.bool true)) (.t 79)) (.o 16 81 (.pick (.t 72) (.t 80) (.v (.bool false))) (.o 17 2 (.mov (.t 81)) .done))))))))))))))))))) .ret))))
theorem dg_impl_WantOk : Tryz.f300.body.bind (digC Tryz.prog Tryz.f300.ntmps []) = some c_impl_WantOk := by kernel_rfl
theorem rs_impl_WantOk : resSlots Tryz.prog Tryz.f300 = some [.s 2] := by kernel_rfl
theorem ok_impl_WantOk (w : Want) (hs : SmallW w) :
    FnOK Tryz.prog 300 [.agg (w.cells.map .d)] (fun ra _ => ra = [.one (.d (.sc (.bool (wantOk w))))]) := by
  refine FnOK.ofK Tryz.func300 (by kernel_rfl) dg_impl_WantOk rs_impl_WantOk rfl rfl ?_
  delta c_impl_WantOk T.o X.i
  have h1 := hs.r
  have n1 := hs.r.n.len
  have n2 := hs.r.n.mem
  refine kSeq (kReg (kBox rfl rfl rfl rfl rfl (kMovC rfl (kDone (kSeq (kReg (kFadP rfl rfl (kLoadP rfl rfl rfl (kAlloc rfl rfl (kStoreP rfl rfl rfl rfl (kDone (kSeq (kBlock (kSeq (kReg (kFadP rfl rfl (kLoadP rfl rfl rfl (kBin rfl rfl rfl (kMovC rfl (kGIN rfl (fun g0 => kGT rfl (kFadP rfl rfl (kGT rfl (kLoadP rfl rfl rfl (kGT rfl (kBin rfl rfl rfl (kPickT rfl (kMovC rfl (kMovC rfl (kGIN rfl (fun g1 => kGT rfl (kFadP rfl rfl (kGT rfl (kLoadP rfl rfl rfl (kGT rfl (kBin rfl rfl rfl (kPickT rfl (kMovC rfl (kMovC rfl (kDone (kCondIN rfl (fun g2 => kSeq (kReg (kMovC rfl (kDone (kRet (endRetA (ra := [.one (.d _)]) rfl ?_)))))) (fun g2 => kSeq (kReg (kFadP rfl rfl (kLoadP rfl rfl rfl (kMovC rfl (kDone (kCond rfl (fun g3 => kSeq (kReg (kFadP rfl rfl (kLoadP rfl rfl rfl (kBin rfl rfl rfl (kMovC rfl (kGIN rfl (fun g4 => kGT rfl (kFadP rfl rfl (kGT rfl (kLoadP rfl rfl rfl (kGT rfl (kCallD (ok_impl_NameOk _ (by first | assumption | omega | solve_by_elim [List.getElem_mem] | (simp only [List.length_append, w2_len, w4_len]; omega) | (simp only [szOut] at *; omega) | exact rfl | exact leb | exact rrOk_small (by assumption) | exact zoneOk_small (by assumption) | exact SmallBB.ok (by assumption) | exact (SmallBB.ok (by assumption)).len | exact (SmallBB.ok (by assumption)).mem | exact SmallBB.bent (by assumption)) (by first | assumption | omega | solve_by_elim [List.getElem_mem] | (simp only [List.length_append, w2_len, w4_len]; omega) | (simp only [szOut] at *; omega) | exact rfl | exact leb | exact rrOk_small (by assumption) | exact zoneOk_small (by assumption) | exact SmallBB.ok (by assumption) | exact (SmallBB.ok (by assumption)).len | exact (SmallBB.ok (by assumption)).mem | exact SmallBB.bent (by assumption))) ⟨⟨⟨rfl, trivial⟩, leb⟩, trivial⟩ rfl rfl rfl rfl rfl (kPickT rfl (kMovC rfl (kMovC rfl (kGS rfl (fun g5 => kGT rfl (kFadP rfl rfl (kGT rfl (kLoadP rfl rfl rfl (kGT rfl (kCallD (ok_impl_isAsked _) ⟨rfl, trivial⟩ rfl rfl rfl rfl rfl (kPickT rfl (kMovC rfl (kMovC rfl (kGS rfl (fun g6 => kGT rfl (kFadP rfl rfl (kGT rfl (kLoadP rfl rfl rfl (kGT rfl (kBin rfl rfl rfl (kPickT rfl (kMovC rfl (kMovC rfl (kGP rfl (fun g7 => kGT rfl (kFadP rfl rfl (kGT rfl (kLoadP rfl rfl rfl (kGT rfl (kBin rfl rfl rfl (kPickT rfl (kMovC rfl (kMovC rfl (kGP rfl (fun g8 => kGT rfl (kFadP rfl rfl (kGT rfl (kFadP rfl rfl (kGT rfl (kLoadP rfl rfl rfl (kGT rfl (kLenR rfl rfl (kGT rfl (kBin rfl rfl rfl (kPickT rfl (kMovC rfl (kMovC rfl (kGP rfl (fun g9 => kGT rfl (kFadP rfl rfl (kGT rfl (kLoadP rfl rfl rfl (kGT rfl (kLenR rfl rfl (kGT rfl (kBin rfl rfl rfl (kPickT rfl (kMovC rfl (kMovC rfl (kGP rfl (fun g10 => kGT rfl (kFadP rfl rfl (kGT rfl (kLoadP rfl rfl rfl (kGT rfl (kLenR rfl rfl (kGT rfl (kBin rfl rfl rfl (kPickT rfl (kMovC rfl (kMovC rfl (kDone (kRet (endRetA (ra := [.one (.d _)]) rfl ?_)))))))))))))) (fun g10 => kGF rfl (kGF rfl (kGF rfl (kGF rfl (kPickF rfl (kMovC rfl (kMovC rfl (kDone (kRet (endRetA (ra := [.one (.d _)]) rfl ?_)))))))))))))))))))))) (fun g9 => kGF rfl (kGF rfl (kGF rfl (kGF rfl (kPickF rfl (kMovC rfl (kMovC rfl (kGF rfl (kGF rfl (kGF rfl (kGF rfl (kPickF rfl (kMovC rfl (kMovC rfl (kDone (kRet (endRetA (ra := [.one (.d _)]) rfl ?_))))))))))))))))))))))))))))))) (fun g8 => kGF rfl (kGF rfl (kGF rfl (kGF rfl (kGF rfl (kPickF rfl (kMovC rfl (kMovC rfl (kGF rfl (kGF rfl (kGF rfl (kGF rfl (kPickF rfl (kMovC rfl (kMovC rfl (kGF rfl (kGF rfl (kGF rfl (kGF rfl (kPickF rfl (kMovC rfl (kMovC rfl (kDone (kRet (endRetA (ra := [.one (.d _)]) rfl ?_))))))))))))))))))))))))))))))))))) (fun g7 => kGF rfl (kGF rfl (kGF rfl (kPickF rfl (kMovC rfl (kMovC rfl (kGF rfl (kGF rfl (kGF rfl (kGF rfl (kGF rfl (kPickF rfl (kMovC rfl (kMovC rfl (kGF rfl (kGF rfl (kGF rfl (kGF rfl (kPickF rfl (kMovC rfl (kMovC rfl (kGF rfl (kGF rfl (kGF rfl (kGF rfl (kPickF rfl (kMovC rfl (kMovC rfl (kDone (kRet (endRetA (ra := [.one (.d _)]) rfl ?_))))))))))))))))))))))))))))))))))))))))) (fun g6 => kGF rfl (kGF rfl (kGF rfl (kPickF rfl (kMovC rfl (kMovC rfl (kGF rfl (kGF rfl (kGF rfl (kPickF rfl (kMovC rfl (kMovC rfl (kGF rfl (kGF rfl (kGF rfl (kGF rfl (kGF rfl (kPickF rfl (kMovC rfl (kMovC rfl (kGF rfl (kGF rfl (kGF rfl (kGF rfl (kPickF rfl (kMovC rfl (kMovC rfl (kGF rfl (kGF rfl (kGF rfl (kGF rfl (kPickF rfl (kMovC rfl (kMovC rfl (kDone (kRet (endRetA (ra := [.one (.d _)]) rfl ?_))))))))))))))))))))))))))))))))))))))))))))))) (fun g5 => kGF rfl (kGF rfl (kGF rfl (kPickF rfl (kMovC rfl (kMovC rfl (kGF rfl (kGF rfl (kGF rfl (kPickF rfl (kMovC rfl (kMovC rfl (kGF rfl (kGF rfl (kGF rfl (kPickF rfl (kMovC rfl (kMovC rfl (kGF rfl (kGF rfl (kGF rfl (kGF rfl (kGF rfl (kPickF rfl (kMovC rfl (kMovC rfl (kGF rfl (kGF rfl (kGF rfl (kGF rfl (kPickF rfl (kMovC rfl (kMovC rfl (kGF rfl (kGF rfl (kGF rfl (kGF rfl (kPickF rfl (kMovC rfl (kMovC rfl (kDone (kRet (endRetA (ra := [.one (.d _)]) rfl ?_))))))))))))))))))))))))))))))))))))))))))))))))))))) (fun g4 => (by omega))))))))) (fun g3 => kSkip (kBk (kSeq (kReg (kFadP rfl rfl (kLoadP rfl rfl rfl (kBin rfl rfl rfl (kMovC rfl (kGIN rfl (fun g11 => (by omega)) (fun g11 => kGF rfl (kGF rfl (kPickF rfl (kMovC rfl (kMovC rfl (kGF rfl (kGF rfl (kGF rfl (kGF rfl (kGU rfl (kGU rfl (kGU rfl (kGF rfl (kPickF rfl (kMovC rfl (kMovC rfl (kDone (kRet (endRetA (ra := [.one (.d _)]) rfl ?_)))))))))))))))))))))))))))))))))))))))))))))) (fun g1 => kGF rfl (kGF rfl (kGF rfl (kPickF rfl (kMovC rfl (kMovC rfl (kDone (kCondF rfl (kSeq (kReg (kFadP rfl rfl (kLoadP rfl rfl rfl (kMovC rfl (kDone (kCond rfl (fun g12 => kSeq (kReg (kFadP rfl rfl (kLoadP rfl rfl rfl (kBin rfl rfl rfl (kMovC rfl (kGIN rfl (fun g13 => kGT rfl (kFadP rfl rfl (kGT rfl (kLoadP rfl rfl rfl (kGT rfl (kCallD (ok_impl_NameOk _ (by first | assumption | omega | solve_by_elim [List.getElem_mem] | (simp only [List.length_append, w2_len, w4_len]; omega) | (simp only [szOut] at *; omega) | exact rfl | exact leb | exact rrOk_small (by assumption) | exact zoneOk_small (by assumption) | exact SmallBB.ok (by assumption) | exact (SmallBB.ok (by assumption)).len | exact (SmallBB.ok (by assumption)).mem | exact SmallBB.bent (by assumption)) (by first | assumption | omega | solve_by_elim [List.getElem_mem] | (simp only [List.length_append, w2_len, w4_len]; omega) | (simp only [szOut] at *; omega) | exact rfl | exact leb | exact rrOk_small (by assumption) | exact zoneOk_small (by assumption) | exact SmallBB.ok (by assumption) | exact (SmallBB.ok (by assumption)).len | exact (SmallBB.ok (by assumption)).mem | exact SmallBB.bent (by assumption))) ⟨⟨⟨rfl, trivial⟩, leb⟩, trivial⟩ rfl rfl rfl rfl rfl (kPickT rfl (kMovC rfl (kMovC rfl (kGS rfl (fun g14 => kGT rfl (kFadP rfl rfl (kGT rfl (kLoadP rfl rfl rfl (kGT rfl (kCallD (ok_impl_isAsked _) ⟨rfl, trivial⟩ rfl rfl rfl rfl rfl (kPickT rfl (kMovC rfl (kMovC rfl (kGS rfl (fun g15 => kGT rfl (kFadP rfl rfl (kGT rfl (kLoadP rfl rfl rfl (kGT rfl (kBin rfl rfl rfl (kPickT rfl (kMovC rfl (kMovC rfl (kGP rfl (fun g16 => kGT rfl (kFadP rfl rfl (kGT rfl (kLoadP rfl rfl rfl (kGT rfl (kBin rfl rfl rfl (kPickT rfl (kMovC rfl (kMovC rfl (kGP rfl (fun g17 => kGT rfl (kFadP rfl rfl (kGT rfl (kFadP rfl rfl (kGT rfl (kLoadP rfl rfl rfl (kGT rfl (kLenR rfl rfl (kGT rfl (kBin rfl rfl rfl (kPickT rfl (kMovC rfl (kMovC rfl (kGP rfl (fun g18 => kGT rfl (kFadP rfl rfl (kGT rfl (kLoadP rfl rfl rfl (kGT rfl (kLenR rfl rfl (kGT rfl (kBin rfl rfl rfl (kPickT rfl (kMovC rfl (kMovC rfl (kGP rfl (fun g19 => kGT rfl (kFadP rfl rfl (kGT rfl (kLoadP rfl rfl rfl (kGT rfl (kLenR rfl rfl (kGT rfl (kBin rfl rfl rfl (kPickT rfl (kMovC rfl (kMovC rfl (kDone (kRet (endRetA (ra := [.one (.d _)]) rfl ?_)))))))))))))) (fun g19 => kGF rfl (kGF rfl (kGF rfl (kGF rfl (kPickF rfl (kMovC rfl (kMovC rfl (kDone (kRet (endRetA (ra := [.one (.d _)]) rfl ?_)))))))))))))))))))))) (fun g18 => kGF rfl (kGF rfl (kGF rfl (kGF rfl (kPickF rfl (kMovC rfl (kMovC rfl (kGF rfl (kGF rfl (kGF rfl (kGF rfl (kPickF rfl (kMovC rfl (kMovC rfl (kDone (kRet (endRetA (ra := [.one (.d _)]) rfl ?_))))))))))))))))))))))))))))))) (fun g17 => kGF rfl (kGF rfl (kGF rfl (kGF rfl (kGF rfl (kPickF rfl (kMovC rfl (kMovC rfl (kGF rfl (kGF rfl (kGF rfl (kGF rfl (kPickF rfl (kMovC rfl (kMovC rfl (kGF rfl (kGF rfl (kGF rfl (kGF rfl (kPickF rfl (kMovC rfl (kMovC rfl (kDone (kRet (endRetA (ra := [.one (.d _)]) rfl ?_))))))))))))))))))))))))))))))))))) (fun g16 => kGF rfl (kGF rfl (kGF rfl (kPickF rfl (kMovC rfl (kMovC rfl (kGF rfl (kGF rfl (kGF rfl (kGF rfl (kGF rfl (kPickF rfl (kMovC rfl (kMovC rfl (kGF rfl (kGF rfl (kGF rfl (kGF rfl (kPickF rfl (kMovC rfl (kMovC rfl (kGF rfl (kGF rfl (kGF rfl (kGF rfl (kPickF rfl (kMovC rfl (kMovC rfl (kDone (kRet (endRetA (ra := [.one (.d _)]) rfl ?_))))))))))))))))))))))))))))))))))))))))) (fun g15 => kGF rfl (kGF rfl (kGF rfl (kPickF rfl (kMovC rfl (kMovC rfl (kGF rfl (kGF rfl (kGF rfl (kPickF rfl (kMovC rfl (kMovC rfl (kGF rfl (kGF rfl (kGF rfl (kGF rfl (kGF rfl (kPickF rfl (kMovC rfl (kMovC rfl (kGF rfl (kGF rfl (kGF rfl (kGF rfl (kPickF rfl (kMovC rfl (kMovC rfl (kGF rfl (kGF rfl (kGF rfl (kGF rfl (kPickF rfl (kMovC rfl (kMovC rfl (kDone (kRet (endRetA (ra := [.one (.d _)]) rfl ?_))))))))))))))))))))))))))))))))))))))))))))))) (fun g14 => kGF rfl (kGF rfl (kGF rfl (kPickF rfl (kMovC rfl (kMovC rfl (kGF rfl (kGF rfl (kGF rfl (kPickF rfl (kMovC rfl (kMovC rfl (kGF rfl (kGF rfl (kGF rfl (kPickF rfl (kMovC rfl (kMovC rfl (kGF rfl (kGF rfl (kGF rfl (kGF rfl (kGF rfl (kPickF rfl (kMovC rfl (kMovC rfl (kGF rfl (kGF rfl (kGF rfl (kGF rfl (kPickF rfl (kMovC rfl (kMovC rfl (kGF rfl (kGF rfl (kGF rfl (kGF rfl (kPickF rfl (kMovC rfl (kMovC rfl (kDone (kRet (endRetA (ra := [.one (.d _)]) rfl ?_))))))))))))))))))))))))))))))))))))))))))))))))))))) (fun g13 => (by omega))))))))) (fun g12 => kSkip (kBk (kSeq (kReg (kFadP rfl rfl (kLoadP rfl rfl rfl (kBin rfl rfl rfl (kMovC rfl (kGIN rfl (fun g20 => kGT rfl (kLoadP rfl rfl rfl (kGT rfl (kCallD (ok_impl_RrOk _ (by first | assumption | omega | solve_by_elim [List.getElem_mem] | (simp only [List.length_append, w2_len, w4_len]; omega) | (simp only [szOut] at *; omega) | exact rfl | exact leb | exact rrOk_small (by assumption) | exact zoneOk_small (by assumption) | exact SmallBB.ok (by assumption) | exact (SmallBB.ok (by assumption)).len | exact (SmallBB.ok (by assumption)).mem | exact SmallBB.bent (by assumption))) ⟨⟨⟨rfl, rfl, rfl, rfl, rfl, rfl, rfl, trivial⟩, leb⟩, trivial⟩ rfl rfl rfl rfl rfl (kPickT rfl (kMovC rfl (kMovC rfl (kGS rfl (fun g21 => (kGT rfl (kFadP rfl rfl (kGT rfl (kLoadP rfl rfl rfl (kGT rfl (kBin rfl rfl rfl (kGT rfl (kMovC rfl (kGP rfl (fun g22 => (by omega)) (fun g22 => kGT rfl (kFadP rfl rfl (kGT rfl (kLoadP rfl rfl rfl (kGT rfl (kBin rfl rfl rfl (kGT rfl (kPickF rfl (kMovC rfl (kPickT rfl (kMovC rfl (kMovC rfl (kDone (kRet (endRetA (ra := [.one (.d _)]) rfl ?_))))))))))))))))))))))))) (fun g21 => (kGF rfl (kGF rfl (kGF rfl (kGF rfl (kGU rfl (kGU rfl (kGU rfl (kGF rfl (kPickF rfl (kMovC rfl (kMovC rfl (kDone (kRet (endRetA (ra := [.one (.d _)]) rfl ?_))))))))))))))))))))))) (fun g20 => (by omega)))))))))))))))))))))))))))))))))))) (fun g0 => kGF rfl (kGF rfl (kGF rfl (kPickF rfl (kMovC rfl (kMovC rfl (kGF rfl (kGF rfl (kGF rfl (kPickF rfl (kMovC rfl (kMovC rfl (kDone (kCondF rfl (kSeq (kReg (kFadP rfl rfl (kLoadP rfl rfl rfl (kMovC rfl (kDone (kCond rfl (fun g23 => kSeq (kReg (kFadP rfl rfl (kLoadP rfl rfl rfl (kBin rfl rfl rfl (kMovC rfl (kGIN rfl (fun g24 => (by omega)) (fun g24 => kGF rfl (kGF rfl (kGF rfl (kPickF rfl (kMovC rfl (kMovC rfl (kGF rfl (kGF rfl (kGF rfl (kPickF rfl (kMovC rfl (kMovC rfl (kGF rfl (kGF rfl (kGF rfl (kPickF rfl (kMovC rfl (kMovC rfl (kGF rfl (kGF rfl (kGF rfl (kPickF rfl (kMovC rfl (kMovC rfl (kGF rfl (kGF rfl (kGF rfl (kGF rfl (kGF rfl (kPickF rfl (kMovC rfl (kMovC rfl (kGF rfl (kGF rfl (kGF rfl (kGF rfl (kPickF rfl (kMovC rfl (kMovC rfl (kGF rfl (kGF rfl (kGF rfl (kGF rfl (kPickF rfl (kMovC rfl (kMovC rfl (kDone (kRet (endRetA (ra := [.one (.d _)]) rfl ?_)))))))))))))))))))))))))))))))))))))))))))))))))))))))) (fun g23 => kSkip (kBk (kSeq (kReg (kFadP rfl rfl (kLoadP rfl rfl rfl (kBin rfl rfl rfl (kMovC rfl (kGIN rfl (fun g25 => kGT rfl (kLoadP rfl rfl rfl (kGT rfl (kCallD (ok_impl_RrOk _ (by first | assumption | omega | solve_by_elim [List.getElem_mem] | (simp only [List.length_append, w2_len, w4_len]; omega) | (simp only [szOut] at *; omega) | exact rfl | exact leb | exact rrOk_small (by assumption) | exact zoneOk_small (by assumption) | exact SmallBB.ok (by assumption) | exact (SmallBB.ok (by assumption)).len | exact (SmallBB.ok (by assumption)).mem | exact SmallBB.bent (by assumption))) ⟨⟨⟨rfl, rfl, rfl, rfl, rfl, rfl, rfl, trivial⟩, leb⟩, trivial⟩ rfl rfl rfl rfl rfl (kPickT rfl (kMovC rfl (kMovC rfl (kGS rfl (fun g26 => kGT rfl (kFadP rfl rfl (kGT rfl (kLoadP rfl rfl rfl (kGT rfl (kBin rfl rfl rfl (kGT rfl (kMovC rfl (kGP rfl (fun g27 => kGF rfl (kGF rfl (kGF rfl (kGT rfl (kPickT rfl (kMovC rfl (kPickT rfl (kMovC rfl (kMovC rfl (kDone (kRet (endRetA (ra := [.one (.d _)]) rfl ?_)))))))))))) (fun g27 => (by omega))))))))))) (fun g26 => kGF rfl (kGF rfl (kGF rfl (kGF rfl (kGU rfl (kGU rfl (kGU rfl (kGF rfl (kPickF rfl (kMovC rfl (kMovC rfl (kDone (kRet (endRetA (ra := [.one (.d _)]) rfl ?_)))))))))))))))))))))) (fun g25 => (by omega))))))))))))))))))))))))))))))))))))))))))))))))))))
  all_goals (refine congrArg (fun z : Bool => [RA.one (RV.d (DV.sc (Value.bool z)))]) ?_; clear n1 n2 h1 hs; unfold wantOk; simp_all)
  all_goals (rw [Bool.eq_iff_iff]; simp)

def c_impl_all_impl_Want_1 : C := (.seq (.reg false (.o 0 2 (.box 2 (.t 0)) (.o 1 3 (.mov (.v (.bool false))) .done))) (.seq (.reg false (.o 0 4 (.load none (.t 1)) (.o 1 5 (.load (some 9) (.t 2)) (.o 2 6 (.callv 6 (.t 4) [(.t 5)]) (.o 3 7 (.un .not (.t 6)) (.o 4 3 (.mov (.t 7)) .done)))))) .ret))
theorem dg_impl_all_impl_Want_1 : Tryz.f306.body.bind (digC Tryz.prog Tryz.f306.ntmps []) = some c_impl_all_impl_Want_1 := by kernel_rfl
theorem rs_impl_all_impl_Want_1 : resSlots Tryz.prog Tryz.f306 = some [.s 3] := by kernel_rfl
theorem ok_impl_all_impl_Want_1 (x : Want) (D : Want → Prop) (g : Want → Bool) (hx : D x) :
    FnOK Tryz.prog 306 [.agg (x.cells.map .d), .one (.ptr [.fv false (fcAgg D Want.cells g)])] (fun ra _ => ra = [.one (.d (.sc (.bool (!g x))))]) := by
  refine FnOK.ofK Tryz.func306 (by kernel_rfl) dg_impl_all_impl_Want_1 rs_impl_all_impl_Want_1 rfl rfl ?_
  delta c_impl_all_impl_Want_1 T.o X.i
  refine kSeq (kReg (kBox rfl rfl rfl rfl rfl (kMovC rfl (kDone (kSeq (kReg (kLoadC rfl rfl (kLoadP rfl rfl rfl ?_))))))))
  refine kCallv rfl ⟨x, hx, rfl, rfl⟩ ⟨⟨⟨rfl, rfl, rfl, rfl, rfl, rfl, rfl, rfl, rfl, trivial⟩, leb⟩, trivial⟩ (.inr ?_) rfl ?_ rfl ?_
  · rintro _ rfl; rfl
  · rintro _ rfl; exact leb
  rintro _ rfl
  refine kUn rfl rfl (kMovC rfl (kDone (kRet (endRetA (ra := [.one (.d _)]) rfl rfl))))

def c_slices_IndexFunc_Limpl_Want_impl_Want : C := (.seq (.reg false (.o 0 4 (.mov (.i 0)) .done)) (.seq (.seq (.reg false (.o 0 6 (.mov (.t 0)) (.o 1 7 (.len (.t 6)) (.o 2 8 (.mov (.i 0)) .done)))) (.block 0 (.loop (.seq (.reg false (.o 0 9 (.bin .lss (.t 8) (.t 7)) .done)) (.seq (.cond (.t 9) .skip (.exit 0)) (.seq (.block 1 (.seq (.reg false (.o 0 10 (.mov (.t 8)) (.o 1 5 (.mov (.t 10)) .done))) (.seq (.reg false (.o 0 11 (.mov (.t 1)) (.o 1 12 (.mov (.t 0)) (.o 2 13 (.mov (.t 5)) (.o 3 14 (.iad 9 (.t 12) (.t 13)) (.o 4 15 (.load (some 9) (.t 14)) (.o 5 16 (.callv 16 (.t 11) [(.t 15)]) .done))))))) (.cond (.t 16) (.seq (.reg false (.o 0 17 (.mov (.t 5)) (.o 1 4 (.mov (.t 17)) .done))) .ret) .skip)))) (.reg false (.o 0 18 (.bin .add (.t 8) (.i 1)) (.o 1 8 (.mov (.t 18)) .done))))))))) (.seq (.reg false (.o 0 4 (.mov (.i (-1))) .done)) .ret)))
theorem dg_slices_IndexFunc_Limpl_Want_impl_Want : Tryz.f307.body.bind (digC Tryz.prog Tryz.f307.ntmps []) = some c_slices_IndexFunc_Limpl_Want_impl_Want := by kernel_rfl
theorem rs_slices_IndexFunc_Limpl_Want_impl_Want : resSlots Tryz.prog Tryz.f307 = some [.s 4] := by kernel_rfl
theorem ok_slices_IndexFunc_Limpl_Want_impl_Want (l : List Want) (D : Want → Prop) (g : Want → Bool) (hl : l.length ≤ 4194304) (hD : ∀ x ∈ l, D x) :
    FnOK Tryz.prog 307 [.one (.d (encW l)), .one (.fv false (fcAgg D Want.cells g))] (fun ra _ => ra = [.one (.d (.sc (.int .i64 (idx g l))))]) := by
  refine FnOK.ofK Tryz.func307 (by kernel_rfl) dg_slices_IndexFunc_Limpl_Want_impl_Want rs_slices_IndexFunc_Limpl_Want_impl_Want rfl rfl ?_
  delta c_slices_IndexFunc_Limpl_Want_impl_Want T.o X.i
  refine kSeq (kReg (kMovC rfl (kDone (kSeq (kSeq (kReg (kMovC rfl (kLenR rfl rfl (kMovC rfl (kDone (kBlock ?_)))))))))))
  refine kLoop (α := { i : Nat // i ≤ l.length ∧ ∀ x ∈ l.take i, g x = false })
    (fun y => ⟨tabSl [(0, .dv (encW l)), (1, .c (.fv false (fcAgg D Want.cells g))), (7, .i l.length), (8, .i y.1)], obTab 1 [], []⟩) (fun y => l.length - y.1) ⟨0, by simp⟩
    .normA ?_
  rintro ⟨i, hi, hg⟩
  simp only
  rcases Nat.lt_or_ge i l.length with hlt | hge
  · refine kSeq (kReg (kBin rfl rfl rfl (kDone (kSeq (kCondP rfl (fun g0 => kSkip (kSeq (kBlock (kSeq (kReg (kMovC rfl (kMovC rfl (kDone (kSeq (kReg (kMovC rfl (kMovC rfl (kMovC rfl (kIadR rfl rfl rfl (by first | omega | (simp only [List.length_append, List.length_cons, List.length_nil]; omega)) (kLoadD rfl rfl ?_))))))))))))))) (fun g0 => (by omega)))))))
    refine kCallv rfl ⟨l[i], hD _ (List.getElem_mem hlt), rfl, rfl⟩ ⟨⟨⟨rfl, rfl, rfl, rfl, rfl, rfl, rfl, rfl, rfl, trivial⟩, leb⟩, trivial⟩ (.inr ?_) rfl ?_ rfl ?_
    · rintro _ rfl; rfl
    · rintro _ rfl; exact leb
    rintro _ rfl
    refine kDone (kCond rfl (fun g0 => kSeq (kReg (kMovC rfl (kMovC rfl (kDone (kRet (endRetA (ra := [.one (.d _)]) rfl ?_))))))) (fun g0 => kSkip (kBk (kReg (kAdd rfl rfl (by omega) (kMovC rfl (kDone ?_)))))))
    · have : l.findIdx? g = some i := by
        rw [List.findIdx?_eq_some_iff_getElem]
        refine ⟨hlt, by assumption, fun j hj => ?_⟩
        simpa using hg _ (by rw [List.mem_take_iff_getElem]; exact ⟨j, by omega, rfl⟩)
      simp [idx, this]
    · refine kInv ⟨⟨i + 1, hlt, ?_⟩, by simp only; omega, .normA⟩
      intro x hx
      rw [← List.take_append_getElem hlt, List.mem_append] at hx
      rcases hx with hx | hx
      · exact hg x hx
      · simp at hx; rw [hx]; assumption
  · refine kSeq (kReg (kBin rfl rfl rfl (kDone (kSeq (kCondP rfl (fun g0 => (by omega)) (fun g0 => kExit (kExC (kExI (kExB (kSeq (kReg (kMovC rfl (kDone (kRet (endRetA (ra := [.one (.d _)]) rfl ?_)))))))))))))))
    have : l.findIdx? g = none := by
      rw [List.findIdx?_eq_none_iff]
      intro x hx
      rw [show i = l.length by omega, List.take_length] at hg
      exact hg x hx
    simp [idx, this]

def c_slices_ContainsFunc_Limpl_Want_impl_Want : C := (.seq (.reg false (.o 0 4 (.mov (.v (.bool false))) .done)) (.seq (.reg false (.o 0 5 (.mov (.t 0)) (.o 1 6 (.mov (.t 1)) (.o 2 7 (.call 7 307 [(.t 5), (.t 6)]) (.o 3 8 (.bin .geq (.t 7) (.i 0)) (.o 4 4 (.mov (.t 8)) .done)))))) .ret))
theorem dg_slices_ContainsFunc_Limpl_Want_impl_Want : Tryz.f305.body.bind (digC Tryz.prog Tryz.f305.ntmps []) = some c_slices_ContainsFunc_Limpl_Want_impl_Want := by kernel_rfl
theorem rs_slices_ContainsFunc_Limpl_Want_impl_Want : resSlots Tryz.prog Tryz.f305 = some [.s 4] := by kernel_rfl
theorem ok_slices_ContainsFunc_Limpl_Want_impl_Want (l : List Want) (D : Want → Prop) (g : Want → Bool) (hl : l.length ≤ 4194304) (hD : ∀ x ∈ l, D x) :
    FnOK Tryz.prog 305 [.one (.d (encW l)), .one (.fv false (fcAgg D Want.cells g))] (fun ra _ => ra = [.one (.d (.sc (.bool (l.any g))))]) := by
  refine FnOK.ofK Tryz.func305 (by kernel_rfl) dg_slices_ContainsFunc_Limpl_Want_impl_Want rs_slices_ContainsFunc_Limpl_Want_impl_Want rfl rfl ?_
  delta c_slices_ContainsFunc_Limpl_Want_impl_Want T.o X.i
  refine kSeq (kReg (kMovC rfl (kDone (kSeq (kReg (kMovC rfl (kMovC rfl ?_)))))))
  refine kCall1 true (ok_slices_IndexFunc_Limpl_Want_impl_Want l D g hl hD) ⟨rfl, ⟨fun h => h, fun _ _ h => h⟩, trivial⟩ rfl rfl rfl fun os => ?_
  rw [← idx_ge g l]
  refine kBin rfl rfl rfl (kMovC rfl (kDone (kRet (endRetA (ra := [.one (.d _)]) rfl rfl))))

def c_impl_all_impl_Want : C := (.seq (.reg false (.o 0 3 (.box 3 (.t 1)) (.o 1 4 (.mov (.v (.bool false))) .done))) (.seq (.reg false (.o 0 5 (.mov (.t 0)) (.o 1 6 (.clo 306 [] [(.t 3)]) (.o 2 7 (.call 7 305 [(.t 5), (.t 6)]) (.o 3 8 (.un .not (.t 7)) (.o 4 4 (.mov (.t 8)) .done)))))) .ret))
theorem dg_impl_all_impl_Want : Tryz.f299.body.bind (digC Tryz.prog Tryz.f299.ntmps []) = some c_impl_all_impl_Want := by kernel_rfl
theorem rs_impl_all_impl_Want : resSlots Tryz.prog Tryz.f299 = some [.s 4] := by kernel_rfl
theorem ok_impl_all_impl_Want (l : List Want) (D : Want → Prop) (g : Want → Bool) (hl : l.length ≤ 4194304) (hD : ∀ x ∈ l, D x) :
    FnOK Tryz.prog 299 [.one (.d (encW l)), .one (.fv false (fcAgg D Want.cells g))] (fun ra _ => ra = [.one (.d (.sc (.bool (l.all g))))]) := by
  refine FnOK.ofK Tryz.func299 (by kernel_rfl) dg_impl_all_impl_Want rs_impl_all_impl_Want rfl rfl ?_
  delta c_impl_all_impl_Want T.o X.i
  refine kSeq (kReg (kBox rfl rfl rfl rfl rfl (kMovC rfl (kDone (kSeq (kReg (kMovC rfl (kClo rfl rfl ?_))))))))
  refine kCall1 true (ok_slices_ContainsFunc_Limpl_Want_impl_Want l D (fun x => !g x) hl hD) ⟨rfl, ⟨rfl, ⟨_, Tryz.func306, rfl, by kernel_rfl⟩, _, rfl, ?_⟩, trivial⟩ rfl rfl rfl fun os => ?_
  · rintro _ R ⟨x, hx, rfl, rfl⟩
    exact ⟨by rintro _ rfl; rfl, ok_impl_all_impl_Want_1 x D g hx⟩
  rw [List.all_eq_not_any_not]
  refine kUn rfl rfl (kMovC rfl (kDone (kRet (endRetA (ra := [.one (.d _)]) rfl rfl))))

def c_impl_areWants : C := (.seq (.reg false (.o 0 2 (.mov (.v (.bool false))) .done)) (.seq (.reg false (.o 0 3 (.mov (.t 0)) (.o 1 4 (.len (.t 3)) (.o 2 5 (.bin .leq (.t 4) (.i 12)) (.o 3 6 (.mov (.t 5)) (.op 4 [] (some 7) (some (6, true)) false (.mov (.t 0)) (.op 5 [] (some 8) (some (6, true)) false (.call 8 299 [(.t 7), (.fn 300)]) (.o 6 9 (.pick (.t 6) (.t 8) (.v (.bool false))) (.o 7 2 (.mov (.t 9)) .done))))))))) .ret))
theorem dg_impl_areWants : Tryz.f285.body.bind (digC Tryz.prog Tryz.f285.ntmps []) = some c_impl_areWants := by kernel_rfl
theorem rs_impl_areWants : resSlots Tryz.prog Tryz.f285 = some [.s 2] := by kernel_rfl
theorem ok_impl_areWants (l : List Want) (hs : SmallWs l) :
    FnOK Tryz.prog 285 [.one (.d (encW l))] (fun ra _ => ra = [.one (.d (.sc (.bool (wantsOk l))))]) := by
  refine FnOK.ofK Tryz.func285 (by kernel_rfl) dg_impl_areWants rs_impl_areWants rfl rfl ?_
  delta c_impl_areWants T.o X.i
  have h1 := hs.len
  refine kSeq (kReg (kMovC rfl (kDone (kSeq (kReg (kMovC rfl (kLenR rfl rfl (kBin rfl rfl rfl (kMovC rfl (kGP rfl (fun g0 => kGT rfl (kMovC rfl (kGT rfl ?_))) (fun g0 => kGF rfl (kGF rfl (kPickF rfl (kMovC rfl (kMovC rfl (kDone (kRet (endRetA (ra := [.one (.d _)]) rfl ?_))))))))))))))))))
  · refine kCallD (ok_impl_all_impl_Want l SmallW wantOk h1 hs.mem) ⟨rfl, ⟨rfl, rfl, ⟨_, Tryz.func300, rfl, by kernel_rfl⟩, ?_⟩, trivial⟩ rfl rfl rfl rfl rfl ?_
    · rintro _ R ⟨x, h, rfl, rfl⟩
      exact ok_impl_WantOk x h
    refine kPickT rfl (kMovC rfl (kMovC rfl (kDone (kRet (endRetA (ra := [.one (.d _)]) rfl ?_)))))
    rw [show wantsOk l = l.all wantOk by simp only [wantsOk]; rw [decide_eq_true (by omega)]; rfl]
  · rw [show wantsOk l = false by simp only [wantsOk]; rw [decide_eq_false (by omega)]; rfl]

def c_impl_Msg_shaped : C := (.seq (.reg false (.o 0 1 (.box 1 (.t 0)) (.o 1 2 (.mov (.v (.bool false))) .done))) (.seq (.seq (.reg false (.o 0 3 (.fad (.t 1) 0) (.o 1 4 (.load none (.t 3)) (.o 2 5 (.call 5 147 [(.t 4), (.i 0), (.i 65535)]) (.o 3 6 (.un .not (.t 5)) (.o 4 7 (.mov (.t 6)) (.op 5 [] (some 8) (some (7, false)) false (.fad (.t 1) 4) (.op 6 [] (some 9) (some (7, false)) false (.load none (.t 8)) (.op 7 [] (some 10) (some (7, false)) false (.call 10 168 [(.t 9)]) (.op 8 [] (some 11) (some (7, false)) false (.un .not (.t 10)) (.o 9 12 (.pick (.t 7) (.v (.bool true)) (.t 11)) (.o 10 13 (.mov (.t 12)) (.op 11 [] (some 14) (some (13, false)) false (.fad (.t 1) 5) (.op 12 [] (some 15) (some (13, false)) false (.load none (.t 14)) (.op 13 [] (some 16) (some (13, false)) false (.len (.t 15)) (.op 14 [] (some 17) (some (13, false)) false (.bin .neq (.t 16) (.i 1)) (.o 15 18 (.pick (.t 13) (.v (.bool true)) (.t 17)) (.o 16 19 (.mov (.t 18)) (.op 17 [] (some 20) (some (19, false)) false (.fad (.t 1) 5) (.op 18 [] (some 21) (some (19, false)) false (.load none (.t 20)) (.op 19 [] (some 22) (some (19, false)) false (.iad 2 (.t 21) (.i 0)) (.op 20 [] (some 23) (some (19, false)) false (.fad (.t 22) 0) (.op 21 [] (some 24) (some (19, false)) false (.load (some 1) (.t 23)) (.op 22 [] (some 25) (some (19, false)) false (.call 25 72 [(.t 24)]) (.op 23 [] (some 26) (some (19, false)) false (.un .not (.t 25)) (.o 24 27 (.pick (.t 19) (.v (.bool true)) (.t 26)) (.o 25 28 (.mov (.t 27)) (.op 26 [] (some 29) (some (28, false)) false (.fad (.t 1) 5) (.op 27 [] (some 30) (some (28, false)) false (.load none (.t 29)) (.op 28 [] (some 31) (some (28, false)) false (.iad 2 (.t 30) (.i 0)) (.op 29 [] (some 32) (some (28, false)) false (.fad (.t 31) 1) (.op 30 [] (some 33) (some (28, false)) false (.load none (.t 32)) (.op 31 [] (some 34) (some (28, false)) false (.call 34 73 [(.t 33)]) (.op 32 [] (some 35) (some (28, false)) false (.un .not (.t 34)) (.o 33 36 (.pick (.t 28) (.v (.bool true)) (.t 35)) .done))))))))))))))))))))))))))))))))))) (.cond (.t 36) (.seq (.reg false (.o 0 2 (.mov (.v (.bool false))) .done)) .ret) .skip)) (.seq (.seq (.reg false (.o 0 37 (.fad (.t 1) 6) (.o 1 38 (.load none (.t 37)) (.o 2 39 (.call 39 232 [(.t 38)]) (.o 3 40 (.un .not (.t 39)) (.o 4 41 (.mov (.t 40)) (.op 5 [] (some 42) (some (41, false)) false (.fad (.t 1) 7) (.op 6 [] (some 43) (some (41, false)) false (.load none (.t 42)) (.op 7 [] (some 44) (some (41, false)) false (.call 44 232 [(.t 43)]) (.op 8 [] (some 45) (some (41, false)) false (.un .not (.t 44)) (.o 9 46 (.pick (.t 41) (.v (.bool true)) (.t 45)) (.o 10 47 (.mov (.t 46)) (.op 11 [] (some 48) (some (47, false)) false (.fad (.t 1) 8) (.op 12 [] (some 49) (some (47, false)) false (.load none (.t 48)) (.op 13 [] (some 50) (some (47, false)) false (.call 50 232 [(.t 49)]) (.op 14 [] (some 51) (some (47, false)) false (.un .not (.t 50)) (.o 15 52 (.pick (.t 47) (.v (.bool true)) (.t 51)) (.o 16 53 (.mov (.t 52)) (.op 17 [] (some 54) (some (53, false)) false (.fad (.t 1) 9) (.op 18 [] (some 55) (some (53, false)) false (.load none (.t 54)) (.op 19 [] (some 56) (some (53, false)) false (.call 56 285 [(.t 55)]) (.op 20 [] (some 57) (some (53, false)) false (.un .not (.t 56)) (.o 21 58 (.pick (.t 53) (.v (.bool true)) (.t 57)) (.o 22 59 (.mov (.t 58)) (.op 23 [] (some 60) (some (59, false)) false (.fad (.t 1) 10) (.op 24 [] (some 61) (some (59, false)) false (.load none (.t 60)) (.op 25 [] (some 62) (some (59, false)) false (.call 62 285 [(.t 61)]) (.op 26 [] (some 63) (some (59, false)) false (.un .not (.t 62)) (.o 27 64 (.pick (.t 59) (.v (.bool true)) (.t 63)) .done))))))))))))))))))))))))))))) (.cond (.t 64) (.seq (.reg false (.o 0 2 (.mov (.v (.bool false))) .done)) .ret) .skip)) (.seq (.seq (.reg false (.o 0 65 (.fad (.t 1) 2) (.o 1 66 (.load none (.t 65)) .done))) (.block 0 (.seq (.reg false (.o 0 68 (.bin .eql (.t 66) (.i 0)) (.o 1 67 (.mov (.t 68)) .done))) (.cond (.t 67) (.seq (.reg false (.o 0 69 (.fad (.t 1) 9) (.o 1 70 (.load none (.t 69)) (.o 2 71 (.len (.t 70)) (.o 3 72 (.fad (.t 1) 10) (.o 4 73 (.load none (.t 72)) (.o 5 74 (.len (.t 73)) (.o 6 75 (.bin .add (.t 71) (.t 74)) (.o 7 76 (.bin .eql (.t 75) (.i 0)) (.o 8 2 (.mov (.t 76)) .done)))))))))) .ret) (.seq (.reg false (.o 0 78 (.bin .eql (.t 66) (.i 5)) (.o 1 77 (.mov (.t 78)) .done))) (.cond (.t 77) (.seq (.reg false (.o 0 79 (.fad (.t 1) 5) (.o 1 80 (.load none (.t 79)) (.o 2 81 (.iad 2 (.t 80) (.i 0)) (.o 3 82 (.fad (.t 81) 1) (.o 4 83 (.load none (.t 82)) (.o 5 84 (.bin .eql (.t 83) (.i 6)) (.o 6 85 (.mov (.t 84)) (.op 7 [] (some 86) (some (85, true)) false (.fad (.t 1) 6) (.op 8 [] (some 87) (some (85, true)) false (.load none (.t 86)) (.op 9 [] (some 88) (some (85, true)) false (.len (.t 87)) (.op 10 [] (some 89) (some (85, true)) false (.fad (.t 1) 7) (.op 11 [] (some 90) (some (85, true)) false (.load none (.t 89)) (.op 12 [] (some 91) (some (85, true)) false (.len (.t 90)) (.op 13 [] (some 92) (some (85, true)) false (.bin .add (.t 88) (.t 91)) (.op 14 [] (some 93) (some (85, true)) false (.fad (.t 1) 8) (.op 15 [] (some 94) (some (85, true)) false (.load none (.t 93)) (.op 16 [] (some 95) (some (85, true)) false (.len (.t 94)) (.op 17 [] (some 96) (some (85, true)) false (.bin .add (.t 92) (.t 95)) (.op 18 [] (some 97) (some (85, true)) false (.bin .eql (.t 96) (.i 0)) (.o 19 98 (.pick (.t 85) (.t 97) (.v (.bool false))) (.o 20 2 (.mov (.t 98)) .done)))))))))))))))))))))) .ret) .skip)))))) (.seq (.reg false (.o 0 2 (.mov (.v (.bool false))) .done)) .ret)))))
theorem dg_impl_Msg_shaped : Tryz.f248.body.bind (digC Tryz.prog Tryz.f248.ntmps []) = some c_impl_Msg_shaped := by kernel_rfl
theorem rs_impl_Msg_shaped : resSlots Tryz.prog Tryz.f248 = some [.s 2] := by kernel_rfl
theorem ok_impl_Msg_shaped (m : Msg) (hs : SmallM m) :
    FnOK Tryz.prog 248 [.agg (m.cells.map .d)] (fun ra _ => ra = [.one (.d (.sc (.bool (msgMay m))))]) := by
  refine FnOK.ofK Tryz.func248 (by kernel_rfl) dg_impl_Msg_shaped rs_impl_Msg_shaped rfl rfl ?_
  delta c_impl_Msg_shaped T.o X.i
  obtain ⟨id, rp, op, ah, cd, qs, an, au, mo, pr, up⟩ := m
  have b1 := hs.q
  have b2 := hs.a
  have b3 := hs.b
  have b4 := hs.c
  have b5 := hs.p
  have b6 := hs.u
  simp only at b1 b2 b3 b4 b5 b6
  clear hs
  rcases qs with _ | ⟨q, _ | ⟨q2, qs⟩⟩
  · have hl : ([] : List Qn).length = 0 := rfl
    have w0 : ({ id := id, reply := rp, op := op, auth := ah, code := cd, qs := [], an := an, au := au, mo := mo, pr := pr, up := up } : Msg).an.length ≤ 4194304 := b2.len
    have w1 : ({ id := id, reply := rp, op := op, auth := ah, code := cd, qs := [], an := an, au := au, mo := mo, pr := pr, up := up } : Msg).au.length ≤ 4194304 := b3.len
    have w2 : ({ id := id, reply := rp, op := op, auth := ah, code := cd, qs := [], an := an, au := au, mo := mo, pr := pr, up := up } : Msg).mo.length ≤ 4194304 := b4.len
    have w3 : ({ id := id, reply := rp, op := op, auth := ah, code := cd, qs := [], an := an, au := au, mo := mo, pr := pr, up := up } : Msg).pr.length ≤ 4194304 := b5.len
    have w4 : ({ id := id, reply := rp, op := op, auth := ah, code := cd, qs := [], an := an, au := au, mo := mo, pr := pr, up := up } : Msg).up.length ≤ 4194304 := b6.len
    refine kSeq (kReg (kBox rfl rfl rfl rfl rfl (kMovC rfl (kDone (kSeq (kSeq (kReg (kFadP rfl rfl (kLoadP rfl rfl rfl (kCallD (ok_impl_within _ _ _) ⟨rfl, rfl, rfl, trivial⟩ rfl rfl rfl rfl rfl (kUn rfl rfl (kMovC rfl (kGN rfl (fun g0 => kGF rfl (kGF rfl (kGF rfl (kGF rfl (kPickT rfl (kMovC rfl (kMovC rfl (kGF rfl (kGF rfl (kGF rfl (kGF rfl (kPickT rfl (kMovC rfl (kMovC rfl (kGF rfl (kGF rfl (kGF rfl (kGF rfl (kGF rfl (kGF rfl (kGF rfl (kPickT rfl (kMovC rfl (kMovC rfl (kGF rfl (kGF rfl (kGF rfl (kGF rfl (kGF rfl (kGF rfl (kGF rfl (kPickT rfl (kMovC rfl (kDone (kCondT rfl (kSeq (kReg (kMovC rfl (kDone (kRet (endRetA (ra := [.one (.d _)]) rfl ?_))))))))))))))))))))))))))))))))))))))))) (fun g0 => kGT rfl (kFadP rfl rfl (kGT rfl (kLoadP rfl rfl rfl (kGT rfl (kCallD (ok_impl_isCode _) ⟨rfl, trivial⟩ rfl rfl rfl rfl rfl (kGT rfl (kUn rfl rfl (kPickF rfl (kMovC rfl (kMovC rfl (kGN rfl (fun g1 => kGF rfl (kGF rfl (kGF rfl (kGF rfl (kPickT rfl (kMovC rfl (kMovC rfl (kGF rfl (kGF rfl (kGF rfl (kGF rfl (kGF rfl (kGF rfl (kGF rfl (kPickT rfl (kMovC rfl (kMovC rfl (kGF rfl (kGF rfl (kGF rfl (kGF rfl (kGF rfl (kGF rfl (kGF rfl (kPickT rfl (kMovC rfl (kDone (kCondT rfl (kSeq (kReg (kMovC rfl (kDone (kRet (endRetA (ra := [.one (.d _)]) rfl ?_)))))))))))))))))))))))))))))))))) (fun g1 => kGT rfl (kFadP rfl rfl (kGT rfl (kLoadP rfl rfl rfl (kGT rfl (kLen0 rfl (kGT rfl (kBin rfl rfl rfl (kPickF rfl (kMovC rfl (kMovC rfl (kGF rfl (kGF rfl (kGF rfl (kGF rfl (kGF rfl (kGF rfl (kGF rfl (kPickT rfl (kMovC rfl (kMovC rfl (kGF rfl (kGF rfl (kGF rfl (kGF rfl (kGF rfl (kGF rfl (kGF rfl (kPickT rfl (kMovC rfl (kDone (kCondT rfl (kSeq (kReg (kMovC rfl (kDone (kRet (endRetA (ra := [.one (.d _)]) rfl ?_)))))))))))))))))))))))))))))))))))))))))))))))))))))))))))))))
    all_goals
      refine congrArg (fun z : Bool => [RA.one (RV.d (DV.sc (Value.bool z)))]) ?_
      clear b1 b2 b3 b4 b5 b6
      simp only at *
      unfold msgMay
      rw [Bool.eq_iff_iff]
      constructor
      · intro e
        first
          | (cases e; done)
          | (simp_all; done)
          | (simp_all; omega)
      · intro e
        simp only [Bool.and_eq_true, decide_eq_true_eq] at e
        obtain ⟨⟨⟨⟨e1, e2⟩, ⟨e3, e4⟩, e5⟩, ⟨⟨⟨e6, e7⟩, e8⟩, e9⟩, e10⟩, e11⟩ := e
        first
          | omega
          | (simp_all; done)
          | (simp_all; omega)
  · have hl : [q].length = 1 := rfl
    have w0 : ({ id := id, reply := rp, op := op, auth := ah, code := cd, qs := [q], an := an, au := au, mo := mo, pr := pr, up := up } : Msg).an.length ≤ 4194304 := b2.len
    have w1 : ({ id := id, reply := rp, op := op, auth := ah, code := cd, qs := [q], an := an, au := au, mo := mo, pr := pr, up := up } : Msg).au.length ≤ 4194304 := b3.len
    have w2 : ({ id := id, reply := rp, op := op, auth := ah, code := cd, qs := [q], an := an, au := au, mo := mo, pr := pr, up := up } : Msg).mo.length ≤ 4194304 := b4.len
    have w3 : ({ id := id, reply := rp, op := op, auth := ah, code := cd, qs := [q], an := an, au := au, mo := mo, pr := pr, up := up } : Msg).pr.length ≤ 4194304 := b5.len
    have w4 : ({ id := id, reply := rp, op := op, auth := ah, code := cd, qs := [q], an := an, au := au, mo := mo, pr := pr, up := up } : Msg).up.length ≤ 4194304 := b6.len
    have hq := b1.mem q (List.mem_cons_self ..)
    have q1 := hq.len
    have q2 := hq.mem
    refine kSeq (kReg (kBox rfl rfl rfl rfl rfl (kMovC rfl (kDone (kSeq (kSeq (kReg (kFadP rfl rfl (kLoadP rfl rfl rfl (kCallD (ok_impl_within _ _ _) ⟨rfl, rfl, rfl, trivial⟩ rfl rfl rfl rfl rfl (kUn rfl rfl (kMovC rfl (kGN rfl (fun g0 => kGF rfl (kGF rfl (kGF rfl (kGF rfl (kPickT rfl (kMovC rfl (kMovC rfl (kGF rfl (kGF rfl (kGF rfl (kGF rfl (kPickT rfl (kMovC rfl (kMovC rfl (kGF rfl (kGF rfl (kGF rfl (kGF rfl (kGF rfl (kGF rfl (kGF rfl (kPickT rfl (kMovC rfl (kMovC rfl (kGF rfl (kGF rfl (kGF rfl (kGF rfl (kGF rfl (kGF rfl (kGF rfl (kPickT rfl (kMovC rfl (kDone (kCondT rfl (kSeq (kReg (kMovC rfl (kDone (kRet (endRetA (ra := [.one (.d _)]) rfl ?_))))))))))))))))))))))))))))))))))))))))) (fun g0 => kGT rfl (kFadP rfl rfl (kGT rfl (kLoadP rfl rfl rfl (kGT rfl (kCallD (ok_impl_isCode _) ⟨rfl, trivial⟩ rfl rfl rfl rfl rfl (kGT rfl (kUn rfl rfl (kPickF rfl (kMovC rfl (kMovC rfl (kGN rfl (fun g1 => kGF rfl (kGF rfl (kGF rfl (kGF rfl (kPickT rfl (kMovC rfl (kMovC rfl (kGF rfl (kGF rfl (kGF rfl (kGF rfl (kGF rfl (kGF rfl (kGF rfl (kPickT rfl (kMovC rfl (kMovC rfl (kGF rfl (kGF rfl (kGF rfl (kGF rfl (kGF rfl (kGF rfl (kGF rfl (kPickT rfl (kMovC rfl (kDone (kCondT rfl (kSeq (kReg (kMovC rfl (kDone (kRet (endRetA (ra := [.one (.d _)]) rfl ?_)))))))))))))))))))))))))))))))))) (fun g1 => kGT rfl (kFadP rfl rfl (kGT rfl (kLoadP rfl rfl rfl (kGT rfl (kLenR rfl rfl (kGT rfl (kBin rfl rfl rfl (kPickF rfl (kMovC rfl (kMovC rfl (kGT rfl (kFadP rfl rfl (kGT rfl (kLoadP rfl rfl rfl (kGT rfl (kIadR (m := 0) rfl rfl rfl (by first | omega | (simp only [List.length_append, List.length_cons, List.length_nil]; omega)) (kGT rfl (kFadD rfl (kGT rfl (kLoadD rfl rfl (kGT rfl (kCallD (ok_impl_NameOk _ (by first | assumption | omega | solve_by_elim [List.getElem_mem] | (simp only [List.length_append, w2_len, w4_len]; omega) | (simp only [szOut] at *; omega) | exact rfl | exact leb | exact rrOk_small (by assumption) | exact zoneOk_small (by assumption) | exact SmallBB.ok (by assumption) | exact (SmallBB.ok (by assumption)).len | exact (SmallBB.ok (by assumption)).mem | exact SmallBB.bent (by assumption)) (by first | assumption | omega | solve_by_elim [List.getElem_mem] | (simp only [List.length_append, w2_len, w4_len]; omega) | (simp only [szOut] at *; omega) | exact rfl | exact leb | exact rrOk_small (by assumption) | exact zoneOk_small (by assumption) | exact SmallBB.ok (by assumption) | exact (SmallBB.ok (by assumption)).len | exact (SmallBB.ok (by assumption)).mem | exact SmallBB.bent (by assumption))) ⟨⟨⟨rfl, trivial⟩, leb⟩, trivial⟩ rfl rfl rfl rfl rfl (kGT rfl (kUn rfl rfl (kPickF rfl (kMovC rfl (kMovC rfl (kGN rfl (fun g2 => kGF rfl (kGF rfl (kGF rfl (kGF rfl (kGF rfl (kGF rfl (kGF rfl (kPickT rfl (kMovC rfl (kDone (kCondT rfl (kSeq (kReg (kMovC rfl (kDone (kRet (endRetA (ra := [.one (.d _)]) rfl ?_))))))))))))))))) (fun g2 => kGT rfl (kFadP rfl rfl (kGT rfl (kLoadP rfl rfl rfl (kGT rfl (kIadR (m := 0) rfl rfl rfl (by first | omega | (simp only [List.length_append, List.length_cons, List.length_nil]; omega)) (kGT rfl (kFadD rfl (kGT rfl (kLoadD rfl rfl (kGT rfl (kCallD (ok_impl_isAsked _) ⟨rfl, trivial⟩ rfl rfl rfl rfl rfl (kGT rfl (kUn rfl rfl (kPickF rfl (kMovC rfl (kDone (kCondN rfl (fun g3 => kSeq (kReg (kMovC rfl (kDone (kRet (endRetA (ra := [.one (.d _)]) rfl ?_)))))) (fun g3 => kSkip (kSeq (kSeq (kReg (kFadP rfl rfl (kLoadP rfl rfl rfl (kCallD (ok_impl_areRrs _ (by first | assumption | omega | solve_by_elim [List.getElem_mem] | (simp only [List.length_append, w2_len, w4_len]; omega) | (simp only [szOut] at *; omega) | exact rfl | exact leb | exact rrOk_small (by assumption) | exact zoneOk_small (by assumption) | exact SmallBB.ok (by assumption) | exact (SmallBB.ok (by assumption)).len | exact (SmallBB.ok (by assumption)).mem | exact SmallBB.bent (by assumption))) ⟨rfl, trivial⟩ rfl rfl rfl rfl rfl (kUn rfl rfl (kMovC rfl (kGN rfl (fun g4 => kGF rfl (kGF rfl (kGF rfl (kGF rfl (kPickT rfl (kMovC rfl (kMovC rfl (kGF rfl (kGF rfl (kGF rfl (kGF rfl (kPickT rfl (kMovC rfl (kMovC rfl (kGF rfl (kGF rfl (kGF rfl (kGF rfl (kPickT rfl (kMovC rfl (kMovC rfl (kGF rfl (kGF rfl (kGF rfl (kGF rfl (kPickT rfl (kMovC rfl (kDone (kCondT rfl (kSeq (kReg (kMovC rfl (kDone (kRet (endRetA (ra := [.one (.d _)]) rfl ?_))))))))))))))))))))))))))))))))))) (fun g4 => kGT rfl (kFadP rfl rfl (kGT rfl (kLoadP rfl rfl rfl (kGT rfl (kCallD (ok_impl_areRrs _ (by first | assumption | omega | solve_by_elim [List.getElem_mem] | (simp only [List.length_append, w2_len, w4_len]; omega) | (simp only [szOut] at *; omega) | exact rfl | exact leb | exact rrOk_small (by assumption) | exact zoneOk_small (by assumption) | exact SmallBB.ok (by assumption) | exact (SmallBB.ok (by assumption)).len | exact (SmallBB.ok (by assumption)).mem | exact SmallBB.bent (by assumption))) ⟨rfl, trivial⟩ rfl rfl rfl rfl rfl (kGT rfl (kUn rfl rfl (kPickF rfl (kMovC rfl (kMovC rfl (kGN rfl (fun g5 => kGF rfl (kGF rfl (kGF rfl (kGF rfl (kPickT rfl (kMovC rfl (kMovC rfl (kGF rfl (kGF rfl (kGF rfl (kGF rfl (kPickT rfl (kMovC rfl (kMovC rfl (kGF rfl (kGF rfl (kGF rfl (kGF rfl (kPickT rfl (kMovC rfl (kDone (kCondT rfl (kSeq (kReg (kMovC rfl (kDone (kRet (endRetA (ra := [.one (.d _)]) rfl ?_)))))))))))))))))))))))))))) (fun g5 => kGT rfl (kFadP rfl rfl (kGT rfl (kLoadP rfl rfl rfl (kGT rfl (kCallD (ok_impl_areRrs _ (by first | assumption | omega | solve_by_elim [List.getElem_mem] | (simp only [List.length_append, w2_len, w4_len]; omega) | (simp only [szOut] at *; omega) | exact rfl | exact leb | exact rrOk_small (by assumption) | exact zoneOk_small (by assumption) | exact SmallBB.ok (by assumption) | exact (SmallBB.ok (by assumption)).len | exact (SmallBB.ok (by assumption)).mem | exact SmallBB.bent (by assumption))) ⟨rfl, trivial⟩ rfl rfl rfl rfl rfl (kGT rfl (kUn rfl rfl (kPickF rfl (kMovC rfl (kMovC rfl (kGN rfl (fun g6 => kGF rfl (kGF rfl (kGF rfl (kGF rfl (kPickT rfl (kMovC rfl (kMovC rfl (kGF rfl (kGF rfl (kGF rfl (kGF rfl (kPickT rfl (kMovC rfl (kDone (kCondT rfl (kSeq (kReg (kMovC rfl (kDone (kRet (endRetA (ra := [.one (.d _)]) rfl ?_))))))))))))))))))))) (fun g6 => kGT rfl (kFadP rfl rfl (kGT rfl (kLoadP rfl rfl rfl (kGT rfl (kCallD (ok_impl_areWants _ (by first | assumption | omega | solve_by_elim [List.getElem_mem] | (simp only [List.length_append, w2_len, w4_len]; omega) | (simp only [szOut] at *; omega) | exact rfl | exact leb | exact rrOk_small (by assumption) | exact zoneOk_small (by assumption) | exact SmallBB.ok (by assumption) | exact (SmallBB.ok (by assumption)).len | exact (SmallBB.ok (by assumption)).mem | exact SmallBB.bent (by assumption))) ⟨rfl, trivial⟩ rfl rfl rfl rfl rfl (kGT rfl (kUn rfl rfl (kPickF rfl (kMovC rfl (kMovC rfl (kGN rfl (fun g7 => kGF rfl (kGF rfl (kGF rfl (kGF rfl (kPickT rfl (kMovC rfl (kDone (kCondT rfl (kSeq (kReg (kMovC rfl (kDone (kRet (endRetA (ra := [.one (.d _)]) rfl ?_)))))))))))))) (fun g7 => kGT rfl (kFadP rfl rfl (kGT rfl (kLoadP rfl rfl rfl (kGT rfl (kCallD (ok_impl_areWants _ (by first | assumption | omega | solve_by_elim [List.getElem_mem] | (simp only [List.length_append, w2_len, w4_len]; omega) | (simp only [szOut] at *; omega) | exact rfl | exact leb | exact rrOk_small (by assumption) | exact zoneOk_small (by assumption) | exact SmallBB.ok (by assumption) | exact (SmallBB.ok (by assumption)).len | exact (SmallBB.ok (by assumption)).mem | exact SmallBB.bent (by assumption))) ⟨rfl, trivial⟩ rfl rfl rfl rfl rfl (kGT rfl (kUn rfl rfl (kPickF rfl (kMovC rfl (kDone (kCondN rfl (fun g8 => kSeq (kReg (kMovC rfl (kDone (kRet (endRetA (ra := [.one (.d _)]) rfl ?_)))))) (fun g8 => kSkip (kSeq (kSeq (kReg (kFadP rfl rfl (kLoadP rfl rfl rfl (kDone (kBlock (kSeq (kReg (kBin rfl rfl rfl (kMovC rfl (kDone (kCondP rfl (fun g9 => kSeq (kReg (kFadP rfl rfl (kLoadP rfl rfl rfl (kLenR rfl rfl (kFadP rfl rfl (kLoadP rfl rfl rfl (kLenR rfl rfl (kAdd rfl rfl (by omega) (kBin rfl rfl rfl (kMovC rfl (kDone (kRet (endRetA (ra := [.one (.d _)]) rfl ?_)))))))))))))) (fun g9 => kSeq (kReg (kBin rfl rfl rfl (kMovC rfl (kDone (kCondP rfl (fun g10 => kSeq (kReg (kFadP rfl rfl (kLoadP rfl rfl rfl (kIadR (m := 0) rfl rfl rfl (by first | omega | (simp only [List.length_append, List.length_cons, List.length_nil]; omega)) (kFadD rfl (kLoadD rfl rfl (kBin rfl rfl rfl (kMovC rfl (kGP rfl (fun g11 => kGT rfl (kFadP rfl rfl (kGT rfl (kLoadP rfl rfl rfl (kGT rfl (kLenR rfl rfl (kGT rfl (kFadP rfl rfl (kGT rfl (kLoadP rfl rfl rfl (kGT rfl (kLenR rfl rfl (kGT rfl (kAdd rfl rfl (by omega) (kGT rfl (kFadP rfl rfl (kGT rfl (kLoadP rfl rfl rfl (kGT rfl (kLenR rfl rfl (kGT rfl (kAdd rfl rfl (by omega) (kGT rfl (kBin rfl rfl rfl (kPickT rfl (kMovC rfl (kMovC rfl (kDone (kRet (endRetA (ra := [.one (.d _)]) rfl ?_)))))))))))))))))))))))))))))) (fun g11 => kGF rfl (kGF rfl (kGF rfl (kGF rfl (kGF rfl (kGF rfl (kGF rfl (kGF rfl (kGF rfl (kGF rfl (kGF rfl (kGF rfl (kPickF rfl (kMovC rfl (kMovC rfl (kDone (kRet (endRetA (ra := [.one (.d _)]) rfl ?_)))))))))))))))))))))))))))) (fun g10 => kSkip (kBk (kSeq (kReg (kMovC rfl (kDone (kRet (endRetA (ra := [.one (.d _)]) rfl ?_))))))))))))))))))))))))))))))))))))))))))))))))))))))))))))))))))))))))))))))))))))))))))))))))))))))))))))))))))))))))))))))))))))))))))))))))))))))))))))))
    all_goals
      refine congrArg (fun z : Bool => [RA.one (RV.d (DV.sc (Value.bool z)))]) ?_
      clear b1 b2 b3 b4 b5 b6
      simp only at *
      unfold msgMay
      rw [Bool.eq_iff_iff]
      constructor
      · intro e
        first
          | (cases e; done)
          | (simp_all; done)
          | (simp_all; omega)
          | (have e := eq_of_beq e
             have hp : pr = [] := List.eq_nil_of_length_eq_zero (by omega)
             have hu : up = [] := List.eq_nil_of_length_eq_zero (by omega)
             subst hp hu; simp_all; done)
          | (have e := eq_of_beq e
             have ha : an = [] := List.eq_nil_of_length_eq_zero (by omega)
             have hb : au = [] := List.eq_nil_of_length_eq_zero (by omega)
             have hc : mo = [] := List.eq_nil_of_length_eq_zero (by omega)
             subst ha hb hc; simp_all; done)
      · intro e
        simp only [Bool.and_eq_true, decide_eq_true_eq] at e
        obtain ⟨⟨⟨⟨e1, e2⟩, ⟨e3, e4⟩, e5⟩, ⟨⟨⟨e6, e7⟩, e8⟩, e9⟩, e10⟩, e11⟩ := e
        first
          | omega
          | (simp_all; done)
          | (simp_all; omega)
  · have hl : (q :: q2 :: qs).length = qs.length + 2 := rfl
    have w0 : ({ id := id, reply := rp, op := op, auth := ah, code := cd, qs := q :: q2 :: qs, an := an, au := au, mo := mo, pr := pr, up := up } : Msg).an.length ≤ 4194304 := b2.len
    have w1 : ({ id := id, reply := rp, op := op, auth := ah, code := cd, qs := q :: q2 :: qs, an := an, au := au, mo := mo, pr := pr, up := up } : Msg).au.length ≤ 4194304 := b3.len
    have w2 : ({ id := id, reply := rp, op := op, auth := ah, code := cd, qs := q :: q2 :: qs, an := an, au := au, mo := mo, pr := pr, up := up } : Msg).mo.length ≤ 4194304 := b4.len
    have w3 : ({ id := id, reply := rp, op := op, auth := ah, code := cd, qs := q :: q2 :: qs, an := an, au := au, mo := mo, pr := pr, up := up } : Msg).pr.length ≤ 4194304 := b5.len
    have w4 : ({ id := id, reply := rp, op := op, auth := ah, code := cd, qs := q :: q2 :: qs, an := an, au := au, mo := mo, pr := pr, up := up } : Msg).up.length ≤ 4194304 := b6.len
    refine kSeq (kReg (kBox rfl rfl rfl rfl rfl (kMovC rfl (kDone (kSeq (kSeq (kReg (kFadP rfl rfl (kLoadP rfl rfl rfl (kCallD (ok_impl_within _ _ _) ⟨rfl, rfl, rfl, trivial⟩ rfl rfl rfl rfl rfl (kUn rfl rfl (kMovC rfl (kGN rfl (fun g0 => kGF rfl (kGF rfl (kGF rfl (kGF rfl (kPickT rfl (kMovC rfl (kMovC rfl (kGF rfl (kGF rfl (kGF rfl (kGF rfl (kPickT rfl (kMovC rfl (kMovC rfl (kGF rfl (kGF rfl (kGF rfl (kGF rfl (kGF rfl (kGF rfl (kGF rfl (kPickT rfl (kMovC rfl (kMovC rfl (kGF rfl (kGF rfl (kGF rfl (kGF rfl (kGF rfl (kGF rfl (kGF rfl (kPickT rfl (kMovC rfl (kDone (kCondT rfl (kSeq (kReg (kMovC rfl (kDone (kRet (endRetA (ra := [.one (.d _)]) rfl ?_))))))))))))))))))))))))))))))))))))))))) (fun g0 => kGT rfl (kFadP rfl rfl (kGT rfl (kLoadP rfl rfl rfl (kGT rfl (kCallD (ok_impl_isCode _) ⟨rfl, trivial⟩ rfl rfl rfl rfl rfl (kGT rfl (kUn rfl rfl (kPickF rfl (kMovC rfl (kMovC rfl (kGN rfl (fun g1 => kGF rfl (kGF rfl (kGF rfl (kGF rfl (kPickT rfl (kMovC rfl (kMovC rfl (kGF rfl (kGF rfl (kGF rfl (kGF rfl (kGF rfl (kGF rfl (kGF rfl (kPickT rfl (kMovC rfl (kMovC rfl (kGF rfl (kGF rfl (kGF rfl (kGF rfl (kGF rfl (kGF rfl (kGF rfl (kPickT rfl (kMovC rfl (kDone (kCondT rfl (kSeq (kReg (kMovC rfl (kDone (kRet (endRetA (ra := [.one (.d _)]) rfl ?_)))))))))))))))))))))))))))))))))) (fun g1 => kGT rfl (kFadP rfl rfl (kGT rfl (kLoadP rfl rfl rfl (kGT rfl (kLenR rfl rfl (kGT rfl (kBin rfl rfl rfl (kPickF rfl (kMovC rfl (kMovC rfl (kGF rfl (kGF rfl (kGF rfl (kGF rfl (kGF rfl (kGF rfl (kGF rfl (kPickT rfl (kMovC rfl (kMovC rfl (kGF rfl (kGF rfl (kGF rfl (kGF rfl (kGF rfl (kGF rfl (kGF rfl (kPickT rfl (kMovC rfl (kDone (kCondT rfl (kSeq (kReg (kMovC rfl (kDone (kRet (endRetA (ra := [.one (.d _)]) rfl ?_)))))))))))))))))))))))))))))))))))))))))))))))))))))))))))))))
    all_goals
      refine congrArg (fun z : Bool => [RA.one (RV.d (DV.sc (Value.bool z)))]) ?_
      clear b1 b2 b3 b4 b5 b6
      simp only at *
      unfold msgMay
      rw [Bool.eq_iff_iff]
      constructor
      · intro e
        first
          | (cases e; done)
          | (simp_all; done)
          | (simp_all; omega)
      · intro e
        simp only [Bool.and_eq_true, decide_eq_true_eq] at e
        obtain ⟨⟨⟨⟨e1, e2⟩, ⟨e3, e4⟩, e5⟩, ⟨⟨⟨e6, e7⟩, e8⟩, e9⟩, e10⟩, e11⟩ := e
        first
          | omega
          | (simp_all; done)
          | (simp_all; omega)

def c_impl_two : C := (.seq (.reg false (.o 0 2 (.mov (.n 1)) .done)) (.seq (.reg false (.o 0 3 (.mov (.t 0)) (.o 1 4 (.bin .shr (.t 3) (.v (.int .u64 8))) (.o 2 5 (.conv .u8 (.t 4)) (.o 3 6 (.mov (.t 0)) (.o 4 7 (.conv .u8 (.t 6)) (.o 5 8 (.lit 8 1 [(.v (.int .u8 0))] 2 [(0, 1, (.t 5)), (1, 1, (.t 7))]) (.o 6 2 (.mov (.t 8)) .done)))))))) .ret))
theorem dg_impl_two : Tryz.f286.body.bind (digC Tryz.prog Tryz.f286.ntmps []) = some c_impl_two := by kernel_rfl
theorem rs_impl_two : resSlots Tryz.prog Tryz.f286 = some [.s 2] := by kernel_rfl
theorem ok_impl_two (n : Int) :
    FnOK Tryz.prog 286 [.one (.d (.sc (.int .i64 n)))] (fun ra _ => ra = [.one (.own true (encB (w2 n)))]) := by
  refine FnOK.ofK Tryz.func286 (by kernel_rfl) dg_impl_two rs_impl_two rfl rfl ?_
  delta c_impl_two T.o X.i
  refine kSeq (kReg (kMovC rfl (kDone (kSeq (kReg (kMovC rfl (kShr (m := 8) rfl rfl rfl (kConvU8 rfl (kMovC rfl (kConvU8 rfl (kLit rfl rfl rfl rfl (kMovC rfl (kDone (kRet (endRetA (ra := [.one (.own true _)]) rfl rfl)))))))))))))))

def c_impl_Name_wire : C := (.seq (.reg false (.o 0 1 (.box 1 (.t 0)) (.o 1 2 (.mov (.n 1)) .done))) (.seq (.reg false (.o 0 6 (.lit 6 1 [(.v (.int .u8 0))] 0 []) (.o 1 3 (.mov (.t 6)) .done))) (.seq (.seq (.reg false (.o 0 7 (.fad (.t 1) 0) (.o 1 8 (.load none (.t 7)) (.o 2 9 (.len (.t 8)) (.o 3 10 (.mov (.i 0)) .done))))) (.block 0 (.loop (.seq (.reg false (.o 0 11 (.bin .lss (.t 10) (.t 9)) .done)) (.seq (.cond (.t 11) .skip (.exit 0)) (.seq (.block 1 (.seq (.reg false (.o 0 12 (.iad 1 (.t 8) (.t 10)) (.o 1 13 (.load none (.t 12)) (.o 2 5 (.mov (.t 13)) .done)))) (.reg false (.o 0 14 (.mov (.t 3)) (.o 1 15 (.mov (.t 5)) (.o 2 16 (.len (.t 15)) (.o 3 17 (.conv .u8 (.t 16)) (.o 4 18 (.lit 18 1 [(.v (.int .u8 0))] 1 [(0, 1, (.t 17))]) (.o 5 19 (.app 19 1 1 (.t 14) (.t 18)) (.o 6 20 (.mov (.t 5)) (.o 7 21 (.app 21 1 1 (.t 19) (.t 20)) (.o 8 3 (.mov (.t 21)) .done)))))))))))) (.reg false (.o 0 22 (.bin .add (.t 10) (.i 1)) (.o 1 10 (.mov (.t 22)) .done))))))))) (.seq (.reg false (.o 0 23 (.mov (.t 3)) (.o 1 24 (.lit 24 1 [(.v (.int .u8 0))] 1 [(0, 1, (.v (.int .u8 0)))]) (.o 2 25 (.app 25 1 1 (.t 23) (.t 24)) (.o 3 2 (.mov (.t 25)) .done))))) .ret))))
theorem dg_impl_Name_wire : Tryz.f266.body.bind (digC Tryz.prog Tryz.f266.ntmps []) = some c_impl_Name_wire := by kernel_rfl
theorem rs_impl_Name_wire : resSlots Tryz.prog Tryz.f266 = some [.s 2] := by kernel_rfl
theorem ok_impl_Name_wire (a : List (List UInt8)) (hs : SmallBB a) :
    FnOK Tryz.prog 266 [.agg [.d (encBB a)]] (fun ra _ => ra = [.one (.own true (encB (wireN a)))]) := by
  refine FnOK.ofK Tryz.func266 (by kernel_rfl) dg_impl_Name_wire rs_impl_Name_wire rfl rfl ?_
  delta c_impl_Name_wire T.o X.i
  have h1 := hs.len
  have h2 := hs.flat
  refine kSeq (kReg (kBox rfl rfl rfl rfl rfl (kMovC rfl (kDone (kSeq (kReg (kLit rfl rfl rfl rfl (kMovC rfl (kDone (kSeq (kSeq (kReg (kFadP rfl rfl (kLoadP rfl rfl rfl (kLenR rfl rfl (kMovC rfl (kDone (kBlock ?_))))))))))))))))))
  refine kLoop (α := { i : Nat // i ≤ a.length }) (fun y => ⟨tabSl [(3, .c (.arr (rid 6 0) 1)), (8, .dv (encBB a)), (9, .i a.length), (10, .i y.1)], obTab 1 [(rid 6 0, ⟨1, 0, .arr true (encB (wireL (a.take y.1)))⟩)], []⟩) (fun y => a.length - y.1) ⟨0, by simp⟩ .normA ?_
  rintro ⟨i, hi⟩
  simp only
  have hl := wireL_le a i
  rcases Nat.lt_or_ge i a.length with hlt | hge
  · have hst := wireL_take a i hlt
    have hm := hs.mem _ (List.getElem_mem hlt)
    have hlen : (wireL (a.take i) ++ [u8 a[i].length]).length = (wireL (a.take i)).length + 1 := by simp
    refine kSeq (kReg (kBin rfl rfl rfl (kDone (kSeq (kCondP rfl (fun g0 => kSkip (kSeq (kBlock (kSeq (kReg (kIadR rfl rfl rfl (by omega) (kLoadD rfl rfl (kMovC rfl (kDone (kReg (kMovC rfl (kMovC rfl (kLenR rfl rfl (kConvU8 rfl (kLit rfl rfl rfl rfl (kAppR1 rfl rfl rfl rfl rfl rfl rfl rfl (by omega) (kMovC rfl (kAppR rfl rfl rfl (src_encB _ _) rfl rfl rfl rfl (by omega) (kMovC rfl (kDone (kBk (kReg (kAdd rfl rfl (by omega) (kMovC rfl (kDone ?_))))))))))))))))))))))))) (fun g0 => (by omega)))))))
    refine kInv ⟨⟨i + 1, by omega⟩, by simp only; omega, ?_⟩
    simp only [hst]
    exact .normA
  · have he : wireN a = wireL (a.take i) ++ [0] := by rw [show i = a.length by omega, List.take_length]; rfl
    rw [he]
    refine kSeq (kReg (kBin rfl rfl rfl (kDone (kSeq (kCondP rfl (fun g0 => (by omega)) (fun g0 => kExit (kExC (kExI (kExB (kSeq (kReg (kMovC rfl (kLit rfl rfl rfl rfl (kAppR1 (z := (0 : UInt8)) rfl rfl rfl rfl rfl rfl rfl rfl (by omega) (kMovC rfl (kDone (kRet (endRetA (ra := [.one (.own true _)]) rfl rfl))))))))))))))))))

end Go.Proofs.YtbmagbgdpmgbmaaGreat.FnExactReplyToFn
